/- Texts joined: Pn V6 Po Pl. -/
import Derived.Test.YtpojijnjdlnokaaM11
import Derived.OrdersHeld
/- Layer 13: what a task is; whether it is right. -/
namespace Go.Proofs.Ytpojijnjdlnokaa
open Go.RowKit
set_option linter.unusedVariables false

/-- a task's value -/
structure TaskV where
  n : Int
  m : Int
  b : Int
  AL : Option Addr
  ll : Nat
  lc : Nat
  AW : Option Addr
  wl : Nat
  wc : Nat
  AV : Option Addr
  vl : Nat
  vc : Nat
def TaskV.cells (d : TaskV) : List Value := [.int .i64 d.n, .int .i64 d.m, .int .i64 d.b, .slice d.AL d.ll d.lc, .slice d.AW d.wl d.wc, .slice d.AV d.vl d.vc]
/-- what it tells of -/
structure TaskP where
  n : Int
  m : Int
  b : Int
  lens : List Int
  worths : List Int
  ws : List Int
structure TaskOk (w : World) (d : TaskV) (q : TaskP) : Prop where
  L : Rd w .i64 d.AL q.lens
  W : Rd w .i64 d.AW q.worths
  V : Rd w .i64 d.AV q.ws
  ll : d.ll = q.lens.length
  wl : d.wl = q.worths.length
  vl : d.vl = q.ws.length
  bl : d.ll ≤ 20000000000000
  bw : d.wl ≤ 20000000000000
  bv : d.vl ≤ 20000000000000
  n : d.n = q.n
  m : d.m = q.m
  b : d.b = q.b
  iN : I64 q.n ∧ I64 q.m ∧ I64 q.b
  iL : AllI q.lens
  iW : AllI q.worths
  iV : AllI q.ws
theorem TaskOk.keep {w w' d q} (h : TaskOk w d q) (hb : Below w.heap.size w w') : TaskOk w' d q := { h with L := h.L.keep hb, W := h.W.keep hb, V := h.V.keep hb }
theorem TaskOk.led {w w' d q} (h : TaskOk w d q) (hb : LeD w w') : TaskOk w' d q := h.keep (led_below hb)

def outB (most z : Int) : Bool := decide (z < 0) || decide (most < z)
def taskB (q : TaskP) : Bool := rightB q.n q.m q.b && (decide (1 ≤ q.lens.length ∧ q.lens.length ≤ 8) && (decide (q.worths.length = q.lens.length) && (!(q.lens.any (outB 65535)) && (!(q.worths.any (outB 1048576)) && wrightB q.n q.ws))))

theorem pn_out_fn (z most : Int) (p : Nat) (w : World) (hB : Bk w p [.int .i64 most] 3) : Gives Try.prog 103 #[.int .i64 z, .pointer (some ⟨p, 0, none⟩)] w fun v w' => v = .bool (outB most z) ∧ w' = w := by
  refine gives_enter Try.call103 Try.func103 rfl rfl rfl (by kernel_rfl) ?_
  by_cases h : z < 0
  · refine v_seq ?_
    refine v_region ?_
    refine vl_val (os_assign rfl) ?_
    refine vl_nil ?_
    refine v_seq ?_
    refine v_region ?_
    refine vl_val (os_move rfl) ?_
    refine vl_val (os_t (os_lss rfl rfl) (by omega)) ?_
    refine vl_val (os_move rfl) ?_
    refine vl_skip rfl rfl ?_
    refine vl_skip rfl rfl ?_
    refine vl_skip rfl rfl ?_
    refine vl_val (os_pick_t rfl rfl) ?_
    refine vl_val (os_assign rfl) ?_
    refine vl_nil ?_
    refine v_ret ?_
    exact post_ret rfl rfl (⟨by simp [outB, h], rfl⟩)
  · refine v_seq ?_
    refine v_region ?_
    refine vl_val (os_assign rfl) ?_
    refine vl_nil ?_
    refine v_seq ?_
    refine v_region ?_
    refine vl_val (os_move rfl) ?_
    refine vl_val (os_f (os_lss rfl rfl) (by omega)) ?_
    refine vl_val (os_move rfl) ?_
    refine vl_valg rfl (os_move rfl) ?_
    refine vl_valg rfl (os_load Try.isAgg3 rfl (hB.cell (i := 0) rfl)) ?_
    refine vl_valg rfl (os_gtr rfl rfl) ?_
    refine vl_val (os_pick_f rfl rfl) ?_
    refine vl_val (os_assign rfl) ?_
    refine vl_nil ?_
    refine v_ret ?_
    exact post_ret rfl rfl (⟨by simp [outB, h], rfl⟩)
theorem pn_Index (A : Option Addr) (n c p : Nat) (most : Int) (zs : List Int) (w : World) (hB : Bk w p [.int .i64 most] 3) (ha : Rd w .i64 A zs) (hn : n = zs.length) (hn' : n ≤ 20000000000000) :
    Gives Try.prog 102 #[.slice A n c, .func (.func 103) #[] #[.pointer (some ⟨p, 0, none⟩)]] w fun v w' => (∃ i : Int, v = .int .i64 i ∧ ((i = -1 ∧ zs.any (outB most) = false) ∨ (0 ≤ i ∧ zs.any (outB most) = true))) ∧ w' = w := by
  refine gives_enter Try.call102 Try.func102 rfl rfl rfl (by kernel_rfl) ?_
  refine v_seq ?_
  refine v_region ?_
  refine vl_val (os_assign rfl) ?_
  refine vl_nil ?_
  refine v_seq ?_
  refine v_seq ?_
  refine v_region ?_
  refine vl_val (os_move rfl) ?_
  refine vl_val (os_len Try.underlying40 rfl) ?_
  refine vl_val (os_move rfl) ?_
  refine vl_nil ?_
  refine v_block ?_
  refine v_loop [(0, _), (1, _), (7, _)] (fun (k : Nat) => [(8, .int .i64 k)]) (fun k w' => k ≤ n ∧ (∀ i, i < k → outB most (zs.getD i 0) = false) ∧ w' = w) (fun k => n - k) (0) ⟨rfl, rfl, rfl, trivial⟩ ⟨rfl, trivial⟩ (⟨by omega, (by intro i hi; omega), rfl⟩) ?_
  rintro k w ⟨hk, hp, rfl⟩
  refine v_seq ?_
  refine v_region ?_
  refine vl_val (os_lss rfl rfl) ?_
  refine vl_nil ?_
  refine v_seq ?_
  refine v_cond_d rfl (fun h => ?_) (fun h => ?_)
  · obtain ⟨b, o, rfl, h1⟩ := ha.at_ (i := k) (by omega)
    refine v_skip ?_
    refine v_seq ?_
    refine v_block ?_
    refine v_seq ?_
    refine v_region ?_
    refine vl_val (os_move rfl) ?_
    refine vl_val (os_assign rfl) ?_
    refine vl_nil ?_
    refine v_seq ?_
    refine v_region ?_
    refine vl_val (os_move rfl) ?_
    refine vl_val (os_move rfl) ?_
    refine vl_val (os_move rfl) ?_
    refine vl_val (os_ix Try.underlying40 Try.sizeOf3 rfl rfl (i := k) (by omega) (by omega)) ?_
    refine vl_val (os_load Try.isAgg3 rfl (h1)) ?_
    refine vl_callv rfl (pn_out_fn (zs.getD k 0) most p w hB) rfl ?_
    rintro v w ⟨rfl, rfl⟩
    refine vl_nil ?_
    refine v_cond rfl (fun hne => ?_) (fun hne => ?_)
    · refine v_seq ?_
      refine v_region ?_
      refine vl_val (os_move rfl) ?_
      refine vl_val (os_assign rfl) ?_
      refine vl_nil ?_
      refine v_ret ?_
      exact post_ret rfl rfl (⟨⟨k, rfl, .inr ⟨by omega, List.any_eq_true.2 ⟨zs.getD k 0, by simp [show k < zs.length by omega], hne⟩⟩⟩, rfl⟩)
    · refine v_skip ?_
      refine v_region ?_
      refine vl_val (os_addi rfl rfl (by omega)) ?_
      refine vl_val (os_move rfl) ?_
      refine vl_nil ?_
      exact ⟨k + 1, ⟨rfl, rfl, rfl, trivial⟩, ⟨rfl, trivial⟩, ⟨by omega, (by intro i hi; by_cases hik : i < k; exact hp i hik; obtain rfl : i = k := (by omega); simpa using hne), rfl⟩, by dsimp only; omega⟩
  · obtain rfl : n = k := by omega
    refine v_exit ?_
    refine v_seq ?_
    refine v_region ?_
    refine vl_val (os_assign rfl) ?_
    refine vl_nil ?_
    refine v_ret ?_
    exact post_ret rfl rfl (⟨⟨-1, rfl, .inl ⟨rfl, List.any_eq_false.2 fun l hl => by obtain ⟨i, hi, rfl⟩ := List.getElem_of_mem hl; have := hp i (by omega); simpa [hi] using this⟩⟩, rfl⟩)
theorem pn_Contains (A : Option Addr) (n c p : Nat) (most : Int) (zs : List Int) (w : World) (hB : Bk w p [.int .i64 most] 3) (ha : Rd w .i64 A zs) (hn : n = zs.length) (hn' : n ≤ 20000000000000) :
    Gives Try.prog 68 #[.slice A n c, .func (.func 103) #[] #[.pointer (some ⟨p, 0, none⟩)]] w fun v w' => v = .bool (zs.any (outB most)) ∧ w' = w := by
  refine gives_enter Try.call68 Try.func68 rfl rfl rfl (by kernel_rfl) ?_
  refine v_seq ?_
  refine v_region ?_
  refine vl_val (os_assign rfl) ?_
  refine vl_nil ?_
  refine v_seq ?_
  refine v_region ?_
  refine vl_val (os_move rfl) ?_
  refine vl_val (os_move rfl) ?_
  refine vl_call (pn_Index A n c p most zs w hB ha hn hn') rfl ?_
  rintro v w ⟨⟨i, rfl, hi⟩, rfl⟩
  refine vl_val (os_geq rfl rfl) ?_
  refine vl_val (os_assign rfl) ?_
  refine vl_nil ?_
  refine v_ret ?_
  exact post_ret rfl rfl (⟨by rcases hi with ⟨rfl, h⟩ | ⟨h0, h⟩; (rw [decide_eq_false (by omega), h]); (rw [decide_eq_true (by omega), h]), rfl⟩)
/-- a closure that asks whether a number is outside -/
def IsOut (most : Int) : Fact := fun v w => ∃ p, v = .func (.func 103) #[] #[.pointer (some ⟨p, 0, none⟩)] ∧ Bk w p [.int .i64 most] 3
theorem isOut_stable (most : Int) : Stable LeG (IsOut most) := fun v w w' h ⟨p, e, hB⟩ => ⟨p, e, hB.keep h⟩
theorem pn_outside (most : Int) (w : World) : Gives Try.prog 69 #[.int .i64 most] w fun v w' => LeG w w' ∧ IsOut most v w' := by
  refine gives_enter Try.call69 Try.func69 rfl rfl rfl (by kernel_rfl) ?_
  refine v_seq ?_
  refine v_region ?_
  refine vl_val (os_box rfl) ?_
  refine vl_val (os_assign rfl) ?_
  refine vl_nil ?_
  refine v_seq ?_
  refine v_region ?_
  refine vl_val (os_makeFunc rfl) ?_
  refine vl_val (os_assign rfl) ?_
  refine vl_nil ?_
  refine v_ret ?_
  exact post_ret rfl rfl (⟨(Below.refl _ _).alloc (Nat.le_refl _) _, _, rfl, bk_new w [.int .i64 most] 3⟩)

set_option maxHeartbeats 2000000 in
theorem pn_Right (d : TaskV) (q : TaskP) (w : World) (hd : TaskOk w d q) : Gives Try.prog 35 #[.agg d.cells.toArray] w fun v w' => v = .bool (taskB q) ∧ Below w.heap.size w w' := by
  have hB := bk_new w d.cells 44
  have hb0 : Below w.heap.size w (w.alloc (.cells d.cells.toArray 44)) := (Below.refl _ w).alloc (Nat.le_refl _) _
  obtain ⟨hL, hW, hV, ll, wl, vl, bl, bw, bv, en, em, eb, iN, iL, iW, iV⟩ := hd
  refine gives_enter Try.call35 Try.func35 rfl rfl rfl (by kernel_rfl) ?_
  cases c0 : rightB d.n d.m d.b
  · refine v_seq ?_
    refine v_region ?_
    refine vl_val (os_box rfl) ?_
    refine vl_val (os_assign rfl) ?_
    refine vl_nil ?_
    refine v_seq ?_
    refine v_seq ?_
    refine v_region ?_
    refine vl_val (os_fa (o := 3) (k := 0) (by kernel_rfl) rfl) ?_
    refine vl_val (os_load Try.isAgg40 rfl (hB.cell (i := 3) rfl)) ?_
    refine vl_val (os_len Try.underlying40 rfl) ?_
    refine vl_val (os_assign rfl) ?_
    refine vl_nil ?_
    refine v_block ?_
    refine v_seq ?_
    refine v_seq ?_
    refine v_region ?_
    refine vl_val (os_fa (o := 0) (k := 2) (by kernel_rfl) rfl) ?_
    refine vl_val (os_loadP (cs := [.int .i64 d.n, .int .i64 d.m, .int .i64 d.b]) Try.underlying42 rfl (by kernel_rfl) rfl ((Bk.rdc hB).take 3)) ?_
    refine vl_call (gives_boolb (size_Right d.n d.m d.b _) c0) rfl ?_
    rintro v w1 ⟨rfl, b1⟩
    refine vl_val (os_not rfl) ?_
    refine vl_val (os_assign rfl) ?_
    refine vl_nil ?_
    refine v_cond_t rfl ?_
    refine v_skip ?_
    refine v_cond_t rfl ?_
    refine v_seq ?_
    refine v_region ?_
    refine vl_val (os_assign rfl) ?_
    refine vl_nil ?_
    refine v_ret ?_
    exact post_ret rfl rfl (⟨by simp [taskB, ← en, ← em, ← eb, c0], hb0.trans (b1.mono hb0.size)⟩)
  · refine v_seq ?_
    refine v_region ?_
    refine vl_val (os_box rfl) ?_
    refine vl_val (os_assign rfl) ?_
    refine vl_nil ?_
    refine v_seq ?_
    refine v_seq ?_
    refine v_region ?_
    refine vl_val (os_fa (o := 3) (k := 0) (by kernel_rfl) rfl) ?_
    refine vl_val (os_load Try.isAgg40 rfl (hB.cell (i := 3) rfl)) ?_
    refine vl_val (os_len Try.underlying40 rfl) ?_
    refine vl_val (os_assign rfl) ?_
    refine vl_nil ?_
    refine v_block ?_
    refine v_seq ?_
    refine v_seq ?_
    refine v_region ?_
    refine vl_val (os_fa (o := 0) (k := 2) (by kernel_rfl) rfl) ?_
    refine vl_val (os_loadP (cs := [.int .i64 d.n, .int .i64 d.m, .int .i64 d.b]) Try.underlying42 rfl (by kernel_rfl) rfl ((Bk.rdc hB).take 3)) ?_
    refine vl_call (gives_boolb (size_Right d.n d.m d.b _) c0) rfl ?_
    rintro v w1 ⟨rfl, b1⟩
    have hb1 := hb0.trans (b1.mono hb0.size)
    have hB1 := hB.keep b1
    refine vl_val (os_not rfl) ?_
    refine vl_val (os_assign rfl) ?_
    refine vl_nil ?_
    refine v_cond_f rfl ?_
    refine v_seq ?_
    refine v_region ?_
    refine vl_val (os_move rfl) ?_
    refine vl_val (os_lss rfl rfl) ?_
    refine vl_val (os_assign rfl) ?_
    refine vl_nil ?_
    refine v_cond_d rfl (fun c1 => ?_) (fun c1 => ?_)
    · refine v_skip ?_
      refine v_cond_yes rfl (by omega) ?_
      refine v_seq ?_
      refine v_region ?_
      refine vl_val (os_assign rfl) ?_
      refine vl_nil ?_
      refine v_ret ?_
      exact post_ret rfl rfl (⟨by simp [taskB]; omega, hb1⟩)
    · refine v_seq ?_
      refine v_region ?_
      refine vl_val (os_move rfl) ?_
      refine vl_val (os_gtr rfl rfl) ?_
      refine vl_val (os_assign rfl) ?_
      refine vl_nil ?_
      refine v_cond_d rfl (fun c2 => ?_) (fun c2 => ?_)
      · refine v_skip ?_
        refine v_cond_yes rfl (by omega) ?_
        refine v_seq ?_
        refine v_region ?_
        refine vl_val (os_assign rfl) ?_
        refine vl_nil ?_
        refine v_ret ?_
        exact post_ret rfl rfl (⟨by simp [taskB]; omega, hb1⟩)
      · refine v_region ?_
        refine vl_val (os_fa (o := 4) (k := 0) (by kernel_rfl) rfl) ?_
        refine vl_val (os_load Try.isAgg40 rfl (hB1.cell (i := 4) rfl)) ?_
        refine vl_val (os_len Try.underlying40 rfl) ?_
        refine vl_val (os_move rfl) ?_
        refine vl_val (os_neq rfl rfl) ?_
        refine vl_val (os_assign rfl) ?_
        refine vl_nil ?_
        refine v_cond_d rfl (fun c3 => ?_) (fun c3 => ?_)
        · refine v_seq ?_
          refine v_region ?_
          refine vl_val (os_assign rfl) ?_
          refine vl_nil ?_
          refine v_ret ?_
          exact post_ret rfl rfl (⟨by simp [taskB]; omega, hb1⟩)
        · have c0' : rightB q.n q.m q.b = true := by rw [← en, ← em, ← eb]; exact c0
          have q1 : decide (1 ≤ q.lens.length ∧ q.lens.length ≤ 8) = true := by rw [decide_eq_true_eq]; omega
          have q2 : decide (q.worths.length = q.lens.length) = true := by rw [decide_eq_true_eq]; omega
          have e0 : taskB q = (!(q.lens.any (outB 65535)) && (!(q.worths.any (outB 1048576)) && wrightB q.n q.ws)) := by unfold taskB; rw [c0', q1, q2]; rfl
          have hL1 := hL.keep hb1
          have hW1 := hW.keep hb1
          have hV1 := hV.keep hb1
          cases c4 : q.lens.any (outB 65535)
          · cases c5 : q.worths.any (outB 1048576)
            · refine v_skip ?_
              refine v_seq ?_
              refine v_region_t LeG _ mixed (by kernel_rfl) lee_g (leg_start _) ?_
              refine vt_val (fun w hw => os_fa (o := 3) (k := 0) (by kernel_rfl) rfl) ?_
              refine vt_val (fun w hw => os_load Try.isAgg40 rfl (leg_cell hw (hB1.cell (i := 3) rfl))) ?_
              refine vt_callf (IsOut 65535) (isOut_stable _) (fun w hw => pn_outside 65535 w) rfl ?_
              refine vt_calls [(23, _)] (.bool false) ⟨⟨rfl, rfl⟩, trivial⟩ (fun w hw => fun u0 ⟨p, e, hb⟩ => ⟨_, rfl, by subst e; exact (gives_bool (pn_Contains d.AL d.ll d.lc p 65535 q.lens w hb (hL1.keep hw) ll bl) c4).mono fun v w' hh => ⟨hh.1, by rw [hh.2]; exact Below.refl _ _⟩⟩) ?_
              refine vt_val (fun w hw => os_not rfl) ?_
              refine vt_val (fun w hw => os_move rfl) ?_
              refine vt_valg rfl (fun w hw => os_fa (o := 4) (k := 0) (by kernel_rfl) rfl) ?_
              refine vt_valg rfl (fun w hw => os_load Try.isAgg40 rfl (leg_cell hw (hB1.cell (i := 4) rfl))) ?_
              refine vt_callfg (IsOut 1048576) (isOut_stable _) (fun w hw => pn_outside 1048576 w) rfl ?_
              refine vt_calls [(29, _)] (.bool false) ⟨⟨rfl, rfl⟩, trivial⟩ (fun w hw => fun u0 ⟨p, e, hb⟩ => ⟨_, rfl, by subst e; exact (gives_bool (pn_Contains d.AW d.wl d.wc p 1048576 q.worths w hb (hW1.keep hw) wl bw) c5).mono fun v w' hh => ⟨hh.1, by rw [hh.2]; exact Below.refl _ _⟩⟩) ?_
              refine vt_valg rfl (fun w hw => os_not rfl) ?_
              refine vt_val (fun w hw => os_pick_t rfl rfl) ?_
              refine vt_val (fun w hw => os_move rfl) ?_
              refine vt_valg rfl (fun w hw => os_fa (o := 0) (k := 2) (by kernel_rfl) rfl) ?_
              refine vt_valg rfl (fun w hw => os_fa (o := 0) (k := 0) (by kernel_rfl) rfl) ?_
              refine vt_valg rfl (fun w hw => os_load Try.isAgg3 rfl (leg_cell hw (hB1.cell (i := 0) rfl))) ?_
              refine vt_valg rfl (fun w hw => os_fa (o := 5) (k := 0) (by kernel_rfl) rfl) ?_
              refine vt_valg rfl (fun w hw => os_load Try.isAgg40 rfl (leg_cell hw (hB1.cell (i := 5) rfl))) ?_
              refine vt_callg rfl (v := _) (fun w hw => (wg_Right d.n d.AV d.vl d.vc q.ws w (hV1.keep hw) vl (by omega) (by rw [en]; exact iN.1)).mono fun v w' hh => ⟨hh.1, led_below hh.2⟩) rfl ?_
              refine vt_val (fun w hw => os_pick_t rfl rfl) ?_
              refine vt_val (fun w hw => os_assign rfl) ?_
              refine vt_nil (fun Hw H => ?_)
              intro u2 hu2 u1 hu1
              refine v_ret ?_
              exact post_ret rfl rfl (⟨by rw [e0, c4, c5]; simp [en], hb1.trans (H.mono hb1.size)⟩)
            · refine v_skip ?_
              refine v_seq ?_
              refine v_region_t LeG _ mixed (by kernel_rfl) lee_g (leg_start _) ?_
              refine vt_val (fun w hw => os_fa (o := 3) (k := 0) (by kernel_rfl) rfl) ?_
              refine vt_val (fun w hw => os_load Try.isAgg40 rfl (leg_cell hw (hB1.cell (i := 3) rfl))) ?_
              refine vt_callf (IsOut 65535) (isOut_stable _) (fun w hw => pn_outside 65535 w) rfl ?_
              refine vt_calls [(23, _)] (.bool false) ⟨⟨rfl, rfl⟩, trivial⟩ (fun w hw => fun u0 ⟨p, e, hb⟩ => ⟨_, rfl, by subst e; exact (gives_bool (pn_Contains d.AL d.ll d.lc p 65535 q.lens w hb (hL1.keep hw) ll bl) c4).mono fun v w' hh => ⟨hh.1, by rw [hh.2]; exact Below.refl _ _⟩⟩) ?_
              refine vt_val (fun w hw => os_not rfl) ?_
              refine vt_val (fun w hw => os_move rfl) ?_
              refine vt_valg rfl (fun w hw => os_fa (o := 4) (k := 0) (by kernel_rfl) rfl) ?_
              refine vt_valg rfl (fun w hw => os_load Try.isAgg40 rfl (leg_cell hw (hB1.cell (i := 4) rfl))) ?_
              refine vt_callfg (IsOut 1048576) (isOut_stable _) (fun w hw => pn_outside 1048576 w) rfl ?_
              refine vt_calls [(29, _)] (.bool true) ⟨⟨rfl, rfl⟩, trivial⟩ (fun w hw => fun u0 ⟨p, e, hb⟩ => ⟨_, rfl, by subst e; exact (gives_bool (pn_Contains d.AW d.wl d.wc p 1048576 q.worths w hb (hW1.keep hw) wl bw) c5).mono fun v w' hh => ⟨hh.1, by rw [hh.2]; exact Below.refl _ _⟩⟩) ?_
              refine vt_valg rfl (fun w hw => os_not rfl) ?_
              refine vt_val (fun w hw => os_pick_t rfl rfl) ?_
              refine vt_val (fun w hw => os_move rfl) ?_
              refine vt_skip rfl rfl ?_
              refine vt_skip rfl rfl ?_
              refine vt_skip rfl rfl ?_
              refine vt_skip rfl rfl ?_
              refine vt_skip rfl rfl ?_
              refine vt_skip rfl rfl ?_
              refine vt_val (fun w hw => os_pick_f rfl rfl) ?_
              refine vt_val (fun w hw => os_assign rfl) ?_
              refine vt_nil (fun Hw H => ?_)
              intro u2 hu2 u1 hu1
              refine v_ret ?_
              exact post_ret rfl rfl (⟨by rw [e0, c4, c5]; simp, hb1.trans (H.mono hb1.size)⟩)
          · refine v_skip ?_
            refine v_seq ?_
            refine v_region_t LeG _ mixed (by kernel_rfl) lee_g (leg_start _) ?_
            refine vt_val (fun w hw => os_fa (o := 3) (k := 0) (by kernel_rfl) rfl) ?_
            refine vt_val (fun w hw => os_load Try.isAgg40 rfl (leg_cell hw (hB1.cell (i := 3) rfl))) ?_
            refine vt_callf (IsOut 65535) (isOut_stable _) (fun w hw => pn_outside 65535 w) rfl ?_
            refine vt_calls [(23, _)] (.bool true) ⟨⟨rfl, rfl⟩, trivial⟩ (fun w hw => fun u0 ⟨p, e, hb⟩ => ⟨_, rfl, by subst e; exact (gives_bool (pn_Contains d.AL d.ll d.lc p 65535 q.lens w hb (hL1.keep hw) ll bl) c4).mono fun v w' hh => ⟨hh.1, by rw [hh.2]; exact Below.refl _ _⟩⟩) ?_
            refine vt_val (fun w hw => os_not rfl) ?_
            refine vt_val (fun w hw => os_move rfl) ?_
            refine vt_skip rfl rfl ?_
            refine vt_skip rfl rfl ?_
            refine vt_skip rfl rfl ?_
            refine vt_skip rfl rfl ?_
            refine vt_skip rfl rfl ?_
            refine vt_val (fun w hw => os_pick_f rfl rfl) ?_
            refine vt_val (fun w hw => os_move rfl) ?_
            refine vt_skip rfl rfl ?_
            refine vt_skip rfl rfl ?_
            refine vt_skip rfl rfl ?_
            refine vt_skip rfl rfl ?_
            refine vt_skip rfl rfl ?_
            refine vt_skip rfl rfl ?_
            refine vt_val (fun w hw => os_pick_f rfl rfl) ?_
            refine vt_val (fun w hw => os_assign rfl) ?_
            refine vt_nil (fun Hw H => ?_)
            intro u1 hu1
            refine v_ret ?_
            exact post_ret rfl rfl (⟨by rw [e0, c4]; simp, hb1.trans (H.mono hb1.size)⟩)
end Go.Proofs.Ytpojijnjdlnokaa

/- Regions that draw their order, order by order, under a condition on the world: what yields in every world that meets it may be taken first. No program in sight. -/
namespace Go.Proofs.Ytpojijnjdlnokaa
open Go.RowKit
set_option linter.unusedVariables false

/-- so many operations are left at most; which have come up, says 'listed'; the world meets S -/
def VH (P : Program) (n : Cx) (all : List Oper) (S : World → Prop) (fuel : Nat) (listed : List Bool) (fr : Fr) (w : World) (Q : Exit → Fr → World → Prop) : Prop :=
  all.all (dstOk n.sz) = true → S w → ∀ a, Ag n fr a → wpAnyH P .any all.toArray (nrm n Q) S fuel listed.toArray a w
def VHN (P : Program) (n : Cx) (all : List Oper) (S : World → Prop) (fuel : Nat) (listed : List Bool) (i : Nat) (fr : Fr) (w : World) (Q : Exit → Fr → World → Prop) : Prop :=
  all.all (dstOk n.sz) = true → S w → ∀ a, Ag n fr a → wpOp P all.toArray (nrm n Q) i (fun a' w' => S w' ∧ wpAnyH P .any all.toArray (nrm n Q) S fuel (setB listed i).toArray a' w') a w

section
variable {P : Program} {n : Cx} {all : List Oper} {S : World → Prop} {fuel : Nat} {listed : List Bool} {fr : Fr} {w w' : World} {Q : Exit → Fr → World → Prop} {d : Nat} {op : Op} {ty : TypeId} {pos : String} {aft : Array Edge} {v : Value}

theorem v_region_h (S : World → Prop) {id : Nat} {l : List Oper} (hm : P.follows .mixedOrders = true) (hS : S { w with drawn := w.drawn + 1 }) (h : VH P n l S l.length (List.replicate l.length false) fr { w with drawn := w.drawn + 1 } Q) (hro : n.ro = none := by rfl) : V P n (.region id l.toArray true) fr w Q := by
  unfold V
  intro hok a ha
  rw [fw_none hro]
  refine wpIn_wide.2 (Code.wp_mono (fun e a w hq => ?_) (wp_region_held (S := S) (Q := nrm n Q) hm ?_))
  · cases e with
    | normal => exact .inl hq
    | _ => exact hq.elim
  · have := h (by simpa [codeOk] using hok) hS a ha
    simpa using this
theorem vh_done (hr : Region.ready .any all.toArray listed.toArray = []) (h : S w → Q .normal fr w) : VH P n all S fuel listed fr w Q := by
  intro hok hS a ha
  exact wpAnyH_done hr ⟨fr, ha, h hS⟩ fuel
theorem vh_all (rs : List Nat) (hr : Region.ready .any all.toArray listed.toArray = rs) (hne : rs ≠ []) (h : ∀ i ∈ rs, VHN P n all S fuel listed i fr w Q) : VH P n all S (fuel + 1) listed fr w Q := by
  intro hok hS a ha
  refine wpAnyH_all hr hne fun i hi => ?_
  have := h i hi hok hS a ha
  rw [setB_eq] at this
  exact this
theorem vh_pure {g : Option (Nat × Bool)} (i : Nat) (hi : all[i]? = some ⟨some d, op, ty, pos, aft, g⟩) (hs : Region.noSelect all.toArray = true) (hf : Region.free .any all.toArray listed.toArray i = true) (hr : (Region.ready .any all.toArray listed.toArray).contains i = true)
    (h : ∀ w, S w → OS P n op ty fr w v w) (k : VH P n all S fuel (setB listed i) ((d, v) :: fr) w Q) (hg : GOk all fr g := by first | exact True.intro | rfl) : VH P n all S (fuel + 1) listed fr w Q := by
  intro hok hS a ha
  have h1 := dstOk_at hok hi rfl
  refine wpAnyH_take (oi := ⟨some d, op, ty, pos, aft, g⟩) (v := v) (by simpa using hi) hs hf hr (fun c a w hq => hq.elim) (.inl ⟨GOk.wanted ha hg, fun w hw => ?_⟩) hS ?_
  · have := h w hw
    unfold OS at this
    rw [execOp_bare]
    exact this a ha
  · have := k hok hS _ (ha.put h1 v)
    rw [setB_eq] at this
    exact this
theorem vh_skip {j : Nat} {b c : Bool} (i : Nat) (hi : all[i]? = some ⟨some d, op, ty, pos, aft, some (j, b)⟩) (hs : Region.noSelect all.toArray = true) (hf : Region.free .any all.toArray listed.toArray i = true) (hr : (Region.ready .any all.toArray listed.toArray).contains i = true)
    (hg : guardF all fr j = some (.bool c)) (hb : (c == b) = false) (k : VH P n all S fuel (setB listed i) ((d, undef) :: fr) w Q) : VH P n all S (fuel + 1) listed fr w Q := by
  intro hok hS a ha
  have h1 := dstOk_at hok hi rfl
  have hne : (some c == some b) = false := by simpa using hb
  refine wpAnyH_take (oi := ⟨some d, op, ty, pos, aft, some (j, b)⟩) (v := undef) (by simpa using hi) hs hf hr (fun c a w hq => hq.elim) (.inr ⟨?_, rfl⟩) hS ?_
  · simp only [Region.wanted, guardF_yields ha hg, hne]
  · have := k hok hS _ (ha.put h1 undef)
    rw [setB_eq] at this
    exact this
theorem vh_one (i : Nat) (hr : (Region.ready .any all.toArray listed.toArray == [i]) = true) (h : VHN P n all S fuel listed i fr w Q) : VH P n all S (fuel + 1) listed fr w Q :=
  vh_all [i] (by simpa using hr) (by simp) fun j hj => by
    simp only [List.mem_cons, List.not_mem_nil, or_false] at hj
    subst hj; exact h
theorem vh_two (i j : Nat) (hr : (Region.ready .any all.toArray listed.toArray == [i, j]) = true) (h : VHN P n all S fuel listed i fr w Q) (h2 : VHN P n all S fuel listed j fr w Q) : VH P n all S (fuel + 1) listed fr w Q :=
  vh_all [i, j] (by simpa using hr) (by simp) fun k hk => by
    simp only [List.mem_cons, List.not_mem_nil, or_false] at hk
    rcases hk with rfl | rfl
    · exact h
    · exact h2
theorem vh_three (i j l : Nat) (hr : (Region.ready .any all.toArray listed.toArray == [i, j, l]) = true) (h : VHN P n all S fuel listed i fr w Q) (h2 : VHN P n all S fuel listed j fr w Q) (h3 : VHN P n all S fuel listed l fr w Q) : VH P n all S (fuel + 1) listed fr w Q :=
  vh_all [i, j, l] (by simpa using hr) (by simp) fun k hk => by
    simp only [List.mem_cons, List.not_mem_nil, or_false] at hk
    rcases hk with rfl | rfl | rfl
    · exact h
    · exact h2
    · exact h3
theorem vhn_some {g : Option (Nat × Bool)} {i : Nat} {U : Value → World → Prop} (hi : all[i]? = some ⟨some d, op, ty, pos, aft, g⟩) (h : OT P n op ty fr w U) (hS : S w → ∀ v w', U v w' → S w') (k : ∀ v w', U v w' → VH P n all S fuel (setB listed i) ((d, v) :: fr) w' Q) (hg : GOk all fr g := by first | exact True.intro | rfl) : VHN P n all S fuel listed i fr w Q := by
  intro hok hw a ha
  have h1 := dstOk_at hok hi rfl
  unfold wpOp
  simp only [List.getElem?_toArray, hi, GOk.wanted ha hg, if_true]
  left
  unfold OT at h
  obtain ⟨v, w', hr, hu⟩ := h a ha
  unfold Oper.wp
  rw [execOp_bare, hr]
  exact ⟨hS hw v w' hu, k v w' hu hok (hS hw v w' hu) _ (ha.put h1 v)⟩
theorem vhn_val {g : Option (Nat × Bool)} {i : Nat} (hi : all[i]? = some ⟨some d, op, ty, pos, aft, g⟩) (h : OS P n op ty fr w v w') (hS : S w → S w') (k : VH P n all S fuel (setB listed i) ((d, v) :: fr) w' Q) (hg : GOk all fr g := by first | exact True.intro | rfl) : VHN P n all S fuel listed i fr w Q :=
  vhn_some (U := fun v1 w1 => v1 = v ∧ w1 = w') hi (h.ot' ⟨rfl, rfl⟩) (fun hw v1 w1 e => by obtain ⟨-, rfl⟩ := e; exact hS hw) (by rintro v1 w1 ⟨rfl, rfl⟩; exact k) hg
theorem vhn_unit {g : Option (Nat × Bool)} {i : Nat} (hi : all[i]? = some ⟨none, op, ty, pos, aft, g⟩) (h : OU P n op ty fr w w') (hS : S w → S w') (k : VH P n all S fuel (setB listed i) fr w' Q) (hg : GOk all fr g := by first | exact True.intro | rfl) : VHN P n all S fuel listed i fr w Q := by
  intro hok hw a ha
  unfold wpOp
  simp only [List.getElem?_toArray, hi, GOk.wanted ha hg, if_true]
  left
  unfold OU at h
  unfold Oper.wp
  rw [execOp_bare, h a ha]
  exact ⟨hS hw, k hok (hS hw) _ ha⟩
theorem vhn_call {g : Option (Nat × Bool)} {i : Nat} {f : FuncId} {xs : List Operand} {tt : Array TypeId} {args : List Value} {U : Value → World → Prop} (hi : all[i]? = some ⟨some d, .call ⟨.value (.func f), xs.toArray, tt⟩, ty, pos, aft, g⟩) (h : Gives P f args.toArray w U) (hx : evL fr xs = some args) (hS : S w → ∀ v w', U v w' → S w')
    (k : ∀ v w', U v w' → VH P n all S fuel (setB listed i) ((d, v) :: fr) w' Q) (hg : GOk all fr g := by first | exact True.intro | rfl) : VHN P n all S fuel listed i fr w Q := by
  intro hok hw a ha
  have h1 := dstOk_at hok hi rfl
  unfold wpOp
  simp only [List.getElem?_toArray, hi, GOk.wanted ha hg, if_true]
  left
  unfold Gives at h
  unfold Oper.wp
  rw [execOp_bare, run_callee (first := #[]) (cap := #[]) h.1 rfl hx ha]
  simp only [Array.append_empty, Array.empty_append]
  refine h.2.mono ?_
  rintro e w' ⟨v, rfl, h2⟩
  exact ⟨hS hw v w' h2, k v w' h2 hok (hS hw v w' h2) _ (ha.put h1 v)⟩
/-- the condition holds ahead of the next operation -/
theorem vhn_hold {i : Nat} (h : S w → VHN P n all S fuel listed i fr w Q) : VHN P n all S fuel listed i fr w Q := fun hok hw => h hw hok hw
end
attribute [irreducible] VH VHN
end Go.Proofs.Ytpojijnjdlnokaa

/- Layer 13: the solver: its beginning. -/
namespace Go.Proofs.Ytpojijnjdlnokaa
open Go.RowKit
set_option linter.unusedVariables false

theorem ti_tbool : TyInfo Try.prog 144 (.slice none 0 0) 1 24 := by unfold TyInfo; kernel_rfl
/-- the solver's cells -/
def solC (d : TaskV) (r : Nat) (sv tv : Value) : List Value := d.cells ++ [.int .i64 r, sv, tv]
structure OverR (w' : World) (B : Nat) (d : TaskV) (n r g sg tg : Nat) (us : List Value) : Prop where
  bk : Bk w' g (solC d r (.slice (some ⟨sg, 0, none⟩) (n + 2) (n + 2)) (.slice (some ⟨tg, 0, none⟩) d.ll d.ll)) 142
  len : us.length = n + 2
  tb : Tb w' B 40 3 (.slice (some ⟨sg, 0, none⟩) (n + 2) (n + 2)) us (n + 2) (fun _ => List.replicate (r + 1) (.int .i64 0))
  own : Own w' B 144 (.slice (some ⟨tg, 0, none⟩) d.ll d.ll) (List.replicate d.ll (.slice none 0 0))
  ne1 : ¬ Tk (.slice (some ⟨sg, 0, none⟩) (n + 2) (n + 2)) us (n + 2) g
  ne2 : ¬ Tk (.slice (some ⟨sg, 0, none⟩) (n + 2) (n + 2)) us (n + 2) tg
  ne3 : tg ≠ g
  lo : B ≤ g
theorem over_fin1 {d : TaskV} {n r sg tg : Nat} {us : List Value} {w W w5 w6 : World} (hbw : Below w.heap.size w W) (hul : us.length = n + 2) (hT : Tb w5 W.heap.size 40 3 (.slice (some ⟨sg, 0, none⟩) (n + 2) (n + 2)) us (n + 2) (fun _ => List.replicate (r + 1) (.int .i64 0))) (b5 : Below W.heap.size W w5)
    (o6 : Own w6 w5.heap.size 144 (.slice (some ⟨tg, 0, none⟩) d.ll d.ll) (List.replicate d.ll (.slice none 0 0))) (g6 : w5.grownBy w6 none) : OverR (w6.alloc (.cells (solC d r (.slice (some ⟨sg, 0, none⟩) (n + 2) (n + 2)) (.slice (some ⟨tg, 0, none⟩) d.ll d.ll)).toArray 142)) w.heap.size d n r w6.heap.size sg tg us ∧
      Below w.heap.size w (w6.alloc (.cells (solC d r (.slice (some ⟨sg, 0, none⟩) (n + 2) (n + 2)) (.slice (some ⟨tg, 0, none⟩) d.ll d.ll)).toArray 142)) := by
  have c5 : Below w6.heap.size w6 (w6.alloc (.cells (solC d r (.slice (some ⟨sg, 0, none⟩) (n + 2) (n + 2)) (.slice (some ⟨tg, 0, none⟩) d.ll d.ll)).toArray 142)) := (Below.refl _ _).alloc (Nat.le_refl _) _
  have b56 : Below w5.heap.size w5 w6 := (Below.refl _ _).grown g6 (Nat.le_refl _) (fun k hk => by cases hk)
  have s5 := b5.size
  have s56 := b56.size
  have s0 := hbw.size
  have e5 := b56.trans (c5.mono b56.size)
  have b05 := hbw.trans (b5.mono s0)
  have hlt := (World.ownsRow.lt o6 tg rfl)
  have htk : ∀ b, Tk (.slice (some ⟨sg, 0, none⟩) (n + 2) (n + 2)) us (n + 2) b → b < w5.heap.size := fun b hb => (hT.lt hb).2
  exact ⟨⟨bk_new w6 _ _, hul, (hT.keep e5).mono s0, (o6.keepAll c5).mono (by omega), fun h => by have := htk _ h; omega, fun h => by have := htk _ h; omega, by omega, by omega⟩, b05.trans (e5.mono b05.size)⟩
theorem over_fin2 {d : TaskV} {n r sg tg : Nat} {us : List Value} {w W w5 w6 : World} (hbw : Below w.heap.size w W) (hul : us.length = n + 2) (hT : Tb w5 w6.heap.size 40 3 (.slice (some ⟨sg, 0, none⟩) (n + 2) (n + 2)) us (n + 2) (fun _ => List.replicate (r + 1) (.int .i64 0))) (b5 : Below w6.heap.size w6 w5)
    (o6 : Own w6 W.heap.size 144 (.slice (some ⟨tg, 0, none⟩) d.ll d.ll) (List.replicate d.ll (.slice none 0 0))) (g6 : W.grownBy w6 none) : OverR (w5.alloc (.cells (solC d r (.slice (some ⟨sg, 0, none⟩) (n + 2) (n + 2)) (.slice (some ⟨tg, 0, none⟩) d.ll d.ll)).toArray 142)) w.heap.size d n r w5.heap.size sg tg us ∧
      Below w.heap.size w (w5.alloc (.cells (solC d r (.slice (some ⟨sg, 0, none⟩) (n + 2) (n + 2)) (.slice (some ⟨tg, 0, none⟩) d.ll d.ll)).toArray 142)) := by
  have c5 : Below w5.heap.size w5 (w5.alloc (.cells (solC d r (.slice (some ⟨sg, 0, none⟩) (n + 2) (n + 2)) (.slice (some ⟨tg, 0, none⟩) d.ll d.ll)).toArray 142)) := (Below.refl _ _).alloc (Nat.le_refl _) _
  have b6 : Below W.heap.size W w6 := (Below.refl _ _).grown g6 (Nat.le_refl _) (fun k hk => by cases hk)
  have s5 := b5.size
  have s6 := b6.size
  have s0 := hbw.size
  have e6 := b5.trans (c5.mono b5.size)
  have b05 := (hbw.trans (b6.mono s0)).trans (b5.mono (by omega))
  have hlt := (World.ownsRow.lt o6 tg rfl)
  have htk : ∀ b, Tk (.slice (some ⟨sg, 0, none⟩) (n + 2) (n + 2)) us (n + 2) b → w6.heap.size ≤ b ∧ b < w5.heap.size := fun b hb => hT.lt hb
  exact ⟨⟨bk_new w5 _ _, hul, (hT.keep c5).mono (by omega), (o6.keepAll e6).mono (by omega), fun h => by have := htk _ h; omega, fun h => by have := htk _ h; omega, by omega, by omega⟩, b05.trans (c5.mono b05.size)⟩
set_option maxHeartbeats 2000000 in
theorem pn_over (d : TaskV) (n r : Nat) (w : World) (hn : d.n = n) (hn2 : n ≤ 255) (hr : r ≤ 2000) (hl : d.ll ≤ 8) : Gives Try.prog 60 #[.agg d.cells.toArray, .int .i64 r] w fun v w' => ∃ g sg tg us, v = .pointer (some ⟨g, 0, none⟩) ∧ OverR w' w.heap.size d n r g sg tg us ∧ Below w.heap.size w w' := by
  have hB := bk_new w d.cells 44
  have hb0 : Below w.heap.size w (w.alloc (.cells d.cells.toArray 44)) := (Below.refl _ w).alloc (Nat.le_refl _) _
  have hz := hb0.size
  refine gives_enter Try.call60 Try.func60 rfl rfl rfl (by kernel_rfl) ?_
  refine v_seq ?_
  refine v_region ?_
  refine vl_val (os_box rfl) ?_
  refine vl_val (os_assign rfl) ?_
  refine vl_nil ?_
  refine v_seq ?_
  refine v_region_h (LeG (w.alloc (.cells d.cells.toArray 44))) mixed (leg_start _) ?_
  refine vh_pure 0 rfl (by kernel_rfl) (by kernel_rfl) (by kernel_rfl) (fun w hw => (os_loadB Try.underlying44 rfl (by kernel_rfl) rfl (hB.keep hw))) ?_
  refine vh_pure 1 rfl (by kernel_rfl) (by kernel_rfl) (by kernel_rfl) (fun w hw => (os_move rfl)) ?_
  refine vh_pure 2 rfl (by kernel_rfl) (by kernel_rfl) (by kernel_rfl) (fun w hw => (os_fa (o := 0) (k := 2) (by kernel_rfl) rfl)) ?_
  refine vh_pure 3 rfl (by kernel_rfl) (by kernel_rfl) (by kernel_rfl) (fun w hw => (os_fa (o := 0) (k := 0) (by kernel_rfl) rfl)) ?_
  refine vh_pure 4 rfl (by kernel_rfl) (by kernel_rfl) (by kernel_rfl) (fun w hw => (os_load Try.isAgg3 rfl (leg_cell hw (hB.cell (i := 0) rfl)))) ?_
  refine vh_pure 5 rfl (by kernel_rfl) (by kernel_rfl) (by kernel_rfl) (fun w hw => (os_addi rfl rfl (by omega))) ?_
  refine vh_pure 6 rfl (by kernel_rfl) (by kernel_rfl) (by kernel_rfl) (fun w hw => (os_move rfl)) ?_
  refine vh_pure 7 rfl (by kernel_rfl) (by kernel_rfl) (by kernel_rfl) (fun w hw => (os_addi rfl rfl (by omega))) ?_
  refine vh_pure 9 rfl (by kernel_rfl) (by kernel_rfl) (by kernel_rfl) (fun w hw => (os_fa (o := 3) (k := 0) (by kernel_rfl) rfl)) ?_
  refine vh_pure 10 rfl (by kernel_rfl) (by kernel_rfl) (by kernel_rfl) (fun w hw => (os_load Try.isAgg40 rfl (leg_cell hw (hB.cell (i := 3) rfl)))) ?_
  refine vh_pure 11 rfl (by kernel_rfl) (by kernel_rfl) (by kernel_rfl) (fun w hw => (os_len Try.underlying40 rfl)) ?_
  refine vh_two 8 12 (by kernel_rfl) ?_ ?_
  · refine vhn_call rfl (pl_madesint (n + 2) (r + 1) (.int .i64 0) _ (by omega) (by omega) rfl (by omega) (by omega)) rfl (fun hw v w' h => by obtain ⟨_, _, _, _, _, hb⟩ := h; exact hw.trans (hb.mono hw.size)) ?_
    rintro v5 w5 ⟨sg, us, rfl, hul, hT, b5⟩
    refine vh_one 12 (by kernel_rfl) ?_
    refine vhn_some rfl (ot_make (l := d.ll) Try.underlying140 ti_tbool rfl rfl rfl rfl rfl (by omega) (by simp [maxLen]; omega) _ (Nat.le_refl _)) (fun hw v w' h => hw.trans (((Below.refl _ _).grown h.2.2 (Nat.le_refl _) (fun k hk => by cases hk)).mono hw.size)) ?_
    rintro v6 w6 ⟨e6, o6, g6⟩
    obtain ⟨tg, htg, rfl⟩ : ∃ tg, tg = _ ∧ v6 = .slice (some ⟨tg, 0, none⟩) d.ll d.ll := ⟨_, rfl, e6⟩
    refine vh_pure 13 rfl (by kernel_rfl) (by kernel_rfl) (by kernel_rfl) (fun w hw => (os_build (cs := solC d r (.slice (some ⟨sg, 0, none⟩) (n + 2) (n + 2)) (.slice (some ⟨tg, 0, none⟩) d.ll d.ll)) rfl (by kernel_rfl))) ?_
    refine vh_one 14 (by kernel_rfl) ?_
    refine vhn_val rfl (os_box rfl) (fun hw => hw.alloc (Below.size hw) _) ?_
    have hbw : Below w.heap.size w { w.alloc (.cells d.cells.toArray 44) with drawn := (w.alloc (.cells d.cells.toArray 44)).drawn + 1 } := hb0.drew
    refine vh_pure 15 rfl (by kernel_rfl) (by kernel_rfl) (by kernel_rfl) (fun w hw => (os_assign rfl)) ?_
    refine vh_done (by kernel_rfl) (fun hS => ?_)
    refine v_ret ?_
    exact post_ret rfl rfl (⟨_, sg, tg, us, rfl, by first | exact over_fin1 hbw hul hT b5 o6 g6 | exact over_fin2 hbw hul hT b5 o6 g6⟩)
  · refine vhn_some rfl (ot_make (l := d.ll) Try.underlying140 ti_tbool rfl rfl rfl rfl rfl (by omega) (by simp [maxLen]; omega) _ (Nat.le_refl _)) (fun hw v w' h => hw.trans (((Below.refl _ _).grown h.2.2 (Nat.le_refl _) (fun k hk => by cases hk)).mono hw.size)) ?_
    rintro v6 w6 ⟨e6, o6, g6⟩
    obtain ⟨tg, htg, rfl⟩ : ∃ tg, tg = _ ∧ v6 = .slice (some ⟨tg, 0, none⟩) d.ll d.ll := ⟨_, rfl, e6⟩
    refine vh_one 8 (by kernel_rfl) ?_
    refine vhn_call rfl (pl_madesint (n + 2) (r + 1) (.int .i64 0) _ (by omega) (by omega) rfl (by omega) (by omega)) rfl (fun hw v w' h => by obtain ⟨_, _, _, _, _, hb⟩ := h; exact hw.trans (hb.mono hw.size)) ?_
    rintro v5 w5 ⟨sg, us, rfl, hul, hT, b5⟩
    refine vh_pure 13 rfl (by kernel_rfl) (by kernel_rfl) (by kernel_rfl) (fun w hw => (os_build (cs := solC d r (.slice (some ⟨sg, 0, none⟩) (n + 2) (n + 2)) (.slice (some ⟨tg, 0, none⟩) d.ll d.ll)) rfl (by kernel_rfl))) ?_
    refine vh_one 14 (by kernel_rfl) ?_
    refine vhn_val rfl (os_box rfl) (fun hw => hw.alloc (Below.size hw) _) ?_
    have hbw : Below w.heap.size w { w.alloc (.cells d.cells.toArray 44) with drawn := (w.alloc (.cells d.cells.toArray 44)).drawn + 1 } := hb0.drew
    refine vh_pure 15 rfl (by kernel_rfl) (by kernel_rfl) (by kernel_rfl) (fun w hw => (os_assign rfl)) ?_
    refine vh_done (by kernel_rfl) (fun hS => ?_)
    refine v_ret ?_
    exact post_ret rfl rfl (⟨_, sg, tg, us, rfl, by first | exact over_fin1 hbw hul hT b5 o6 g6 | exact over_fin2 hbw hul hT b5 o6 g6⟩)
end Go.Proofs.Ytpojijnjdlnokaa

/- Layer 13: the solver goes one layer ahead. -/
namespace Go.Proofs.Ytpojijnjdlnokaa
open Go.RowKit
set_option linter.unusedVariables false

/-! ### a task's layers -/
def lyQ (q : TaskP) (i : Nat) : Ly := ⟨fun k => q.worths.getD i 0 * q.ws.getD k 0, fun k => (widthW (q.lens.getD i 0) k).toNat⟩
/-- so many layers from i on -/
def lysF (q : TaskP) : Nat → Nat → List Ly
  | 0, _ => []
  | m + 1, i => lyQ q i :: lysF q m (i + 1)
/-- what a right task is -/
structure TaskR (q : TaskP) (n : Nat) : Prop where
  n_ : q.n = n
  n1 : 1 ≤ n
  n2 : n ≤ 255
  m1 : 64 ≤ q.m ∧ q.m ≤ 1500
  b1 : 1 ≤ q.b ∧ q.b ≤ 524288
  l1 : 1 ≤ q.lens.length
  l2 : q.lens.length ≤ 8
  lw : q.worths.length = q.lens.length
  lv : q.ws.length = n + 1
  len : ∀ i, i < q.lens.length → 0 ≤ q.lens.getD i 0 ∧ q.lens.getD i 0 ≤ 65535
  wor : ∀ i, i < q.lens.length → 0 ≤ q.worths.getD i 0 ∧ q.worths.getD i 0 ≤ 1048576
  wei : ∀ k, k ≤ n → 0 ≤ q.ws.getD k 0 ∧ q.ws.getD k 0 ≤ 65536
theorem any_out {most : Int} {zs : List Int} (h : zs.any (outB most) = false) {i : Nat} (hi : i < zs.length) : 0 ≤ zs.getD i 0 ∧ zs.getD i 0 ≤ most := by
  have := List.any_eq_false.1 h (zs.getD i 0) (by simp [hi])
  simp only [outB, Bool.or_eq_true, decide_eq_true_eq, not_or] at this
  omega
theorem taskR {q : TaskP} (h : taskB q = true) : TaskR q q.n.toNat := by
  simp only [taskB, Bool.and_eq_true, decide_eq_true_eq, Bool.not_eq_true'] at h
  obtain ⟨h1, h2, h3, h4, h5, h6⟩ := h
  have hw := wright_bd h6
  have h6' := h6
  simp only [rightB, decide_eq_true_eq] at h1
  simp only [wrightB, Bool.and_eq_true, decide_eq_true_eq] at h6
  exact ⟨by omega, by omega, by omega, ⟨by omega, by omega⟩, ⟨by omega, by omega⟩, h2.1, h2.2, h3, by omega, fun i hi => any_out h4 hi, fun i hi => any_out h5 (by omega), fun k hk => hw k (by omega)⟩
theorem lyQ_o {q : TaskP} {n : Nat} (h : TaskR q n) {i k : Nat} (hi : i < q.lens.length) (hk : k ≤ n) : 0 ≤ (lyQ q i).o k ∧ (lyQ q i).o k ≤ 68719476736 := prod_bd (h.wor i hi) (h.wei k hk)
theorem scP_bd {q : TaskP} {n : Nat} (h : TaskR q n) : ∀ {m i k r : Nat}, 1 ≤ k → m + i ≤ q.lens.length → scP n (lysF q m i) k r ≤ m * 68719476736
  | 0, i, k, r, _, _ => by simp [lysF, scP]
  | m + 1, i, k, r, hk, hm => by
    rw [lysF, scP]
    have key : ∀ f : Nat → Int, (∀ j, 1 ≤ j → j ≤ n → f j ≤ ((m + 1 : Nat) : Int) * 68719476736) → ∀ d, d ≤ n → mxP f n d ≤ ((m + 1 : Nat) : Int) * 68719476736 := by
      intro f hf d
      induction d with
      | zero => intro _; rw [mxP]; omega
      | succ d ih =>
        intro hd
        have h1 := ih (by omega)
        have h2 := hf (n - d) (by omega) (by omega)
        rw [mxP]; split <;> omega
    refine key _ (fun j hj hjn => ?_) _ (by omega)
    unfold valP
    split
    · have h1 := (lyQ_o h (i := i) (by omega) hjn).2
      have h2 := scP_bd h (m := m) (i := i + 1) (k := j) (r := r - (lyQ q i).wd j) hj (by omega)
      omega
    · omega

/-! ### rows of tables -/
def rowV (f : Nat → Value) (r : Nat) : List Value := (List.range (r + 1)).map f
theorem rowV_len {f : Nat → Value} {r : Nat} : (rowV f r).length = r + 1 := by simp [rowV]
theorem rowV_at {f : Nat → Value} {r x : Nat} (hx : x ≤ r) : (rowV f r)[x]? = some (f x) := by simp [rowV, show x < r + 1 by omega]
theorem rowV_congr {f g : Nat → Value} {r : Nat} (h : ∀ x, x ≤ r → f x = g x) : rowV f r = rowV g r := by
  unfold rowV
  apply List.map_congr_left
  intro x hx
  exact h x (by have := List.mem_range.1 hx; omega)
theorem rowV_rep {v : Value} {r : Nat} : List.replicate (r + 1) v = rowV (fun _ => v) r := by
  unfold rowV
  apply List.ext_getElem?
  intro i
  simp only [List.getElem?_replicate, List.getElem?_map]
  by_cases h : i < r + 1
  · rw [if_pos h, List.getElem?_range h]; rfl
  · rw [if_neg h, List.getElem?_eq_none (by simp; omega)]; rfl
/-- a row of which so many places are new -/
def mixV (a b : Nat → Value) (x : Nat) : Nat → Value := fun y => if y < x then a y else b y
theorem mixV_skip {a b : Nat → Value} {r x : Nat} (h : a x = b x) : rowV (mixV a b x) r = rowV (mixV a b (x + 1)) r := rowV_congr fun y _ => by
  unfold mixV
  by_cases h1 : y < x
  · rw [if_pos h1, if_pos (by omega)]
  · rw [if_neg h1]
    by_cases h2 : y = x
    · subst h2; rw [if_pos (by omega), h]
    · rw [if_neg (by omega)]
theorem mixV_set {a b : Nat → Value} {r x : Nat} (hx : x ≤ r) : (rowV (mixV a b x) r).set x (a x) = rowV (mixV a b (x + 1)) r := by
  apply List.ext_getElem?
  intro i
  by_cases h : i ≤ r
  · by_cases e : i = x
    · subst e
      rw [List.getElem?_set_self (by rw [rowV_len]; omega), rowV_at h, mixV, if_pos (by omega)]
    · rw [List.getElem?_set_ne (fun h => e h.symm), rowV_at h, rowV_at h]
      unfold mixV
      by_cases h1 : i < x
      · rw [if_pos h1, if_pos (by omega)]
      · rw [if_neg h1, if_neg (by omega)]
  · rw [List.getElem?_eq_none (by rw [List.length_set, rowV_len]; omega), List.getElem?_eq_none (by rw [rowV_len]; omega)]
theorem mixV_all {a b : Nat → Value} {r x : Nat} (h : r < x) : rowV (mixV a b x) r = rowV a r := rowV_congr fun y hy => if_pos (by omega)
theorem mixV_none {a b : Nat → Value} {r x : Nat} (h : ∀ y, y < x → a y = b y) : rowV (mixV a b x) r = rowV b r := rowV_congr fun y hy => by
  unfold mixV
  split
  · rename_i h1; exact h y h1
  · rfl

/-- the two new tables of a layer -/
structure Two (w w' : World) (n S2 T2 : Nat) (us ub : List Value) (cc cb : Nat → List Value) : Prop where
  tS : Tb w' w.heap.size 40 3 (.slice (some ⟨S2, 0, none⟩) (n + 2) (n + 2)) us (n + 2) cc
  tT : Tb w' w.heap.size 146 4 (.slice (some ⟨T2, 0, none⟩) (n + 2) (n + 2)) ub (n + 2) cb
  dis : ∀ b, Tk (.slice (some ⟨S2, 0, none⟩) (n + 2) (n + 2)) us (n + 2) b → ¬ Tk (.slice (some ⟨T2, 0, none⟩) (n + 2) (n + 2)) ub (n + 2) b
  bel : Below w.heap.size w w'
theorem Two.keep {w w' w'' : World} {n S2 T2 : Nat} {us ub : List Value} {cc cb : Nat → List Value} (h : Two w w' n S2 T2 us ub cc cb) (hb : Below w'.heap.size w' w'') : Two w w'' n S2 T2 us ub cc cb := ⟨h.tS.keep hb, h.tT.keep hb, h.dis, h.bel.trans (hb.mono h.bel.size)⟩
theorem two_fin {w W wa wb : World} {n r sg tg : Nat} {us ub : List Value} (hbw : Below w.heap.size w W) (hT : Tb wa W.heap.size 40 3 (.slice (some ⟨sg, 0, none⟩) (n + 2) (n + 2)) us (n + 2) (fun _ => List.replicate (r + 1) (.int .i64 (-1)))) (ba : Below W.heap.size W wa)
    (hU : Tb wb wa.heap.size 146 4 (.slice (some ⟨tg, 0, none⟩) (n + 2) (n + 2)) ub (n + 2) (fun _ => List.replicate (r + 1) (.bool false))) (bb : Below wa.heap.size wa wb) : Two w wb n sg tg us ub (fun _ => List.replicate (r + 1) (.int .i64 (-1))) (fun _ => List.replicate (r + 1) (.bool false)) := by
  have s0 := hbw.size
  have s1 := ba.size
  exact ⟨(hT.keep bb).mono s0, hU.mono (by omega), fun b h1 h2 => by have := hT.lt h1; have := hU.lt h2; omega, (hbw.trans (ba.mono s0)).trans (bb.mono (by omega))⟩
theorem two_fin2 {w W wa wb : World} {n r sg tg : Nat} {us ub : List Value} (hbw : Below w.heap.size w W) (hT : Tb wa wb.heap.size 40 3 (.slice (some ⟨sg, 0, none⟩) (n + 2) (n + 2)) us (n + 2) (fun _ => List.replicate (r + 1) (.int .i64 (-1)))) (ba : Below wb.heap.size wb wa)
    (hU : Tb wb W.heap.size 146 4 (.slice (some ⟨tg, 0, none⟩) (n + 2) (n + 2)) ub (n + 2) (fun _ => List.replicate (r + 1) (.bool false))) (bb : Below W.heap.size W wb) : Two w wa n sg tg us ub (fun _ => List.replicate (r + 1) (.int .i64 (-1))) (fun _ => List.replicate (r + 1) (.bool false)) := by
  have s0 := hbw.size
  have s1 := bb.size
  exact ⟨hT.mono (by omega), (hU.keep ba).mono s0, fun b h1 h2 => by have := hT.lt h1; have := hU.lt h2; omega, (hbw.trans (bb.mono s0)).trans (ba.mono (by omega))⟩
theorem Two.setS {w w' : World} {n S2 T2 k g m c : Nat} {us ub : List Value} {cc cb : Nat → List Value} (h : Two w w' n S2 T2 us ub cc cb) (hk : k < n + 2) (hu : us[k]? = some (.slice (some ⟨g, 0, none⟩) m c)) {S : List Nat} {w'' : World} (hb : Kb S w' w'') (hS : ∀ b ∈ S, b = g) {cs : List Value} (ho : Own w'' w.heap.size 3 (.slice (some ⟨g, 0, none⟩) m c) cs) :
    Two w w'' n S2 T2 us ub (fun j => if j = k then cs else cc j) cb := by
  have hg := (World.ownsRow.lt (h.tS.each k _ hk hu) g rfl).1
  exact ⟨h.tS.row hk hu hb (fun b hb => by rw [hS b hb]; rfl) ho, h.tT.kb hb (fun b hb => by rw [hS b hb]; exact h.dis g (.inr ⟨k, _, hk, hu, rfl⟩)), h.dis, hb.below h.bel (fun b hb => by rw [hS b hb]; exact hg) h.bel.size⟩
theorem Two.setT {w w' : World} {n S2 T2 k g m c : Nat} {us ub : List Value} {cc cb : Nat → List Value} (h : Two w w' n S2 T2 us ub cc cb) (hk : k < n + 2) (hu : ub[k]? = some (.slice (some ⟨g, 0, none⟩) m c)) {S : List Nat} {w'' : World} (hb : Kb S w' w'') (hS : ∀ b ∈ S, b = g) {cs : List Value} (ho : Own w'' w.heap.size 4 (.slice (some ⟨g, 0, none⟩) m c) cs) :
    Two w w'' n S2 T2 us ub cc (fun j => if j = k then cs else cb j) := by
  have hg := (World.ownsRow.lt (h.tT.each k _ hk hu) g rfl).1
  exact ⟨h.tS.kb hb (fun b hb hx => by rw [hS b hb] at hx; exact h.dis g hx (.inr ⟨k, _, hk, hu, rfl⟩)), h.tT.row hk hu hb (fun b hb => by rw [hS b hb]; rfl) ho, h.dis, hb.below h.bel (fun b hb => by rw [hS b hb]; exact hg) h.bel.size⟩
theorem Two.cellS {w w' : World} {n S2 T2 k g m c : Nat} {us ub : List Value} {cc cb : Nat → List Value} (h : Two w w' n S2 T2 us ub cc cb) (hk : k < n + 2) (hu : us[k]? = some (.slice (some ⟨g, 0, none⟩) m c)) (i : Nat) (x : Value) : Two w (w'.setCell ⟨g, 0 + i, none⟩ x) n S2 T2 us ub (fun j => if j = k then (cc k).set i x else cc j) cb := by
  rw [Nat.zero_add]
  exact h.setS hk hu (Kb.set (S := [g]) (by simp) i x) (fun b hb => List.mem_singleton.1 hb) (Own.set (h.tS.each k _ hk hu) i x)
theorem Two.cellT {w w' : World} {n S2 T2 k g m c : Nat} {us ub : List Value} {cc cb : Nat → List Value} (h : Two w w' n S2 T2 us ub cc cb) (hk : k < n + 2) (hu : ub[k]? = some (.slice (some ⟨g, 0, none⟩) m c)) (i : Nat) (x : Value) : Two w (w'.setCell ⟨g, 0 + i, none⟩ x) n S2 T2 us ub cc (fun j => if j = k then (cb k).set i x else cb j) := by
  rw [Nat.zero_add]
  exact h.setT hk hu (Kb.set (S := [g]) (by simp) i x) (fun b hb => List.mem_singleton.1 hb) (Own.set (h.tT.each k _ hk hu) i x)
theorem Two.congr {w w' : World} {n S2 T2 : Nat} {us ub : List Value} {cc cb cc' cb' : Nat → List Value} (h : Two w w' n S2 T2 us ub cc cb) (h1 : ∀ i, i < n + 2 → cc' i = cc i) (h2 : ∀ i, i < n + 2 → cb' i = cb i) : Two w w' n S2 T2 us ub cc' cb' := ⟨h.tS.congr h1, h.tT.congr h2, h.dis, h.bel⟩
end Go.Proofs.Ytpojijnjdlnokaa
