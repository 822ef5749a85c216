/- Texts joined: GsL. -/
import Derived.Test.YtpjmiafefammkaaM18
/- Layer 24: the law's own functions: report, awake, size, shares. -/
namespace Go.Proofs.Ytpjmiafefammkaa
open Go.RowKit
set_option linter.unusedVariables false

/-- a list of reports -/
def RdN (w : World) (A : Option Addr) (ds : List NoteV) : Prop := RdP w 4 A (ds.map NoteV.cells) ∧ ∀ d ∈ ds, NoteOk w d
theorem RdN.keep {w w' A ds} (h : RdN w A ds) (hb : Below w.heap.size w w') : RdN w' A ds := ⟨h.1.keep hb, fun d hd => (h.2 d hd).keep hb⟩
def noN : NoteV := ⟨0, 0, 0, none, 0, 0, []⟩
theorem RdN.at_ {w : World} {A : Option Addr} {ds : List NoteV} (h : RdN w A ds) {i : Nat} (hi : i < ds.length) : ∃ b o, A = some ⟨b, o, none⟩ ∧ RdC w (some ⟨b, o + i * 4, none⟩) (ds.getD i noN).cells ∧ w.cell? ⟨b, o + i * 4 + 3, none⟩ = some (.slice (ds.getD i noN).A (ds.getD i noN).l (ds.getD i noN).c) ∧ NoteOk w (ds.getD i noN) := by
  have hc : (ds.map NoteV.cells)[i]? = some (ds.getD i noN).cells := by simp [hi]
  obtain ⟨b, o, e, hcell⟩ := h.1 i _ hc
  subst e
  exact ⟨b, o, rfl, h.1.part hc, hcell 3 _ rfl, h.2 _ (by rw [List.getD_eq_getElem?_getD, List.getElem?_eq_getElem hi]; exact List.getElem_mem _)⟩

theorem law24_size (A : Option Addr) (l c : Nat) (ds : List NoteV) (w : World) (ha : RdN w A ds) (hl : l = ds.length) (hl' : l ≤ 9000000000000) : Gives Try.prog 14 #[.slice A l c] w fun v w' => (∃ z : Int, v = .int .i64 z ∧ I64 z ∧ (z ≤ 800 → l ≤ 800)) ∧ w' = w := by
  refine gives_enter Try.call14 Try.func14 rfl rfl rfl (by kernel_rfl) ?_
  refine v_seq ?_
  refine v_region ?_
  refine vl_val (os_assign rfl) ?_
  refine vl_nil ?_
  refine v_seq ?_
  refine v_region ?_
  refine vl_val (os_move rfl) ?_
  refine vl_val (os_len Try.underlying22 rfl) ?_
  refine vl_val (os_assign rfl) ?_
  refine vl_nil ?_
  refine v_seq ?_
  refine v_seq ?_
  refine v_region ?_
  refine vl_val (os_assign rfl) ?_
  refine vl_nil ?_
  refine v_block ?_
  refine v_loop2 [(0, _)] (fun (z : Int) (i : Nat) => [(3, .int .i64 z), (4, .int .i64 i)]) (fun z i w' => i ≤ l ∧ (l : Int) ≤ z ∧ z ≤ 10000000000000 ∧ w' = w) (fun z i => l - i) (l) (0) ⟨rfl, trivial⟩ ⟨rfl, rfl, trivial⟩ (⟨by omega, by omega, by omega, rfl⟩) ?_
  rintro z i w ⟨hi, hz1, hz2, rfl⟩
  by_cases h : i < l
  · obtain ⟨b, o, rfl, q1, q2, q3⟩ := ha.at_ (i := i) (by omega)
    have hd := q3.2.2.1
    refine v_seq ?_
    refine v_seq ?_
    refine v_region ?_
    refine vl_val (os_move rfl) ?_
    refine vl_val (os_move rfl) ?_
    refine vl_val (os_len Try.underlying22 rfl) ?_
    refine vl_val (os_t (os_lss rfl rfl) (by omega)) ?_
    refine vl_val (os_move rfl) ?_
    refine vl_valg rfl (os_move rfl) ?_
    refine vl_valg rfl (os_leq rfl rfl) ?_
    refine vl_val (os_pick_t rfl rfl) ?_
    refine vl_nil ?_
    refine v_cond_d rfl (fun h2 => ?_) (fun h2 => ?_)
    · refine v_skip ?_
      refine v_seq ?_
      refine v_block ?_
      refine v_region ?_
      refine vl_val (os_move rfl) ?_
      refine vl_val (os_move rfl) ?_
      refine vl_val (os_move rfl) ?_
      refine vl_val (os_ixs Try.underlying22 Try.sizeOf35 rfl rfl (i := i) (by omega) (by omega)) ?_
      refine vl_val (os_fa (o := 3) (k := 0) (by kernel_rfl) rfl) ?_
      refine vl_val (os_load Try.isAgg33 rfl (q2)) ?_
      refine vl_val (os_len Try.underlying33 rfl) ?_
      refine vl_val (os_addi rfl rfl (by omega)) ?_
      refine vl_val (os_assign rfl) ?_
      refine vl_nil ?_
      refine v_region ?_
      refine vl_val (os_move rfl) ?_
      refine vl_val (os_addi rfl rfl (by omega)) ?_
      refine vl_val (os_assign rfl) ?_
      refine vl_nil ?_
      exact ⟨⟨z + (ds.getD i noN).l, i + 1⟩, ⟨rfl, trivial⟩, ⟨rfl, rfl, trivial⟩, ⟨by omega, by omega, by omega, rfl⟩, by dsimp only; omega⟩
    · refine v_exit ?_
      refine v_seq ?_
      refine v_region ?_
      refine vl_val (os_move rfl) ?_
      refine vl_val (os_assign rfl) ?_
      refine vl_nil ?_
      refine v_ret ?_
      exact post_ret rfl rfl (⟨⟨z, rfl, ⟨by omega, by omega⟩, by omega⟩, rfl⟩)
  · refine v_seq ?_
    refine v_seq ?_
    refine v_region ?_
    refine vl_val (os_move rfl) ?_
    refine vl_val (os_move rfl) ?_
    refine vl_val (os_len Try.underlying22 rfl) ?_
    refine vl_val (os_f (os_lss rfl rfl) (by omega)) ?_
    refine vl_val (os_move rfl) ?_
    refine vl_skip rfl rfl ?_
    refine vl_skip rfl rfl ?_
    refine vl_val (os_pick_f rfl rfl) ?_
    refine vl_nil ?_
    refine v_cond_f rfl ?_
    refine v_exit ?_
    refine v_seq ?_
    refine v_region ?_
    refine vl_val (os_move rfl) ?_
    refine vl_val (os_assign rfl) ?_
    refine vl_nil ?_
    refine v_ret ?_
    exact post_ret rfl rfl (⟨⟨z, rfl, ⟨by omega, by omega⟩, by omega⟩, rfl⟩)

set_option maxHeartbeats 4000000 in
theorem law24_shares (d : NoteV) (w : World) (hd : NoteOk w d) (hr : RightD d) : Gives Try.prog 31 #[.agg d.cells.toArray] w fun v w' => OwnK w' w.heap.size 3 .i64 v (saysL d.n d.cs) ∧ Below w.heap.size w w' := by
  have hl := hd.2.1
  have hn := hr.n
  have hcnt := cnt_all hr.cnt
  have hlen := hcnt.2 (by omega)
  have htb := times_bd hr.cnt
  have hB0 := bk_new w d.cells 35
  have hb0 : Below w.heap.size w (w.alloc (.cells d.cells.toArray 35)) := (Below.refl _ w).alloc (Nat.le_refl _) _
  refine gives_enter Try.call31 Try.func31 rfl rfl rfl (by kernel_rfl) ?_
  refine v_seq ?_
  refine v_region ?_
  refine vl_val (os_box rfl) ?_
  refine vl_val (os_assign rfl) ?_
  refine vl_nil ?_
  refine v_seq ?_
  refine v_region ?_
  refine vl_val (os_assign rfl) ?_
  refine vl_nil ?_
  refine v_seq ?_
  refine v_seq ?_
  refine v_region ?_
  refine vl_val (os_assign rfl) ?_
  refine vl_nil ?_
  refine v_block ?_
  refine v_loop [(1, _)] (fun (i : Nat) => [(3, .int .i64 (timesL (d.cs.take i))), (4, .int .i64 i)]) (fun i w' => i ≤ d.l ∧ w' = w.alloc (.cells d.cells.toArray 35)) (fun i => d.l - i) (0) ⟨rfl, trivial⟩ ⟨rfl, rfl, trivial⟩ (⟨by omega, rfl⟩) ?_
  rintro i w1 ⟨hi, rfl⟩
  refine v_seq ?_
  refine v_seq ?_
  refine v_region ?_
  refine vl_val (os_move rfl) ?_
  refine vl_val (os_fa (o := 3) (k := 0) (by kernel_rfl) rfl) ?_
  refine vl_val (os_load Try.isAgg33 rfl (hB0.cell (i := 3) rfl)) ?_
  refine vl_val (os_len Try.underlying33 rfl) ?_
  refine vl_val (os_lss rfl rfl) ?_
  refine vl_nil ?_
  refine v_cond_d rfl (fun h => ?_) (fun h => ?_)
  · obtain ⟨b, o, eA, q1, q2, q3⟩ := ((hd.keep hb0).1).at2 (i := i) (by omega)
    have ht1 := times_take hr.cnt i
    have ht2 := times_take hr.cnt (i + 1)
    rw [times_succ (by omega)] at ht2
    refine v_skip ?_
    refine v_seq ?_
    refine v_block ?_
    refine v_region ?_
    refine vl_val (os_move rfl) ?_
    refine vl_val (os_fa (o := 3) (k := 0) (by kernel_rfl) rfl) ?_
    refine vl_val (os_load Try.isAgg33 rfl (hB0.cell (i := 3) rfl)) ?_
    rw [eA]
    refine vl_val (os_move rfl) ?_
    refine vl_val (os_ixs Try.underlying33 Try.sizeOf49 rfl rfl (i := i) (by omega) (by omega)) ?_
    refine vl_val (os_fa (o := 1) (k := 0) (by kernel_rfl) rfl) ?_
    refine vl_val (os_load Try.isAgg3 rfl (q2)) ?_
    refine vl_val (os_addi rfl rfl (by omega)) ?_
    refine vl_val (os_assign rfl) ?_
    refine vl_nil ?_
    refine v_region ?_
    refine vl_val (os_move rfl) ?_
    refine vl_val (os_addi rfl rfl (by omega)) ?_
    refine vl_val (os_assign rfl) ?_
    refine vl_nil ?_
    exact ⟨i + 1, ⟨rfl, trivial⟩, ⟨by rw [times_succ (by omega)]; rfl, rfl, trivial⟩, ⟨by omega, rfl⟩, by dsimp only; omega⟩
  · obtain hli : d.l = i := by omega
    have hT : timesL (d.cs.take i) = timesL d.cs := by rw [List.take_of_length_le (by omega)]
    rw [hT]
    obtain ⟨w1, hw1⟩ : ∃ w1, w1 = w.alloc (.cells d.cells.toArray 35) := ⟨_, rfl⟩
    have hd1 := hd.keep hb0
    rw [← hw1] at hB0 hb0 hd1
    have hw1' : w1 = w.alloc (.cells (Value.agg d.cells.toArray).cells 35) := hw1
    first | rw [← hw1'] | rw [← hw1]
    refine v_exit ?_
    refine v_seq ?_
    refine v_region ?_
    refine vl_val (os_fa (o := 2) (k := 0) (by kernel_rfl) rfl) ?_
    refine vl_val (os_load Try.isAgg3 rfl (hB0.cell (i := 2) rfl)) ?_
    refine vl_val (os_addi rfl rfl (by omega)) ?_
    refine vl_some (ot_make (l := d.n.toNat + 1) Try.underlying40 ti_int rfl rfl rfl (by omega) (by omega) (by omega) (by simp [maxLen]; omega) w1.heap.size (Nat.le_refl _)) ?_
    rintro v2 w2 ⟨rfl, ho, hg⟩
    have b2 : Below w1.heap.size w1 w2 := (Below.refl _ _).grown hg (Nat.le_refl _) (fun k hk => by cases hk)
    refine vl_val (os_assign rfl) ?_
    refine vl_nil ?_
    refine v_seq ?_
    refine v_seq ?_
    refine v_region ?_
    refine vl_val (os_assign rfl) ?_
    refine vl_nil ?_
    refine v_block ?_
    refine v_loop [(1, _), (3, _), (5, _)] (fun (i : Nat) => [(6, .int .i64 i)]) (fun i w' => i ≤ d.l ∧ Below w1.heap.size w1 w' ∧ ∃ out, saysL d.n d.cs = saysGo (timesL d.cs) (d.cs.drop i) out ∧ out.length = d.n.toNat + 1 ∧ OwnK w' w1.heap.size 3 .i64 (.slice (some ⟨w1.heap.size, 0, none⟩) (d.n.toNat + 1) (d.n.toNat + 1)) out) (fun i => d.l - i) (0) ⟨rfl, rfl, rfl, trivial⟩ ⟨rfl, trivial⟩ (⟨by omega, b2, List.replicate (d.n.toNat + 1) 0, rfl, by simp, by simpa [OwnK] using ho⟩) ?_
    rintro i w3 ⟨hi3, b3, out, hs3, ho3, hO3⟩
    have hB3 := hB0.keep b3
    refine v_seq ?_
    refine v_seq ?_
    refine v_region ?_
    refine vl_val (os_move rfl) ?_
    refine vl_val (os_fa (o := 3) (k := 0) (by kernel_rfl) rfl) ?_
    refine vl_val (os_load Try.isAgg33 rfl (hB3.cell (i := 3) rfl)) ?_
    refine vl_val (os_len Try.underlying33 rfl) ?_
    refine vl_val (os_lss rfl rfl) ?_
    refine vl_nil ?_
    refine v_cond_d rfl (fun h3 => ?_) (fun h3 => ?_)
    · obtain ⟨b, o, eA, q1, q2, q3⟩ := ((hd1.keep b3).1).at2 (i := i) (by omega)
      have hm : d.cs.getD i (0, 0) ∈ d.cs := by rw [List.getD_eq_getElem?_getD, List.getElem?_eq_getElem (by omega)]; exact List.getElem_mem _
      have hc1 := hcnt.1 (d.cs.getD i (0, 0)) hm
      have hra := rep_all hr (by omega)
      have hsv := share_val hra.1 hra.2.1 (hra.2.2 _ hm).1 (hra.2.2 _ hm).2
      have hst := saysGo_step (all := timesL d.cs) (cs := d.cs) (out := out) (i := i) (by omega)
      have hto := OwnK.cell hO3 (i := (d.cs.getD i (0, 0)).1.toNat) (by rw [ho3]; omega)
      refine v_skip ?_
      refine v_seq ?_
      refine v_block ?_
      refine v_seq ?_
      refine v_region ?_
      refine vl_val (os_fa (o := 3) (k := 0) (by kernel_rfl) rfl) ?_
      refine vl_val (os_load Try.isAgg33 rfl (hB3.cell (i := 3) rfl)) ?_
      rw [eA]
      refine vl_val (os_move rfl) ?_
      refine vl_val (os_ixs Try.underlying33 Try.sizeOf49 rfl rfl (i := i) (by omega) (by omega)) ?_
      refine vl_val (os_fa (o := 1) (k := 0) (by kernel_rfl) rfl) ?_
      refine vl_val (os_load Try.isAgg3 rfl (q2)) ?_
      refine vl_val (os_move rfl) ?_
      refine vl_call (g_Share (d.cs.getD i (0, 0)).2 (timesL d.cs) _ ⟨by omega, by omega⟩ ⟨by omega, by omega⟩) rfl ?_
      rintro v5 w3 ⟨rfl, rfl⟩
      refine vl_val (os_move rfl) ?_
      refine vl_val (os_extract rfl rfl) ?_
      refine vl_val (os_extract rfl rfl) ?_
      refine vl_val (os_assign rfl) ?_
      refine vl_val (os_assign rfl) ?_
      refine vl_nil ?_
      refine v_seq ?_
      refine v_region ?_
      refine vl_val (os_move rfl) ?_
      refine vl_val (os_eql rfl rfl) ?_
      refine vl_nil ?_
      refine v_cond_yes rfl (by rw [hsv.1]; rfl) ?_
      refine v_region ?_
      refine vl_val (os_move rfl) ?_
      refine vl_val (os_fa (o := 3) (k := 0) (by kernel_rfl) rfl) ?_
      refine vl_val (os_load Try.isAgg33 rfl (hB3.cell (i := 3) rfl)) ?_
      rw [eA]
      refine vl_val (os_move rfl) ?_
      refine vl_val (os_ixs Try.underlying33 Try.sizeOf49 rfl rfl (i := i) (by omega) (by omega)) ?_
      refine vl_val (os_fa (o := 0) (k := 0) (by kernel_rfl) rfl) ?_
      refine vl_val (os_load Try.isAgg3 rfl (q1)) ?_
      refine vl_val (os_move rfl) ?_
      refine vl_val (os_ix Try.underlying40 Try.sizeOf3 rfl rfl (i := (d.cs.getD i (0, 0)).1.toNat) (by omega) (by omega)) ?_
      refine vl_unit (ou_store Try.sizeOf3 rfl rfl rfl (by rw [Nat.zero_add]; exact hto) (Own.free hO3 _)) ?_
      have hO6 : OwnK (w3.setCell ⟨w1.heap.size, 0 + (d.cs.getD i (0, 0)).1.toNat, none⟩ (.int .i64 (shareV (d.cs.getD i (0, 0)).2 (timesL d.cs)))) w1.heap.size 3 .i64 (.slice (some ⟨w1.heap.size, 0, none⟩) (d.n.toNat + 1) (d.n.toNat + 1)) (out.set (d.cs.getD i (0, 0)).1.toNat (shareV (d.cs.getD i (0, 0)).2 (timesL d.cs))) := by
        rw [Nat.zero_add]
        exact OwnK.set hO3 (d.cs.getD i (0, 0)).1.toNat (shareV (d.cs.getD i (0, 0)).2 (timesL d.cs))
      refine vl_nil ?_
      refine v_region ?_
      refine vl_val (os_move rfl) ?_
      refine vl_val (os_addi rfl rfl (by omega)) ?_
      refine vl_val (os_assign rfl) ?_
      refine vl_nil ?_
      exact ⟨i + 1, ⟨rfl, rfl, rfl, trivial⟩, ⟨rfl, trivial⟩, ⟨by omega, below_set b3 (Nat.le_refl _) _ _, out.set (d.cs.getD i (0, 0)).1.toNat (shareV (d.cs.getD i (0, 0)).2 (timesL d.cs)), by rw [hs3, hst], by simp [ho3], hO6⟩, by dsimp only; omega⟩
    · obtain hli3 : d.l = i := by omega
      rw [List.drop_of_length_le (by omega)] at hs3
      refine v_exit ?_
      refine v_seq ?_
      refine v_region ?_
      refine vl_val (os_move rfl) ?_
      refine vl_val (os_assign rfl) ?_
      refine vl_nil ?_
      refine v_ret ?_
      exact post_ret rfl rfl (⟨by rw [hs3]; exact Own.mono hO3 hb0.size, hb0.trans (Below.mono b3 hb0.size)⟩)

/-- a report on its way -/
def RepS (w w' : World) (sq : Int) (cs : List (Int × Int)) : Prop := ∃ V, Bk w' (w.heap.size + 1) [.int .i64 7, .int .i64 sq, .int .i64 2, V] 35 ∧ OwnP w' (w.heap.size + 2) 49 2 V (cs.map rowC) ∧ Bk w' w.heap.size [.int .i64 0, .int .i64 0, .int .i64 0, .slice none 0 0] 35 ∧ Below w.heap.size w w' ∧ w.heap.size + 2 ≤ w'.heap.size
def repL (a b : Int) : List (Int × Int) := (if 0 < a then [(1, a)] else []) ++ (if 0 < b then [(2, b)] else [])
theorem I64_1 : I64 1 := ⟨by decide, by decide⟩
theorem I64_2 : I64 2 := ⟨by decide, by decide⟩
theorem I64_7 : I64 7 := ⟨by decide, by decide⟩
theorem OwnP.one {w B t s v ps} (h : OwnP w B t s v ps) : v.oneCell' = true := by
  obtain ⟨A, c, rfl, _⟩ := h.form
  rfl
theorem one4 {a b c : Int} {v : Value} (h : v.oneCell' = true) : oneCells [.int .i64 a, .int .i64 b, .int .i64 c, v] = true := by
  show (true && (true && (true && (v.oneCell' && true)))) = true
  rw [h]; rfl
theorem repL_len (a b : Int) : (repL a b).length ≤ 2 := by
  unfold repL
  by_cases h : 0 < a <;> by_cases h2 : 0 < b <;> simp [h, h2]
theorem repL_I {a b : Int} (ha : I64 a) (hb : I64 b) : ∀ p ∈ repL a b, I64 p.1 ∧ I64 p.2 := by
  intro p hp
  unfold repL at hp
  rcases List.mem_append.1 hp with h | h
  · split at h
    · rw [List.mem_singleton.1 h]; exact ⟨I64_1, ha⟩
    · cases h
  · split at h
    · rw [List.mem_singleton.1 h]; exact ⟨I64_2, hb⟩
    · cases h
set_option maxHeartbeats 4000000 in
theorem law24_report (sq a b : Int) (w : World) (hs : I64 sq) (ha : I64 a) (hb : I64 b) : Gives Try.prog 29 #[.int .i64 sq, .int .i64 a, .int .i64 b] w fun v w' => ∃ d : NoteV, v = .agg d.cells.toArray ∧ d.st = 7 ∧ d.sq = sq ∧ d.n = 2 ∧ d.cs = repL a b ∧ NoteOk w' d ∧ Below w.heap.size w w' := by
  have z0 := bk_new w [.int .i64 0, .int .i64 0, .int .i64 0, .slice none 0 0] 35
  have b0 : Below w.heap.size w (w.alloc (.cells [Value.int .i64 0, .int .i64 0, .int .i64 0, .slice none 0 0].toArray 35)) := (Below.refl _ w).alloc (Nat.le_refl _) _
  have z1 := bk_new (w.alloc (.cells [Value.int .i64 0, .int .i64 0, .int .i64 0, .slice none 0 0].toArray 35)) [.int .i64 0, .int .i64 0, .int .i64 0, .slice none 0 0] 35
  have z2 := setRow_bk z1 [.int .i64 7, .int .i64 sq, .int .i64 2, .slice none 0 0]
  have z3 := (z0.alloc (.cells [Value.int .i64 0, .int .i64 0, .int .i64 0, .slice none 0 0].toArray 35)).rowOther (g := (w.alloc (.cells [Value.int .i64 0, .int .i64 0, .int .i64 0, .slice none 0 0].toArray 35)).heap.size) (by simp) [Value.int .i64 7, .int .i64 sq, .int .i64 2, .slice none 0 0].toArray
  have b1 := below_setRow (b0.alloc b0.size (.cells [Value.int .i64 0, .int .i64 0, .int .i64 0, .slice none 0 0].toArray 35)) b0.size [Value.int .i64 7, .int .i64 sq, .int .i64 2, .slice none 0 0].toArray
  simp only [World.size_alloc] at z1 z2 z3 b1
  refine gives_enter Try.call29 Try.func29 rfl rfl rfl (by kernel_rfl) ?_
  refine v_seq ?_
  refine v_region ?_
  refine vl_val (os_allocB Try.zeroValue35 (zc := _) (cs := [.int .i64 0, .int .i64 0, .int .i64 0, .slice none 0 0]) rfl) ?_
  refine vl_nil ?_
  refine v_seq ?_
  refine v_region ?_
  refine vl_val (os_move rfl) ?_
  refine vl_val (os_build (cs := [.int .i64 7, .int .i64 sq, .int .i64 2, .slice none 0 0]) rfl (by kernel_rfl)) ?_
  refine vl_val (os_allocB Try.zeroValue35 (zc := _) (cs := [.int .i64 0, .int .i64 0, .int .i64 0, .slice none 0 0]) rfl) ?_
  simp only [World.size_alloc]
  refine vl_unit (ou_storeB (by kernel_rfl) rfl rfl z1 rfl rfl) ?_
  refine vl_nil ?_
  refine v_mid [(2, _)] (fun (x : Nat) => [(7, .pointer (some ⟨w.heap.size + 1, 0, none⟩)), (6, .pointer (some ⟨w.heap.size, 0, none⟩))]) (fun x w' => RepS w w' sq (if 0 < a then [(1, a)] else [])) ⟨rfl, trivial⟩ ?_ ?_
  · refine v_seq ?_
    refine v_region ?_
    refine vl_val (os_move rfl) ?_
    refine vl_val (os_gtr rfl rfl) ?_
    refine vl_nil ?_
    refine v_cond_d rfl (fun h1 => ?_) (fun h1 => ?_)
    · refine v_region ?_
      refine vl_val (os_fa (o := 3) (k := 0) (by kernel_rfl) rfl) ?_
      refine vl_val (os_load Try.isAgg33 rfl (z2.cell (i := 3) rfl)) ?_
      refine vl_val (os_move rfl) ?_
      refine vl_val (os_build (cs := [.int .i64 1, .int .i64 a]) rfl (by kernel_rfl)) ?_
      refine vl_val (os_litS (css := [[.int .i64 1, .int .i64 a]]) Try.underlying33 Try.sizeOf49 Try.zeroValue49 rfl rfl (by intro c hc; simp at hc; subst hc; rfl) (by decide) (by decide) (by decide)) ?_
      refine vl_some (ot_append_pn Try.underlying33 ti_wCounts rfl (by decide) rfl rfl (OwnP.nil (B := w.heap.size + 2)) (rdp_alloc _ _ _ (by intro c hc; simp at hc; subst hc; rfl)) (by intro c hc; simp at hc; subst hc; rfl) rfl (by intro c hc u hu; simp at hc; subst hc; simp at hu; rcases hu with rfl | rfl <;> rfl) (by decide) (by decide) (by simp [World.setRow])) ?_
      rintro v5 w5 ⟨ho5, hg5⟩
      have j1 := (z2.alloc (.cells [Value.int .i64 1, .int .i64 a].toArray 49)).grown hg5 (by simp [Value.ownBlock])
      have j2 := (z3.alloc (.cells [Value.int .i64 1, .int .i64 a].toArray 49)).grown hg5 (by simp [Value.ownBlock])
      have j3 := (b1.alloc b1.size (.cells [Value.int .i64 1, .int .i64 a].toArray 49)).grown hg5 (b1.alloc b1.size _).size (fun k hk => by cases hk)
      have lt1 := j1.lt
      have lb5 := ho5.lt
      refine vl_val (os_fa (o := 3) (k := 0) (by kernel_rfl) rfl) ?_
      refine vl_unit (ou_store Try.sizeOf33 rfl rfl (OwnP.one ho5) (j1.cell (i := 3) rfl) (j1.free _)) ?_
      refine vl_nil ?_
      exact ⟨0, ⟨rfl, trivial⟩, ⟨rfl, rfl, trivial⟩, ⟨v5, j1.set 3 v5, by rw [if_pos h1]; exact ho5.blk fun k hk => Below.heap_setCell _ _ _ _ (fun e => by have := lb5 k hk; simp at e; omega), Bk.setOther j2 (by omega) _ _, below_set j3 (by omega) _ _, by have := hg5.size; simp [World.setRow, World.setCell] at this ⊢; omega⟩⟩
    · refine v_skip ?_
      exact ⟨0, ⟨rfl, trivial⟩, ⟨rfl, rfl, trivial⟩, ⟨.slice none 0 0, by simpa using z2, by simp [h1]; exact OwnP.nil, z3, b1, by simp [World.setRow]⟩⟩
  · rintro x w1 ⟨V, k1, k2, k3, k4, k5⟩
    have fin : ∀ (w9 : World) (V9 : Value) (cs : List (Int × Int)), Bk w9 (w.heap.size + 1) [.int .i64 7, .int .i64 sq, .int .i64 2, V9] 35 → OwnP w9 (w.heap.size + 2) 49 2 V9 (cs.map rowC) → Bk w9 w.heap.size [.int .i64 0, .int .i64 0, .int .i64 0, .slice none 0 0] 35 → Below w.heap.size w w9 → cs.length ≤ 2 → (∀ p ∈ cs, I64 p.1 ∧ I64 p.2) → ∃ d : NoteV, [.int .i64 7, .int .i64 sq, .int .i64 2, V9] = d.cells ∧ d.st = 7 ∧ d.sq = sq ∧ d.n = 2 ∧ d.cs = cs ∧ NoteOk (w9.setRow w.heap.size d.cells.toArray) d ∧ Below w.heap.size w (w9.setRow w.heap.size d.cells.toArray) := fun w9 V9 cs m1 m2 m3 m4 m5 m6 => by
      obtain ⟨A, c, rfl, -, -, hr⟩ := m2.form
      have hl9 : (cs.map rowC).length = cs.length := by simp
      refine ⟨⟨7, sq, 2, A, (cs.map rowC).length, c, cs⟩, rfl, rfl, rfl, rfl, rfl, ⟨?_, hl9, by rw [hl9]; simp only []; omega, ⟨I64_7, hs, I64_2⟩, m6⟩, below_setRow m4 (Nat.le_refl _) _⟩
      have m7 := m2.blk (w'' := w9.setRow w.heap.size (NoteV.cells ⟨7, sq, 2, A, (cs.map rowC).length, c, cs⟩).toArray) fun k hk => by
        have := m2.lt k hk
        simp [World.setRow, Array.getElem?_modify, show ¬ w.heap.size = k by omega]
      exact OwnP.rdp m7
    refine v_seq ?_
    refine v_seq ?_
    refine v_region ?_
    refine vl_val (os_move rfl) ?_
    refine vl_val (os_gtr rfl rfl) ?_
    refine vl_nil ?_
    refine v_cond_d rfl (fun h2 => ?_) (fun h2 => ?_)
    · refine v_region ?_
      refine vl_val (os_fa (o := 3) (k := 0) (by kernel_rfl) rfl) ?_
      refine vl_val (os_load Try.isAgg33 rfl (k1.cell (i := 3) rfl)) ?_
      refine vl_val (os_move rfl) ?_
      refine vl_val (os_build (cs := [.int .i64 2, .int .i64 b]) rfl (by kernel_rfl)) ?_
      refine vl_val (os_litS (css := [[.int .i64 2, .int .i64 b]]) Try.underlying33 Try.sizeOf49 Try.zeroValue49 rfl rfl (by intro c hc; simp at hc; subst hc; rfl) (by decide) (by decide) (by decide)) ?_
      have e2 : ((if 0 < a then [((1 : Int), a)] else []).map rowC).length ≤ 1 := by split <;> simp
      refine vl_some (ot_append_pn Try.underlying33 ti_wCounts rfl (by decide) rfl rfl (OwnP.alloc k2 _) (rdp_alloc _ _ _ (by intro c hc; simp at hc; subst hc; rfl)) (by intro c hc; simp at hc; subst hc; rfl) rfl (by intro c hc u hu; simp at hc; subst hc; simp at hu; rcases hu with rfl | rfl <;> rfl) (by omega) (by simp only [maxLen]; omega) (by simp; omega)) ?_
      rintro v5 w5 ⟨ho5, hg5⟩
      have hne5 : ∀ k, V.ownBlock = some k → w.heap.size + 2 ≤ k := fun k hk => (k2.lt k hk).1
      have j1 := (k1.alloc (.cells [Value.int .i64 2, .int .i64 b].toArray 49)).grown hg5 (fun e => by have := hne5 _ e.symm; omega)
      have j2 := (k3.alloc (.cells [Value.int .i64 2, .int .i64 b].toArray 49)).grown hg5 (fun e => by have := hne5 _ e.symm; omega)
      have j3 := (k4.alloc k4.size (.cells [Value.int .i64 2, .int .i64 b].toArray 49)).grown hg5 (k4.alloc k4.size _).size (fun k hk => by have := hne5 _ hk; omega)
      have lb5 := ho5.lt
      refine vl_val (os_fa (o := 3) (k := 0) (by kernel_rfl) rfl) ?_
      refine vl_unit (ou_store Try.sizeOf33 rfl rfl (OwnP.one ho5) (j1.cell (i := 3) rfl) (j1.free _)) ?_
      obtain ⟨d, hd, f1, f2, f3, f4, f5, f6⟩ := fin _ v5 (repL a b) (j1.set 3 v5) (by unfold repL; rw [if_pos h2, List.map_append]; exact ho5.blk fun k hk => Below.heap_setCell _ _ _ _ (fun e => by have := lb5 k hk; simp at e; omega)) (Bk.setOther j2 (by omega) _ _) (below_set j3 (by omega) _ _) (repL_len a b) (repL_I ha hb)
      refine vl_nil ?_
      refine v_seq ?_
      refine v_region ?_
      refine vl_val (os_loadB Try.underlying35 rfl (by kernel_rfl) rfl ((j1.set 3 v5))) ?_
      refine vl_unit (ou_storeB (by kernel_rfl) rfl rfl (Bk.setOther j2 (by omega) _ _) rfl (one4 (OwnP.one ho5))) ?_
      refine vl_nil ?_
      refine v_ret ?_
      exact post_cell rfl rfl Try.underlying35 rfl (by kernel_rfl) (setRow_bk (Bk.setOther j2 (by omega) _ _) [.int .i64 7, .int .i64 sq, .int .i64 2, v5]) ⟨d, by rw [hd], f1, f2, f3, f4, by rw [← hd] at f5; exact f5, by rw [← hd] at f6; exact f6⟩
    · obtain ⟨d, hd, f1, f2, f3, f4, f5, f6⟩ := fin _ V (repL a b) k1 (by unfold repL; rw [if_neg h2, List.append_nil]; exact k2) k3 k4 (repL_len a b) (repL_I ha hb)
      refine v_skip ?_
      refine v_seq ?_
      refine v_region ?_
      refine vl_val (os_loadB Try.underlying35 rfl (by kernel_rfl) rfl (k1)) ?_
      refine vl_unit (ou_storeB (by kernel_rfl) rfl rfl k3 rfl (one4 (OwnP.one k2))) ?_
      refine vl_nil ?_
      refine v_ret ?_
      exact post_cell rfl rfl Try.underlying35 rfl (by kernel_rfl) (setRow_bk k3 [.int .i64 7, .int .i64 sq, .int .i64 2, V]) ⟨d, by rw [hd], f1, f2, f3, f4, by rw [← hd] at f5; exact f5, by rw [← hd] at f6; exact f6⟩

theorem why_first (d : NoteV) (hs : d.st = 7) (hq : d.sq = 1) (hn : d.n = 2) (hc : d.cs = repL 1 1) (hl : d.l = d.cs.length) : rightN d = true ∧ whyN 7 2 0 d = 0 ∧ whyN 7 2 1 d = 14 := by
  have hr : rightN d = true := by
    unfold rightN
    rw [hs, hq, hn, hc]; decide
  have hl2 : d.l = 2 := by rw [hl, hc]; decide
  refine ⟨hr, why_ok.2 ⟨hr, hs, hn, by omega, by omega⟩, ?_⟩
  unfold whyN
  rw [hr, hs, hn, hq]
  simp
theorem first_parts (d : NoteV) (hc : d.cs = repL 1 1) : hearP (newP 2) 2 d = [0, 4096, 61440] := by
  unfold hearP
  rw [hc]; decide +kernel
theorem whyI {a : Int} {b : Prop} (h : a = 0) : a = 0 := h
set_option maxHeartbeats 4000000 in
theorem law24_awake (w : World) : Gives Try.prog 15 #[] w fun v w' => v = .bool true ∧ Below w.heap.size w w' := by
  have i1 : I64 1 := I64_1
  refine gives_enter Try.call15 Try.func15 rfl rfl rfl (by kernel_rfl) ?_
  refine v_seq ?_
  refine v_region ?_
  refine vl_val (os_assign rfl) ?_
  refine vl_nil ?_
  refine v_seq ?_
  refine v_region ?_
  refine vl_call (guess_New 7 2 w I64_7 I64_2) rfl ?_
  rintro v1 w1 ⟨b1, h1⟩
  rcases h1 with ⟨h1, _⟩ | ⟨_, rfl, hG⟩
  · exact absurd h1 (by decide)
  refine vl_val (os_move rfl) ?_
  refine vl_val (os_extract rfl rfl) ?_
  refine vl_val (os_extract rfl rfl) ?_
  refine vl_val (os_assign rfl) ?_
  refine vl_val (os_assign rfl) ?_
  refine vl_nil ?_
  refine v_seq ?_
  refine v_seq ?_
  refine v_region ?_
  refine vl_val (os_move rfl) ?_
  refine vl_val (os_f (os_neq rfl rfl) (by decide)) ?_
  refine vl_val (os_move rfl) ?_
  refine vl_valg rfl (os_move rfl) ?_
  refine vl_callg rfl (guess_Parts hG) rfl ?_
  rintro v2 w2 ⟨o2, b2⟩
  obtain ⟨A2, c2, rfl, -, -, r2, -⟩ := OwnK.form o2
  have hl2 : (newP 2).length = 3 := by decide
  have b2w := b1.trans (b2.mono b1.size)
  refine vl_valg rfl (os_lit Try.underlying40 Try.sizeOf3 Try.zeroValue3 rfl rfl rfl rfl (by decide)) ?_
  refine vl_callg rfl (gives_boolb (kit_SameInts A2 _ _ 3 c2 3 (newP 2) [0, 0, 65536] _ (Rd.alloc r2 _) (rd_alloc w2 .i64 [0, 0, 65536] 3) rfl rfl (by decide) (by decide)) (decide_eq_true (by decide))) rfl ?_
  rintro v3 w3 ⟨rfl, d3⟩
  have a2 : Below w2.heap.size w2 (w2.alloc (.cells (([0, 0, 65536] : List Int).map (Value.int .i64)).toArray 3)) := (Below.refl _ w2).alloc (Nat.le_refl _) _
  have b23 : Below w2.heap.size w2 w3 := a2.trans ((led_below d3).mono a2.size)
  have b3w := b2w.trans (b23.mono b2w.size)
  have hG3 := (hG.keep b2).keep b23
  refine vl_valg rfl (os_not rfl) ?_
  refine vl_val (os_pick_f rfl rfl) ?_
  refine vl_val (os_move rfl) ?_
  refine vl_valg rfl (os_move rfl) ?_
  refine vl_callg rfl (law24_report 1 1 1 w3 i1 i1 i1) rfl ?_
  rintro v4 w4 ⟨d, rfl, f1, f2, f3, f4, hd, b4⟩
  have b4w := b3w.trans (b4.mono b3w.size)
  obtain ⟨y1, y2, y3⟩ := why_first d f1 f2 f3 f4 hd.2.1
  refine vl_callg rfl (guess_Hear w.heap.size (newP 2) 7 2 0 d w4 (hG3.keep b4) hd w.heap.size (Nat.le_refl _) b4w.size) rfl ?_
  rintro v5 w5 ⟨rfl, b5, -, -, hG5⟩
  rw [y2]
  refine vl_valg rfl (os_neq rfl rfl) ?_
  refine vl_val (os_pick_f rfl rfl) ?_
  refine vl_nil ?_
  refine v_cond_no rfl (by decide) ?_
  have hG5 := hG5 y2
  rw [first_parts d f4, f2] at hG5
  have b5w := b4w.trans b5
  refine v_skip ?_
  refine v_seq ?_
  refine v_region ?_
  refine vl_val (os_move rfl) ?_
  refine vl_call (guess_Parts hG5) rfl ?_
  rintro v6 w6 ⟨o6, b6⟩
  obtain ⟨A6, c6, rfl, -, -, r6, -⟩ := OwnK.form o6
  have b6w := b5w.trans (b6.mono b5w.size)
  refine vl_val (os_lit Try.underlying40 Try.sizeOf3 Try.zeroValue3 rfl rfl rfl rfl (by decide)) ?_
  refine vl_call (gives_boolb (kit_SameInts A6 _ _ 3 c6 3 [0, 4096, 61440] [0, 4096, 61440] _ (Rd.alloc r6 _) (rd_alloc w6 .i64 [0, 4096, 61440] 3) rfl rfl (by decide) (by decide)) (decide_eq_true rfl)) rfl ?_
  rintro v7 w7 ⟨rfl, d7⟩
  have a6 : Below w6.heap.size w6 (w6.alloc (.cells (([0, 4096, 61440] : List Int).map (Value.int .i64)).toArray 3)) := (Below.refl _ w6).alloc (Nat.le_refl _) _
  have b67 : Below w6.heap.size w6 w7 := a6.trans ((led_below d7).mono a6.size)
  have b7w := b6w.trans (b67.mono b6w.size)
  refine vl_val (os_move rfl) ?_
  refine vl_valg rfl (os_move rfl) ?_
  refine vl_callg rfl (law24_report 1 1 1 w7 i1 i1 i1) rfl ?_
  rintro v8 w8 ⟨d2, rfl, q1, q2, q3, q4, hd2, b8⟩
  have b8w := b7w.trans (b8.mono b7w.size)
  obtain ⟨y4, y5, y6⟩ := why_first d2 q1 q2 q3 q4 hd2.2.1
  have hG8 := ((hG5.keep b6).keep b67).keep b8
  refine vl_callg rfl (guess_Hear w.heap.size [0, 4096, 61440] 7 2 1 d2 w8 hG8 hd2 w.heap.size (Nat.le_refl _) b8w.size) rfl ?_
  rintro v9 w9 ⟨rfl, b9, -, hG9, -⟩
  refine vl_valg rfl (os_t (os_eql rfl rfl) (y6)) ?_
  have hG9 := hG9 (by rw [y6]; decide)
  refine vl_val (os_pick_t rfl rfl) ?_
  refine vl_val (os_move rfl) ?_
  refine vl_valg rfl (os_move rfl) ?_
  refine vl_callg rfl (guess_Seq hG9) rfl ?_
  rintro v10 w9 ⟨rfl, rfl⟩
  refine vl_valg rfl (os_eql rfl rfl) ?_
  refine vl_val (os_pick_t rfl rfl) ?_
  refine vl_val (os_assign rfl) ?_
  refine vl_nil ?_
  refine v_ret ?_
  exact post_ret rfl rfl (⟨rfl, b8w.trans b9⟩)
end Go.Proofs.Ytpjmiafefammkaa
