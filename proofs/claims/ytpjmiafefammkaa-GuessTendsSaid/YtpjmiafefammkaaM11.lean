/- Texts joined: GsL Fl. -/
import Derived.Test.YtpjmiafefammkaaM10
/- Layer 24: the law's own functions: report, awake, size, shares. -/
namespace Go.Proofs.Ytpjmiafefammkaa
open Go.RowKit
set_option linter.unusedVariables false

/-- a list of reports -/
def RdN (w : World) (A : Option Addr) (ds : List NoteV) : Prop := RdP w 4 A (ds.map NoteV.cells) ∧ ∀ d ∈ ds, NoteOk w d
theorem RdN.keep {w w' A ds} (h : RdN w A ds) (hb : Below w.heap.size w w') : RdN w' A ds := ⟨h.1.keep hb, fun d hd => (h.2 d hd).keep hb⟩
def noN : NoteV := ⟨0, 0, 0, none, 0, 0, []⟩
theorem RdN.at_ {w : World} {A : Option Addr} {ds : List NoteV} (h : RdN w A ds) {i : Nat} (hi : i < ds.length) : ∃ b o, A = some ⟨b, o, none⟩ ∧ RdC w (some ⟨b, o + i * 4, none⟩) (ds.getD i noN).cells ∧ w.cell? ⟨b, o + i * 4 + 3, none⟩ = some (.slice (ds.getD i noN).A (ds.getD i noN).l (ds.getD i noN).c) ∧ NoteOk w (ds.getD i noN) := by
  have hc : (ds.map NoteV.cells)[i]? = some (ds.getD i noN).cells := by simp [hi]
  obtain ⟨b, o, e, hcell⟩ := h.1 i _ hc
  subst e
  exact ⟨b, o, rfl, h.1.part hc, hcell 3 _ rfl, h.2 _ (by rw [List.getD_eq_getElem?_getD, List.getElem?_eq_getElem hi]; exact List.getElem_mem _)⟩

theorem law24_size (A : Option Addr) (l c : Nat) (ds : List NoteV) (w : World) (ha : RdN w A ds) (hl : l = ds.length) (hl' : l ≤ 9000000000000) : Gives Try.prog 14 #[.slice A l c] w fun v w' => (∃ z : Int, v = .int .i64 z ∧ I64 z ∧ (z ≤ 800 → l ≤ 800)) ∧ w' = w := by
  refine gives_enter Try.call14 Try.func14 rfl rfl rfl (by kernel_rfl) ?_
  refine v_seq ?_
  refine v_region ?_
  refine vl_val (os_assign rfl) ?_
  refine vl_nil ?_
  refine v_seq ?_
  refine v_region ?_
  refine vl_val (os_move rfl) ?_
  refine vl_val (os_len Try.underlying22 rfl) ?_
  refine vl_val (os_assign rfl) ?_
  refine vl_nil ?_
  refine v_seq ?_
  refine v_seq ?_
  refine v_region ?_
  refine vl_val (os_assign rfl) ?_
  refine vl_nil ?_
  refine v_block ?_
  refine v_loop2 [(0, _)] (fun (z : Int) (i : Nat) => [(3, .int .i64 z), (4, .int .i64 i)]) (fun z i w' => i ≤ l ∧ (l : Int) ≤ z ∧ z ≤ 10000000000000 ∧ w' = w) (fun z i => l - i) (l) (0) ⟨rfl, trivial⟩ ⟨rfl, rfl, trivial⟩ (⟨by omega, by omega, by omega, rfl⟩) ?_
  rintro z i w ⟨hi, hz1, hz2, rfl⟩
  by_cases h : i < l
  · obtain ⟨b, o, rfl, q1, q2, q3⟩ := ha.at_ (i := i) (by omega)
    have hd := q3.2.2.1
    refine v_seq ?_
    refine v_seq ?_
    refine v_region ?_
    refine vl_val (os_move rfl) ?_
    refine vl_val (os_move rfl) ?_
    refine vl_val (os_len Try.underlying22 rfl) ?_
    refine vl_val (os_t (os_lss rfl rfl) (by omega)) ?_
    refine vl_val (os_move rfl) ?_
    refine vl_valg rfl (os_move rfl) ?_
    refine vl_valg rfl (os_leq rfl rfl) ?_
    refine vl_val (os_pick_t rfl rfl) ?_
    refine vl_nil ?_
    refine v_cond_d rfl (fun h2 => ?_) (fun h2 => ?_)
    · refine v_skip ?_
      refine v_seq ?_
      refine v_block ?_
      refine v_region ?_
      refine vl_val (os_move rfl) ?_
      refine vl_val (os_move rfl) ?_
      refine vl_val (os_move rfl) ?_
      refine vl_val (os_ixs Try.underlying22 Try.sizeOf35 rfl rfl (i := i) (by omega) (by omega)) ?_
      refine vl_val (os_fa (o := 3) (k := 0) (by kernel_rfl) rfl) ?_
      refine vl_val (os_load Try.isAgg33 rfl (q2)) ?_
      refine vl_val (os_len Try.underlying33 rfl) ?_
      refine vl_val (os_addi rfl rfl (by omega)) ?_
      refine vl_val (os_assign rfl) ?_
      refine vl_nil ?_
      refine v_region ?_
      refine vl_val (os_move rfl) ?_
      refine vl_val (os_addi rfl rfl (by omega)) ?_
      refine vl_val (os_assign rfl) ?_
      refine vl_nil ?_
      exact ⟨⟨z + (ds.getD i noN).l, i + 1⟩, ⟨rfl, trivial⟩, ⟨rfl, rfl, trivial⟩, ⟨by omega, by omega, by omega, rfl⟩, by dsimp only; omega⟩
    · refine v_exit ?_
      refine v_seq ?_
      refine v_region ?_
      refine vl_val (os_move rfl) ?_
      refine vl_val (os_assign rfl) ?_
      refine vl_nil ?_
      refine v_ret ?_
      exact post_ret rfl rfl (⟨⟨z, rfl, ⟨by omega, by omega⟩, by omega⟩, rfl⟩)
  · refine v_seq ?_
    refine v_seq ?_
    refine v_region ?_
    refine vl_val (os_move rfl) ?_
    refine vl_val (os_move rfl) ?_
    refine vl_val (os_len Try.underlying22 rfl) ?_
    refine vl_val (os_f (os_lss rfl rfl) (by omega)) ?_
    refine vl_val (os_move rfl) ?_
    refine vl_skip rfl rfl ?_
    refine vl_skip rfl rfl ?_
    refine vl_val (os_pick_f rfl rfl) ?_
    refine vl_nil ?_
    refine v_cond_f rfl ?_
    refine v_exit ?_
    refine v_seq ?_
    refine v_region ?_
    refine vl_val (os_move rfl) ?_
    refine vl_val (os_assign rfl) ?_
    refine vl_nil ?_
    refine v_ret ?_
    exact post_ret rfl rfl (⟨⟨z, rfl, ⟨by omega, by omega⟩, by omega⟩, rfl⟩)

set_option maxHeartbeats 4000000 in
theorem law24_shares (d : NoteV) (w : World) (hd : NoteOk w d) (hr : RightD d) : Gives Try.prog 31 #[.agg d.cells.toArray] w fun v w' => OwnK w' w.heap.size 3 .i64 v (saysL d.n d.cs) ∧ Below w.heap.size w w' := by
  have hl := hd.2.1
  have hn := hr.n
  have hcnt := cnt_all hr.cnt
  have hlen := hcnt.2 (by omega)
  have htb := times_bd hr.cnt
  have hB0 := bk_new w d.cells 35
  have hb0 : Below w.heap.size w (w.alloc (.cells d.cells.toArray 35)) := (Below.refl _ w).alloc (Nat.le_refl _) _
  refine gives_enter Try.call31 Try.func31 rfl rfl rfl (by kernel_rfl) ?_
  refine v_seq ?_
  refine v_region ?_
  refine vl_val (os_box rfl) ?_
  refine vl_val (os_assign rfl) ?_
  refine vl_nil ?_
  refine v_seq ?_
  refine v_region ?_
  refine vl_val (os_assign rfl) ?_
  refine vl_nil ?_
  refine v_seq ?_
  refine v_seq ?_
  refine v_region ?_
  refine vl_val (os_assign rfl) ?_
  refine vl_nil ?_
  refine v_block ?_
  refine v_loop [(1, _)] (fun (i : Nat) => [(3, .int .i64 (timesL (d.cs.take i))), (4, .int .i64 i)]) (fun i w' => i ≤ d.l ∧ w' = w.alloc (.cells d.cells.toArray 35)) (fun i => d.l - i) (0) ⟨rfl, trivial⟩ ⟨rfl, rfl, trivial⟩ (⟨by omega, rfl⟩) ?_
  rintro i w1 ⟨hi, rfl⟩
  refine v_seq ?_
  refine v_seq ?_
  refine v_region ?_
  refine vl_val (os_move rfl) ?_
  refine vl_val (os_fa (o := 3) (k := 0) (by kernel_rfl) rfl) ?_
  refine vl_val (os_load Try.isAgg33 rfl (hB0.cell (i := 3) rfl)) ?_
  refine vl_val (os_len Try.underlying33 rfl) ?_
  refine vl_val (os_lss rfl rfl) ?_
  refine vl_nil ?_
  refine v_cond_d rfl (fun h => ?_) (fun h => ?_)
  · obtain ⟨b, o, eA, q1, q2, q3⟩ := ((hd.keep hb0).1).at2 (i := i) (by omega)
    have ht1 := times_take hr.cnt i
    have ht2 := times_take hr.cnt (i + 1)
    rw [times_succ (by omega)] at ht2
    refine v_skip ?_
    refine v_seq ?_
    refine v_block ?_
    refine v_region ?_
    refine vl_val (os_move rfl) ?_
    refine vl_val (os_fa (o := 3) (k := 0) (by kernel_rfl) rfl) ?_
    refine vl_val (os_load Try.isAgg33 rfl (hB0.cell (i := 3) rfl)) ?_
    rw [eA]
    refine vl_val (os_move rfl) ?_
    refine vl_val (os_ixs Try.underlying33 Try.sizeOf49 rfl rfl (i := i) (by omega) (by omega)) ?_
    refine vl_val (os_fa (o := 1) (k := 0) (by kernel_rfl) rfl) ?_
    refine vl_val (os_load Try.isAgg3 rfl (q2)) ?_
    refine vl_val (os_addi rfl rfl (by omega)) ?_
    refine vl_val (os_assign rfl) ?_
    refine vl_nil ?_
    refine v_region ?_
    refine vl_val (os_move rfl) ?_
    refine vl_val (os_addi rfl rfl (by omega)) ?_
    refine vl_val (os_assign rfl) ?_
    refine vl_nil ?_
    exact ⟨i + 1, ⟨rfl, trivial⟩, ⟨by rw [times_succ (by omega)]; rfl, rfl, trivial⟩, ⟨by omega, rfl⟩, by dsimp only; omega⟩
  · obtain hli : d.l = i := by omega
    have hT : timesL (d.cs.take i) = timesL d.cs := by rw [List.take_of_length_le (by omega)]
    rw [hT]
    obtain ⟨w1, hw1⟩ : ∃ w1, w1 = w.alloc (.cells d.cells.toArray 35) := ⟨_, rfl⟩
    have hd1 := hd.keep hb0
    rw [← hw1] at hB0 hb0 hd1
    have hw1' : w1 = w.alloc (.cells (Value.agg d.cells.toArray).cells 35) := hw1
    first | rw [← hw1'] | rw [← hw1]
    refine v_exit ?_
    refine v_seq ?_
    refine v_region ?_
    refine vl_val (os_fa (o := 2) (k := 0) (by kernel_rfl) rfl) ?_
    refine vl_val (os_load Try.isAgg3 rfl (hB0.cell (i := 2) rfl)) ?_
    refine vl_val (os_addi rfl rfl (by omega)) ?_
    refine vl_some (ot_make (l := d.n.toNat + 1) Try.underlying40 ti_int rfl rfl rfl (by omega) (by omega) (by omega) (by simp [maxLen]; omega) w1.heap.size (Nat.le_refl _)) ?_
    rintro v2 w2 ⟨rfl, ho, hg⟩
    have b2 : Below w1.heap.size w1 w2 := (Below.refl _ _).grown hg (Nat.le_refl _) (fun k hk => by cases hk)
    refine vl_val (os_assign rfl) ?_
    refine vl_nil ?_
    refine v_seq ?_
    refine v_seq ?_
    refine v_region ?_
    refine vl_val (os_assign rfl) ?_
    refine vl_nil ?_
    refine v_block ?_
    refine v_loop [(1, _), (3, _), (5, _)] (fun (i : Nat) => [(6, .int .i64 i)]) (fun i w' => i ≤ d.l ∧ Below w1.heap.size w1 w' ∧ ∃ out, saysL d.n d.cs = saysGo (timesL d.cs) (d.cs.drop i) out ∧ out.length = d.n.toNat + 1 ∧ OwnK w' w1.heap.size 3 .i64 (.slice (some ⟨w1.heap.size, 0, none⟩) (d.n.toNat + 1) (d.n.toNat + 1)) out) (fun i => d.l - i) (0) ⟨rfl, rfl, rfl, trivial⟩ ⟨rfl, trivial⟩ (⟨by omega, b2, List.replicate (d.n.toNat + 1) 0, rfl, by simp, by simpa [OwnK] using ho⟩) ?_
    rintro i w3 ⟨hi3, b3, out, hs3, ho3, hO3⟩
    have hB3 := hB0.keep b3
    refine v_seq ?_
    refine v_seq ?_
    refine v_region ?_
    refine vl_val (os_move rfl) ?_
    refine vl_val (os_fa (o := 3) (k := 0) (by kernel_rfl) rfl) ?_
    refine vl_val (os_load Try.isAgg33 rfl (hB3.cell (i := 3) rfl)) ?_
    refine vl_val (os_len Try.underlying33 rfl) ?_
    refine vl_val (os_lss rfl rfl) ?_
    refine vl_nil ?_
    refine v_cond_d rfl (fun h3 => ?_) (fun h3 => ?_)
    · obtain ⟨b, o, eA, q1, q2, q3⟩ := ((hd1.keep b3).1).at2 (i := i) (by omega)
      have hm : d.cs.getD i (0, 0) ∈ d.cs := by rw [List.getD_eq_getElem?_getD, List.getElem?_eq_getElem (by omega)]; exact List.getElem_mem _
      have hc1 := hcnt.1 (d.cs.getD i (0, 0)) hm
      have hra := rep_all hr (by omega)
      have hsv := share_val hra.1 hra.2.1 (hra.2.2 _ hm).1 (hra.2.2 _ hm).2
      have hst := saysGo_step (all := timesL d.cs) (cs := d.cs) (out := out) (i := i) (by omega)
      have hto := OwnK.cell hO3 (i := (d.cs.getD i (0, 0)).1.toNat) (by rw [ho3]; omega)
      refine v_skip ?_
      refine v_seq ?_
      refine v_block ?_
      refine v_seq ?_
      refine v_region ?_
      refine vl_val (os_fa (o := 3) (k := 0) (by kernel_rfl) rfl) ?_
      refine vl_val (os_load Try.isAgg33 rfl (hB3.cell (i := 3) rfl)) ?_
      rw [eA]
      refine vl_val (os_move rfl) ?_
      refine vl_val (os_ixs Try.underlying33 Try.sizeOf49 rfl rfl (i := i) (by omega) (by omega)) ?_
      refine vl_val (os_fa (o := 1) (k := 0) (by kernel_rfl) rfl) ?_
      refine vl_val (os_load Try.isAgg3 rfl (q2)) ?_
      refine vl_val (os_move rfl) ?_
      refine vl_call (g_Share (d.cs.getD i (0, 0)).2 (timesL d.cs) _ ⟨by omega, by omega⟩ ⟨by omega, by omega⟩) rfl ?_
      rintro v5 w3 ⟨rfl, rfl⟩
      refine vl_val (os_move rfl) ?_
      refine vl_val (os_extract rfl rfl) ?_
      refine vl_val (os_extract rfl rfl) ?_
      refine vl_val (os_assign rfl) ?_
      refine vl_val (os_assign rfl) ?_
      refine vl_nil ?_
      refine v_seq ?_
      refine v_region ?_
      refine vl_val (os_move rfl) ?_
      refine vl_val (os_eql rfl rfl) ?_
      refine vl_nil ?_
      refine v_cond_yes rfl (by rw [hsv.1]; rfl) ?_
      refine v_region ?_
      refine vl_val (os_move rfl) ?_
      refine vl_val (os_fa (o := 3) (k := 0) (by kernel_rfl) rfl) ?_
      refine vl_val (os_load Try.isAgg33 rfl (hB3.cell (i := 3) rfl)) ?_
      rw [eA]
      refine vl_val (os_move rfl) ?_
      refine vl_val (os_ixs Try.underlying33 Try.sizeOf49 rfl rfl (i := i) (by omega) (by omega)) ?_
      refine vl_val (os_fa (o := 0) (k := 0) (by kernel_rfl) rfl) ?_
      refine vl_val (os_load Try.isAgg3 rfl (q1)) ?_
      refine vl_val (os_move rfl) ?_
      refine vl_val (os_ix Try.underlying40 Try.sizeOf3 rfl rfl (i := (d.cs.getD i (0, 0)).1.toNat) (by omega) (by omega)) ?_
      refine vl_unit (ou_store Try.sizeOf3 rfl rfl rfl (by rw [Nat.zero_add]; exact hto) (Own.free hO3 _)) ?_
      have hO6 : OwnK (w3.setCell ⟨w1.heap.size, 0 + (d.cs.getD i (0, 0)).1.toNat, none⟩ (.int .i64 (shareV (d.cs.getD i (0, 0)).2 (timesL d.cs)))) w1.heap.size 3 .i64 (.slice (some ⟨w1.heap.size, 0, none⟩) (d.n.toNat + 1) (d.n.toNat + 1)) (out.set (d.cs.getD i (0, 0)).1.toNat (shareV (d.cs.getD i (0, 0)).2 (timesL d.cs))) := by
        rw [Nat.zero_add]
        exact OwnK.set hO3 (d.cs.getD i (0, 0)).1.toNat (shareV (d.cs.getD i (0, 0)).2 (timesL d.cs))
      refine vl_nil ?_
      refine v_region ?_
      refine vl_val (os_move rfl) ?_
      refine vl_val (os_addi rfl rfl (by omega)) ?_
      refine vl_val (os_assign rfl) ?_
      refine vl_nil ?_
      exact ⟨i + 1, ⟨rfl, rfl, rfl, trivial⟩, ⟨rfl, trivial⟩, ⟨by omega, below_set b3 (Nat.le_refl _) _ _, out.set (d.cs.getD i (0, 0)).1.toNat (shareV (d.cs.getD i (0, 0)).2 (timesL d.cs)), by rw [hs3, hst], by simp [ho3], hO6⟩, by dsimp only; omega⟩
    · obtain hli3 : d.l = i := by omega
      rw [List.drop_of_length_le (by omega)] at hs3
      refine v_exit ?_
      refine v_seq ?_
      refine v_region ?_
      refine vl_val (os_move rfl) ?_
      refine vl_val (os_assign rfl) ?_
      refine vl_nil ?_
      refine v_ret ?_
      exact post_ret rfl rfl (⟨by rw [hs3]; exact Own.mono hO3 hb0.size, hb0.trans (Below.mono b3 hb0.size)⟩)

/-- a report on its way -/
def RepS (w w' : World) (sq : Int) (cs : List (Int × Int)) : Prop := ∃ V, Bk w' (w.heap.size + 1) [.int .i64 7, .int .i64 sq, .int .i64 2, V] 35 ∧ OwnP w' (w.heap.size + 2) 49 2 V (cs.map rowC) ∧ Bk w' w.heap.size [.int .i64 0, .int .i64 0, .int .i64 0, .slice none 0 0] 35 ∧ Below w.heap.size w w' ∧ w.heap.size + 2 ≤ w'.heap.size
def repL (a b : Int) : List (Int × Int) := (if 0 < a then [(1, a)] else []) ++ (if 0 < b then [(2, b)] else [])
theorem I64_1 : I64 1 := ⟨by decide, by decide⟩
theorem I64_2 : I64 2 := ⟨by decide, by decide⟩
theorem I64_7 : I64 7 := ⟨by decide, by decide⟩
theorem OwnP.one {w B t s v ps} (h : OwnP w B t s v ps) : v.oneCell' = true := by
  obtain ⟨A, c, rfl, _⟩ := h.form
  rfl
theorem one4 {a b c : Int} {v : Value} (h : v.oneCell' = true) : oneCells [.int .i64 a, .int .i64 b, .int .i64 c, v] = true := by
  show (true && (true && (true && (v.oneCell' && true)))) = true
  rw [h]; rfl
theorem repL_len (a b : Int) : (repL a b).length ≤ 2 := by
  unfold repL
  by_cases h : 0 < a <;> by_cases h2 : 0 < b <;> simp [h, h2]
theorem repL_I {a b : Int} (ha : I64 a) (hb : I64 b) : ∀ p ∈ repL a b, I64 p.1 ∧ I64 p.2 := by
  intro p hp
  unfold repL at hp
  rcases List.mem_append.1 hp with h | h
  · split at h
    · rw [List.mem_singleton.1 h]; exact ⟨I64_1, ha⟩
    · cases h
  · split at h
    · rw [List.mem_singleton.1 h]; exact ⟨I64_2, hb⟩
    · cases h
set_option maxHeartbeats 4000000 in
theorem law24_reportB (sq a b : Int) (w : World) (hs : I64 sq) (ha : I64 a) (hb : I64 b) : Gives Try.prog 29 #[.int .i64 sq, .int .i64 a, .int .i64 b] w fun v w' => ∃ d : NoteV, v = .agg d.cells.toArray ∧ d.st = 7 ∧ d.sq = sq ∧ d.n = 2 ∧ d.cs = repL a b ∧ NoteOk w' d ∧ Below w.heap.size w w' ∧ ∀ a, d.A = some a → w.heap.size ≤ a.block ∧ a.block < w'.heap.size := by
  have z0 := bk_new w [.int .i64 0, .int .i64 0, .int .i64 0, .slice none 0 0] 35
  have b0 : Below w.heap.size w (w.alloc (.cells [Value.int .i64 0, .int .i64 0, .int .i64 0, .slice none 0 0].toArray 35)) := (Below.refl _ w).alloc (Nat.le_refl _) _
  have z1 := bk_new (w.alloc (.cells [Value.int .i64 0, .int .i64 0, .int .i64 0, .slice none 0 0].toArray 35)) [.int .i64 0, .int .i64 0, .int .i64 0, .slice none 0 0] 35
  have z2 := setRow_bk z1 [.int .i64 7, .int .i64 sq, .int .i64 2, .slice none 0 0]
  have z3 := (z0.alloc (.cells [Value.int .i64 0, .int .i64 0, .int .i64 0, .slice none 0 0].toArray 35)).rowOther (g := (w.alloc (.cells [Value.int .i64 0, .int .i64 0, .int .i64 0, .slice none 0 0].toArray 35)).heap.size) (by simp) [Value.int .i64 7, .int .i64 sq, .int .i64 2, .slice none 0 0].toArray
  have b1 := below_setRow (b0.alloc b0.size (.cells [Value.int .i64 0, .int .i64 0, .int .i64 0, .slice none 0 0].toArray 35)) b0.size [Value.int .i64 7, .int .i64 sq, .int .i64 2, .slice none 0 0].toArray
  simp only [World.size_alloc] at z1 z2 z3 b1
  refine gives_enter Try.call29 Try.func29 rfl rfl rfl (by kernel_rfl) ?_
  refine v_seq ?_
  refine v_region ?_
  refine vl_val (os_allocB Try.zeroValue35 (zc := _) (cs := [.int .i64 0, .int .i64 0, .int .i64 0, .slice none 0 0]) rfl) ?_
  refine vl_nil ?_
  refine v_seq ?_
  refine v_region ?_
  refine vl_val (os_move rfl) ?_
  refine vl_val (os_build (cs := [.int .i64 7, .int .i64 sq, .int .i64 2, .slice none 0 0]) rfl (by kernel_rfl)) ?_
  refine vl_val (os_allocB Try.zeroValue35 (zc := _) (cs := [.int .i64 0, .int .i64 0, .int .i64 0, .slice none 0 0]) rfl) ?_
  simp only [World.size_alloc]
  refine vl_unit (ou_storeB (by kernel_rfl) rfl rfl z1 rfl rfl) ?_
  refine vl_nil ?_
  refine v_mid [(2, _)] (fun (x : Nat) => [(7, .pointer (some ⟨w.heap.size + 1, 0, none⟩)), (6, .pointer (some ⟨w.heap.size, 0, none⟩))]) (fun x w' => RepS w w' sq (if 0 < a then [(1, a)] else [])) ⟨rfl, trivial⟩ ?_ ?_
  · refine v_seq ?_
    refine v_region ?_
    refine vl_val (os_move rfl) ?_
    refine vl_val (os_gtr rfl rfl) ?_
    refine vl_nil ?_
    refine v_cond_d rfl (fun h1 => ?_) (fun h1 => ?_)
    · refine v_region ?_
      refine vl_val (os_fa (o := 3) (k := 0) (by kernel_rfl) rfl) ?_
      refine vl_val (os_load Try.isAgg33 rfl (z2.cell (i := 3) rfl)) ?_
      refine vl_val (os_move rfl) ?_
      refine vl_val (os_build (cs := [.int .i64 1, .int .i64 a]) rfl (by kernel_rfl)) ?_
      refine vl_val (os_litS (css := [[.int .i64 1, .int .i64 a]]) Try.underlying33 Try.sizeOf49 Try.zeroValue49 rfl rfl (by intro c hc; simp at hc; subst hc; rfl) (by decide) (by decide) (by decide)) ?_
      refine vl_some (ot_append_pn Try.underlying33 ti_wCounts rfl (by decide) rfl rfl (OwnP.nil (B := w.heap.size + 2)) (rdp_alloc _ _ _ (by intro c hc; simp at hc; subst hc; rfl)) (by intro c hc; simp at hc; subst hc; rfl) rfl (by intro c hc u hu; simp at hc; subst hc; simp at hu; rcases hu with rfl | rfl <;> rfl) (by decide) (by decide) (by simp [World.setRow])) ?_
      rintro v5 w5 ⟨ho5, hg5⟩
      have j1 := (z2.alloc (.cells [Value.int .i64 1, .int .i64 a].toArray 49)).grown hg5 (by simp [Value.ownBlock])
      have j2 := (z3.alloc (.cells [Value.int .i64 1, .int .i64 a].toArray 49)).grown hg5 (by simp [Value.ownBlock])
      have j3 := (b1.alloc b1.size (.cells [Value.int .i64 1, .int .i64 a].toArray 49)).grown hg5 (b1.alloc b1.size _).size (fun k hk => by cases hk)
      have lt1 := j1.lt
      have lb5 := ho5.lt
      refine vl_val (os_fa (o := 3) (k := 0) (by kernel_rfl) rfl) ?_
      refine vl_unit (ou_store Try.sizeOf33 rfl rfl (OwnP.one ho5) (j1.cell (i := 3) rfl) (j1.free _)) ?_
      refine vl_nil ?_
      exact ⟨0, ⟨rfl, trivial⟩, ⟨rfl, rfl, trivial⟩, ⟨v5, j1.set 3 v5, by rw [if_pos h1]; exact ho5.blk fun k hk => Below.heap_setCell _ _ _ _ (fun e => by have := lb5 k hk; simp at e; omega), Bk.setOther j2 (by omega) _ _, below_set j3 (by omega) _ _, by have := hg5.size; simp [World.setRow, World.setCell] at this ⊢; omega⟩⟩
    · refine v_skip ?_
      exact ⟨0, ⟨rfl, trivial⟩, ⟨rfl, rfl, trivial⟩, ⟨.slice none 0 0, by simpa using z2, by simp [h1]; exact OwnP.nil, z3, b1, by simp [World.setRow]⟩⟩
  · rintro x w1 ⟨V, k1, k2, k3, k4, k5⟩
    have fin : ∀ (w9 : World) (V9 : Value) (cs : List (Int × Int)), Bk w9 (w.heap.size + 1) [.int .i64 7, .int .i64 sq, .int .i64 2, V9] 35 → OwnP w9 (w.heap.size + 2) 49 2 V9 (cs.map rowC) → Bk w9 w.heap.size [.int .i64 0, .int .i64 0, .int .i64 0, .slice none 0 0] 35 → Below w.heap.size w w9 → cs.length ≤ 2 → (∀ p ∈ cs, I64 p.1 ∧ I64 p.2) → ∃ d : NoteV, [.int .i64 7, .int .i64 sq, .int .i64 2, V9] = d.cells ∧ d.st = 7 ∧ d.sq = sq ∧ d.n = 2 ∧ d.cs = cs ∧ NoteOk (w9.setRow w.heap.size d.cells.toArray) d ∧ Below w.heap.size w (w9.setRow w.heap.size d.cells.toArray) ∧ (∀ a, d.A = some a → w.heap.size ≤ a.block ∧ a.block < (w9.setRow w.heap.size d.cells.toArray).heap.size) := fun w9 V9 cs m1 m2 m3 m4 m5 m6 => by
      obtain ⟨A, c, rfl, -, -, hr⟩ := m2.form
      have hl9 : (cs.map rowC).length = cs.length := by simp
      refine ⟨⟨7, sq, 2, A, (cs.map rowC).length, c, cs⟩, rfl, rfl, rfl, rfl, rfl, ⟨?_, hl9, by rw [hl9]; simp only []; omega, ⟨I64_7, hs, I64_2⟩, m6⟩, below_setRow m4 (Nat.le_refl _) _, fun a ha => by have := m2.lt a.block (by simp only [] at ha; subst ha; rfl); simp only [World.setRow, Array.size_modify]; omega⟩
      have m7 := m2.blk (w'' := w9.setRow w.heap.size (NoteV.cells ⟨7, sq, 2, A, (cs.map rowC).length, c, cs⟩).toArray) fun k hk => by
        have := m2.lt k hk
        simp [World.setRow, Array.getElem?_modify, show ¬ w.heap.size = k by omega]
      exact OwnP.rdp m7
    refine v_seq ?_
    refine v_seq ?_
    refine v_region ?_
    refine vl_val (os_move rfl) ?_
    refine vl_val (os_gtr rfl rfl) ?_
    refine vl_nil ?_
    refine v_cond_d rfl (fun h2 => ?_) (fun h2 => ?_)
    · refine v_region ?_
      refine vl_val (os_fa (o := 3) (k := 0) (by kernel_rfl) rfl) ?_
      refine vl_val (os_load Try.isAgg33 rfl (k1.cell (i := 3) rfl)) ?_
      refine vl_val (os_move rfl) ?_
      refine vl_val (os_build (cs := [.int .i64 2, .int .i64 b]) rfl (by kernel_rfl)) ?_
      refine vl_val (os_litS (css := [[.int .i64 2, .int .i64 b]]) Try.underlying33 Try.sizeOf49 Try.zeroValue49 rfl rfl (by intro c hc; simp at hc; subst hc; rfl) (by decide) (by decide) (by decide)) ?_
      have e2 : ((if 0 < a then [((1 : Int), a)] else []).map rowC).length ≤ 1 := by split <;> simp
      refine vl_some (ot_append_pn Try.underlying33 ti_wCounts rfl (by decide) rfl rfl (OwnP.alloc k2 _) (rdp_alloc _ _ _ (by intro c hc; simp at hc; subst hc; rfl)) (by intro c hc; simp at hc; subst hc; rfl) rfl (by intro c hc u hu; simp at hc; subst hc; simp at hu; rcases hu with rfl | rfl <;> rfl) (by omega) (by simp only [maxLen]; omega) (by simp; omega)) ?_
      rintro v5 w5 ⟨ho5, hg5⟩
      have hne5 : ∀ k, V.ownBlock = some k → w.heap.size + 2 ≤ k := fun k hk => (k2.lt k hk).1
      have j1 := (k1.alloc (.cells [Value.int .i64 2, .int .i64 b].toArray 49)).grown hg5 (fun e => by have := hne5 _ e.symm; omega)
      have j2 := (k3.alloc (.cells [Value.int .i64 2, .int .i64 b].toArray 49)).grown hg5 (fun e => by have := hne5 _ e.symm; omega)
      have j3 := (k4.alloc k4.size (.cells [Value.int .i64 2, .int .i64 b].toArray 49)).grown hg5 (k4.alloc k4.size _).size (fun k hk => by have := hne5 _ hk; omega)
      have lb5 := ho5.lt
      refine vl_val (os_fa (o := 3) (k := 0) (by kernel_rfl) rfl) ?_
      refine vl_unit (ou_store Try.sizeOf33 rfl rfl (OwnP.one ho5) (j1.cell (i := 3) rfl) (j1.free _)) ?_
      obtain ⟨d, hd, f1, f2, f3, f4, f5, f6, f7⟩ := fin _ v5 (repL a b) (j1.set 3 v5) (by unfold repL; rw [if_pos h2, List.map_append]; exact ho5.blk fun k hk => Below.heap_setCell _ _ _ _ (fun e => by have := lb5 k hk; simp at e; omega)) (Bk.setOther j2 (by omega) _ _) (below_set j3 (by omega) _ _) (repL_len a b) (repL_I ha hb)
      refine vl_nil ?_
      refine v_seq ?_
      refine v_region ?_
      refine vl_val (os_loadB Try.underlying35 rfl (by kernel_rfl) rfl ((j1.set 3 v5))) ?_
      refine vl_unit (ou_storeB (by kernel_rfl) rfl rfl (Bk.setOther j2 (by omega) _ _) rfl (one4 (OwnP.one ho5))) ?_
      refine vl_nil ?_
      refine v_ret ?_
      exact post_cell rfl rfl Try.underlying35 rfl (by kernel_rfl) (setRow_bk (Bk.setOther j2 (by omega) _ _) [.int .i64 7, .int .i64 sq, .int .i64 2, v5]) ⟨d, by rw [hd], f1, f2, f3, f4, by rw [← hd] at f5; exact f5, by rw [← hd] at f6; exact f6, by rw [← hd] at f7; exact f7⟩
    · obtain ⟨d, hd, f1, f2, f3, f4, f5, f6, f7⟩ := fin _ V (repL a b) k1 (by unfold repL; rw [if_neg h2, List.append_nil]; exact k2) k3 k4 (repL_len a b) (repL_I ha hb)
      refine v_skip ?_
      refine v_seq ?_
      refine v_region ?_
      refine vl_val (os_loadB Try.underlying35 rfl (by kernel_rfl) rfl (k1)) ?_
      refine vl_unit (ou_storeB (by kernel_rfl) rfl rfl k3 rfl (one4 (OwnP.one k2))) ?_
      refine vl_nil ?_
      refine v_ret ?_
      exact post_cell rfl rfl Try.underlying35 rfl (by kernel_rfl) (setRow_bk k3 [.int .i64 7, .int .i64 sq, .int .i64 2, V]) ⟨d, by rw [hd], f1, f2, f3, f4, by rw [← hd] at f5; exact f5, by rw [← hd] at f6; exact f6, by rw [← hd] at f7; exact f7⟩

theorem law24_report (sq a b : Int) (w : World) (hs : I64 sq) (ha : I64 a) (hb : I64 b) : Gives Try.prog 29 #[.int .i64 sq, .int .i64 a, .int .i64 b] w fun v w' => ∃ d : NoteV, v = .agg d.cells.toArray ∧ d.st = 7 ∧ d.sq = sq ∧ d.n = 2 ∧ d.cs = repL a b ∧ NoteOk w' d ∧ Below w.heap.size w w' :=
  (law24_reportB sq a b w hs ha hb).mono fun v w' ⟨d, h1, h2, h3, h4, h5, h6, h7, _⟩ => ⟨d, h1, h2, h3, h4, h5, h6, h7⟩

theorem why_first (d : NoteV) (hs : d.st = 7) (hq : d.sq = 1) (hn : d.n = 2) (hc : d.cs = repL 1 1) (hl : d.l = d.cs.length) : rightN d = true ∧ whyN 7 2 0 d = 0 ∧ whyN 7 2 1 d = 14 := by
  have hr : rightN d = true := by
    unfold rightN
    rw [hs, hq, hn, hc]; decide
  have hl2 : d.l = 2 := by rw [hl, hc]; decide
  refine ⟨hr, why_ok.2 ⟨hr, hs, hn, by omega, by omega⟩, ?_⟩
  unfold whyN
  rw [hr, hs, hn, hq]
  simp
theorem first_parts (d : NoteV) (hc : d.cs = repL 1 1) : hearP (newP 2) 2 d = [0, 4096, 61440] := by
  unfold hearP
  rw [hc]; decide +kernel
theorem whyI {a : Int} {b : Prop} (h : a = 0) : a = 0 := h
set_option maxHeartbeats 4000000 in
theorem law24_awake (w : World) : Gives Try.prog 15 #[] w fun v w' => v = .bool true ∧ Below w.heap.size w w' := by
  have i1 : I64 1 := I64_1
  refine gives_enter Try.call15 Try.func15 rfl rfl rfl (by kernel_rfl) ?_
  refine v_seq ?_
  refine v_region ?_
  refine vl_val (os_assign rfl) ?_
  refine vl_nil ?_
  refine v_seq ?_
  refine v_region ?_
  refine vl_call (guess_New 7 2 w I64_7 I64_2) rfl ?_
  rintro v1 w1 ⟨b1, h1⟩
  rcases h1 with ⟨h1, _⟩ | ⟨_, rfl, hG⟩
  · exact absurd h1 (by decide)
  refine vl_val (os_move rfl) ?_
  refine vl_val (os_extract rfl rfl) ?_
  refine vl_val (os_extract rfl rfl) ?_
  refine vl_val (os_assign rfl) ?_
  refine vl_val (os_assign rfl) ?_
  refine vl_nil ?_
  refine v_seq ?_
  refine v_seq ?_
  refine v_region ?_
  refine vl_val (os_move rfl) ?_
  refine vl_val (os_f (os_neq rfl rfl) (by decide)) ?_
  refine vl_val (os_move rfl) ?_
  refine vl_valg rfl (os_move rfl) ?_
  refine vl_callg rfl (guess_Parts hG) rfl ?_
  rintro v2 w2 ⟨o2, b2⟩
  obtain ⟨A2, c2, rfl, -, -, r2, -⟩ := OwnK.form o2
  have hl2 : (newP 2).length = 3 := by decide
  have b2w := b1.trans (b2.mono b1.size)
  refine vl_valg rfl (os_lit Try.underlying40 Try.sizeOf3 Try.zeroValue3 rfl rfl rfl rfl (by decide)) ?_
  refine vl_callg rfl (gives_boolb (kit_SameInts A2 _ _ 3 c2 3 (newP 2) [0, 0, 65536] _ (Rd.alloc r2 _) (rd_alloc w2 .i64 [0, 0, 65536] 3) rfl rfl (by decide) (by decide)) (decide_eq_true (by decide))) rfl ?_
  rintro v3 w3 ⟨rfl, d3⟩
  have a2 : Below w2.heap.size w2 (w2.alloc (.cells (([0, 0, 65536] : List Int).map (Value.int .i64)).toArray 3)) := (Below.refl _ w2).alloc (Nat.le_refl _) _
  have b23 : Below w2.heap.size w2 w3 := a2.trans ((led_below d3).mono a2.size)
  have b3w := b2w.trans (b23.mono b2w.size)
  have hG3 := (hG.keep b2).keep b23
  refine vl_valg rfl (os_not rfl) ?_
  refine vl_val (os_pick_f rfl rfl) ?_
  refine vl_val (os_move rfl) ?_
  refine vl_valg rfl (os_move rfl) ?_
  refine vl_callg rfl (law24_report 1 1 1 w3 i1 i1 i1) rfl ?_
  rintro v4 w4 ⟨d, rfl, f1, f2, f3, f4, hd, b4⟩
  have b4w := b3w.trans (b4.mono b3w.size)
  obtain ⟨y1, y2, y3⟩ := why_first d f1 f2 f3 f4 hd.2.1
  refine vl_callg rfl (guess_Hear w.heap.size (newP 2) 7 2 0 d w4 (hG3.keep b4) hd w.heap.size (Nat.le_refl _) b4w.size) rfl ?_
  rintro v5 w5 ⟨rfl, b5, -, -, hG5⟩
  rw [y2]
  refine vl_valg rfl (os_neq rfl rfl) ?_
  refine vl_val (os_pick_f rfl rfl) ?_
  refine vl_nil ?_
  refine v_cond_no rfl (by decide) ?_
  have hG5 := hG5 y2
  rw [first_parts d f4, f2] at hG5
  have b5w := b4w.trans b5
  refine v_skip ?_
  refine v_seq ?_
  refine v_region ?_
  refine vl_val (os_move rfl) ?_
  refine vl_call (guess_Parts hG5) rfl ?_
  rintro v6 w6 ⟨o6, b6⟩
  obtain ⟨A6, c6, rfl, -, -, r6, -⟩ := OwnK.form o6
  have b6w := b5w.trans (b6.mono b5w.size)
  refine vl_val (os_lit Try.underlying40 Try.sizeOf3 Try.zeroValue3 rfl rfl rfl rfl (by decide)) ?_
  refine vl_call (gives_boolb (kit_SameInts A6 _ _ 3 c6 3 [0, 4096, 61440] [0, 4096, 61440] _ (Rd.alloc r6 _) (rd_alloc w6 .i64 [0, 4096, 61440] 3) rfl rfl (by decide) (by decide)) (decide_eq_true rfl)) rfl ?_
  rintro v7 w7 ⟨rfl, d7⟩
  have a6 : Below w6.heap.size w6 (w6.alloc (.cells (([0, 4096, 61440] : List Int).map (Value.int .i64)).toArray 3)) := (Below.refl _ w6).alloc (Nat.le_refl _) _
  have b67 : Below w6.heap.size w6 w7 := a6.trans ((led_below d7).mono a6.size)
  have b7w := b6w.trans (b67.mono b6w.size)
  refine vl_val (os_move rfl) ?_
  refine vl_valg rfl (os_move rfl) ?_
  refine vl_callg rfl (law24_report 1 1 1 w7 i1 i1 i1) rfl ?_
  rintro v8 w8 ⟨d2, rfl, q1, q2, q3, q4, hd2, b8⟩
  have b8w := b7w.trans (b8.mono b7w.size)
  obtain ⟨y4, y5, y6⟩ := why_first d2 q1 q2 q3 q4 hd2.2.1
  have hG8 := ((hG5.keep b6).keep b67).keep b8
  refine vl_callg rfl (guess_Hear w.heap.size [0, 4096, 61440] 7 2 1 d2 w8 hG8 hd2 w.heap.size (Nat.le_refl _) b8w.size) rfl ?_
  rintro v9 w9 ⟨rfl, b9, -, hG9, -⟩
  refine vl_valg rfl (os_t (os_eql rfl rfl) (y6)) ?_
  have hG9 := hG9 (by rw [y6]; decide)
  refine vl_val (os_pick_t rfl rfl) ?_
  refine vl_val (os_move rfl) ?_
  refine vl_valg rfl (os_move rfl) ?_
  refine vl_callg rfl (guess_Seq hG9) rfl ?_
  rintro v10 w9 ⟨rfl, rfl⟩
  refine vl_valg rfl (os_eql rfl rfl) ?_
  refine vl_val (os_pick_t rfl rfl) ?_
  refine vl_val (os_assign rfl) ?_
  refine vl_nil ?_
  refine v_ret ?_
  exact post_ret rfl rfl (⟨rfl, b8w.trans b9⟩)
end Go.Proofs.Ytpjmiafefammkaa

/- Rows that lie apart, each with marks of its own: what stays, what is owned while they are written over and grown. No program in sight. -/
namespace Go.Proofs.Ytpjmiafefammkaa
open Go.RowKit
set_option linter.unusedVariables false

/-- v' is v, longer, in the same row -/
def Ext (v v' : Value) : Prop := ∃ b n m c, v = .slice (some ⟨b, 0, none⟩) n c ∧ v' = .slice (some ⟨b, 0, none⟩) m c ∧ n ≤ m

section
variable {P : Program} {n : Cx} {fr : Fr} {w w' : World} {ty : TypeId} {x y z : Operand} {v u : Value} {T T2 e : TypeId} {op : Op}
/-- append(s, x...) of some: in the same row, or in a new one while all old rows stay -/
theorem ot_append_s {A : Option Addr} {m c : Nat} {cs news : List Value} {z0 : Value} {bytes : Nat} {B : Nat} (hT : P.underlying T = some (.slice e)) (hi : TyInfo P e z0 1 bytes) (hz : z0.cells.size = 1) (hx : Fr.ev fr x = some v) (hy : Fr.ev fr y = some (.slice A m c))
    (ho : Own w B e v cs) (hr : RdC w A news) (hm : m = news.length) (h1 : ∀ u ∈ news, u.oneCell' = true) (hb : (cs.length + m) * bytes ≤ 140737488355328) (hl : cs.length + m ≤ maxLen) (hB : B ≤ w.heap.size) (h0 : 0 < news.length) :
    OT P n (.call ⟨.builtin .append, #[x, y], #[T, T]⟩) ty fr w fun v' w' => Own w' B e v' (cs ++ news) ∧ w.grownBy w' v.ownBlock ∧ (Ext v v' ∨ (v'.ownBlock = some w.heap.size ∧ w.grownBy w' none)) := by
  obtain ⟨i, i1, i2, i3, i4⟩ := info_parts hi
  obtain ⟨b, o, rfl, hc⟩ := hr h0
  have hnews : ∀ j u, news[j]? = some u → w.cell? ((⟨b, o, none⟩ : Addr).add j) = some u := fun j u hu => by
    have hj := (List.getElem?_eq_some_iff.1 hu).1
    rw [addr_add, hc j hj]; exact hu
  obtain ⟨v', w', hrun, ho', hg, _, hown⟩ := run_append_own_at (P := P) w B T ty e i z0 1 bytes hT i1 i2 i3 i4 hz (by omega) v cs.length cs ho ⟨b, o, none⟩ m c news (by omega) hnews h1 hl hb hB
  have key : Ext v v' ∨ (v'.ownBlock = some w.heap.size ∧ w.grownBy w' none) := by
    have hl2 : cs.length + m ≤ 9223372036854775807 := by simp only [maxLen] at hl; omega
    rcases ho.2 with ⟨rfl, hn⟩ | ⟨g, cap, cur, rfl, hbg, hgg, hnc, hcm, hcs, htake⟩
    · have hr2 := run_append_nil (P := P) w T ty e i z0 hT i1 i2 ⟨b, o, none⟩ m c news (by rw [i3]; omega) hnews (by omega) (by omega) (by rw [i4]; rw [hn] at hb; simp only [Nat.zero_add] at hb; omega)
      rw [hr2] at hrun
      injection hrun with e1 e2
      subst e1; subst e2
      exact .inr ⟨rfl, ⟨rfl, rfl, rfl, by simp, fun k hk _ => heap_alloc_old w.drew _ hk⟩⟩
    · by_cases hroom : cs.length + m ≤ cap
      · have hr2 := run_append_room (P := P) w T ty e i hT i1 g cs.length cap cur hgg ⟨b, o, none⟩ m c news (by rw [i3]; omega) hnews h1 hroom (by rw [i3, hcs]; omega)
        rw [hr2] at hrun
        injection hrun with e1 e2
        subst e1; subst e2
        exact .inl ⟨g, _, _, cap, rfl, rfl, by omega⟩
      · have hr2 := run_append_grow (P := P) w T ty e i z0 hT i1 i2 ⟨g, 0, none⟩ cs.length cap cs (by rw [i3]; omega) (ho.cells (g := g) rfl) ⟨b, o, none⟩ m c news (by rw [i3]; omega) hnews (by omega) (by omega) (growslice_fits (by omega) (by rw [i4]; exact hb))
        rw [hr2] at hrun
        injection hrun with e1 e2
        subst e1; subst e2
        exact .inr ⟨rfl, ⟨rfl, rfl, rfl, by simp, fun k hk _ => heap_alloc_old w.drew _ hk⟩⟩
  refine ot_of fun a ha => ⟨v', w', by simp [execOp, resolve, invoke, builtin, ha.ev hx, ha.ev hy, hrun, Result.andThen], ?_, hg, key⟩
  unfold Own
  rw [List.length_append, ← hm]
  exact ho'
end

theorem Own.uniq {w B B' t v cs cs'} (h : Own w B t v cs) (h' : Own w B' t v cs') : cs = cs' := by
  rcases h.2 with ⟨rfl, h0⟩ | ⟨g, cap, cur, rfl, _, hg, _, _, _, ht⟩
  · rcases h'.2 with ⟨_, h0'⟩ | ⟨g', cap', cur', e, _⟩
    · rw [List.eq_nil_of_length_eq_zero h0, List.eq_nil_of_length_eq_zero h0']
    · cases e
  · rcases h'.2 with ⟨e, _⟩ | ⟨g', cap', cur', e, _, hg', _, _, _, ht'⟩
    · cases e
    · injection e with e1 e2 e3
      injection e1 with e1
      injection e1 with e1
      subst e1
      rw [hg] at hg'
      cases hg'
      rw [← ht, ← ht', e2]

/-- the rows of s and of g, of which the one has grown out of the other: in one row, or in two -/
def Rel (s g : Value) : Prop := Ext s g ∨ sep s g
theorem Rel.refl {w B t cs s} (h : Own w B t s cs) : Rel s s := by
  rcases h.2 with ⟨rfl, _⟩ | ⟨g, cap, cur, rfl, _⟩
  · exact .inr fun x hx => by cases hx
  · exact .inl ⟨g, _, _, cap, rfl, rfl, Nat.le_refl _⟩
theorem Ext.block {v v'} (h : Ext v v') : v'.ownBlock = v.ownBlock := by obtain ⟨b, n, m, c, rfl, rfl, _⟩ := h; rfl
theorem Rel.ext {s g g'} (h : Rel s g) (he : Ext g g') : Rel s g' := by
  rcases h with h | h
  · obtain ⟨b, n, m, c, rfl, rfl, hn⟩ := h
    obtain ⟨b', n', m', c', e, rfl, hn'⟩ := he
    cases e
    exact .inl ⟨b, n, _, c, rfl, rfl, by omega⟩
  · exact .inr fun x hx => by rw [he.block]; exact h x hx
/-- the elder stays owned, and what it holds -/
theorem Own.elder {w w' B t s g g' cs xs ys} (hs : Own w B t s cs) (hg : Own w B t g xs) (hr : Rel s g) (hgr : w.grownBy w' g.ownBlock) (hk : Ext g g' ∨ (g'.ownBlock = some w.heap.size ∧ w.grownBy w' none)) (hg' : Own w' B t g' (xs ++ ys)) : Own w' B t s cs ∧ Rel s g' := by
  rcases hk with he | ⟨he, hn⟩
  · refine ⟨?_, hr.ext he⟩
    rcases hr with h | h
    · obtain ⟨b, n, m, c, rfl, rfl, hn⟩ := h
      obtain ⟨b', n', m', c', e, rfl, hn'⟩ := he
      cases e
      have h1 := Own.cut hg hn
      have h2 := Own.uniq hs h1
      have h3 := Own.cut hg' (m := n) (by omega)
      have hl := hg.len
      rw [List.take_append_of_le_length (by omega), ← h2] at h3
      exact h3
    · exact Own.other hs hgr (sep.other h.symm)
  · refine ⟨Own.other hs hn (by cases s.ownBlock <;> simp), .inr fun x hx => ?_⟩
    rw [he]
    intro e; cases e
    have := (World.ownsRow.lt hs _ hx).2
    omega

/-! ### many rows -/
/-- the row of v bears the label j, and is one of S or a new one -/
def Lb (S : List Nat) (Z : Nat) (lab : Nat → Nat) (v : Value) (j : Nat) : Prop := ∀ b, v.ownBlock = some b → lab b = j ∧ (b ∈ S ∨ Z ≤ b)
structure Fl (w0 : World) (B : Nat) (t tt : TypeId) (S : List Nat) (A : Option Addr) (ss : List Value) (lab : Nat → Nat) (cc : Nat → List Value) (gv : Value) (gs : List Value) (x : Nat) (dd : Nat → List Value) (w : World) : Prop where
  kb : Kb S w0 w
  low : B ≤ w0.heap.size
  row : RdC w A ss
  led : ∀ b o, A = some ⟨b, o, none⟩ → lab b = ss.length + 1 ∧ b < w0.heap.size ∧ b ∉ S
  own : ∀ j v, ss[j]? = some v → Own w B t v (cc j) ∧ Lb S w0.heap.size lab v j
  gown : Own w B tt gv gs ∧ ∀ b, gv.ownBlock = some b → lab b = ss.length ∧ w0.heap.size ≤ b
  xle : x ≤ ss.length
  own2 : ∀ j v, j < x → gs[j]? = some v → Own w B t v (dd j) ∧ Lb S w0.heap.size lab v j

section
variable {w0 w w' : World} {B : Nat} {t tt : TypeId} {S : List Nat} {A : Option Addr} {ss gs : List Value} {lab : Nat → Nat} {cc dd : Nat → List Value} {gv : Value} {x : Nat}
theorem Lb.lt {Z v j} (h : Lb S Z lab v j) {b : Nat} (hb : v.ownBlock = some b) : lab b = j := (h b hb).1
theorem Lb.upd {Z v j cs} (h : Lb S Z lab v j) (ho : Own w B t v cs) {lab' : Nat → Nat} (hl : ∀ b, b < w.heap.size → lab' b = lab b) : Lb S Z lab' v j := fun b hb => by
  rw [hl b (World.ownsRow.lt ho b hb).2]; exact h b hb
theorem Fl.upd (h : Fl w0 B t tt S A ss lab cc gv gs x dd w) {lab' : Nat → Nat} (hl : ∀ b, b < w.heap.size → lab' b = lab b) : Fl w0 B t tt S A ss lab' cc gv gs x dd w :=
  ⟨h.kb, h.low, h.row, fun b o e => by
      have h1 := h.led b o e
      have h2 := h.kb.size
      rw [hl b (by omega)]; exact h1,
    fun j v hv => ⟨(h.own j v hv).1, (h.own j v hv).2.upd (h.own j v hv).1 hl⟩,
    ⟨h.gown.1, fun b hb => by rw [hl b (World.ownsRow.lt h.gown.1 b hb).2]; exact h.gown.2 b hb⟩, h.xle,
    fun j v hj hv => ⟨(h.own2 j v hj hv).1, (h.own2 j v hj hv).2.upd (h.own2 j v hj hv).1 hl⟩⟩
theorem RdC.kb {S : List Nat} {cs : List Value} (h : RdC w A cs) (hb : Kb S w w') (hA : ∀ b o, A = some ⟨b, o, none⟩ → b ∉ S) : RdC w' A cs := by
  intro hl
  obtain ⟨b, off, e, hc⟩ := h hl
  refine ⟨b, off, e, fun i hi => ?_⟩
  have h1 := hc i hi
  rw [List.getElem?_eq_getElem hi] at h1
  have hlt := World.block_lt_of_cell? w ⟨b, off + i, none⟩ h1
  rw [← hc i hi]
  unfold World.cell?
  simp only [hb.block b hlt (hA b off e)]
/-- a step elsewhere -/
theorem Fl.away (h : Fl w0 B t tt S A ss lab cc gv gs x dd w) {S' : List Nat} (hb : Kb S' w w') (hS : ∀ b ∈ S', (ss.length + 2 ≤ lab b ∧ w0.heap.size ≤ b) ∨ w.heap.size ≤ b) : Fl w0 B t tt S A ss lab cc gv gs x dd w' := by
  have hz := h.kb.size
  have own_ : ∀ {tt v cs j}, Own w B tt v cs → (∀ b, v.ownBlock = some b → lab b = j) → j ≤ ss.length → Own w' B tt v cs := fun ho hl hj => Own.kb ho hb fun g hg hgS => by
    rcases hS g hgS with h1 | h1
    · have := hl g hg; omega
    · have := (World.ownsRow.lt ho g hg).2; omega
  refine ⟨h.kb.trans hb fun k hk => ?_, h.low, RdC.kb h.row hb fun b o e hbS => ?_, h.led, fun j v hv => ⟨own_ (h.own j v hv).1 (fun b hb => ((h.own j v hv).2 b hb).1) (Nat.le_of_lt (List.getElem?_eq_some_iff.1 hv).1), (h.own j v hv).2⟩,
    ⟨own_ h.gown.1 (fun b hb => (h.gown.2 b hb).1) (Nat.le_refl _), h.gown.2⟩, h.xle, fun j v hj hv => ⟨own_ (h.own2 j v hj hv).1 (fun b hb => ((h.own2 j v hj hv).2 b hb).1) (by have := h.xle; omega), (h.own2 j v hj hv).2⟩⟩
  · rcases hS k hk with h1 | h1
    · exact .inr h1.2
    · exact .inr (by omega)
  · have h1 := h.led b o e
    rcases hS b hbS with h2 | h2 <;> omega
theorem Fl.below (h : Fl w0 B t tt S A ss lab cc gv gs x dd w) (hb : Below w.heap.size w w') : Fl w0 B t tt S A ss lab cc gv gs x dd w' := h.away (S' := []) (Kb.of_below hb) (fun b hb => by cases hb)
theorem Fl.led' (h : Fl w0 B t tt S A ss lab cc gv gs x dd w) (hb : LeD w w') : Fl w0 B t tt S A ss lab cc gv gs x dd w' := h.below (led_below hb)
/-- a step in the rows of label k, of which no other has to know: all but what bears k stays -/
theorem Fl.at_ (h : Fl w0 B t tt S A ss lab cc gv gs x dd w) {k : Nat} (hk : k < ss.length) {S' : List Nat} (hb : Kb S' w w') (hS : ∀ b ∈ S', (lab b = k ∧ (b ∈ S ∨ w0.heap.size ≤ b)) ∨ w.heap.size ≤ b) {cc' : Nat → List Value} (hcc : ∀ j, j ≠ k → cc' j = cc j) (ho : ∀ v, ss[k]? = some v → Own w' B t v (cc' k)) (hx : x ≤ k) :
    Fl w0 B t tt S A ss lab cc' gv gs x dd w' := by
  have hz := h.kb.size
  have own_ : ∀ {tt v cs j}, Own w B tt v cs → (∀ b, v.ownBlock = some b → lab b = j) → j ≠ k → Own w' B tt v cs := fun ho hl hj => Own.kb ho hb fun g hg hgS => by
    rcases hS g hgS with h1 | h1
    · have := hl g hg; omega
    · have := (World.ownsRow.lt ho g hg).2; omega
  refine ⟨h.kb.trans hb fun b hbS => ?_, h.low, RdC.kb h.row hb fun b o e hbS => ?_, h.led, fun j v hv => ⟨?_, (h.own j v hv).2⟩,
    ⟨own_ h.gown.1 (fun b hb => (h.gown.2 b hb).1) (by omega), h.gown.2⟩, h.xle, fun j v hj hv => ⟨own_ (h.own2 j v hj hv).1 (fun b hb => ((h.own2 j v hj hv).2 b hb).1) (by omega), (h.own2 j v hj hv).2⟩⟩
  · rcases hS b hbS with h1 | h1
    · exact h1.2
    · exact .inr (by omega)
  · have h1 := h.led b o e
    rcases hS b hbS with h2 | h2 <;> omega
  · by_cases hj : j = k
    · subst hj; exact ho v hv
    · rw [hcc j hj]; exact own_ (h.own j v hv).1 (fun b hb => ((h.own j v hv).2 b hb).1) hj
/-- a cell of row k is written -/
theorem Fl.set (h : Fl w0 B t tt S A ss lab cc gv gs x dd w) {k g n c : Nat} (hk : ss[k]? = some (.slice (some ⟨g, 0, none⟩) n c)) (hx : x ≤ k) (i : Nat) (u : Value) :
    Fl w0 B t tt S A ss lab (fun j => if j = k then (cc k).set i u else cc j) gv gs x dd (w.setCell ⟨g, 0 + i, none⟩ u) := by
  rw [Nat.zero_add]
  have h1 := h.own k _ hk
  refine h.at_ (List.getElem?_eq_some_iff.1 hk).1 (S' := [g]) (Kb.set (by simp) i u) (fun b hb => ?_) (fun j hj => if_neg hj) (fun v hv => ?_) hx
  · have : b = g := by simpa using hb
    subst this
    exact .inl (h1.2 b rfl)
  · rw [hk] at hv; cases hv
    rw [if_pos rfl]
    exact Own.set h1.1 i u
/-- the new lists' row is made -/
theorem Fl.made (h : Fl w0 B t tt S A ss lab cc (.slice none 0 0) [] 0 dd w) {v : Value} {n c : Nat} (hg : w.grownBy w' none) (hv : v = .slice (some ⟨w.heap.size, 0, none⟩) n c) {gs : List Value} (ho : Own w' w.heap.size tt v gs) :
    Fl w0 B t tt S A ss (fun b => if b = w.heap.size then ss.length else lab b) cc v gs 0 dd w' := by
  have hz := h.kb.size
  have h1 := (h.below ((Below.refl _ _).grown hg (Nat.le_refl _) (fun k hk => by cases hk))).upd (lab' := fun b => if b = w.heap.size then ss.length else lab b)
  have hl : ∀ b, b < w.heap.size → (if b = w.heap.size then ss.length else lab b) = lab b := fun b hb => if_neg (by omega)
  have h2 := h.upd hl
  have h3 := h2.below ((Below.refl _ _).grown hg (Nat.le_refl _) (fun k hk => by cases hk))
  refine ⟨h3.kb, h3.low, h3.row, h3.led, h3.own, ⟨ho.mono (by have := h.low; omega), fun b hb => ?_⟩, Nat.zero_le _, fun j v hj => absurd hj (by omega)⟩
  subst hv
  cases hb
  exact ⟨if_pos rfl, by omega⟩
/-- what grows out of row k -/
structure Gr (w0 : World) (B : Nat) (t : TypeId) (S : List Nat) (lab : Nat → Nat) (ss : List Value) (k : Nat) (g : Value) (xs : List Value) (w : World) : Prop where
  own : Own w B t g xs
  lb : Lb S w0.heap.size lab g k
  rel : ∀ v, ss[k]? = some v → Rel v g
theorem Fl.gr (h : Fl w0 B t tt S A ss lab cc gv gs x dd w) {k : Nat} {v : Value} (hk : ss[k]? = some v) : Gr w0 B t S lab ss k v (cc k) w :=
  ⟨(h.own k v hk).1, (h.own k v hk).2, fun u hu => by rw [hk] at hu; cases hu; exact Rel.refl (h.own k v hk).1⟩
theorem Gr.below {k g xs} (h : Gr w0 B t S lab ss k g xs w) (hb : Below w.heap.size w w') : Gr w0 B t S lab ss k g xs w' := ⟨h.own.keepAll hb, h.lb, h.rel⟩
theorem Gr.away {k g xs} (h : Gr w0 B t S lab ss k g xs w) (hk : k < ss.length) {S' : List Nat} (hb : Kb S' w w') (hS : ∀ b ∈ S', ss.length ≤ lab b ∨ w.heap.size ≤ b) : Gr w0 B t S lab ss k g xs w' :=
  ⟨Own.kb h.own hb fun b hbb hbS => by
    have := (h.lb b hbb).1
    have := (World.ownsRow.lt h.own b hbb).2
    rcases hS b hbS with h1 | h1 <;> omega, h.lb, h.rel⟩
theorem Fl.grow (h : Fl w0 B t tt S A ss lab cc gv gs x dd w) {k : Nat} {g g' : Value} {xs ys : List Value} (hk : k < ss.length) (hx : x ≤ k) (hG : Gr w0 B t S lab ss k g xs w) (hg : w.grownBy w' g.ownBlock) (hn : Ext g g' ∨ (g'.ownBlock = some w.heap.size ∧ w.grownBy w' none)) (ho : Own w' B t g' (xs ++ ys)) :
    ∃ lab', Fl w0 B t tt S A ss lab' cc gv gs x dd w' ∧ Gr w0 B t S lab' ss k g' (xs ++ ys) w' := by
  have hz := h.kb.size
  have hl : ∀ b, b < w.heap.size → (if b = w.heap.size then k else lab b) = lab b := fun b hb => if_neg (by omega)
  have hkb : Kb g.ownBlock.toList w w' := Kb.grown hg (fun b hb => by rw [hb]; simp)
  refine ⟨fun b => if b = w.heap.size then k else lab b, (h.upd hl).at_ hk hkb (fun b hb => ?_) (fun _ _ => rfl) (fun v hv => (Own.elder (h.own k v hv).1 hG.own (hG.rel v hv) hg hn ho).1) hx, ho, fun b hb => ?_, fun v hv => (Own.elder (h.own k v hv).1 hG.own (hG.rel v hv) hg hn ho).2⟩
  · have hb' : g.ownBlock = some b := by simpa using hb
    have h1 := hG.lb b hb'
    rw [if_neg (by have := (World.ownsRow.lt hG.own b hb').2; omega)]
    exact .inl h1
  · rcases hn with he | ⟨he, _⟩
    · rw [he.block] at hb
      rw [if_neg (by have := (World.ownsRow.lt hG.own b hb).2; omega)]
      exact hG.lb b hb
    · rw [he] at hb; cases hb
      exact ⟨if_pos rfl, .inr hz⟩
/-- what has grown is put into the new lists' row -/
theorem Fl.put {n c G k : Nat} {g : Value} {xs : List Value} (h : Fl w0 B t tt S A ss lab cc (.slice (some ⟨G, 0, none⟩) n c) gs k dd w) (hk : k < ss.length) (hl : gs.length = ss.length) (hG : Gr w0 B t S lab ss k g xs w) :
    Fl w0 B t tt S A ss lab cc (.slice (some ⟨G, 0, none⟩) n c) (gs.set k g) (k + 1) (fun j => if j = k then xs else dd j) (w.setCell ⟨G, 0 + k, none⟩ g) := by
  rw [Nat.zero_add]
  have hz := h.kb.size
  have hGl := h.gown.2 G rfl
  have own_ : ∀ {tt v cs j}, Own w B tt v cs → (∀ b, v.ownBlock = some b → lab b = j) → j < ss.length → Own (w.setCell ⟨G, k, none⟩ g) B tt v cs := fun ho hlb hj => Own.setOther ho (fun b hb e => by have := hlb b hb; rw [e] at this; omega) k g
  have hkb : Kb [G] w (w.setCell ⟨G, k, none⟩ g) := Kb.set (by simp) k g
  refine ⟨h.kb.trans hkb fun b hb => .inr ?_, h.low, RdC.kb h.row hkb fun b o e hb => ?_, h.led, fun j v hv => ⟨own_ (h.own j v hv).1 (fun b hb => ((h.own j v hv).2 b hb).1) (List.getElem?_eq_some_iff.1 hv).1, (h.own j v hv).2⟩, ⟨Own.set h.gown.1 k g, h.gown.2⟩, by omega, fun j v hj hv => ?_⟩
  · have : b = G := by simpa using hb
    rw [this]; exact hGl.2
  · have h1 := h.led b o e
    have : b = G := by simpa using hb
    rw [this] at h1; omega
  · by_cases hjk : j = k
    · subst hjk
      rw [List.getElem?_set_self (by omega)] at hv
      cases hv
      rw [if_pos rfl]
      exact ⟨own_ hG.own (fun b hb => (hG.lb b hb).1) hk, hG.lb⟩
    · rw [List.getElem?_set_ne (fun e => hjk e.symm)] at hv
      rw [if_neg hjk]
      have h2 := h.own2 j v (by omega) hv
      exact ⟨own_ h2.1 (fun b hb => (h2.2 b hb).1) (by omega), h2.2⟩
theorem Fl.less (h : Fl w0 B t tt S A ss lab cc gv gs x dd w) {y : Nat} (hy : y ≤ x) : Fl w0 B t tt S A ss lab cc gv gs y dd w :=
  ⟨h.kb, h.low, h.row, h.led, h.own, h.gown, by have := h.xle; omega, fun j v hj hv => h.own2 j v (by omega) hv⟩
theorem Fl.congr (h : Fl w0 B t tt S A ss lab cc gv gs x dd w) {cc' : Nat → List Value} (hc : ∀ j, j < ss.length → cc' j = cc j) : Fl w0 B t tt S A ss lab cc' gv gs x dd w :=
  ⟨h.kb, h.low, h.row, h.led, fun j v hv => by rw [hc j (List.getElem?_eq_some_iff.1 hv).1]; exact h.own j v hv, h.gown, h.xle, h.own2⟩
theorem Fl.congr2 (h : Fl w0 B t tt S A ss lab cc gv gs x dd w) {dd' : Nat → List Value} (hc : ∀ j, j < x → dd' j = dd j) : Fl w0 B t tt S A ss lab cc gv gs x dd' w :=
  ⟨h.kb, h.low, h.row, h.led, h.own, h.gown, h.xle, fun j v hj hv => by rw [hc j hj]; exact h.own2 j v hj hv⟩
end

theorem RdC.get {w : World} {b o i : Nat} {cs : List Value} {v : Value} (h : RdC w (some ⟨b, o, none⟩) cs) (hv : cs[i]? = some v) : w.cell? ⟨b, o + i, none⟩ = some v := by
  have hi := (List.getElem?_eq_some_iff.1 hv).1
  obtain ⟨b', o', e, hc⟩ := h (by omega)
  cases e
  rw [hc i hi]; exact hv
theorem Own.get {w : World} {B t g n c i : Nat} {cs : List Value} {v : Value} (h : Own w B t (.slice (some ⟨g, 0, none⟩) n c) cs) (hv : cs[i]? = some v) : w.cell? ⟨g, 0 + i, none⟩ = some v := by
  have hi := (List.getElem?_eq_some_iff.1 hv).1
  rw [Nat.zero_add, Own.cell h hi]
  rw [List.getElem?_eq_getElem hi] at hv; exact hv
theorem Fl.ne_row {w0 w : World} {B : Nat} {t tt : TypeId} {S : List Nat} {bA oA : Nat} {ss gs : List Value} {lab : Nat → Nat} {cc dd : Nat → List Value} {gv : Value} {x k g n c : Nat}
    (h : Fl w0 B t tt S (some ⟨bA, oA, none⟩) ss lab cc gv gs x dd w) (hv : ss[k]? = some (.slice (some ⟨g, 0, none⟩) n c)) : bA ≠ g := by
  intro e; subst e
  have h1 := (h.led bA oA rfl).1
  have h2 := ((h.own k _ hv).2 bA rfl).1
  have := (List.getElem?_eq_some_iff.1 hv).1
  omega
def atB (b : Nat) (v : Value) : Bool := match v.ownBlock with
  | some x => x == b
  | none => false
theorem atB_iff {b : Nat} {v : Value} : atB b v = true ↔ v.ownBlock = some b := by
  unfold atB
  cases v.ownBlock <;> simp
open Classical in
/-- the beginning: so many lists of one's own, no two in one row -/
theorem Fl.init {w : World} {B : Nat} {t tt : TypeId} {A : Option Addr} {ss : List Value} {cc dd : Nat → List Value} (hB : B ≤ w.heap.size) (hr : RdC w A ss) (ho : ∀ (j : Nat) (v : Value), ss[j]? = some v → Own w B t v (cc j))
    (hs : ∀ (i j : Nat) (v u : Value), ss[i]? = some v → ss[j]? = some u → i < j → sep v u) (hA : ∀ b o, A = some ⟨b, o, none⟩ → b < w.heap.size ∧ ∀ (j : Nat) (v : Value), ss[j]? = some v → v.ownBlock ≠ some b) :
    ∃ lab, Fl w B t tt (ss.filterMap Value.ownBlock) A ss lab cc (.slice none 0 0) [] 0 dd w := by
  refine ⟨fun b => if (∃ o, A = some ⟨b, o, none⟩) then ss.length + 1 else ss.findIdx (atB b), ?_⟩
  have hfind : ∀ j (v : Value), ss[j]? = some v → ∀ b, v.ownBlock = some b → ss.findIdx (atB b) = j := by
    intro j v hj b hb
    have hjl := (List.getElem?_eq_some_iff.1 hj).1
    have hjv := (List.getElem?_eq_some_iff.1 hj).2
    have hlt : ss.findIdx (atB b) < ss.length := List.findIdx_lt_length_of_exists ⟨v, by rw [← hjv]; exact List.getElem_mem _, atB_iff.2 hb⟩
    have hp' : ss[ss.findIdx (atB b)].ownBlock = some b := atB_iff.1 (List.findIdx_getElem (w := hlt))
    rcases Nat.lt_trichotomy (ss.findIdx (atB b)) j with h1 | h1 | h1
    · exact absurd hb (hs _ _ _ _ (List.getElem?_eq_getElem hlt) hj h1 b hp')
    · exact h1
    · exact absurd hp' (hs _ _ _ _ hj (List.getElem?_eq_getElem hlt) h1 b hb)
  refine ⟨Kb.refl _ _, hB, hr, fun b o e => ⟨if_pos ⟨o, e⟩, (hA b o e).1, fun hb => ?_⟩, fun j v hv => ⟨ho j v hv, fun b hb => ⟨?_, .inl (List.mem_filterMap.2 ⟨v, List.mem_of_getElem? hv, hb⟩)⟩⟩, ⟨Own.nil _ _ _, fun b hb => by cases hb⟩, Nat.zero_le _, fun j v hj => absurd hj (by omega)⟩
  · obtain ⟨v, hv, hb⟩ := List.mem_filterMap.1 hb
    obtain ⟨j, hj⟩ := List.mem_iff_getElem?.1 hv
    exact (hA b o e).2 j v hj hb
  · dsimp only
    rw [if_neg (fun he => by obtain ⟨o, e⟩ := he; exact (hA b o e).2 j v hv hb)]
    exact hfind j v hv b hb

theorem sep_lt {w w' : World} {B B' : Nat} {t t' : TypeId} {v u : Value} {cs cs' : List Value} (h : Own w B t v cs) (h' : Own w' B' t' u cs') (hB : w.heap.size ≤ B') : sep v u := fun x hx hu => by
  have h1 := (World.ownsRow.lt h x hx).2
  have h2 := (World.ownsRow.lt h' x hu).1
  omega
theorem all2 {P : Nat → Value → Prop} {a b : Value} (h0 : P 0 a) (h1 : P 1 b) : ∀ (j : Nat) (v : Value), [a, b][j]? = some v → P j v := by
  intro j v hj
  rcases j with _ | _ | j
  · cases hj; exact h0
  · cases hj; exact h1
  · simp at hj
theorem all3 {P : Nat → Value → Prop} {a b c : Value} (h0 : P 0 a) (h1 : P 1 b) (h2 : P 2 c) : ∀ (j : Nat) (v : Value), [a, b, c][j]? = some v → P j v := by
  intro j v hj
  rcases j with _ | _ | _ | j
  · cases hj; exact h0
  · cases hj; exact h1
  · cases hj; exact h2
  · simp at hj
theorem sep3 {a b c : Value} (h1 : sep a b) (h2 : sep a c) (h3 : sep b c) : ∀ (i j : Nat) (v u : Value), [a, b, c][i]? = some v → [a, b, c][j]? = some u → i < j → sep v u := by
  intro i j v u hi hj hij
  rcases i with _ | _ | _ | i <;> rcases j with _ | _ | _ | j <;> simp at hi hj <;> (try omega) <;> subst hi <;> subst hj <;> assumption
theorem nat3 {Q : Nat → Prop} (h0 : Q 0) (h1 : Q 1) (h2 : Q 2) : ∀ j, j < 3 → Q j := by
  intro j hj
  rcases j with _ | _ | _ | j
  · exact h0
  · exact h1
  · exact h2
  · omega
theorem own_low {w : World} {B : Nat} {t : TypeId} {ss : List Value} {cc : Nat → List Value} (h : ∀ (j : Nat) (v : Value), ss[j]? = some v → Own w B t v (cc j)) : ∀ k ∈ ss.filterMap Value.ownBlock, B ≤ k := by
  intro k hk
  obtain ⟨x, hx, hxb⟩ := List.mem_filterMap.1 hk
  obtain ⟨j, hj⟩ := List.mem_iff_getElem?.1 hx
  exact (World.ownsRow.lt (h j x hj) k hxb).1
end Go.Proofs.Ytpjmiafefammkaa
