/- Texts joined: HdM. -/
import Derived.Test.YtlfkhnchceoinaaM22
/- Layer 14: the walk of HeadLike. -/
namespace Go.Proofs.Ytlfkhnchceoinaa
open Go.RowKit
set_option linter.unusedVariables false

/-- the last bit turned -/
def xor1 (x : Int) : Int := IntKind.i64.wrap ((BitVec.ofInt 64 x ^^^ BitVec.ofInt 64 1).toNat : Nat)
theorem xor1_I64 (x : Int) : I64 (xor1 x) := by
  have h := (BitVec.ofInt 64 x ^^^ BitVec.ofInt 64 1).isLt
  unfold xor1 IntKind.wrap
  simp only [IntKind.bits, IntKind.signed, Bool.true_and, Nat.reduceSub]
  generalize (BitVec.ofInt 64 x ^^^ BitVec.ofInt 64 1).toNat = m at *
  split <;> rename_i hc <;> simp at hc <;> exact ⟨by omega, by omega⟩
theorem ofInt_wrap (m : Nat) (hm : m < 2 ^ 64) : (BitVec.ofInt 64 (IntKind.i64.wrap (m : Int))).toNat = m := by
  rw [BitVec.toNat_ofInt]
  unfold IntKind.wrap
  simp only [IntKind.bits, IntKind.signed, Bool.true_and, Nat.reduceSub]
  split <;> rename_i hc <;> simp at hc <;> omega
theorem xor1_ne (x : Int) : xor1 x ≠ x := by
  intro h
  have hm := (BitVec.ofInt 64 x ^^^ BitVec.ofInt 64 1).isLt
  have h1 := ofInt_wrap _ hm
  have h2 : BitVec.ofInt 64 x = BitVec.ofInt 64 x ^^^ BitVec.ofInt 64 1 := BitVec.eq_of_toNat_eq (by
    unfold xor1 at h
    rw [h] at h1
    exact h1)
  have h3 := congrArg (BitVec.ofInt 64 x ^^^ ·) h2
  simp only [← BitVec.xor_assoc, BitVec.xor_self, BitVec.zero_xor] at h3
  exact absurd h3 (by decide)
theorem flat_set1 (rows : List (Int × Int)) : ∀ (k : Nat) (a : Int), k < rows.length → ((rows.map rowC).flatten).set (k * 2 + 1) (.int .i64 a) = ((rows.set k ((rows.getD k (0, 0)).1, a)).map rowC).flatten := by
  induction rows with
  | nil => intro k a h; simp at h
  | cons x r ih =>
    intro k a h
    rcases k with _ | k
    · rfl
    · have h' := ih k a (by simpa using h)
      simp only [List.map_cons, List.flatten_cons, List.set_cons_succ, List.getD_cons_succ] at h' ⊢
      rw [← h']
      rw [List.set_append_right (h := by simp [rowC]; omega)]
      congr 2
      simp [rowC]; omega
theorem flat_set0 (rows : List (Int × Int)) : ∀ (k : Nat) (a : Int), k < rows.length → ((rows.map rowC).flatten).set (k * 2) (.int .i64 a) = ((rows.set k (a, (rows.getD k (0, 0)).2)).map rowC).flatten := by
  induction rows with
  | nil => intro k a h; simp at h
  | cons x r ih =>
    intro k a h
    rcases k with _ | k
    · rfl
    · have h' := ih k a (by simpa using h)
      simp only [List.map_cons, List.flatten_cons, List.set_cons_succ, List.getD_cons_succ] at h' ⊢
      rw [← h']
      rw [List.set_append_right (h := by simp [rowC]; omega)]
      congr 2
      simp [rowC]; omega
theorem OwnP.set1 {w : World} {B : Nat} {t : TypeId} {g n c : Nat} {rows : List (Int × Int)} (h : OwnP w B t 2 (.slice (some ⟨g, 0, none⟩) n c) (rows.map rowC)) {k : Nat} (hk : k < rows.length) (hn : n = rows.length) (a : Int) :
    OwnP (w.setCell ⟨g, k * 2 + 1, none⟩ (.int .i64 a)) B t 2 (.slice (some ⟨g, 0, none⟩) n c) ((rows.set k ((rows.getD k (0, 0)).1, a)).map rowC) := by
  have h2 := h.2
  subst hn
  rw [List.length_map] at h2
  refine ⟨rowC_len _, ?_⟩
  have := (World.ownsRow.stored h2 (k * 2 + 1) (.int .i64 a)).1
  rw [flat_set1 rows k a hk] at this
  rw [List.length_map, List.length_set]
  exact this
theorem OwnP.set0 {w : World} {B : Nat} {t : TypeId} {g n c : Nat} {rows : List (Int × Int)} (h : OwnP w B t 2 (.slice (some ⟨g, 0, none⟩) n c) (rows.map rowC)) {k : Nat} (hk : k < rows.length) (hn : n = rows.length) (a : Int) :
    OwnP (w.setCell ⟨g, k * 2, none⟩ (.int .i64 a)) B t 2 (.slice (some ⟨g, 0, none⟩) n c) ((rows.set k (a, (rows.getD k (0, 0)).2)).map rowC) := by
  have h2 := h.2
  subst hn
  rw [List.length_map] at h2
  refine ⟨rowC_len _, ?_⟩
  have := (World.ownsRow.stored h2 (k * 2) (.int .i64 a)).1
  rw [flat_set0 rows k a hk] at this
  rw [List.length_map, List.length_set]
  exact this
theorem set_ne1 {rows : List (Int × Int)} {k : Nat} (hk : k < rows.length) : rows ≠ rows.set k ((rows.getD k (0, 0)).1, xor1 (rows.getD k (0, 0)).2) := fun h => by
  have h1 := congrArg (fun l : List (Int × Int) => (l.getD k (0, 0)).2) h
  simp only [List.getD_eq_getElem?_getD, List.getElem?_set_self hk, Option.getD_some] at h1
  exact xor1_ne _ h1.symm
theorem app_ne {rows : List (Int × Int)} {x : Int × Int} : rows ≠ rows ++ [x] := fun h => by
  have := congrArg List.length h
  simp at this
theorem OwnP.free {w : World} {B : Nat} {t : TypeId} {s g n c : Nat} {ps : List (List Value)} (h : OwnP w B t s (.slice (some ⟨g, 0, none⟩) n c) ps) (j : Nat) : w.frozen? ⟨g, j, none⟩ = false := by
  rcases h.2.2 with ⟨h1, _⟩ | ⟨g', cap, cur, h1, _, hg, _⟩
  · cases h1
  · simp only [Value.slice.injEq, Option.some.injEq, Addr.mk.injEq, and_true] at h1
    obtain ⟨rfl, _⟩ := h1
    simp [World.frozen?, hg]
theorem OwnP.type_ne {w : World} {B : Nat} {t t' : TypeId} {s g n c M : Nat} {ps : List (List Value)} {cs : List Value} (h : OwnP w B t s (.slice (some ⟨g, 0, none⟩) n c) ps) (hM : Bk w M cs t') (ht : t ≠ t') : g ≠ M := by
  rintro rfl
  rcases h.2.2 with ⟨h1, _⟩ | ⟨g', cap, cur, h1, _, hg, _⟩
  · cases h1
  · simp only [Value.slice.injEq, Option.some.injEq, Addr.mk.injEq, and_true] at h1
    obtain ⟨rfl, _⟩ := h1
    unfold Bk at hM
    rw [hg] at hM
    injection hM with hM
    injection hM with _ hM
    exact ht hM
theorem getD_mem {rows : List (Int × Int)} {k : Nat} (h : k < rows.length) : rows.getD k (0, 0) ∈ rows := by
  rw [List.getD_eq_getElem?_getD, List.getElem?_eq_getElem h]; exact List.getElem_mem _
theorem HeadOk.ofOwn {w : World} {B : Nat} {t : TypeId} {q : HeadP} {A : Option Addr} {l c : Nat} (o : OwnP w B t 2 (.slice A l c) (q.rows.map rowC)) (hl : l = q.rows.length) (h9 : l ≤ 9000000000000) (hi : I64 q.st ∧ I64 q.fr ∧ I64 q.ix ∧ I64 q.n ∧ I64 q.dl) (hr : ∀ p ∈ q.rows, I64 p.1 ∧ I64 p.2) (hc : l ≤ c) : HeadOk w ⟨q, A, l, c⟩ :=
  ⟨OwnP.rdp o, hl, h9, hi, hr, hc⟩
/-- the copy is not like the header any more -/
def Unlike (w' : World) (M : Nat) (d : HeadV) : Prop := ∃ f : HeadV, Bk w' M f.cells 28 ∧ HeadOk w' f ∧ likeB d.q f.q = false
theorem mem_set_all {P : Int × Int → Prop} {rows : List (Int × Int)} (h : ∀ p ∈ rows, P p) {k : Nat} {x : Int × Int} (hx : P x) : ∀ p ∈ rows.set k x, P p := fun p hp => by
  rcases List.mem_or_eq_of_mem_set hp with h1 | h1
  · exact h p h1
  · rw [h1]; exact hx
set_option maxHeartbeats 4000000 in
theorem law14_HeadLike (d e : HeadV) (index turn : Int) (w : World) (hd : HeadOk w d) (he : HeadOk w e) (hi : I64 index) (ht : I64 turn) : Gives Try.prog 6 #[.agg d.cells.toArray, .agg e.cells.toArray, .int .i64 index, .int .i64 turn] w fun v w' => v = .bool true ∧ Below w.heap.size w w' := by
  have hA0 := bk_new w d.cells 28
  have hb0 : Below w.heap.size w (w.alloc (.cells d.cells.toArray 28)) := (Below.refl _ w).alloc (Nat.le_refl _) _
  have hA := hA0.alloc (.cells e.cells.toArray 28)
  have hB := bk_new (w.alloc (.cells d.cells.toArray 28)) e.cells 28
  have hb1 := hb0.alloc hb0.size (.cells e.cells.toArray 28)
  have l1 := hd.2.1
  have l2 := he.2.1
  have l3 := hd.2.2.1
  have l4 := he.2.2.1
  refine gives_enter Try.call6 Try.func6 rfl rfl rfl (by kernel_rfl) ?_
  refine v_seq ?_
  refine v_region ?_
  refine vl_val (os_box rfl) ?_
  refine vl_val (os_box rfl) ?_
  refine vl_val (os_assign rfl) ?_
  refine vl_nil ?_
  refine v_seq ?_
  refine v_seq ?_
  refine v_region ?_
  refine vl_call (law14_awake _) rfl ?_
  rintro v1 w1 ⟨rfl, b1⟩
  have hA1 := hA.keep b1
  have hB1 := hB.keep b1
  have b1w := hb1.trans (b1.mono hb1.size)
  have sA := hA1.lt
  refine vl_val (os_not rfl) ?_
  refine vl_nil ?_
  refine v_cond_f rfl ?_
  refine v_skip ?_
  refine v_seq ?_
  refine v_seq ?_
  refine v_region ?_
  refine vl_val (os_fa (o := 5) (k := 0) (by kernel_rfl) rfl) ?_
  refine vl_val (os_load Try.isAgg26 rfl (hA1.cell (i := 5) rfl)) ?_
  refine vl_val (os_len Try.underlying26 rfl) ?_
  refine vl_val (os_fa (o := 5) (k := 0) (by kernel_rfl) rfl) ?_
  refine vl_val (os_load Try.isAgg26 rfl (hB1.cell (i := 5) rfl)) ?_
  refine vl_val (os_len Try.underlying26 rfl) ?_
  refine vl_val (os_addi rfl rfl (by omega)) ?_
  refine vl_val (os_gtr rfl rfl) ?_
  refine vl_nil ?_
  refine v_cond_d rfl (fun hbig => ?_) (fun hbig => ?_)
  · refine v_seq ?_
    refine v_region ?_
    refine vl_val (os_assign rfl) ?_
    refine vl_nil ?_
    refine v_ret ?_
    exact post_ret rfl rfl (⟨rfl, b1w⟩)
  · refine v_skip ?_
    refine v_seq ?_
    refine v_region ?_
    refine vl_val (os_loadB Try.underlying28 rfl (by kernel_rfl) rfl (hA1)) ?_
    refine vl_call (kit_CopyHead d w1 (hd.keep b1w) (by omega)) rfl ?_
    rintro v2 w2 ⟨A2, C, rfl, o2, hc2, b2⟩
    have b2w := b1w.trans (b2.mono b1w.size)
    refine vl_val (os_allocB Try.zeroValue28 (zc := _) (cs := zH) rfl) ?_
    have hM0 := bk_new w2 zH 28
    have c1 : Below w2.heap.size w2 (w2.alloc (.cells zH.toArray 28)) := (Below.refl _ _).alloc (Nat.le_refl _) _
    refine vl_unit (ou_storeB (by kernel_rfl) rfl rfl hM0 rfl rfl) ?_
    have hM3 := setRow_bk hM0 (HeadV.cells ⟨d.q, A2, d.l, C⟩)
    have c2 := below_setRow c1 (Nat.le_refl _) (HeadV.cells ⟨d.q, A2, d.l, C⟩).toArray
    refine vl_nil ?_
    refine v_seq ?_
    refine v_region ?_
    refine vl_val (os_move rfl) ?_
    refine vl_val (os_fa (o := 2) (k := 0) (by kernel_rfl) rfl) ?_
    refine vl_unit (ou_store Try.sizeOf3 rfl rfl rfl (hM3.cell (i := 2) rfl) (hM3.free _)) ?_
    have hM4 : Bk _ w2.heap.size (HeadV.cells ⟨{d.q with ix := index}, A2, d.l, C⟩) 28 := hM3.set 2 (.int .i64 index)
    have c3 := below_set c2 (Nat.le_refl _) (0 + 2) (.int .i64 index)
    generalize hw4 : ((w2.alloc (.cells zH.toArray 28)).setRow w2.heap.size (HeadV.cells ⟨d.q, A2, d.l, C⟩).toArray).setCell ⟨w2.heap.size, 0 + 2, none⟩ (.int .i64 index) = w4 at *
    have b4w := b2w.trans (c3.mono b2w.size)
    have hA4 := (hA1.keep b2).keep c3
    have hB4 := (hB1.keep b2).keep c3
    have o4 := OwnP.keepAll o2 c3
    have hlt2 := o2.lt
    have hd4 := hd.keep b4w
    have he4 := he.keep b4w
    have hic : I64 d.q.st ∧ I64 d.q.fr ∧ I64 index ∧ I64 d.q.n ∧ I64 d.q.dl := ⟨hd.2.2.2.1.1, hd.2.2.2.1.2.1, hi, hd.2.2.2.1.2.2.2⟩
    have hf4 : HeadOk w4 ⟨{d.q with ix := index}, A2, d.l, C⟩ := HeadOk.ofOwn o4 l1 l3 hic hd.2.2.2.2.1 hc2.2.2.2.2.2
    have hsz4 := c3.size
    have hsz2 := b2w.size
    have hsz12 := b2.size
    obtain ⟨M, hMM⟩ : ∃ M, M = w2.heap.size := ⟨_, rfl⟩
    rw [← hMM] at hM4 hlt2 hsz4
    rw [← hMM]
    have b0 : Below w4.heap.size w4 { w4 with drawn := w4.drawn + 1 } := (Below.refl _ _).drew
    refine vl_nil ?_
    refine v_seq ?_
    refine v_mid [(3, _), (4, _), (9, _)] (fun (x : Nat) => [(58, .bool false)]) (fun x w' => Below w4.heap.size w4 w') ⟨rfl, rfl, rfl, trivial⟩ ?_ ?_
    · refine v_region_h (fun w' => Below w4.heap.size w4 w') mixed (b0) ?_
      refine vh_pure 0 rfl (by kernel_rfl) (by kernel_rfl) (by kernel_rfl) (fun w hw => (os_loadB Try.underlying28 rfl (by kernel_rfl) rfl (hA4.keep hw))) ?_
      refine vh_pure 1 rfl (by kernel_rfl) (by kernel_rfl) (by kernel_rfl) (fun w hw => (os_loadB Try.underlying28 rfl (by kernel_rfl) rfl (hA4.keep hw))) ?_
      refine vh_one 2 (by kernel_rfl) ?_
      refine vhn_hold fun hcur => ?_
      refine vhn_call rfl (gives_boolb (hd_Like d d _ (hd4.keep hcur) (hd4.keep hcur)) (show likeB d.q d.q = true by simp [likeB])) rfl (fun hw v w' h => hw.trans (h.2.mono hw.size)) ?_
      rintro v5 w5 ⟨rfl, b5⟩
      refine vh_pure 3 rfl (by kernel_rfl) (by kernel_rfl) (by kernel_rfl) (fun w hw => (os_not rfl)) ?_
      refine vh_pure 4 rfl (by kernel_rfl) (by kernel_rfl) (by kernel_rfl) (fun w hw => (os_move rfl)) ?_
      refine vh_pure 5 rfl (by kernel_rfl) (by kernel_rfl) (by kernel_rfl) (fun w hw => (os_loadB Try.underlying28 rfl (by kernel_rfl) rfl (hA4.keep hw))) ?_
      refine vh_pure 6 rfl (by kernel_rfl) (by kernel_rfl) (by kernel_rfl) (fun w hw => (os_loadB Try.underlying28 rfl (by kernel_rfl) rfl (hM4.keep hw))) ?_
      refine vh_one 7 (by kernel_rfl) ?_
      refine vhn_hold fun hcur => ?_
      refine vhn_call rfl (gives_boolb (hd_Like d ⟨{d.q with ix := index}, A2, d.l, C⟩ _ (hd4.keep hcur) (hf4.keep hcur)) (show likeB d.q {d.q with ix := index} = true by simp [likeB])) rfl (fun hw v w' h => hw.trans (h.2.mono hw.size)) ?_
      rintro v6 w6 ⟨rfl, b6⟩
      refine vh_pure 8 rfl (by kernel_rfl) (by kernel_rfl) (by kernel_rfl) (fun w hw => (os_not rfl)) ?_
      refine vh_pure 9 rfl (by kernel_rfl) (by kernel_rfl) (by kernel_rfl) (fun w hw => (os_pick_f rfl rfl)) ?_
      refine vh_pure 10 rfl (by kernel_rfl) (by kernel_rfl) (by kernel_rfl) (fun w hw => (os_move rfl)) ?_
      refine vh_pure 11 rfl (by kernel_rfl) (by kernel_rfl) (by kernel_rfl) (fun w hw => (os_loadB Try.underlying28 rfl (by kernel_rfl) rfl (hM4.keep hw))) ?_
      refine vh_pure 12 rfl (by kernel_rfl) (by kernel_rfl) (by kernel_rfl) (fun w hw => (os_loadB Try.underlying28 rfl (by kernel_rfl) rfl (hA4.keep hw))) ?_
      refine vh_one 13 (by kernel_rfl) ?_
      refine vhn_hold fun hcur => ?_
      refine vhn_call rfl (gives_boolb (hd_Like ⟨{d.q with ix := index}, A2, d.l, C⟩ d _ (hf4.keep hcur) (hd4.keep hcur)) (show likeB {d.q with ix := index} d.q = true by simp [likeB])) rfl (fun hw v w' h => hw.trans (h.2.mono hw.size)) ?_
      rintro v7 w7 ⟨rfl, b7⟩
      refine vh_pure 14 rfl (by kernel_rfl) (by kernel_rfl) (by kernel_rfl) (fun w hw => (os_not rfl)) ?_
      refine vh_pure 15 rfl (by kernel_rfl) (by kernel_rfl) (by kernel_rfl) (fun w hw => (os_pick_f rfl rfl)) ?_
      refine vh_pure 16 rfl (by kernel_rfl) (by kernel_rfl) (by kernel_rfl) (fun w hw => (os_move rfl)) ?_
      refine vh_pure 17 rfl (by kernel_rfl) (by kernel_rfl) (by kernel_rfl) (fun w hw => (os_loadB Try.underlying28 rfl (by kernel_rfl) rfl (hA4.keep hw))) ?_
      refine vh_pure 18 rfl (by kernel_rfl) (by kernel_rfl) (by kernel_rfl) (fun w hw => (os_loadB Try.underlying28 rfl (by kernel_rfl) rfl (hB4.keep hw))) ?_
      refine vh_pure 20 rfl (by kernel_rfl) (by kernel_rfl) (by kernel_rfl) (fun w hw => (os_loadB Try.underlying28 rfl (by kernel_rfl) rfl (hB4.keep hw))) ?_
      refine vh_pure 21 rfl (by kernel_rfl) (by kernel_rfl) (by kernel_rfl) (fun w hw => (os_loadB Try.underlying28 rfl (by kernel_rfl) rfl (hA4.keep hw))) ?_
      refine vh_one 19 (by kernel_rfl) ?_
      refine vhn_hold fun hcur => ?_
      refine vhn_call rfl (hd_Like d e _ (hd4.keep hcur) (he4.keep hcur)) rfl (fun hw v w' h => hw.trans (h.2.mono hw.size)) ?_
      rintro v8 w8 ⟨rfl, b8⟩
      refine vh_one 22 (by kernel_rfl) ?_
      refine vhn_hold fun hcur => ?_
      refine vhn_call rfl (hd_Like e d _ (he4.keep hcur) (hd4.keep hcur)) rfl (fun hw v w' h => hw.trans (h.2.mono hw.size)) ?_
      rintro v9 w9 ⟨rfl, b9⟩
      refine vh_pure 23 rfl (by kernel_rfl) (by kernel_rfl) (by kernel_rfl) (fun w hw => (os_is (os_neqb Try.underlying4 rfl rfl) ((show (!(likeB d.q e.q == likeB e.q d.q)) = false by rw [likeB_comm d.q e.q]; simp)))) ?_
      refine vh_pure 24 rfl (by kernel_rfl) (by kernel_rfl) (by kernel_rfl) (fun w hw => (os_pick_f rfl rfl)) ?_
      refine vh_pure 25 rfl (by kernel_rfl) (by kernel_rfl) (by kernel_rfl) (fun w hw => (os_move rfl)) ?_
      refine vh_pure 26 rfl (by kernel_rfl) (by kernel_rfl) (by kernel_rfl) (fun w hw => (os_loadB Try.underlying28 rfl (by kernel_rfl) rfl (hA4.keep hw))) ?_
      refine vh_pure 27 rfl (by kernel_rfl) (by kernel_rfl) (by kernel_rfl) (fun w hw => (os_loadB Try.underlying28 rfl (by kernel_rfl) rfl (hB4.keep hw))) ?_
      refine vh_pure 29 rfl (by kernel_rfl) (by kernel_rfl) (by kernel_rfl) (fun w hw => (os_loadB Try.underlying28 rfl (by kernel_rfl) rfl (hM4.keep hw))) ?_
      refine vh_pure 30 rfl (by kernel_rfl) (by kernel_rfl) (by kernel_rfl) (fun w hw => (os_loadB Try.underlying28 rfl (by kernel_rfl) rfl (hB4.keep hw))) ?_
      refine vh_one 28 (by kernel_rfl) ?_
      refine vhn_hold fun hcur => ?_
      refine vhn_call rfl (hd_Like d e _ (hd4.keep hcur) (he4.keep hcur)) rfl (fun hw v w' h => hw.trans (h.2.mono hw.size)) ?_
      rintro v10 w10 ⟨rfl, b10⟩
      refine vh_one 31 (by kernel_rfl) ?_
      refine vhn_hold fun hcur => ?_
      refine vhn_call rfl (hd_Like ⟨{d.q with ix := index}, A2, d.l, C⟩ e _ (hf4.keep hcur) (he4.keep hcur)) rfl (fun hw v w' h => hw.trans (h.2.mono hw.size)) ?_
      rintro v11 w11 ⟨rfl, b11⟩
      refine vh_pure 32 rfl (by kernel_rfl) (by kernel_rfl) (by kernel_rfl) (fun w hw => (os_is (os_neqb Try.underlying4 rfl rfl) ((show (!(likeB d.q e.q == likeB {d.q with ix := index} e.q)) = false by simp [likeB])))) ?_
      refine vh_pure 33 rfl (by kernel_rfl) (by kernel_rfl) (by kernel_rfl) (fun w hw => (os_pick_f rfl rfl)) ?_
      refine vh_done (by kernel_rfl) (fun hS => ?_)
      exact ⟨0, ⟨rfl, rfl, rfl, trivial⟩, ⟨rfl, trivial⟩, hS⟩
    · rintro x w9 b9
      have b9w := b4w.trans (b9.mono b4w.size)
      have hA9 := hA4.keep b9
      have hM9 := hM4.keep b9
      have o9 := OwnP.keepAll o4 b9
      have hd9 := hd.keep b9w
      have hne : w.heap.size ≠ M := by omega
      have hMw : w.heap.size ≤ M := by omega
      have own9 : ∀ (v : Value) (i : Nat), OwnP (w9.setCell ⟨M, i, none⟩ v) w1.heap.size 41 2 (.slice A2 d.l C) (d.q.rows.map rowC) := fun v i => o9.blk fun k hk => Below.heap_setCell _ _ _ _ (by have := (hlt2 k hk).2; simp; omega)
      refine v_cond_f rfl ?_
      refine v_skip ?_
      refine v_mid [(4, _), (9, _)] (fun (x : Nat) => []) (fun x w' => Bk w' w.heap.size d.cells 28 ∧ Unlike w' M d ∧ Below w.heap.size w w') ⟨rfl, rfl, trivial⟩ ?_ ?_
      · refine v_seq ?_
        refine v_region ?_
        refine vl_val (os_move rfl) ?_
        refine vl_call (kit_Pick turn 6 w9 (by omega)) rfl ?_
        rintro v10 w9 ⟨rfl, rfl⟩
        obtain ⟨P, hP, p0, p1⟩ : ∃ P, pickV turn 6 = P ∧ 0 ≤ P ∧ P < 6 := ⟨_, rfl, by unfold pickV; rw [if_neg (by omega)]; omega, by unfold pickV; rw [if_neg (by omega)]; omega⟩
        rw [hP]
        refine vl_nil ?_
        refine v_block ?_
        refine v_seq ?_
        refine v_region ?_
        refine vl_val (os_eql rfl rfl) ?_
        refine vl_val (os_assign rfl) ?_
        refine vl_nil ?_
        refine v_cond_d rfl (fun h0 => ?_) (fun h0 => ?_)
        · refine v_region ?_
          refine vl_val (os_fa (o := 0) (k := 0) (by kernel_rfl) rfl) ?_
          refine vl_val (os_load Try.isAgg3 rfl (hA9.cell (i := 0) rfl)) ?_
          refine vl_val (os_xor rfl rfl (show _ = xor1 d.q.st from rfl)) ?_
          refine vl_val (os_fa (o := 0) (k := 0) (by kernel_rfl) rfl) ?_
          refine vl_unit (ou_store Try.sizeOf3 rfl rfl rfl (hM9.cell (i := 0) rfl) (hM9.free _)) ?_
          refine vl_nil ?_
          exact ⟨0, ⟨rfl, rfl, trivial⟩, trivial, ⟨hA9.setOther hne.symm _ _, ⟨⟨{d.q with ix := index, st := xor1 d.q.st}, A2, d.l, C⟩, hM9.set 0 _, HeadOk.ofOwn (own9 _ _) l1 l3 ⟨xor1_I64 _, hic.2⟩ hd.2.2.2.2.1 hc2.2.2.2.2.2, decide_eq_false (fun h => xor1_ne _ h.1.symm)⟩, below_set b9w hMw _ _⟩⟩
        · refine v_seq ?_
          refine v_region ?_
          refine vl_val (os_eql rfl rfl) ?_
          refine vl_val (os_assign rfl) ?_
          refine vl_nil ?_
          refine v_cond_d rfl (fun h1 => ?_) (fun h1 => ?_)
          · refine v_region ?_
            refine vl_val (os_fa (o := 1) (k := 0) (by kernel_rfl) rfl) ?_
            refine vl_val (os_load Try.isAgg3 rfl (hA9.cell (i := 1) rfl)) ?_
            refine vl_val (os_xor rfl rfl (show _ = xor1 d.q.fr from rfl)) ?_
            refine vl_val (os_fa (o := 1) (k := 0) (by kernel_rfl) rfl) ?_
            refine vl_unit (ou_store Try.sizeOf3 rfl rfl rfl (hM9.cell (i := 1) rfl) (hM9.free _)) ?_
            refine vl_nil ?_
            exact ⟨0, ⟨rfl, rfl, trivial⟩, trivial, ⟨hA9.setOther hne.symm _ _, ⟨⟨{d.q with ix := index, fr := xor1 d.q.fr}, A2, d.l, C⟩, hM9.set 1 _, HeadOk.ofOwn (own9 _ _) l1 l3 ⟨hic.1, xor1_I64 _, hic.2.2⟩ hd.2.2.2.2.1 hc2.2.2.2.2.2, decide_eq_false (fun h => xor1_ne _ h.2.1.symm)⟩, below_set b9w hMw _ _⟩⟩
          · refine v_seq ?_
            refine v_region ?_
            refine vl_val (os_eql rfl rfl) ?_
            refine vl_val (os_assign rfl) ?_
            refine vl_nil ?_
            refine v_cond_d rfl (fun h2 => ?_) (fun h2 => ?_)
            · refine v_region ?_
              refine vl_val (os_fa (o := 3) (k := 0) (by kernel_rfl) rfl) ?_
              refine vl_val (os_load Try.isAgg3 rfl (hA9.cell (i := 3) rfl)) ?_
              refine vl_val (os_xor rfl rfl (show _ = xor1 d.q.n from rfl)) ?_
              refine vl_val (os_fa (o := 3) (k := 0) (by kernel_rfl) rfl) ?_
              refine vl_unit (ou_store Try.sizeOf3 rfl rfl rfl (hM9.cell (i := 3) rfl) (hM9.free _)) ?_
              refine vl_nil ?_
              exact ⟨0, ⟨rfl, rfl, trivial⟩, trivial, ⟨hA9.setOther hne.symm _ _, ⟨⟨{d.q with ix := index, n := xor1 d.q.n}, A2, d.l, C⟩, hM9.set 3 _, HeadOk.ofOwn (own9 _ _) l1 l3 ⟨hic.1, hic.2.1, hic.2.2.1, xor1_I64 _, hic.2.2.2.2⟩ hd.2.2.2.2.1 hc2.2.2.2.2.2, decide_eq_false (fun h => xor1_ne _ h.2.2.1.symm)⟩, below_set b9w hMw _ _⟩⟩
            · refine v_seq ?_
              refine v_region ?_
              refine vl_val (os_eql rfl rfl) ?_
              refine vl_val (os_assign rfl) ?_
              refine vl_nil ?_
              refine v_cond_d rfl (fun h3 => ?_) (fun h3 => ?_)
              · refine v_region ?_
                refine vl_val (os_fa (o := 4) (k := 0) (by kernel_rfl) rfl) ?_
                refine vl_val (os_load Try.isAgg3 rfl (hA9.cell (i := 4) rfl)) ?_
                refine vl_val (os_xor rfl rfl (show _ = xor1 d.q.dl from rfl)) ?_
                refine vl_val (os_fa (o := 4) (k := 0) (by kernel_rfl) rfl) ?_
                refine vl_unit (ou_store Try.sizeOf3 rfl rfl rfl (hM9.cell (i := 4) rfl) (hM9.free _)) ?_
                refine vl_nil ?_
                exact ⟨0, ⟨rfl, rfl, trivial⟩, trivial, ⟨hA9.setOther hne.symm _ _, ⟨⟨{d.q with ix := index, dl := xor1 d.q.dl}, A2, d.l, C⟩, hM9.set 4 _, HeadOk.ofOwn (own9 _ _) l1 l3 ⟨hic.1, hic.2.1, hic.2.2.1, hic.2.2.2.1, xor1_I64 _⟩ hd.2.2.2.2.1 hc2.2.2.2.2.2, decide_eq_false (fun h => xor1_ne _ h.2.2.2.1.symm)⟩, below_set b9w hMw _ _⟩⟩
              · refine v_seq ?_
                refine v_region ?_
                refine vl_val (os_eql rfl rfl) ?_
                refine vl_val (os_assign rfl) ?_
                refine vl_nil ?_
                refine v_cond_d rfl (fun h4 => ?_) (fun h4 => ?_)
                · have eln : (d.q.rows.map rowC).length = d.l := by simp [l1]
                  refine v_region ?_
                  refine vl_val (os_fa (o := 5) (k := 0) (by kernel_rfl) rfl) ?_
                  refine vl_val (os_load Try.isAgg26 rfl (hM9.cell (i := 5) (v := .slice A2 d.l C) rfl)) ?_
                  refine vl_val (os_build (cs := [.int .i64 1, .int .i64 0]) rfl (by kernel_rfl)) ?_
                  refine vl_val (os_litS (css := [[.int .i64 1, .int .i64 0]]) Try.underlying26 Try.sizeOf41 Try.zeroValue41 rfl rfl (by intro c hc; simp at hc; subst hc; rfl) (by decide) (by decide) (by decide)) ?_
                  have x0 : Below w9.heap.size w9 (w9.alloc (.cells [[Value.int .i64 1, .int .i64 0]].flatten.toArray 41)) := (Below.refl _ _).alloc (Nat.le_refl _) _
                  have hM9' := hM9.alloc (.cells [[Value.int .i64 1, .int .i64 0]].flatten.toArray 41)
                  have hA9' := hA9.alloc (.cells [[Value.int .i64 1, .int .i64 0]].flatten.toArray 41)
                  have o9' := OwnP.alloc o9 (.cells [[Value.int .i64 1, .int .i64 0]].flatten.toArray 41)
                  have hx0 := x0.size
                  refine vl_some (ot_append_pn Try.underlying26 ti_wTable rfl (by decide) rfl rfl o9' (rdp_alloc _ _ _ (by intro c hc; simp at hc; subst hc; rfl)) (by intro c hc; simp at hc; subst hc; rfl) rfl (by intro c hc u hu; simp at hc; subst hc; simp at hu; rcases hu with rfl | rfl <;> rfl) (by rw [eln]; omega) (by rw [eln]; simp [maxLen]; omega) (by have := b9w.size; have := b9.size; omega)) ?_
                  rintro v5 w5 ⟨ho5, hg5⟩
                  have e5 : d.q.rows.map rowC ++ [[Value.int .i64 1, .int .i64 0]] = (d.q.rows ++ [(1, 0)]).map rowC := by rw [List.map_append]; rfl
                  rw [e5] at ho5
                  obtain ⟨g5, c5, rfl, hc5, hm5⟩ := OwnP.row ho5 (by simp)
                  have en5 : ((d.q.rows ++ [(1, 0)]).map rowC).length = d.l + 1 := by simp [l1]
                  rw [en5] at ho5 hc5
                  rw [en5]
                  have hM5 := hM9'.grown hg5 (fun h => by have := (hlt2 M h.symm).2; omega)
                  have hA5 := hA9'.grown hg5 (fun h => by have := (hlt2 _ h.symm).1; have := b1w.size; omega)
                  have hg5M : g5 ≠ M := OwnP.type_ne ho5 hM5 (by decide)
                  have b5w := OwnP.below (b9w.trans (x0.mono b9w.size)) o9' hg5 (by have := b1w.size; omega) (by have := b9w.size; omega)
                  refine vl_val (os_fa (o := 5) (k := 0) (by kernel_rfl) rfl) ?_
                  refine vl_unit (ou_store Try.sizeOf26 rfl rfl rfl (hM5.cell (i := 5) rfl) (hM5.free _)) ?_
                  have ho6 : OwnP (w5.setCell ⟨M, 0 + 5, none⟩ (.slice (some ⟨g5, 0, none⟩) (d.l + 1) c5)) w1.heap.size 41 2 (.slice (some ⟨g5, 0, none⟩) (d.l + 1) c5) ((d.q.rows ++ [(1, 0)]).map rowC) := ho5.blk fun k hk => Below.heap_setCell _ _ _ _ (by cases hk; exact hg5M)
                  refine vl_nil ?_
                  exact ⟨0, ⟨rfl, rfl, trivial⟩, trivial, ⟨hA5.setOther hne.symm _ _, ⟨⟨{d.q with ix := index, rows := d.q.rows ++ [(1, 0)]}, some ⟨g5, 0, none⟩, d.l + 1, c5⟩, hM5.set 5 _, HeadOk.ofOwn ho6 (by simp [l1]) (by omega) hic (fun p hp => by rcases List.mem_append.1 hp with h | h; exact hd.2.2.2.2.1 p h; (simp at h; subst h; exact ⟨⟨by decide, by decide⟩, ⟨by decide, by decide⟩⟩)) (by omega), decide_eq_false (fun h => app_ne h.2.2.2.2)⟩, below_set b5w hMw _ _⟩⟩
                · refine v_seq ?_
                  refine v_region ?_
                  refine vl_val (os_eql rfl rfl) ?_
                  refine vl_val (os_assign rfl) ?_
                  refine vl_nil ?_
                  refine v_cond_yes rfl (by omega) ?_
                  refine v_seq ?_
                  refine v_seq ?_
                  refine v_region ?_
                  refine vl_val (os_fa (o := 5) (k := 0) (by kernel_rfl) rfl) ?_
                  refine vl_val (os_load Try.isAgg26 rfl (hM9.cell (i := 5) (v := .slice A2 d.l C) rfl)) ?_
                  refine vl_val (os_len Try.underlying26 rfl) ?_
                  refine vl_val (os_eql rfl rfl) ?_
                  refine vl_nil ?_
                  refine v_cond_d rfl (fun hz => ?_) (fun hz => ?_)
                  · refine v_seq ?_
                    refine v_region ?_
                    refine vl_val (os_assign rfl) ?_
                    refine vl_nil ?_
                    refine v_ret ?_
                    exact post_ret rfl rfl (⟨rfl, b9w⟩)
                  · refine v_skip ?_
                    refine v_seq ?_
                    refine v_region ?_
                    refine vl_val (os_move rfl) ?_
                    refine vl_val (os_quo rfl rfl (by decide) (show _ = IntKind.i64.wrap (turn.tdiv 6) from rfl)) ?_
                    refine vl_val (os_fa (o := 5) (k := 0) (by kernel_rfl) rfl) ?_
                    refine vl_val (os_load Try.isAgg26 rfl (hM9.cell (i := 5) (v := .slice A2 d.l C) rfl)) ?_
                    refine vl_val (os_len Try.underlying26 rfl) ?_
                    refine vl_call (kit_Pick (IntKind.i64.wrap (turn.tdiv 6)) d.l w9 (by omega)) rfl ?_
                    rintro v11 w9 ⟨rfl, rfl⟩
                    obtain ⟨T6, hT6⟩ : ∃ T, IntKind.i64.wrap (turn.tdiv 6) = T := ⟨_, rfl⟩
                    rw [hT6]
                    have hp6 : 0 ≤ pickV T6 d.l ∧ pickV T6 d.l < d.l := by unfold pickV; rw [if_neg (by omega)]; have := Int.emod_nonneg T6 (show (d.l : Int) ≠ 0 by omega); have := Int.emod_lt_of_pos T6 (show 0 < (d.l : Int) by omega); omega
                    obtain ⟨k, hk, hkl⟩ : ∃ k : Nat, pickV T6 d.l = k ∧ k < d.l := ⟨(pickV T6 d.l).toNat, by omega, by omega⟩
                    rw [hk]
                    obtain ⟨g, c', e2, -, -⟩ := OwnP.row o9 (by simp; omega)
                    simp only [Value.slice.injEq] at e2
                    obtain ⟨rfl, -, rfl⟩ := e2
                    obtain ⟨b, o, eA, -, q2, -⟩ := RdP.at2 (OwnP.rdp o9) (i := k) (by omega)
                    cases eA
                    have hgM : g ≠ M := by have := (hlt2 g rfl).2; omega
                    have hcell : World.cell? (w9.drewN 1) ⟨g, 0 + k * 2 + 1, none⟩ = some (.int .i64 (d.q.rows.getD k (0, 0)).2) := q2
                    have o10 : OwnP (w9.drewN 1) w1.heap.size 41 2 (.slice (some ⟨g, 0, none⟩) d.l C) (d.q.rows.map rowC) := o9
                    have o11 := OwnP.set1 o10 (k := k) (by omega) l1 (xor1 (d.q.rows.getD k (0, 0)).2)
                    have hM10 : Bk (w9.drewN 1) M _ 28 := hM9
                    have hA10 : Bk (w9.drewN 1) w.heap.size _ 28 := hA9
                    have hfr : World.frozen? (w9.drewN 1) ⟨g, 0 + k * 2 + 1, none⟩ = false := OwnP.free o10 _
                    refine vl_val (os_assign rfl) ?_
                    refine vl_nil ?_
                    refine v_region_a mixed ?_
                    refine va_pure 0 rfl (by kernel_rfl) (by kernel_rfl) (by kernel_rfl) (fun w => (os_fa (o := 5) (k := 0) (by kernel_rfl) rfl)) ?_
                    refine va_pure 2 rfl (by kernel_rfl) (by kernel_rfl) (by kernel_rfl) (fun w => (os_move rfl)) ?_
                    refine va_pure 3 rfl (by kernel_rfl) (by kernel_rfl) (by kernel_rfl) (fun w => (os_fa (o := 5) (k := 0) (by kernel_rfl) rfl)) ?_
                    refine va_pure 5 rfl (by kernel_rfl) (by kernel_rfl) (by kernel_rfl) (fun w => (os_move rfl)) ?_
                    refine va_two 1 4 (by kernel_rfl) ?_ ?_
                    · refine vn_val rfl (os_load Try.isAgg26 rfl (hM10.cell (i := 5) (v := .slice (some ⟨g, 0, none⟩) d.l C) rfl)) ?_
                      refine va_one 4 (by kernel_rfl) ?_
                      refine vn_val rfl (os_load Try.isAgg26 rfl (hM10.cell (i := 5) (v := .slice (some ⟨g, 0, none⟩) d.l C) rfl)) ?_
                      refine va_pure 6 rfl (by kernel_rfl) (by kernel_rfl) (by kernel_rfl) (fun w => (os_ixs Try.underlying26 Try.sizeOf41 rfl rfl (i := k) (by omega) (by omega))) ?_
                      refine va_pure 7 rfl (by kernel_rfl) (by kernel_rfl) (by kernel_rfl) (fun w => (os_fa (o := 1) (k := 0) (by kernel_rfl) rfl)) ?_
                      refine va_one 8 (by kernel_rfl) ?_
                      refine vn_val rfl (os_load Try.isAgg3 rfl (hcell)) ?_
                      refine va_pure 9 rfl (by kernel_rfl) (by kernel_rfl) (by kernel_rfl) (fun w => (os_xor rfl rfl (show _ = xor1 (d.q.rows.getD k (0, 0)).2 from rfl))) ?_
                      refine va_pure 10 rfl (by kernel_rfl) (by kernel_rfl) (by kernel_rfl) (fun w => (os_ixs Try.underlying26 Try.sizeOf41 rfl rfl (i := k) (by omega) (by omega))) ?_
                      refine va_pure 11 rfl (by kernel_rfl) (by kernel_rfl) (by kernel_rfl) (fun w => (os_fa (o := 1) (k := 0) (by kernel_rfl) rfl)) ?_
                      refine va_one 12 (by kernel_rfl) ?_
                      refine vn_unit rfl (ou_store Try.sizeOf3 rfl rfl rfl (hcell) (hfr)) ?_
                      refine va_done (by kernel_rfl) ?_
                      exact ⟨0, ⟨rfl, rfl, trivial⟩, trivial, ⟨hA10.setOther (fun h => by have := (hlt2 g rfl).1; have := b1w.size; omega) _ _, ⟨⟨{d.q with ix := index, rows := d.q.rows.set k ((d.q.rows.getD k (0, 0)).1, xor1 (d.q.rows.getD k (0, 0)).2)}, some ⟨g, 0, none⟩, d.l, C⟩, hM10.setOther hgM _ _, HeadOk.ofOwn (by rw [Nat.zero_add]; exact o11) (by simp [l1]) l3 hic (mem_set_all hd.2.2.2.2.1 ⟨(hd.2.2.2.2.1 _ (getD_mem (by omega))).1, xor1_I64 _⟩) hc2.2.2.2.2.2, decide_eq_false (fun h => set_ne1 (by omega) h.2.2.2.2)⟩, below_set ((b9w.trans ((led_below (⟨1, rfl⟩ : LeD w9 (w9.drewN 1))).mono b9w.size))) (by have := (hlt2 g rfl).1; have := b1w.size; omega) _ _⟩⟩
                    · refine vn_val rfl (os_load Try.isAgg26 rfl (hM10.cell (i := 5) (v := .slice (some ⟨g, 0, none⟩) d.l C) rfl)) ?_
                      refine va_pure 6 rfl (by kernel_rfl) (by kernel_rfl) (by kernel_rfl) (fun w => (os_ixs Try.underlying26 Try.sizeOf41 rfl rfl (i := k) (by omega) (by omega))) ?_
                      refine va_pure 7 rfl (by kernel_rfl) (by kernel_rfl) (by kernel_rfl) (fun w => (os_fa (o := 1) (k := 0) (by kernel_rfl) rfl)) ?_
                      refine va_two 1 8 (by kernel_rfl) ?_ ?_
                      · refine vn_val rfl (os_load Try.isAgg26 rfl (hM10.cell (i := 5) (v := .slice (some ⟨g, 0, none⟩) d.l C) rfl)) ?_
                        refine va_one 8 (by kernel_rfl) ?_
                        refine vn_val rfl (os_load Try.isAgg3 rfl (hcell)) ?_
                        refine va_pure 9 rfl (by kernel_rfl) (by kernel_rfl) (by kernel_rfl) (fun w => (os_xor rfl rfl (show _ = xor1 (d.q.rows.getD k (0, 0)).2 from rfl))) ?_
                        refine va_pure 10 rfl (by kernel_rfl) (by kernel_rfl) (by kernel_rfl) (fun w => (os_ixs Try.underlying26 Try.sizeOf41 rfl rfl (i := k) (by omega) (by omega))) ?_
                        refine va_pure 11 rfl (by kernel_rfl) (by kernel_rfl) (by kernel_rfl) (fun w => (os_fa (o := 1) (k := 0) (by kernel_rfl) rfl)) ?_
                        refine va_one 12 (by kernel_rfl) ?_
                        refine vn_unit rfl (ou_store Try.sizeOf3 rfl rfl rfl (hcell) (hfr)) ?_
                        refine va_done (by kernel_rfl) ?_
                        exact ⟨0, ⟨rfl, rfl, trivial⟩, trivial, ⟨hA10.setOther (fun h => by have := (hlt2 g rfl).1; have := b1w.size; omega) _ _, ⟨⟨{d.q with ix := index, rows := d.q.rows.set k ((d.q.rows.getD k (0, 0)).1, xor1 (d.q.rows.getD k (0, 0)).2)}, some ⟨g, 0, none⟩, d.l, C⟩, hM10.setOther hgM _ _, HeadOk.ofOwn (by rw [Nat.zero_add]; exact o11) (by simp [l1]) l3 hic (mem_set_all hd.2.2.2.2.1 ⟨(hd.2.2.2.2.1 _ (getD_mem (by omega))).1, xor1_I64 _⟩) hc2.2.2.2.2.2, decide_eq_false (fun h => set_ne1 (by omega) h.2.2.2.2)⟩, below_set ((b9w.trans ((led_below (⟨1, rfl⟩ : LeD w9 (w9.drewN 1))).mono b9w.size))) (by have := (hlt2 g rfl).1; have := b1w.size; omega) _ _⟩⟩
                      · refine vn_val rfl (os_load Try.isAgg3 rfl (hcell)) ?_
                        refine va_pure 9 rfl (by kernel_rfl) (by kernel_rfl) (by kernel_rfl) (fun w => (os_xor rfl rfl (show _ = xor1 (d.q.rows.getD k (0, 0)).2 from rfl))) ?_
                        refine va_one 1 (by kernel_rfl) ?_
                        refine vn_val rfl (os_load Try.isAgg26 rfl (hM10.cell (i := 5) (v := .slice (some ⟨g, 0, none⟩) d.l C) rfl)) ?_
                        refine va_pure 10 rfl (by kernel_rfl) (by kernel_rfl) (by kernel_rfl) (fun w => (os_ixs Try.underlying26 Try.sizeOf41 rfl rfl (i := k) (by omega) (by omega))) ?_
                        refine va_pure 11 rfl (by kernel_rfl) (by kernel_rfl) (by kernel_rfl) (fun w => (os_fa (o := 1) (k := 0) (by kernel_rfl) rfl)) ?_
                        refine va_one 12 (by kernel_rfl) ?_
                        refine vn_unit rfl (ou_store Try.sizeOf3 rfl rfl rfl (hcell) (hfr)) ?_
                        refine va_done (by kernel_rfl) ?_
                        exact ⟨0, ⟨rfl, rfl, trivial⟩, trivial, ⟨hA10.setOther (fun h => by have := (hlt2 g rfl).1; have := b1w.size; omega) _ _, ⟨⟨{d.q with ix := index, rows := d.q.rows.set k ((d.q.rows.getD k (0, 0)).1, xor1 (d.q.rows.getD k (0, 0)).2)}, some ⟨g, 0, none⟩, d.l, C⟩, hM10.setOther hgM _ _, HeadOk.ofOwn (by rw [Nat.zero_add]; exact o11) (by simp [l1]) l3 hic (mem_set_all hd.2.2.2.2.1 ⟨(hd.2.2.2.2.1 _ (getD_mem (by omega))).1, xor1_I64 _⟩) hc2.2.2.2.2.2, decide_eq_false (fun h => set_ne1 (by omega) h.2.2.2.2)⟩, below_set ((b9w.trans ((led_below (⟨1, rfl⟩ : LeD w9 (w9.drewN 1))).mono b9w.size))) (by have := (hlt2 g rfl).1; have := b1w.size; omega) _ _⟩⟩
      · rintro x w12 ⟨hA12, ⟨f, hM12, hf12, hun⟩, b12w⟩
        have hd12 := hd.keep b12w
        refine v_seq ?_
        refine v_region ?_
        refine vl_val (os_loadB Try.underlying28 rfl (by kernel_rfl) rfl (hA12)) ?_
        refine vl_val (os_loadB Try.underlying28 rfl (by kernel_rfl) rfl (hM12)) ?_
        refine vl_call (gives_boolb (hd_Like d f w12 hd12 hf12) hun) rfl ?_
        rintro v13 w13 ⟨rfl, b13⟩
        refine vl_val (os_not rfl) ?_
        refine vl_val (os_move rfl) ?_
        refine vl_valg rfl (os_loadB Try.underlying28 rfl (by kernel_rfl) rfl (hM12.keep b13)) ?_
        refine vl_valg rfl (os_loadB Try.underlying28 rfl (by kernel_rfl) rfl (hA12.keep b13)) ?_
        refine vl_callg rfl (gives_boolb (hd_Like f d w13 (hf12.keep b13) (hd12.keep b13)) (show likeB f.q d.q = false by rw [likeB_comm]; exact hun)) rfl ?_
        rintro v14 w14 ⟨rfl, b14⟩
        have b13w := b12w.trans (b13.mono b12w.size)
        refine vl_valg rfl (os_not rfl) ?_
        refine vl_val (os_pick_t rfl rfl) ?_
        refine vl_val (os_assign rfl) ?_
        refine vl_nil ?_
        refine v_ret ?_
        exact post_ret rfl rfl (⟨rfl, b13w.trans (b14.mono b13w.size)⟩)
end Go.Proofs.Ytlfkhnchceoinaa
