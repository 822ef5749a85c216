/- Texts joined: NtX Nil V4 Pk SlC. -/
import Derived.Test.YthaifamjgcfkaaaM6
import Derived.Lib.SliceRun
/- Layer 15: how many frames a report tells of, and how often of so many datagrams. -/
namespace Go.Proofs.Ythaifamjgcfkaaa
open Go.RowKit
set_option linter.unusedVariables false

theorem times_all {d : NoteV} (h : rightN d = true) (k : Nat) : 0 ≤ timesL (d.cs.take k) ∧ timesL (d.cs.take k) ≤ 255 * 65535 := by
  have hr := right_iff.1 h
  have h1 := times_take hr.cnt k
  have h2 := (cnt_all hr.cnt).2 (by have := hr.n; omega)
  have h3 := hr.n
  omega
theorem ntN_right {d : NoteV} {k : Nat} (h : k < ntN d) : rightN d = true ∧ k < d.l := by
  unfold ntN at h
  split at h
  · rename_i hr; exact ⟨hr, h⟩
  · omega
theorem ntN_sum {d : NoteV} (hl : d.l = d.cs.length) : timesL (d.cs.take (ntN d)) = ntSum d := by
  unfold ntN ntSum
  split
  · rw [List.take_of_length_le (by omega)]
  · rfl
set_option maxHeartbeats 2000000 in
theorem nt_Sum (d : NoteV) (w : World) (hd : NoteOk w d) : Gives Try.prog 20 #[.agg d.cells.toArray] w fun v w' => v = .int .i64 (ntSum d) ∧ Below w.heap.size w w' := by
  have hl := hd.2.1
  obtain ⟨w1, hw1⟩ : ∃ w1, w1 = (w.alloc (.cells d.cells.toArray 28)).alloc (.cells [Value.int .i64 0].toArray 3) := ⟨_, rfl⟩
  have hN : Bk w1 w.heap.size d.cells 28 := by rw [hw1]; exact (bk_new w _ _).alloc _
  have hS : Bk w1 (w.heap.size + 1) [.int .i64 0] 3 := by
    rw [hw1]
    have := bk_new (w.alloc (.cells d.cells.toArray 28)) [.int .i64 0] 3
    rwa [World.size_alloc] at this
  have hb1 : Below w.heap.size w w1 := by rw [hw1]; exact ((Below.refl _ w).alloc (Nat.le_refl _) _).alloc (by simp) _
  have hs1 : w1.heap.size = w.heap.size + 2 := by rw [hw1]; simp
  obtain ⟨w2, hw2⟩ : ∃ w2, w2 = w1.alloc (.cells d.cells.toArray 28) := ⟨_, rfl⟩
  have hP : Bk w2 w1.heap.size d.cells 28 := by rw [hw2]; exact bk_new w1 _ _
  have hS2 : Bk w2 (w.heap.size + 1) [.int .i64 0] 3 := by rw [hw2]; exact hS.alloc _
  have hb2 : Below w.heap.size w w2 := by rw [hw2]; exact hb1.alloc hb1.size _
  have hs2 : w2.heap.size = w.heap.size + 3 := by rw [hw2]; simp [hs1]
  refine gives_enter Try.call20 Try.func20 rfl rfl rfl (by kernel_rfl) ?_
  refine v_seq ?_
  refine v_region ?_
  refine vl_val (os_box rfl) ?_
  refine vl_val (os_alloc1 Try.zeroValue3 rfl) ?_
  have hw1' : w1 = (w.alloc (.cells (Value.agg d.cells.toArray).cells 28)).alloc (.cells [Value.int .i64 0].toArray 3) := hw1
  rw [← hw1']
  simp only [World.size_alloc]
  refine vl_nil ?_
  refine v_range_seq ?_
  refine v_region ?_
  refine vl_val (os_loadB Try.underlying28 rfl (by kernel_rfl) rfl (hN)) ?_
  refine vl_call (nt_each d w1) rfl ?_
  rintro v3 w3 ⟨rfl, e3⟩
  obtain rfl : w2 = w3 := hw2.trans e3.symm
  refine vl_nil ?_
  refine v_range (ntN d) (fun k => [.int .i64 (d.cs.getD k (0, 0)).1, .int .i64 (d.cs.getD k (0, 0)).2]) (fun k w' => Bk w' (w.heap.size + 1) [.int .i64 (timesL (d.cs.take k))] 3 ∧ Bk w' w1.heap.size d.cells 28 ∧ Below w.heap.size w w') (fun e w' => False) (fun k => [(4, .int .i64 (d.cs.getD k (0, 0)).2), (2, .pointer (some ⟨w.heap.size + 1, 0, none⟩))]) Try.call96 rfl (fun _ => rfl) (fun k W W' ⟨h1, h2, h3⟩ hn => ⟨hn.bk h1, hn.bk h2, hn.below h3 hb2.size (Nat.le_refl _)⟩) (fun _ => Abd.no) (⟨hS2, hP, hb2⟩) (fun l J Jx W hW hJI hJ hJx hR hJ0 => nt_each_fn l w1.heap.size d J Jx W (fun k W h => by obtain ⟨h1, h2, h3⟩ := hJI k W h; exact ⟨h2, hd.keep h3⟩) hJ hR hJ0) ?_ ?_ ?_ (fun _ _ _ _ h => h.elim) (fun _ _ _ _ _ h => h.elim)
  · intro l k w'
    refine v_region ?_
    refine vl_val (os_assign rfl) ?_
    refine vl_nil ?_
    exact ⟨rfl, rfl, ⟨rfl, rfl, trivial⟩⟩
  · rintro l k w' hk ⟨h1, h2, h3⟩
    have hr := ntN_right hk
    have ht1 := times_all hr.1 k
    have ht2 := times_all hr.1 (k + 1)
    rw [times_succ (by omega)] at ht2
    refine v_block ?_
    refine v_region ?_
    refine vl_val (os_load Try.isAgg3 rfl (h1.cell (i := 0) rfl)) ?_
    refine vl_val (os_move rfl) ?_
    refine vl_val (os_addi rfl rfl (by omega)) ?_
    refine vl_unit (ou_store Try.sizeOf3 rfl rfl rfl (h1.cell (i := 0) rfl) (h1.free _)) ?_
    refine vl_nil ?_
    exact ⟨Kn.set (h1.cell (i := 0) rfl) _, by rw [times_succ (by omega)]; exact h1.set 0 _, Bk.setOther h2 (by omega) _ _, below_set h3 (by omega) _ _⟩
  · rintro D w' hD hK ⟨h1, h2, h3⟩
    refine v_seq ?_
    refine v_region ?_
    refine vl_val (os_load Try.isAgg3 rfl (h1.cell (i := 0) rfl)) ?_
    refine vl_unit (ou_store Try.sizeOf3 rfl rfl rfl (h1.cell (i := 0) rfl) (h1.free _)) ?_
    have hK' := (Kn.set (B := 0) (h1.cell (i := 0) rfl) (.int .i64 (timesL (d.cs.take (ntN d))))).block D _ (Nat.zero_le _) hK rfl
    have hN' := Nc.put (B := w2.heap.size) (.deferred none) hD hK' rfl
    refine vl_nil ?_
    refine v_ret ?_
    exact post_m (fn := Try.f20) (hK') (fun a ha => res_c (t := 2) rfl rfl Try.isAgg3 ((hN'.bk (h1.set 0 _)).cell (i := 0) rfl) ha) (⟨by rw [ntN_sum hl], hN'.below (below_set h3 (by omega) _ _) hb2.size (Nat.le_refl _)⟩)
theorem cnt_none {d : NoteV} {k : Int} (hl : d.l = d.cs.length) (h : ∀ j, j < ntN d → (d.cs.getD j (0, 0)).1 ≠ k) : ntCnt d k = 0 := by
  unfold ntCnt
  split
  · rename_i hr
    refine cntV_out fun c hc => ?_
    obtain ⟨j, hj, rfl⟩ := List.mem_iff_getElem.1 hc
    have := h j (by unfold ntN; rw [hr]; simp; omega)
    simpa [hj] using this
  · rfl
theorem cnt_some {d : NoteV} {k : Int} (hl : d.l = d.cs.length) {j : Nat} (hj : j < ntN d) (h : (d.cs.getD j (0, 0)).1 = k) : ntCnt d k = (d.cs.getD j (0, 0)).2 := by
  obtain ⟨hr, hj2⟩ := ntN_right hj
  unfold ntCnt
  rw [hr, ← h]
  exact cntV_in (right_iff.1 hr).cnt _ (by rw [List.getD_eq_getElem?_getD, List.getElem?_eq_getElem (by omega)]; exact List.getElem_mem _)
set_option maxHeartbeats 2000000 in
theorem nt_Count (d : NoteV) (came : Int) (w : World) (hd : NoteOk w d) : Gives Try.prog 21 #[.agg d.cells.toArray, .int .i64 came] w fun v w' => v = .int .i64 (ntCnt d came) ∧ Below w.heap.size w w' := by
  have hl := hd.2.1
  obtain ⟨w1, hw1⟩ : ∃ w1, w1 = ((w.alloc (.cells d.cells.toArray 28)).alloc (.cells [Value.int .i64 came].toArray 3)).alloc (.cells [Value.int .i64 0].toArray 3) := ⟨_, rfl⟩
  have hN : Bk w1 w.heap.size d.cells 28 := by rw [hw1]; exact ((bk_new w _ _).alloc _).alloc _
  have hC : Bk w1 (w.heap.size + 1) [.int .i64 came] 3 := by
    rw [hw1]
    have := bk_new (w.alloc (.cells d.cells.toArray 28)) [.int .i64 came] 3
    rw [World.size_alloc] at this
    exact this.alloc _
  have hS : Bk w1 (w.heap.size + 2) [.int .i64 0] 3 := by
    rw [hw1]
    have := bk_new ((w.alloc (.cells d.cells.toArray 28)).alloc (.cells [Value.int .i64 came].toArray 3)) [.int .i64 0] 3
    rwa [World.size_alloc, World.size_alloc] at this
  have hb1 : Below w.heap.size w w1 := by rw [hw1]; exact (((Below.refl _ w).alloc (Nat.le_refl _) _).alloc (by simp) _).alloc (by simp; omega) _
  have hs1 : w1.heap.size = w.heap.size + 3 := by rw [hw1]; simp
  obtain ⟨w2, hw2⟩ : ∃ w2, w2 = w1.alloc (.cells d.cells.toArray 28) := ⟨_, rfl⟩
  have hP : Bk w2 w1.heap.size d.cells 28 := by rw [hw2]; exact bk_new w1 _ _
  have hC2 : Bk w2 (w.heap.size + 1) [.int .i64 came] 3 := by rw [hw2]; exact hC.alloc _
  have hS2 : Bk w2 (w.heap.size + 2) [.int .i64 0] 3 := by rw [hw2]; exact hS.alloc _
  have hb2 : Below w.heap.size w w2 := by rw [hw2]; exact hb1.alloc hb1.size _
  have hs2 : w2.heap.size = w.heap.size + 4 := by rw [hw2]; simp [hs1]
  refine gives_enter Try.call21 Try.func21 rfl rfl rfl (by kernel_rfl) ?_
  refine v_seq ?_
  refine v_region ?_
  refine vl_val (os_box rfl) ?_
  refine vl_val (os_box rfl) ?_
  refine vl_val (os_alloc1 Try.zeroValue3 rfl) ?_
  have hw1' : w1 = ((w.alloc (.cells (Value.agg d.cells.toArray).cells 28)).alloc (.cells #[.int .i64 came] 3)).alloc (.cells [Value.int .i64 0].toArray 3) := hw1
  change VL _ _ _ _ _ (((w.alloc (.cells (Value.agg d.cells.toArray).cells 28)).alloc (.cells #[.int .i64 came] 3)).alloc (.cells [Value.int .i64 0].toArray 3)) _
  rw [← hw1']
  simp only [World.size_alloc]
  refine vl_nil ?_
  refine v_range_seq ?_
  refine v_region ?_
  refine vl_val (os_loadB Try.underlying28 rfl (by kernel_rfl) rfl (hN)) ?_
  refine vl_call (nt_each d w1) rfl ?_
  rintro v3 w3 ⟨rfl, e3⟩
  obtain rfl : w2 = w3 := hw2.trans e3.symm
  refine vl_nil ?_
  refine v_range (ntN d) (fun k => [.int .i64 (d.cs.getD k (0, 0)).1, .int .i64 (d.cs.getD k (0, 0)).2]) (fun k w' => (∀ j, j < k → (d.cs.getD j (0, 0)).1 ≠ came) ∧ Bk w' (w.heap.size + 2) [.int .i64 0] 3 ∧ Bk w' (w.heap.size + 1) [.int .i64 came] 3 ∧ Bk w' w1.heap.size d.cells 28 ∧ Below w.heap.size w w') (fun e w' => e = .ret ∧ Bk w' (w.heap.size + 2) [.int .i64 (ntCnt d came)] 3 ∧ Below w.heap.size w w') (fun k => [(5, .int .i64 (d.cs.getD k (0, 0)).1), (6, .int .i64 (d.cs.getD k (0, 0)).2), (3, .pointer (some ⟨w.heap.size + 1, 0, none⟩)), (4, .pointer (some ⟨w.heap.size + 1 + 1, 0, none⟩))]) Try.call96 rfl (fun _ => rfl) (fun k W W' ⟨h0, h1, h2, h3, h4⟩ hn => ⟨h0, hn.bk h1, hn.bk h2, hn.bk h3, hn.below h4 hb2.size (Nat.le_refl _)⟩) (fun e W W' ⟨h0, h1, h2⟩ hn => ⟨h0, hn.bk h1, hn.below h2 hb2.size (Nat.le_refl _)⟩) (⟨fun j hj => absurd hj (by omega), hS2, hC2, hP, hb2⟩) (fun l J Jx W hW hJI hJ hJx hR hJ0 => nt_each_fn l w1.heap.size d J Jx W (fun k W h => by obtain ⟨h0, h1, h2, h3, h4⟩ := hJI k W h; exact ⟨h3, hd.keep h4⟩) hJ hR hJ0) ?_ ?_ ?_ (fun D W hD hK ⟨_, h1, h2⟩ => post_m (fn := Try.f21) hK (fun a hag => res_c (t := 4) rfl rfl Try.isAgg3 (((Nc.put (B := w2.heap.size) (.deferred none) hD hK rfl).bk h1).cell (i := 0) rfl) hag) ⟨rfl, (Nc.put (B := w2.heap.size) (.deferred none) hD hK rfl).below h2 hb2.size (Nat.le_refl _)⟩) (fun _ _ _ _ _ h => by cases h.1)
  · intro l k w'
    refine v_seq ?_
    refine v_region ?_
    refine vl_val (os_assign rfl) ?_
    refine vl_nil ?_
    refine v_region ?_
    refine vl_val (os_assign rfl) ?_
    refine vl_nil ?_
    exact ⟨rfl, rfl, ⟨rfl, rfl, rfl, rfl, trivial⟩⟩
  · rintro l k w' hk ⟨h0, h1, h2, h3, h4⟩
    refine v_block ?_
    refine v_seq ?_
    refine v_region ?_
    refine vl_val (os_move rfl) ?_
    refine vl_val (os_load Try.isAgg3 rfl (h2.cell (i := 0) rfl)) ?_
    refine vl_val (os_eql rfl rfl) ?_
    refine vl_nil ?_
    refine v_cond_d rfl (fun heq => ?_) (fun heq => ?_)
    · refine v_seq ?_
      refine v_region ?_
      refine vl_val (os_move rfl) ?_
      refine vl_unit (ou_store Try.sizeOf3 rfl rfl rfl (h1.cell (i := 0) rfl) (h1.free _)) ?_
      refine vl_nil ?_
      refine v_ret ?_
      exact ⟨Kn.set (h1.cell (i := 0) rfl) _, rfl, by rw [cnt_some hl hk heq]; exact h1.set 0 _, below_set h4 (by omega) _ _⟩
    · refine v_skip ?_
      exact ⟨Kn.refl _ _, fun j hj => by by_cases e : j = k; (subst e; exact heq); (exact h0 j (by omega)), h1, h2, h3, h4⟩
  · rintro D w' hD hK ⟨h0, h1, h2, h3, h4⟩
    refine v_seq ?_
    refine v_region ?_
    refine vl_unit (ou_store Try.sizeOf3 rfl rfl rfl (h1.cell (i := 0) rfl) (h1.free _)) ?_
    have hK' := (Kn.set (B := 0) (h1.cell (i := 0) rfl) (.int .i64 0)).block D _ (Nat.zero_le _) hK rfl
    have hN' := Nc.put (B := w2.heap.size) (.deferred none) hD hK' rfl
    refine vl_nil ?_
    refine v_ret ?_
    exact post_m (fn := Try.f21) (hK') (fun a ha => res_c (t := 4) rfl rfl Try.isAgg3 ((hN'.bk (h1.set 0 _)).cell (i := 0) rfl) ha) (⟨by rw [cnt_none hl h0], hN'.below (below_set h4 (by omega) _ _) hb2.size (Nat.le_refl _)⟩)
end Go.Proofs.Ythaifamjgcfkaaa

/- A pointer held against nil. No program in sight. -/
namespace Go.Proofs.Ythaifamjgcfkaaa
open Go.RowKit
set_option linter.unusedVariables false
section
variable {P : Program} {n : Cx} {fr : Fr} {w w' : World} {ty : TypeId} {x y z : Operand} {v u : Value} {T T2 e : TypeId} {op : Op}
theorem os_eqlnil {A : Option Addr} (hT : P.underlying T = some (.pointer (P.pointee T))) (hx : Fr.ev fr x = some (.pointer A)) (hy : Fr.ev fr y = some (.pointer none)) : OS P n (.binOp .eql T x y T2) ty fr w (.bool A.isNone) w := os_of fun a ha => by
  simp [execOp, ha.ev hx, ha.ev hy, eqGuard, run_eql_pointer_nil w T A hT]
theorem os_neqnil {A : Option Addr} (hT : P.underlying T = some (.pointer (P.pointee T))) (hx : Fr.ev fr x = some (.pointer A)) (hy : Fr.ev fr y = some (.pointer none)) : OS P n (.binOp .neq T x y T2) ty fr w (.bool (!A.isNone)) w := os_of fun a ha => by
  simp [execOp, ha.ev hx, ha.ev hy, eqGuard, run_neq_pointer_nil w T A hT]

end
end Go.Proofs.Ythaifamjgcfkaaa

/- Regions that draw their order, order by order: what may be taken first is taken first, the rest is gone through. No program in sight. -/
namespace Go.Proofs.Ythaifamjgcfkaaa
open Go.RowKit
set_option linter.unusedVariables false

def nrm (n : Cx) (Q : Exit → Fr → World → Prop) : Exit → Act → World → Prop
  | .normal, a, w => ∃ fr, Ag n fr a ∧ Q .normal fr w
  | _, _, _ => False

/-- so many operations are left at most; which have come up, says 'listed' -/
def VA (P : Program) (n : Cx) (all : List Oper) (fuel : Nat) (listed : List Bool) (fr : Fr) (w : World) (Q : Exit → Fr → World → Prop) : Prop :=
  all.all (dstOk n.sz) = true → ∀ a, Ag n fr a → wpAny P .any all.toArray (nrm n Q) fuel listed.toArray a w

def setB : List Bool → Nat → List Bool
  | [], _ => []
  | _ :: r, 0 => true :: r
  | b :: r, i + 1 => b :: setB r i
theorem setB_eq : ∀ (l : List Bool) (i : Nat), (setB l i).toArray = l.toArray.setIfInBounds i true
  | [], i => by simp [setB]
  | _ :: r, 0 => by simp [setB]
  | b :: r, i + 1 => by
    have := setB_eq r i
    simp only [List.setIfInBounds_toArray, List.toArray_inj] at this
    have h2 : setB r i = r.set i true := by simpa using this
    simp [setB, h2]

theorem OS.ot' {P : Program} {n : Cx} {op : Op} {ty : TypeId} {fr : Fr} {w w' : World} {v : Value} (h : OS P n op ty fr w v w') {U : Value → World → Prop} (hU : U v w') : OT P n op ty fr w U := by
  unfold OS at h
  unfold OT
  exact fun a ha => ⟨v, w', h a ha, hU⟩
section
variable {P : Program} {n : Cx} {all : List Oper} {fuel : Nat} {listed : List Bool} {fr : Fr} {w w' : World} {Q : Exit → Fr → World → Prop} {d : Nat} {op : Op} {ty : TypeId} {pos : String} {aft : Array Edge} {v : Value}

theorem dstOk_at {all : List Oper} {i : Nat} {o : Oper} (h : all.all (dstOk n.sz) = true) (hi : all[i]? = some o) {d : Nat} (hd : o.dst = some d) : d < n.sz := by
  have hm := List.mem_of_getElem? hi
  have := List.all_eq_true.1 h o hm
  simp only [dstOk, hd] at this
  exact (Nat.blt_eq ..).mp this

theorem v_region_a {id : Nat} {l : List Oper} (hm : P.follows .mixedOrders = true) (h : VA P n l l.length (List.replicate l.length false) fr { w with drawn := w.drawn + 1 } Q) (hro : n.ro = none := by rfl) : V P n (.region id l.toArray true) fr w Q := by
  unfold V
  intro hok a ha
  rw [fw_none hro]
  refine wpIn_wide.2 (Code.wp_mono (fun e a w hq => ?_) (wp_region_any (Q := nrm n Q) hm ?_))
  · cases e with
    | normal => exact .inl hq
    | _ => exact hq.elim
  · have := h (by simpa [codeOk] using hok) a ha
    simpa using this

/-- a pure operation may be taken first -/
theorem va_take (i : Nat) (hi : all[i]? = some ⟨some d, op, ty, pos, aft, none⟩) (hs : Region.noSelect all.toArray = true) (hf : Region.free .any all.toArray listed.toArray i = true) (hr : (Region.ready .any all.toArray listed.toArray).contains i = true)
    (h : ∀ w, OS P n op ty fr w v w) (k : VA P n all fuel (setB listed i) ((d, v) :: fr) w Q) : VA P n all (fuel + 1) listed fr w Q := by
  intro hok a ha
  have h1 := dstOk_at hok hi rfl
  refine wpAny_take (oi := ⟨some d, op, ty, pos, aft, none⟩) (v := v) (by simpa using hi) hs hf hr (fun c a w hq => hq.elim) (.inl ⟨rfl, fun w => ?_⟩) ?_
  · have := h w
    unfold OS at this
    exact this a ha
  · have := k hok _ (ha.put h1 v)
    rw [setB_eq] at this
    exact this

theorem va_all (rs : List Nat) (hr : Region.ready .any all.toArray listed.toArray = rs) (hne : rs ≠ []) (h : ∀ i ∈ rs, (all.all (dstOk n.sz) = true → ∀ a, Ag n fr a → wpOp P all.toArray (nrm n Q) i (wpAny P .any all.toArray (nrm n Q) fuel (setB listed i).toArray) a w)) : VA P n all (fuel + 1) listed fr w Q := by
  intro hok a ha
  refine wpAny_all hr hne fun i hi => ?_
  have := h i hi hok a ha
  rw [setB_eq] at this
  exact this

theorem va_some {U : Value → World → Prop} (i : Nat) (hi : all[i]? = some ⟨some d, op, ty, pos, aft, none⟩) (h : OT P n op ty fr w U) (k : ∀ v w', U v w' → VA P n all fuel (setB listed i) ((d, v) :: fr) w' Q) :
    all.all (dstOk n.sz) = true → ∀ a, Ag n fr a → wpOp P all.toArray (nrm n Q) i (wpAny P .any all.toArray (nrm n Q) fuel (setB listed i).toArray) a w := by
  intro hok a ha
  have h1 := dstOk_at hok hi rfl
  unfold OT at h
  obtain ⟨v, w', hr, hu⟩ := h a ha
  unfold wpOp
  simp only [List.getElem?_toArray, hi, Region.wanted, if_true]
  left
  unfold Oper.wp
  rw [execOp_bare, hr]
  exact k v w' hu hok _ (ha.put h1 v)

theorem va_done (hr : Region.ready .any all.toArray listed.toArray = []) (h : Q .normal fr w) : VA P n all fuel listed fr w Q := by
  intro hok a ha
  exact wpAny_done hr ⟨fr, ha, h⟩ fuel

/-! ### with guards, calls, stores -/
/-- a pure operation, whatever its guard, may be taken first -/
theorem va_pure {g : Option (Nat × Bool)} (i : Nat) (hi : all[i]? = some ⟨some d, op, ty, pos, aft, g⟩) (hs : Region.noSelect all.toArray = true) (hf : Region.free .any all.toArray listed.toArray i = true) (hr : (Region.ready .any all.toArray listed.toArray).contains i = true)
    (h : ∀ w, OS P n op ty fr w v w) (k : VA P n all fuel (setB listed i) ((d, v) :: fr) w Q) (hg : GOk all fr g := by first | exact True.intro | rfl) : VA P n all (fuel + 1) listed fr w Q := by
  intro hok a ha
  have h1 := dstOk_at hok hi rfl
  refine wpAny_take (oi := ⟨some d, op, ty, pos, aft, g⟩) (v := v) (by simpa using hi) hs hf hr (fun c a w hq => hq.elim) (.inl ⟨GOk.wanted ha hg, fun w => ?_⟩) ?_
  · have := h w
    unfold OS at this
    rw [execOp_bare]
    exact this a ha
  · have := k hok _ (ha.put h1 v)
    rw [setB_eq] at this
    exact this
/-- an operation whose guard is not met -/
theorem va_skip {j : Nat} {b c : Bool} (i : Nat) (hi : all[i]? = some ⟨some d, op, ty, pos, aft, some (j, b)⟩) (hs : Region.noSelect all.toArray = true) (hf : Region.free .any all.toArray listed.toArray i = true) (hr : (Region.ready .any all.toArray listed.toArray).contains i = true)
    (hg : guardF all fr j = some (.bool c)) (hb : (c == b) = false) (k : VA P n all fuel (setB listed i) ((d, undef) :: fr) w Q) : VA P n all (fuel + 1) listed fr w Q := by
  intro hok a ha
  have h1 := dstOk_at hok hi rfl
  have hne : (some c == some b) = false := by simpa using hb
  refine wpAny_take (oi := ⟨some d, op, ty, pos, aft, some (j, b)⟩) (v := undef) (by simpa using hi) hs hf hr (fun c a w hq => hq.elim) (.inr ⟨?_, rfl⟩) ?_
  · simp only [Region.wanted, guardF_yields ha hg, hne]
  · have := k hok _ (ha.put h1 undef)
    rw [setB_eq] at this
    exact this

theorem va_skipu {j : Nat} {b : Bool} (i : Nat) (hi : all[i]? = some ⟨some d, op, ty, pos, aft, some (j, b)⟩) (hs : Region.noSelect all.toArray = true) (hf : Region.free .any all.toArray listed.toArray i = true) (hr : (Region.ready .any all.toArray listed.toArray).contains i = true)
    (hg : guardF all fr j = some undef) (k : VA P n all fuel (setB listed i) ((d, undef) :: fr) w Q) : VA P n all (fuel + 1) listed fr w Q := by
  intro hok a ha
  have h1 := dstOk_at hok hi rfl
  refine wpAny_take (oi := ⟨some d, op, ty, pos, aft, some (j, b)⟩) (v := undef) (by simpa using hi) hs hf hr (fun c a w hq => hq.elim) (.inr ⟨wanted_undef ha hg, rfl⟩) ?_
  have := k hok _ (ha.put h1 undef)
  rw [setB_eq] at this
  exact this

/-- what may come up next -/
def VN (P : Program) (n : Cx) (all : List Oper) (fuel : Nat) (listed : List Bool) (i : Nat) (fr : Fr) (w : World) (Q : Exit → Fr → World → Prop) : Prop :=
  all.all (dstOk n.sz) = true → ∀ a, Ag n fr a → wpOp P all.toArray (nrm n Q) i (wpAny P .any all.toArray (nrm n Q) fuel (setB listed i).toArray) a w
theorem va_one (i : Nat) (hr : (Region.ready .any all.toArray listed.toArray == [i]) = true) (h : VN P n all fuel listed i fr w Q) : VA P n all (fuel + 1) listed fr w Q :=
  va_all [i] (by simpa using hr) (by simp) fun j hj => by
    simp only [List.mem_cons, List.not_mem_nil, or_false] at hj
    subst hj; exact h
theorem va_two (i j : Nat) (hr : (Region.ready .any all.toArray listed.toArray == [i, j]) = true) (h : VN P n all fuel listed i fr w Q) (h2 : VN P n all fuel listed j fr w Q) : VA P n all (fuel + 1) listed fr w Q :=
  va_all [i, j] (by simpa using hr) (by simp) fun k hk => by
    simp only [List.mem_cons, List.not_mem_nil, or_false] at hk
    rcases hk with rfl | rfl
    · exact h
    · exact h2
theorem va_three (i j l : Nat) (hr : (Region.ready .any all.toArray listed.toArray == [i, j, l]) = true) (h : VN P n all fuel listed i fr w Q) (h2 : VN P n all fuel listed j fr w Q) (h3 : VN P n all fuel listed l fr w Q) : VA P n all (fuel + 1) listed fr w Q :=
  va_all [i, j, l] (by simpa using hr) (by simp) fun k hk => by
    simp only [List.mem_cons, List.not_mem_nil, or_false] at hk
    rcases hk with rfl | rfl | rfl
    · exact h
    · exact h2
    · exact h3

theorem va_four (i j l m : Nat) (hr : (Region.ready .any all.toArray listed.toArray == [i, j, l, m]) = true) (h : VN P n all fuel listed i fr w Q) (h2 : VN P n all fuel listed j fr w Q) (h3 : VN P n all fuel listed l fr w Q) (h4 : VN P n all fuel listed m fr w Q) : VA P n all (fuel + 1) listed fr w Q :=
  va_all [i, j, l, m] (by simpa using hr) (by simp) fun k hk => by
    simp only [List.mem_cons, List.not_mem_nil, or_false] at hk
    rcases hk with rfl | rfl | rfl | rfl
    · exact h
    · exact h2
    · exact h3
    · exact h4

theorem vn_some {g : Option (Nat × Bool)} {i : Nat} {U : Value → World → Prop} (hi : all[i]? = some ⟨some d, op, ty, pos, aft, g⟩) (h : OT P n op ty fr w U) (k : ∀ v w', U v w' → VA P n all fuel (setB listed i) ((d, v) :: fr) w' Q) (hg : GOk all fr g := by first | exact True.intro | rfl) : VN P n all fuel listed i fr w Q := by
  intro hok a ha
  have h1 := dstOk_at hok hi rfl
  unfold wpOp
  simp only [List.getElem?_toArray, hi, GOk.wanted ha hg, if_true]
  left
  unfold OT at h
  obtain ⟨v, w', hr, hu⟩ := h a ha
  unfold Oper.wp
  rw [execOp_bare, hr]
  exact k v w' hu hok _ (ha.put h1 v)
theorem vn_val {g : Option (Nat × Bool)} {i : Nat} (hi : all[i]? = some ⟨some d, op, ty, pos, aft, g⟩) (h : OS P n op ty fr w v w') (k : VA P n all fuel (setB listed i) ((d, v) :: fr) w' Q) (hg : GOk all fr g := by first | exact True.intro | rfl) : VN P n all fuel listed i fr w Q :=
  vn_some (U := fun v1 w1 => v1 = v ∧ w1 = w') hi (h.ot' ⟨rfl, rfl⟩) (by rintro v1 w1 ⟨rfl, rfl⟩; exact k) hg
theorem vn_unit {g : Option (Nat × Bool)} {i : Nat} (hi : all[i]? = some ⟨none, op, ty, pos, aft, g⟩) (h : OU P n op ty fr w w') (k : VA P n all fuel (setB listed i) fr w' Q) (hg : GOk all fr g := by first | exact True.intro | rfl) : VN P n all fuel listed i fr w Q := by
  intro hok a ha
  unfold wpOp
  simp only [List.getElem?_toArray, hi, GOk.wanted ha hg, if_true]
  left
  unfold OU at h
  unfold Oper.wp
  rw [execOp_bare, h a ha]
  exact k hok _ ha
theorem vn_call {g : Option (Nat × Bool)} {i : Nat} {f : FuncId} {xs : List Operand} {tt : Array TypeId} {args : List Value} {U : Value → World → Prop} (hi : all[i]? = some ⟨some d, .call ⟨.value (.func f), xs.toArray, tt⟩, ty, pos, aft, g⟩) (h : Gives P f args.toArray w U) (hx : evL fr xs = some args)
    (k : ∀ v w', U v w' → VA P n all fuel (setB listed i) ((d, v) :: fr) w' Q) (hg : GOk all fr g := by first | exact True.intro | rfl) : VN P n all fuel listed i fr w Q := by
  intro hok a ha
  have h1 := dstOk_at hok hi rfl
  unfold wpOp
  simp only [List.getElem?_toArray, hi, GOk.wanted ha hg, if_true]
  left
  unfold Gives at h
  unfold Oper.wp
  rw [execOp_bare, run_callee (first := #[]) (cap := #[]) h.1 rfl hx ha]
  simp only [Array.append_empty, Array.empty_append]
  refine h.2.mono ?_
  rintro e w' ⟨v, rfl, h2⟩
  exact k v w' h2 hok _ (ha.put h1 v)
theorem vn_calln {g : Option (Nat × Bool)} {i : Nat} {f : FuncId} {xs : List Operand} {tt : Array TypeId} {args : List Value} {U : Value → World → Prop} (hi : all[i]? = some ⟨none, .call ⟨.value (.func f), xs.toArray, tt⟩, ty, pos, aft, g⟩) (h : Gives P f args.toArray w U) (hx : evL fr xs = some args)
    (k : ∀ v w', U v w' → VA P n all fuel (setB listed i) fr w' Q) (hg : GOk all fr g := by first | exact True.intro | rfl) : VN P n all fuel listed i fr w Q := by
  intro hok a ha
  unfold wpOp
  simp only [List.getElem?_toArray, hi, GOk.wanted ha hg, if_true]
  left
  unfold Gives at h
  unfold Oper.wp
  rw [execOp_bare, run_callee (first := #[]) (cap := #[]) h.1 rfl hx ha]
  simp only [Array.append_empty, Array.empty_append]
  refine h.2.mono ?_
  rintro e w' ⟨v, rfl, h2⟩
  exact k v w' h2 hok _ ha
end
attribute [irreducible] VA VN
end Go.Proofs.Ythaifamjgcfkaaa

/- Layer 8: rules of pointers and nil, what stays but for some blocks; the program's writer and reader. -/
namespace Go.Proofs.Ythaifamjgcfkaaa
open Go.RowKit
set_option linter.unusedVariables false

/-! ### numbers as bytes -/
def fitsB (n size : Int) : Bool := decide (1 ≤ size ∧ size ≤ 4 ∧ 0 ≤ n ∧ n < 256 ^ size.toNat)
theorem shr_fits {n size : Int} (h : 1 ≤ size ∧ size ≤ 4 ∧ 0 ≤ n) : decide (n.fdiv (2 ^ min (8 * size).toNat IntKind.i64.bits) = 0) = fitsB n size := by
  rw [Int.fdiv_eq_ediv_of_nonneg _ (Int.le_of_lt (Int.pow_pos (by omega)))]
  unfold fitsB
  rcases (by omega : size = 1 ∨ size = 2 ∨ size = 3 ∨ size = 4) with rfl | rfl | rfl | rfl <;> simp [IntKind.bits] <;> rw [← Bool.decide_and, decide_eq_decide] <;> constructor <;> intro h <;> omega
theorem pk_fits (n size : Int) (w : World) : Gives Try.prog 126 #[.int .i64 n, .int .i64 size] w fun v w' => v = .bool (fitsB n size) ∧ w' = w := by
  refine gives_enter Try.call126 Try.func126 rfl rfl rfl (by kernel_rfl) ?_
  rcases (by omega : size < 1 ∨ size > 4 ∨ (1 ≤ size ∧ size ≤ 4 ∧ n < 0) ∨ (1 ≤ size ∧ size ≤ 4 ∧ 0 ≤ n)) with h | h | h | h
  · refine v_seq ?_
    refine v_region ?_
    refine vl_val (os_assign rfl) ?_
    refine vl_nil ?_
    refine v_seq ?_
    refine v_region ?_
    refine vl_val (os_move rfl) ?_
    refine vl_val (os_f (os_geq rfl rfl) (by omega)) ?_
    refine vl_val (os_move rfl) ?_
    refine vl_skip rfl rfl ?_
    refine vl_skip rfl rfl ?_
    refine vl_val (os_pick_f rfl rfl) ?_
    refine vl_val (os_move rfl) ?_
    refine vl_skip rfl rfl ?_
    refine vl_skip rfl rfl ?_
    refine vl_val (os_pick_f rfl rfl) ?_
    refine vl_val (os_move rfl) ?_
    refine vl_skip rfl rfl ?_
    refine vl_skip rfl rfl ?_
    refine vl_skip rfl rfl ?_
    refine vl_skip rfl rfl ?_
    refine vl_skip rfl rfl ?_
    refine vl_val (os_pick_f rfl rfl) ?_
    refine vl_val (os_assign rfl) ?_
    refine vl_nil ?_
    refine v_ret ?_
    exact post_ret rfl rfl (⟨by simp [fitsB]; omega, rfl⟩)
  · refine v_seq ?_
    refine v_region ?_
    refine vl_val (os_assign rfl) ?_
    refine vl_nil ?_
    refine v_seq ?_
    refine v_region ?_
    refine vl_val (os_move rfl) ?_
    refine vl_val (os_t (os_geq rfl rfl) (by omega)) ?_
    refine vl_val (os_move rfl) ?_
    refine vl_valg rfl (os_move rfl) ?_
    refine vl_valg rfl (os_f (os_leq rfl rfl) (by omega)) ?_
    refine vl_val (os_pick_t rfl rfl) ?_
    refine vl_val (os_move rfl) ?_
    refine vl_skip rfl rfl ?_
    refine vl_skip rfl rfl ?_
    refine vl_val (os_pick_f rfl rfl) ?_
    refine vl_val (os_move rfl) ?_
    refine vl_skip rfl rfl ?_
    refine vl_skip rfl rfl ?_
    refine vl_skip rfl rfl ?_
    refine vl_skip rfl rfl ?_
    refine vl_skip rfl rfl ?_
    refine vl_val (os_pick_f rfl rfl) ?_
    refine vl_val (os_assign rfl) ?_
    refine vl_nil ?_
    refine v_ret ?_
    exact post_ret rfl rfl (⟨by simp [fitsB]; omega, rfl⟩)
  · refine v_seq ?_
    refine v_region ?_
    refine vl_val (os_assign rfl) ?_
    refine vl_nil ?_
    refine v_seq ?_
    refine v_region ?_
    refine vl_val (os_move rfl) ?_
    refine vl_val (os_t (os_geq rfl rfl) (by omega)) ?_
    refine vl_val (os_move rfl) ?_
    refine vl_valg rfl (os_move rfl) ?_
    refine vl_valg rfl (os_t (os_leq rfl rfl) (by omega)) ?_
    refine vl_val (os_pick_t rfl rfl) ?_
    refine vl_val (os_move rfl) ?_
    refine vl_valg rfl (os_move rfl) ?_
    refine vl_valg rfl (os_f (os_geq rfl rfl) (by omega)) ?_
    refine vl_val (os_pick_t rfl rfl) ?_
    refine vl_val (os_move rfl) ?_
    refine vl_skip rfl rfl ?_
    refine vl_skip rfl rfl ?_
    refine vl_skip rfl rfl ?_
    refine vl_skip rfl rfl ?_
    refine vl_skip rfl rfl ?_
    refine vl_val (os_pick_f rfl rfl) ?_
    refine vl_val (os_assign rfl) ?_
    refine vl_nil ?_
    refine v_ret ?_
    exact post_ret rfl rfl (⟨by simp [fitsB]; omega, rfl⟩)
  · refine v_seq ?_
    refine v_region ?_
    refine vl_val (os_assign rfl) ?_
    refine vl_nil ?_
    refine v_seq ?_
    refine v_region ?_
    refine vl_val (os_move rfl) ?_
    refine vl_val (os_t (os_geq rfl rfl) (by omega)) ?_
    refine vl_val (os_move rfl) ?_
    refine vl_valg rfl (os_move rfl) ?_
    refine vl_valg rfl (os_t (os_leq rfl rfl) (by omega)) ?_
    refine vl_val (os_pick_t rfl rfl) ?_
    refine vl_val (os_move rfl) ?_
    refine vl_valg rfl (os_move rfl) ?_
    refine vl_valg rfl (os_t (os_geq rfl rfl) (by omega)) ?_
    refine vl_val (os_pick_t rfl rfl) ?_
    refine vl_val (os_move rfl) ?_
    refine vl_valg rfl (os_move rfl) ?_
    refine vl_valg rfl (os_move rfl) ?_
    refine vl_valg rfl (os_muli rfl rfl (by omega)) ?_
    refine vl_valg rfl (os_shr rfl rfl (by omega) rfl) ?_
    refine vl_valg rfl (os_eql rfl rfl) ?_
    refine vl_val (os_pick_t rfl rfl) ?_
    refine vl_val (os_assign rfl) ?_
    refine vl_nil ?_
    refine v_ret ?_
    exact post_ret rfl rfl (⟨by rw [← shr_fits h], rfl⟩)

theorem pk_able (g : Nat) (v : Value) (e : Int) (t : TypeId) (w : World) (hB : Bk w g [v, .int .i64 e, .bool true] t) : Gives Try.prog 125 #[.pointer (some ⟨g, 0, none⟩)] w fun u w' => u = .bool (decide (e = 0)) ∧ w' = w := by
  refine gives_enter Try.call125 Try.func125 rfl rfl rfl (by kernel_rfl) ?_
  refine v_seq ?_
  refine v_region ?_
  refine vl_val (os_assign rfl) ?_
  refine vl_nil ?_
  refine v_seq ?_
  refine v_region ?_
  refine vl_val (os_move rfl) ?_
  refine vl_val (os_nilCheck rfl) ?_
  refine vl_val (os_fa (o := 2) (k := 0) (by kernel_rfl) rfl) ?_
  refine vl_val (os_load Try.isAgg4 rfl (Bk.cell (i := 2) hB rfl)) ?_
  refine vl_val (os_move rfl) ?_
  refine vl_valg rfl (os_move rfl) ?_
  refine vl_valg rfl (os_nilCheck rfl) ?_
  refine vl_valg rfl (os_fa (o := 1) (k := 0) (by kernel_rfl) rfl) ?_
  refine vl_valg rfl (os_load Try.isAgg29 rfl (Bk.cell (i := 1) hB rfl)) ?_
  refine vl_valg rfl (os_eql rfl rfl) ?_
  refine vl_val (os_pick_t rfl rfl) ?_
  refine vl_val (os_assign rfl) ?_
  refine vl_nil ?_
  refine v_ret ?_
  exact post_ret rfl rfl (⟨rfl, rfl⟩)
theorem pk_unless (g : Nat) (v : Value) (e : Int) (t : TypeId) (b : Bool) (x : Int) (w : World) (hB : Bk w g [v, .int .i64 e, .bool true] t) (hx : x ≠ 0) : Gives Try.prog 89 #[.pointer (some ⟨g, 0, none⟩), .bool b, .int .i64 x] w fun u w' => u = .bool (decide (e = 0) && b) ∧ w' = if e = 0 ∧ b = false then w.setCell ⟨g, 0 + 1, none⟩ (.int .i64 x) else w := by
  refine gives_enter Try.call89 Try.func89 rfl rfl rfl (by kernel_rfl) ?_
  rcases (by by_cases he : e = 0 <;> cases b <;> simp [he] : (e = 0 ∧ b = false) ∨ (e = 0 ∧ b = true) ∨ (e ≠ 0)) with ⟨rfl, rfl⟩ | ⟨rfl, rfl⟩ | he
  · refine v_seq ?_
    refine v_region ?_
    refine vl_val (os_assign rfl) ?_
    refine vl_nil ?_
    refine v_seq ?_
    refine v_seq ?_
    refine v_region ?_
    refine vl_val (os_move rfl) ?_
    refine vl_call (pk_able g v 0 t w hB) rfl ?_
    rintro v1 w ⟨rfl, rfl⟩
    refine vl_val (os_move rfl) ?_
    refine vl_valg rfl (os_move rfl) ?_
    refine vl_valg rfl (os_not rfl) ?_
    refine vl_val (os_pick_t rfl rfl) ?_
    refine vl_nil ?_
    refine v_cond_t rfl ?_
    refine v_region ?_
    refine vl_val (os_move rfl) ?_
    refine vl_val (os_move rfl) ?_
    refine vl_val (os_nilCheck rfl) ?_
    refine vl_val (os_fa (o := 1) (k := 0) (by kernel_rfl) rfl) ?_
    refine vl_unit (ou_store Try.sizeOf29 rfl rfl rfl (Bk.cell (i := 1) hB rfl) (Bk.free hB _)) ?_
    refine vl_nil ?_
    refine v_seq ?_
    refine v_region ?_
    refine vl_val (os_move rfl) ?_
    refine vl_call (pk_able g v x t _ (Bk.set hB 1 (.int .i64 x))) rfl ?_
    rintro v2 w2 ⟨rfl, rfl⟩
    refine vl_val (os_assign rfl) ?_
    refine vl_nil ?_
    refine v_ret ?_
    exact post_ret rfl rfl (⟨by simp [hx], by simp⟩)
  · refine v_seq ?_
    refine v_region ?_
    refine vl_val (os_assign rfl) ?_
    refine vl_nil ?_
    refine v_seq ?_
    refine v_seq ?_
    refine v_region ?_
    refine vl_val (os_move rfl) ?_
    refine vl_call (pk_able g v 0 t w hB) rfl ?_
    rintro v1 w ⟨rfl, rfl⟩
    refine vl_val (os_move rfl) ?_
    refine vl_valg rfl (os_move rfl) ?_
    refine vl_valg rfl (os_not rfl) ?_
    refine vl_val (os_pick_t rfl rfl) ?_
    refine vl_nil ?_
    refine v_cond_f rfl ?_
    refine v_skip ?_
    refine v_seq ?_
    refine v_region ?_
    refine vl_val (os_move rfl) ?_
    refine vl_call (pk_able g v 0 t w hB) rfl ?_
    rintro v2 w ⟨rfl, rfl⟩
    refine vl_val (os_assign rfl) ?_
    refine vl_nil ?_
    refine v_ret ?_
    exact post_ret rfl rfl (⟨rfl, by simp⟩)
  · refine v_seq ?_
    refine v_region ?_
    refine vl_val (os_assign rfl) ?_
    refine vl_nil ?_
    refine v_seq ?_
    refine v_seq ?_
    refine v_region ?_
    refine vl_val (os_move rfl) ?_
    refine vl_call ((pk_able g v e t w hB).mono fun u w' hh => (⟨by rw [hh.1, decide_eq_false he], hh.2⟩ : u = .bool false ∧ w' = w)) rfl ?_
    rintro v1 w ⟨rfl, rfl⟩
    refine vl_val (os_move rfl) ?_
    refine vl_skip rfl rfl ?_
    refine vl_skip rfl rfl ?_
    refine vl_val (os_pick_f rfl rfl) ?_
    refine vl_nil ?_
    refine v_cond_f rfl ?_
    refine v_skip ?_
    refine v_seq ?_
    refine v_region ?_
    refine vl_val (os_move rfl) ?_
    refine vl_call (pk_able g v e t w hB) rfl ?_
    rintro v2 w ⟨rfl, rfl⟩
    refine vl_val (os_assign rfl) ?_
    refine vl_nil ?_
    refine v_ret ?_
    exact post_ret rfl rfl (⟨by simp [he], by simp [he]⟩)

/-- what a writer or reader is: its three cells, its bytes in a row of their own -/
structure WrS (w : World) (B : Nat) (t : TypeId) (g : Nat) (v : Value) (bs : List Int) (e : Int) : Prop where
  bk : Bk w g [v, .int .i64 e, .bool true] t
  own : OwnK w B 5 .u8 v bs
  low : B ≤ g
  ne : v.ownBlock ≠ some g
def WrS.blocks (g : Nat) (v : Value) : List Nat := g :: v.ownBlock.toList

theorem pk_New (w : World) : Gives Try.prog 52 #[] w fun u w' => ∃ g, u = .pointer (some ⟨g, 0, none⟩) ∧ WrS w' w.heap.size 153 g (.slice none 0 0) [] 0 ∧ Below w.heap.size w w' := by
  refine gives_enter Try.call52 Try.func52 rfl rfl rfl (by kernel_rfl) ?_
  refine v_seq ?_
  refine v_region ?_
  refine vl_val (os_assign rfl) ?_
  refine vl_nil ?_
  refine v_seq ?_
  refine v_region ?_
  refine vl_val (os_build (cs := [.slice none 0 0, .int .i64 0, .bool true]) rfl (by kernel_rfl)) ?_
  refine vl_val (os_build (cs := [.slice none 0 0, .int .i64 0, .bool true]) rfl (by kernel_rfl)) ?_
  refine vl_val (os_box rfl) ?_
  refine vl_val (os_assign rfl) ?_
  refine vl_nil ?_
  refine v_ret ?_
  exact post_ret rfl rfl (⟨_, rfl, ⟨bk_new w [.slice none 0 0, .int .i64 0, .bool true] _, Own.nil _ _ _, Nat.le_refl _, by simp [Value.ownBlock]⟩, (Below.refl _ _).alloc (Nat.le_refl _) _⟩)

def wrBytes (bs : List Int) (e : Int) (n size : Int) : List Int := if e = 0 ∧ fitsB n size = true then bs ++ numBytes n size.toNat else bs
def wrErr (e : Int) (n size : Int) : Int := if e = 0 ∧ fitsB n size = false then 2 else e

theorem numBytes_succ (n : Int) {s k : Nat} (hk : k < s) : (numBytes n s).take (k + 1) = (numBytes n s).take k ++ [n / 256 ^ (s - 1 - k) % 256] := by
  rw [List.take_succ_eq_append_getElem (by rw [numBytes_len]; exact hk)]
  simp [numBytes]
theorem shr_byte (n : Int) {s k : Nat} (hk : k < s) (hs : s ≤ 4) : n.fdiv (2 ^ min (8 * ((s : Int) - 1 - (k : Int))).toNat IntKind.i64.bits) = n / 256 ^ (s - 1 - k) := by
  rw [Int.fdiv_eq_ediv_of_nonneg _ (Int.le_of_lt (Int.pow_pos (by omega)))]
  have e : min (8 * ((s : Int) - 1 - (k : Int))).toNat IntKind.i64.bits = 8 * (s - 1 - k) := by simp [IntKind.bits]; omega
  rw [e, Int.pow_mul]
  rfl
theorem blocks_ok {g : Nat} {v v' : Value} {B : Nat} (h : v'.ownBlock = v.ownBlock ∨ ∃ h, v'.ownBlock = some h ∧ B ≤ h) : ∀ k ∈ WrS.blocks g v', k ∈ WrS.blocks g v ∨ B ≤ k := by
  intro k hk
  unfold WrS.blocks at hk ⊢
  rcases h with e | ⟨x, e, hx⟩
  · rw [e] at hk; exact .inl hk
  · rw [e] at hk
    simp at hk
    rcases hk with rfl | rfl
    · exact .inl (by simp)
    · exact .inr hx

set_option maxHeartbeats 1000000 in
theorem pk_Number (g : Nat) (v : Value) (bs : List Int) (e n size : Int) (B : Nat) (w : World) (hw : WrS w B 153 g v bs e) (hB : B ≤ w.heap.size) (hl : (bs.length + 4) ≤ 140737488355328) :
    Gives Try.prog 95 #[.pointer (some ⟨g, 0, none⟩), .int .i64 n, .int .i64 size] w fun u w' => ∃ v', WrS w' B 153 g v' (wrBytes bs e n size) (wrErr e n size) ∧ Kb (WrS.blocks g v) w w' ∧ (v'.ownBlock = v.ownBlock ∨ ∃ h, v'.ownBlock = some h ∧ w.heap.size ≤ h) := by
  refine gives_enter Try.call95 Try.func95 rfl rfl rfl (by kernel_rfl) ?_
  rcases (by by_cases he : e = 0 <;> cases fitsB n size <;> simp [he] : (e = 0 ∧ fitsB n size = false) ∨ (e ≠ 0) ∨ (e = 0 ∧ fitsB n size = true)) with ⟨rfl, hf⟩ | he | ⟨rfl, hf⟩
  · refine v_seq ?_
    refine v_seq ?_
    refine v_region_a mixed ?_
    refine va_pure 0 rfl (by kernel_rfl) (by kernel_rfl) (by kernel_rfl) (fun w => (os_move rfl)) ?_
    refine va_pure 1 rfl (by kernel_rfl) (by kernel_rfl) (by kernel_rfl) (fun w => (os_is (os_eqlnil (by kernel_rfl) rfl rfl) (rfl))) ?_
    refine va_pure 2 rfl (by kernel_rfl) (by kernel_rfl) (by kernel_rfl) (fun w => (os_move rfl)) ?_
    refine va_pure 3 rfl (by kernel_rfl) (by kernel_rfl) (by kernel_rfl) (fun w => (os_move rfl)) ?_
    refine va_pure 4 rfl (by kernel_rfl) (by kernel_rfl) (by kernel_rfl) (fun w => (os_nilCheck rfl)) ?_
    refine va_pure 5 rfl (by kernel_rfl) (by kernel_rfl) (by kernel_rfl) (fun w => (os_fa (o := 0) (k := 2) (by kernel_rfl) rfl)) ?_
    refine va_pure 6 rfl (by kernel_rfl) (by kernel_rfl) (by kernel_rfl) (fun w => (os_move rfl)) ?_
    refine va_pure 7 rfl (by kernel_rfl) (by kernel_rfl) (by kernel_rfl) (fun w => (os_move rfl)) ?_
    refine va_one 8 (by kernel_rfl) ?_
    refine vn_call rfl (pk_fits n size _) rfl ?_
    rintro v1 w1 ⟨rfl, rfl⟩
    refine va_one 9 (by kernel_rfl) ?_
    refine vn_call rfl ((pk_unless g v 0 _ (fitsB n size) 2 _ (Bk.led hw.bk ⟨1, rfl⟩) (by omega)).mono fun u w' hh => (⟨by rw [hh.1, hf]; rfl, by rw [hh.2, hf, if_pos ⟨rfl, rfl⟩]⟩ : u = .bool false ∧ w' = _)) rfl ?_
    rintro v2 w2 ⟨rfl, rfl⟩
    refine va_pure 10 rfl (by kernel_rfl) (by kernel_rfl) (by kernel_rfl) (fun w => (os_not rfl)) ?_
    refine va_pure 11 rfl (by kernel_rfl) (by kernel_rfl) (by kernel_rfl) (fun w => (os_pick_f rfl rfl)) ?_
    refine va_done (by kernel_rfl) ?_
    refine v_cond_t rfl ?_
    refine v_ret ?_
    exact post_ret0 rfl (⟨v, ⟨by rw [wrErr, hf, if_pos ⟨rfl, rfl⟩]; exact Bk.set (Bk.led hw.bk ⟨1, rfl⟩) 1 _, by rw [wrBytes, hf, if_neg (fun h => by cases h.2)]; exact Own.setOther (Own.led hw.own ⟨1, rfl⟩) (fun g' e e2 => hw.ne (by rw [e, e2])) _ _, hw.low, hw.ne⟩, (Kb.led ⟨1, rfl⟩).trans (Kb.set (List.mem_cons_self) _ _) (fun k hk => .inl hk), .inl rfl⟩)
  · refine v_seq ?_
    refine v_seq ?_
    refine v_region_a mixed ?_
    refine va_pure 0 rfl (by kernel_rfl) (by kernel_rfl) (by kernel_rfl) (fun w => (os_move rfl)) ?_
    refine va_pure 1 rfl (by kernel_rfl) (by kernel_rfl) (by kernel_rfl) (fun w => (os_is (os_eqlnil (by kernel_rfl) rfl rfl) (rfl))) ?_
    refine va_pure 2 rfl (by kernel_rfl) (by kernel_rfl) (by kernel_rfl) (fun w => (os_move rfl)) ?_
    refine va_pure 3 rfl (by kernel_rfl) (by kernel_rfl) (by kernel_rfl) (fun w => (os_move rfl)) ?_
    refine va_pure 4 rfl (by kernel_rfl) (by kernel_rfl) (by kernel_rfl) (fun w => (os_nilCheck rfl)) ?_
    refine va_pure 5 rfl (by kernel_rfl) (by kernel_rfl) (by kernel_rfl) (fun w => (os_fa (o := 0) (k := 2) (by kernel_rfl) rfl)) ?_
    refine va_pure 6 rfl (by kernel_rfl) (by kernel_rfl) (by kernel_rfl) (fun w => (os_move rfl)) ?_
    refine va_pure 7 rfl (by kernel_rfl) (by kernel_rfl) (by kernel_rfl) (fun w => (os_move rfl)) ?_
    refine va_one 8 (by kernel_rfl) ?_
    refine vn_call rfl (pk_fits n size _) rfl ?_
    rintro v1 w1 ⟨rfl, rfl⟩
    refine va_one 9 (by kernel_rfl) ?_
    refine vn_call rfl ((pk_unless g v e _ (fitsB n size) 2 _ (Bk.led hw.bk ⟨1, rfl⟩) (by omega)).mono fun u w' hh => (⟨by rw [hh.1, decide_eq_false he]; rfl, by rw [hh.2, if_neg (fun h => he h.1)]⟩ : u = .bool false ∧ w' = _)) rfl ?_
    rintro v2 w2 ⟨rfl, rfl⟩
    refine va_pure 10 rfl (by kernel_rfl) (by kernel_rfl) (by kernel_rfl) (fun w => (os_not rfl)) ?_
    refine va_pure 11 rfl (by kernel_rfl) (by kernel_rfl) (by kernel_rfl) (fun w => (os_pick_f rfl rfl)) ?_
    refine va_done (by kernel_rfl) ?_
    refine v_cond_t rfl ?_
    refine v_ret ?_
    exact post_ret0 rfl (⟨v, ⟨by rw [wrErr, if_neg (fun h => he h.1)]; exact Bk.led hw.bk ⟨1, rfl⟩, by rw [wrBytes, if_neg (fun h => he h.1)]; exact Own.led hw.own ⟨1, rfl⟩, hw.low, hw.ne⟩, Kb.led ⟨1, rfl⟩, .inl rfl⟩)
  · refine v_seq ?_
    refine v_seq ?_
    refine v_region_a mixed ?_
    refine va_pure 0 rfl (by kernel_rfl) (by kernel_rfl) (by kernel_rfl) (fun w => (os_move rfl)) ?_
    refine va_pure 1 rfl (by kernel_rfl) (by kernel_rfl) (by kernel_rfl) (fun w => (os_is (os_eqlnil (by kernel_rfl) rfl rfl) (rfl))) ?_
    refine va_pure 2 rfl (by kernel_rfl) (by kernel_rfl) (by kernel_rfl) (fun w => (os_move rfl)) ?_
    refine va_pure 3 rfl (by kernel_rfl) (by kernel_rfl) (by kernel_rfl) (fun w => (os_move rfl)) ?_
    refine va_pure 4 rfl (by kernel_rfl) (by kernel_rfl) (by kernel_rfl) (fun w => (os_nilCheck rfl)) ?_
    refine va_pure 5 rfl (by kernel_rfl) (by kernel_rfl) (by kernel_rfl) (fun w => (os_fa (o := 0) (k := 2) (by kernel_rfl) rfl)) ?_
    refine va_pure 6 rfl (by kernel_rfl) (by kernel_rfl) (by kernel_rfl) (fun w => (os_move rfl)) ?_
    refine va_pure 7 rfl (by kernel_rfl) (by kernel_rfl) (by kernel_rfl) (fun w => (os_move rfl)) ?_
    refine va_one 8 (by kernel_rfl) ?_
    refine vn_call rfl (pk_fits n size _) rfl ?_
    rintro v1 w1 ⟨rfl, rfl⟩
    refine va_one 9 (by kernel_rfl) ?_
    refine vn_call rfl ((pk_unless g v 0 _ (fitsB n size) 2 _ (Bk.led hw.bk ⟨1, rfl⟩) (by omega)).mono fun u w' hh => (⟨by rw [hh.1, hf]; rfl, by rw [hh.2, hf, if_neg (fun h => by cases h.2)]⟩ : u = .bool true ∧ w' = _)) rfl ?_
    rintro v2 w2 ⟨rfl, rfl⟩
    have hs : 1 ≤ size ∧ size ≤ 4 ∧ 0 ≤ n ∧ n < 256 ^ size.toNat := of_decide_eq_true hf
    obtain ⟨s, rfl⟩ : ∃ s : Nat, size = s := ⟨size.toNat, by omega⟩
    have hn6 : n < 256 ^ s := by have := hs.2.2.2; simpa using this
    refine va_pure 10 rfl (by kernel_rfl) (by kernel_rfl) (by kernel_rfl) (fun w => (os_not rfl)) ?_
    refine va_pure 11 rfl (by kernel_rfl) (by kernel_rfl) (by kernel_rfl) (fun w => (os_pick_f rfl rfl)) ?_
    refine va_done (by kernel_rfl) ?_
    refine v_cond_f rfl ?_
    refine v_skip ?_
    refine v_seq ?_
    refine v_region ?_
    refine vl_val (os_move rfl) ?_
    refine vl_val (os_move rfl) ?_
    refine vl_nil ?_
    refine v_block ?_
    refine v_loop [(0, _), (1, _), (2, _), (19, _)] (fun (k : Nat) => [(20, .int .i64 k)]) (fun k w' => k ≤ s ∧ ∃ v', WrS w' B 153 g v' (bs ++ (numBytes n s).take k) 0 ∧ Kb (WrS.blocks g v) w w' ∧ (v'.ownBlock = v.ownBlock ∨ ∃ h, v'.ownBlock = some h ∧ w.heap.size ≤ h)) (fun k => s - k) (0) ⟨rfl, rfl, rfl, rfl, trivial⟩ ⟨rfl, trivial⟩ (⟨by omega, v, ⟨Bk.led hw.bk ⟨1, rfl⟩, by simp only [List.take_zero, List.append_nil]; exact Own.led hw.own ⟨1, rfl⟩, hw.low, hw.ne⟩, Kb.led ⟨1, rfl⟩, .inl rfl⟩) ?_
    rintro k w' ⟨hk, v', hw', hkb, hob⟩
    refine v_seq ?_
    refine v_region ?_
    refine vl_val (os_lss rfl rfl) ?_
    refine vl_nil ?_
    refine v_seq ?_
    refine v_cond_d rfl (fun hlt => ?_) (fun hlt => ?_)
    · have hlb : (bs ++ (numBytes n s).take k).length ≤ bs.length + 3 := by rw [List.length_append, List.length_take, numBytes_len]; omega
      have hsz := hkb.size
      have hg := hw'.bk.lt
      refine v_skip ?_
      refine v_seq ?_
      refine v_block ?_
      refine v_seq ?_
      refine v_region ?_
      refine vl_val (os_move rfl) ?_
      refine vl_val (os_assign rfl) ?_
      refine vl_nil ?_
      refine v_region_a mixed ?_
      refine va_pure 0 rfl (by kernel_rfl) (by kernel_rfl) (by kernel_rfl) (fun w => (os_move rfl)) ?_
      refine va_pure 1 rfl (by kernel_rfl) (by kernel_rfl) (by kernel_rfl) (fun w => (os_move rfl)) ?_
      refine va_pure 2 rfl (by kernel_rfl) (by kernel_rfl) (by kernel_rfl) (fun w => (os_nilCheck rfl)) ?_
      refine va_pure 3 rfl (by kernel_rfl) (by kernel_rfl) (by kernel_rfl) (fun w => (os_fa (o := 0) (k := 2) (by kernel_rfl) rfl)) ?_
      refine va_pure 4 rfl (by kernel_rfl) (by kernel_rfl) (by kernel_rfl) (fun w => (os_fa (o := 0) (k := 0) (by kernel_rfl) rfl)) ?_
      refine va_pure 6 rfl (by kernel_rfl) (by kernel_rfl) (by kernel_rfl) (fun w => (os_move rfl)) ?_
      refine va_pure 7 rfl (by kernel_rfl) (by kernel_rfl) (by kernel_rfl) (fun w => (os_move rfl)) ?_
      refine va_pure 8 rfl (by kernel_rfl) (by kernel_rfl) (by kernel_rfl) (fun w => (os_subi rfl rfl (by omega))) ?_
      refine va_pure 9 rfl (by kernel_rfl) (by kernel_rfl) (by kernel_rfl) (fun w => (os_move rfl)) ?_
      refine va_pure 10 rfl (by kernel_rfl) (by kernel_rfl) (by kernel_rfl) (fun w => (os_subi rfl rfl (by omega))) ?_
      refine va_pure 11 rfl (by kernel_rfl) (by kernel_rfl) (by kernel_rfl) (fun w => (os_muli rfl rfl (by omega))) ?_
      refine va_pure 12 rfl (by kernel_rfl) (by kernel_rfl) (by kernel_rfl) (fun w => (os_shr (r := n / 256 ^ (s - 1 - k)) rfl rfl (by omega) (shr_byte n (by omega) (by omega)))) ?_
      refine va_pure 13 rfl (by kernel_rfl) (by kernel_rfl) (by kernel_rfl) (fun w => (os_conv Try.underlying3 Try.underlying5 rfl (IntKind.wrap_u8 _))) ?_
      refine va_two 5 14 (by kernel_rfl) ?_ ?_
      · refine vn_val rfl (os_load Try.isAgg22 rfl (by first | exact Bk.cell (i := 0) (Bk.led hw'.bk ⟨1, rfl⟩) rfl | exact Bk.cell (i := 0) (Bk.alloc (Bk.led hw'.bk ⟨1, rfl⟩) _) rfl)) ?_
        refine va_one 14 (by kernel_rfl) ?_
        refine vn_val rfl (os_lit Try.underlying22 Try.sizeOf5 Try.zeroValue5 rfl rfl rfl rfl (by decide)) ?_
        refine va_one 15 (by kernel_rfl) ?_
        refine vn_some rfl (ot_append_at Try.underlying22 ti_u8 rfl rfl rfl (Own.alloc (Own.led hw'.own ⟨1, rfl⟩) _) (rdc_alloc _ [Value.int .u8 (n / 256 ^ (s - 1 - k) % 256)] _) rfl (by simp [Value.oneCell']) (by rw [List.length_map]; omega) (by rw [List.length_map]; simp only [maxLen]; omega) (by simp; omega)) ?_
        rintro v6 w6 ⟨ho6, hg6, ha6⟩
        obtain ⟨A6, c6, rfl, -⟩ := Own.form ho6
        refine va_pure 16 rfl (by kernel_rfl) (by kernel_rfl) (by kernel_rfl) (fun w => (os_nilCheck rfl)) ?_
        refine va_pure 17 rfl (by kernel_rfl) (by kernel_rfl) (by kernel_rfl) (fun w => (os_fa (o := 0) (k := 2) (by kernel_rfl) rfl)) ?_
        refine va_pure 18 rfl (by kernel_rfl) (by kernel_rfl) (by kernel_rfl) (fun w => (os_fa (o := 0) (k := 0) (by kernel_rfl) rfl)) ?_
        refine va_one 19 (by kernel_rfl) ?_
        refine vn_unit rfl (ou_store Try.sizeOf22 rfl rfl rfl (Bk.cell (i := 0) (Bk.grown (Bk.alloc (Bk.led hw'.bk ⟨1, rfl⟩) _) hg6 (fun e => hw'.ne e.symm)) rfl) (Bk.free (Bk.grown (Bk.alloc (Bk.led hw'.bk ⟨1, rfl⟩) _) hg6 (fun e => hw'.ne e.symm)) _)) ?_
        have hne6 : (Value.slice A6 _ c6).ownBlock ≠ some g := fun e => by
          rcases ha6 with h6 | h6
          · rw [h6] at e; exact hw'.ne e
          · rw [h6] at e; simp at e; omega
        refine va_done (by kernel_rfl) ?_
        refine v_region ?_
        refine vl_val (os_addi rfl rfl (by omega)) ?_
        refine vl_val (os_move rfl) ?_
        refine vl_nil ?_
        exact ⟨k + 1, ⟨rfl, rfl, rfl, rfl, trivial⟩, ⟨rfl, trivial⟩, ⟨by omega, _, ⟨Bk.set (Bk.grown (Bk.alloc (Bk.led hw'.bk ⟨1, rfl⟩) _) hg6 (fun e => hw'.ne e.symm)) 0 _, by rw [numBytes_succ n (by omega), ← List.append_assoc]; unfold OwnK; rw [show List.map (Value.int .u8) (bs ++ List.take k (numBytes n s) ++ [n / 256 ^ (s - 1 - k) % 256]) = List.map (Value.int .u8) (bs ++ List.take k (numBytes n s)) ++ [Value.int .u8 (n / 256 ^ (s - 1 - k) % 256)] from List.map_append ..]; exact Own.setOther ho6 (fun g' e e2 => hne6 (by rw [e, e2])) _ _, hw'.low, hne6⟩, hkb.trans (((Kb.led ⟨1, rfl⟩).trans (Kb.of_below ((Below.refl _ _).alloc (Nat.le_refl _) _)) (fun k hk => .inl hk)).trans ((Kb.grown hg6 (S := WrS.blocks g v') (fun k hk => by rw [WrS.blocks, hk]; simp)).trans (Kb.set (by simp [WrS.blocks]) _ _) (fun k hk => .inl hk)) (fun k hk => .inl hk)) (blocks_ok hob), by rcases ha6 with h6 | h6; (rw [h6]; exact hob); exact .inr ⟨_, h6, by simp; omega⟩⟩, by dsimp only; omega⟩
      · refine vn_val rfl (os_lit Try.underlying22 Try.sizeOf5 Try.zeroValue5 rfl rfl rfl rfl (by decide)) ?_
        refine va_one 5 (by kernel_rfl) ?_
        refine vn_val rfl (os_load Try.isAgg22 rfl (by first | exact Bk.cell (i := 0) (Bk.led hw'.bk ⟨1, rfl⟩) rfl | exact Bk.cell (i := 0) (Bk.alloc (Bk.led hw'.bk ⟨1, rfl⟩) _) rfl)) ?_
        refine va_one 15 (by kernel_rfl) ?_
        refine vn_some rfl (ot_append_at Try.underlying22 ti_u8 rfl rfl rfl (Own.alloc (Own.led hw'.own ⟨1, rfl⟩) _) (rdc_alloc _ [Value.int .u8 (n / 256 ^ (s - 1 - k) % 256)] _) rfl (by simp [Value.oneCell']) (by rw [List.length_map]; omega) (by rw [List.length_map]; simp only [maxLen]; omega) (by simp; omega)) ?_
        rintro v6 w6 ⟨ho6, hg6, ha6⟩
        obtain ⟨A6, c6, rfl, -⟩ := Own.form ho6
        refine va_pure 16 rfl (by kernel_rfl) (by kernel_rfl) (by kernel_rfl) (fun w => (os_nilCheck rfl)) ?_
        refine va_pure 17 rfl (by kernel_rfl) (by kernel_rfl) (by kernel_rfl) (fun w => (os_fa (o := 0) (k := 2) (by kernel_rfl) rfl)) ?_
        refine va_pure 18 rfl (by kernel_rfl) (by kernel_rfl) (by kernel_rfl) (fun w => (os_fa (o := 0) (k := 0) (by kernel_rfl) rfl)) ?_
        refine va_one 19 (by kernel_rfl) ?_
        refine vn_unit rfl (ou_store Try.sizeOf22 rfl rfl rfl (Bk.cell (i := 0) (Bk.grown (Bk.alloc (Bk.led hw'.bk ⟨1, rfl⟩) _) hg6 (fun e => hw'.ne e.symm)) rfl) (Bk.free (Bk.grown (Bk.alloc (Bk.led hw'.bk ⟨1, rfl⟩) _) hg6 (fun e => hw'.ne e.symm)) _)) ?_
        have hne6 : (Value.slice A6 _ c6).ownBlock ≠ some g := fun e => by
          rcases ha6 with h6 | h6
          · rw [h6] at e; exact hw'.ne e
          · rw [h6] at e; simp at e; omega
        refine va_done (by kernel_rfl) ?_
        refine v_region ?_
        refine vl_val (os_addi rfl rfl (by omega)) ?_
        refine vl_val (os_move rfl) ?_
        refine vl_nil ?_
        exact ⟨k + 1, ⟨rfl, rfl, rfl, rfl, trivial⟩, ⟨rfl, trivial⟩, ⟨by omega, _, ⟨Bk.set (Bk.grown (Bk.alloc (Bk.led hw'.bk ⟨1, rfl⟩) _) hg6 (fun e => hw'.ne e.symm)) 0 _, by rw [numBytes_succ n (by omega), ← List.append_assoc]; unfold OwnK; rw [show List.map (Value.int .u8) (bs ++ List.take k (numBytes n s) ++ [n / 256 ^ (s - 1 - k) % 256]) = List.map (Value.int .u8) (bs ++ List.take k (numBytes n s)) ++ [Value.int .u8 (n / 256 ^ (s - 1 - k) % 256)] from List.map_append ..]; exact Own.setOther ho6 (fun g' e e2 => hne6 (by rw [e, e2])) _ _, hw'.low, hne6⟩, hkb.trans (((Kb.led ⟨1, rfl⟩).trans (Kb.of_below ((Below.refl _ _).alloc (Nat.le_refl _) _)) (fun k hk => .inl hk)).trans ((Kb.grown hg6 (S := WrS.blocks g v') (fun k hk => by rw [WrS.blocks, hk]; simp)).trans (Kb.set (by simp [WrS.blocks]) _ _) (fun k hk => .inl hk)) (fun k hk => .inl hk)) (blocks_ok hob), by rcases ha6 with h6 | h6; (rw [h6]; exact hob); exact .inr ⟨_, h6, by simp; omega⟩⟩, by dsimp only; omega⟩
    · obtain rfl : s = k := by omega
      refine v_exit ?_
      exact post_end0 rfl (⟨v', by rw [wrBytes, hf, if_pos ⟨rfl, rfl⟩, wrErr, hf, if_neg (fun h => by cases h.2)]; have e : (numBytes n s).take s = numBytes n s := List.take_of_length_le (by rw [numBytes_len]; exact Nat.le_refl _); rw [e] at hw'; simpa using hw', hkb, hob⟩)
end Go.Proofs.Ythaifamjgcfkaaa

/- slices.Clone of bytes. -/
namespace Go.Proofs.Ythaifamjgcfkaaa
open Go.RowKit
set_option linter.unusedVariables false

section
variable {P : Program} {n : Cx} {fr : Fr} {w w' : World} {ty : TypeId} {x y z : Operand} {v u : Value} {T T2 e : TypeId} {op : Op}
theorem os_eqlsnil {A : Option Addr} {l c : Nat} (hT : P.underlying T = some (.slice e)) (hx : Fr.ev fr x = some (.slice A l c)) (hy : Fr.ev fr y = some (.slice none 0 0)) : OS P n (.binOp .eql T x y T2) ty fr w (.bool A.isNone) w := os_of fun a ha => by
  simp [execOp, ha.ev hx, ha.ev hy, eqGuard, Lib.run_eql_slice_nil w T e A l c 0 0 hT]
end

set_option maxHeartbeats 1000000 in
theorem sl_Clone (A : Option Addr) (n c : Nat) (bs : List Int) (w : World) (ha : Rd w .u8 A bs) (hn : n = bs.length) (hl : n ≤ 140737488351232) : Gives Try.prog 88 #[.slice A n c] w fun v w' => OwnK w' w.heap.size 5 .u8 v bs ∧ Below w.heap.size w w' := by
  refine gives_enter Try.call88 Try.func88 rfl rfl rfl (by kernel_rfl) ?_
  rcases Option.eq_none_or_eq_some A with rfl | ⟨a, rfl⟩
  · refine v_seq ?_
    refine v_region ?_
    refine vl_val (os_assign rfl) ?_
    refine vl_nil ?_
    refine v_seq ?_
    refine v_seq ?_
    refine v_region ?_
    refine vl_val (os_move rfl) ?_
    refine vl_val (os_eqlsnil Try.underlying22 rfl rfl) ?_
    refine vl_nil ?_
    refine v_cond_t rfl ?_
    have e : bs = [] := by
      cases bs with
      | nil => rfl
      | cons x r => obtain ⟨b, o, h, _⟩ := ha (by simp); cases h
    refine v_seq ?_
    refine v_region ?_
    refine vl_val (os_assign rfl) ?_
    refine vl_nil ?_
    refine v_ret ?_
    exact post_ret rfl rfl (⟨by subst e; exact Own.nil _ _ _, Below.refl _ _⟩)
  · refine v_seq ?_
    refine v_region ?_
    refine vl_val (os_assign rfl) ?_
    refine vl_nil ?_
    refine v_seq ?_
    refine v_seq ?_
    refine v_region ?_
    refine vl_val (os_move rfl) ?_
    refine vl_val (os_eqlsnil Try.underlying22 rfl rfl) ?_
    refine vl_nil ?_
    refine v_cond_f rfl ?_
    have s0 := own_alloc w [] 5 (Nat.le_refl w.heap.size) (by simp [maxLen])
    have s0b : Below w.heap.size w (w.alloc (.cells #[] 5)) := (Below.refl _ w).alloc (Nat.le_refl _) _
    refine v_skip ?_
    refine v_seq ?_
    refine v_region ?_
    refine vl_val (os_lit Try.underlying22 Try.sizeOf5 Try.zeroValue5 rfl rfl rfl rfl (by decide)) ?_
    refine vl_val (os_move rfl) ?_
    refine vl_some (ot_append Try.underlying22 ti_u8 rfl rfl rfl s0 (ha.keep s0b).toC (by simp [hn]) (by intro u hu; obtain ⟨z, _, rfl⟩ := List.mem_map.1 hu; rfl) (by simp; omega) (by simp [maxLen]; omega) (by simp)) ?_
    rintro v6 w6 ⟨so, sg⟩
    refine vl_val (os_assign rfl) ?_
    refine vl_nil ?_
    refine v_ret ?_
    exact post_ret rfl rfl (⟨by simpa [OwnK] using so, s0.below s0b sg (Nat.le_refl _) (by simp)⟩)

end Go.Proofs.Ythaifamjgcfkaaa
