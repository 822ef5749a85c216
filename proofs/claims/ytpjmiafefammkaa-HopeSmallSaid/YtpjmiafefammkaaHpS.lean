/- Layer 25: the walk of HopeSmall. -/
import Derived.Test.YtpjmiafefammkaaHpT
import Derived.Test.YtpjmiafefammkaaSlC
import Derived.Test.YtpjmiafefammkaaV5
import Derived.Test.YtpjmiafefammkaaNil
namespace Go.Proofs.Ytpjmiafefammkaa
open Go.RowKit
set_option linter.unusedVariables false

def IsRowC (k : IntKind) (zs : List Int) : Fact := fun v w => ∃ A c, v = .slice A zs.length c ∧ zs.length ≤ c ∧ Rd w k A zs
theorem isRowC_stable (k : IntKind) (zs : List Int) : Stable LeG (IsRowC k zs) := fun v w w' h ⟨A, c, e, hc, r⟩ => ⟨A, c, e, hc, r.keep h⟩
theorem isRowC_lit (k : IntKind) (w : World) (zs : List Int) (e : TypeId) : LeG w (w.alloc (.cells (zs.map (Value.int k)).toArray e)) ∧ IsRowC k zs (.slice (some ⟨w.heap.size, 0, none⟩) zs.length zs.length) (w.alloc (.cells (zs.map (Value.int k)).toArray e)) :=
  ⟨(Below.refl _ _).alloc (Nat.le_refl _) _, _, _, rfl, Nat.le_refl _, rd_alloc w k zs e⟩
theorem allI_mem {zs : List Int} (h : ∀ z ∈ zs, -9223372036854775808 ≤ z ∧ z ≤ 9223372036854775807) : AllI zs := fun z hz => by unfold I64; exact h z hz
theorem AllI.take {zs : List Int} (h : AllI zs) (n : Nat) : AllI (zs.take n) := fun z hz => h z (List.mem_of_mem_take hz)

theorem guess_made_nil (w : World) : Gives Try.prog 58 #[.pointer none] w fun v w' => v = .bool false ∧ w' = w := by
  refine gives_enter Try.call58 Try.func58 rfl rfl rfl (by kernel_rfl) ?_
  refine v_seq ?_
  refine v_region ?_
  refine vl_val (os_assign rfl) ?_
  refine vl_nil ?_
  refine v_seq ?_
  refine v_region ?_
  refine vl_val (os_move rfl) ?_
  refine vl_val (os_is (os_neqnil (by kernel_rfl) rfl rfl) (rfl)) ?_
  refine vl_val (os_move rfl) ?_
  refine vl_skip rfl rfl ?_
  refine vl_skip rfl rfl ?_
  refine vl_skip rfl rfl ?_
  refine vl_skip rfl rfl ?_
  refine vl_skip rfl rfl ?_
  refine vl_val (os_pick_f rfl rfl) ?_
  refine vl_val (os_assign rfl) ?_
  refine vl_nil ?_
  refine v_ret ?_
  exact post_ret rfl rfl (⟨rfl, rfl⟩)
theorem guess_made0 (g : Nat) (w : World) (h : w.cell? ⟨g, 0 + 257, none⟩ = some (.int .i64 0)) : Gives Try.prog 58 #[.pointer (some ⟨g, 0, none⟩)] w fun v w' => v = .bool false ∧ w' = w := by
  refine gives_enter Try.call58 Try.func58 rfl rfl rfl (by kernel_rfl) ?_
  refine v_seq ?_
  refine v_region ?_
  refine vl_val (os_assign rfl) ?_
  refine vl_nil ?_
  refine v_seq ?_
  refine v_region ?_
  refine vl_val (os_move rfl) ?_
  refine vl_val (os_is (os_neqnil (by kernel_rfl) rfl rfl) (rfl)) ?_
  refine vl_val (os_move rfl) ?_
  refine vl_valg rfl (os_move rfl) ?_
  refine vl_valg rfl (os_nilCheck rfl) ?_
  refine vl_valg rfl (os_fa (o := 257) (k := 0) (by kernel_rfl) rfl) ?_
  refine vl_valg rfl (os_load Try.isAgg3 rfl (h)) ?_
  refine vl_valg rfl (os_gtr rfl rfl) ?_
  refine vl_val (os_pick_t rfl rfl) ?_
  refine vl_val (os_assign rfl) ?_
  refine vl_nil ?_
  refine v_ret ?_
  exact post_ret rfl rfl (⟨rfl, rfl⟩)
theorem guess_Parts0 (p : Option Addr) (w : World) (h : Gives Try.prog 58 #[.pointer p] w fun v w' => v = .bool false ∧ w' = w) : Gives Try.prog 25 #[.pointer p] w fun v w' => v = .slice none 0 0 ∧ w' = w := by
  refine gives_enter Try.call25 Try.func25 rfl rfl rfl (by kernel_rfl) ?_
  refine v_seq ?_
  refine v_region ?_
  refine vl_val (os_assign rfl) ?_
  refine vl_nil ?_
  refine v_seq ?_
  refine v_seq ?_
  refine v_region ?_
  refine vl_val (os_move rfl) ?_
  refine vl_call (h) rfl ?_
  rintro v w ⟨rfl, rfl⟩
  refine vl_val (os_not rfl) ?_
  refine vl_nil ?_
  refine v_cond_t rfl ?_
  refine v_seq ?_
  refine v_region ?_
  refine vl_val (os_assign rfl) ?_
  refine vl_nil ?_
  refine v_ret ?_
  exact post_ret rfl rfl (⟨rfl, rfl⟩)
theorem hope_Of0 (p : Option Addr) (w : World) (h : Gives Try.prog 58 #[.pointer p] w fun v w' => v = .bool false ∧ w' = w) : Gives Try.prog 46 #[.pointer p] w fun v w' => v = .tuple #[.slice none 0 0, .int .i64 1] ∧ w' = w := by
  refine gives_enter Try.call46 Try.func46 rfl rfl rfl (by kernel_rfl) ?_
  refine v_seq ?_
  refine v_region ?_
  refine vl_val (os_assign rfl) ?_
  refine vl_val (os_assign rfl) ?_
  refine vl_nil ?_
  refine v_seq ?_
  refine v_region ?_
  refine vl_val (os_assign rfl) ?_
  refine vl_nil ?_
  refine v_seq ?_
  refine v_region ?_
  refine vl_val (os_move rfl) ?_
  refine vl_val (os_move rfl) ?_
  refine vl_callv rfl (guess_Parts0 p w h) rfl ?_
  rintro v w ⟨rfl, rfl⟩
  refine vl_val (os_assign rfl) ?_
  refine vl_nil ?_
  refine v_seq ?_
  refine v_seq ?_
  refine v_region ?_
  refine vl_val (os_move rfl) ?_
  refine vl_val (os_eqlsnil Try.underlying40 rfl rfl) ?_
  refine vl_nil ?_
  refine v_cond_t rfl ?_
  refine v_seq ?_
  refine v_region ?_
  refine vl_val (os_assign rfl) ?_
  refine vl_val (os_assign rfl) ?_
  refine vl_nil ?_
  refine v_ret ?_
  exact post_ret2 rfl rfl rfl (⟨rfl, rfl⟩)

def hEnds : List Int := [-9223372036854775808, -1, 0, 1, 2, 3, 255, 256, 32768, 65536, 65537, 1048576, 1048577, 9223372036854775807]
theorem hEnds_in (k : Nat) : -9223372036854775808 ≤ hEnds.getD k 0 ∧ hEnds.getD k 0 ≤ 9223372036854775807 := by
  by_cases h : k < 14
  · have : ∀ k, k < 14 → -9223372036854775808 ≤ hEnds.getD k 0 ∧ hEnds.getD k 0 ≤ 9223372036854775807 := by decide
    exact this k h
  · rw [List.getD_eq_getElem?_getD, List.getElem?_eq_none (by simp [hEnds]; omega)]; decide
set_option maxHeartbeats 8000000 in
theorem law25_HopeSmall (w : World) : Gives Try.prog 10 #[] w fun v w' => v = .bool true ∧ Below w.heap.size w w' := by
  refine gives_enter Try.call10 Try.func10 rfl rfl rfl (by kernel_rfl) ?_
  have r0 := rd_alloc w .i64 hEnds 3
  have b0 : Below w.heap.size w (w.alloc (.cells (hEnds.map (Value.int .i64)).toArray 3)) := (Below.refl _ w).alloc (Nat.le_refl _) _
  refine v_seq ?_
  refine v_region ?_
  refine vl_val (os_assign rfl) ?_
  refine vl_nil ?_
  refine v_seq ?_
  refine v_region ?_
  refine vl_val (os_lit Try.underlying40 Try.sizeOf3 Try.zeroValue3 rfl rfl rfl rfl (by decide)) ?_
  refine vl_val (os_assign rfl) ?_
  refine vl_nil ?_
  refine v_seq ?_
  refine v_seq ?_
  refine v_region ?_
  refine vl_val (os_assign rfl) ?_
  refine vl_nil ?_
  refine v_block ?_
  refine v_loop [(1, _)] (fun (n : Nat) => [(2, .int .i64 n)]) (fun n w' => n ≤ 196 ∧ Below w.heap.size w w' ∧ Rd w' .i64 (some ⟨w.heap.size, 0, none⟩) hEnds) (fun n => 196 - n) (0) ⟨rfl, trivial⟩ ⟨rfl, trivial⟩ (⟨by omega, b0, r0⟩) ?_
  rintro n w2 ⟨hn, hb2, r2⟩
  refine v_seq ?_
  refine v_seq ?_
  refine v_region ?_
  refine vl_val (os_move rfl) ?_
  refine vl_val (os_lss rfl rfl) ?_
  refine vl_nil ?_
  refine v_cond_d rfl (fun h => ?_) (fun h => ?_)
  · obtain ⟨ends, hE⟩ : ∃ ends, ends = hEnds := ⟨_, rfl⟩
    rw [← hE] at r2
    have hlE : ends.length = 14 := by rw [hE]; rfl
    obtain ⟨i, hi⟩ : ∃ i, n % 14 = i := ⟨_, rfl⟩
    obtain ⟨j, hj⟩ : ∃ j, n / 14 = j := ⟨_, rfl⟩
    obtain ⟨_, _, e1, ci⟩ := r2.at_ (i := i) (by omega)
    cases e1
    obtain ⟨_, _, e1, cj⟩ := r2.at_ (i := j) (by omega)
    cases e1
    have hX : -9223372036854775808 ≤ ends.getD i 0 ∧ ends.getD i 0 ≤ 9223372036854775807 := by rw [hE]; exact hEnds_in i
    have hY : -9223372036854775808 ≤ ends.getD j 0 ∧ ends.getD j 0 ≤ 9223372036854775807 := by rw [hE]; exact hEnds_in j
    refine v_skip ?_
    refine v_seq ?_
    refine v_block ?_
    refine v_seq ?_
    refine v_region_t LeD _ mixed (by kernel_rfl) lee_d (led_start _) ?_
    refine vt_val (fun w hw => os_move rfl) ?_
    refine vt_val (fun w hw => os_move rfl) ?_
    refine vt_val (fun w hw => os_remi rfl rfl (by omega)) ?_
    refine vt_val (fun w hw => os_ix Try.underlying40 Try.sizeOf3 rfl rfl (i := i) (by omega) (by omega)) ?_
    refine vt_val (fun w hw => os_load Try.isAgg3 rfl (led_cell hw (ci))) ?_
    refine vt_val (fun w hw => os_move rfl) ?_
    refine vt_val (fun w hw => os_move rfl) ?_
    refine vt_val (fun w hw => os_quoi rfl rfl (by omega)) ?_
    refine vt_val (fun w hw => os_ix Try.underlying40 Try.sizeOf3 rfl rfl (i := j) (by omega) (by omega)) ?_
    refine vt_val (fun w hw => os_load Try.isAgg3 rfl (led_cell hw (cj))) ?_
    refine vt_val (fun w hw => os_assign rfl) ?_
    refine vt_val (fun w hw => os_assign rfl) ?_
    refine vt_nil (fun w hw => ?_)
    obtain ⟨q, rfl⟩ := hw
    obtain ⟨x, hx⟩ : ∃ x, x = ends.getD i 0 := ⟨_, rfl⟩
    obtain ⟨y, hy⟩ : ∃ y, y = ends.getD j 0 := ⟨_, rfl⟩
    rw [← hx, ← hy]
    rw [← hx] at hX
    rw [← hy] at hY
    obtain ⟨n3, hn3⟩ : ∃ n3 : Int, (n : Int) % 3 = n3 ∧ 0 ≤ n3 ∧ n3 < 3 := ⟨_, rfl, by omega, by omega⟩
    have hbq : Below w.heap.size w (w2.drewN q) := hb2.trans ((led_below ⟨q, rfl⟩).mono hb2.size)
    have r2q : Rd (w2.drewN q) .i64 (some ⟨w.heap.size, 0, none⟩) ends := r2.led ⟨q, rfl⟩
    have rh := rd_alloc (w2.drewN q) .i64 [n3, 20000 + (n : Int), x, 5] 3
    have bh := (Below.refl _ (w2.drewN q)).alloc (Nat.le_refl _) (.cells ([n3, 20000 + (n : Int), x, 5].map (Value.int .i64)).toArray 3)
    obtain ⟨j1, hj1⟩ : ∃ j1 : Nat, n % 4 = j1 ∧ j1 ≤ 3 := ⟨_, rfl, by omega⟩
    obtain ⟨j2, hj2⟩ : ∃ j2 : Nat, n / 4 % 4 = j2 ∧ j2 ≤ 3 := ⟨_, rfl, by omega⟩
    obtain ⟨j3, hj3⟩ : ∃ j3 : Nat, n % 5 = j3 ∧ j3 ≤ 4 := ⟨_, rfl, by omega⟩
    have l1 : (([1, 2, 3] : List Int).take j1).length = j1 := by rw [List.length_take]; simp; omega
    have l2 : (([1, 2, 3] : List Int).take j2).length = j2 := by rw [List.length_take]; simp; omega
    have l3 : ([n3, 20000 + (n : Int), x, 5].take j3).length = j3 := by rw [List.length_take]; simp; omega
    have a123 : AllI [1, 2, 3] := allI_lit rfl
    refine v_seq ?_
    refine v_region ?_
    refine vl_val (os_move rfl) ?_
    refine vl_val (os_remi rfl rfl (by omega)) ?_
    rw [hn3.1]
    refine vl_val (os_move rfl) ?_
    refine vl_val (os_addi rfl rfl (by omega)) ?_
    refine vl_val (os_move rfl) ?_
    refine vl_val (os_lit Try.underlying40 Try.sizeOf3 Try.zeroValue3 rfl rfl rfl rfl (by decide)) ?_
    refine vl_val (os_assign rfl) ?_
    refine vl_nil ?_
    refine v_seq ?_
    refine v_region_t LeG _ mixed (by kernel_rfl) lee_g (leg_start _) ?_
    refine vt_val (fun w hw => os_move rfl) ?_
    refine vt_new (IsRowC .i64 [x, 5]) (isRowC_stable _ _) (fun w hw => os_lit Try.underlying40 Try.sizeOf3 Try.zeroValue3 rfl rfl rfl rfl (by decide)) (fun w hw => isRowC_lit .i64 _ [x, 5] _) ?_
    refine vt_val (fun w hw => os_move rfl) ?_
    refine vt_val (fun w hw => os_remi rfl rfl (by omega)) ?_
    refine vt_val (fun w hw => os_addi rfl rfl (by omega)) ?_
    refine vt_new (IsRowC .i64 [1 + (n : Int) % 3, 3]) (isRowC_stable _ _) (fun w hw => os_lit Try.underlying40 Try.sizeOf3 Try.zeroValue3 rfl rfl rfl rfl (by decide)) (fun w hw => isRowC_lit .i64 _ [1 + (n : Int) % 3, 3] _) ?_
    refine vt_new (IsRowC .i64 [0, 1, 2, 3]) (isRowC_stable _ _) (fun w hw => os_lit Try.underlying40 Try.sizeOf3 Try.zeroValue3 rfl rfl rfl rfl (by decide)) (fun w hw => isRowC_lit .i64 _ [0, 1, 2, 3] _) ?_
    refine vt_val (fun w hw => os_move rfl) ?_
    refine vt_calls [(36, _), (40, _), (41, _)] (.bool true) ⟨⟨rfl, rfl⟩, ⟨rfl, rfl⟩, ⟨rfl, rfl⟩, trivial⟩ (fun w hw => fun u0 ⟨A0, c0, e0, _, x0⟩ u1 ⟨A1, c1, e1, _, x1⟩ u2 ⟨A2, c2, e2, _, x2⟩ => ⟨_, rfl, by subst e0 e1 e2; exact law25_HopeTells _ _ _ _ _ _ _ _ _ [x, 5] [1 + (n : Int) % 3, 3] [0, 1, 2, 3] y w x0 x1 x2 rfl rfl rfl (by simp) (by simp) (by simp) (allI_mem (by intro z hz; simp at hz; omega)) (allI_mem (by intro z hz; simp at hz; omega)) (allI_lit rfl) hY⟩) ?_
    refine vt_val (fun w hw => os_not rfl) ?_
    refine vt_val (fun w hw => os_move rfl) ?_
    refine vt_new (IsRowC .i64 [3, 4]) (isRowC_stable _ _) (fun w hw => os_lit Try.underlying40 Try.sizeOf3 Try.zeroValue3 rfl rfl rfl rfl (by decide)) (fun w hw => isRowC_lit .i64 _ [3, 4] _) ?_
    refine vt_valg rfl (fun w hw => os_move rfl) ?_
    refine vt_valg rfl (fun w hw => os_move rfl) ?_
    refine vt_new (IsRowC .i64 [x, y]) (isRowC_stable _ _) (fun w hw => os_lit Try.underlying40 Try.sizeOf3 Try.zeroValue3 rfl rfl rfl rfl (by decide)) (fun w hw => isRowC_lit .i64 _ [x, y] _) ?_
    refine vt_new (IsRowC .i64 [0, 1, 2, 65533]) (isRowC_stable _ _) (fun w hw => os_lit Try.underlying40 Try.sizeOf3 Try.zeroValue3 rfl rfl rfl rfl (by decide)) (fun w hw => isRowC_lit .i64 _ [0, 1, 2, 65533] _) ?_
    refine vt_valg rfl (fun w hw => os_move rfl) ?_
    refine vt_valg rfl (fun w hw => os_remi rfl rfl (by omega)) ?_
    refine vt_valg rfl (fun w hw => os_subi rfl rfl (by omega)) ?_
    refine vt_calls [(46, _), (49, _), (50, _)] (.bool true) ⟨⟨rfl, rfl⟩, ⟨rfl, rfl⟩, ⟨rfl, rfl⟩, trivial⟩ (fun w hw => fun u0 ⟨A0, c0, e0, _, x0⟩ u1 ⟨A1, c1, e1, _, x1⟩ u2 ⟨A2, c2, e2, _, x2⟩ => ⟨_, rfl, by subst e0 e1 e2; exact law25_HopeTells _ _ _ _ _ _ _ _ _ [3, 4] [x, y] [0, 1, 2, 65533] _ w x0 x1 x2 rfl rfl rfl (by simp) (by simp) (by simp) (allI_lit rfl) (allI_mem (by intro z hz; simp at hz; omega)) (allI_lit rfl) ⟨by omega, by omega⟩⟩) ?_
    refine vt_valg rfl (fun w hw => os_not rfl) ?_
    refine vt_val (fun w hw => os_pick_f rfl rfl) ?_
    refine vt_val (fun w hw => os_move rfl) ?_
    refine vt_new (IsRowC .i64 [1, 2, 3]) (isRowC_stable _ _) (fun w hw => os_lit Try.underlying40 Try.sizeOf3 Try.zeroValue3 rfl rfl rfl rfl (by decide)) (fun w hw => isRowC_lit .i64 _ [1, 2, 3] _) ?_
    refine vt_valg rfl (fun w hw => os_move rfl) ?_
    refine vt_valg rfl (fun w hw => os_remi rfl rfl (by omega)) ?_
    refine vt_useg 58 rfl (IsRowC .i64 (([1, 2, 3] : List Int).take j1)) (isRowC_stable _ _) (fun u w hw ⟨A, c, e, hc, hr⟩ => by subst e; exact (os_slice_h Try.underlying40 Try.sizeOf3 rfl rfl (h := j1) (by omega) (by simp at hc; omega)).ot ⟨lee_g.refl _, A, c, by rw [l1], by rw [l1]; simp at hc; omega, hr.take j1⟩) ?_
    refine vt_new (IsRowC .i64 [1, 2, 3]) (isRowC_stable _ _) (fun w hw => os_lit Try.underlying40 Try.sizeOf3 Try.zeroValue3 rfl rfl rfl rfl (by decide)) (fun w hw => isRowC_lit .i64 _ [1, 2, 3] _) ?_
    refine vt_valg rfl (fun w hw => os_move rfl) ?_
    refine vt_valg rfl (fun w hw => os_quoi rfl rfl (by omega)) ?_
    refine vt_valg rfl (fun w hw => os_remi rfl rfl (by omega)) ?_
    refine vt_useg 62 rfl (IsRowC .i64 (([1, 2, 3] : List Int).take j2)) (isRowC_stable _ _) (fun u w hw ⟨A, c, e, hc, hr⟩ => by subst e; exact (os_slice_h Try.underlying40 Try.sizeOf3 rfl rfl (h := j2) (by omega) (by simp at hc; omega)).ot ⟨lee_g.refl _, A, c, by rw [l2], by rw [l2]; simp at hc; omega, hr.take j2⟩) ?_
    refine vt_valg rfl (fun w hw => os_move rfl) ?_
    refine vt_valg rfl (fun w hw => os_move rfl) ?_
    refine vt_valg rfl (fun w hw => os_remi rfl rfl (by omega)) ?_
    refine vt_valg rfl (fun w hw => os_slice_h Try.underlying40 Try.sizeOf3 rfl rfl (h := j3) (by omega) (by omega)) ?_
    refine vt_valg rfl (fun w hw => os_move rfl) ?_
    refine vt_valg rfl (fun w hw => os_remi rfl rfl (by omega)) ?_
    refine vt_calls [(61, _), (66, _)] (.bool true) ⟨⟨rfl, rfl⟩, ⟨rfl, rfl⟩, trivial⟩ (fun w hw => fun u0 ⟨A0, c0, e0, _, x0⟩ u1 ⟨A1, c1, e1, _, x1⟩ => ⟨_, rfl, by subst e0 e1; exact law25_HopeTells _ _ _ _ _ j3 _ _ _ (([1, 2, 3] : List Int).take j1) (([1, 2, 3] : List Int).take j2) ([n3, 20000 + (n : Int), x, 5].take j3) _ w x0 x1 ((rh.keep hw).take j3) rfl rfl l3.symm (by rw [l1]; omega) (by rw [l2]; omega) (by omega) (a123.take j1) (a123.take j2) (AllI.take (allI_mem (by intro z hz; simp at hz; omega)) j3) ⟨by omega, by omega⟩⟩) ?_
    refine vt_valg rfl (fun w hw => os_not rfl) ?_
    refine vt_val (fun w hw => os_pick_f rfl rfl) ?_
    refine vt_val (fun w hw => os_move rfl) ?_
    refine vt_new (IsRowC .i64 [7]) (isRowC_stable _ _) (fun w hw => os_lit Try.underlying40 Try.sizeOf3 Try.zeroValue3 rfl rfl rfl rfl (by decide)) (fun w hw => isRowC_lit .i64 _ [7] _) ?_
    refine vt_new (IsRowC .i64 [3]) (isRowC_stable _ _) (fun w hw => os_lit Try.underlying40 Try.sizeOf3 Try.zeroValue3 rfl rfl rfl rfl (by decide)) (fun w hw => isRowC_lit .i64 _ [3] _) ?_
    refine vt_valg rfl (fun w hw => os_move rfl) ?_
    refine vt_valg rfl (fun w hw => os_move rfl) ?_
    refine vt_new (IsRowC .i64 [y, 3, 4, x]) (isRowC_stable _ _) (fun w hw => os_lit Try.underlying40 Try.sizeOf3 Try.zeroValue3 rfl rfl rfl rfl (by decide)) (fun w hw => isRowC_lit .i64 _ [y, 3, 4, x] _) ?_
    refine vt_valg rfl (fun w hw => os_move rfl) ?_
    refine vt_calls [(77, _), (78, _), (81, _)] (.bool true) ⟨⟨rfl, rfl⟩, ⟨rfl, rfl⟩, ⟨rfl, rfl⟩, trivial⟩ (fun w hw => fun u0 ⟨A0, c0, e0, _, x0⟩ u1 ⟨A1, c1, e1, _, x1⟩ u2 ⟨A2, c2, e2, _, x2⟩ => ⟨_, rfl, by subst e0 e1 e2; exact law25_HopeTells _ _ _ _ _ _ _ _ _ [7] [3] [y, 3, 4, x] x w x0 x1 x2 rfl rfl rfl (by simp) (by simp) (by simp) (allI_lit rfl) (allI_lit rfl) (allI_mem (by intro z hz; simp at hz; omega)) hX⟩) ?_
    refine vt_valg rfl (fun w hw => os_not rfl) ?_
    refine vt_val (fun w hw => os_pick_f rfl rfl) ?_
    refine vt_nil (fun Hw H => ?_)
    intro u13 hu13 u12 hu12 u11 hu11 u10 hu10 u9 hu9 u8 hu8 u7 hu7 u6 hu6 u5 hu5 u4 hu4 u3 hu3 u2 hu2 u1 hu1
    refine v_cond_f rfl ?_
    refine v_skip ?_
    refine v_region ?_
    refine vl_val (os_move rfl) ?_
    refine vl_val (os_addi rfl rfl (by omega)) ?_
    refine vl_val (os_assign rfl) ?_
    refine vl_nil ?_
    exact ⟨n + 1, ⟨rfl, trivial⟩, ⟨rfl, trivial⟩, ⟨by omega, hbq.trans ((bh.trans (H.mono bh.size)).mono hbq.size), by rw [← hE]; exact (r2q.keep bh).keep H⟩, by dsimp only; omega⟩
  · refine v_exit ?_
    refine v_seq ?_
    refine v_seq ?_
    refine v_region ?_
    refine vl_val (os_assign rfl) ?_
    refine vl_nil ?_
    refine v_block ?_
    refine v_loop [] (fun (n : Nat) => [(6, .int .i64 n)]) (fun n w' => n ≤ 100000 ∧ Below w.heap.size w w') (fun n => 260 - n) (0) trivial ⟨rfl, trivial⟩ (⟨by omega, hb2⟩) ?_
    rintro n w3 ⟨hn3, b3⟩
    refine v_seq ?_
    refine v_seq ?_
    refine v_region ?_
    refine vl_val (os_move rfl) ?_
    refine vl_val (os_lss rfl rfl) ?_
    refine vl_nil ?_
    refine v_cond_d rfl (fun h2 => ?_) (fun h2 => ?_)
    · have hn4 : n < 260 := by omega
      refine v_skip ?_
      refine v_seq ?_
      refine v_block ?_
      refine v_seq ?_
      refine v_region ?_
      refine vl_val (os_move rfl) ?_
      refine vl_some (ot_make (l := n) Try.underlying40 ti_int rfl rfl rfl rfl rfl (by omega) (by simp [maxLen]; omega) w3.heap.size (Nat.le_refl _)) ?_
      rintro v4 w4 ⟨rfl, o4, g4⟩
      have b34 : Below w3.heap.size w3 w4 := (Below.refl _ w3).grown g4 (Nat.le_refl _) (fun k hk => by cases hk)
      obtain ⟨g, hg⟩ : ∃ g, g = w3.heap.size := ⟨_, rfl⟩
      rw [← hg] at o4 ⊢
      refine vl_val (os_assign rfl) ?_
      refine vl_nil ?_
      refine v_seq ?_
      refine v_seq ?_
      refine v_region ?_
      refine vl_val (os_assign rfl) ?_
      refine vl_nil ?_
      refine v_block ?_
      refine v_loop [(6, _), (7, _)] (fun (i : Nat) => [(8, .int .i64 i)]) (fun i w' => i ≤ n ∧ Below w3.heap.size w3 w' ∧ ∃ zs, zs.length = n ∧ AllI zs ∧ OwnK w' g 3 .i64 (.slice (some ⟨g, 0, none⟩) n n) zs) (fun i => n - i) (0) ⟨rfl, rfl, trivial⟩ ⟨rfl, trivial⟩ (⟨by omega, b34, List.replicate n 0, by simp, allI_mem (by intro z hz; rw [List.eq_of_mem_replicate hz]; omega), by simpa [OwnK] using o4⟩) ?_
      rintro i w5 ⟨hi, b35, zs, hzl, hza, ho⟩
      refine v_seq ?_
      refine v_seq ?_
      refine v_region ?_
      refine vl_val (os_move rfl) ?_
      refine vl_val (os_move rfl) ?_
      refine vl_val (os_lss rfl rfl) ?_
      refine vl_nil ?_
      refine v_cond_d rfl (fun h3 => ?_) (fun h3 => ?_)
      · refine v_skip ?_
        refine v_seq ?_
        refine v_block ?_
        refine v_region ?_
        refine vl_val (os_move rfl) ?_
        refine vl_val (os_move rfl) ?_
        refine vl_val (os_move rfl) ?_
        refine vl_val (os_addi rfl rfl (by omega)) ?_
        refine vl_val (os_ix Try.underlying40 Try.sizeOf3 rfl rfl (i := i) (by omega) (by omega)) ?_
        refine vl_unit (ou_store Try.sizeOf3 rfl rfl rfl (OwnK.cell ho (i := 0 + i) (by omega)) (Own.free ho _)) ?_
        refine vl_nil ?_
        refine v_region ?_
        refine vl_val (os_move rfl) ?_
        refine vl_val (os_addi rfl rfl (by omega)) ?_
        refine vl_val (os_assign rfl) ?_
        refine vl_nil ?_
        exact ⟨i + 1, ⟨rfl, rfl, trivial⟩, ⟨rfl, trivial⟩, ⟨by omega, below_set b35 (by omega) _ _, zs.set (0 + i) (200 + (i : Int)), by simp [hzl], allI_mem (by intro z hz; rcases List.mem_or_eq_of_mem_set hz with h1 | rfl; exact hza z h1; omega), OwnK.set ho (0 + i) _⟩, by dsimp only; omega⟩
      · have rn := rd_alloc w5 .i64 [1, 2, 3, 4, 5, 6, 7, 8, 9] 3
        have bn := (Below.refl _ w5).alloc (Nat.le_refl _) (.cells (([1, 2, 3, 4, 5, 6, 7, 8, 9] : List Int).map (Value.int .i64)).toArray 3)
        obtain ⟨j, hj⟩ : ∃ j : Nat, n % 10 = j ∧ j ≤ 9 := ⟨_, rfl, by omega⟩
        have lj : (([1, 2, 3, 4, 5, 6, 7, 8, 9] : List Int).take j).length = j := by rw [List.length_take]; simp; omega
        have a9 : AllI [1, 2, 3, 4, 5, 6, 7, 8, 9] := allI_lit rfl
        have hz5 := (OwnK.rd ho).keep bn
        refine v_exit ?_
        refine v_seq ?_
        refine v_region ?_
        refine vl_val (os_lit Try.underlying40 Try.sizeOf3 Try.zeroValue3 rfl rfl rfl rfl (by decide)) ?_
        refine vl_val (os_assign rfl) ?_
        refine vl_nil ?_
        refine v_seq ?_
        refine v_region_t LeG _ mixed (by kernel_rfl) lee_g (leg_start _) ?_
        refine vt_val (fun w hw => os_move rfl) ?_
        refine vt_val (fun w hw => os_move rfl) ?_
        refine vt_val (fun w hw => os_remi rfl rfl (by omega)) ?_
        refine vt_val (fun w hw => os_slice_h Try.underlying40 Try.sizeOf3 rfl rfl (h := j) (by omega) (by omega)) ?_
        refine vt_val (fun w hw => os_move rfl) ?_
        refine vt_val (fun w hw => os_move rfl) ?_
        refine vt_val (fun w hw => os_remi rfl rfl (by omega)) ?_
        refine vt_val (fun w hw => os_slice_h Try.underlying40 Try.sizeOf3 rfl rfl (h := j) (by omega) (by omega)) ?_
        refine vt_val (fun w hw => os_move rfl) ?_
        refine vt_val (fun w hw => os_move rfl) ?_
        refine vt_call (v := .bool true) (fun w hw => law25_HopeTells _ _ _ j j n _ _ _ (([1, 2, 3, 4, 5, 6, 7, 8, 9] : List Int).take j) (([1, 2, 3, 4, 5, 6, 7, 8, 9] : List Int).take j) zs n w ((rn.keep hw).take j) ((rn.keep hw).take j) (hz5.keep hw) lj.symm lj.symm hzl.symm (by omega) (by omega) (by omega) (a9.take j) (a9.take j) hza ⟨by omega, by omega⟩) rfl ?_
        refine vt_val (fun w hw => os_not rfl) ?_
        refine vt_nil (fun Hw H => ?_)
        have b5 := b3.trans (b35.mono b3.size)
        refine v_cond_f rfl ?_
        refine v_skip ?_
        refine v_region ?_
        refine vl_val (os_move rfl) ?_
        refine vl_val (os_addi rfl rfl (by omega)) ?_
        refine vl_val (os_move rfl) ?_
        refine vl_val (os_remi rfl rfl (by omega)) ?_
        refine vl_val (os_muli rfl rfl (by omega)) ?_
        refine vl_val (os_addi rfl rfl (by omega)) ?_
        refine vl_val (os_assign rfl) ?_
        refine vl_nil ?_
        exact ⟨n + 1 + n % 4 * 50, trivial, ⟨by show some (Value.int .i64 _) = some (.int .i64 _); congr 2, trivial⟩, ⟨by omega, b5.trans ((bn.trans (H.mono bn.size)).mono b5.size)⟩, by dsimp only; omega⟩
    · refine v_exit ?_
      refine v_seq ?_
      refine v_region ?_
      refine vl_call (hope_Of0 none w3 (guess_made_nil w3)) rfl ?_
      rintro v4 w3 ⟨rfl, rfl⟩
      refine vl_val (os_move rfl) ?_
      refine vl_val (os_extract rfl rfl) ?_
      refine vl_val (os_extract rfl rfl) ?_
      refine vl_val (os_assign rfl) ?_
      refine vl_val (os_assign rfl) ?_
      refine vl_nil ?_
      refine v_seq ?_
      refine v_region ?_
      refine vl_val (os_build (cs := List.replicate 259 (Value.int .i64 0)) rfl (by kernel_rfl)) ?_
      have hB := bk_new w3 (List.replicate 259 (Value.int .i64 0)) 54
      have b4 := b3.alloc b3.size (.cells (List.replicate 259 (Value.int .i64 0)).toArray 54)
      refine vl_val (os_box rfl) ?_
      refine vl_call (hope_Of0 (some ⟨w3.heap.size, 0, none⟩) (w3.alloc (.cells (List.replicate 259 (Value.int .i64 0)).toArray 54)) (guess_made0 _ _ (hB.cell rfl))) rfl ?_
      rintro v5 w5 ⟨rfl, rfl⟩
      refine vl_val (os_move rfl) ?_
      refine vl_val (os_extract rfl rfl) ?_
      refine vl_val (os_extract rfl rfl) ?_
      refine vl_val (os_assign rfl) ?_
      refine vl_val (os_assign rfl) ?_
      refine vl_nil ?_
      refine v_seq ?_
      refine v_region ?_
      refine vl_val (os_move rfl) ?_
      refine vl_val (os_t (os_eql rfl rfl) (rfl)) ?_
      refine vl_val (os_move rfl) ?_
      refine vl_valg rfl (os_move rfl) ?_
      refine vl_valg rfl (os_t (os_eql rfl rfl) (rfl)) ?_
      refine vl_val (os_pick_t rfl rfl) ?_
      refine vl_val (os_move rfl) ?_
      refine vl_callg rfl (law25_awake _) rfl ?_
      rintro v6 w6 ⟨rfl, b6⟩
      refine vl_val (os_pick_t rfl rfl) ?_
      refine vl_val (os_assign rfl) ?_
      refine vl_nil ?_
      refine v_ret ?_
      exact post_ret rfl rfl (⟨rfl, b4.trans (b6.mono b4.size)⟩)
end Go.Proofs.Ytpjmiafefammkaa
