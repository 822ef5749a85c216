/- Texts joined: HpS Rs Rw GsP CrcP V32. -/
import Derived.Test.YtpjmiafefammkaaM12
import Derived.OpenShut
import Derived.ChangeOld
import Derived.SizedLaws
import Derived.Lib.SmallJoins
/- Layer 25: the walk of HopeSmall. -/
namespace Go.Proofs.Ytpjmiafefammkaa
open Go.RowKit
set_option linter.unusedVariables false

def IsRowC (k : IntKind) (zs : List Int) : Fact := fun v w => ∃ A c, v = .slice A zs.length c ∧ zs.length ≤ c ∧ Rd w k A zs
theorem isRowC_stable (k : IntKind) (zs : List Int) : Stable LeG (IsRowC k zs) := fun v w w' h ⟨A, c, e, hc, r⟩ => ⟨A, c, e, hc, r.keep h⟩
theorem isRowC_lit (k : IntKind) (w : World) (zs : List Int) (e : TypeId) : LeG w (w.alloc (.cells (zs.map (Value.int k)).toArray e)) ∧ IsRowC k zs (.slice (some ⟨w.heap.size, 0, none⟩) zs.length zs.length) (w.alloc (.cells (zs.map (Value.int k)).toArray e)) :=
  ⟨(Below.refl _ _).alloc (Nat.le_refl _) _, _, _, rfl, Nat.le_refl _, rd_alloc w k zs e⟩
theorem allI_mem {zs : List Int} (h : ∀ z ∈ zs, -9223372036854775808 ≤ z ∧ z ≤ 9223372036854775807) : AllI zs := fun z hz => by unfold I64; exact h z hz
theorem AllI.take {zs : List Int} (h : AllI zs) (n : Nat) : AllI (zs.take n) := fun z hz => h z (List.mem_of_mem_take hz)

theorem hope_Of0 (p : Option Addr) (w : World) (h : Gives Try.prog 58 #[.pointer p] w fun v w' => v = .bool false ∧ w' = w) : Gives Try.prog 46 #[.pointer p] w fun v w' => v = .tuple #[.slice none 0 0, .int .i64 1] ∧ w' = w := by
  refine gives_enter Try.call46 Try.func46 rfl rfl rfl (by kernel_rfl) ?_
  refine v_seq ?_
  refine v_region ?_
  refine vl_val (os_assign rfl) ?_
  refine vl_val (os_assign rfl) ?_
  refine vl_nil ?_
  refine v_seq ?_
  refine v_region ?_
  refine vl_val (os_assign rfl) ?_
  refine vl_nil ?_
  refine v_seq ?_
  refine v_region ?_
  refine vl_val (os_move rfl) ?_
  refine vl_val (os_move rfl) ?_
  refine vl_callv rfl (guess_Parts0 p w h) rfl ?_
  rintro v w ⟨rfl, rfl⟩
  refine vl_val (os_assign rfl) ?_
  refine vl_nil ?_
  refine v_seq ?_
  refine v_seq ?_
  refine v_region ?_
  refine vl_val (os_move rfl) ?_
  refine vl_val (os_eqlsnil Try.underlying40 rfl rfl) ?_
  refine vl_nil ?_
  refine v_cond_t rfl ?_
  refine v_seq ?_
  refine v_region ?_
  refine vl_val (os_assign rfl) ?_
  refine vl_val (os_assign rfl) ?_
  refine vl_nil ?_
  refine v_ret ?_
  exact post_ret2 rfl rfl rfl (⟨rfl, rfl⟩)

def hEnds : List Int := [-9223372036854775808, -1, 0, 1, 2, 3, 255, 256, 32768, 65536, 65537, 1048576, 1048577, 9223372036854775807]
theorem hEnds_in (k : Nat) : -9223372036854775808 ≤ hEnds.getD k 0 ∧ hEnds.getD k 0 ≤ 9223372036854775807 := by
  by_cases h : k < 14
  · have : ∀ k, k < 14 → -9223372036854775808 ≤ hEnds.getD k 0 ∧ hEnds.getD k 0 ≤ 9223372036854775807 := by decide
    exact this k h
  · rw [List.getD_eq_getElem?_getD, List.getElem?_eq_none (by simp [hEnds]; omega)]; decide
set_option maxHeartbeats 8000000 in
theorem law25_HopeSmall (w : World) : Gives Try.prog 10 #[] w fun v w' => v = .bool true ∧ Below w.heap.size w w' := by
  refine gives_enter Try.call10 Try.func10 rfl rfl rfl (by kernel_rfl) ?_
  have r0 := rd_alloc w .i64 hEnds 3
  have b0 : Below w.heap.size w (w.alloc (.cells (hEnds.map (Value.int .i64)).toArray 3)) := (Below.refl _ w).alloc (Nat.le_refl _) _
  refine v_seq ?_
  refine v_region ?_
  refine vl_val (os_assign rfl) ?_
  refine vl_nil ?_
  refine v_seq ?_
  refine v_region ?_
  refine vl_val (os_lit Try.underlying40 Try.sizeOf3 Try.zeroValue3 rfl rfl rfl rfl (by decide)) ?_
  refine vl_val (os_assign rfl) ?_
  refine vl_nil ?_
  refine v_seq ?_
  refine v_seq ?_
  refine v_region ?_
  refine vl_val (os_assign rfl) ?_
  refine vl_nil ?_
  refine v_block ?_
  refine v_loop [(1, _)] (fun (n : Nat) => [(2, .int .i64 n)]) (fun n w' => n ≤ 196 ∧ Below w.heap.size w w' ∧ Rd w' .i64 (some ⟨w.heap.size, 0, none⟩) hEnds) (fun n => 196 - n) (0) ⟨rfl, trivial⟩ ⟨rfl, trivial⟩ (⟨by omega, b0, r0⟩) ?_
  rintro n w2 ⟨hn, hb2, r2⟩
  refine v_seq ?_
  refine v_seq ?_
  refine v_region ?_
  refine vl_val (os_move rfl) ?_
  refine vl_val (os_lss rfl rfl) ?_
  refine vl_nil ?_
  refine v_cond_d rfl (fun h => ?_) (fun h => ?_)
  · obtain ⟨ends, hE⟩ : ∃ ends, ends = hEnds := ⟨_, rfl⟩
    rw [← hE] at r2
    have hlE : ends.length = 14 := by rw [hE]; rfl
    obtain ⟨i, hi⟩ : ∃ i, n % 14 = i := ⟨_, rfl⟩
    obtain ⟨j, hj⟩ : ∃ j, n / 14 = j := ⟨_, rfl⟩
    obtain ⟨_, _, e1, ci⟩ := r2.at_ (i := i) (by omega)
    cases e1
    obtain ⟨_, _, e1, cj⟩ := r2.at_ (i := j) (by omega)
    cases e1
    have hX : -9223372036854775808 ≤ ends.getD i 0 ∧ ends.getD i 0 ≤ 9223372036854775807 := by rw [hE]; exact hEnds_in i
    have hY : -9223372036854775808 ≤ ends.getD j 0 ∧ ends.getD j 0 ≤ 9223372036854775807 := by rw [hE]; exact hEnds_in j
    refine v_skip ?_
    refine v_seq ?_
    refine v_block ?_
    refine v_seq ?_
    refine v_region_t LeD _ mixed (by kernel_rfl) lee_d (led_start _) ?_
    refine vt_val (fun w hw => os_move rfl) ?_
    refine vt_val (fun w hw => os_move rfl) ?_
    refine vt_val (fun w hw => os_remi rfl rfl (by omega)) ?_
    refine vt_val (fun w hw => os_ix Try.underlying40 Try.sizeOf3 rfl rfl (i := i) (by omega) (by omega)) ?_
    refine vt_val (fun w hw => os_load Try.isAgg3 rfl (led_cell hw (ci))) ?_
    refine vt_val (fun w hw => os_move rfl) ?_
    refine vt_val (fun w hw => os_move rfl) ?_
    refine vt_val (fun w hw => os_quoi rfl rfl (by omega)) ?_
    refine vt_val (fun w hw => os_ix Try.underlying40 Try.sizeOf3 rfl rfl (i := j) (by omega) (by omega)) ?_
    refine vt_val (fun w hw => os_load Try.isAgg3 rfl (led_cell hw (cj))) ?_
    refine vt_val (fun w hw => os_assign rfl) ?_
    refine vt_val (fun w hw => os_assign rfl) ?_
    refine vt_nil (fun w hw => ?_)
    obtain ⟨q, rfl⟩ := hw
    obtain ⟨x, hx⟩ : ∃ x, x = ends.getD i 0 := ⟨_, rfl⟩
    obtain ⟨y, hy⟩ : ∃ y, y = ends.getD j 0 := ⟨_, rfl⟩
    rw [← hx, ← hy]
    rw [← hx] at hX
    rw [← hy] at hY
    obtain ⟨n3, hn3⟩ : ∃ n3 : Int, (n : Int) % 3 = n3 ∧ 0 ≤ n3 ∧ n3 < 3 := ⟨_, rfl, by omega, by omega⟩
    have hbq : Below w.heap.size w (w2.drewN q) := hb2.trans ((led_below ⟨q, rfl⟩).mono hb2.size)
    have r2q : Rd (w2.drewN q) .i64 (some ⟨w.heap.size, 0, none⟩) ends := r2.led ⟨q, rfl⟩
    have rh := rd_alloc (w2.drewN q) .i64 [n3, 20000 + (n : Int), x, 5] 3
    have bh := (Below.refl _ (w2.drewN q)).alloc (Nat.le_refl _) (.cells ([n3, 20000 + (n : Int), x, 5].map (Value.int .i64)).toArray 3)
    obtain ⟨j1, hj1⟩ : ∃ j1 : Nat, n % 4 = j1 ∧ j1 ≤ 3 := ⟨_, rfl, by omega⟩
    obtain ⟨j2, hj2⟩ : ∃ j2 : Nat, n / 4 % 4 = j2 ∧ j2 ≤ 3 := ⟨_, rfl, by omega⟩
    obtain ⟨j3, hj3⟩ : ∃ j3 : Nat, n % 5 = j3 ∧ j3 ≤ 4 := ⟨_, rfl, by omega⟩
    have l1 : (([1, 2, 3] : List Int).take j1).length = j1 := by rw [List.length_take]; simp; omega
    have l2 : (([1, 2, 3] : List Int).take j2).length = j2 := by rw [List.length_take]; simp; omega
    have l3 : ([n3, 20000 + (n : Int), x, 5].take j3).length = j3 := by rw [List.length_take]; simp; omega
    have a123 : AllI [1, 2, 3] := allI_lit rfl
    refine v_seq ?_
    refine v_region ?_
    refine vl_val (os_move rfl) ?_
    refine vl_val (os_remi rfl rfl (by omega)) ?_
    rw [hn3.1]
    refine vl_val (os_move rfl) ?_
    refine vl_val (os_addi rfl rfl (by omega)) ?_
    refine vl_val (os_move rfl) ?_
    refine vl_val (os_lit Try.underlying40 Try.sizeOf3 Try.zeroValue3 rfl rfl rfl rfl (by decide)) ?_
    refine vl_val (os_assign rfl) ?_
    refine vl_nil ?_
    refine v_seq ?_
    refine v_region_t LeG _ mixed (by kernel_rfl) lee_g (leg_start _) ?_
    refine vt_val (fun w hw => os_move rfl) ?_
    refine vt_new (IsRowC .i64 [x, 5]) (isRowC_stable _ _) (fun w hw => os_lit Try.underlying40 Try.sizeOf3 Try.zeroValue3 rfl rfl rfl rfl (by decide)) (fun w hw => isRowC_lit .i64 _ [x, 5] _) ?_
    refine vt_val (fun w hw => os_move rfl) ?_
    refine vt_val (fun w hw => os_remi rfl rfl (by omega)) ?_
    refine vt_val (fun w hw => os_addi rfl rfl (by omega)) ?_
    refine vt_new (IsRowC .i64 [1 + (n : Int) % 3, 3]) (isRowC_stable _ _) (fun w hw => os_lit Try.underlying40 Try.sizeOf3 Try.zeroValue3 rfl rfl rfl rfl (by decide)) (fun w hw => isRowC_lit .i64 _ [1 + (n : Int) % 3, 3] _) ?_
    refine vt_new (IsRowC .i64 [0, 1, 2, 3]) (isRowC_stable _ _) (fun w hw => os_lit Try.underlying40 Try.sizeOf3 Try.zeroValue3 rfl rfl rfl rfl (by decide)) (fun w hw => isRowC_lit .i64 _ [0, 1, 2, 3] _) ?_
    refine vt_val (fun w hw => os_move rfl) ?_
    refine vt_calls [(36, _), (40, _), (41, _)] (.bool true) ⟨⟨rfl, rfl⟩, ⟨rfl, rfl⟩, ⟨rfl, rfl⟩, trivial⟩ (fun w hw => fun u0 ⟨A0, c0, e0, _, x0⟩ u1 ⟨A1, c1, e1, _, x1⟩ u2 ⟨A2, c2, e2, _, x2⟩ => ⟨_, rfl, by subst e0 e1 e2; exact law25_HopeTells _ _ _ _ _ _ _ _ _ [x, 5] [1 + (n : Int) % 3, 3] [0, 1, 2, 3] y w x0 x1 x2 rfl rfl rfl (by simp) (by simp) (by simp) (allI_mem (by intro z hz; simp at hz; omega)) (allI_mem (by intro z hz; simp at hz; omega)) (allI_lit rfl) hY⟩) ?_
    refine vt_val (fun w hw => os_not rfl) ?_
    refine vt_val (fun w hw => os_move rfl) ?_
    refine vt_new (IsRowC .i64 [3, 4]) (isRowC_stable _ _) (fun w hw => os_lit Try.underlying40 Try.sizeOf3 Try.zeroValue3 rfl rfl rfl rfl (by decide)) (fun w hw => isRowC_lit .i64 _ [3, 4] _) ?_
    refine vt_valg rfl (fun w hw => os_move rfl) ?_
    refine vt_valg rfl (fun w hw => os_move rfl) ?_
    refine vt_new (IsRowC .i64 [x, y]) (isRowC_stable _ _) (fun w hw => os_lit Try.underlying40 Try.sizeOf3 Try.zeroValue3 rfl rfl rfl rfl (by decide)) (fun w hw => isRowC_lit .i64 _ [x, y] _) ?_
    refine vt_new (IsRowC .i64 [0, 1, 2, 65533]) (isRowC_stable _ _) (fun w hw => os_lit Try.underlying40 Try.sizeOf3 Try.zeroValue3 rfl rfl rfl rfl (by decide)) (fun w hw => isRowC_lit .i64 _ [0, 1, 2, 65533] _) ?_
    refine vt_valg rfl (fun w hw => os_move rfl) ?_
    refine vt_valg rfl (fun w hw => os_remi rfl rfl (by omega)) ?_
    refine vt_valg rfl (fun w hw => os_subi rfl rfl (by omega)) ?_
    refine vt_calls [(46, _), (49, _), (50, _)] (.bool true) ⟨⟨rfl, rfl⟩, ⟨rfl, rfl⟩, ⟨rfl, rfl⟩, trivial⟩ (fun w hw => fun u0 ⟨A0, c0, e0, _, x0⟩ u1 ⟨A1, c1, e1, _, x1⟩ u2 ⟨A2, c2, e2, _, x2⟩ => ⟨_, rfl, by subst e0 e1 e2; exact law25_HopeTells _ _ _ _ _ _ _ _ _ [3, 4] [x, y] [0, 1, 2, 65533] _ w x0 x1 x2 rfl rfl rfl (by simp) (by simp) (by simp) (allI_lit rfl) (allI_mem (by intro z hz; simp at hz; omega)) (allI_lit rfl) ⟨by omega, by omega⟩⟩) ?_
    refine vt_valg rfl (fun w hw => os_not rfl) ?_
    refine vt_val (fun w hw => os_pick_f rfl rfl) ?_
    refine vt_val (fun w hw => os_move rfl) ?_
    refine vt_new (IsRowC .i64 [1, 2, 3]) (isRowC_stable _ _) (fun w hw => os_lit Try.underlying40 Try.sizeOf3 Try.zeroValue3 rfl rfl rfl rfl (by decide)) (fun w hw => isRowC_lit .i64 _ [1, 2, 3] _) ?_
    refine vt_valg rfl (fun w hw => os_move rfl) ?_
    refine vt_valg rfl (fun w hw => os_remi rfl rfl (by omega)) ?_
    refine vt_useg 58 rfl (IsRowC .i64 (([1, 2, 3] : List Int).take j1)) (isRowC_stable _ _) (fun u w hw ⟨A, c, e, hc, hr⟩ => by subst e; exact (os_slice_h Try.underlying40 Try.sizeOf3 rfl rfl (h := j1) (by omega) (by simp at hc; omega)).ot ⟨lee_g.refl _, A, c, by rw [l1], by rw [l1]; simp at hc; omega, hr.take j1⟩) ?_
    refine vt_new (IsRowC .i64 [1, 2, 3]) (isRowC_stable _ _) (fun w hw => os_lit Try.underlying40 Try.sizeOf3 Try.zeroValue3 rfl rfl rfl rfl (by decide)) (fun w hw => isRowC_lit .i64 _ [1, 2, 3] _) ?_
    refine vt_valg rfl (fun w hw => os_move rfl) ?_
    refine vt_valg rfl (fun w hw => os_quoi rfl rfl (by omega)) ?_
    refine vt_valg rfl (fun w hw => os_remi rfl rfl (by omega)) ?_
    refine vt_useg 62 rfl (IsRowC .i64 (([1, 2, 3] : List Int).take j2)) (isRowC_stable _ _) (fun u w hw ⟨A, c, e, hc, hr⟩ => by subst e; exact (os_slice_h Try.underlying40 Try.sizeOf3 rfl rfl (h := j2) (by omega) (by simp at hc; omega)).ot ⟨lee_g.refl _, A, c, by rw [l2], by rw [l2]; simp at hc; omega, hr.take j2⟩) ?_
    refine vt_valg rfl (fun w hw => os_move rfl) ?_
    refine vt_valg rfl (fun w hw => os_move rfl) ?_
    refine vt_valg rfl (fun w hw => os_remi rfl rfl (by omega)) ?_
    refine vt_valg rfl (fun w hw => os_slice_h Try.underlying40 Try.sizeOf3 rfl rfl (h := j3) (by omega) (by omega)) ?_
    refine vt_valg rfl (fun w hw => os_move rfl) ?_
    refine vt_valg rfl (fun w hw => os_remi rfl rfl (by omega)) ?_
    refine vt_calls [(61, _), (66, _)] (.bool true) ⟨⟨rfl, rfl⟩, ⟨rfl, rfl⟩, trivial⟩ (fun w hw => fun u0 ⟨A0, c0, e0, _, x0⟩ u1 ⟨A1, c1, e1, _, x1⟩ => ⟨_, rfl, by subst e0 e1; exact law25_HopeTells _ _ _ _ _ j3 _ _ _ (([1, 2, 3] : List Int).take j1) (([1, 2, 3] : List Int).take j2) ([n3, 20000 + (n : Int), x, 5].take j3) _ w x0 x1 ((rh.keep hw).take j3) rfl rfl l3.symm (by rw [l1]; omega) (by rw [l2]; omega) (by omega) (a123.take j1) (a123.take j2) (AllI.take (allI_mem (by intro z hz; simp at hz; omega)) j3) ⟨by omega, by omega⟩⟩) ?_
    refine vt_valg rfl (fun w hw => os_not rfl) ?_
    refine vt_val (fun w hw => os_pick_f rfl rfl) ?_
    refine vt_val (fun w hw => os_move rfl) ?_
    refine vt_new (IsRowC .i64 [7]) (isRowC_stable _ _) (fun w hw => os_lit Try.underlying40 Try.sizeOf3 Try.zeroValue3 rfl rfl rfl rfl (by decide)) (fun w hw => isRowC_lit .i64 _ [7] _) ?_
    refine vt_new (IsRowC .i64 [3]) (isRowC_stable _ _) (fun w hw => os_lit Try.underlying40 Try.sizeOf3 Try.zeroValue3 rfl rfl rfl rfl (by decide)) (fun w hw => isRowC_lit .i64 _ [3] _) ?_
    refine vt_valg rfl (fun w hw => os_move rfl) ?_
    refine vt_valg rfl (fun w hw => os_move rfl) ?_
    refine vt_new (IsRowC .i64 [y, 3, 4, x]) (isRowC_stable _ _) (fun w hw => os_lit Try.underlying40 Try.sizeOf3 Try.zeroValue3 rfl rfl rfl rfl (by decide)) (fun w hw => isRowC_lit .i64 _ [y, 3, 4, x] _) ?_
    refine vt_valg rfl (fun w hw => os_move rfl) ?_
    refine vt_calls [(77, _), (78, _), (81, _)] (.bool true) ⟨⟨rfl, rfl⟩, ⟨rfl, rfl⟩, ⟨rfl, rfl⟩, trivial⟩ (fun w hw => fun u0 ⟨A0, c0, e0, _, x0⟩ u1 ⟨A1, c1, e1, _, x1⟩ u2 ⟨A2, c2, e2, _, x2⟩ => ⟨_, rfl, by subst e0 e1 e2; exact law25_HopeTells _ _ _ _ _ _ _ _ _ [7] [3] [y, 3, 4, x] x w x0 x1 x2 rfl rfl rfl (by simp) (by simp) (by simp) (allI_lit rfl) (allI_lit rfl) (allI_mem (by intro z hz; simp at hz; omega)) hX⟩) ?_
    refine vt_valg rfl (fun w hw => os_not rfl) ?_
    refine vt_val (fun w hw => os_pick_f rfl rfl) ?_
    refine vt_nil (fun Hw H => ?_)
    intro u13 hu13 u12 hu12 u11 hu11 u10 hu10 u9 hu9 u8 hu8 u7 hu7 u6 hu6 u5 hu5 u4 hu4 u3 hu3 u2 hu2 u1 hu1
    refine v_cond_f rfl ?_
    refine v_skip ?_
    refine v_region ?_
    refine vl_val (os_move rfl) ?_
    refine vl_val (os_addi rfl rfl (by omega)) ?_
    refine vl_val (os_assign rfl) ?_
    refine vl_nil ?_
    exact ⟨n + 1, ⟨rfl, trivial⟩, ⟨rfl, trivial⟩, ⟨by omega, hbq.trans ((bh.trans (H.mono bh.size)).mono hbq.size), by rw [← hE]; exact (r2q.keep bh).keep H⟩, by dsimp only; omega⟩
  · refine v_exit ?_
    refine v_seq ?_
    refine v_seq ?_
    refine v_region ?_
    refine vl_val (os_assign rfl) ?_
    refine vl_nil ?_
    refine v_block ?_
    refine v_loop [] (fun (n : Nat) => [(6, .int .i64 n)]) (fun n w' => n ≤ 100000 ∧ Below w.heap.size w w') (fun n => 260 - n) (0) trivial ⟨rfl, trivial⟩ (⟨by omega, hb2⟩) ?_
    rintro n w3 ⟨hn3, b3⟩
    refine v_seq ?_
    refine v_seq ?_
    refine v_region ?_
    refine vl_val (os_move rfl) ?_
    refine vl_val (os_lss rfl rfl) ?_
    refine vl_nil ?_
    refine v_cond_d rfl (fun h2 => ?_) (fun h2 => ?_)
    · have hn4 : n < 260 := by omega
      refine v_skip ?_
      refine v_seq ?_
      refine v_block ?_
      refine v_seq ?_
      refine v_region ?_
      refine vl_val (os_move rfl) ?_
      refine vl_some (ot_make (l := n) Try.underlying40 ti_int rfl rfl rfl rfl rfl (by omega) (by simp [maxLen]; omega) w3.heap.size (Nat.le_refl _)) ?_
      rintro v4 w4 ⟨rfl, o4, g4⟩
      have b34 : Below w3.heap.size w3 w4 := (Below.refl _ w3).grown g4 (Nat.le_refl _) (fun k hk => by cases hk)
      obtain ⟨g, hg⟩ : ∃ g, g = w3.heap.size := ⟨_, rfl⟩
      rw [← hg] at o4 ⊢
      refine vl_val (os_assign rfl) ?_
      refine vl_nil ?_
      refine v_seq ?_
      refine v_seq ?_
      refine v_region ?_
      refine vl_val (os_assign rfl) ?_
      refine vl_nil ?_
      refine v_block ?_
      refine v_loop [(6, _), (7, _)] (fun (i : Nat) => [(8, .int .i64 i)]) (fun i w' => i ≤ n ∧ Below w3.heap.size w3 w' ∧ ∃ zs, zs.length = n ∧ AllI zs ∧ OwnK w' g 3 .i64 (.slice (some ⟨g, 0, none⟩) n n) zs) (fun i => n - i) (0) ⟨rfl, rfl, trivial⟩ ⟨rfl, trivial⟩ (⟨by omega, b34, List.replicate n 0, by simp, allI_mem (by intro z hz; rw [List.eq_of_mem_replicate hz]; omega), by simpa [OwnK] using o4⟩) ?_
      rintro i w5 ⟨hi, b35, zs, hzl, hza, ho⟩
      refine v_seq ?_
      refine v_seq ?_
      refine v_region ?_
      refine vl_val (os_move rfl) ?_
      refine vl_val (os_move rfl) ?_
      refine vl_val (os_lss rfl rfl) ?_
      refine vl_nil ?_
      refine v_cond_d rfl (fun h3 => ?_) (fun h3 => ?_)
      · refine v_skip ?_
        refine v_seq ?_
        refine v_block ?_
        refine v_region ?_
        refine vl_val (os_move rfl) ?_
        refine vl_val (os_move rfl) ?_
        refine vl_val (os_move rfl) ?_
        refine vl_val (os_addi rfl rfl (by omega)) ?_
        refine vl_val (os_ix Try.underlying40 Try.sizeOf3 rfl rfl (i := i) (by omega) (by omega)) ?_
        refine vl_unit (ou_store Try.sizeOf3 rfl rfl rfl (OwnK.cell ho (i := 0 + i) (by omega)) (Own.free ho _)) ?_
        refine vl_nil ?_
        refine v_region ?_
        refine vl_val (os_move rfl) ?_
        refine vl_val (os_addi rfl rfl (by omega)) ?_
        refine vl_val (os_assign rfl) ?_
        refine vl_nil ?_
        exact ⟨i + 1, ⟨rfl, rfl, trivial⟩, ⟨rfl, trivial⟩, ⟨by omega, below_set b35 (by omega) _ _, zs.set (0 + i) (200 + (i : Int)), by simp [hzl], allI_mem (by intro z hz; rcases List.mem_or_eq_of_mem_set hz with h1 | rfl; exact hza z h1; omega), OwnK.set ho (0 + i) _⟩, by dsimp only; omega⟩
      · have rn := rd_alloc w5 .i64 [1, 2, 3, 4, 5, 6, 7, 8, 9] 3
        have bn := (Below.refl _ w5).alloc (Nat.le_refl _) (.cells (([1, 2, 3, 4, 5, 6, 7, 8, 9] : List Int).map (Value.int .i64)).toArray 3)
        obtain ⟨j, hj⟩ : ∃ j : Nat, n % 10 = j ∧ j ≤ 9 := ⟨_, rfl, by omega⟩
        have lj : (([1, 2, 3, 4, 5, 6, 7, 8, 9] : List Int).take j).length = j := by rw [List.length_take]; simp; omega
        have a9 : AllI [1, 2, 3, 4, 5, 6, 7, 8, 9] := allI_lit rfl
        have hz5 := (OwnK.rd ho).keep bn
        refine v_exit ?_
        refine v_seq ?_
        refine v_region ?_
        refine vl_val (os_lit Try.underlying40 Try.sizeOf3 Try.zeroValue3 rfl rfl rfl rfl (by decide)) ?_
        refine vl_val (os_assign rfl) ?_
        refine vl_nil ?_
        refine v_seq ?_
        refine v_region_t LeG _ mixed (by kernel_rfl) lee_g (leg_start _) ?_
        refine vt_val (fun w hw => os_move rfl) ?_
        refine vt_val (fun w hw => os_move rfl) ?_
        refine vt_val (fun w hw => os_remi rfl rfl (by omega)) ?_
        refine vt_val (fun w hw => os_slice_h Try.underlying40 Try.sizeOf3 rfl rfl (h := j) (by omega) (by omega)) ?_
        refine vt_val (fun w hw => os_move rfl) ?_
        refine vt_val (fun w hw => os_move rfl) ?_
        refine vt_val (fun w hw => os_remi rfl rfl (by omega)) ?_
        refine vt_val (fun w hw => os_slice_h Try.underlying40 Try.sizeOf3 rfl rfl (h := j) (by omega) (by omega)) ?_
        refine vt_val (fun w hw => os_move rfl) ?_
        refine vt_val (fun w hw => os_move rfl) ?_
        refine vt_call (v := .bool true) (fun w hw => law25_HopeTells _ _ _ j j n _ _ _ (([1, 2, 3, 4, 5, 6, 7, 8, 9] : List Int).take j) (([1, 2, 3, 4, 5, 6, 7, 8, 9] : List Int).take j) zs n w ((rn.keep hw).take j) ((rn.keep hw).take j) (hz5.keep hw) lj.symm lj.symm hzl.symm (by omega) (by omega) (by omega) (a9.take j) (a9.take j) hza ⟨by omega, by omega⟩) rfl ?_
        refine vt_val (fun w hw => os_not rfl) ?_
        refine vt_nil (fun Hw H => ?_)
        have b5 := b3.trans (b35.mono b3.size)
        refine v_cond_f rfl ?_
        refine v_skip ?_
        refine v_region ?_
        refine vl_val (os_move rfl) ?_
        refine vl_val (os_addi rfl rfl (by omega)) ?_
        refine vl_val (os_move rfl) ?_
        refine vl_val (os_remi rfl rfl (by omega)) ?_
        refine vl_val (os_muli rfl rfl (by omega)) ?_
        refine vl_val (os_addi rfl rfl (by omega)) ?_
        refine vl_val (os_assign rfl) ?_
        refine vl_nil ?_
        exact ⟨n + 1 + n % 4 * 50, trivial, ⟨by show some (Value.int .i64 _) = some (.int .i64 _); congr 2, trivial⟩, ⟨by omega, b5.trans ((bn.trans (H.mono bn.size)).mono b5.size)⟩, by dsimp only; omega⟩
    · refine v_exit ?_
      refine v_seq ?_
      refine v_region ?_
      refine vl_call (hope_Of0 none w3 (guess_made_nil w3)) rfl ?_
      rintro v4 w3 ⟨rfl, rfl⟩
      refine vl_val (os_move rfl) ?_
      refine vl_val (os_extract rfl rfl) ?_
      refine vl_val (os_extract rfl rfl) ?_
      refine vl_val (os_assign rfl) ?_
      refine vl_val (os_assign rfl) ?_
      refine vl_nil ?_
      refine v_seq ?_
      refine v_region ?_
      refine vl_val (os_build (cs := List.replicate 259 (Value.int .i64 0)) rfl (by kernel_rfl)) ?_
      have hB := bk_new w3 (List.replicate 259 (Value.int .i64 0)) 54
      have b4 := b3.alloc b3.size (.cells (List.replicate 259 (Value.int .i64 0)).toArray 54)
      refine vl_val (os_box rfl) ?_
      refine vl_call (hope_Of0 (some ⟨w3.heap.size, 0, none⟩) (w3.alloc (.cells (List.replicate 259 (Value.int .i64 0)).toArray 54)) (guess_made0 _ _ (hB.cell rfl))) rfl ?_
      rintro v5 w5 ⟨rfl, rfl⟩
      refine vl_val (os_move rfl) ?_
      refine vl_val (os_extract rfl rfl) ?_
      refine vl_val (os_extract rfl rfl) ?_
      refine vl_val (os_assign rfl) ?_
      refine vl_val (os_assign rfl) ?_
      refine vl_nil ?_
      refine v_seq ?_
      refine v_region ?_
      refine vl_val (os_move rfl) ?_
      refine vl_val (os_t (os_eql rfl rfl) (rfl)) ?_
      refine vl_val (os_move rfl) ?_
      refine vl_valg rfl (os_move rfl) ?_
      refine vl_valg rfl (os_t (os_eql rfl rfl) (rfl)) ?_
      refine vl_val (os_pick_t rfl rfl) ?_
      refine vl_val (os_move rfl) ?_
      refine vl_callg rfl (law25_awake _) rfl ?_
      rintro v6 w6 ⟨rfl, b6⟩
      refine vl_val (os_pick_t rfl rfl) ?_
      refine vl_val (os_assign rfl) ?_
      refine vl_nil ?_
      refine v_ret ?_
      exact post_ret rfl rfl (⟨rfl, b4.trans (b6.mono b4.size)⟩)
end Go.Proofs.Ytpjmiafefammkaa

/- Rows of parts of several cells each; and how an argument that is a list of structs, or of lists, opens. No program in sight. -/
namespace Go.Proofs.Ytpjmiafefammkaa
open Go.ChangeShapes Go.WideShapes Go.ChangeAt Go.RowKit
set_option linter.unusedVariables false

/-- A leads to a row of parts of s cells each -/
def RdP (w : World) (s : Nat) (A : Option Addr) (ps : List (List Value)) : Prop :=
  ∀ (i : Nat) (c : List Value), ps[i]? = some c → ∃ b o, A = some ⟨b, o, none⟩ ∧ ∀ (j : Nat) (v : Value), c[j]? = some v → w.cell? ⟨b, o + i * s + j, none⟩ = some v
theorem RdP.keep {w w' s A ps} (h : RdP w s A ps) (hb : Below w.heap.size w w') : RdP w' s A ps := fun i c hc => by
  obtain ⟨b, o, e, h1⟩ := h i c hc
  exact ⟨b, o, e, fun j v hv => by
    have h2 := h1 j v hv
    have := World.block_lt_of_cell? w _ h2
    exact (hb.cell (p := ⟨b, o + i * s + j, none⟩) this).trans h2⟩
theorem RdP.led {w w' s A ps} (h : RdP w s A ps) (hb : LeD w w') : RdP w' s A ps := by obtain ⟨q, rfl⟩ := hb; exact h
theorem RdP.take {w s A ps} (h : RdP w s A ps) (n : Nat) : RdP w s A (ps.take n) := fun i c hc => by
  rw [List.getElem?_take] at hc
  split at hc
  · exact h i c hc
  · cases hc
theorem RdP.part {w s b o ps} (h : RdP w s (some ⟨b, o, none⟩) ps) {i : Nat} {c : List Value} (hc : ps[i]? = some c) : RdC w (some ⟨b, o + i * s, none⟩) c := fun hl => by
  obtain ⟨b', o', e, h1⟩ := h i c hc
  cases e
  exact ⟨b, o + i * s, rfl, fun j hj => by rw [h1 j c[j] (List.getElem?_eq_getElem hj), List.getElem?_eq_getElem hj]⟩
theorem RdP.cell {w s b o ps} (h : RdP w s (some ⟨b, o, none⟩) ps) {i j : Nat} {c : List Value} {v : Value} (hc : ps[i]? = some c) (hv : nthV c j = some v) : w.cell? ⟨b, o + i * s + j, none⟩ = some v := by
  rw [nthV_eq] at hv
  obtain ⟨b', o', e, h1⟩ := h i c hc
  cases e
  exact h1 j v hv
theorem RdP.toC {w A ps} (h : RdP w 1 A ps) (hl : ∀ c ∈ ps, c.length = 1) : RdC w A (ps.map (·.headD default)) := fun h0 => by
  have h0' : 0 < ps.length := by simpa using h0
  obtain ⟨b, o, e, _⟩ := h 0 _ (List.getElem?_eq_getElem h0')
  subst e
  refine ⟨b, o, rfl, fun i hi => ?_⟩
  have hi' : i < ps.length := by simpa using hi
  have h1 := hl ps[i] (List.getElem_mem _)
  obtain ⟨v, hv⟩ : ∃ v, ps[i] = [v] := by
    match hh : ps[i], h1 with
    | [v], _ => exact ⟨v, rfl⟩
  have := h.cell (i := i) (j := 0) (List.getElem?_eq_getElem hi') (v := v) (by rw [hv]; rfl)
  rw [Nat.mul_one, Nat.add_zero] at this
  rw [this]
  simp [hi', hv]
theorem RdC.toP {w A cs} (h : RdC w A cs) : RdP w 1 A (cs.map fun v => [v]) := fun i c hc => by
  have hi : i < cs.length := by simpa using (List.getElem?_eq_some_iff.1 hc).1
  obtain ⟨b, o, e, h1⟩ := h (by omega)
  refine ⟨b, o, e, fun j v hv => ?_⟩
  simp only [List.getElem?_map] at hc
  rw [List.getElem?_eq_getElem hi] at hc
  cases hc
  cases j with
  | zero => cases hv; rw [Nat.mul_one, Nat.add_zero, h1 i hi, List.getElem?_eq_getElem hi]
  | succ j => cases hv

section
variable {P : Program} {n : Cx} {fr : Fr} {w : World} {ty : TypeId} {x y z : Operand} {T T2 e : TypeId}
/-- a struct in a row is read whole -/
theorem os_loadP {A : Addr} {cs : List Value} {d : TypeDesc} (hu : P.underlying T = some d) (hd : (match d with | .struct _ | .array _ _ => true | _ => false) = true) (hs : (P.info? T).map (·.size) = some cs.length) (hx : Fr.ev fr x = some (.pointer (some A))) (hr : RdC w (some A) cs) :
    OS P n (.load T x) ty fr w (.agg cs.toArray) w := os_of fun a ha => by
  have hl : (loadCells A cs.length).run P w = .ok cs.toArray w := run_loadCells_list (P := P) w A cs (fun j u hu => by
    have hj := (List.getElem?_eq_some_iff.1 hu).1
    obtain ⟨b, off, e1, hc⟩ := hr (by omega)
    cases e1
    rw [addr_add, hc j hj]; exact hu)
  obtain ⟨i, hi, hi1⟩ : ∃ i, P.info? T = some i ∧ i.size = cs.length := by
    cases hq : P.info? T with
    | none => simp [hq] at hs
    | some i => exact ⟨i, rfl, by simpa [hq] using hs⟩
  have hagg : ∀ w, (isAgg T).run P w = .ok true w := fun w => by
    cases d <;> simp at hd <;> simp [isAgg, run_underlying hu]
  simp [execOp, ha.ev hx, Instr.loadAt, Instr.sureAddr, loadVar, hagg, sizeOf, typeInfo, hi, hi1, hl]
end

section
variable {H : Type} {enc : TypeId × Value → H} {P : Program} {w : World} {base : Nat} {spare : Nat → Bool} {held : Bool} {t e : TypeId} {fuel : Nat} {cs : List Value} {x : DataW H × List MemPlace}
theorem mem_all {d : DataW H} {m : Nat} (hm : m ∈ d.weights P e) : ∀ {l : List (DataW H)}, d ∈ l → m ∈ DataW.weightsAll P e l
  | c :: r, h => by
    simp only [DataW.weightsAll, List.mem_append]
    rcases List.mem_cons.1 h with rfl | h
    · exact .inl hm
    · exact .inr (mem_all hm h)
theorem sized_all {ts : List TypeId} {ds : List (DataW H)} (h : (DataW.weightsEach P ts ds).all (· ≤ reachBytes) = true) {j : Nat} {t : TypeId} {d : DataW H} (ht : ts[j]? = some t) (hd : ds[j]? = some d) : ∀ m ∈ d.weights P t, m ≤ reachBytes := fun m hm => by
  have := List.all_eq_true.1 h _ (DataW.weights_mem_each ht hd m hm)
  simpa using this
theorem open_parts {s : Nat} (ht : P.underlying t = some (.slice e)) (hC : P.cellsOf e = s) (h0 : 0 < s) (h : DataW.trod enc P w base spare held fuel t cs = some x) (hw : ∀ m ∈ x.1.weights P t, m ≤ reachBytes) :
    ∃ A len cap ps, cs = [.slice A len cap] ∧ ps.length = len ∧ len ≤ cap ∧ len * P.bytesOf e ≤ reachBytes ∧ RdP w s A ps ∧ ∀ c ∈ ps, c.length = s ∧ ∃ n y, DataW.trod enc P w base spare held n e c = some y ∧ ∀ m ∈ y.1.weights P e, m ≤ reachBytes := by
  subst hC
  rcases DataW.trod_slice ht h with ⟨rfl, _⟩ | ⟨a, len, cap, elems, rest, n, _, rfl, rfl, hb, hl, hm, hlen, hel, _, _⟩
  · exact ⟨none, 0, 0, [], rfl, rfl, Nat.le_refl _, by simp, fun i c hc => by simp at hc, fun c hc => by cases hc⟩
  · have hwl : len * P.bytesOf e ≤ reachBytes := by
      have := hw ((elems.length + rest.length) * P.bytesOf e) (by simp [DataW.weights, ht])
      exact Nat.le_trans (Nat.mul_le_mul_right _ (by omega)) this
    have hwe : ∀ y ∈ elems, ∀ m ∈ y.1.weights P e, m ≤ reachBytes := fun y hy m hm => hw m (by
      simp only [DataW.weights, ht, List.mem_cons, List.mem_append]
      exact .inr (.inl (mem_all hm (List.mem_map_of_mem hy))))
    have hparts : ∀ i, i < len → ∃ c, w.cells? base (a.add (i * P.cellsOf e)) (P.cellsOf e) = some c ∧ ∃ y, DataW.trod enc P w base spare held n e c = some y ∧ ∀ m ∈ y.1.weights P e, m ≤ reachBytes := fun i hi => by
      have h1 := hel i hi
      rw [List.getElem?_eq_getElem (by omega), Option.bind_eq_some_iff] at h1
      obtain ⟨c, h2, h3⟩ := h1
      exact ⟨c, h2, _, h3, hwe _ (List.getElem_mem _)⟩
    have hps : ∃ ps : List (List Value), ps.length = len ∧ ∀ i (c : List Value), ps[i]? = some c → w.cells? base (a.add (i * P.cellsOf e)) (P.cellsOf e) = some c ∧ ∃ y, DataW.trod enc P w base spare held n e c = some y ∧ ∀ m ∈ y.1.weights P e, m ≤ reachBytes := by
      clear hel h hw
      have : ∀ k, k ≤ len → ∃ ps : List (List Value), ps.length = k ∧ ∀ i (c : List Value), ps[i]? = some c → w.cells? base (a.add (i * P.cellsOf e)) (P.cellsOf e) = some c ∧ ∃ y, DataW.trod enc P w base spare held n e c = some y ∧ ∀ m ∈ y.1.weights P e, m ≤ reachBytes := by
        intro k
        induction k with
        | zero => intro _; exact ⟨[], rfl, fun i c hc => by simp at hc⟩
        | succ k ih =>
          intro hk
          obtain ⟨ps, h1, h2⟩ := ih (by omega)
          obtain ⟨c, h3, h4⟩ := hparts k (by omega)
          refine ⟨ps ++ [c], by simp [h1], fun i c' hc' => ?_⟩
          by_cases hi : i < k
          · rw [List.getElem?_append_left (by omega)] at hc'
            exact h2 i c' hc'
          · have hi2 : i = k := by have := (List.getElem?_eq_some_iff.1 hc').1; simp at this; omega
            subst hi2
            rw [List.getElem?_append_right (by omega), h1, Nat.sub_self] at hc'
            cases hc'
            exact ⟨h3, h4⟩
      exact this len (Nat.le_refl _)
    obtain ⟨ps, h1, h2⟩ := hps
    refine ⟨some a, len, cap, ps, rfl, h1, hl, hwl, fun i c hc => ?_, fun c hc => ?_⟩
    · have hi := (List.getElem?_eq_some_iff.1 hc).1
      obtain ⟨b, o, spot⟩ := a
      have hspot : spot = none := by
        obtain ⟨h3, _⟩ := h2 0 ps[0] (List.getElem?_eq_getElem (by omega))
        obtain ⟨_, h4, h5⟩ := World.cells?_some h3
        have h6 := h5 0 (by omega)
        rw [List.getElem?_eq_getElem (by omega)] at h6
        simpa [Addr.add] using World.cell?_spot h6
      subst hspot
      obtain ⟨h3, _⟩ := h2 i c hc
      obtain ⟨_, h4, h5⟩ := World.cells?_some h3
      refine ⟨b, o, rfl, fun j v hv => ?_⟩
      have hj := (List.getElem?_eq_some_iff.1 hv).1
      have h7 := h5 j (by omega)
      rw [addr_add, addr_add, hv] at h7
      exact h7
    · obtain ⟨i, hi⟩ := List.mem_iff_getElem?.1 hc
      obtain ⟨h3, y, h4⟩ := h2 i c hi
      exact ⟨(World.cells?_some h3).2.1, n, y, h4⟩
/-- an element that is a list of numbers -/
theorem open_nums {k : IntKind} (ht : P.underlying t = some (.slice e)) (he : P.underlying e = some (.int k)) (hC : P.cellsOf e = 1) (h : DataW.trod enc P w base spare held fuel t cs = some x) (hw : ∀ m ∈ x.1.weights P t, m ≤ reachBytes) :
    ∃ A len cap zs, cs = [.slice A len cap] ∧ zs.length = len ∧ len ≤ cap ∧ len * P.bytesOf e ≤ reachBytes ∧ Rd w k A zs ∧ ∀ z ∈ zs, (Lit.int k z).wf = true := by
  obtain ⟨A, len, cap, ps, rfl, h1, h2, h3, h4, h5⟩ := open_parts ht hC (by omega) h hw
  have hz : ∀ ps : List (List Value), (∀ c ∈ ps, c.length = 1 ∧ ∃ n y, DataW.trod enc P w base spare held n e c = some y ∧ ∀ m ∈ y.1.weights P e, m ≤ reachBytes) → ∃ zs : List Int, ps = zs.map (fun z => [Value.int k z]) ∧ ∀ z ∈ zs, (Lit.int k z).wf = true := by
    intro ps
    induction ps with
    | nil => intro _; exact ⟨[], rfl, fun z hz => by cases hz⟩
    | cons c r ih =>
      intro hh
      obtain ⟨zs, e1, e2⟩ := ih (fun c hc => hh c (by simp [hc]))
      obtain ⟨_, n, y, hy, _⟩ := hh c (by simp)
      obtain ⟨z, e3, _, e4⟩ := DataW.trod_int he hy
      exact ⟨z :: zs, by rw [e1, e3]; rfl, fun z' hz' => by rcases List.mem_cons.1 hz' with rfl | hz'; exact e4; exact e2 z' hz'⟩
  obtain ⟨zs, rfl, hwf⟩ := hz ps h5
  refine ⟨A, len, cap, zs, rfl, by simpa using h1, h2, h3, ?_, hwf⟩
  have := RdP.toC h4 (fun c hc => by obtain ⟨z, _, rfl⟩ := List.mem_map.1 hc; rfl)
  rw [List.map_map, show zs.map ((fun x => x.headD default) ∘ fun z => [Value.int k z]) = zs.map (Value.int k) from List.map_congr_left fun z _ => rfl] at this
  exact RdC.toRd this
/-- parts that each open to something -/
theorem parts_map {D : Type} (f : D → List Value) (G : D → Prop) : ∀ ps : List (List Value), (∀ c ∈ ps, ∃ d, f d = c ∧ G d) → ∃ ds : List D, ds.map f = ps ∧ ∀ d ∈ ds, G d
  | [], _ => ⟨[], rfl, fun d hd => by cases hd⟩
  | c :: r, h => by
    obtain ⟨ds, e1, e2⟩ := parts_map f G r (fun c hc => h c (by simp [hc]))
    obtain ⟨d, e3, e4⟩ := h c (by simp)
    exact ⟨d :: ds, by simp [e1, e3], fun d' hd' => by rcases List.mem_cons.1 hd' with rfl | hd'; exact e4; exact e2 d' hd'⟩
end
end Go.Proofs.Ytpjmiafefammkaa

/- Structs of two numbers. No program in sight. -/
namespace Go.Proofs.Ytpjmiafefammkaa
open Go.RowKit
set_option linter.unusedVariables false

def rowC (x : Int × Int) : List Value := [.int .i64 x.1, .int .i64 x.2]
theorem rowC_len (rows : List (Int × Int)) : ∀ c ∈ rows.map rowC, c.length = 2 := fun c hc => by obtain ⟨x, _, rfl⟩ := List.mem_map.1 hc; rfl
theorem rowC_one (rows : List (Int × Int)) : ∀ c ∈ rows.map rowC, ∀ u ∈ c, u.oneCell' = true := fun c hc u hu => by
  obtain ⟨x, _, rfl⟩ := List.mem_map.1 hc
  simp only [rowC, List.mem_cons, List.not_mem_nil, or_false] at hu
  rcases hu with rfl | rfl <;> rfl
theorem RdP.at2 {w : World} {A : Option Addr} {rows : List (Int × Int)} (h : RdP w 2 A (rows.map rowC)) {i : Nat} (hi : i < rows.length) : ∃ b o, A = some ⟨b, o, none⟩ ∧ w.cell? ⟨b, o + i * 2, none⟩ = some (.int .i64 (rows.getD i (0, 0)).1) ∧ w.cell? ⟨b, o + i * 2 + 1, none⟩ = some (.int .i64 (rows.getD i (0, 0)).2) ∧ RdC w (some ⟨b, o + i * 2, none⟩) (rowC (rows.getD i (0, 0))) := by
  have hc : (rows.map rowC)[i]? = some (rowC (rows.getD i (0, 0))) := by simp [hi]
  obtain ⟨b, o, e, hcell⟩ := h i _ hc
  subst e
  exact ⟨b, o, rfl, hcell 0 _ rfl, hcell 1 _ rfl, h.part hc⟩
end Go.Proofs.Ytpjmiafefammkaa

/- Layer 24, plain: what a report is, whether it is right, what it says. No program in sight. -/
namespace Go.Proofs.Ytpjmiafefammkaa
open Go.RowKit
set_option linter.unusedVariables false

structure NoteV where
  st : Int
  sq : Int
  n : Int
  A : Option Addr
  l : Nat
  c : Nat
  cs : List (Int × Int)
def NoteV.cells (d : NoteV) : List Value := [.int .i64 d.st, .int .i64 d.sq, .int .i64 d.n, .slice d.A d.l d.c]
def NoteOk (w : World) (d : NoteV) : Prop := RdP w 2 d.A (d.cs.map rowC) ∧ d.l = d.cs.length ∧ d.l ≤ 9000000000000 ∧ (I64 d.st ∧ I64 d.sq ∧ I64 d.n) ∧ ∀ p ∈ d.cs, I64 p.1 ∧ I64 p.2
theorem NoteOk.keep {w w' : World} {d : NoteV} (h : NoteOk w d) (hb : Below w.heap.size w w') : NoteOk w' d := ⟨h.1.keep hb, h.2⟩
theorem NoteOk.led {w w' : World} {d : NoteV} (h : NoteOk w d) (hb : LeD w w') : NoteOk w' d := ⟨h.1.led hb, h.2⟩

def inB (n a b : Int) : Bool := decide (a ≤ n ∧ n ≤ b)
def cntOk (n : Int) : Int → List (Int × Int) → Bool
  | _, [] => true
  | last, c :: r => (inB c.1 (last + 1) n && inB c.2 1 65535) && cntOk n c.1 r
def rightN (d : NoteV) : Bool := cntOk d.n 0 d.cs && inB d.st 0 65535 && inB d.sq 1 2147483647 && inB d.n 1 255
def whyN (st n sq : Int) (d : NoteV) : Int :=
  if rightN d = false then 2 else if d.st ≠ st ∨ d.n ≠ n then 13 else if d.sq ≤ sq then 14 else if d.l = 0 then 5 else 0
theorem why_ok {st n sq : Int} {d : NoteV} : whyN st n sq d = 0 ↔ rightN d = true ∧ d.st = st ∧ d.n = n ∧ sq < d.sq ∧ 0 < d.l := by
  unfold whyN
  cases rightN d
  · simp
  · simp only [Bool.true_eq_false, if_false]
    split
    · constructor
      · intro h; cases h
      · intro h; omega
    · split
      · constructor
        · intro h; cases h
        · intro h; omega
      · split
        · constructor
          · intro h; cases h
          · intro h; omega
        · simp; omega
theorem cnt_step {n : Int} {cs : List (Int × Int)} {i : Nat} {last : Int} (hi : i < cs.length) : cntOk n last (cs.drop i) = ((inB (cs.getD i (0, 0)).1 (last + 1) n && inB (cs.getD i (0, 0)).2 1 65535) && cntOk n (cs.getD i (0, 0)).1 (cs.drop (i + 1))) := by
  have e : cs.getD i (0, 0) = cs[i] := by simp [hi]
  rw [List.drop_eq_getElem_cons hi, cntOk, e]
theorem inB_iff {n a b : Int} : inB n a b = true ↔ a ≤ n ∧ n ≤ b := by simp [inB]
/-- the last count ahead of one -/
def lastC (cs : List (Int × Int)) : Nat → Int
  | 0 => 0
  | i + 1 => (cs.getD i (0, 0)).1
theorem cnt_all {n last : Int} {cs : List (Int × Int)} (h : cntOk n last cs = true) : (∀ c ∈ cs, last < c.1 ∧ c.1 ≤ n ∧ 1 ≤ c.2 ∧ c.2 ≤ 65535) ∧ (last ≤ n → last + (cs.length : Int) ≤ n) := by
  induction cs generalizing last with
  | nil => exact ⟨(fun c hc => by cases hc), (fun h => by simpa using h)⟩
  | cons x r ih =>
    simp only [cntOk, Bool.and_eq_true, inB_iff] at h
    obtain ⟨⟨h1, h2⟩, h3⟩ := h
    obtain ⟨i1, i2⟩ := ih h3
    refine ⟨fun c hc => ?_, fun _ => ?_⟩
    · rcases List.mem_cons.1 hc with rfl | hc
      · omega
      · have := i1 c hc; omega
    · have := i2 h1.2
      simp only [List.length_cons]; omega
/-- no place twice -/
theorem cnt_inc {n last : Int} {cs : List (Int × Int)} (h : cntOk n last cs = true) : cs.Pairwise fun a b => a.1 < b.1 := by
  induction cs generalizing last with
  | nil => exact List.Pairwise.nil
  | cons x r ih =>
    simp only [cntOk, Bool.and_eq_true] at h
    exact List.Pairwise.cons (fun c hc => ((cnt_all h.2).1 c hc).1) (ih h.2)

def timesL (cs : List (Int × Int)) : Int := (cs.map (·.2)).sum
def saysGo (all : Int) : List (Int × Int) → List Int → List Int
  | [], out => out
  | c :: r, out => saysGo all r (out.set c.1.toNat (shareV c.2 all))
def saysL (n : Int) (cs : List (Int × Int)) : List Int := saysGo (timesL cs) cs (List.replicate (n.toNat + 1) 0)
theorem saysGo_len (all : Int) : ∀ (cs : List (Int × Int)) (out : List Int), (saysGo all cs out).length = out.length
  | [], out => rfl
  | c :: r, out => by rw [saysGo, saysGo_len all r]; simp
theorem saysL_len (n : Int) (cs : List (Int × Int)) : (saysL n cs).length = n.toNat + 1 := by simp [saysL, saysGo_len]
theorem saysGo_step {all : Int} {cs : List (Int × Int)} {out : List Int} {i : Nat} (hi : i < cs.length) : saysGo all (cs.drop i) out = saysGo all (cs.drop (i + 1)) (out.set (cs.getD i (0, 0)).1.toNat (shareV (cs.getD i (0, 0)).2 all)) := by
  have e : cs.getD i (0, 0) = cs[i] := by simp [hi]
  rw [List.drop_eq_getElem_cons hi, saysGo, e]
theorem times_bd {n last : Int} {cs : List (Int × Int)} (h : cntOk n last cs = true) : (cs.length : Int) ≤ timesL cs ∧ timesL cs ≤ cs.length * 65535 ∧ ∀ c ∈ cs, c.2 ≤ timesL cs := by
  induction cs generalizing last with
  | nil => simp [timesL]
  | cons x r ih =>
    have hx := (cnt_all h).1 x (by simp)
    simp only [cntOk, Bool.and_eq_true] at h
    obtain ⟨i1, i2, i3⟩ := ih h.2
    simp only [timesL, List.map_cons, List.sum_cons, List.length_cons] at i1 i2 i3 ⊢
    refine ⟨by omega, by omega, fun c hc => ?_⟩
    rcases List.mem_cons.1 hc with rfl | hc
    · omega
    · have := i3 c hc; omega
theorem times_take {n last : Int} {cs : List (Int × Int)} (h : cntOk n last cs = true) (i : Nat) : 0 ≤ timesL (cs.take i) ∧ timesL (cs.take i) ≤ cs.length * 65535 := by
  induction cs generalizing last i with
  | nil => simp [timesL]
  | cons x r ih =>
    have hx := (cnt_all h).1 x (by simp)
    simp only [cntOk, Bool.and_eq_true] at h
    cases i with
    | zero => simp [timesL]; omega
    | succ i =>
      have := ih h.2 i
      simp only [timesL, List.take_succ_cons, List.map_cons, List.sum_cons, List.length_cons] at this ⊢
      omega
theorem times_succ {cs : List (Int × Int)} {i : Nat} (hi : i < cs.length) : timesL (cs.take (i + 1)) = timesL (cs.take i) + (cs.getD i (0, 0)).2 := by
  have e : cs.getD i (0, 0) = cs[i] := by simp [hi]
  unfold timesL
  rw [List.take_succ_eq_append_getElem hi, List.map_append, List.sum_append, e]
  simp
structure RightD (d : NoteV) : Prop where
  st : 0 ≤ d.st ∧ d.st ≤ 65535
  sq : 1 ≤ d.sq ∧ d.sq ≤ 2147483647
  n : 1 ≤ d.n ∧ d.n ≤ 255
  cnt : cntOk d.n 0 d.cs = true
theorem right_iff {d : NoteV} : rightN d = true ↔ RightD d := by
  simp only [rightN, Bool.and_eq_true, inB_iff]
  exact ⟨fun h => ⟨h.1.1.2, h.1.2, h.2, h.1.1.1⟩, fun h => ⟨⟨⟨h.cnt, h.st⟩, h.sq⟩, h.n⟩⟩
theorem share_bd {a b : Int} : 0 ≤ shareV a b ∧ shareV a b ≤ 65536 := by
  unfold shareV shareOk
  split
  · rename_i h
    simp only [decide_eq_true_eq] at h
    refine ⟨Int.ediv_nonneg (by omega) (by omega), ?_⟩
    have : a * 65536 / b ≤ 65536 := by
      apply Int.ediv_le_of_le_mul (by omega)
      rw [Int.mul_comm]
      exact Int.mul_le_mul_of_nonneg_left (by omega) (by decide)
    exact this
  · omega
theorem saysGo_bd {all : Int} : ∀ (cs : List (Int × Int)) (out : List Int), (∀ z ∈ out, 0 ≤ z ∧ z ≤ 65536) → ∀ z ∈ saysGo all cs out, 0 ≤ z ∧ z ≤ 65536
  | [], out, h => h
  | c :: r, out, h => saysGo_bd r _ fun z hz => by
    rcases List.mem_or_eq_of_mem_set hz with h1 | rfl
    · exact h z h1
    · exact share_bd
theorem saysL_bd {n : Int} {cs : List (Int × Int)} : ∀ z ∈ saysL n cs, 0 ≤ z ∧ z ≤ 65536 := saysGo_bd cs _ fun z hz => by
  rw [(List.mem_replicate.1 hz).2]; decide
theorem saysL_row {n : Int} {cs : List (Int × Int)} (hn : n ≤ 255) : rowB (saysL n cs) = true := by
  refine rowB_mk (by rw [saysL_len]; omega) (by rw [saysL_len]; omega) fun k hk => ?_
  rw [List.getElem?_eq_getElem hk]
  exact saysL_bd _ (List.getElem_mem _)
end Go.Proofs.Ytpjmiafefammkaa

/- Layer 7, plain: the sums as functions on bits; they are linear. No program in sight. -/
namespace Go.Proofs.Ytpjmiafefammkaa
open Go.RowKit

def crcPoly : BitVec 32 := 0xEDB88320#32
def crcRnd (s : BitVec 32) : BitVec 32 := (s >>> 1) ^^^ (crcPoly &&& -(s &&& 1#32))
def crcRnds : Nat → BitVec 32 → BitVec 32
  | 0, s => s
  | k + 1, s => crcRnd (crcRnds k s)
def crcTab (n : Nat) : BitVec 32 := crcRnds 8 (BitVec.ofNat 32 n)
def crcStep (s : BitVec 32) (z : Int) : BitVec 32 := (s >>> 8) ^^^ crcTab (s.setWidth 8 ^^^ BitVec.ofInt 8 z).toNat
def crcRun (s : BitVec 32) (zs : List Int) : BitVec 32 := zs.foldl crcStep s
def crcGo (s : BitVec 32) (zs : List Int) : BitVec 32 := ~~~ crcRun (~~~ s) zs
def crcOf (parts : List (List Int)) : BitVec 32 := ~~~ parts.foldl crcRun (~~~ 0#32)

theorem crc_neg (s : BitVec 32) : -(s &&& 1#32) = if s.getLsbD 0 then BitVec.allOnes 32 else 0#32 := by
  have h : s &&& 1#32 = if s.getLsbD 0 then 1#32 else 0#32 := by
    apply BitVec.eq_of_getLsbD_eq
    intro i hi
    by_cases h0 : i = 0
    · subst h0
      cases hs : s.getLsbD 0 <;> simp at hs ⊢ <;> simp [hs]
    · have h1 : (1#32).getLsbD i = false := by simp [BitVec.getLsbD_one, h0]
      simp only [BitVec.getLsbD_and, h1, Bool.and_false]
      split <;> simp [h1]
  rw [h]
  split <;> decide
theorem crcRnd_eq (s : BitVec 32) : crcRnd s = (s >>> 1) ^^^ (if s.getLsbD 0 then crcPoly else 0#32) := by
  unfold crcRnd
  rw [crc_neg]
  split
  · rw [show crcPoly &&& BitVec.allOnes 32 = crcPoly from by decide]
  · rw [show crcPoly &&& 0#32 = 0#32 from by decide]
theorem xor_lc (a b c : BitVec 32) : a ^^^ (b ^^^ c) = b ^^^ (a ^^^ c) := by rw [← BitVec.xor_assoc, BitVec.xor_comm a b, BitVec.xor_assoc]
theorem xor_cc (a b : BitVec 32) : a ^^^ (a ^^^ b) = b := by rw [← BitVec.xor_assoc]; simp
theorem crcRnd_xor (a b : BitVec 32) : crcRnd (a ^^^ b) = crcRnd a ^^^ crcRnd b := by
  rw [crcRnd_eq, crcRnd_eq, crcRnd_eq, BitVec.ushiftRight_xor_distrib, BitVec.getLsbD_xor]
  generalize a >>> 1 = x
  generalize b >>> 1 = y
  cases a.getLsbD 0 <;> cases b.getLsbD 0 <;> simp [BitVec.xor_assoc]
  · rw [BitVec.xor_comm]
  · rw [BitVec.xor_comm y, xor_cc]
theorem crcRnds_xor (k : Nat) (a b : BitVec 32) : crcRnds k (a ^^^ b) = crcRnds k a ^^^ crcRnds k b := by
  induction k with
  | zero => rfl
  | succ k ih => simp only [crcRnds, ih, crcRnd_xor]
theorem crcRnds_zero (k : Nat) : crcRnds k 0#32 = 0#32 := by
  induction k with
  | zero => rfl
  | succ k ih => simp only [crcRnds, ih]; decide
/-- rounds that take out noughts shift -/
theorem crcRnds_shift (k : Nat) : ∀ s : BitVec 32, (∀ i, i < k → s.getLsbD i = false) → crcRnds k s = s >>> k := by
  induction k with
  | zero => intro s _; simp [crcRnds]
  | succ k ih =>
    intro s h
    simp only [crcRnds]
    rw [ih s (fun i hi => h i (by omega)), crcRnd_eq]
    have : (s >>> k).getLsbD 0 = false := by simpa using h k (by omega)
    rw [this]
    simp [← BitVec.shiftRight_add]
theorem crcStep_rnds (s : BitVec 32) (z : Int) : crcStep s z = crcRnds 8 (s ^^^ BitVec.setWidth 32 (BitVec.ofInt 8 z)) := by
  have h : s ^^^ BitVec.setWidth 32 (BitVec.ofInt 8 z) = ((s >>> 8) <<< 8) ^^^ BitVec.setWidth 32 (s.setWidth 8 ^^^ BitVec.ofInt 8 z) := by
    apply BitVec.eq_of_getLsbD_eq
    intro i hi
    simp only [BitVec.getLsbD_xor, BitVec.getLsbD_setWidth, BitVec.getLsbD_shiftLeft, BitVec.getLsbD_ushiftRight, hi, decide_true, Bool.true_and]
    by_cases h8 : i < 8
    · simp [h8]
    · simp [h8, show 8 + (i - 8) = i by omega]
  rw [h, crcRnds_xor, crcRnds_shift 8 _ (fun i hi => by simp [hi])]
  unfold crcStep crcTab
  congr 1
  · apply BitVec.eq_of_getLsbD_eq
    intro i hi
    simp only [BitVec.getLsbD_ushiftRight, BitVec.getLsbD_shiftLeft]
    by_cases h1 : 8 + i < 32
    · simp [h1]
    · simp [h1]; exact BitVec.getLsbD_of_ge _ _ (by omega)
  · congr 1
    apply BitVec.eq_of_toNat_eq
    simp [BitVec.toNat_setWidth, BitVec.toNat_ofNat]
theorem crcStep_xor (a b : BitVec 32) (x y z : Int) (h : BitVec.ofInt 8 z = BitVec.ofInt 8 x ^^^ BitVec.ofInt 8 y) : crcStep (a ^^^ b) z = crcStep a x ^^^ crcStep b y := by
  rw [crcStep_rnds, crcStep_rnds, crcStep_rnds, ← crcRnds_xor, h]
  congr 1
  rw [BitVec.setWidth_xor]
  generalize BitVec.setWidth 32 (BitVec.ofInt 8 x) = u
  generalize BitVec.setWidth 32 (BitVec.ofInt 8 y) = v
  rw [BitVec.xor_assoc, BitVec.xor_assoc, xor_lc b u v]
theorem crcRun_xor : ∀ (xs ys zs : List Int) (a b : BitVec 32), xs.length = ys.length → zs.length = xs.length → (∀ i, i < xs.length → BitVec.ofInt 8 (zs.getD i 0) = BitVec.ofInt 8 (xs.getD i 0) ^^^ BitVec.ofInt 8 (ys.getD i 0)) →
    crcRun (a ^^^ b) zs = crcRun a xs ^^^ crcRun b ys
  | [], ys, zs, a, b, h1, h2, _ => by
    have e1 : ys = [] := List.eq_nil_of_length_eq_zero (by simpa using h1.symm)
    have e2 : zs = [] := List.eq_nil_of_length_eq_zero (by simpa using h2)
    subst e1; subst e2; rfl
  | x :: xs, [], zs, a, b, h1, _, _ => by simp at h1
  | x :: xs, y :: ys, [], a, b, _, h2, _ => by simp at h2
  | x :: xs, y :: ys, z :: zs, a, b, h1, h2, h => by
    have h0 := h 0 (by simp)
    simp at h0
    have ih := crcRun_xor xs ys zs (crcStep a x) (crcStep b y) (by simpa using h1) (by simpa using h2) fun i hi => by have := h (i + 1) (by simpa using hi); simpa using this
    show crcRun (crcStep (a ^^^ b) z) zs = crcRun (crcStep a x) xs ^^^ crcRun (crcStep b y) ys
    rw [crcStep_xor a b x y z h0, ih]
theorem crcRun_app (s : BitVec 32) (a b : List Int) : crcRun s (a ++ b) = crcRun (crcRun s a) b := by simp [crcRun]
theorem crcOf_one (a : List Int) : crcOf [a] = crcGo 0#32 a := rfl
/-- the law's sums -/
theorem crcOf_parts (xs : List Int) {lo hi : Nat} (h : lo ≤ hi) : crcOf [xs.take lo, (xs.drop lo).take (hi - lo), [], xs.drop hi] = crcOf [xs] := by
  unfold crcOf
  simp only [List.foldl_cons, List.foldl_nil]
  rw [← crcRun_app, ← crcRun_app, ← crcRun_app]
  have : xs.take lo ++ ((xs.drop lo).take (hi - lo) ++ ([] ++ xs.drop hi)) = xs := by
    rw [List.nil_append]
    have h2 : (xs.drop lo).take (hi - lo) ++ xs.drop hi = xs.drop lo := by
      have : xs.drop hi = (xs.drop lo).drop (hi - lo) := by rw [List.drop_drop]; congr 1; omega
      rw [this, List.take_append_drop]
    rw [h2, List.take_append_drop]
  rw [this]
theorem crcGo_parts (xs : List Int) (lo : Nat) : crcGo (crcOf [xs.take lo]) (xs.drop lo) = crcOf [xs] := by
  unfold crcGo crcOf
  simp only [List.foldl_cons, List.foldl_nil]
  rw [BitVec.not_not, ← crcRun_app, List.take_append_drop]
theorem not_xor (a b : BitVec 32) : ~~~ a ^^^ ~~~ b = a ^^^ b := by
  apply BitVec.eq_of_getLsbD_eq
  intro i hi
  simp [hi]
theorem crcOf_diff (xs ys ds zs : List Int) (h1 : xs.length = ys.length) (h2 : ds.length = xs.length) (h3 : zs.length = xs.length) (hd : ∀ i, i < xs.length → BitVec.ofInt 8 (ds.getD i 0) = BitVec.ofInt 8 (xs.getD i 0) ^^^ BitVec.ofInt 8 (ys.getD i 0))
    (hz : ∀ i, i < xs.length → zs.getD i 0 = 0) : crcOf [xs] ^^^ crcOf [ys] = crcOf [ds] ^^^ crcOf [zs] := by
  unfold crcOf
  simp only [List.foldl_cons, List.foldl_nil]
  rw [not_xor, not_xor, ← crcRun_xor xs ys ds _ _ h1 h2 hd, ← crcRun_xor ds zs ds _ _ (by omega) rfl fun i hi => by rw [hz i (by omega)]; simp]
end Go.Proofs.Ytpjmiafefammkaa

/- The rules of operations on 32 bits and on bytes, as functions on bits. No program in sight. -/
namespace Go.Proofs.Ytpjmiafefammkaa
open Go.RowKit
set_option linter.unusedVariables false

theorem u32_of (x : BitVec 32) : BitVec.ofInt 32 (x.toNat : Int) = x := by rw [BitVec.ofInt_natCast]; simp
theorem u32_fit (x : BitVec 32) : IntKind.u32.wrap (x.toNat : Int) = x.toNat := by rw [IntKind.wrap_u32]; have := x.isLt; omega
theorem u8_of (x : BitVec 8) : BitVec.ofInt 8 (x.toNat : Int) = x := by rw [BitVec.ofInt_natCast]; simp
theorem u8_fit (x : BitVec 8) : IntKind.u8.wrap (x.toNat : Int) = x.toNat := by rw [IntKind.wrap_u8]; have := x.isLt; omega
theorem u8_int {z : Int} (h0 : 0 ≤ z) (h1 : z ≤ 255) : ((BitVec.ofInt 8 z).toNat : Int) = z := by
  rw [BitVec.toNat_ofInt]; simp; omega
theorem u32_int {z : Int} (h0 : 0 ≤ z) (h1 : z ≤ 4294967295) : ((BitVec.ofInt 32 z).toNat : Int) = z := by
  rw [BitVec.toNat_ofInt]; simp; omega

section
variable {P : Program} {n : Cx} {fr : Fr} {w : World} {ty : TypeId} {x y z : Operand} {m p : Int} {T T2 : TypeId} {k2 : IntKind}
theorem os_xor32 (a b : BitVec 32) (hx : Fr.ev fr x = some (.int .u32 m)) (hm : m = (a.toNat : Int)) (hy : Fr.ev fr y = some (.int .u32 p)) (hp : p = (b.toNat : Int)) : OS P n (.binOp .xor T x y T2) ty fr w (.int .u32 ((a ^^^ b).toNat : Int)) w :=
  os_xor hx hy (by subst hm; subst hp; show IntKind.u32.wrap ((BitVec.ofInt 32 _ ^^^ BitVec.ofInt 32 _).toNat : Nat) = _; rw [u32_of, u32_of]; exact u32_fit _)
theorem os_and32 (a b : BitVec 32) (hx : Fr.ev fr x = some (.int .u32 m)) (hm : m = (a.toNat : Int)) (hy : Fr.ev fr y = some (.int .u32 p)) (hp : p = (b.toNat : Int)) : OS P n (.binOp .and T x y T2) ty fr w (.int .u32 ((a &&& b).toNat : Int)) w :=
  os_and hx hy (by subst hm; subst hp; show IntKind.u32.wrap ((BitVec.ofInt 32 _ &&& BitVec.ofInt 32 _).toNat : Nat) = _; rw [u32_of, u32_of]; exact u32_fit _)
theorem os_shr32 (a : BitVec 32) (s : Nat) (hx : Fr.ev fr x = some (.int .u32 m)) (hm : m = (a.toNat : Int)) (hy : Fr.ev fr y = some (.int k2 p)) (hp : p = (s : Int)) : OS P n (.binOp .shr T x y T2) ty fr w (.int .u32 ((a >>> s).toNat : Int)) w :=
  os_shr hx hy (by omega) (by
    subst hm; subst hp
    show (a.toNat : Int).fdiv (2 ^ min ((s : Int)).toNat 32) = _
    have e : ((s : Int)).toNat = s := by omega
    rw [e, BitVec.toNat_ushiftRight, Nat.shiftRight_eq_div_pow, Int.fdiv_eq_ediv_of_nonneg _ (by exact_mod_cast Nat.zero_le _)]
    by_cases h : s ≤ 32
    · rw [Nat.min_eq_left h]; simp
    · rw [Nat.min_eq_right (by omega)]
      have h1 : a.toNat / 2 ^ s = 0 := Nat.div_eq_of_lt (Nat.lt_of_lt_of_le a.isLt (Nat.pow_le_pow_right (by omega) (by omega)))
      have h2 : a.toNat / 2 ^ 32 = 0 := Nat.div_eq_of_lt a.isLt
      rw [h1]
      have : ((a.toNat : Int) / 2 ^ 32) = ((a.toNat / 2 ^ 32 : Nat) : Int) := by simp
      rw [this, h2])
theorem os_neg32 (a : BitVec 32) (hx : Fr.ev fr x = some (.int .u32 m)) (hm : m = (a.toNat : Int)) : OS P n (.unOp .neg T x) ty fr w (.int .u32 ((-a).toNat : Int)) w :=
  os_neg hx (by subst hm; rw [IntKind.wrap_u32, BitVec.toNat_neg]; have := a.isLt; simp; omega)
theorem os_com32 (a : BitVec 32) (hx : Fr.ev fr x = some (.int .u32 m)) (hm : m = (a.toNat : Int)) : OS P n (.unOp .xor T x) ty fr w (.int .u32 ((~~~ a).toNat : Int)) w :=
  os_com hx (by
    subst hm
    show IntKind.u32.wrap ((BitVec.ofInt 32 4294967295 ^^^ BitVec.ofInt 32 _).toNat : Nat) = _
    rw [u32_of, show BitVec.ofInt 32 4294967295 = BitVec.allOnes 32 from by decide, BitVec.allOnes_xor]; exact u32_fit _)
theorem os_xor8 (a b : BitVec 8) (hx : Fr.ev fr x = some (.int .u8 m)) (hm : m = (a.toNat : Int)) (hy : Fr.ev fr y = some (.int .u8 p)) (hp : p = (b.toNat : Int)) : OS P n (.binOp .xor T x y T2) ty fr w (.int .u8 ((a ^^^ b).toNat : Int)) w :=
  os_xor hx hy (by subst hm; subst hp; show IntKind.u8.wrap ((BitVec.ofInt 8 _ ^^^ BitVec.ofInt 8 _).toNat : Nat) = _; rw [u8_of, u8_of]; exact u8_fit _)
/-- a byte of 32 bits -/
theorem os_low8 (a : BitVec 32) (h1 : P.underlying T = some (.int .u32)) (h2 : P.underlying T2 = some (.int .u8)) (hx : Fr.ev fr x = some (.int .u32 m)) (hm : m = (a.toNat : Int)) : OS P n (.convert T T2 x) ty fr w (.int .u8 ((a.setWidth 8).toNat : Int)) w :=
  os_conv h1 h2 hx (by subst hm; rw [IntKind.wrap_u8, BitVec.toNat_setWidth]; simp)
end
end Go.Proofs.Ytpjmiafefammkaa
