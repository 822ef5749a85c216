/- Layer 12: the walk of WeighEnds (a closed statement). -/
import Derived.Test.YtmbcflanifoofaaWgD
import Derived.Test.YtmbcflanifoofaaV5
namespace Go.Proofs.Ytmbcflanifoofaa
open Go.RowKit
set_option linter.unusedVariables false

theorem own_rep {w : World} {B : Nat} {t : TypeId} {k : IntKind} {v : Value} {n : Nat} (o : Own w B t v (List.replicate n (Value.int k 0))) : OwnK w B t k v (List.replicate n 0) := by
  unfold OwnK; rw [List.map_replicate]; exact o

def wEnds : List Int := [-1, 0, 1, 2, 65535, 65536, 65537, 1048576, 1048577, -9223372036854775808, 9223372036854775807]
theorem wEnds_in (i : Nat) : I64 (wEnds.getD i 0) := by
  have h : ∀ z ∈ wEnds, I64 z := by unfold I64; decide
  by_cases hi : i < wEnds.length
  · have := h (wEnds[i]) (List.getElem_mem hi)
    simpa [hi] using this
  · have : wEnds.getD i 0 = 0 := by simp [List.getElem?_eq_none (by omega : wEnds.length ≤ i)]
    rw [this]; unfold I64; omega
set_option maxHeartbeats 4000000 in
theorem law12_WeighEnds (w : World) : Gives Try.prog 14 #[] w fun v w' => v = .bool true ∧ Below w.heap.size w w' := by
  refine gives_enter Try.call14 Try.func14 rfl rfl rfl (by kernel_rfl) ?_
  refine v_seq ?_
  refine v_region ?_
  refine vl_val (os_assign rfl) ?_
  refine vl_nil ?_
  refine v_seq ?_
  refine v_region ?_
  refine vl_val (os_lit Try.underlying28 Try.sizeOf3 Try.zeroValue3 rfl rfl rfl rfl (by decide)) ?_
  refine vl_val (os_assign rfl) ?_
  refine vl_nil ?_
  refine v_seq ?_
  refine v_seq ?_
  refine v_region ?_
  refine vl_val (os_assign rfl) ?_
  refine vl_nil ?_
  refine v_block ?_
  refine v_loop [(1, _)] (fun (i : Nat) => [(2, .int .i64 i)]) (fun i w' => i ≤ 11 ∧ Below w.heap.size w w' ∧ Rd w' .i64 (some ⟨w.heap.size, 0, none⟩) wEnds) (fun i => 11 - i) (0) ⟨rfl, trivial⟩ ⟨rfl, trivial⟩ (⟨by omega, (Below.refl _ _).alloc (Nat.le_refl _) _, rd_alloc w .i64 wEnds _⟩) ?_
  rintro i w1 ⟨hi, hb1, r1⟩
  refine v_seq ?_
  refine v_seq ?_
  refine v_region ?_
  refine vl_val (os_move rfl) ?_
  refine vl_val (os_move rfl) ?_
  refine vl_val (os_len Try.underlying28 rfl) ?_
  refine vl_val (os_lss rfl rfl) ?_
  refine vl_nil ?_
  refine v_cond_d rfl (fun hlt => ?_) (fun hlt => ?_)
  · refine v_skip ?_
    refine v_seq ?_
    refine v_block ?_
    refine v_seq ?_
    refine v_region ?_
    refine vl_val (os_assign rfl) ?_
    refine vl_nil ?_
    refine v_block ?_
    refine v_loop [(1, _), (2, _)] (fun (k : Nat) => [(3, .int .i64 k)]) (fun k w' => k ≤ 11 ∧ Below w.heap.size w w' ∧ Rd w' .i64 (some ⟨w.heap.size, 0, none⟩) wEnds) (fun k => 11 - k) (0) ⟨rfl, rfl, trivial⟩ ⟨rfl, trivial⟩ (⟨by omega, hb1, r1⟩) ?_
    rintro k w2 ⟨hk, hb2, r2⟩
    refine v_seq ?_
    refine v_seq ?_
    refine v_region ?_
    refine vl_val (os_move rfl) ?_
    refine vl_val (os_move rfl) ?_
    refine vl_val (os_len Try.underlying28 rfl) ?_
    refine vl_val (os_lss rfl rfl) ?_
    refine vl_nil ?_
    refine v_cond_d rfl (fun hlt2 => ?_) (fun hlt2 => ?_)
    · obtain ⟨ends, hE⟩ : ∃ ends, ends = wEnds := ⟨_, rfl⟩
      rw [← hE] at r2
      have hlE : ends.length = 11 := by rw [hE]; rfl
      obtain ⟨_, _, e1, ci⟩ := r2.at_ (i := i) (by omega)
      cases e1
      obtain ⟨_, _, e1, ck⟩ := r2.at_ (i := k) (by omega)
      cases e1
      have hIi : I64 (ends.getD i 0) := by rw [hE]; exact wEnds_in i
      have hIk : I64 (ends.getD k 0) := by rw [hE]; exact wEnds_in k
      refine v_skip ?_
      refine v_seq ?_
      refine v_block ?_
      refine v_seq ?_
      refine v_region_t LeG _ mixed (by kernel_rfl) lee_g (leg_start _) ?_
      refine vt_val (fun w hw => os_move rfl) ?_
      refine vt_val (fun w hw => os_move rfl) ?_
      refine vt_val (fun w hw => os_ix Try.underlying28 Try.sizeOf3 rfl rfl (i := i) (by omega) (by omega)) ?_
      refine vt_val (fun w hw => os_load Try.isAgg3 rfl (leg_cell hw ci)) ?_
      refine vt_val (fun w hw => os_move rfl) ?_
      refine vt_val (fun w hw => os_move rfl) ?_
      refine vt_val (fun w hw => os_ix Try.underlying28 Try.sizeOf3 rfl rfl (i := k) (by omega) (by omega)) ?_
      refine vt_val (fun w hw => os_load Try.isAgg3 rfl (leg_cell hw ck)) ?_
      refine vt_new (IsRow .i64 [ends.getD k 0]) (isRow_stable _ _) (fun w hw => os_lit Try.underlying28 Try.sizeOf3 Try.zeroValue3 rfl rfl rfl rfl (by decide)) (fun w hw => isRow_lit .i64 _ [ends.getD k 0] _) ?_
      refine vt_new (IsRow .i64 [1]) (isRow_stable _ _) (fun w hw => os_lit Try.underlying28 Try.sizeOf3 Try.zeroValue3 rfl rfl rfl rfl (by decide)) (fun w hw => isRow_lit .i64 _ [1] _) ?_
      refine vt_new (IsRow .i64 [2]) (isRow_stable _ _) (fun w hw => os_lit Try.underlying28 Try.sizeOf3 Try.zeroValue3 rfl rfl rfl rfl (by decide)) (fun w hw => isRow_lit .i64 _ [2] _) ?_
      refine vt_val (fun w hw => os_move rfl) ?_
      refine vt_val (fun w hw => os_move rfl) ?_
      refine vt_val (fun w hw => os_ix Try.underlying28 Try.sizeOf3 rfl rfl (i := i) (by omega) (by omega)) ?_
      refine vt_val (fun w hw => os_load Try.isAgg3 rfl (leg_cell hw ci)) ?_
      refine vt_new (IsRow .i64 [ends.getD i 0, 3, 2]) (isRow_stable _ _) (fun w hw => os_lit Try.underlying28 Try.sizeOf3 Try.zeroValue3 rfl rfl rfl rfl (by decide)) (fun w hw => isRow_lit .i64 _ [ends.getD i 0, 3, 2] _) ?_
      refine vt_calls [(31, _), (32, _), (33, _), (38, _)] (.bool true) ⟨⟨rfl, rfl⟩, ⟨rfl, rfl⟩, ⟨rfl, rfl⟩, ⟨rfl, rfl⟩, trivial⟩ (fun w hw => fun u0 ⟨A0, c0, e0, x0⟩ u1 ⟨A1, c1, e1, x1⟩ u2 ⟨A2, c2, e2, x2⟩ u3 ⟨A3, c3, e3, x3⟩ => ⟨_, rfl, by subst e0 e1 e2 e3; exact law12_WeighDoes (ends.getD i 0) _ _ _ _ _ _ _ _ _ _ _ _ [ends.getD k 0] [1] [2] [ends.getD i 0, 3, 2] w hIi x0 x1 x2 x3 rfl rfl rfl rfl (by simp) (by simp) (by simp) (by simp)⟩) ?_
      refine vt_val (fun w hw => os_not rfl) ?_
      refine vt_val (fun w hw => os_move rfl) ?_
      refine vt_valg rfl (fun w hw => os_move rfl) ?_
      refine vt_valg rfl (fun w hw => os_addi rfl rfl (by omega)) ?_
      refine vt_new (IsRow .i64 [2, 3]) (isRow_stable _ _) (fun w hw => os_lit Try.underlying28 Try.sizeOf3 Try.zeroValue3 rfl rfl rfl rfl (by decide)) (fun w hw => isRow_lit .i64 _ [2, 3] _) ?_
      refine vt_valg rfl (fun w hw => os_move rfl) ?_
      refine vt_valg rfl (fun w hw => os_move rfl) ?_
      refine vt_valg rfl (fun w hw => os_ix Try.underlying28 Try.sizeOf3 rfl rfl (i := i) (by omega) (by omega)) ?_
      refine vt_valg rfl (fun w hw => os_load Try.isAgg3 rfl (leg_cell hw ci)) ?_
      refine vt_valg rfl (fun w hw => os_move rfl) ?_
      refine vt_valg rfl (fun w hw => os_move rfl) ?_
      refine vt_valg rfl (fun w hw => os_ix Try.underlying28 Try.sizeOf3 rfl rfl (i := k) (by omega) (by omega)) ?_
      refine vt_valg rfl (fun w hw => os_load Try.isAgg3 rfl (leg_cell hw ck)) ?_
      refine vt_new (IsRow .i64 [ends.getD i 0, ends.getD k 0]) (isRow_stable _ _) (fun w hw => os_lit Try.underlying28 Try.sizeOf3 Try.zeroValue3 rfl rfl rfl rfl (by decide)) (fun w hw => isRow_lit .i64 _ [ends.getD i 0, ends.getD k 0] _) ?_
      refine vt_new (IsRow .i64 [1, 2]) (isRow_stable _ _) (fun w hw => os_lit Try.underlying28 Try.sizeOf3 Try.zeroValue3 rfl rfl rfl rfl (by decide)) (fun w hw => isRow_lit .i64 _ [1, 2] _) ?_
      refine vt_valg rfl (fun w hw => os_move rfl) ?_
      refine vt_valg rfl (fun w hw => os_move rfl) ?_
      refine vt_valg rfl (fun w hw => os_ix Try.underlying28 Try.sizeOf3 rfl rfl (i := k) (by omega) (by omega)) ?_
      refine vt_valg rfl (fun w hw => os_load Try.isAgg3 rfl (leg_cell hw ck)) ?_
      refine vt_new (IsRow .i64 [9, ends.getD k 0, 1]) (isRow_stable _ _) (fun w hw => os_lit Try.underlying28 Try.sizeOf3 Try.zeroValue3 rfl rfl rfl rfl (by decide)) (fun w hw => isRow_lit .i64 _ [9, ends.getD k 0, 1] _) ?_
      refine vt_calls [(44, _), (53, _), (54, _), (59, _)] (.bool true) ⟨⟨rfl, rfl⟩, ⟨rfl, rfl⟩, ⟨rfl, rfl⟩, ⟨rfl, rfl⟩, trivial⟩ (fun w hw => fun u0 ⟨A0, c0, e0, x0⟩ u1 ⟨A1, c1, e1, x1⟩ u2 ⟨A2, c2, e2, x2⟩ u3 ⟨A3, c3, e3, x3⟩ => ⟨_, rfl, by subst e0 e1 e2 e3; exact law12_WeighDoes (1 + (k : Int)) _ _ _ _ _ _ _ _ _ _ _ _ [2, 3] [ends.getD i 0, ends.getD k 0] [1, 2] [9, ends.getD k 0, 1] w ⟨by omega, by omega⟩ x0 x1 x2 x3 rfl rfl rfl rfl (by simp) (by simp) (by simp) (by simp)⟩) ?_
      refine vt_valg rfl (fun w hw => os_not rfl) ?_
      refine vt_val (fun w hw => os_pick_f rfl rfl) ?_
      refine vt_nil (fun Hw H => ?_)
      intro u8 hu8 u7 hu7 u6 hu6 u5 hu5 u4 hu4 u3 hu3 u2 hu2 u1 hu1
      refine v_cond_f rfl ?_
      refine v_skip ?_
      refine v_region ?_
      refine vl_val (os_move rfl) ?_
      refine vl_val (os_addi rfl rfl (by omega)) ?_
      refine vl_val (os_assign rfl) ?_
      refine vl_nil ?_
      exact ⟨k + 1, ⟨rfl, rfl, trivial⟩, ⟨rfl, trivial⟩, ⟨by omega, hb2.trans (H.mono hb2.size), hE ▸ r2.keep H⟩, by dsimp only; omega⟩
    · refine v_exit ?_
      refine v_region ?_
      refine vl_val (os_move rfl) ?_
      refine vl_val (os_addi rfl rfl (by omega)) ?_
      refine vl_val (os_assign rfl) ?_
      refine vl_nil ?_
      exact ⟨i + 1, ⟨rfl, trivial⟩, ⟨rfl, trivial⟩, ⟨by omega, hb2, r2⟩, by dsimp only; omega⟩
  · refine v_exit ?_
    refine v_seq ?_
    refine v_seq ?_
    refine v_region ?_
    refine vl_val (os_assign rfl) ?_
    refine vl_nil ?_
    refine v_block ?_
    refine v_loop [] (fun (m : Nat) => [(4, .int .i64 m)]) (fun m w' => m ≤ 729 ∧ Below w.heap.size w w') (fun m => 729 - m) (0) trivial ⟨rfl, trivial⟩ (⟨by omega, hb1⟩) ?_
    rintro m w3 ⟨hm, hb3⟩
    refine v_seq ?_
    refine v_seq ?_
    refine v_region ?_
    refine vl_val (os_move rfl) ?_
    refine vl_val (os_lss rfl rfl) ?_
    refine vl_nil ?_
    refine v_cond_d rfl (fun hlt3 => ?_) (fun hlt3 => ?_)
    · have rA := rd_alloc w3 .i64 [1 + (m : Int) % 3, 1 + (m : Int) / 3 % 3, 1 + (m : Int) / 9 % 3] 3
      obtain ⟨wA, hwA⟩ : ∃ wA, wA = w3.alloc (.cells ([1 + (m : Int) % 3, 1 + (m : Int) / 3 % 3, 1 + (m : Int) / 9 % 3].map (Value.int .i64)).toArray 3) := ⟨_, rfl⟩
      have rB := rd_alloc wA .i64 [1 + (m : Int) / 27 % 3, 1 + (m : Int) / 81 % 3, 1 + (m : Int) / 243] 3
      obtain ⟨wB, hwB⟩ : ∃ wB, wB = wA.alloc (.cells ([1 + (m : Int) / 27 % 3, 1 + (m : Int) / 81 % 3, 1 + (m : Int) / 243].map (Value.int .i64)).toArray 3) := ⟨_, rfl⟩
      have rC := rd_alloc wB .i64 [1, 2, 1] 3
      obtain ⟨wC, hwC⟩ : ∃ wC, wC = wB.alloc (.cells ([1, 2, 1].map (Value.int .i64)).toArray 3) := ⟨_, rfl⟩
      have rD := rd_alloc wC .i64 [7, 5, 5, 3] 3
      have bA : Below w3.heap.size w3 wA := hwA ▸ ((Below.refl _ _).alloc (Nat.le_refl _) _)
      have bB : Below wA.heap.size wA wB := hwB ▸ ((Below.refl _ _).alloc (Nat.le_refl _) _)
      have bC : Below wB.heap.size wB wC := hwC ▸ ((Below.refl _ _).alloc (Nat.le_refl _) _)
      have bD : Below wC.heap.size wC (wC.alloc (.cells ([7, 5, 5, 3].map (Value.int .i64)).toArray 3)) := ((Below.refl _ _).alloc (Nat.le_refl _) _)
      have b3D := hb3.trans ((bA.trans ((bB.trans ((bC.trans (bD.mono bC.size)).mono bB.size)).mono bA.size)).mono hb3.size)
      subst hwC
      subst hwB
      subst hwA
      refine v_skip ?_
      refine v_seq ?_
      refine v_block ?_
      refine v_seq ?_
      refine v_region ?_
      refine vl_val (os_move rfl) ?_
      refine vl_val (os_remi rfl rfl (by omega)) ?_
      refine vl_val (os_addi rfl rfl (by omega)) ?_
      refine vl_val (os_move rfl) ?_
      refine vl_val (os_quoi rfl rfl (by omega)) ?_
      refine vl_val (os_remi rfl rfl (by omega)) ?_
      refine vl_val (os_addi rfl rfl (by omega)) ?_
      refine vl_val (os_move rfl) ?_
      refine vl_val (os_quoi rfl rfl (by omega)) ?_
      refine vl_val (os_remi rfl rfl (by omega)) ?_
      refine vl_val (os_addi rfl rfl (by omega)) ?_
      refine vl_val (os_lit Try.underlying28 Try.sizeOf3 Try.zeroValue3 rfl rfl rfl rfl (by decide)) ?_
      refine vl_val (os_assign rfl) ?_
      refine vl_nil ?_
      refine v_seq ?_
      refine v_region ?_
      refine vl_val (os_move rfl) ?_
      refine vl_val (os_quoi rfl rfl (by omega)) ?_
      refine vl_val (os_remi rfl rfl (by omega)) ?_
      refine vl_val (os_addi rfl rfl (by omega)) ?_
      refine vl_val (os_move rfl) ?_
      refine vl_val (os_quoi rfl rfl (by omega)) ?_
      refine vl_val (os_remi rfl rfl (by omega)) ?_
      refine vl_val (os_addi rfl rfl (by omega)) ?_
      refine vl_val (os_move rfl) ?_
      refine vl_val (os_quoi rfl rfl (by omega)) ?_
      refine vl_val (os_addi rfl rfl (by omega)) ?_
      refine vl_val (os_lit Try.underlying28 Try.sizeOf3 Try.zeroValue3 rfl rfl rfl rfl (by decide)) ?_
      refine vl_val (os_assign rfl) ?_
      refine vl_nil ?_
      refine v_seq ?_
      refine v_region ?_
      refine vl_val (os_move rfl) ?_
      refine vl_val (os_remi rfl rfl (by omega)) ?_
      refine vl_val (os_subi rfl rfl (by omega)) ?_
      refine vl_val (os_lit Try.underlying28 Try.sizeOf3 Try.zeroValue3 rfl rfl rfl rfl (by decide)) ?_
      refine vl_val (os_move rfl) ?_
      refine vl_val (os_move rfl) ?_
      refine vl_val (os_lit Try.underlying28 Try.sizeOf3 Try.zeroValue3 rfl rfl rfl rfl (by decide)) ?_
      refine vl_call ((law12_WeighDoes ((m : Int) % 260 - 2) _ _ _ _ _ _ _ _ _ _ _ _ [1, 2, 1] [1 + (m : Int) % 3, 1 + (m : Int) / 3 % 3, 1 + (m : Int) / 9 % 3] [1 + (m : Int) / 27 % 3, 1 + (m : Int) / 81 % 3, 1 + (m : Int) / 243] [7, 5, 5, 3] _ ⟨by omega, by omega⟩ (rC.keep bD) (((rA.keep bB).keep bC).keep bD) ((rB.keep bC).keep bD) rD rfl rfl rfl rfl (by simp) (by simp) (by simp) (by simp))) rfl ?_
      rintro v4 w4 ⟨rfl, hb4⟩
      have rA4 := (((rA.keep bB).keep bC).keep bD).keep hb4
      have rB4 := (((rB.keep bC).keep bD).keep hb4).take (m % 4)
      have b34 := b3D.trans (hb4.mono b3D.size)
      have rE := rd_alloc w4 .i64 [0, 0, 0] 3
      obtain ⟨wE, hwE⟩ : ∃ wE, wE = w4.alloc (.cells ([0, 0, 0].map (Value.int .i64)).toArray 3) := ⟨_, rfl⟩
      have rF := rd_alloc wE .i64 [7, 6, 5, 4 + (m : Int) % 4] 3
      have bE : Below w4.heap.size w4 wE := hwE ▸ ((Below.refl _ _).alloc (Nat.le_refl _) _)
      have bF : Below wE.heap.size wE (wE.alloc (.cells ([7, 6, 5, 4 + (m : Int) % 4].map (Value.int .i64)).toArray 3)) := ((Below.refl _ _).alloc (Nat.le_refl _) _)
      have b4F := b34.trans ((bE.trans (bF.mono bE.size)).mono b34.size)
      subst hwE
      refine vl_val (os_not rfl) ?_
      refine vl_val (os_move rfl) ?_
      refine vl_valg rfl (os_lit Try.underlying28 Try.sizeOf3 Try.zeroValue3 rfl rfl rfl rfl (by decide)) ?_
      refine vl_valg rfl (os_move rfl) ?_
      refine vl_valg rfl (os_move rfl) ?_
      refine vl_valg rfl (os_move rfl) ?_
      refine vl_valg rfl (os_remi rfl rfl (by omega)) ?_
      refine vl_valg rfl (os_slice_h Try.underlying28 Try.sizeOf3 rfl rfl (h := m % 4) (by omega) (by omega)) ?_
      refine vl_valg rfl (os_move rfl) ?_
      refine vl_valg rfl (os_remi rfl rfl (by omega)) ?_
      refine vl_valg rfl (os_addi rfl rfl (by omega)) ?_
      refine vl_valg rfl (os_lit Try.underlying28 Try.sizeOf3 Try.zeroValue3 rfl rfl rfl rfl (by decide)) ?_
      refine vl_callg rfl ((law12_WeighDoes 3 _ _ _ _ _ _ _ _ _ _ _ _ [0, 0, 0] [1 + (m : Int) % 3, 1 + (m : Int) / 3 % 3, 1 + (m : Int) / 9 % 3] (List.take (m % 4) [1 + (m : Int) / 27 % 3, 1 + (m : Int) / 81 % 3, 1 + (m : Int) / 243]) [7, 6, 5, 4 + (m : Int) % 4] _ ⟨by omega, by omega⟩ (rE.keep bF) ((rA4.keep bE).keep bF) ((rB4.keep bE).keep bF) rF rfl rfl (by simp; omega) rfl (by simp) (by simp) (by omega) (by simp))) rfl ?_
      rintro v5 w5 ⟨rfl, hb5⟩
      refine vl_valg rfl (os_not rfl) ?_
      refine vl_val (os_pick_f rfl rfl) ?_
      refine vl_nil ?_
      refine v_cond_f rfl ?_
      refine v_skip ?_
      refine v_region ?_
      refine vl_val (os_move rfl) ?_
      refine vl_val (os_addi rfl rfl (by omega)) ?_
      refine vl_val (os_assign rfl) ?_
      refine vl_nil ?_
      exact ⟨m + 1, trivial, ⟨rfl, trivial⟩, ⟨by omega, b4F.trans (hb5.mono b4F.size)⟩, by dsimp only; omega⟩
    · refine v_exit ?_
      refine v_seq ?_
      refine v_region ?_
      refine vl_some (ot_make (l := 9) Try.underlying28 ti_int rfl rfl rfl rfl rfl (by omega) (by simp [maxLen]) w3.heap.size (Nat.le_refl _)) ?_
      rintro v7 w7 ⟨rfl, o7, g7⟩
      have b7 : Below w3.heap.size w3 w7 := (Below.refl _ _).grown g7 (Nat.le_refl _) (fun k hk => by cases hk)
      have R7 := OwnK.rd (own_rep o7)
      have R8 := rd_alloc w7 .i64 [1, 1, 1, 1, 1, 1, 1, 1, 1] 3
      have b8 : Below w7.heap.size w7 (w7.alloc (.cells ([1, 1, 1, 1, 1, 1, 1, 1, 1].map (Value.int .i64)).toArray 3)) := ((Below.refl _ _).alloc (Nat.le_refl _) _)
      refine vl_val (os_assign rfl) ?_
      refine vl_nil ?_
      refine v_seq ?_
      refine v_region ?_
      refine vl_val (os_lit Try.underlying28 Try.sizeOf3 Try.zeroValue3 rfl rfl rfl rfl (by decide)) ?_
      refine vl_val (os_assign rfl) ?_
      refine vl_nil ?_
      refine v_seq ?_
      refine v_region ?_
      refine vl_some (ot_make (l := 257) Try.underlying28 ti_int rfl rfl rfl rfl rfl (by omega) (by simp [maxLen]) (w7.alloc (.cells ([1, 1, 1, 1, 1, 1, 1, 1, 1].map (Value.int .i64)).toArray 3)).heap.size (Nat.le_refl _)) ?_
      rintro v9 w9 ⟨rfl, o9, g9⟩
      have b9 : Below (w7.alloc (.cells ([1, 1, 1, 1, 1, 1, 1, 1, 1].map (Value.int .i64)).toArray 3)).heap.size (w7.alloc (.cells ([1, 1, 1, 1, 1, 1, 1, 1, 1].map (Value.int .i64)).toArray 3)) w9 := (Below.refl _ _).grown g9 (Nat.le_refl _) (fun k hk => by cases hk)
      have R9 := OwnK.rd (own_rep o9)
      have R7 := (R7.keep b8).keep b9
      have R8 := R8.keep b9
      have b39 := hb3.trans ((b7.trans ((b8.trans (b9.mono b8.size)).mono b7.size)).mono hb3.size)
      refine vl_val (os_assign rfl) ?_
      refine vl_nil ?_
      refine v_seq ?_
      refine v_region_t LeG _ mixed (by kernel_rfl) lee_g (leg_start _) ?_
      refine vt_val (fun w hw => os_move rfl) ?_
      refine vt_val (fun w hw => os_move rfl) ?_
      refine vt_val (fun w hw => os_move rfl) ?_
      refine vt_new (IsRow .i64 [1, 1]) (isRow_stable _ _) (fun w hw => os_lit Try.underlying28 Try.sizeOf3 Try.zeroValue3 rfl rfl rfl rfl (by decide)) (fun w hw => isRow_lit .i64 _ [1, 1] _) ?_
      refine vt_calls [(120, _)] (.bool true) ⟨⟨rfl, rfl⟩, trivial⟩ (fun w hw => fun u0 ⟨A0, c0, e0, x0⟩ => ⟨_, rfl, by subst e0; exact law12_WeighDoes 8 _ _ _ _ _ _ _ _ _ _ _ _ (List.replicate 9 0) [1, 1, 1, 1, 1, 1, 1, 1, 1] [1, 1, 1, 1, 1, 1, 1, 1, 1] [1, 1] w ⟨by omega, by omega⟩ (R7.keep hw) (R8.keep hw) (R8.keep hw) x0 rfl rfl rfl rfl (by simp) (by simp) (by simp) (by simp)⟩) ?_
      refine vt_val (fun w hw => os_move rfl) ?_
      refine vt_valg rfl (fun w hw => os_move rfl) ?_
      refine vt_valg rfl (fun w hw => os_slice_h Try.underlying28 Try.sizeOf3 rfl rfl (h := 8) (by omega) (by omega)) ?_
      refine vt_valg rfl (fun w hw => os_move rfl) ?_
      refine vt_valg rfl (fun w hw => os_slice_h Try.underlying28 Try.sizeOf3 rfl rfl (h := 8) (by omega) (by omega)) ?_
      refine vt_valg rfl (fun w hw => os_move rfl) ?_
      refine vt_valg rfl (fun w hw => os_slice_h Try.underlying28 Try.sizeOf3 rfl rfl (h := 8) (by omega) (by omega)) ?_
      refine vt_new (IsRow .i64 [1, 1]) (isRow_stable _ _) (fun w hw => os_lit Try.underlying28 Try.sizeOf3 Try.zeroValue3 rfl rfl rfl rfl (by decide)) (fun w hw => isRow_lit .i64 _ [1, 1] _) ?_
      refine vt_calls [(129, _)] (.bool true) ⟨⟨rfl, rfl⟩, trivial⟩ (fun w hw => fun u0 ⟨A0, c0, e0, x0⟩ => ⟨_, rfl, by subst e0; exact law12_WeighDoes 8 _ _ _ _ _ _ _ _ _ _ _ _ (List.take 8 (List.replicate 9 0)) (List.take 8 [1, 1, 1, 1, 1, 1, 1, 1, 1]) (List.take 8 [1, 1, 1, 1, 1, 1, 1, 1, 1]) [1, 1] w ⟨by omega, by omega⟩ ((R7.take 8).keep hw) ((R8.take 8).keep hw) ((R8.take 8).keep hw) x0 rfl rfl rfl rfl (by simp) (by simp) (by simp) (by simp)⟩) ?_
      refine vt_val (fun w hw => os_pick_t rfl rfl) ?_
      refine vt_val (fun w hw => os_move rfl) ?_
      refine vt_valg rfl (fun w hw => os_move rfl) ?_
      refine vt_valg rfl (fun w hw => os_slice_h Try.underlying28 Try.sizeOf3 rfl rfl (h := 256) (by omega) (by omega)) ?_
      refine vt_callg rfl (v := .bool true) (fun w hw => law12_WeighDoes 255 _ _ _ _ _ _ _ _ _ _ _ _ [] [] [] (List.take 256 (List.replicate 257 0)) w ⟨by omega, by omega⟩ Rd.nil Rd.nil Rd.nil ((R9.take 256).keep hw) rfl rfl rfl (by rw [List.length_take, List.length_replicate] <;> omega) (by simp) (by simp) (by simp) (by simp)) rfl ?_
      refine vt_val (fun w hw => os_pick_t rfl rfl) ?_
      refine vt_val (fun w hw => os_move rfl) ?_
      refine vt_valg rfl (fun w hw => os_move rfl) ?_
      refine vt_callg rfl (v := .bool true) (fun w hw => law12_WeighDoes 256 _ _ _ _ _ _ _ _ _ _ _ _ [] [] [] (List.replicate 257 0) w ⟨by omega, by omega⟩ Rd.nil Rd.nil Rd.nil (R9.keep hw) rfl rfl rfl (by rw [List.length_replicate]) (by simp) (by simp) (by simp) (by simp)) rfl ?_
      refine vt_val (fun w hw => os_pick_t rfl rfl) ?_
      refine vt_val (fun w hw => os_move rfl) ?_
      refine vt_new (IsRow .i64 [5]) (isRow_stable _ _) (fun w hw => os_lit Try.underlying28 Try.sizeOf3 Try.zeroValue3 rfl rfl rfl rfl (by decide)) (fun w hw => isRow_lit .i64 _ [5] _) ?_
      refine vt_calls [(142, _)] (.bool true) ⟨⟨rfl, rfl⟩, trivial⟩ (fun w hw => fun u0 ⟨A0, c0, e0, x0⟩ => ⟨_, rfl, by subst e0; exact law12_WeighDoes 0 _ _ _ _ _ _ _ _ _ _ _ _ [] [] [] [5] w ⟨by omega, by omega⟩ Rd.nil Rd.nil Rd.nil x0 rfl rfl rfl rfl (by simp) (by simp) (by simp) (by simp)⟩) ?_
      refine vt_val (fun w hw => os_pick_t rfl rfl) ?_
      refine vt_val (fun w hw => os_move rfl) ?_
      refine vt_callg rfl (v := .bool true) (fun w hw => law12_WeighDoes 0 _ _ _ _ _ _ _ _ _ _ _ _ [] [] [] [] w ⟨by omega, by omega⟩ Rd.nil Rd.nil Rd.nil Rd.nil rfl rfl rfl rfl (by simp) (by simp) (by simp) (by simp)) rfl ?_
      refine vt_val (fun w hw => os_pick_t rfl rfl) ?_
      refine vt_val (fun w hw => os_move rfl) ?_
      refine vt_callg rfl (v := .bool true) (fun w hw => law12_awake w) rfl ?_
      refine vt_val (fun w hw => os_pick_t rfl rfl) ?_
      refine vt_val (fun w hw => os_assign rfl) ?_
      refine vt_nil (fun Hw H => ?_)
      intro u3 hu3 u2 hu2 u1 hu1
      refine v_ret ?_
      exact post_ret rfl rfl (⟨rfl, b39.trans (H.mono b39.size)⟩)
end Go.Proofs.Ytmbcflanifoofaa
