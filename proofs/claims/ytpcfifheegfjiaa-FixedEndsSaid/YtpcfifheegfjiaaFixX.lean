/- Layer 23: the walk of FixedEnds (a closed statement). -/
import Derived.Test.YtpcfifheegfjiaaFixR
import Derived.Test.YtpcfifheegfjiaaV5
namespace Go.Proofs.Ytpcfifheegfjiaa
open Go.RowKit
set_option linter.unusedVariables false

theorem own_rep0 {w : World} {B : Nat} {t : TypeId} {k : IntKind} {v : Value} {n : Nat} (o : Own w B t v (List.replicate n (Value.int k 0))) : OwnK w B t k v (List.replicate n 0) := by
  unfold OwnK; rw [List.map_replicate]; exact o
theorem g_FixedParts (a b : Int) (w : World) (ha : I64 a) (hb : I64 b) : Gives Try.prog 4 #[.int .i64 a, .int .i64 b] w fun v w' => v = .bool true ∧ Below w.heap.size w w' :=
  gives_of Try.call4 (law23_FixedParts a b w ha hb) fun e w' ⟨h1, h2⟩ => ⟨_, h1, rfl, h2⟩
def fEnds : List Int := [-9223372036854775808, -1, 0, 1, 2, 7, 8, 9, 65527, 65528, 65535, 65536, 65537, 2147483646, 2147483647, 2147483648, 9223372036854775807]
theorem fEnds_in (i : Nat) : I64 (fEnds.getD i 0) := by
  have h : ∀ z ∈ fEnds, I64 z := by unfold I64; decide
  by_cases hi : i < fEnds.length
  · have := h (fEnds[i]) (List.getElem_mem hi)
    simpa [hi] using this
  · have : fEnds.getD i 0 = 0 := by simp [List.getElem?_eq_none (by omega : fEnds.length ≤ i)]
    rw [this]; unfold I64; omega
theorem allI_set {zs : List Int} {i : Nat} {z : Int} (h : AllI zs) (hz : I64 z) : AllI (zs.set i z) := fun x hx => by
  rcases List.mem_or_eq_of_mem_set hx with h1 | h1
  · exact h x h1
  · rw [h1]; exact hz
theorem allI_rep (n : Nat) : AllI (List.replicate n 0) := fun z hz => by rw [List.eq_of_mem_replicate hz]; unfold I64; omega
theorem AllI.take {zs : List Int} (h : AllI zs) (n : Nat) : AllI (zs.take n) := fun z hz => h z (List.mem_of_mem_take hz)
set_option maxHeartbeats 4000000 in
theorem law23_FixedEnds (w : World) : Gives Try.prog 8 #[] w fun v w' => v = .bool true ∧ Below w.heap.size w w' := by
  refine gives_enter Try.call8 Try.func8 rfl rfl rfl (by kernel_rfl) ?_
  refine v_seq ?_
  refine v_region ?_
  refine vl_val (os_assign rfl) ?_
  refine vl_nil ?_
  refine v_seq ?_
  refine v_region ?_
  refine vl_val (os_lit Try.underlying37 Try.sizeOf3 Try.zeroValue3 rfl rfl rfl rfl (by decide)) ?_
  refine vl_val (os_assign rfl) ?_
  refine vl_nil ?_
  refine v_seq ?_
  refine v_seq ?_
  refine v_region ?_
  refine vl_val (os_assign rfl) ?_
  refine vl_nil ?_
  refine v_block ?_
  refine v_loop [(1, _)] (fun (i : Nat) => [(2, .int .i64 i)]) (fun i w' => i ≤ 17 ∧ Below w.heap.size w w' ∧ Rd w' .i64 (some ⟨w.heap.size, 0, none⟩) fEnds) (fun i => 17 - i) (0) ⟨rfl, trivial⟩ ⟨rfl, trivial⟩ (⟨by omega, (Below.refl _ _).alloc (Nat.le_refl _) _, rd_alloc w .i64 fEnds _⟩) ?_
  rintro i w1 ⟨hi, hb1, r1⟩
  refine v_seq ?_
  refine v_seq ?_
  refine v_region ?_
  refine vl_val (os_move rfl) ?_
  refine vl_val (os_move rfl) ?_
  refine vl_val (os_len Try.underlying37 rfl) ?_
  refine vl_val (os_lss rfl rfl) ?_
  refine vl_nil ?_
  refine v_cond_d rfl (fun hlt => ?_) (fun hlt => ?_)
  · refine v_skip ?_
    refine v_seq ?_
    refine v_block ?_
    refine v_seq ?_
    refine v_region ?_
    refine vl_val (os_assign rfl) ?_
    refine vl_nil ?_
    refine v_block ?_
    refine v_loop [(1, _), (2, _)] (fun (k : Nat) => [(3, .int .i64 k)]) (fun k w' => k ≤ 17 ∧ Below w.heap.size w w' ∧ Rd w' .i64 (some ⟨w.heap.size, 0, none⟩) fEnds) (fun k => 17 - k) (0) ⟨rfl, rfl, trivial⟩ ⟨rfl, trivial⟩ (⟨by omega, hb1, r1⟩) ?_
    rintro k w2 ⟨hk, hb2, r2⟩
    refine v_seq ?_
    refine v_seq ?_
    refine v_region ?_
    refine vl_val (os_move rfl) ?_
    refine vl_val (os_move rfl) ?_
    refine vl_val (os_len Try.underlying37 rfl) ?_
    refine vl_val (os_lss rfl rfl) ?_
    refine vl_nil ?_
    refine v_cond_d rfl (fun hlt2 => ?_) (fun hlt2 => ?_)
    · obtain ⟨ends, hE⟩ : ∃ ends, ends = fEnds := ⟨_, rfl⟩
      rw [← hE] at r2
      have hlE : ends.length = 17 := by rw [hE]; rfl
      obtain ⟨_, _, e1, ci⟩ := r2.at_ (i := i) (by omega)
      cases e1
      obtain ⟨_, _, e1, ck⟩ := r2.at_ (i := k) (by omega)
      cases e1
      have hIi : I64 (ends.getD i 0) := by rw [hE]; exact fEnds_in i
      have hIk : I64 (ends.getD k 0) := by rw [hE]; exact fEnds_in k
      have hA1 : AllI [ends.getD i 0, ends.getD k 0] := fun z hz => by simp only [List.mem_cons, List.not_mem_nil, or_false] at hz; rcases hz with rfl | rfl <;> assumption
      have hA2 : AllI [ends.getD k 0, 5] := fun z hz => by simp only [List.mem_cons, List.not_mem_nil, or_false] at hz; rcases hz with rfl | rfl; assumption; unfold I64; omega
      have hA3 : AllI [ends.getD i 0] := fun z hz => by simp only [List.mem_cons, List.not_mem_nil, or_false] at hz; rcases hz with rfl; assumption
      have hA4 : AllI [ends.getD k 0] := fun z hz => by simp only [List.mem_cons, List.not_mem_nil, or_false] at hz; rcases hz with rfl; assumption
      refine v_skip ?_
      refine v_seq ?_
      refine v_block ?_
      refine v_seq ?_
      refine v_region_t LeG _ mixed (by kernel_rfl) lee_g (leg_start _) ?_
      refine vt_val (fun w hw => os_move rfl) ?_
      refine vt_val (fun w hw => os_move rfl) ?_
      refine vt_val (fun w hw => os_ix Try.underlying37 Try.sizeOf3 rfl rfl (i := i) (by omega) (by omega)) ?_
      refine vt_val (fun w hw => os_load Try.isAgg3 rfl (leg_cell hw ci)) ?_
      refine vt_val (fun w hw => os_move rfl) ?_
      refine vt_val (fun w hw => os_move rfl) ?_
      refine vt_val (fun w hw => os_ix Try.underlying37 Try.sizeOf3 rfl rfl (i := k) (by omega) (by omega)) ?_
      refine vt_val (fun w hw => os_load Try.isAgg3 rfl (leg_cell hw ck)) ?_
      refine vt_call (v := .bool true) (fun w hw => g_FixedParts (ends.getD i 0) (ends.getD k 0) w hIi hIk) rfl ?_
      refine vt_val (fun w hw => os_not rfl) ?_
      refine vt_val (fun w hw => os_move rfl) ?_
      refine vt_valg rfl (fun w hw => os_move rfl) ?_
      refine vt_valg rfl (fun w hw => os_move rfl) ?_
      refine vt_valg rfl (fun w hw => os_ix Try.underlying37 Try.sizeOf3 rfl rfl (i := i) (by omega) (by omega)) ?_
      refine vt_valg rfl (fun w hw => os_load Try.isAgg3 rfl (leg_cell hw ci)) ?_
      refine vt_valg rfl (fun w hw => os_move rfl) ?_
      refine vt_valg rfl (fun w hw => os_move rfl) ?_
      refine vt_valg rfl (fun w hw => os_ix Try.underlying37 Try.sizeOf3 rfl rfl (i := k) (by omega) (by omega)) ?_
      refine vt_valg rfl (fun w hw => os_load Try.isAgg3 rfl (leg_cell hw ck)) ?_
      refine vt_new (IsRow .i64 [ends.getD i 0, ends.getD k 0]) (isRow_stable _ _) (fun w hw => os_lit Try.underlying37 Try.sizeOf3 Try.zeroValue3 rfl rfl rfl rfl (by decide)) (fun w hw => isRow_lit .i64 _ [ends.getD i 0, ends.getD k 0] _) ?_
      refine vt_valg rfl (fun w hw => os_move rfl) ?_
      refine vt_valg rfl (fun w hw => os_move rfl) ?_
      refine vt_valg rfl (fun w hw => os_ix Try.underlying37 Try.sizeOf3 rfl rfl (i := k) (by omega) (by omega)) ?_
      refine vt_valg rfl (fun w hw => os_load Try.isAgg3 rfl (leg_cell hw ck)) ?_
      refine vt_new (IsRow .i64 [ends.getD k 0, 5]) (isRow_stable _ _) (fun w hw => os_lit Try.underlying37 Try.sizeOf3 Try.zeroValue3 rfl rfl rfl rfl (by decide)) (fun w hw => isRow_lit .i64 _ [ends.getD k 0, 5] _) ?_
      refine vt_calls [(41, _), (46, _)] (.bool true) ⟨⟨rfl, rfl⟩, ⟨rfl, rfl⟩, trivial⟩ (fun w hw => fun u0 ⟨A0, c0, e0, x0⟩ u1 ⟨A1, c1, e1, x1⟩ => ⟨_, rfl, by subst e0 e1; exact law23_FixedRows _ _ _ _ _ _ [ends.getD i 0, ends.getD k 0] [ends.getD k 0, 5] w x0 x1 rfl rfl (by simp) (by simp) hA1 hA2⟩) ?_
      refine vt_valg rfl (fun w hw => os_not rfl) ?_
      refine vt_val (fun w hw => os_pick_f rfl rfl) ?_
      refine vt_val (fun w hw => os_move rfl) ?_
      refine vt_valg rfl (fun w hw => os_move rfl) ?_
      refine vt_valg rfl (fun w hw => os_move rfl) ?_
      refine vt_valg rfl (fun w hw => os_ix Try.underlying37 Try.sizeOf3 rfl rfl (i := i) (by omega) (by omega)) ?_
      refine vt_valg rfl (fun w hw => os_load Try.isAgg3 rfl (leg_cell hw ci)) ?_
      refine vt_new (IsRow .i64 [ends.getD i 0]) (isRow_stable _ _) (fun w hw => os_lit Try.underlying37 Try.sizeOf3 Try.zeroValue3 rfl rfl rfl rfl (by decide)) (fun w hw => isRow_lit .i64 _ [ends.getD i 0] _) ?_
      refine vt_valg rfl (fun w hw => os_move rfl) ?_
      refine vt_valg rfl (fun w hw => os_move rfl) ?_
      refine vt_valg rfl (fun w hw => os_ix Try.underlying37 Try.sizeOf3 rfl rfl (i := k) (by omega) (by omega)) ?_
      refine vt_valg rfl (fun w hw => os_load Try.isAgg3 rfl (leg_cell hw ck)) ?_
      refine vt_new (IsRow .i64 [ends.getD k 0]) (isRow_stable _ _) (fun w hw => os_lit Try.underlying37 Try.sizeOf3 Try.zeroValue3 rfl rfl rfl rfl (by decide)) (fun w hw => isRow_lit .i64 _ [ends.getD k 0] _) ?_
      refine vt_calls [(55, _), (60, _)] (.bool true) ⟨⟨rfl, rfl⟩, ⟨rfl, rfl⟩, trivial⟩ (fun w hw => fun u0 ⟨A0, c0, e0, x0⟩ u1 ⟨A1, c1, e1, x1⟩ => ⟨_, rfl, by subst e0 e1; exact law23_FixedRows _ _ _ _ _ _ [ends.getD i 0] [ends.getD k 0] w x0 x1 rfl rfl (by simp) (by simp) hA3 hA4⟩) ?_
      refine vt_valg rfl (fun w hw => os_not rfl) ?_
      refine vt_val (fun w hw => os_pick_f rfl rfl) ?_
      refine vt_nil (fun Hw H => ?_)
      intro u4 hu4 u3 hu3 u2 hu2 u1 hu1
      refine v_cond_f rfl ?_
      refine v_skip ?_
      refine v_region ?_
      refine vl_val (os_move rfl) ?_
      refine vl_val (os_addi rfl rfl (by omega)) ?_
      refine vl_val (os_assign rfl) ?_
      refine vl_nil ?_
      exact ⟨k + 1, ⟨rfl, rfl, trivial⟩, ⟨rfl, trivial⟩, ⟨by omega, hb2.trans (H.mono hb2.size), hE ▸ r2.keep H⟩, by dsimp only; omega⟩
    · refine v_exit ?_
      refine v_region ?_
      refine vl_val (os_move rfl) ?_
      refine vl_val (os_addi rfl rfl (by omega)) ?_
      refine vl_val (os_assign rfl) ?_
      refine vl_nil ?_
      exact ⟨i + 1, ⟨rfl, trivial⟩, ⟨rfl, trivial⟩, ⟨by omega, hb2, r2⟩, by dsimp only; omega⟩
  · refine v_exit ?_
    refine v_seq ?_
    refine v_seq ?_
    refine v_region ?_
    refine vl_val (os_assign rfl) ?_
    refine vl_nil ?_
    refine v_block ?_
    refine v_loop [] (fun (m : Nat) => [(4, .int .i64 m)]) (fun m w' => m ≤ 600 ∧ Below w.heap.size w w') (fun m => 600 - m) (0) trivial ⟨rfl, trivial⟩ (⟨by omega, hb1⟩) ?_
    rintro m w3 ⟨hm, hb3⟩
    refine v_seq ?_
    refine v_seq ?_
    refine v_region ?_
    refine vl_val (os_move rfl) ?_
    refine vl_val (os_lss rfl rfl) ?_
    refine vl_nil ?_
    refine v_cond_d rfl (fun hlt3 => ?_) (fun hlt3 => ?_)
    · refine v_skip ?_
      refine v_seq ?_
      refine v_block ?_
      refine v_seq ?_
      refine v_region ?_
      refine vl_val (os_move rfl) ?_
      refine vl_val (os_remi rfl rfl (by omega)) ?_
      refine vl_val (os_move rfl) ?_
      refine vl_val (os_quoi rfl rfl (by omega)) ?_
      refine vl_call (g_FixedParts ((m : Int) % 40) ((m : Int) / 40) w3 (by unfold I64; omega) (by unfold I64; omega)) rfl ?_
      rintro v4 w4 ⟨rfl, hb4⟩
      refine vl_val (os_not rfl) ?_
      refine vl_val (os_move rfl) ?_
      refine vl_valg rfl (os_move rfl) ?_
      refine vl_valg rfl (os_remi rfl rfl (by omega)) ?_
      refine vl_valg rfl (os_subi rfl rfl (by omega)) ?_
      refine vl_valg rfl (os_move rfl) ?_
      refine vl_valg rfl (os_quoi rfl rfl (by omega)) ?_
      refine vl_valg rfl (os_subi rfl rfl (by omega)) ?_
      refine vl_callg rfl (g_FixedParts (65536 - (m : Int) % 40) (65536 - (m : Int) / 40) w4 (by unfold I64; omega) (by unfold I64; omega)) rfl ?_
      rintro v5 w5 ⟨rfl, hb5⟩
      refine vl_valg rfl (os_not rfl) ?_
      refine vl_val (os_pick_f rfl rfl) ?_
      refine vl_val (os_move rfl) ?_
      refine vl_valg rfl (os_move rfl) ?_
      refine vl_callg rfl (g_FixedParts m 599 w5 (by unfold I64; omega) (by unfold I64; omega)) rfl ?_
      rintro v6 w6 ⟨rfl, hb6⟩
      refine vl_valg rfl (os_not rfl) ?_
      refine vl_val (os_pick_f rfl rfl) ?_
      refine vl_val (os_move rfl) ?_
      refine vl_valg rfl (os_move rfl) ?_
      refine vl_valg rfl (os_muli rfl rfl (by omega)) ?_
      refine vl_valg rfl (os_move rfl) ?_
      refine vl_valg rfl (os_subi rfl rfl (by omega)) ?_
      refine vl_callg rfl (g_FixedParts ((m : Int) * 109) (65400 - (m : Int)) w6 (by unfold I64; omega) (by unfold I64; omega)) rfl ?_
      rintro v7 w7 ⟨rfl, hb7⟩
      have h67 := hb6.trans (hb7.mono hb6.size)
      have h57 := hb5.trans (h67.mono hb5.size)
      have h47 := hb4.trans (h57.mono hb4.size)
      refine vl_valg rfl (os_not rfl) ?_
      refine vl_val (os_pick_f rfl rfl) ?_
      refine vl_nil ?_
      refine v_cond_f rfl ?_
      refine v_skip ?_
      refine v_region ?_
      refine vl_val (os_move rfl) ?_
      refine vl_val (os_addi rfl rfl (by omega)) ?_
      refine vl_val (os_assign rfl) ?_
      refine vl_nil ?_
      exact ⟨m + 1, trivial, ⟨rfl, trivial⟩, ⟨by omega, hb3.trans (h47.mono hb3.size)⟩, by dsimp only; omega⟩
    · refine v_exit ?_
      refine v_seq ?_
      refine v_seq ?_
      refine v_region ?_
      refine vl_val (os_assign rfl) ?_
      refine vl_nil ?_
      refine v_block ?_
      refine v_loop [] (fun (n : Nat) => [(5, .int .i64 n)]) (fun n w' => n ≤ 400 ∧ Below w.heap.size w w') (fun n => 400 - n) (0) trivial ⟨rfl, trivial⟩ (⟨by omega, hb3⟩) ?_
      rintro n w3 ⟨hn, hb3⟩
      refine v_seq ?_
      refine v_seq ?_
      refine v_region ?_
      refine vl_val (os_move rfl) ?_
      refine vl_val (os_lss rfl rfl) ?_
      refine vl_nil ?_
      refine v_cond_d rfl (fun hlt4 => ?_) (fun hlt4 => ?_)
      · refine v_skip ?_
        refine v_seq ?_
        refine v_block ?_
        refine v_seq ?_
        refine v_region ?_
        refine vl_val (os_move rfl) ?_
        refine vl_some (ot_make (l := n) Try.underlying37 ti_int rfl rfl rfl rfl rfl (by omega) (by simp [maxLen]; omega) w3.heap.size (Nat.le_refl _)) ?_
        rintro v7 w7 ⟨rfl, o7, g7⟩
        have b7 : Below w3.heap.size w3 w7 := (Below.refl _ _).grown g7 (Nat.le_refl _) (fun k hk => by cases hk)
        refine vl_val (os_assign rfl) ?_
        refine vl_nil ?_
        refine v_seq ?_
        refine v_region ?_
        refine vl_val (os_move rfl) ?_
        refine vl_some (ot_make (l := n) Try.underlying37 ti_int rfl rfl rfl rfl rfl (by omega) (by simp [maxLen]; omega) w7.heap.size (Nat.le_refl _)) ?_
        rintro v9 w9 ⟨rfl, o9, g9⟩
        have b9 : Below w7.heap.size w7 w9 := (Below.refl _ _).grown g9 (Nat.le_refl _) (fun k hk => by cases hk)
        have o7 := (own_rep0 o7)
        have h1 := (World.ownsRow.lt o7 w3.heap.size rfl).2
        have h2 := (World.ownsRow.lt o9 w7.heap.size rfl).2
        have o79 := Own.keepAll o7 b9
        have o9 := (own_rep0 o9)
        obtain ⟨g1, hg1⟩ : ∃ g, g = w3.heap.size := ⟨_, rfl⟩
        obtain ⟨g2, hg2⟩ : ∃ g, g = w7.heap.size := ⟨_, rfl⟩
        rw [← hg1] at o79 h1 ⊢
        rw [← hg2] at o9 h1 h2 ⊢
        have b39 : Below w.heap.size w w9 := hb3.trans ((b7.trans (b9.mono b7.size)).mono hb3.size)
        refine vl_val (os_assign rfl) ?_
        refine vl_nil ?_
        refine v_seq ?_
        refine v_seq ?_
        refine v_region ?_
        refine vl_val (os_assign rfl) ?_
        refine vl_nil ?_
        refine v_block ?_
        refine v_loop [(5, _), (6, _), (7, _)] (fun (i : Nat) => [(8, .int .i64 i)]) (fun i w' => i ≤ n ∧ Below w.heap.size w w' ∧ ∃ ls ms : List Int, ls.length = n ∧ ms.length = n ∧ AllI ls ∧ AllI ms ∧ OwnK w' g1 3 .i64 (.slice (some ⟨g1, 0, none⟩) n n) ls ∧ OwnK w' g2 3 .i64 (.slice (some ⟨g2, 0, none⟩) n n) ms) (fun i => n - i) (0) ⟨rfl, rfl, rfl, trivial⟩ ⟨rfl, trivial⟩ (⟨by omega, b39, _, _, by simp, by simp, allI_rep n, allI_rep n, o79, o9⟩) ?_
        rintro i w' ⟨hi, hb, ls, ms, hl1, hl2, hI1, hI2, oL, oM⟩
        refine v_seq ?_
        refine v_seq ?_
        refine v_region ?_
        refine vl_val (os_move rfl) ?_
        refine vl_val (os_move rfl) ?_
        refine vl_val (os_lss rfl rfl) ?_
        refine vl_nil ?_
        refine v_cond_d rfl (fun hlt5 => ?_) (fun hlt5 => ?_)
        · have hs3 := hb3.size
          have hne : g1 ≠ g2 := by omega
          refine v_skip ?_
          refine v_seq ?_
          refine v_block ?_
          refine v_seq ?_
          refine v_region ?_
          refine vl_val (os_move rfl) ?_
          refine vl_val (os_move rfl) ?_
          refine vl_val (os_ix Try.underlying37 Try.sizeOf3 rfl rfl (i := i) (by omega) (by omega)) ?_
          refine vl_unit (ou_store Try.sizeOf3 rfl rfl rfl ((OwnK.cell oL (by omega))) ((Own.free oL _))) ?_
          have oM' := Own.setOther (g := g1) oM (fun g' e e2 => by cases e; exact hne (Eq.symm e2)) (0 + i) (.int .i64 65536)
          have oL' := OwnK.set oL (0 + i) 65536
          refine vl_nil ?_
          refine v_region ?_
          refine vl_val (os_move rfl) ?_
          refine vl_val (os_move rfl) ?_
          refine vl_val (os_move rfl) ?_
          refine vl_val (os_muli rfl rfl (by omega)) ?_
          refine vl_val (os_ix Try.underlying37 Try.sizeOf3 rfl rfl (i := i) (by omega) (by omega)) ?_
          refine vl_unit (ou_store Try.sizeOf3 rfl rfl rfl ((OwnK.cell oM' (by omega))) ((Own.free oM' _))) ?_
          refine vl_nil ?_
          refine v_region ?_
          refine vl_val (os_move rfl) ?_
          refine vl_val (os_addi rfl rfl (by omega)) ?_
          refine vl_val (os_assign rfl) ?_
          refine vl_nil ?_
          exact ⟨i + 1, ⟨rfl, rfl, rfl, trivial⟩, ⟨rfl, trivial⟩, ⟨by omega, below_set (below_set hb (by omega) _ _) (by omega) _ _, ls.set (0 + i) 65536, ms.set (0 + i) ((i : Int) * 250), by simpa using hl1, by simpa using hl2, allI_set hI1 (by unfold I64; omega), allI_set hI2 (by unfold I64; omega), Own.setOther oL' (fun g' e e2 => by cases e; exact hne e2) _ _, OwnK.set oM' _ _⟩, by dsimp only; omega⟩
        · have rL := OwnK.rd oL
          have rM := OwnK.rd oM
          refine v_exit ?_
          refine v_seq ?_
          refine v_region ?_
          refine vl_val (os_move rfl) ?_
          refine vl_val (os_move rfl) ?_
          refine vl_call (law23_FixedRows _ _ n n n n ls ms w' rL rM hl1.symm hl2.symm (by omega) (by omega) hI1 hI2) rfl ?_
          rintro v4 w4 ⟨rfl, hb4⟩
          refine vl_val (os_not rfl) ?_
          refine vl_val (os_move rfl) ?_
          refine vl_valg rfl (os_move rfl) ?_
          refine vl_valg rfl (os_move rfl) ?_
          refine vl_callg rfl (law23_FixedRows _ _ n n n n ms ls w4 (rM.keep hb4) (rL.keep hb4) hl2.symm hl1.symm (by omega) (by omega) hI2 hI1) rfl ?_
          rintro v5 w5 ⟨rfl, hb5⟩
          refine vl_valg rfl (os_not rfl) ?_
          refine vl_val (os_pick_f rfl rfl) ?_
          refine vl_val (os_move rfl) ?_
          refine vl_valg rfl (os_move rfl) ?_
          refine vl_valg rfl (os_move rfl) ?_
          refine vl_valg rfl (os_move rfl) ?_
          refine vl_valg rfl (os_quoi rfl rfl (by omega)) ?_
          refine vl_valg rfl (os_slice_h Try.underlying37 Try.sizeOf3 rfl rfl (h := n / 2) (by omega) (by omega)) ?_
          refine vl_callg rfl (law23_FixedRows _ _ n (n / 2) n n ms (ls.take (n / 2)) w5 ((rM.keep hb4).keep hb5) (((rL.keep hb4).keep hb5).take _) hl2.symm (by rw [List.length_take]; omega) (by omega) (by omega) hI2 (hI1.take _)) rfl ?_
          rintro v6 w6 ⟨rfl, hb6⟩
          have h56 := hb5.trans (hb6.mono hb5.size)
          have h46 := hb4.trans (h56.mono hb4.size)
          refine vl_valg rfl (os_not rfl) ?_
          refine vl_val (os_pick_f rfl rfl) ?_
          refine vl_nil ?_
          refine v_cond_f rfl ?_
          refine v_skip ?_
          refine v_region ?_
          refine vl_val (os_move rfl) ?_
          refine vl_val (os_addi rfl rfl (by omega)) ?_
          refine vl_val (os_move rfl) ?_
          refine vl_val (os_remi rfl rfl (by omega)) ?_
          refine vl_val (os_muli rfl rfl (by omega)) ?_
          refine vl_val (os_addi rfl rfl (by omega)) ?_
          refine vl_val (os_assign rfl) ?_
          refine vl_nil ?_
          exact ⟨n + 1 + n % 3 * 60, trivial, ⟨rfl, trivial⟩, ⟨by omega, hb.trans (h46.mono hb.size)⟩, by dsimp only; omega⟩
      · refine v_exit ?_
        refine v_seq ?_
        refine v_region ?_
        refine vl_call (g_awake w3) rfl ?_
        rintro v4 w4 ⟨rfl, hb4⟩
        refine vl_val (os_assign rfl) ?_
        refine vl_nil ?_
        refine v_ret ?_
        exact post_ret rfl rfl (⟨rfl, hb3.trans (hb4.mono hb3.size)⟩)
end Go.Proofs.Ytpcfifheegfjiaa
