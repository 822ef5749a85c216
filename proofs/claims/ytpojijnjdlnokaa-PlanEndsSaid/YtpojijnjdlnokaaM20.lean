/- Texts joined: FlK. -/
import Derived.Test.YtpojijnjdlnokaaM19
/- The law's kit: lists that were handed out are marked, grown, looked at: if they lie apart, all is as it should be. -/
namespace Go.Proofs.Ytpojijnjdlnokaa
open Go.RowKit
set_option linter.unusedVariables false

def mkC (K : IntKind) (f : Int → Int → Int) (k n : Nat) : List Value := (List.range n).map fun (i : Nat) => Value.int K (f (k : Int) (i : Int))
theorem mkC_len (K : IntKind) (f : Int → Int → Int) (k n : Nat) : (mkC K f k n).length = n := by simp [mkC]
theorem mkC_succ (K : IntKind) (f : Int → Int → Int) (k n : Nat) : mkC K f k (n + 1) = mkC K f k n ++ [Value.int K (f k n)] := by simp [mkC, List.range_succ]
theorem mkC_at (K : IntKind) (f : Int → Int → Int) (k : Nat) {n i : Nat} (hi : i < n) : (mkC K f k n)[i]? = some (Value.int K (f k i)) := by simp [mkC, hi]
theorem ti_ints : TyInfo Try.prog 40 (.slice none 0 0) 1 24 := by unfold TyInfo; kernel_rfl
theorem ti_bytes : TyInfo Try.prog 22 (.slice none 0 0) 1 24 := by unfold TyInfo; kernel_rfl
/-- a list that has been marked up to i: one more -/
theorem take_set {K : IntKind} {f : Int → Int → Int} {cs : List Value} {k i : Nat} (h : cs.take i = mkC K f k i) (hi : i < cs.length) : (cs.set i (Value.int K (f k i))).take (i + 1) = mkC K f k (i + 1) := by
  rw [mkC_succ, ← h, List.take_succ_eq_append_getElem (by simpa using hi), List.take_set, List.set_eq_of_length_le (by simp; omega)]
  simp

set_option maxHeartbeats 4000000 in
theorem kit_flatInts (A : Option Addr) (N cA B : Nat) (S : List Nat) (ss : List Value) (lab : Nat → Nat) (nn : Nat → Nat) (c0 d0 : Nat → List Value) (w0 w : World) (hF0 : Fl w0 B 3 40 S A ss lab c0 (.slice none 0 0) [] 0 d0 w) (hN : ss.length = N) (hN1 : N ≤ 100000)
    (hn0 : ∀ j, j < N → (c0 j).length = nn j) (hn1 : ∀ j, j < N → nn j ≤ 1000000000) : Gives Try.prog 109 #[.slice A N cA] w fun v w' => v = .bool true ∧ Kb S w0 w' := by
  have hget : ∀ k, k < N → ∃ v, ss[k]? = some v := fun k hk => ⟨ss[k]'(by omega), List.getElem?_eq_getElem (by omega)⟩
  refine gives_enter Try.call109 Try.func109 rfl rfl rfl (by kernel_rfl) ?_
  refine v_seq ?_
  refine v_region ?_
  refine vl_val (os_assign rfl) ?_
  refine vl_nil ?_
  refine v_seq ?_
  refine v_seq ?_
  refine v_region ?_
  refine vl_val (os_assign rfl) ?_
  refine vl_nil ?_
  refine v_block ?_
  refine v_loop [(0, _)] (fun (k : Nat) => [(3, .int .i64 k)]) (fun k w' => k ≤ N ∧ ∃ cc, Fl w0 B 3 40 S A ss lab cc (.slice none 0 0) [] 0 d0 w' ∧ (∀ j, j < N → (cc j).length = nn j) ∧ (∀ j, j < k → cc j = mkC .i64 markZ j (nn j))) (fun k => N - k) (0) ⟨rfl, trivial⟩ ⟨rfl, trivial⟩ (⟨by omega, c0, hF0, hn0, fun j hj => absurd hj (by omega)⟩) ?_
  rintro k w' ⟨hk, cc, hF, hL, hM⟩
  refine v_seq ?_
  refine v_seq ?_
  refine v_region ?_
  refine vl_val (os_move rfl) ?_
  refine vl_val (os_move rfl) ?_
  refine vl_val (os_len Try.underlying59 rfl) ?_
  refine vl_val (os_lss rfl rfl) ?_
  refine vl_nil ?_
  refine v_cond_d rfl (fun h => ?_) (fun h => ?_)
  · obtain ⟨v, hv⟩ := hget k (by omega)
    obtain ⟨A1, c1, rfl, -⟩ := Own.form (hF.own k _ hv).1
    rw [hL k (by omega)] at hv
    obtain ⟨bA, oA, rfl, -⟩ := hF.row (by omega)
    have hnk := hn1 k (by omega)
    refine v_skip ?_
    refine v_seq ?_
    refine v_block ?_
    refine v_seq ?_
    refine v_region ?_
    refine vl_val (os_assign rfl) ?_
    refine vl_nil ?_
    refine v_block ?_
    refine v_loop [(0, _), (3, _)] (fun (i : Nat) => [(4, .int .i64 i)]) (fun i w' => i ≤ nn k ∧ ∃ cc, Fl w0 B 3 40 S (some ⟨bA, oA, none⟩) ss lab cc (.slice none 0 0) [] 0 d0 w' ∧ (∀ j, j < N → (cc j).length = nn j) ∧ (∀ j, j < k → cc j = mkC .i64 markZ j (nn j)) ∧ (cc k).take i = mkC .i64 markZ k i) (fun i => nn k - i) (0) ⟨rfl, rfl, trivial⟩ ⟨rfl, trivial⟩ (⟨by omega, cc, hF, hL, hM, by simp [mkC]⟩) ?_
    rintro i w' ⟨hi, cc, hF, hL, hM, hT⟩
    refine v_seq ?_
    refine v_seq ?_
    refine v_region ?_
    refine vl_val (os_move rfl) ?_
    refine vl_val (os_move rfl) ?_
    refine vl_val (os_move rfl) ?_
    refine vl_val (os_ix Try.underlying59 Try.sizeOf40 rfl rfl (i := k) (by omega) (by omega)) ?_
    refine vl_val (os_load Try.isAgg40 rfl (hF.row.get hv)) ?_
    refine vl_val (os_len Try.underlying40 rfl) ?_
    refine vl_val (os_lss rfl rfl) ?_
    refine vl_nil ?_
    refine v_cond_d rfl (fun h2 => ?_) (fun h2 => ?_)
    · obtain ⟨g, c, e, -⟩ := Own.row (hF.own k _ hv).1 (by rw [hL k (by omega)]; omega)
      rw [hL k (by omega)] at e
      cases e
      have hne := hF.ne_row hv
      refine v_skip ?_
      refine v_seq ?_
      refine v_block ?_
      refine v_region_t (LeS (⟨g, 0 + i, none⟩) (.int .i64 (markZ k i))) _ mixed (by kernel_rfl) (lee_s _ _) (les_start _ _ _) ?_
      refine vt_val (fun w hw => os_move rfl) ?_
      refine vt_val (fun w hw => os_move rfl) ?_
      refine vt_val (fun w hw => os_ix Try.underlying59 Try.sizeOf40 rfl rfl (i := k) (by omega) (by omega)) ?_
      refine vt_val (fun w hw => os_load Try.isAgg40 rfl (les_cell hw (fun e => by have := congrArg Addr.block e; dsimp only at this; omega) (hF.row.get hv))) ?_
      refine vt_val (fun w hw => os_move rfl) ?_
      refine vt_val (fun w hw => os_move rfl) ?_
      refine vt_val (fun w hw => os_move rfl) ?_
      refine vt_call (v := _) (fun w hw => (kit_mark k i w (by have := hn1 k (by omega); omega) (by have := hn1 k (by omega); omega)).mono fun v w' hh => ⟨hh.1, by rw [hh.2]; exact (lee_s _ _).refl _⟩) rfl ?_
      refine vt_val (fun w hw => os_ix Try.underlying40 Try.sizeOf3 rfl rfl (i := i) (by omega) (by omega)) ?_
      refine vt_store Try.sizeOf3 rfl rfl rfl ((Own.get (hF.own k _ hv).1 (List.getElem?_eq_getElem (by rw [hL k (by omega)]; omega)))) ((Own.free (hF.own k _ hv).1 _)) ?_
      refine vt_nilg (fun w hw hg => ?_)
      obtain ⟨-, -, q, rfl⟩ := hg
      refine v_region ?_
      refine vl_val (os_move rfl) ?_
      refine vl_val (os_addi rfl rfl (by omega)) ?_
      refine vl_val (os_assign rfl) ?_
      refine vl_nil ?_
      exact ⟨i + 1, ⟨rfl, rfl, trivial⟩, ⟨rfl, trivial⟩, ⟨by omega, _, (hF.set hv (Nat.zero_le _) i _).led' ⟨q, rfl⟩, fun j hj => by by_cases e : j = k; (subst e; simpa using hL j hj); (simpa [e] using hL j hj), fun j hj => by rw [if_neg (by omega)]; exact hM j hj, by rw [if_pos rfl]; exact take_set hT (by rw [hL k (by omega)]; omega)⟩, by dsimp only; omega⟩
    · obtain rfl : i = nn k := by omega
      refine v_exit ?_
      refine v_region ?_
      refine vl_val (os_move rfl) ?_
      refine vl_val (os_addi rfl rfl (by omega)) ?_
      refine vl_val (os_assign rfl) ?_
      refine vl_nil ?_
      exact ⟨k + 1, ⟨rfl, trivial⟩, ⟨rfl, trivial⟩, ⟨by omega, cc, hF, hL, fun j hj => by by_cases hjk : j = k; (subst hjk; rw [← hT, List.take_of_length_le (by rw [hL j (by omega)]; exact Nat.le_refl _)]); (exact hM j (by omega))⟩, by dsimp only; omega⟩
  · obtain rfl : N = k := by omega
    have hF1 := hF.congr (cc' := fun j => mkC .i64 markZ j (nn j)) (fun j hj => (hM j (by omega)).symm)
    refine v_exit ?_
    refine v_seq ?_
    refine v_region ?_
    refine vl_val (os_move rfl) ?_
    refine vl_val (os_len Try.underlying59 rfl) ?_
    refine vl_some (ot_make (l := N) Try.underlying59 ti_ints rfl rfl rfl rfl rfl (by omega) (by simp [maxLen]; omega) w'.heap.size (Nat.le_refl _)) ?_
    rintro v1 w1 ⟨e1, ho1, hg1⟩
    have hF2 := hF1.made hg1 e1 ho1
    have hd0 : ∃ G gs lab dd, v1 = .slice (some ⟨G, 0, none⟩) N N ∧ gs.length = N ∧ Fl w0 B 3 40 S A ss lab (fun j => mkC .i64 markZ j (nn j)) v1 gs 0 dd w1 := ⟨_, _, _, _, e1, by simp, hF2⟩
    clear hF hL hM hF1 hF2 hg1 ho1 e1 hF0
    obtain ⟨G, gs, lab, dd, rfl, hgl, hF⟩ := hd0
    refine vl_val (os_assign rfl) ?_
    refine vl_nil ?_
    refine v_seq ?_
    refine v_seq ?_
    refine v_region ?_
    refine vl_val (os_assign rfl) ?_
    refine vl_nil ?_
    refine v_block ?_
    refine v_loop [(0, _), (5, _)] (fun (k : Nat) => [(6, .int .i64 k)]) (fun k w' => k ≤ N ∧ ∃ lab gs, gs.length = N ∧ Fl w0 B 3 40 S A ss lab (fun j => mkC .i64 markZ j (nn j)) (.slice (some ⟨G, 0, none⟩) N N) gs k (fun j => mkC .i64 markZ j (nn j + 64)) w') (fun k => N - k) (0) ⟨rfl, rfl, trivial⟩ ⟨rfl, trivial⟩ (⟨by omega, lab, gs, hgl, hF.congr2 (fun j hj => absurd hj (by omega))⟩) ?_
    rintro k w' ⟨hk, lab, gs, hgl, hF⟩
    refine v_seq ?_
    refine v_seq ?_
    refine v_region ?_
    refine vl_val (os_move rfl) ?_
    refine vl_val (os_move rfl) ?_
    refine vl_val (os_len Try.underlying59 rfl) ?_
    refine vl_val (os_lss rfl rfl) ?_
    refine vl_nil ?_
    refine v_cond_d rfl (fun h => ?_) (fun h => ?_)
    · obtain ⟨v, hv⟩ := hget k (by omega)
      obtain ⟨A1, c1, rfl, -⟩ := Own.form (hF.own k _ hv).1
      rw [mkC_len] at hv
      obtain ⟨bA, oA, rfl, -⟩ := hF.row (by omega)
      refine v_skip ?_
      refine v_seq ?_
      refine v_block ?_
      refine v_seq ?_
      refine v_region ?_
      refine vl_val (os_move rfl) ?_
      refine vl_val (os_move rfl) ?_
      refine vl_val (os_ix Try.underlying59 Try.sizeOf40 rfl rfl (i := k) (by omega) (by omega)) ?_
      refine vl_val (os_load Try.isAgg40 rfl (hF.row.get hv)) ?_
      refine vl_val (os_assign rfl) ?_
      refine vl_nil ?_
      refine v_seq ?_
      refine v_seq ?_
      refine v_region ?_
      refine vl_val (os_assign rfl) ?_
      refine vl_nil ?_
      refine v_block ?_
      refine v_loop2 [(0, _), (5, _), (6, _)] (fun (g : Value) (i : Nat) => [(7, g), (8, .int .i64 i)]) (fun g i w' => i ≤ 64 ∧ ∃ lab, Fl w0 B 3 40 S (some ⟨bA, oA, none⟩) ss lab (fun j => mkC .i64 markZ j (nn j)) (.slice (some ⟨G, 0, none⟩) N N) gs k (fun j => mkC .i64 markZ j (nn j + 64)) w' ∧ Gr w0 B 3 S lab ss k g (mkC .i64 markZ k (nn k + i)) w') (fun g i => 64 - i) (.slice A1 (nn k) c1) (0) ⟨rfl, rfl, rfl, trivial⟩ ⟨rfl, rfl, trivial⟩ (⟨by omega, lab, hF, hF.gr hv⟩) ?_
      rintro g i w' ⟨hi, lab, hF, hG⟩
      refine v_seq ?_
      refine v_seq ?_
      refine v_region ?_
      refine vl_val (os_move rfl) ?_
      refine vl_val (os_lss rfl rfl) ?_
      refine vl_nil ?_
      refine v_cond_d rfl (fun h2 => ?_) (fun h2 => ?_)
      · have hnk := hn1 k (by omega)
        refine v_skip ?_
        refine v_seq ?_
        refine v_block ?_
        refine v_region ?_
        refine vl_val (os_move rfl) ?_
        refine vl_val (os_move rfl) ?_
        refine vl_val (os_move rfl) ?_
        refine vl_val (os_move rfl) ?_
        refine vl_val (os_ix Try.underlying59 Try.sizeOf40 rfl rfl (i := k) (by omega) (by omega)) ?_
        refine vl_val (os_load Try.isAgg40 rfl (hF.row.get hv)) ?_
        refine vl_val (os_len Try.underlying40 rfl) ?_
        refine vl_val (os_move rfl) ?_
        refine vl_val (os_addi rfl rfl (by omega)) ?_
        refine vl_call (kit_mark k ((nn k : Int) + i) w' (by omega) (by omega)) rfl ?_
        rintro v4 w' ⟨rfl, rfl⟩
        have hb4 : Below w'.heap.size w' (w'.alloc (.cells [Value.int .i64 (markZ k ((nn k : Int) + i))].toArray 3)) := (Below.refl _ _).alloc (Nat.le_refl _) _
        have hF4 := hF.below hb4
        have hG4 := hG.below hb4
        refine vl_val (os_lit Try.underlying40 Try.sizeOf3 Try.zeroValue3 rfl rfl rfl rfl (by decide)) ?_
        refine vl_some (ot_append_s Try.underlying40 ti_int rfl rfl rfl hG4.own (rdc_alloc w' [Value.int .i64 (markZ k ((nn k : Int) + i))] _) rfl (by simp [Value.oneCell']) (by simp [mkC_len]; omega) (by simp [maxLen, mkC_len]; omega) (by have := hF4.kb.size; have := hF4.low; omega) (by simp)) ?_
        rintro v5 w5 ⟨ho5, hg5, hn5⟩
        obtain ⟨lab5, hF5, hG5⟩ := hF4.grow (by omega) (Nat.le_refl _) hG4 hg5 hn5 ho5
        refine vl_val (os_assign rfl) ?_
        refine vl_nil ?_
        refine v_region ?_
        refine vl_val (os_move rfl) ?_
        refine vl_val (os_addi rfl rfl (by omega)) ?_
        refine vl_val (os_assign rfl) ?_
        refine vl_nil ?_
        exact ⟨⟨v5, i + 1⟩, ⟨rfl, rfl, rfl, trivial⟩, ⟨rfl, rfl, trivial⟩, ⟨by omega, lab5, hF5, by rw [← Nat.add_assoc, mkC_succ]; simpa using hG5⟩, by dsimp only; omega⟩
      · obtain rfl : i = 64 := by omega
        obtain ⟨Ag, cg, rfl, -⟩ := Own.form hG.own
        refine v_exit ?_
        refine v_region ?_
        refine vl_val (os_move rfl) ?_
        refine vl_val (os_move rfl) ?_
        refine vl_val (os_move rfl) ?_
        refine vl_val (os_ix Try.underlying59 Try.sizeOf40 rfl rfl (i := k) (by omega) (by omega)) ?_
        refine vl_unit (ou_store Try.sizeOf40 rfl rfl rfl ((Own.get hF.gown.1 (List.getElem?_eq_getElem (by omega)))) ((Own.free hF.gown.1 _))) ?_
        refine vl_nil ?_
        refine v_region ?_
        refine vl_val (os_move rfl) ?_
        refine vl_val (os_addi rfl rfl (by omega)) ?_
        refine vl_val (os_assign rfl) ?_
        refine vl_nil ?_
        exact ⟨k + 1, ⟨rfl, rfl, trivial⟩, ⟨rfl, trivial⟩, ⟨by omega, lab, _, (List.length_set ..).trans hgl, (hF.put (by omega) (by omega) hG).congr2 (fun j hj => by by_cases e : j = k <;> simp [e])⟩, by dsimp only; omega⟩
    · obtain rfl : N = k := by omega
      refine v_exit ?_
      refine v_seq ?_
      refine v_seq ?_
      refine v_region ?_
      refine vl_val (os_assign rfl) ?_
      refine vl_nil ?_
      refine v_block ?_
      refine v_loop [(0, _), (5, _)] (fun (k : Nat) => [(9, .int .i64 k)]) (fun k w' => k ≤ N ∧ Fl w0 B 3 40 S A ss lab (fun j => mkC .i64 markZ j (nn j)) (.slice (some ⟨G, 0, none⟩) N N) gs N (fun j => mkC .i64 markZ j (nn j + 64)) w') (fun k => N - k) (0) ⟨rfl, rfl, trivial⟩ ⟨rfl, trivial⟩ (⟨by omega, hF⟩) ?_
      rintro k w' ⟨hk, hF⟩
      refine v_seq ?_
      refine v_seq ?_
      refine v_region ?_
      refine vl_val (os_move rfl) ?_
      refine vl_val (os_move rfl) ?_
      refine vl_val (os_len Try.underlying59 rfl) ?_
      refine vl_val (os_lss rfl rfl) ?_
      refine vl_nil ?_
      refine v_cond_d rfl (fun h => ?_) (fun h => ?_)
      · obtain ⟨v, hv⟩ := hget k (by omega)
        obtain ⟨A1, c1, rfl, -⟩ := Own.form (hF.own k _ hv).1
        rw [mkC_len] at hv
        obtain ⟨bA, oA, rfl, -⟩ := hF.row (by omega)
        obtain ⟨u, hu⟩ : ∃ u, gs[k]? = some u := ⟨gs[k]'(by omega), List.getElem?_eq_getElem (by omega)⟩
        obtain ⟨g2, c2, rfl, -⟩ := Own.row (hF.own2 k _ (by omega) hu).1 (by rw [mkC_len]; omega)
        rw [mkC_len] at hu
        have hnk := hn1 k (by omega)
        refine v_skip ?_
        refine v_seq ?_
        refine v_block ?_
        refine v_seq ?_
        refine v_region ?_
        refine vl_val (os_assign rfl) ?_
        refine vl_nil ?_
        refine v_block ?_
        refine v_loop [(0, _), (5, _), (9, _)] (fun (i : Nat) => [(10, .int .i64 i)]) (fun i w' => i ≤ nn k + 64 ∧ Fl w0 B 3 40 S (some ⟨bA, oA, none⟩) ss lab (fun j => mkC .i64 markZ j (nn j)) (.slice (some ⟨G, 0, none⟩) N N) gs N (fun j => mkC .i64 markZ j (nn j + 64)) w') (fun i => nn k + 64 - i) (0) ⟨rfl, rfl, rfl, trivial⟩ ⟨rfl, trivial⟩ (⟨by omega, hF⟩) ?_
        rintro i w' ⟨hi, hF⟩
        refine v_seq ?_
        refine v_seq ?_
        refine v_region ?_
        refine vl_val (os_move rfl) ?_
        refine vl_val (os_move rfl) ?_
        refine vl_val (os_move rfl) ?_
        refine vl_val (os_ix Try.underlying59 Try.sizeOf40 rfl rfl (i := k) (by omega) (by omega)) ?_
        refine vl_val (os_load Try.isAgg40 rfl (Own.get hF.gown.1 hu)) ?_
        refine vl_val (os_len Try.underlying40 rfl) ?_
        refine vl_val (os_lss rfl rfl) ?_
        refine vl_nil ?_
        refine v_cond_d rfl (fun h2 => ?_) (fun h2 => ?_)
        · rcases Nat.lt_or_ge i (nn k) with hlt | hge
          · obtain ⟨g1, c1, e, -⟩ := Own.row (hF.own k _ hv).1 (by rw [mkC_len]; omega)
            rw [mkC_len] at e
            cases e
            refine v_skip ?_
            refine v_seq ?_
            refine v_block ?_
            refine v_seq ?_
            refine v_region_t LeD _ mixed (by kernel_rfl) lee_d (led_start _) ?_
            refine vt_val (fun w hw => os_move rfl) ?_
            refine vt_val (fun w hw => os_move rfl) ?_
            refine vt_val (fun w hw => os_ix Try.underlying59 Try.sizeOf40 rfl rfl (i := k) (by omega) (by omega)) ?_
            refine vt_val (fun w hw => os_load Try.isAgg40 rfl (led_cell hw (Own.get hF.gown.1 hu))) ?_
            refine vt_val (fun w hw => os_move rfl) ?_
            refine vt_val (fun w hw => os_ix Try.underlying40 Try.sizeOf3 rfl rfl (i := i) (by omega) (by omega)) ?_
            refine vt_val (fun w hw => os_load Try.isAgg3 rfl (led_cell hw (Own.get (hF.own2 k _ (by omega) hu).1 (mkC_at _ _ _ (by omega))))) ?_
            refine vt_val (fun w hw => os_move rfl) ?_
            refine vt_val (fun w hw => os_move rfl) ?_
            refine vt_call (v := _) (fun w hw => (kit_mark k i w (by omega) (by omega)).mono fun v w' hh => ⟨hh.1, by rw [hh.2]; exact lee_d.refl _⟩) rfl ?_
            refine vt_val (fun w hw => os_t (os_eql rfl rfl) (rfl)) ?_
            refine vt_val (fun w hw => os_not rfl) ?_
            refine vt_val (fun w hw => os_move rfl) ?_
            refine vt_valg rfl (fun w hw => os_move rfl) ?_
            refine vt_valg rfl (fun w hw => os_move rfl) ?_
            refine vt_valg rfl (fun w hw => os_move rfl) ?_
            refine vt_valg rfl (fun w hw => os_ix Try.underlying59 Try.sizeOf40 rfl rfl (i := k) (by omega) (by omega)) ?_
            refine vt_valg rfl (fun w hw => os_load Try.isAgg40 rfl (led_cell hw (hF.row.get hv))) ?_
            refine vt_valg rfl (fun w hw => os_len Try.underlying40 rfl) ?_
            refine vt_valg rfl (fun w hw => os_t (os_lss rfl rfl) (by omega)) ?_
            refine vt_valg rfl (fun w hw => os_move rfl) ?_
            refine vt_valg rfl (fun w hw => os_move rfl) ?_
            refine vt_valg rfl (fun w hw => os_move rfl) ?_
            refine vt_valg rfl (fun w hw => os_ix Try.underlying59 Try.sizeOf40 rfl rfl (i := k) (by omega) (by omega)) ?_
            refine vt_valg rfl (fun w hw => os_load Try.isAgg40 rfl (led_cell hw (hF.row.get hv))) ?_
            refine vt_valg rfl (fun w hw => os_move rfl) ?_
            refine vt_valg rfl (fun w hw => os_ix Try.underlying40 Try.sizeOf3 rfl rfl (i := i) (by omega) (by omega)) ?_
            refine vt_valg rfl (fun w hw => os_load Try.isAgg3 rfl (led_cell hw (Own.get (hF.own k _ hv).1 (mkC_at _ _ _ (by omega))))) ?_
            refine vt_valg rfl (fun w hw => os_move rfl) ?_
            refine vt_valg rfl (fun w hw => os_move rfl) ?_
            refine vt_callg rfl (v := _) (fun w hw => (kit_mark k i w (by omega) (by omega)).mono fun v w' hh => ⟨hh.1, by rw [hh.2]; exact lee_d.refl _⟩) rfl ?_
            refine vt_valg rfl (fun w hw => os_t (os_eql rfl rfl) (rfl)) ?_
            refine vt_valg rfl (fun w hw => os_not rfl) ?_
            refine vt_valg rfl (fun w hw => os_pick_t rfl rfl) ?_
            refine vt_val (fun w hw => os_pick_f rfl rfl) ?_
            refine vt_nil (fun w hw => ?_)
            obtain ⟨q, rfl⟩ := hw
            refine v_cond_f rfl ?_
            refine v_skip ?_
            refine v_region ?_
            refine vl_val (os_move rfl) ?_
            refine vl_val (os_addi rfl rfl (by omega)) ?_
            refine vl_val (os_assign rfl) ?_
            refine vl_nil ?_
            exact ⟨i + 1, ⟨rfl, rfl, rfl, trivial⟩, ⟨rfl, trivial⟩, ⟨by omega, hF.led' ⟨q, rfl⟩⟩, by dsimp only; omega⟩
          · refine v_skip ?_
            refine v_seq ?_
            refine v_block ?_
            refine v_seq ?_
            refine v_region_t LeD _ mixed (by kernel_rfl) lee_d (led_start _) ?_
            refine vt_val (fun w hw => os_move rfl) ?_
            refine vt_val (fun w hw => os_move rfl) ?_
            refine vt_val (fun w hw => os_ix Try.underlying59 Try.sizeOf40 rfl rfl (i := k) (by omega) (by omega)) ?_
            refine vt_val (fun w hw => os_load Try.isAgg40 rfl (led_cell hw (Own.get hF.gown.1 hu))) ?_
            refine vt_val (fun w hw => os_move rfl) ?_
            refine vt_val (fun w hw => os_ix Try.underlying40 Try.sizeOf3 rfl rfl (i := i) (by omega) (by omega)) ?_
            refine vt_val (fun w hw => os_load Try.isAgg3 rfl (led_cell hw (Own.get (hF.own2 k _ (by omega) hu).1 (mkC_at _ _ _ (by omega))))) ?_
            refine vt_val (fun w hw => os_move rfl) ?_
            refine vt_val (fun w hw => os_move rfl) ?_
            refine vt_call (v := _) (fun w hw => (kit_mark k i w (by omega) (by omega)).mono fun v w' hh => ⟨hh.1, by rw [hh.2]; exact lee_d.refl _⟩) rfl ?_
            refine vt_val (fun w hw => os_t (os_eql rfl rfl) (rfl)) ?_
            refine vt_val (fun w hw => os_not rfl) ?_
            refine vt_val (fun w hw => os_move rfl) ?_
            refine vt_valg rfl (fun w hw => os_move rfl) ?_
            refine vt_valg rfl (fun w hw => os_move rfl) ?_
            refine vt_valg rfl (fun w hw => os_move rfl) ?_
            refine vt_valg rfl (fun w hw => os_ix Try.underlying59 Try.sizeOf40 rfl rfl (i := k) (by omega) (by omega)) ?_
            refine vt_valg rfl (fun w hw => os_load Try.isAgg40 rfl (led_cell hw (hF.row.get hv))) ?_
            refine vt_valg rfl (fun w hw => os_len Try.underlying40 rfl) ?_
            refine vt_valg rfl (fun w hw => os_f (os_lss rfl rfl) (by omega)) ?_
            refine vt_valg rfl (fun w hw => os_move rfl) ?_
            refine vt_skip rfl rfl ?_
            refine vt_skip rfl rfl ?_
            refine vt_skip rfl rfl ?_
            refine vt_skip rfl rfl ?_
            refine vt_skip rfl rfl ?_
            refine vt_skip rfl rfl ?_
            refine vt_skip rfl rfl ?_
            refine vt_skip rfl rfl ?_
            refine vt_skip rfl rfl ?_
            refine vt_skip rfl rfl ?_
            refine vt_skip rfl rfl ?_
            refine vt_skip rfl rfl ?_
            refine vt_valg rfl (fun w hw => os_pick_f rfl rfl) ?_
            refine vt_val (fun w hw => os_pick_f rfl rfl) ?_
            refine vt_nil (fun w hw => ?_)
            obtain ⟨q, rfl⟩ := hw
            refine v_cond_f rfl ?_
            refine v_skip ?_
            refine v_region ?_
            refine vl_val (os_move rfl) ?_
            refine vl_val (os_addi rfl rfl (by omega)) ?_
            refine vl_val (os_assign rfl) ?_
            refine vl_nil ?_
            exact ⟨i + 1, ⟨rfl, rfl, rfl, trivial⟩, ⟨rfl, trivial⟩, ⟨by omega, hF.led' ⟨q, rfl⟩⟩, by dsimp only; omega⟩
        · refine v_exit ?_
          refine v_region ?_
          refine vl_val (os_move rfl) ?_
          refine vl_val (os_addi rfl rfl (by omega)) ?_
          refine vl_val (os_assign rfl) ?_
          refine vl_nil ?_
          exact ⟨k + 1, ⟨rfl, rfl, trivial⟩, ⟨rfl, trivial⟩, ⟨by omega, hF⟩, by dsimp only; omega⟩
      · obtain rfl : N = k := by omega
        have hF0 := (hF.less (Nat.zero_le _)).congr2 (dd' := fun j => mkC .i64 markZ j (nn j)) (fun j hj => absurd hj (by omega))
        refine v_exit ?_
        refine v_seq ?_
        refine v_seq ?_
        refine v_region ?_
        refine vl_val (os_assign rfl) ?_
        refine vl_nil ?_
        refine v_block ?_
        refine v_loop [(0, _), (5, _)] (fun (k : Nat) => [(11, .int .i64 k)]) (fun k w' => k ≤ N ∧ ∃ lab gs dd, gs.length = N ∧ Fl w0 B 3 40 S A ss lab (fun j => mkC .i64 markZ j (nn j)) (.slice (some ⟨G, 0, none⟩) N N) gs k dd w' ∧ ∀ j, j < k → nn j ≤ (dd j).length ∧ (dd j).take (nn j) = mkC .i64 markZ j (nn j)) (fun k => N - k) (0) ⟨rfl, rfl, trivial⟩ ⟨rfl, trivial⟩ (⟨by omega, lab, gs, _, hgl, hF0, fun j hj => absurd hj (by omega)⟩) ?_
        rintro k w' ⟨hk, lab, gs, dd, hgl, hF, hD⟩
        refine v_seq ?_
        refine v_seq ?_
        refine v_region ?_
        refine vl_val (os_move rfl) ?_
        refine vl_val (os_move rfl) ?_
        refine vl_val (os_len Try.underlying59 rfl) ?_
        refine vl_val (os_lss rfl rfl) ?_
        refine vl_nil ?_
        refine v_cond_d rfl (fun h => ?_) (fun h => ?_)
        · obtain ⟨v, hv⟩ := hget k (by omega)
          obtain ⟨A1, c1, rfl, -⟩ := Own.form (hF.own k _ hv).1
          rw [mkC_len] at hv
          obtain ⟨bA, oA, rfl, -⟩ := hF.row (by omega)
          have hnk := hn1 k (by omega)
          obtain ⟨Z, hZ⟩ : ∃ Z, Z = w'.heap.size := ⟨_, rfl⟩
          have hFu := hF.upd (lab' := fun b => if b = Z then N + 2 else lab b) (fun b hb => if_neg (by omega))
          refine v_skip ?_
          refine v_seq ?_
          refine v_block ?_
          refine v_seq ?_
          refine v_region ?_
          refine vl_some (ot_make (l := 64) Try.underlying40 ti_int rfl rfl rfl rfl rfl (by omega) (by simp [maxLen]) w'.heap.size (Nat.le_refl _)) ?_
          rintro v1 w1 ⟨e1, ho1, hg1⟩
          rw [← hZ] at e1 ho1
          subst e1
          have hF1 := hFu.below ((Below.refl _ _).grown hg1 (Nat.le_refl _) (fun k hk => by cases hk))
          have hz1 := hF.kb.size
          refine vl_val (os_assign rfl) ?_
          refine vl_nil ?_
          refine v_seq ?_
          refine v_seq ?_
          refine v_region ?_
          refine vl_val (os_assign rfl) ?_
          refine vl_nil ?_
          refine v_block ?_
          refine v_loop [(0, _), (5, _), (11, _), (12, _)] (fun (i : Nat) => [(13, .int .i64 i)]) (fun i w' => i ≤ 64 ∧ Fl w0 B 3 40 S (some ⟨bA, oA, none⟩) ss (fun b => if b = Z then N + 2 else lab b) (fun j => mkC .i64 markZ j (nn j)) (.slice (some ⟨G, 0, none⟩) N N) gs k dd w' ∧ ∃ ms : List Int, ms.length = 64 ∧ OwnK w' Z 3 .i64 (.slice (some ⟨Z, 0, none⟩) 64 64) ms) (fun i => 64 - i) (0) ⟨rfl, rfl, rfl, rfl, trivial⟩ ⟨rfl, trivial⟩ (⟨by omega, hF1, List.replicate 64 0, by simp, by unfold OwnK; rw [List.map_replicate]; exact ho1⟩) ?_
          rintro i w' ⟨hi, hF, ms, hml, hom⟩
          refine v_seq ?_
          refine v_seq ?_
          refine v_region ?_
          refine vl_val (os_move rfl) ?_
          refine vl_val (os_lss rfl rfl) ?_
          refine vl_nil ?_
          refine v_cond_d rfl (fun h2 => ?_) (fun h2 => ?_)
          · refine v_skip ?_
            refine v_seq ?_
            refine v_block ?_
            refine v_region ?_
            refine vl_val (os_move rfl) ?_
            refine vl_val (os_move rfl) ?_
            refine vl_val (os_move rfl) ?_
            refine vl_val (os_move rfl) ?_
            refine vl_val (os_len Try.underlying59 rfl) ?_
            refine vl_val (os_addi rfl rfl (by omega)) ?_
            refine vl_val (os_move rfl) ?_
            refine vl_call (kit_mark ((k : Int) + N) i w' (by omega) (by omega)) rfl ?_
            rintro v4 w' ⟨rfl, rfl⟩
            refine vl_val (os_ix Try.underlying40 Try.sizeOf3 rfl rfl (i := i) (by omega) (by omega)) ?_
            refine vl_unit (ou_store Try.sizeOf3 rfl rfl rfl ((OwnK.cell hom (by omega))) ((Own.free hom _))) ?_
            refine vl_nil ?_
            refine v_region ?_
            refine vl_val (os_move rfl) ?_
            refine vl_val (os_addi rfl rfl (by omega)) ?_
            refine vl_val (os_assign rfl) ?_
            refine vl_nil ?_
            exact ⟨i + 1, ⟨rfl, rfl, rfl, rfl, trivial⟩, ⟨rfl, trivial⟩, ⟨by omega, by rw [Nat.zero_add]; exact hF.away (S' := [Z]) (Kb.set (by simp) i _) (fun b hb => .inl (by rw [List.mem_singleton.1 hb, if_pos rfl]; omega)), ms.set i (markZ ((k : Int) + N) i), (List.length_set ..).trans hml, by rw [Nat.zero_add]; exact OwnK.set hom i _⟩, by dsimp only; omega⟩
          · obtain rfl : i = 64 := by omega
            have hG := hF.gr hv
            refine v_exit ?_
            refine v_region ?_
            refine vl_val (os_move rfl) ?_
            refine vl_val (os_move rfl) ?_
            refine vl_val (os_move rfl) ?_
            refine vl_val (os_move rfl) ?_
            refine vl_val (os_ix Try.underlying59 Try.sizeOf40 rfl rfl (i := k) (by omega) (by omega)) ?_
            refine vl_val (os_load Try.isAgg40 rfl (hF.row.get hv)) ?_
            refine vl_val (os_move rfl) ?_
            refine vl_some (ot_append_s Try.underlying40 ti_int rfl rfl rfl hG.own (OwnK.rd hom).toC (by simp [hml]) (ints_one _ _) (by simp [mkC_len]; omega) (by simp [maxLen, mkC_len]; omega) (by have := hF.kb.size; have := hF.low; omega) (by simp [hml])) ?_
            rintro v5 w5 ⟨ho5, hg5, hn5⟩
            obtain ⟨lab5, hF5, hG5⟩ := hF.grow (by omega) (Nat.le_refl _) hG hg5 hn5 ho5
            obtain ⟨Ag, cg, rfl, -⟩ := Own.form hG5.own
            refine vl_val (os_ix Try.underlying59 Try.sizeOf40 rfl rfl (i := k) (by omega) (by omega)) ?_
            refine vl_unit (ou_store Try.sizeOf40 rfl rfl rfl ((Own.get hF5.gown.1 (List.getElem?_eq_getElem (by omega)))) ((Own.free hF5.gown.1 _))) ?_
            refine vl_nil ?_
            refine v_region ?_
            refine vl_val (os_move rfl) ?_
            refine vl_val (os_addi rfl rfl (by omega)) ?_
            refine vl_val (os_assign rfl) ?_
            refine vl_nil ?_
            exact ⟨k + 1, ⟨rfl, rfl, trivial⟩, ⟨rfl, trivial⟩, ⟨by omega, lab5, _, _, (List.length_set ..).trans hgl, hF5.put (by omega) (by omega) hG5, fun j hj => by by_cases e : j = k; (subst e; rw [if_pos rfl]; exact ⟨by rw [List.length_append, mkC_len]; omega, by rw [List.take_append_of_le_length (by rw [mkC_len]; exact Nat.le_refl _), List.take_of_length_le (by rw [mkC_len]; exact Nat.le_refl _)]⟩); (rw [if_neg e]; exact hD j (by omega))⟩, by dsimp only; omega⟩
        · obtain rfl : N = k := by omega
          refine v_exit ?_
          refine v_seq ?_
          refine v_seq ?_
          refine v_region ?_
          refine vl_val (os_assign rfl) ?_
          refine vl_nil ?_
          refine v_block ?_
          refine v_loop [(0, _), (5, _)] (fun (k : Nat) => [(14, .int .i64 k)]) (fun k w' => k ≤ N ∧ Fl w0 B 3 40 S A ss lab (fun j => mkC .i64 markZ j (nn j)) (.slice (some ⟨G, 0, none⟩) N N) gs N dd w') (fun k => N - k) (0) ⟨rfl, rfl, trivial⟩ ⟨rfl, trivial⟩ (⟨by omega, hF⟩) ?_
          rintro k w' ⟨hk, hF⟩
          refine v_seq ?_
          refine v_seq ?_
          refine v_region ?_
          refine vl_val (os_move rfl) ?_
          refine vl_val (os_move rfl) ?_
          refine vl_val (os_len Try.underlying59 rfl) ?_
          refine vl_val (os_lss rfl rfl) ?_
          refine vl_nil ?_
          refine v_cond_d rfl (fun h => ?_) (fun h => ?_)
          · obtain ⟨v, hv⟩ := hget k (by omega)
            obtain ⟨A1, c1, rfl, -⟩ := Own.form (hF.own k _ hv).1
            rw [mkC_len] at hv
            obtain ⟨bA, oA, rfl, -⟩ := hF.row (by omega)
            obtain ⟨u, hu⟩ : ∃ u, gs[k]? = some u := ⟨gs[k]'(by omega), List.getElem?_eq_getElem (by omega)⟩
            obtain ⟨A2, c2, rfl, -⟩ := Own.form (hF.own2 k _ (by omega) hu).1
            have hnk := hn1 k (by omega)
            have hDk := hD k (by omega)
            refine v_skip ?_
            refine v_seq ?_
            refine v_block ?_
            refine v_seq ?_
            refine v_region ?_
            refine vl_val (os_assign rfl) ?_
            refine vl_nil ?_
            refine v_block ?_
            refine v_loop [(0, _), (5, _), (14, _)] (fun (i : Nat) => [(15, .int .i64 i)]) (fun i w' => i ≤ nn k ∧ Fl w0 B 3 40 S (some ⟨bA, oA, none⟩) ss lab (fun j => mkC .i64 markZ j (nn j)) (.slice (some ⟨G, 0, none⟩) N N) gs N dd w') (fun i => nn k - i) (0) ⟨rfl, rfl, rfl, trivial⟩ ⟨rfl, trivial⟩ (⟨by omega, hF⟩) ?_
            rintro i w' ⟨hi, hF⟩
            refine v_seq ?_
            refine v_seq ?_
            refine v_region ?_
            refine vl_val (os_move rfl) ?_
            refine vl_val (os_move rfl) ?_
            refine vl_val (os_move rfl) ?_
            refine vl_val (os_ix Try.underlying59 Try.sizeOf40 rfl rfl (i := k) (by omega) (by omega)) ?_
            refine vl_val (os_load Try.isAgg40 rfl (hF.row.get hv)) ?_
            refine vl_val (os_len Try.underlying40 rfl) ?_
            refine vl_val (os_lss rfl rfl) ?_
            refine vl_nil ?_
            refine v_cond_d rfl (fun h2 => ?_) (fun h2 => ?_)
            · obtain ⟨g1, c1, e, -⟩ := Own.row (hF.own k _ hv).1 (by rw [mkC_len]; omega)
              rw [mkC_len] at e
              cases e
              obtain ⟨g2, c2, e, -⟩ := Own.row (hF.own2 k _ (by omega) hu).1 (by omega)
              cases e
              have hd2 : (dd k)[i]? = some (Value.int .i64 (markZ k i)) := by rw [← mkC_at .i64 markZ k (n := nn k) (i := i) (by omega), ← hDk.2, List.getElem?_take, if_pos (by omega)]
              refine v_skip ?_
              refine v_seq ?_
              refine v_block ?_
              refine v_seq ?_
              refine v_region_t LeD _ mixed (by kernel_rfl) lee_d (led_start _) ?_
              refine vt_val (fun w hw => os_move rfl) ?_
              refine vt_val (fun w hw => os_move rfl) ?_
              refine vt_val (fun w hw => os_ix Try.underlying59 Try.sizeOf40 rfl rfl (i := k) (by omega) (by omega)) ?_
              refine vt_val (fun w hw => os_load Try.isAgg40 rfl (led_cell hw (hF.row.get hv))) ?_
              refine vt_val (fun w hw => os_move rfl) ?_
              refine vt_val (fun w hw => os_ix Try.underlying40 Try.sizeOf3 rfl rfl (i := i) (by omega) (by omega)) ?_
              refine vt_val (fun w hw => os_load Try.isAgg3 rfl (led_cell hw (Own.get (hF.own k _ hv).1 (mkC_at _ _ _ (by omega))))) ?_
              refine vt_val (fun w hw => os_move rfl) ?_
              refine vt_val (fun w hw => os_move rfl) ?_
              refine vt_call (v := _) (fun w hw => (kit_mark k i w (by omega) (by omega)).mono fun v w' hh => ⟨hh.1, by rw [hh.2]; exact lee_d.refl _⟩) rfl ?_
              refine vt_val (fun w hw => os_t (os_eql rfl rfl) (rfl)) ?_
              refine vt_val (fun w hw => os_not rfl) ?_
              refine vt_val (fun w hw => os_move rfl) ?_
              refine vt_valg rfl (fun w hw => os_move rfl) ?_
              refine vt_valg rfl (fun w hw => os_move rfl) ?_
              refine vt_valg rfl (fun w hw => os_ix Try.underlying59 Try.sizeOf40 rfl rfl (i := k) (by omega) (by omega)) ?_
              refine vt_valg rfl (fun w hw => os_load Try.isAgg40 rfl (led_cell hw (Own.get hF.gown.1 hu))) ?_
              refine vt_valg rfl (fun w hw => os_move rfl) ?_
              refine vt_valg rfl (fun w hw => os_ix Try.underlying40 Try.sizeOf3 rfl rfl (i := i) (by omega) (by omega)) ?_
              refine vt_valg rfl (fun w hw => os_load Try.isAgg3 rfl (led_cell hw (Own.get (hF.own2 k _ (by omega) hu).1 hd2))) ?_
              refine vt_valg rfl (fun w hw => os_move rfl) ?_
              refine vt_valg rfl (fun w hw => os_move rfl) ?_
              refine vt_callg rfl (v := _) (fun w hw => (kit_mark k i w (by omega) (by omega)).mono fun v w' hh => ⟨hh.1, by rw [hh.2]; exact lee_d.refl _⟩) rfl ?_
              refine vt_valg rfl (fun w hw => os_t (os_eql rfl rfl) (rfl)) ?_
              refine vt_valg rfl (fun w hw => os_not rfl) ?_
              refine vt_val (fun w hw => os_pick_f rfl rfl) ?_
              refine vt_nil (fun w hw => ?_)
              obtain ⟨q, rfl⟩ := hw
              refine v_cond_f rfl ?_
              refine v_skip ?_
              refine v_region ?_
              refine vl_val (os_move rfl) ?_
              refine vl_val (os_addi rfl rfl (by omega)) ?_
              refine vl_val (os_assign rfl) ?_
              refine vl_nil ?_
              exact ⟨i + 1, ⟨rfl, rfl, rfl, trivial⟩, ⟨rfl, trivial⟩, ⟨by omega, hF.led' ⟨q, rfl⟩⟩, by dsimp only; omega⟩
            · refine v_exit ?_
              refine v_region ?_
              refine vl_val (os_move rfl) ?_
              refine vl_val (os_addi rfl rfl (by omega)) ?_
              refine vl_val (os_assign rfl) ?_
              refine vl_nil ?_
              exact ⟨k + 1, ⟨rfl, rfl, trivial⟩, ⟨rfl, trivial⟩, ⟨by omega, hF⟩, by dsimp only; omega⟩
          · refine v_exit ?_
            refine v_seq ?_
            refine v_region ?_
            refine vl_val (os_assign rfl) ?_
            refine vl_nil ?_
            refine v_ret ?_
            exact post_ret rfl rfl (⟨rfl, hF.kb⟩)
set_option maxHeartbeats 4000000 in
theorem kit_flatBytes (A : Option Addr) (N cA B : Nat) (S : List Nat) (ss : List Value) (lab : Nat → Nat) (nn : Nat → Nat) (c0 d0 : Nat → List Value) (w0 w : World) (hF0 : Fl w0 B 5 22 S A ss lab c0 (.slice none 0 0) [] 0 d0 w) (hN : ss.length = N) (hN1 : N ≤ 100000)
    (hn0 : ∀ j, j < N → (c0 j).length = nn j) (hn1 : ∀ j, j < N → nn j ≤ 1000000000) : Gives Try.prog 112 #[.slice A N cA] w fun v w' => v = .bool true ∧ Kb S w0 w' := by
  have hget : ∀ k, k < N → ∃ v, ss[k]? = some v := fun k hk => ⟨ss[k]'(by omega), List.getElem?_eq_getElem (by omega)⟩
  refine gives_enter Try.call112 Try.func112 rfl rfl rfl (by kernel_rfl) ?_
  refine v_seq ?_
  refine v_region ?_
  refine vl_val (os_assign rfl) ?_
  refine vl_nil ?_
  refine v_seq ?_
  refine v_seq ?_
  refine v_region ?_
  refine vl_val (os_assign rfl) ?_
  refine vl_nil ?_
  refine v_block ?_
  refine v_loop [(0, _)] (fun (k : Nat) => [(3, .int .i64 k)]) (fun k w' => k ≤ N ∧ ∃ cc, Fl w0 B 5 22 S A ss lab cc (.slice none 0 0) [] 0 d0 w' ∧ (∀ j, j < N → (cc j).length = nn j) ∧ (∀ j, j < k → cc j = mkC .u8 markB j (nn j))) (fun k => N - k) (0) ⟨rfl, trivial⟩ ⟨rfl, trivial⟩ (⟨by omega, c0, hF0, hn0, fun j hj => absurd hj (by omega)⟩) ?_
  rintro k w' ⟨hk, cc, hF, hL, hM⟩
  refine v_seq ?_
  refine v_seq ?_
  refine v_region ?_
  refine vl_val (os_move rfl) ?_
  refine vl_val (os_move rfl) ?_
  refine vl_val (os_len Try.underlying23 rfl) ?_
  refine vl_val (os_lss rfl rfl) ?_
  refine vl_nil ?_
  refine v_cond_d rfl (fun h => ?_) (fun h => ?_)
  · obtain ⟨v, hv⟩ := hget k (by omega)
    obtain ⟨A1, c1, rfl, -⟩ := Own.form (hF.own k _ hv).1
    rw [hL k (by omega)] at hv
    obtain ⟨bA, oA, rfl, -⟩ := hF.row (by omega)
    have hnk := hn1 k (by omega)
    refine v_skip ?_
    refine v_seq ?_
    refine v_block ?_
    refine v_seq ?_
    refine v_region ?_
    refine vl_val (os_assign rfl) ?_
    refine vl_nil ?_
    refine v_block ?_
    refine v_loop [(0, _), (3, _)] (fun (i : Nat) => [(4, .int .i64 i)]) (fun i w' => i ≤ nn k ∧ ∃ cc, Fl w0 B 5 22 S (some ⟨bA, oA, none⟩) ss lab cc (.slice none 0 0) [] 0 d0 w' ∧ (∀ j, j < N → (cc j).length = nn j) ∧ (∀ j, j < k → cc j = mkC .u8 markB j (nn j)) ∧ (cc k).take i = mkC .u8 markB k i) (fun i => nn k - i) (0) ⟨rfl, rfl, trivial⟩ ⟨rfl, trivial⟩ (⟨by omega, cc, hF, hL, hM, by simp [mkC]⟩) ?_
    rintro i w' ⟨hi, cc, hF, hL, hM, hT⟩
    refine v_seq ?_
    refine v_seq ?_
    refine v_region ?_
    refine vl_val (os_move rfl) ?_
    refine vl_val (os_move rfl) ?_
    refine vl_val (os_move rfl) ?_
    refine vl_val (os_ix Try.underlying23 Try.sizeOf22 rfl rfl (i := k) (by omega) (by omega)) ?_
    refine vl_val (os_load Try.isAgg22 rfl (hF.row.get hv)) ?_
    refine vl_val (os_len Try.underlying22 rfl) ?_
    refine vl_val (os_lss rfl rfl) ?_
    refine vl_nil ?_
    refine v_cond_d rfl (fun h2 => ?_) (fun h2 => ?_)
    · obtain ⟨g, c, e, -⟩ := Own.row (hF.own k _ hv).1 (by rw [hL k (by omega)]; omega)
      rw [hL k (by omega)] at e
      cases e
      have hne := hF.ne_row hv
      refine v_skip ?_
      refine v_seq ?_
      refine v_block ?_
      refine v_region_t (LeS (⟨g, 0 + i, none⟩) (.int .u8 (markB k i))) _ mixed (by kernel_rfl) (lee_s _ _) (les_start _ _ _) ?_
      refine vt_val (fun w hw => os_move rfl) ?_
      refine vt_val (fun w hw => os_move rfl) ?_
      refine vt_val (fun w hw => os_ix Try.underlying23 Try.sizeOf22 rfl rfl (i := k) (by omega) (by omega)) ?_
      refine vt_val (fun w hw => os_load Try.isAgg22 rfl (les_cell hw (fun e => by have := congrArg Addr.block e; dsimp only at this; omega) (hF.row.get hv))) ?_
      refine vt_val (fun w hw => os_move rfl) ?_
      refine vt_val (fun w hw => os_move rfl) ?_
      refine vt_val (fun w hw => os_move rfl) ?_
      refine vt_call (v := _) (fun w hw => (kit_markByte k i w (by have := hn1 k (by omega); omega) (by have := hn1 k (by omega); omega)).mono fun v w' hh => ⟨hh.1, by rw [hh.2]; exact (lee_s _ _).refl _⟩) rfl ?_
      refine vt_val (fun w hw => os_ix Try.underlying22 Try.sizeOf5 rfl rfl (i := i) (by omega) (by omega)) ?_
      refine vt_store Try.sizeOf5 rfl rfl rfl ((Own.get (hF.own k _ hv).1 (List.getElem?_eq_getElem (by rw [hL k (by omega)]; omega)))) ((Own.free (hF.own k _ hv).1 _)) ?_
      refine vt_nilg (fun w hw hg => ?_)
      obtain ⟨-, -, q, rfl⟩ := hg
      refine v_region ?_
      refine vl_val (os_move rfl) ?_
      refine vl_val (os_addi rfl rfl (by omega)) ?_
      refine vl_val (os_assign rfl) ?_
      refine vl_nil ?_
      exact ⟨i + 1, ⟨rfl, rfl, trivial⟩, ⟨rfl, trivial⟩, ⟨by omega, _, (hF.set hv (Nat.zero_le _) i _).led' ⟨q, rfl⟩, fun j hj => by by_cases e : j = k; (subst e; simpa using hL j hj); (simpa [e] using hL j hj), fun j hj => by rw [if_neg (by omega)]; exact hM j hj, by rw [if_pos rfl]; exact take_set hT (by rw [hL k (by omega)]; omega)⟩, by dsimp only; omega⟩
    · obtain rfl : i = nn k := by omega
      refine v_exit ?_
      refine v_region ?_
      refine vl_val (os_move rfl) ?_
      refine vl_val (os_addi rfl rfl (by omega)) ?_
      refine vl_val (os_assign rfl) ?_
      refine vl_nil ?_
      exact ⟨k + 1, ⟨rfl, trivial⟩, ⟨rfl, trivial⟩, ⟨by omega, cc, hF, hL, fun j hj => by by_cases hjk : j = k; (subst hjk; rw [← hT, List.take_of_length_le (by rw [hL j (by omega)]; exact Nat.le_refl _)]); (exact hM j (by omega))⟩, by dsimp only; omega⟩
  · obtain rfl : N = k := by omega
    have hF1 := hF.congr (cc' := fun j => mkC .u8 markB j (nn j)) (fun j hj => (hM j (by omega)).symm)
    refine v_exit ?_
    refine v_seq ?_
    refine v_region ?_
    refine vl_val (os_move rfl) ?_
    refine vl_val (os_len Try.underlying23 rfl) ?_
    refine vl_some (ot_make (l := N) Try.underlying23 ti_bytes rfl rfl rfl rfl rfl (by omega) (by simp [maxLen]; omega) w'.heap.size (Nat.le_refl _)) ?_
    rintro v1 w1 ⟨e1, ho1, hg1⟩
    have hF2 := hF1.made hg1 e1 ho1
    have hd0 : ∃ G gs lab dd, v1 = .slice (some ⟨G, 0, none⟩) N N ∧ gs.length = N ∧ Fl w0 B 5 22 S A ss lab (fun j => mkC .u8 markB j (nn j)) v1 gs 0 dd w1 := ⟨_, _, _, _, e1, by simp, hF2⟩
    clear hF hL hM hF1 hF2 hg1 ho1 e1 hF0
    obtain ⟨G, gs, lab, dd, rfl, hgl, hF⟩ := hd0
    refine vl_val (os_assign rfl) ?_
    refine vl_nil ?_
    refine v_seq ?_
    refine v_seq ?_
    refine v_region ?_
    refine vl_val (os_assign rfl) ?_
    refine vl_nil ?_
    refine v_block ?_
    refine v_loop [(0, _), (5, _)] (fun (k : Nat) => [(6, .int .i64 k)]) (fun k w' => k ≤ N ∧ ∃ lab gs, gs.length = N ∧ Fl w0 B 5 22 S A ss lab (fun j => mkC .u8 markB j (nn j)) (.slice (some ⟨G, 0, none⟩) N N) gs k (fun j => mkC .u8 markB j (nn j + 64)) w') (fun k => N - k) (0) ⟨rfl, rfl, trivial⟩ ⟨rfl, trivial⟩ (⟨by omega, lab, gs, hgl, hF.congr2 (fun j hj => absurd hj (by omega))⟩) ?_
    rintro k w' ⟨hk, lab, gs, hgl, hF⟩
    refine v_seq ?_
    refine v_seq ?_
    refine v_region ?_
    refine vl_val (os_move rfl) ?_
    refine vl_val (os_move rfl) ?_
    refine vl_val (os_len Try.underlying23 rfl) ?_
    refine vl_val (os_lss rfl rfl) ?_
    refine vl_nil ?_
    refine v_cond_d rfl (fun h => ?_) (fun h => ?_)
    · obtain ⟨v, hv⟩ := hget k (by omega)
      obtain ⟨A1, c1, rfl, -⟩ := Own.form (hF.own k _ hv).1
      rw [mkC_len] at hv
      obtain ⟨bA, oA, rfl, -⟩ := hF.row (by omega)
      refine v_skip ?_
      refine v_seq ?_
      refine v_block ?_
      refine v_seq ?_
      refine v_region ?_
      refine vl_val (os_move rfl) ?_
      refine vl_val (os_move rfl) ?_
      refine vl_val (os_ix Try.underlying23 Try.sizeOf22 rfl rfl (i := k) (by omega) (by omega)) ?_
      refine vl_val (os_load Try.isAgg22 rfl (hF.row.get hv)) ?_
      refine vl_val (os_assign rfl) ?_
      refine vl_nil ?_
      refine v_seq ?_
      refine v_seq ?_
      refine v_region ?_
      refine vl_val (os_assign rfl) ?_
      refine vl_nil ?_
      refine v_block ?_
      refine v_loop2 [(0, _), (5, _), (6, _)] (fun (g : Value) (i : Nat) => [(7, g), (8, .int .i64 i)]) (fun g i w' => i ≤ 64 ∧ ∃ lab, Fl w0 B 5 22 S (some ⟨bA, oA, none⟩) ss lab (fun j => mkC .u8 markB j (nn j)) (.slice (some ⟨G, 0, none⟩) N N) gs k (fun j => mkC .u8 markB j (nn j + 64)) w' ∧ Gr w0 B 5 S lab ss k g (mkC .u8 markB k (nn k + i)) w') (fun g i => 64 - i) (.slice A1 (nn k) c1) (0) ⟨rfl, rfl, rfl, trivial⟩ ⟨rfl, rfl, trivial⟩ (⟨by omega, lab, hF, hF.gr hv⟩) ?_
      rintro g i w' ⟨hi, lab, hF, hG⟩
      refine v_seq ?_
      refine v_seq ?_
      refine v_region ?_
      refine vl_val (os_move rfl) ?_
      refine vl_val (os_lss rfl rfl) ?_
      refine vl_nil ?_
      refine v_cond_d rfl (fun h2 => ?_) (fun h2 => ?_)
      · have hnk := hn1 k (by omega)
        refine v_skip ?_
        refine v_seq ?_
        refine v_block ?_
        refine v_region ?_
        refine vl_val (os_move rfl) ?_
        refine vl_val (os_move rfl) ?_
        refine vl_val (os_move rfl) ?_
        refine vl_val (os_move rfl) ?_
        refine vl_val (os_ix Try.underlying23 Try.sizeOf22 rfl rfl (i := k) (by omega) (by omega)) ?_
        refine vl_val (os_load Try.isAgg22 rfl (hF.row.get hv)) ?_
        refine vl_val (os_len Try.underlying22 rfl) ?_
        refine vl_val (os_move rfl) ?_
        refine vl_val (os_addi rfl rfl (by omega)) ?_
        refine vl_call (kit_markByte k ((nn k : Int) + i) w' (by omega) (by omega)) rfl ?_
        rintro v4 w' ⟨rfl, rfl⟩
        have hb4 : Below w'.heap.size w' (w'.alloc (.cells [Value.int .u8 (markB k ((nn k : Int) + i))].toArray 5)) := (Below.refl _ _).alloc (Nat.le_refl _) _
        have hF4 := hF.below hb4
        have hG4 := hG.below hb4
        refine vl_val (os_lit Try.underlying22 Try.sizeOf5 Try.zeroValue5 rfl rfl rfl rfl (by decide)) ?_
        refine vl_some (ot_append_s Try.underlying22 ti_u8 rfl rfl rfl hG4.own (rdc_alloc w' [Value.int .u8 (markB k ((nn k : Int) + i))] _) rfl (by simp [Value.oneCell']) (by simp [mkC_len]; omega) (by simp [maxLen, mkC_len]; omega) (by have := hF4.kb.size; have := hF4.low; omega) (by simp)) ?_
        rintro v5 w5 ⟨ho5, hg5, hn5⟩
        obtain ⟨lab5, hF5, hG5⟩ := hF4.grow (by omega) (Nat.le_refl _) hG4 hg5 hn5 ho5
        refine vl_val (os_assign rfl) ?_
        refine vl_nil ?_
        refine v_region ?_
        refine vl_val (os_move rfl) ?_
        refine vl_val (os_addi rfl rfl (by omega)) ?_
        refine vl_val (os_assign rfl) ?_
        refine vl_nil ?_
        exact ⟨⟨v5, i + 1⟩, ⟨rfl, rfl, rfl, trivial⟩, ⟨rfl, rfl, trivial⟩, ⟨by omega, lab5, hF5, by rw [← Nat.add_assoc, mkC_succ]; simpa using hG5⟩, by dsimp only; omega⟩
      · obtain rfl : i = 64 := by omega
        obtain ⟨Ag, cg, rfl, -⟩ := Own.form hG.own
        refine v_exit ?_
        refine v_region ?_
        refine vl_val (os_move rfl) ?_
        refine vl_val (os_move rfl) ?_
        refine vl_val (os_move rfl) ?_
        refine vl_val (os_ix Try.underlying23 Try.sizeOf22 rfl rfl (i := k) (by omega) (by omega)) ?_
        refine vl_unit (ou_store Try.sizeOf22 rfl rfl rfl ((Own.get hF.gown.1 (List.getElem?_eq_getElem (by omega)))) ((Own.free hF.gown.1 _))) ?_
        refine vl_nil ?_
        refine v_region ?_
        refine vl_val (os_move rfl) ?_
        refine vl_val (os_addi rfl rfl (by omega)) ?_
        refine vl_val (os_assign rfl) ?_
        refine vl_nil ?_
        exact ⟨k + 1, ⟨rfl, rfl, trivial⟩, ⟨rfl, trivial⟩, ⟨by omega, lab, _, (List.length_set ..).trans hgl, (hF.put (by omega) (by omega) hG).congr2 (fun j hj => by by_cases e : j = k <;> simp [e])⟩, by dsimp only; omega⟩
    · obtain rfl : N = k := by omega
      refine v_exit ?_
      refine v_seq ?_
      refine v_seq ?_
      refine v_region ?_
      refine vl_val (os_assign rfl) ?_
      refine vl_nil ?_
      refine v_block ?_
      refine v_loop [(0, _), (5, _)] (fun (k : Nat) => [(9, .int .i64 k)]) (fun k w' => k ≤ N ∧ Fl w0 B 5 22 S A ss lab (fun j => mkC .u8 markB j (nn j)) (.slice (some ⟨G, 0, none⟩) N N) gs N (fun j => mkC .u8 markB j (nn j + 64)) w') (fun k => N - k) (0) ⟨rfl, rfl, trivial⟩ ⟨rfl, trivial⟩ (⟨by omega, hF⟩) ?_
      rintro k w' ⟨hk, hF⟩
      refine v_seq ?_
      refine v_seq ?_
      refine v_region ?_
      refine vl_val (os_move rfl) ?_
      refine vl_val (os_move rfl) ?_
      refine vl_val (os_len Try.underlying23 rfl) ?_
      refine vl_val (os_lss rfl rfl) ?_
      refine vl_nil ?_
      refine v_cond_d rfl (fun h => ?_) (fun h => ?_)
      · obtain ⟨v, hv⟩ := hget k (by omega)
        obtain ⟨A1, c1, rfl, -⟩ := Own.form (hF.own k _ hv).1
        rw [mkC_len] at hv
        obtain ⟨bA, oA, rfl, -⟩ := hF.row (by omega)
        obtain ⟨u, hu⟩ : ∃ u, gs[k]? = some u := ⟨gs[k]'(by omega), List.getElem?_eq_getElem (by omega)⟩
        obtain ⟨g2, c2, rfl, -⟩ := Own.row (hF.own2 k _ (by omega) hu).1 (by rw [mkC_len]; omega)
        rw [mkC_len] at hu
        have hnk := hn1 k (by omega)
        refine v_skip ?_
        refine v_seq ?_
        refine v_block ?_
        refine v_seq ?_
        refine v_region ?_
        refine vl_val (os_assign rfl) ?_
        refine vl_nil ?_
        refine v_block ?_
        refine v_loop [(0, _), (5, _), (9, _)] (fun (i : Nat) => [(10, .int .i64 i)]) (fun i w' => i ≤ nn k + 64 ∧ Fl w0 B 5 22 S (some ⟨bA, oA, none⟩) ss lab (fun j => mkC .u8 markB j (nn j)) (.slice (some ⟨G, 0, none⟩) N N) gs N (fun j => mkC .u8 markB j (nn j + 64)) w') (fun i => nn k + 64 - i) (0) ⟨rfl, rfl, rfl, trivial⟩ ⟨rfl, trivial⟩ (⟨by omega, hF⟩) ?_
        rintro i w' ⟨hi, hF⟩
        refine v_seq ?_
        refine v_seq ?_
        refine v_region ?_
        refine vl_val (os_move rfl) ?_
        refine vl_val (os_move rfl) ?_
        refine vl_val (os_move rfl) ?_
        refine vl_val (os_ix Try.underlying23 Try.sizeOf22 rfl rfl (i := k) (by omega) (by omega)) ?_
        refine vl_val (os_load Try.isAgg22 rfl (Own.get hF.gown.1 hu)) ?_
        refine vl_val (os_len Try.underlying22 rfl) ?_
        refine vl_val (os_lss rfl rfl) ?_
        refine vl_nil ?_
        refine v_cond_d rfl (fun h2 => ?_) (fun h2 => ?_)
        · rcases Nat.lt_or_ge i (nn k) with hlt | hge
          · obtain ⟨g1, c1, e, -⟩ := Own.row (hF.own k _ hv).1 (by rw [mkC_len]; omega)
            rw [mkC_len] at e
            cases e
            refine v_skip ?_
            refine v_seq ?_
            refine v_block ?_
            refine v_seq ?_
            refine v_region_t LeD _ mixed (by kernel_rfl) lee_d (led_start _) ?_
            refine vt_val (fun w hw => os_move rfl) ?_
            refine vt_val (fun w hw => os_move rfl) ?_
            refine vt_val (fun w hw => os_ix Try.underlying23 Try.sizeOf22 rfl rfl (i := k) (by omega) (by omega)) ?_
            refine vt_val (fun w hw => os_load Try.isAgg22 rfl (led_cell hw (Own.get hF.gown.1 hu))) ?_
            refine vt_val (fun w hw => os_move rfl) ?_
            refine vt_val (fun w hw => os_ix Try.underlying22 Try.sizeOf5 rfl rfl (i := i) (by omega) (by omega)) ?_
            refine vt_val (fun w hw => os_load Try.isAgg5 rfl (led_cell hw (Own.get (hF.own2 k _ (by omega) hu).1 (mkC_at _ _ _ (by omega))))) ?_
            refine vt_val (fun w hw => os_move rfl) ?_
            refine vt_val (fun w hw => os_move rfl) ?_
            refine vt_call (v := _) (fun w hw => (kit_markByte k i w (by omega) (by omega)).mono fun v w' hh => ⟨hh.1, by rw [hh.2]; exact lee_d.refl _⟩) rfl ?_
            refine vt_val (fun w hw => os_t (os_eql rfl rfl) (rfl)) ?_
            refine vt_val (fun w hw => os_not rfl) ?_
            refine vt_val (fun w hw => os_move rfl) ?_
            refine vt_valg rfl (fun w hw => os_move rfl) ?_
            refine vt_valg rfl (fun w hw => os_move rfl) ?_
            refine vt_valg rfl (fun w hw => os_move rfl) ?_
            refine vt_valg rfl (fun w hw => os_ix Try.underlying23 Try.sizeOf22 rfl rfl (i := k) (by omega) (by omega)) ?_
            refine vt_valg rfl (fun w hw => os_load Try.isAgg22 rfl (led_cell hw (hF.row.get hv))) ?_
            refine vt_valg rfl (fun w hw => os_len Try.underlying22 rfl) ?_
            refine vt_valg rfl (fun w hw => os_t (os_lss rfl rfl) (by omega)) ?_
            refine vt_valg rfl (fun w hw => os_move rfl) ?_
            refine vt_valg rfl (fun w hw => os_move rfl) ?_
            refine vt_valg rfl (fun w hw => os_move rfl) ?_
            refine vt_valg rfl (fun w hw => os_ix Try.underlying23 Try.sizeOf22 rfl rfl (i := k) (by omega) (by omega)) ?_
            refine vt_valg rfl (fun w hw => os_load Try.isAgg22 rfl (led_cell hw (hF.row.get hv))) ?_
            refine vt_valg rfl (fun w hw => os_move rfl) ?_
            refine vt_valg rfl (fun w hw => os_ix Try.underlying22 Try.sizeOf5 rfl rfl (i := i) (by omega) (by omega)) ?_
            refine vt_valg rfl (fun w hw => os_load Try.isAgg5 rfl (led_cell hw (Own.get (hF.own k _ hv).1 (mkC_at _ _ _ (by omega))))) ?_
            refine vt_valg rfl (fun w hw => os_move rfl) ?_
            refine vt_valg rfl (fun w hw => os_move rfl) ?_
            refine vt_callg rfl (v := _) (fun w hw => (kit_markByte k i w (by omega) (by omega)).mono fun v w' hh => ⟨hh.1, by rw [hh.2]; exact lee_d.refl _⟩) rfl ?_
            refine vt_valg rfl (fun w hw => os_t (os_eql rfl rfl) (rfl)) ?_
            refine vt_valg rfl (fun w hw => os_not rfl) ?_
            refine vt_valg rfl (fun w hw => os_pick_t rfl rfl) ?_
            refine vt_val (fun w hw => os_pick_f rfl rfl) ?_
            refine vt_nil (fun w hw => ?_)
            obtain ⟨q, rfl⟩ := hw
            refine v_cond_f rfl ?_
            refine v_skip ?_
            refine v_region ?_
            refine vl_val (os_move rfl) ?_
            refine vl_val (os_addi rfl rfl (by omega)) ?_
            refine vl_val (os_assign rfl) ?_
            refine vl_nil ?_
            exact ⟨i + 1, ⟨rfl, rfl, rfl, trivial⟩, ⟨rfl, trivial⟩, ⟨by omega, hF.led' ⟨q, rfl⟩⟩, by dsimp only; omega⟩
          · refine v_skip ?_
            refine v_seq ?_
            refine v_block ?_
            refine v_seq ?_
            refine v_region_t LeD _ mixed (by kernel_rfl) lee_d (led_start _) ?_
            refine vt_val (fun w hw => os_move rfl) ?_
            refine vt_val (fun w hw => os_move rfl) ?_
            refine vt_val (fun w hw => os_ix Try.underlying23 Try.sizeOf22 rfl rfl (i := k) (by omega) (by omega)) ?_
            refine vt_val (fun w hw => os_load Try.isAgg22 rfl (led_cell hw (Own.get hF.gown.1 hu))) ?_
            refine vt_val (fun w hw => os_move rfl) ?_
            refine vt_val (fun w hw => os_ix Try.underlying22 Try.sizeOf5 rfl rfl (i := i) (by omega) (by omega)) ?_
            refine vt_val (fun w hw => os_load Try.isAgg5 rfl (led_cell hw (Own.get (hF.own2 k _ (by omega) hu).1 (mkC_at _ _ _ (by omega))))) ?_
            refine vt_val (fun w hw => os_move rfl) ?_
            refine vt_val (fun w hw => os_move rfl) ?_
            refine vt_call (v := _) (fun w hw => (kit_markByte k i w (by omega) (by omega)).mono fun v w' hh => ⟨hh.1, by rw [hh.2]; exact lee_d.refl _⟩) rfl ?_
            refine vt_val (fun w hw => os_t (os_eql rfl rfl) (rfl)) ?_
            refine vt_val (fun w hw => os_not rfl) ?_
            refine vt_val (fun w hw => os_move rfl) ?_
            refine vt_valg rfl (fun w hw => os_move rfl) ?_
            refine vt_valg rfl (fun w hw => os_move rfl) ?_
            refine vt_valg rfl (fun w hw => os_move rfl) ?_
            refine vt_valg rfl (fun w hw => os_ix Try.underlying23 Try.sizeOf22 rfl rfl (i := k) (by omega) (by omega)) ?_
            refine vt_valg rfl (fun w hw => os_load Try.isAgg22 rfl (led_cell hw (hF.row.get hv))) ?_
            refine vt_valg rfl (fun w hw => os_len Try.underlying22 rfl) ?_
            refine vt_valg rfl (fun w hw => os_f (os_lss rfl rfl) (by omega)) ?_
            refine vt_valg rfl (fun w hw => os_move rfl) ?_
            refine vt_skip rfl rfl ?_
            refine vt_skip rfl rfl ?_
            refine vt_skip rfl rfl ?_
            refine vt_skip rfl rfl ?_
            refine vt_skip rfl rfl ?_
            refine vt_skip rfl rfl ?_
            refine vt_skip rfl rfl ?_
            refine vt_skip rfl rfl ?_
            refine vt_skip rfl rfl ?_
            refine vt_skip rfl rfl ?_
            refine vt_skip rfl rfl ?_
            refine vt_skip rfl rfl ?_
            refine vt_valg rfl (fun w hw => os_pick_f rfl rfl) ?_
            refine vt_val (fun w hw => os_pick_f rfl rfl) ?_
            refine vt_nil (fun w hw => ?_)
            obtain ⟨q, rfl⟩ := hw
            refine v_cond_f rfl ?_
            refine v_skip ?_
            refine v_region ?_
            refine vl_val (os_move rfl) ?_
            refine vl_val (os_addi rfl rfl (by omega)) ?_
            refine vl_val (os_assign rfl) ?_
            refine vl_nil ?_
            exact ⟨i + 1, ⟨rfl, rfl, rfl, trivial⟩, ⟨rfl, trivial⟩, ⟨by omega, hF.led' ⟨q, rfl⟩⟩, by dsimp only; omega⟩
        · refine v_exit ?_
          refine v_region ?_
          refine vl_val (os_move rfl) ?_
          refine vl_val (os_addi rfl rfl (by omega)) ?_
          refine vl_val (os_assign rfl) ?_
          refine vl_nil ?_
          exact ⟨k + 1, ⟨rfl, rfl, trivial⟩, ⟨rfl, trivial⟩, ⟨by omega, hF⟩, by dsimp only; omega⟩
      · obtain rfl : N = k := by omega
        have hF0 := (hF.less (Nat.zero_le _)).congr2 (dd' := fun j => mkC .u8 markB j (nn j)) (fun j hj => absurd hj (by omega))
        refine v_exit ?_
        refine v_seq ?_
        refine v_seq ?_
        refine v_region ?_
        refine vl_val (os_assign rfl) ?_
        refine vl_nil ?_
        refine v_block ?_
        refine v_loop [(0, _), (5, _)] (fun (k : Nat) => [(11, .int .i64 k)]) (fun k w' => k ≤ N ∧ ∃ lab gs dd, gs.length = N ∧ Fl w0 B 5 22 S A ss lab (fun j => mkC .u8 markB j (nn j)) (.slice (some ⟨G, 0, none⟩) N N) gs k dd w' ∧ ∀ j, j < k → nn j ≤ (dd j).length ∧ (dd j).take (nn j) = mkC .u8 markB j (nn j)) (fun k => N - k) (0) ⟨rfl, rfl, trivial⟩ ⟨rfl, trivial⟩ (⟨by omega, lab, gs, _, hgl, hF0, fun j hj => absurd hj (by omega)⟩) ?_
        rintro k w' ⟨hk, lab, gs, dd, hgl, hF, hD⟩
        refine v_seq ?_
        refine v_seq ?_
        refine v_region ?_
        refine vl_val (os_move rfl) ?_
        refine vl_val (os_move rfl) ?_
        refine vl_val (os_len Try.underlying23 rfl) ?_
        refine vl_val (os_lss rfl rfl) ?_
        refine vl_nil ?_
        refine v_cond_d rfl (fun h => ?_) (fun h => ?_)
        · obtain ⟨v, hv⟩ := hget k (by omega)
          obtain ⟨A1, c1, rfl, -⟩ := Own.form (hF.own k _ hv).1
          rw [mkC_len] at hv
          obtain ⟨bA, oA, rfl, -⟩ := hF.row (by omega)
          have hnk := hn1 k (by omega)
          obtain ⟨Z, hZ⟩ : ∃ Z, Z = w'.heap.size := ⟨_, rfl⟩
          have hFu := hF.upd (lab' := fun b => if b = Z then N + 2 else lab b) (fun b hb => if_neg (by omega))
          refine v_skip ?_
          refine v_seq ?_
          refine v_block ?_
          refine v_seq ?_
          refine v_region ?_
          refine vl_some (ot_make (l := 64) Try.underlying22 ti_u8 rfl rfl rfl rfl rfl (by omega) (by simp [maxLen]) w'.heap.size (Nat.le_refl _)) ?_
          rintro v1 w1 ⟨e1, ho1, hg1⟩
          rw [← hZ] at e1 ho1
          subst e1
          have hF1 := hFu.below ((Below.refl _ _).grown hg1 (Nat.le_refl _) (fun k hk => by cases hk))
          have hz1 := hF.kb.size
          refine vl_val (os_assign rfl) ?_
          refine vl_nil ?_
          refine v_seq ?_
          refine v_seq ?_
          refine v_region ?_
          refine vl_val (os_assign rfl) ?_
          refine vl_nil ?_
          refine v_block ?_
          refine v_loop [(0, _), (5, _), (11, _), (12, _)] (fun (i : Nat) => [(13, .int .i64 i)]) (fun i w' => i ≤ 64 ∧ Fl w0 B 5 22 S (some ⟨bA, oA, none⟩) ss (fun b => if b = Z then N + 2 else lab b) (fun j => mkC .u8 markB j (nn j)) (.slice (some ⟨G, 0, none⟩) N N) gs k dd w' ∧ ∃ ms : List Int, ms.length = 64 ∧ OwnK w' Z 5 .u8 (.slice (some ⟨Z, 0, none⟩) 64 64) ms) (fun i => 64 - i) (0) ⟨rfl, rfl, rfl, rfl, trivial⟩ ⟨rfl, trivial⟩ (⟨by omega, hF1, List.replicate 64 0, by simp, by unfold OwnK; rw [List.map_replicate]; exact ho1⟩) ?_
          rintro i w' ⟨hi, hF, ms, hml, hom⟩
          refine v_seq ?_
          refine v_seq ?_
          refine v_region ?_
          refine vl_val (os_move rfl) ?_
          refine vl_val (os_lss rfl rfl) ?_
          refine vl_nil ?_
          refine v_cond_d rfl (fun h2 => ?_) (fun h2 => ?_)
          · refine v_skip ?_
            refine v_seq ?_
            refine v_block ?_
            refine v_region ?_
            refine vl_val (os_move rfl) ?_
            refine vl_val (os_move rfl) ?_
            refine vl_val (os_move rfl) ?_
            refine vl_val (os_move rfl) ?_
            refine vl_val (os_len Try.underlying23 rfl) ?_
            refine vl_val (os_addi rfl rfl (by omega)) ?_
            refine vl_val (os_move rfl) ?_
            refine vl_call (kit_markByte ((k : Int) + N) i w' (by omega) (by omega)) rfl ?_
            rintro v4 w' ⟨rfl, rfl⟩
            refine vl_val (os_ix Try.underlying22 Try.sizeOf5 rfl rfl (i := i) (by omega) (by omega)) ?_
            refine vl_unit (ou_store Try.sizeOf5 rfl rfl rfl ((OwnK.cell hom (by omega))) ((Own.free hom _))) ?_
            refine vl_nil ?_
            refine v_region ?_
            refine vl_val (os_move rfl) ?_
            refine vl_val (os_addi rfl rfl (by omega)) ?_
            refine vl_val (os_assign rfl) ?_
            refine vl_nil ?_
            exact ⟨i + 1, ⟨rfl, rfl, rfl, rfl, trivial⟩, ⟨rfl, trivial⟩, ⟨by omega, by rw [Nat.zero_add]; exact hF.away (S' := [Z]) (Kb.set (by simp) i _) (fun b hb => .inl (by rw [List.mem_singleton.1 hb, if_pos rfl]; omega)), ms.set i (markB ((k : Int) + N) i), (List.length_set ..).trans hml, by rw [Nat.zero_add]; exact OwnK.set hom i _⟩, by dsimp only; omega⟩
          · obtain rfl : i = 64 := by omega
            have hG := hF.gr hv
            refine v_exit ?_
            refine v_region ?_
            refine vl_val (os_move rfl) ?_
            refine vl_val (os_move rfl) ?_
            refine vl_val (os_move rfl) ?_
            refine vl_val (os_move rfl) ?_
            refine vl_val (os_ix Try.underlying23 Try.sizeOf22 rfl rfl (i := k) (by omega) (by omega)) ?_
            refine vl_val (os_load Try.isAgg22 rfl (hF.row.get hv)) ?_
            refine vl_val (os_move rfl) ?_
            refine vl_some (ot_append_s Try.underlying22 ti_u8 rfl rfl rfl hG.own (OwnK.rd hom).toC (by simp [hml]) (ints_one _ _) (by simp [mkC_len]; omega) (by simp [maxLen, mkC_len]; omega) (by have := hF.kb.size; have := hF.low; omega) (by simp [hml])) ?_
            rintro v5 w5 ⟨ho5, hg5, hn5⟩
            obtain ⟨lab5, hF5, hG5⟩ := hF.grow (by omega) (Nat.le_refl _) hG hg5 hn5 ho5
            obtain ⟨Ag, cg, rfl, -⟩ := Own.form hG5.own
            refine vl_val (os_ix Try.underlying23 Try.sizeOf22 rfl rfl (i := k) (by omega) (by omega)) ?_
            refine vl_unit (ou_store Try.sizeOf22 rfl rfl rfl ((Own.get hF5.gown.1 (List.getElem?_eq_getElem (by omega)))) ((Own.free hF5.gown.1 _))) ?_
            refine vl_nil ?_
            refine v_region ?_
            refine vl_val (os_move rfl) ?_
            refine vl_val (os_addi rfl rfl (by omega)) ?_
            refine vl_val (os_assign rfl) ?_
            refine vl_nil ?_
            exact ⟨k + 1, ⟨rfl, rfl, trivial⟩, ⟨rfl, trivial⟩, ⟨by omega, lab5, _, _, (List.length_set ..).trans hgl, hF5.put (by omega) (by omega) hG5, fun j hj => by by_cases e : j = k; (subst e; rw [if_pos rfl]; exact ⟨by rw [List.length_append, mkC_len]; omega, by rw [List.take_append_of_le_length (by rw [mkC_len]; exact Nat.le_refl _), List.take_of_length_le (by rw [mkC_len]; exact Nat.le_refl _)]⟩); (rw [if_neg e]; exact hD j (by omega))⟩, by dsimp only; omega⟩
        · obtain rfl : N = k := by omega
          refine v_exit ?_
          refine v_seq ?_
          refine v_seq ?_
          refine v_region ?_
          refine vl_val (os_assign rfl) ?_
          refine vl_nil ?_
          refine v_block ?_
          refine v_loop [(0, _), (5, _)] (fun (k : Nat) => [(14, .int .i64 k)]) (fun k w' => k ≤ N ∧ Fl w0 B 5 22 S A ss lab (fun j => mkC .u8 markB j (nn j)) (.slice (some ⟨G, 0, none⟩) N N) gs N dd w') (fun k => N - k) (0) ⟨rfl, rfl, trivial⟩ ⟨rfl, trivial⟩ (⟨by omega, hF⟩) ?_
          rintro k w' ⟨hk, hF⟩
          refine v_seq ?_
          refine v_seq ?_
          refine v_region ?_
          refine vl_val (os_move rfl) ?_
          refine vl_val (os_move rfl) ?_
          refine vl_val (os_len Try.underlying23 rfl) ?_
          refine vl_val (os_lss rfl rfl) ?_
          refine vl_nil ?_
          refine v_cond_d rfl (fun h => ?_) (fun h => ?_)
          · obtain ⟨v, hv⟩ := hget k (by omega)
            obtain ⟨A1, c1, rfl, -⟩ := Own.form (hF.own k _ hv).1
            rw [mkC_len] at hv
            obtain ⟨bA, oA, rfl, -⟩ := hF.row (by omega)
            obtain ⟨u, hu⟩ : ∃ u, gs[k]? = some u := ⟨gs[k]'(by omega), List.getElem?_eq_getElem (by omega)⟩
            obtain ⟨A2, c2, rfl, -⟩ := Own.form (hF.own2 k _ (by omega) hu).1
            have hnk := hn1 k (by omega)
            have hDk := hD k (by omega)
            refine v_skip ?_
            refine v_seq ?_
            refine v_block ?_
            refine v_seq ?_
            refine v_region ?_
            refine vl_val (os_assign rfl) ?_
            refine vl_nil ?_
            refine v_block ?_
            refine v_loop [(0, _), (5, _), (14, _)] (fun (i : Nat) => [(15, .int .i64 i)]) (fun i w' => i ≤ nn k ∧ Fl w0 B 5 22 S (some ⟨bA, oA, none⟩) ss lab (fun j => mkC .u8 markB j (nn j)) (.slice (some ⟨G, 0, none⟩) N N) gs N dd w') (fun i => nn k - i) (0) ⟨rfl, rfl, rfl, trivial⟩ ⟨rfl, trivial⟩ (⟨by omega, hF⟩) ?_
            rintro i w' ⟨hi, hF⟩
            refine v_seq ?_
            refine v_seq ?_
            refine v_region ?_
            refine vl_val (os_move rfl) ?_
            refine vl_val (os_move rfl) ?_
            refine vl_val (os_move rfl) ?_
            refine vl_val (os_ix Try.underlying23 Try.sizeOf22 rfl rfl (i := k) (by omega) (by omega)) ?_
            refine vl_val (os_load Try.isAgg22 rfl (hF.row.get hv)) ?_
            refine vl_val (os_len Try.underlying22 rfl) ?_
            refine vl_val (os_lss rfl rfl) ?_
            refine vl_nil ?_
            refine v_cond_d rfl (fun h2 => ?_) (fun h2 => ?_)
            · obtain ⟨g1, c1, e, -⟩ := Own.row (hF.own k _ hv).1 (by rw [mkC_len]; omega)
              rw [mkC_len] at e
              cases e
              obtain ⟨g2, c2, e, -⟩ := Own.row (hF.own2 k _ (by omega) hu).1 (by omega)
              cases e
              have hd2 : (dd k)[i]? = some (Value.int .u8 (markB k i)) := by rw [← mkC_at .u8 markB k (n := nn k) (i := i) (by omega), ← hDk.2, List.getElem?_take, if_pos (by omega)]
              refine v_skip ?_
              refine v_seq ?_
              refine v_block ?_
              refine v_seq ?_
              refine v_region_t LeD _ mixed (by kernel_rfl) lee_d (led_start _) ?_
              refine vt_val (fun w hw => os_move rfl) ?_
              refine vt_val (fun w hw => os_move rfl) ?_
              refine vt_val (fun w hw => os_ix Try.underlying23 Try.sizeOf22 rfl rfl (i := k) (by omega) (by omega)) ?_
              refine vt_val (fun w hw => os_load Try.isAgg22 rfl (led_cell hw (hF.row.get hv))) ?_
              refine vt_val (fun w hw => os_move rfl) ?_
              refine vt_val (fun w hw => os_ix Try.underlying22 Try.sizeOf5 rfl rfl (i := i) (by omega) (by omega)) ?_
              refine vt_val (fun w hw => os_load Try.isAgg5 rfl (led_cell hw (Own.get (hF.own k _ hv).1 (mkC_at _ _ _ (by omega))))) ?_
              refine vt_val (fun w hw => os_move rfl) ?_
              refine vt_val (fun w hw => os_move rfl) ?_
              refine vt_call (v := _) (fun w hw => (kit_markByte k i w (by omega) (by omega)).mono fun v w' hh => ⟨hh.1, by rw [hh.2]; exact lee_d.refl _⟩) rfl ?_
              refine vt_val (fun w hw => os_t (os_eql rfl rfl) (rfl)) ?_
              refine vt_val (fun w hw => os_not rfl) ?_
              refine vt_val (fun w hw => os_move rfl) ?_
              refine vt_valg rfl (fun w hw => os_move rfl) ?_
              refine vt_valg rfl (fun w hw => os_move rfl) ?_
              refine vt_valg rfl (fun w hw => os_ix Try.underlying23 Try.sizeOf22 rfl rfl (i := k) (by omega) (by omega)) ?_
              refine vt_valg rfl (fun w hw => os_load Try.isAgg22 rfl (led_cell hw (Own.get hF.gown.1 hu))) ?_
              refine vt_valg rfl (fun w hw => os_move rfl) ?_
              refine vt_valg rfl (fun w hw => os_ix Try.underlying22 Try.sizeOf5 rfl rfl (i := i) (by omega) (by omega)) ?_
              refine vt_valg rfl (fun w hw => os_load Try.isAgg5 rfl (led_cell hw (Own.get (hF.own2 k _ (by omega) hu).1 hd2))) ?_
              refine vt_valg rfl (fun w hw => os_move rfl) ?_
              refine vt_valg rfl (fun w hw => os_move rfl) ?_
              refine vt_callg rfl (v := _) (fun w hw => (kit_markByte k i w (by omega) (by omega)).mono fun v w' hh => ⟨hh.1, by rw [hh.2]; exact lee_d.refl _⟩) rfl ?_
              refine vt_valg rfl (fun w hw => os_t (os_eql rfl rfl) (rfl)) ?_
              refine vt_valg rfl (fun w hw => os_not rfl) ?_
              refine vt_val (fun w hw => os_pick_f rfl rfl) ?_
              refine vt_nil (fun w hw => ?_)
              obtain ⟨q, rfl⟩ := hw
              refine v_cond_f rfl ?_
              refine v_skip ?_
              refine v_region ?_
              refine vl_val (os_move rfl) ?_
              refine vl_val (os_addi rfl rfl (by omega)) ?_
              refine vl_val (os_assign rfl) ?_
              refine vl_nil ?_
              exact ⟨i + 1, ⟨rfl, rfl, rfl, trivial⟩, ⟨rfl, trivial⟩, ⟨by omega, hF.led' ⟨q, rfl⟩⟩, by dsimp only; omega⟩
            · refine v_exit ?_
              refine v_region ?_
              refine vl_val (os_move rfl) ?_
              refine vl_val (os_addi rfl rfl (by omega)) ?_
              refine vl_val (os_assign rfl) ?_
              refine vl_nil ?_
              exact ⟨k + 1, ⟨rfl, rfl, trivial⟩, ⟨rfl, trivial⟩, ⟨by omega, hF⟩, by dsimp only; omega⟩
          · refine v_exit ?_
            refine v_seq ?_
            refine v_region ?_
            refine vl_val (os_assign rfl) ?_
            refine vl_nil ?_
            refine v_ret ?_
            exact post_ret rfl rfl (⟨rfl, hF.kb⟩)
end Go.Proofs.Ytpojijnjdlnokaa
