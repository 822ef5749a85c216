/- The law's kit: lists of bytes, the first of them stripes of one row, are marked, grown, looked at. -/
import Derived.Test.YtpojijnjdlnokaaFs
namespace Go.Proofs.Ytpojijnjdlnokaa
open Go.RowKit
set_option linter.unusedVariables false

set_option maxHeartbeats 4000000 in
theorem kit_flatBytesS (A : Option Addr) (N cA B : Nat) (S : List Nat) (ss : List Value) (K gb wd : Nat) (lab : Nat → Nat) (nn : Nat → Nat) (c0 d0 : Nat → List Value) (w0 w : World) (hF0 : Fs w0 B 5 22 S A ss K gb wd lab c0 (.slice none 0 0) [] 0 d0 w) (hN : ss.length = N) (hN1 : N ≤ 100000)
    (hn0 : ∀ j, j < N → (c0 j).length = nn j) (hn1 : ∀ j, j < N → nn j ≤ 1000000000) : Gives Try.prog 112 #[.slice A N cA] w fun v w' => v = .bool true ∧ Kb S w0 w' := by
  have hget : ∀ k, k < N → ∃ v, ss[k]? = some v := fun k hk => ⟨ss[k]'(by omega), List.getElem?_eq_getElem (by omega)⟩
  refine gives_enter Try.call112 Try.func112 rfl rfl rfl (by kernel_rfl) ?_
  refine v_seq ?_
  refine v_region ?_
  refine vl_val (os_assign rfl) ?_
  refine vl_nil ?_
  refine v_seq ?_
  refine v_seq ?_
  refine v_region ?_
  refine vl_val (os_assign rfl) ?_
  refine vl_nil ?_
  refine v_block ?_
  refine v_loop [(0, _)] (fun (k : Nat) => [(3, .int .i64 k)]) (fun k w' => k ≤ N ∧ ∃ cc, Fs w0 B 5 22 S A ss K gb wd lab cc (.slice none 0 0) [] 0 d0 w' ∧ (∀ j, j < N → (cc j).length = nn j) ∧ (∀ j, j < k → cc j = mkC .u8 markB j (nn j))) (fun k => N - k) (0) ⟨rfl, trivial⟩ ⟨rfl, trivial⟩ (⟨by omega, c0, hF0, hn0, fun j hj => absurd hj (by omega)⟩) ?_
  rintro k w' ⟨hk, cc, hF, hL, hM⟩
  refine v_seq ?_
  refine v_seq ?_
  refine v_region ?_
  refine vl_val (os_move rfl) ?_
  refine vl_val (os_move rfl) ?_
  refine vl_val (os_len Try.underlying23 rfl) ?_
  refine vl_val (os_lss rfl rfl) ?_
  refine vl_nil ?_
  refine v_cond_d rfl (fun h => ?_) (fun h => ?_)
  · obtain ⟨v, hv⟩ := hget k (by omega)
    obtain ⟨A1, c1, rfl⟩ := hF.form hv
    rw [hL k (by omega)] at hv
    obtain ⟨bA, oA, rfl, -⟩ := hF.row (by omega)
    have hnk := hn1 k (by omega)
    refine v_skip ?_
    refine v_seq ?_
    refine v_block ?_
    refine v_seq ?_
    refine v_region ?_
    refine vl_val (os_assign rfl) ?_
    refine vl_nil ?_
    refine v_block ?_
    refine v_loop [(0, _), (3, _)] (fun (i : Nat) => [(4, .int .i64 i)]) (fun i w' => i ≤ nn k ∧ ∃ cc, Fs w0 B 5 22 S (some ⟨bA, oA, none⟩) ss K gb wd lab cc (.slice none 0 0) [] 0 d0 w' ∧ (∀ j, j < N → (cc j).length = nn j) ∧ (∀ j, j < k → cc j = mkC .u8 markB j (nn j)) ∧ (cc k).take i = mkC .u8 markB k i) (fun i => nn k - i) (0) ⟨rfl, rfl, trivial⟩ ⟨rfl, trivial⟩ (⟨by omega, cc, hF, hL, hM, by simp [mkC]⟩) ?_
    rintro i w' ⟨hi, cc, hF, hL, hM, hT⟩
    refine v_seq ?_
    refine v_seq ?_
    refine v_region ?_
    refine vl_val (os_move rfl) ?_
    refine vl_val (os_move rfl) ?_
    refine vl_val (os_move rfl) ?_
    refine vl_val (os_ix Try.underlying23 Try.sizeOf22 rfl rfl (i := k) (by omega) (by omega)) ?_
    refine vl_val (os_load Try.isAgg22 rfl (hF.row.get hv)) ?_
    refine vl_val (os_len Try.underlying22 rfl) ?_
    refine vl_val (os_lss rfl rfl) ?_
    refine vl_nil ?_
    refine v_cond_d rfl (fun h2 => ?_) (fun h2 => ?_)
    · obtain ⟨g, o, rfl, hne, hcell⟩ := hF.acc hv (by rw [hL k (by omega)]; omega)
      have hne := hne bA oA rfl
      have hci := hcell i (by rw [hL k (by omega)]; omega)
      refine v_skip ?_
      refine v_seq ?_
      refine v_block ?_
      refine v_region_t (LeS (⟨g, o + i, none⟩) (.int .u8 (markB k i))) _ mixed (by kernel_rfl) (lee_s _ _) (les_start _ _ _) ?_
      refine vt_val (fun w hw => os_move rfl) ?_
      refine vt_val (fun w hw => os_move rfl) ?_
      refine vt_val (fun w hw => os_ix Try.underlying23 Try.sizeOf22 rfl rfl (i := k) (by omega) (by omega)) ?_
      refine vt_val (fun w hw => os_load Try.isAgg22 rfl (les_cell hw (fun e => by have := congrArg Addr.block e; dsimp only at this; omega) (hF.row.get hv))) ?_
      refine vt_val (fun w hw => os_move rfl) ?_
      refine vt_val (fun w hw => os_move rfl) ?_
      refine vt_val (fun w hw => os_move rfl) ?_
      refine vt_call (v := _) (fun w hw => (kit_markByte k i w (by have := hn1 k (by omega); omega) (by have := hn1 k (by omega); omega)).mono fun v w' hh => ⟨hh.1, by rw [hh.2]; exact (lee_s _ _).refl _⟩) rfl ?_
      refine vt_val (fun w hw => os_ix Try.underlying22 Try.sizeOf5 rfl rfl (i := i) (by omega) (by omega)) ?_
      refine vt_store Try.sizeOf5 rfl rfl rfl ((hci.1.trans (List.getElem?_eq_getElem (by rw [hL k (by omega)]; omega)))) (hci.2) ?_
      refine vt_nilg (fun w hw hg => ?_)
      obtain ⟨-, -, q, rfl⟩ := hg
      refine v_region ?_
      refine vl_val (os_move rfl) ?_
      refine vl_val (os_addi rfl rfl (by omega)) ?_
      refine vl_val (os_assign rfl) ?_
      refine vl_nil ?_
      exact ⟨i + 1, ⟨rfl, rfl, trivial⟩, ⟨rfl, trivial⟩, ⟨by omega, _, (hF.set hv (Nat.zero_le _) (by rw [hL k (by omega)]; omega) rfl _).led' ⟨q, rfl⟩, fun j hj => by by_cases e : j = k; (subst e; simpa using hL j hj); (simpa [e] using hL j hj), fun j hj => by rw [if_neg (by omega)]; exact hM j hj, by rw [if_pos rfl]; exact take_set hT (by rw [hL k (by omega)]; omega)⟩, by dsimp only; omega⟩
    · obtain rfl : i = nn k := by omega
      refine v_exit ?_
      refine v_region ?_
      refine vl_val (os_move rfl) ?_
      refine vl_val (os_addi rfl rfl (by omega)) ?_
      refine vl_val (os_assign rfl) ?_
      refine vl_nil ?_
      exact ⟨k + 1, ⟨rfl, trivial⟩, ⟨rfl, trivial⟩, ⟨by omega, cc, hF, hL, fun j hj => by by_cases hjk : j = k; (subst hjk; rw [← hT, List.take_of_length_le (by rw [hL j (by omega)]; exact Nat.le_refl _)]); (exact hM j (by omega))⟩, by dsimp only; omega⟩
  · obtain rfl : N = k := by omega
    have hF1 := hF.congr (cc' := fun j => mkC .u8 markB j (nn j)) (fun j hj => (hM j (by omega)).symm)
    refine v_exit ?_
    refine v_seq ?_
    refine v_region ?_
    refine vl_val (os_move rfl) ?_
    refine vl_val (os_len Try.underlying23 rfl) ?_
    refine vl_some (ot_make (l := N) Try.underlying23 ti_bytes rfl rfl rfl rfl rfl (by omega) (by simp [maxLen]; omega) w'.heap.size (Nat.le_refl _)) ?_
    rintro v1 w1 ⟨e1, ho1, hg1⟩
    have hF2 := hF1.made hg1 e1 ho1
    have hd0 : ∃ G gs lab dd, v1 = .slice (some ⟨G, 0, none⟩) N N ∧ gs.length = N ∧ Fs w0 B 5 22 S A ss K gb wd lab (fun j => mkC .u8 markB j (nn j)) v1 gs 0 dd w1 := ⟨_, _, _, _, e1, by simp, hF2⟩
    clear hF hL hM hF1 hF2 hg1 ho1 e1 hF0
    obtain ⟨G, gs, lab, dd, rfl, hgl, hF⟩ := hd0
    refine vl_val (os_assign rfl) ?_
    refine vl_nil ?_
    refine v_seq ?_
    refine v_seq ?_
    refine v_region ?_
    refine vl_val (os_assign rfl) ?_
    refine vl_nil ?_
    refine v_block ?_
    refine v_loop [(0, _), (5, _)] (fun (k : Nat) => [(6, .int .i64 k)]) (fun k w' => k ≤ N ∧ ∃ lab gs, gs.length = N ∧ Fs w0 B 5 22 S A ss K gb wd lab (fun j => mkC .u8 markB j (nn j)) (.slice (some ⟨G, 0, none⟩) N N) gs k (fun j => mkC .u8 markB j (nn j + 64)) w') (fun k => N - k) (0) ⟨rfl, rfl, trivial⟩ ⟨rfl, trivial⟩ (⟨by omega, lab, gs, hgl, hF.congr2 (fun j hj => absurd hj (by omega))⟩) ?_
    rintro k w' ⟨hk, lab, gs, hgl, hF⟩
    refine v_seq ?_
    refine v_seq ?_
    refine v_region ?_
    refine vl_val (os_move rfl) ?_
    refine vl_val (os_move rfl) ?_
    refine vl_val (os_len Try.underlying23 rfl) ?_
    refine vl_val (os_lss rfl rfl) ?_
    refine vl_nil ?_
    refine v_cond_d rfl (fun h => ?_) (fun h => ?_)
    · obtain ⟨v, hv⟩ := hget k (by omega)
      obtain ⟨A1, c1, rfl⟩ := hF.form hv
      rw [mkC_len] at hv
      obtain ⟨bA, oA, rfl, -⟩ := hF.row (by omega)
      refine v_skip ?_
      refine v_seq ?_
      refine v_block ?_
      refine v_seq ?_
      refine v_region ?_
      refine vl_val (os_move rfl) ?_
      refine vl_val (os_move rfl) ?_
      refine vl_val (os_ix Try.underlying23 Try.sizeOf22 rfl rfl (i := k) (by omega) (by omega)) ?_
      refine vl_val (os_load Try.isAgg22 rfl (hF.row.get hv)) ?_
      refine vl_val (os_assign rfl) ?_
      refine vl_nil ?_
      refine v_seq ?_
      refine v_seq ?_
      refine v_region ?_
      refine vl_val (os_assign rfl) ?_
      refine vl_nil ?_
      refine v_block ?_
      refine v_loop2 [(0, _), (5, _), (6, _)] (fun (g : Value) (i : Nat) => [(7, g), (8, .int .i64 i)]) (fun g i w' => i ≤ 64 ∧ ∃ lab, Fs w0 B 5 22 S (some ⟨bA, oA, none⟩) ss K gb wd lab (fun j => mkC .u8 markB j (nn j)) (.slice (some ⟨G, 0, none⟩) N N) gs k (fun j => mkC .u8 markB j (nn j + 64)) w' ∧ Gd w0 B 5 S lab ss K k i g (mkC .u8 markB k (nn k + i)) w') (fun g i => 64 - i) (.slice A1 (nn k) c1) (0) ⟨rfl, rfl, rfl, trivial⟩ ⟨rfl, rfl, trivial⟩ (⟨by omega, lab, hF, .inl ⟨rfl, hv⟩⟩) ?_
      rintro g i w' ⟨hi, lab, hF, hG⟩
      refine v_seq ?_
      refine v_seq ?_
      refine v_region ?_
      refine vl_val (os_move rfl) ?_
      refine vl_val (os_lss rfl rfl) ?_
      refine vl_nil ?_
      refine v_cond_d rfl (fun h2 => ?_) (fun h2 => ?_)
      · have hnk := hn1 k (by omega)
        refine v_skip ?_
        refine v_seq ?_
        refine v_block ?_
        refine v_region ?_
        refine vl_val (os_move rfl) ?_
        refine vl_val (os_move rfl) ?_
        refine vl_val (os_move rfl) ?_
        refine vl_val (os_move rfl) ?_
        refine vl_val (os_ix Try.underlying23 Try.sizeOf22 rfl rfl (i := k) (by omega) (by omega)) ?_
        refine vl_val (os_load Try.isAgg22 rfl (hF.row.get hv)) ?_
        refine vl_val (os_len Try.underlying22 rfl) ?_
        refine vl_val (os_move rfl) ?_
        refine vl_val (os_addi rfl rfl (by omega)) ?_
        refine vl_call (kit_markByte k ((nn k : Int) + i) w' (by omega) (by omega)) rfl ?_
        rintro v4 w' ⟨rfl, rfl⟩
        have hb4 : Below w'.heap.size w' (w'.alloc (.cells [Value.int .u8 (markB k ((nn k : Int) + i))].toArray 5)) := (Below.refl _ _).alloc (Nat.le_refl _) _
        have hF4 := hF.below hb4
        have hG4 := hG.below hb4
        refine vl_val (os_lit Try.underlying22 Try.sizeOf5 Try.zeroValue5 rfl rfl rfl rfl (by decide)) ?_
        refine vl_some (ot_append_f Try.underlying22 ti_u8 rfl rfl rfl hF4 (by omega) hG4 (fun e => by rw [e]; rfl) (rdc_alloc w' [Value.int .u8 (markB k ((nn k : Int) + i))] _) rfl (by simp [Value.oneCell']) (by simp [mkC_len]; omega) (by simp [maxLen, mkC_len]; omega) (by simp)) ?_
        rintro v5 w5 ⟨lab5, hF5, hG5⟩
        refine vl_val (os_assign rfl) ?_
        refine vl_nil ?_
        refine v_region ?_
        refine vl_val (os_move rfl) ?_
        refine vl_val (os_addi rfl rfl (by omega)) ?_
        refine vl_val (os_assign rfl) ?_
        refine vl_nil ?_
        exact ⟨⟨v5, i + 1⟩, ⟨rfl, rfl, rfl, trivial⟩, ⟨rfl, rfl, trivial⟩, ⟨by omega, lab5, hF5, .inr (by rw [← Nat.add_assoc, mkC_succ]; simpa using hG5)⟩, by dsimp only; omega⟩
      · obtain rfl : i = 64 := by omega
        have hG : Gs w0 B 5 S lab ss K k g (mkC .u8 markB k (nn k + 64)) w' := hG.resolve_left (fun e => absurd e.1 (by omega))
        obtain ⟨Ag, cg, rfl, -⟩ := Own.form hG.own
        refine v_exit ?_
        refine v_region ?_
        refine vl_val (os_move rfl) ?_
        refine vl_val (os_move rfl) ?_
        refine vl_val (os_move rfl) ?_
        refine vl_val (os_ix Try.underlying23 Try.sizeOf22 rfl rfl (i := k) (by omega) (by omega)) ?_
        refine vl_unit (ou_store Try.sizeOf22 rfl rfl rfl ((Own.get hF.gown.1 (List.getElem?_eq_getElem (by omega)))) ((Own.free hF.gown.1 _))) ?_
        refine vl_nil ?_
        refine v_region ?_
        refine vl_val (os_move rfl) ?_
        refine vl_val (os_addi rfl rfl (by omega)) ?_
        refine vl_val (os_assign rfl) ?_
        refine vl_nil ?_
        exact ⟨k + 1, ⟨rfl, rfl, trivial⟩, ⟨rfl, trivial⟩, ⟨by omega, lab, _, (List.length_set ..).trans hgl, (hF.put (by omega) (by omega) hG).congr2 (fun j hj => by by_cases e : j = k <;> simp [e])⟩, by dsimp only; omega⟩
    · obtain rfl : N = k := by omega
      refine v_exit ?_
      refine v_seq ?_
      refine v_seq ?_
      refine v_region ?_
      refine vl_val (os_assign rfl) ?_
      refine vl_nil ?_
      refine v_block ?_
      refine v_loop [(0, _), (5, _)] (fun (k : Nat) => [(9, .int .i64 k)]) (fun k w' => k ≤ N ∧ Fs w0 B 5 22 S A ss K gb wd lab (fun j => mkC .u8 markB j (nn j)) (.slice (some ⟨G, 0, none⟩) N N) gs N (fun j => mkC .u8 markB j (nn j + 64)) w') (fun k => N - k) (0) ⟨rfl, rfl, trivial⟩ ⟨rfl, trivial⟩ (⟨by omega, hF⟩) ?_
      rintro k w' ⟨hk, hF⟩
      refine v_seq ?_
      refine v_seq ?_
      refine v_region ?_
      refine vl_val (os_move rfl) ?_
      refine vl_val (os_move rfl) ?_
      refine vl_val (os_len Try.underlying23 rfl) ?_
      refine vl_val (os_lss rfl rfl) ?_
      refine vl_nil ?_
      refine v_cond_d rfl (fun h => ?_) (fun h => ?_)
      · obtain ⟨v, hv⟩ := hget k (by omega)
        obtain ⟨A1, c1, rfl⟩ := hF.form hv
        rw [mkC_len] at hv
        obtain ⟨bA, oA, rfl, -⟩ := hF.row (by omega)
        obtain ⟨u, hu⟩ : ∃ u, gs[k]? = some u := ⟨gs[k]'(by omega), List.getElem?_eq_getElem (by omega)⟩
        obtain ⟨g2, c2, rfl, -⟩ := Own.row (hF.own2 k _ (by omega) hu).1 (by rw [mkC_len]; omega)
        rw [mkC_len] at hu
        have hnk := hn1 k (by omega)
        refine v_skip ?_
        refine v_seq ?_
        refine v_block ?_
        refine v_seq ?_
        refine v_region ?_
        refine vl_val (os_assign rfl) ?_
        refine vl_nil ?_
        refine v_block ?_
        refine v_loop [(0, _), (5, _), (9, _)] (fun (i : Nat) => [(10, .int .i64 i)]) (fun i w' => i ≤ nn k + 64 ∧ Fs w0 B 5 22 S (some ⟨bA, oA, none⟩) ss K gb wd lab (fun j => mkC .u8 markB j (nn j)) (.slice (some ⟨G, 0, none⟩) N N) gs N (fun j => mkC .u8 markB j (nn j + 64)) w') (fun i => nn k + 64 - i) (0) ⟨rfl, rfl, rfl, trivial⟩ ⟨rfl, trivial⟩ (⟨by omega, hF⟩) ?_
        rintro i w' ⟨hi, hF⟩
        refine v_seq ?_
        refine v_seq ?_
        refine v_region ?_
        refine vl_val (os_move rfl) ?_
        refine vl_val (os_move rfl) ?_
        refine vl_val (os_move rfl) ?_
        refine vl_val (os_ix Try.underlying23 Try.sizeOf22 rfl rfl (i := k) (by omega) (by omega)) ?_
        refine vl_val (os_load Try.isAgg22 rfl (Own.get hF.gown.1 hu)) ?_
        refine vl_val (os_len Try.underlying22 rfl) ?_
        refine vl_val (os_lss rfl rfl) ?_
        refine vl_nil ?_
        refine v_cond_d rfl (fun h2 => ?_) (fun h2 => ?_)
        · rcases Nat.lt_or_ge i (nn k) with hlt | hge
          · obtain ⟨g1, o1, rfl, -, hcell⟩ := hF.acc hv (by rw [mkC_len]; omega)
            have hci := (hcell i (by rw [mkC_len]; omega)).1.trans (mkC_at _ _ _ (by omega))
            refine v_skip ?_
            refine v_seq ?_
            refine v_block ?_
            refine v_seq ?_
            refine v_region_t LeD _ mixed (by kernel_rfl) lee_d (led_start _) ?_
            refine vt_val (fun w hw => os_move rfl) ?_
            refine vt_val (fun w hw => os_move rfl) ?_
            refine vt_val (fun w hw => os_ix Try.underlying23 Try.sizeOf22 rfl rfl (i := k) (by omega) (by omega)) ?_
            refine vt_val (fun w hw => os_load Try.isAgg22 rfl (led_cell hw (Own.get hF.gown.1 hu))) ?_
            refine vt_val (fun w hw => os_move rfl) ?_
            refine vt_val (fun w hw => os_ix Try.underlying22 Try.sizeOf5 rfl rfl (i := i) (by omega) (by omega)) ?_
            refine vt_val (fun w hw => os_load Try.isAgg5 rfl (led_cell hw (Own.get (hF.own2 k _ (by omega) hu).1 (mkC_at _ _ _ (by omega))))) ?_
            refine vt_val (fun w hw => os_move rfl) ?_
            refine vt_val (fun w hw => os_move rfl) ?_
            refine vt_call (v := _) (fun w hw => (kit_markByte k i w (by omega) (by omega)).mono fun v w' hh => ⟨hh.1, by rw [hh.2]; exact lee_d.refl _⟩) rfl ?_
            refine vt_val (fun w hw => os_t (os_eql rfl rfl) (rfl)) ?_
            refine vt_val (fun w hw => os_not rfl) ?_
            refine vt_val (fun w hw => os_move rfl) ?_
            refine vt_valg rfl (fun w hw => os_move rfl) ?_
            refine vt_valg rfl (fun w hw => os_move rfl) ?_
            refine vt_valg rfl (fun w hw => os_move rfl) ?_
            refine vt_valg rfl (fun w hw => os_ix Try.underlying23 Try.sizeOf22 rfl rfl (i := k) (by omega) (by omega)) ?_
            refine vt_valg rfl (fun w hw => os_load Try.isAgg22 rfl (led_cell hw (hF.row.get hv))) ?_
            refine vt_valg rfl (fun w hw => os_len Try.underlying22 rfl) ?_
            refine vt_valg rfl (fun w hw => os_t (os_lss rfl rfl) (by omega)) ?_
            refine vt_valg rfl (fun w hw => os_move rfl) ?_
            refine vt_valg rfl (fun w hw => os_move rfl) ?_
            refine vt_valg rfl (fun w hw => os_move rfl) ?_
            refine vt_valg rfl (fun w hw => os_ix Try.underlying23 Try.sizeOf22 rfl rfl (i := k) (by omega) (by omega)) ?_
            refine vt_valg rfl (fun w hw => os_load Try.isAgg22 rfl (led_cell hw (hF.row.get hv))) ?_
            refine vt_valg rfl (fun w hw => os_move rfl) ?_
            refine vt_valg rfl (fun w hw => os_ix Try.underlying22 Try.sizeOf5 rfl rfl (i := i) (by omega) (by omega)) ?_
            refine vt_valg rfl (fun w hw => os_load Try.isAgg5 rfl (led_cell hw (hci))) ?_
            refine vt_valg rfl (fun w hw => os_move rfl) ?_
            refine vt_valg rfl (fun w hw => os_move rfl) ?_
            refine vt_callg rfl (v := _) (fun w hw => (kit_markByte k i w (by omega) (by omega)).mono fun v w' hh => ⟨hh.1, by rw [hh.2]; exact lee_d.refl _⟩) rfl ?_
            refine vt_valg rfl (fun w hw => os_t (os_eql rfl rfl) (rfl)) ?_
            refine vt_valg rfl (fun w hw => os_not rfl) ?_
            refine vt_valg rfl (fun w hw => os_pick_t rfl rfl) ?_
            refine vt_val (fun w hw => os_pick_f rfl rfl) ?_
            refine vt_nil (fun w hw => ?_)
            obtain ⟨q, rfl⟩ := hw
            refine v_cond_f rfl ?_
            refine v_skip ?_
            refine v_region ?_
            refine vl_val (os_move rfl) ?_
            refine vl_val (os_addi rfl rfl (by omega)) ?_
            refine vl_val (os_assign rfl) ?_
            refine vl_nil ?_
            exact ⟨i + 1, ⟨rfl, rfl, rfl, trivial⟩, ⟨rfl, trivial⟩, ⟨by omega, hF.led' ⟨q, rfl⟩⟩, by dsimp only; omega⟩
          · refine v_skip ?_
            refine v_seq ?_
            refine v_block ?_
            refine v_seq ?_
            refine v_region_t LeD _ mixed (by kernel_rfl) lee_d (led_start _) ?_
            refine vt_val (fun w hw => os_move rfl) ?_
            refine vt_val (fun w hw => os_move rfl) ?_
            refine vt_val (fun w hw => os_ix Try.underlying23 Try.sizeOf22 rfl rfl (i := k) (by omega) (by omega)) ?_
            refine vt_val (fun w hw => os_load Try.isAgg22 rfl (led_cell hw (Own.get hF.gown.1 hu))) ?_
            refine vt_val (fun w hw => os_move rfl) ?_
            refine vt_val (fun w hw => os_ix Try.underlying22 Try.sizeOf5 rfl rfl (i := i) (by omega) (by omega)) ?_
            refine vt_val (fun w hw => os_load Try.isAgg5 rfl (led_cell hw (Own.get (hF.own2 k _ (by omega) hu).1 (mkC_at _ _ _ (by omega))))) ?_
            refine vt_val (fun w hw => os_move rfl) ?_
            refine vt_val (fun w hw => os_move rfl) ?_
            refine vt_call (v := _) (fun w hw => (kit_markByte k i w (by omega) (by omega)).mono fun v w' hh => ⟨hh.1, by rw [hh.2]; exact lee_d.refl _⟩) rfl ?_
            refine vt_val (fun w hw => os_t (os_eql rfl rfl) (rfl)) ?_
            refine vt_val (fun w hw => os_not rfl) ?_
            refine vt_val (fun w hw => os_move rfl) ?_
            refine vt_valg rfl (fun w hw => os_move rfl) ?_
            refine vt_valg rfl (fun w hw => os_move rfl) ?_
            refine vt_valg rfl (fun w hw => os_move rfl) ?_
            refine vt_valg rfl (fun w hw => os_ix Try.underlying23 Try.sizeOf22 rfl rfl (i := k) (by omega) (by omega)) ?_
            refine vt_valg rfl (fun w hw => os_load Try.isAgg22 rfl (led_cell hw (hF.row.get hv))) ?_
            refine vt_valg rfl (fun w hw => os_len Try.underlying22 rfl) ?_
            refine vt_valg rfl (fun w hw => os_f (os_lss rfl rfl) (by omega)) ?_
            refine vt_valg rfl (fun w hw => os_move rfl) ?_
            refine vt_skip rfl rfl ?_
            refine vt_skip rfl rfl ?_
            refine vt_skip rfl rfl ?_
            refine vt_skip rfl rfl ?_
            refine vt_skip rfl rfl ?_
            refine vt_skip rfl rfl ?_
            refine vt_skip rfl rfl ?_
            refine vt_skip rfl rfl ?_
            refine vt_skip rfl rfl ?_
            refine vt_skip rfl rfl ?_
            refine vt_skip rfl rfl ?_
            refine vt_skip rfl rfl ?_
            refine vt_valg rfl (fun w hw => os_pick_f rfl rfl) ?_
            refine vt_val (fun w hw => os_pick_f rfl rfl) ?_
            refine vt_nil (fun w hw => ?_)
            obtain ⟨q, rfl⟩ := hw
            refine v_cond_f rfl ?_
            refine v_skip ?_
            refine v_region ?_
            refine vl_val (os_move rfl) ?_
            refine vl_val (os_addi rfl rfl (by omega)) ?_
            refine vl_val (os_assign rfl) ?_
            refine vl_nil ?_
            exact ⟨i + 1, ⟨rfl, rfl, rfl, trivial⟩, ⟨rfl, trivial⟩, ⟨by omega, hF.led' ⟨q, rfl⟩⟩, by dsimp only; omega⟩
        · refine v_exit ?_
          refine v_region ?_
          refine vl_val (os_move rfl) ?_
          refine vl_val (os_addi rfl rfl (by omega)) ?_
          refine vl_val (os_assign rfl) ?_
          refine vl_nil ?_
          exact ⟨k + 1, ⟨rfl, rfl, trivial⟩, ⟨rfl, trivial⟩, ⟨by omega, hF⟩, by dsimp only; omega⟩
      · obtain rfl : N = k := by omega
        have hF0 := (hF.less (Nat.zero_le _)).congr2 (dd' := fun j => mkC .u8 markB j (nn j)) (fun j hj => absurd hj (by omega))
        refine v_exit ?_
        refine v_seq ?_
        refine v_seq ?_
        refine v_region ?_
        refine vl_val (os_assign rfl) ?_
        refine vl_nil ?_
        refine v_block ?_
        refine v_loop [(0, _), (5, _)] (fun (k : Nat) => [(11, .int .i64 k)]) (fun k w' => k ≤ N ∧ ∃ lab gs dd, gs.length = N ∧ Fs w0 B 5 22 S A ss K gb wd lab (fun j => mkC .u8 markB j (nn j)) (.slice (some ⟨G, 0, none⟩) N N) gs k dd w' ∧ ∀ j, j < k → nn j ≤ (dd j).length ∧ (dd j).take (nn j) = mkC .u8 markB j (nn j)) (fun k => N - k) (0) ⟨rfl, rfl, trivial⟩ ⟨rfl, trivial⟩ (⟨by omega, lab, gs, _, hgl, hF0, fun j hj => absurd hj (by omega)⟩) ?_
        rintro k w' ⟨hk, lab, gs, dd, hgl, hF, hD⟩
        refine v_seq ?_
        refine v_seq ?_
        refine v_region ?_
        refine vl_val (os_move rfl) ?_
        refine vl_val (os_move rfl) ?_
        refine vl_val (os_len Try.underlying23 rfl) ?_
        refine vl_val (os_lss rfl rfl) ?_
        refine vl_nil ?_
        refine v_cond_d rfl (fun h => ?_) (fun h => ?_)
        · obtain ⟨v, hv⟩ := hget k (by omega)
          obtain ⟨A1, c1, rfl⟩ := hF.form hv
          rw [mkC_len] at hv
          obtain ⟨bA, oA, rfl, -⟩ := hF.row (by omega)
          have hnk := hn1 k (by omega)
          obtain ⟨Z, hZ⟩ : ∃ Z, Z = w'.heap.size := ⟨_, rfl⟩
          have hFu := hF.upd (lab' := fun b => if b = Z then N + 2 else lab b) (fun b hb => if_neg (by omega))
          refine v_skip ?_
          refine v_seq ?_
          refine v_block ?_
          refine v_seq ?_
          refine v_region ?_
          refine vl_some (ot_make (l := 64) Try.underlying22 ti_u8 rfl rfl rfl rfl rfl (by omega) (by simp [maxLen]) w'.heap.size (Nat.le_refl _)) ?_
          rintro v1 w1 ⟨e1, ho1, hg1⟩
          rw [← hZ] at e1 ho1
          subst e1
          have hF1 := hFu.below ((Below.refl _ _).grown hg1 (Nat.le_refl _) (fun k hk => by cases hk))
          have hz1 := hF.kb.size
          refine vl_val (os_assign rfl) ?_
          refine vl_nil ?_
          refine v_seq ?_
          refine v_seq ?_
          refine v_region ?_
          refine vl_val (os_assign rfl) ?_
          refine vl_nil ?_
          refine v_block ?_
          refine v_loop [(0, _), (5, _), (11, _), (12, _)] (fun (i : Nat) => [(13, .int .i64 i)]) (fun i w' => i ≤ 64 ∧ Fs w0 B 5 22 S (some ⟨bA, oA, none⟩) ss K gb wd (fun b => if b = Z then N + 2 else lab b) (fun j => mkC .u8 markB j (nn j)) (.slice (some ⟨G, 0, none⟩) N N) gs k dd w' ∧ ∃ ms : List Int, ms.length = 64 ∧ OwnK w' Z 5 .u8 (.slice (some ⟨Z, 0, none⟩) 64 64) ms) (fun i => 64 - i) (0) ⟨rfl, rfl, rfl, rfl, trivial⟩ ⟨rfl, trivial⟩ (⟨by omega, hF1, List.replicate 64 0, by simp, by unfold OwnK; rw [List.map_replicate]; exact ho1⟩) ?_
          rintro i w' ⟨hi, hF, ms, hml, hom⟩
          refine v_seq ?_
          refine v_seq ?_
          refine v_region ?_
          refine vl_val (os_move rfl) ?_
          refine vl_val (os_lss rfl rfl) ?_
          refine vl_nil ?_
          refine v_cond_d rfl (fun h2 => ?_) (fun h2 => ?_)
          · refine v_skip ?_
            refine v_seq ?_
            refine v_block ?_
            refine v_region ?_
            refine vl_val (os_move rfl) ?_
            refine vl_val (os_move rfl) ?_
            refine vl_val (os_move rfl) ?_
            refine vl_val (os_move rfl) ?_
            refine vl_val (os_len Try.underlying23 rfl) ?_
            refine vl_val (os_addi rfl rfl (by omega)) ?_
            refine vl_val (os_move rfl) ?_
            refine vl_call (kit_markByte ((k : Int) + N) i w' (by omega) (by omega)) rfl ?_
            rintro v4 w' ⟨rfl, rfl⟩
            refine vl_val (os_ix Try.underlying22 Try.sizeOf5 rfl rfl (i := i) (by omega) (by omega)) ?_
            refine vl_unit (ou_store Try.sizeOf5 rfl rfl rfl ((OwnK.cell hom (by omega))) ((Own.free hom _))) ?_
            refine vl_nil ?_
            refine v_region ?_
            refine vl_val (os_move rfl) ?_
            refine vl_val (os_addi rfl rfl (by omega)) ?_
            refine vl_val (os_assign rfl) ?_
            refine vl_nil ?_
            exact ⟨i + 1, ⟨rfl, rfl, rfl, rfl, trivial⟩, ⟨rfl, trivial⟩, ⟨by omega, by rw [Nat.zero_add]; exact hF.away (S' := [Z]) (Kb.set (by simp) i _) (fun b hb => .inl (by rw [List.mem_singleton.1 hb, if_pos rfl]; omega)), ms.set i (markB ((k : Int) + N) i), (List.length_set ..).trans hml, by rw [Nat.zero_add]; exact OwnK.set hom i _⟩, by dsimp only; omega⟩
          · obtain rfl : i = 64 := by omega
            refine v_exit ?_
            refine v_region ?_
            refine vl_val (os_move rfl) ?_
            refine vl_val (os_move rfl) ?_
            refine vl_val (os_move rfl) ?_
            refine vl_val (os_move rfl) ?_
            refine vl_val (os_ix Try.underlying23 Try.sizeOf22 rfl rfl (i := k) (by omega) (by omega)) ?_
            refine vl_val (os_load Try.isAgg22 rfl (hF.row.get hv)) ?_
            refine vl_val (os_move rfl) ?_
            refine vl_some (ot_append_f (i := 0) (xs := mkC .u8 markB k (nn k)) Try.underlying22 ti_u8 rfl rfl rfl hF (by omega) (.inl ⟨rfl, hv⟩) (fun _ => rfl) (OwnK.rd hom).toC (by simp [hml]) (ints_one _ _) (by simp [mkC_len]; omega) (by simp [maxLen, mkC_len]; omega) (by simp [hml])) ?_
            rintro v5 w5 ⟨lab5, hF5, hG5⟩
            obtain ⟨Ag, cg, rfl, -⟩ := Own.form hG5.own
            refine vl_val (os_ix Try.underlying23 Try.sizeOf22 rfl rfl (i := k) (by omega) (by omega)) ?_
            refine vl_unit (ou_store Try.sizeOf22 rfl rfl rfl ((Own.get hF5.gown.1 (List.getElem?_eq_getElem (by omega)))) ((Own.free hF5.gown.1 _))) ?_
            refine vl_nil ?_
            refine v_region ?_
            refine vl_val (os_move rfl) ?_
            refine vl_val (os_addi rfl rfl (by omega)) ?_
            refine vl_val (os_assign rfl) ?_
            refine vl_nil ?_
            exact ⟨k + 1, ⟨rfl, rfl, trivial⟩, ⟨rfl, trivial⟩, ⟨by omega, lab5, _, _, (List.length_set ..).trans hgl, hF5.put (by omega) (by omega) hG5, fun j hj => by by_cases e : j = k; (subst e; rw [if_pos rfl]; exact ⟨by rw [List.length_append, mkC_len]; omega, by rw [List.take_append_of_le_length (by rw [mkC_len]; exact Nat.le_refl _), List.take_of_length_le (by rw [mkC_len]; exact Nat.le_refl _)]⟩); (rw [if_neg e]; exact hD j (by omega))⟩, by dsimp only; omega⟩
        · obtain rfl : N = k := by omega
          refine v_exit ?_
          refine v_seq ?_
          refine v_seq ?_
          refine v_region ?_
          refine vl_val (os_assign rfl) ?_
          refine vl_nil ?_
          refine v_block ?_
          refine v_loop [(0, _), (5, _)] (fun (k : Nat) => [(14, .int .i64 k)]) (fun k w' => k ≤ N ∧ Fs w0 B 5 22 S A ss K gb wd lab (fun j => mkC .u8 markB j (nn j)) (.slice (some ⟨G, 0, none⟩) N N) gs N dd w') (fun k => N - k) (0) ⟨rfl, rfl, trivial⟩ ⟨rfl, trivial⟩ (⟨by omega, hF⟩) ?_
          rintro k w' ⟨hk, hF⟩
          refine v_seq ?_
          refine v_seq ?_
          refine v_region ?_
          refine vl_val (os_move rfl) ?_
          refine vl_val (os_move rfl) ?_
          refine vl_val (os_len Try.underlying23 rfl) ?_
          refine vl_val (os_lss rfl rfl) ?_
          refine vl_nil ?_
          refine v_cond_d rfl (fun h => ?_) (fun h => ?_)
          · obtain ⟨v, hv⟩ := hget k (by omega)
            obtain ⟨A1, c1, rfl⟩ := hF.form hv
            rw [mkC_len] at hv
            obtain ⟨bA, oA, rfl, -⟩ := hF.row (by omega)
            obtain ⟨u, hu⟩ : ∃ u, gs[k]? = some u := ⟨gs[k]'(by omega), List.getElem?_eq_getElem (by omega)⟩
            obtain ⟨A2, c2, rfl, -⟩ := Own.form (hF.own2 k _ (by omega) hu).1
            have hnk := hn1 k (by omega)
            have hDk := hD k (by omega)
            refine v_skip ?_
            refine v_seq ?_
            refine v_block ?_
            refine v_seq ?_
            refine v_region ?_
            refine vl_val (os_assign rfl) ?_
            refine vl_nil ?_
            refine v_block ?_
            refine v_loop [(0, _), (5, _), (14, _)] (fun (i : Nat) => [(15, .int .i64 i)]) (fun i w' => i ≤ nn k ∧ Fs w0 B 5 22 S (some ⟨bA, oA, none⟩) ss K gb wd lab (fun j => mkC .u8 markB j (nn j)) (.slice (some ⟨G, 0, none⟩) N N) gs N dd w') (fun i => nn k - i) (0) ⟨rfl, rfl, rfl, trivial⟩ ⟨rfl, trivial⟩ (⟨by omega, hF⟩) ?_
            rintro i w' ⟨hi, hF⟩
            refine v_seq ?_
            refine v_seq ?_
            refine v_region ?_
            refine vl_val (os_move rfl) ?_
            refine vl_val (os_move rfl) ?_
            refine vl_val (os_move rfl) ?_
            refine vl_val (os_ix Try.underlying23 Try.sizeOf22 rfl rfl (i := k) (by omega) (by omega)) ?_
            refine vl_val (os_load Try.isAgg22 rfl (hF.row.get hv)) ?_
            refine vl_val (os_len Try.underlying22 rfl) ?_
            refine vl_val (os_lss rfl rfl) ?_
            refine vl_nil ?_
            refine v_cond_d rfl (fun h2 => ?_) (fun h2 => ?_)
            · obtain ⟨g1, o1, rfl, -, hcell⟩ := hF.acc hv (by rw [mkC_len]; omega)
              have hci := (hcell i (by rw [mkC_len]; omega)).1.trans (mkC_at _ _ _ (by omega))
              obtain ⟨g2, c2, e, -⟩ := Own.row (hF.own2 k _ (by omega) hu).1 (by omega)
              cases e
              have hd2 : (dd k)[i]? = some (Value.int .u8 (markB k i)) := by rw [← mkC_at .u8 markB k (n := nn k) (i := i) (by omega), ← hDk.2, List.getElem?_take, if_pos (by omega)]
              refine v_skip ?_
              refine v_seq ?_
              refine v_block ?_
              refine v_seq ?_
              refine v_region_t LeD _ mixed (by kernel_rfl) lee_d (led_start _) ?_
              refine vt_val (fun w hw => os_move rfl) ?_
              refine vt_val (fun w hw => os_move rfl) ?_
              refine vt_val (fun w hw => os_ix Try.underlying23 Try.sizeOf22 rfl rfl (i := k) (by omega) (by omega)) ?_
              refine vt_val (fun w hw => os_load Try.isAgg22 rfl (led_cell hw (hF.row.get hv))) ?_
              refine vt_val (fun w hw => os_move rfl) ?_
              refine vt_val (fun w hw => os_ix Try.underlying22 Try.sizeOf5 rfl rfl (i := i) (by omega) (by omega)) ?_
              refine vt_val (fun w hw => os_load Try.isAgg5 rfl (led_cell hw (hci))) ?_
              refine vt_val (fun w hw => os_move rfl) ?_
              refine vt_val (fun w hw => os_move rfl) ?_
              refine vt_call (v := _) (fun w hw => (kit_markByte k i w (by omega) (by omega)).mono fun v w' hh => ⟨hh.1, by rw [hh.2]; exact lee_d.refl _⟩) rfl ?_
              refine vt_val (fun w hw => os_t (os_eql rfl rfl) (rfl)) ?_
              refine vt_val (fun w hw => os_not rfl) ?_
              refine vt_val (fun w hw => os_move rfl) ?_
              refine vt_valg rfl (fun w hw => os_move rfl) ?_
              refine vt_valg rfl (fun w hw => os_move rfl) ?_
              refine vt_valg rfl (fun w hw => os_ix Try.underlying23 Try.sizeOf22 rfl rfl (i := k) (by omega) (by omega)) ?_
              refine vt_valg rfl (fun w hw => os_load Try.isAgg22 rfl (led_cell hw (Own.get hF.gown.1 hu))) ?_
              refine vt_valg rfl (fun w hw => os_move rfl) ?_
              refine vt_valg rfl (fun w hw => os_ix Try.underlying22 Try.sizeOf5 rfl rfl (i := i) (by omega) (by omega)) ?_
              refine vt_valg rfl (fun w hw => os_load Try.isAgg5 rfl (led_cell hw (Own.get (hF.own2 k _ (by omega) hu).1 hd2))) ?_
              refine vt_valg rfl (fun w hw => os_move rfl) ?_
              refine vt_valg rfl (fun w hw => os_move rfl) ?_
              refine vt_callg rfl (v := _) (fun w hw => (kit_markByte k i w (by omega) (by omega)).mono fun v w' hh => ⟨hh.1, by rw [hh.2]; exact lee_d.refl _⟩) rfl ?_
              refine vt_valg rfl (fun w hw => os_t (os_eql rfl rfl) (rfl)) ?_
              refine vt_valg rfl (fun w hw => os_not rfl) ?_
              refine vt_val (fun w hw => os_pick_f rfl rfl) ?_
              refine vt_nil (fun w hw => ?_)
              obtain ⟨q, rfl⟩ := hw
              refine v_cond_f rfl ?_
              refine v_skip ?_
              refine v_region ?_
              refine vl_val (os_move rfl) ?_
              refine vl_val (os_addi rfl rfl (by omega)) ?_
              refine vl_val (os_assign rfl) ?_
              refine vl_nil ?_
              exact ⟨i + 1, ⟨rfl, rfl, rfl, trivial⟩, ⟨rfl, trivial⟩, ⟨by omega, hF.led' ⟨q, rfl⟩⟩, by dsimp only; omega⟩
            · refine v_exit ?_
              refine v_region ?_
              refine vl_val (os_move rfl) ?_
              refine vl_val (os_addi rfl rfl (by omega)) ?_
              refine vl_val (os_assign rfl) ?_
              refine vl_nil ?_
              exact ⟨k + 1, ⟨rfl, rfl, trivial⟩, ⟨rfl, trivial⟩, ⟨by omega, hF⟩, by dsimp only; omega⟩
          · refine v_exit ?_
            refine v_seq ?_
            refine v_region ?_
            refine vl_val (os_assign rfl) ?_
            refine vl_nil ?_
            refine v_ret ?_
            exact post_ret rfl rfl (⟨rfl, hF.kb⟩)
set_option maxHeartbeats 2000000 in
theorem kit_apartBytesS (g : Nat) (A : Option Addr) (N cA B : Nat) (S : List Nat) (ss : List Value) (K gb wd : Nat) (lab : Nat → Nat) (nn : Nat → Nat) (c0 d0 : Nat → List Value) (Hw : World) (hF : Fs Hw B 5 22 S A ss K gb wd lab c0 (.slice none 0 0) [] 0 d0 Hw) (hN : ss.length = N) (hN1 : N ≤ 100000)
    (hn0 : ∀ j, j < N → (c0 j).length = nn j) (hn1 : ∀ j, j < N → nn j ≤ 1000000000) (hB : Bk Hw g (bagBytes (.slice A N cA)) 122) (hS : g ∉ S) :
    Gives Try.prog 74 #[.pointer (some ⟨g, 0, none⟩)] Hw fun v w' => v = .bool true ∧ Kb S Hw w' := by
  have hb := Below.refl Hw.heap.size Hw
  have hBw := hB
  refine gives_enter Try.call74 Try.func74 rfl rfl rfl (by kernel_rfl) ?_
  refine v_seq ?_
  refine v_region ?_
  refine vl_val (os_assign rfl) ?_
  refine vl_nil ?_
  refine v_seq ?_
  refine v_region ?_
  refine vl_val (os_move rfl) ?_
  refine vl_val (os_nilCheck rfl) ?_
  refine vl_val (os_fa (o := 0) (k := 0) (by kernel_rfl) rfl) ?_
  refine vl_val (os_load Try.isAgg110 rfl (Bk.cell (i := 0) hB rfl)) ?_
  refine vl_call (kit_noneLimbs _) rfl ?_
  rintro v1 w1 ⟨rfl, hb1⟩
  have hb := hb.trans (hb1.mono hb.size)
  have hB := hB.keep hb1
  clear hb1
  refine vl_val (os_move rfl) ?_
  refine vl_valg rfl (os_move rfl) ?_
  refine vl_valg rfl (os_nilCheck rfl) ?_
  refine vl_valg rfl (os_fa (o := 1) (k := 0) (by kernel_rfl) rfl) ?_
  refine vl_valg rfl (os_load Try.isAgg111 rfl (Bk.cell (i := 1) hB rfl)) ?_
  refine vl_callg rfl (kit_noneWords _) rfl ?_
  rintro v1 w1 ⟨rfl, hb1⟩
  have hb := hb.trans (hb1.mono hb.size)
  have hB := hB.keep hb1
  clear hb1
  refine vl_val (os_pick_t rfl rfl) ?_
  refine vl_val (os_move rfl) ?_
  refine vl_valg rfl (os_move rfl) ?_
  refine vl_valg rfl (os_nilCheck rfl) ?_
  refine vl_valg rfl (os_fa (o := 2) (k := 0) (by kernel_rfl) rfl) ?_
  refine vl_valg rfl (os_load Try.isAgg59 rfl (Bk.cell (i := 2) hB rfl)) ?_
  refine vl_callg rfl (kit_noneInts _) rfl ?_
  rintro v1 w1 ⟨rfl, hb1⟩
  have hb := hb.trans (hb1.mono hb.size)
  have hB := hB.keep hb1
  clear hb1
  refine vl_val (os_pick_t rfl rfl) ?_
  refine vl_val (os_move rfl) ?_
  refine vl_valg rfl (os_move rfl) ?_
  refine vl_valg rfl (os_nilCheck rfl) ?_
  refine vl_valg rfl (os_fa (o := 3) (k := 0) (by kernel_rfl) rfl) ?_
  refine vl_valg rfl (os_load Try.isAgg112 rfl (Bk.cell (i := 3) hB rfl)) ?_
  refine vl_callg rfl (kit_noneLongs _) rfl ?_
  rintro v1 w1 ⟨rfl, hb1⟩
  have hb := hb.trans (hb1.mono hb.size)
  have hB := hB.keep hb1
  clear hb1
  refine vl_val (os_pick_t rfl rfl) ?_
  refine vl_val (os_move rfl) ?_
  refine vl_valg rfl (os_move rfl) ?_
  refine vl_valg rfl (os_nilCheck rfl) ?_
  refine vl_valg rfl (os_fa (o := 4) (k := 0) (by kernel_rfl) rfl) ?_
  refine vl_valg rfl (os_load Try.isAgg113 rfl (Bk.cell (i := 4) hB rfl)) ?_
  refine vl_callg rfl (kit_noneTexts _) rfl ?_
  rintro v1 w1 ⟨rfl, hb1⟩
  have hb := hb.trans (hb1.mono hb.size)
  have hB := hB.keep hb1
  clear hb1
  refine vl_val (os_pick_t rfl rfl) ?_
  refine vl_val (os_move rfl) ?_
  refine vl_valg rfl (os_move rfl) ?_
  refine vl_valg rfl (os_nilCheck rfl) ?_
  refine vl_valg rfl (os_fa (o := 5) (k := 0) (by kernel_rfl) rfl) ?_
  refine vl_valg rfl (os_load Try.isAgg23 rfl (Bk.cell (i := 5) hB rfl)) ?_
  refine vl_callg rfl (kit_flatBytesS A N cA B S ss K gb wd lab nn c0 d0 Hw _ (hF.below hb) hN hN1 hn0 hn1) rfl ?_
  rintro v1 w1 ⟨rfl, hk1⟩
  have hkb : Kb S Hw w1 := hk1
  clear hb
  have hB := hBw.kb hk1 hS
  refine vl_val (os_pick_t rfl rfl) ?_
  refine vl_val (os_move rfl) ?_
  refine vl_valg rfl (os_move rfl) ?_
  refine vl_valg rfl (os_nilCheck rfl) ?_
  refine vl_valg rfl (os_fa (o := 6) (k := 0) (by kernel_rfl) rfl) ?_
  refine vl_valg rfl (os_load Try.isAgg114 rfl (Bk.cell (i := 6) hB rfl)) ?_
  refine vl_callg rfl (kit_noneTruths _) rfl ?_
  rintro v1 w1 ⟨rfl, hb1⟩
  have hkb := hkb.trans (Kb.of_below (S := []) hb1) (fun k hk => by cases hk)
  have hB := hB.keep hb1
  clear hb1
  refine vl_val (os_pick_t rfl rfl) ?_
  refine vl_val (os_move rfl) ?_
  refine vl_valg rfl (os_move rfl) ?_
  refine vl_valg rfl (os_nilCheck rfl) ?_
  refine vl_valg rfl (os_fa (o := 7) (k := 0) (by kernel_rfl) rfl) ?_
  refine vl_valg rfl (os_load Try.isAgg115 rfl (Bk.cell (i := 7) hB rfl)) ?_
  refine vl_callg rfl (kit_noneLayers _) rfl ?_
  rintro v1 w1 ⟨rfl, hb1⟩
  have hkb := hkb.trans (Kb.of_below (S := []) hb1) (fun k hk => by cases hk)
  have hB := hB.keep hb1
  clear hb1
  refine vl_val (os_pick_t rfl rfl) ?_
  refine vl_val (os_move rfl) ?_
  refine vl_valg rfl (os_move rfl) ?_
  refine vl_valg rfl (os_nilCheck rfl) ?_
  refine vl_valg rfl (os_fa (o := 8) (k := 0) (by kernel_rfl) rfl) ?_
  refine vl_valg rfl (os_load Try.isAgg116 rfl (Bk.cell (i := 8) hB rfl)) ?_
  refine vl_callg rfl (kit_noneTable _) rfl ?_
  rintro v1 w1 ⟨rfl, hb1⟩
  have hkb := hkb.trans (Kb.of_below (S := []) hb1) (fun k hk => by cases hk)
  have hB := hB.keep hb1
  clear hb1
  refine vl_val (os_pick_t rfl rfl) ?_
  refine vl_val (os_move rfl) ?_
  refine vl_valg rfl (os_move rfl) ?_
  refine vl_valg rfl (os_nilCheck rfl) ?_
  refine vl_valg rfl (os_fa (o := 9) (k := 0) (by kernel_rfl) rfl) ?_
  refine vl_valg rfl (os_load Try.isAgg117 rfl (Bk.cell (i := 9) hB rfl)) ?_
  refine vl_callg rfl (kit_noneHeads _) rfl ?_
  rintro v1 w1 ⟨rfl, hb1⟩
  have hkb := hkb.trans (Kb.of_below (S := []) hb1) (fun k hk => by cases hk)
  have hB := hB.keep hb1
  clear hb1
  refine vl_val (os_pick_t rfl rfl) ?_
  refine vl_val (os_move rfl) ?_
  refine vl_valg rfl (os_move rfl) ?_
  refine vl_valg rfl (os_nilCheck rfl) ?_
  refine vl_valg rfl (os_fa (o := 10) (k := 0) (by kernel_rfl) rfl) ?_
  refine vl_valg rfl (os_load Try.isAgg118 rfl (Bk.cell (i := 10) hB rfl)) ?_
  refine vl_callg rfl (kit_noneCounts _) rfl ?_
  rintro v1 w1 ⟨rfl, hb1⟩
  have hkb := hkb.trans (Kb.of_below (S := []) hb1) (fun k hk => by cases hk)
  have hB := hB.keep hb1
  clear hb1
  refine vl_val (os_pick_t rfl rfl) ?_
  refine vl_val (os_move rfl) ?_
  refine vl_valg rfl (os_move rfl) ?_
  refine vl_valg rfl (os_nilCheck rfl) ?_
  refine vl_valg rfl (os_fa (o := 11) (k := 0) (by kernel_rfl) rfl) ?_
  refine vl_valg rfl (os_load Try.isAgg119 rfl (Bk.cell (i := 11) hB rfl)) ?_
  refine vl_callg rfl (kit_noneNotes _) rfl ?_
  rintro v1 w1 ⟨rfl, hb1⟩
  have hkb := hkb.trans (Kb.of_below (S := []) hb1) (fun k hk => by cases hk)
  have hB := hB.keep hb1
  clear hb1
  refine vl_val (os_pick_t rfl rfl) ?_
  refine vl_val (os_move rfl) ?_
  refine vl_valg rfl (os_move rfl) ?_
  refine vl_valg rfl (os_nilCheck rfl) ?_
  refine vl_valg rfl (os_fa (o := 12) (k := 0) (by kernel_rfl) rfl) ?_
  refine vl_valg rfl (os_load Try.isAgg120 rfl (Bk.cell (i := 12) hB rfl)) ?_
  refine vl_callg rfl (kit_noneFates _) rfl ?_
  rintro v1 w1 ⟨rfl, hb1⟩
  have hkb := hkb.trans (Kb.of_below (S := []) hb1) (fun k hk => by cases hk)
  have hB := hB.keep hb1
  clear hb1
  refine vl_val (os_pick_t rfl rfl) ?_
  refine vl_val (os_assign rfl) ?_
  refine vl_nil ?_
  refine v_ret ?_
  exact post_ret rfl rfl (⟨rfl, hkb⟩)

set_option maxHeartbeats 2000000 in
theorem kit_ApartBytesS (A : Option Addr) (N cA B : Nat) (ss : List Value) (K gb wd : Nat) (nn : Nat → Nat) (cc : Nat → List Value) (w : World) (hr : RdC w A ss) (hN : ss.length = N) (hN1 : N ≤ 100000) (ho : ∀ (j : Nat) (v : Value), K ≤ j → ss[j]? = some v → OwnE w B 5 v (cc j))
    (hsv : ∀ j, j < K → ss[j]? = some (segV gb wd j) ∧ (cc j).length = wd) (hsg : 0 < K → Own w B 5 (.slice (some ⟨gb, 0, none⟩) (wd * K) (wd * K)) (flC cc K)) (hsep : ∀ (j : Nat) (v : Value), 0 < K → K ≤ j → ss[j]? = some v → v.ownBlock ≠ some gb)
    (hs : ∀ (i j : Nat) (v u : Value), K ≤ i → ss[i]? = some v → ss[j]? = some u → i < j → sep v u) (hn0 : ∀ j, j < N → (cc j).length = nn j) (hn1 : ∀ j, j < N → nn j ≤ 1000000000) (hB : B ≤ w.heap.size) :
    Gives Try.prog 56 #[.slice A N cA] w fun v w' => v = .bool true ∧ Kb (ss.filterMap Value.ownBlock) w w' := by
  have hform : ∀ (j : Nat) (u : Value), ss[j]? = some u → ∃ A1 n1 c1, u = Value.slice A1 n1 c1 := fun j u hu => by
    by_cases hK : j < K
    · rw [(hsv j hK).1] at hu; cases hu; exact ⟨_, _, _, rfl⟩
    · obtain ⟨A1, c1, e⟩ := (ho j u (by omega) hu).form; exact ⟨A1, _, c1, e⟩
  have hlt : ∀ (j : Nat) (x : Value) (b : Nat), ss[j]? = some x → x.ownBlock = some b → b < w.heap.size := fun j x b hj hxb => by
    by_cases hK : j < K
    · rw [(hsv j hK).1] at hj; cases hj
      have e : gb = b := by simpa [segV, Value.ownBlock] using hxb
      subst e
      exact (World.ownsRow.lt (hsg (by omega)) gb rfl).2
    · exact ((ho j x (by omega) hj).lt hxb).2
  refine gives_enter Try.call56 Try.func56 rfl rfl rfl (by kernel_rfl) ?_
  refine v_seq ?_
  refine v_region ?_
  refine vl_val (os_assign rfl) ?_
  refine vl_nil ?_
  refine v_seq ?_
  refine v_region ?_
  refine vl_val (os_build (cs := [.slice none 0 0, .slice none 0 0, .slice none 0 0, .slice none 0 0, .slice none 0 0, .slice none 0 0, .slice none 0 0, .slice none 0 0, .slice none 0 0, .slice none 0 0, .slice none 0 0, .slice none 0 0, .slice none 0 0]) rfl (by kernel_rfl)) ?_
  have hB0 := bk_new w (bagBytes (.slice none 0 0)) 122
  refine vl_val (os_box rfl) ?_
  refine vl_val (os_assign rfl) ?_
  refine vl_nil ?_
  refine v_seq ?_
  refine v_seq ?_
  refine v_region ?_
  refine vl_val (os_assign rfl) ?_
  refine vl_nil ?_
  refine v_block ?_
  refine v_loop [(0, _), (3, _)] (fun (k : Nat) => [(4, .int .i64 k)]) (fun k w' => k ≤ N ∧ ∃ v, Bk w' w.heap.size (bagBytes v) 122 ∧ Own w' w.heap.size 22 v (ss.take k) ∧ v.ownBlock ≠ some w.heap.size ∧ Below w.heap.size w w') (fun k => N - k) (0) ⟨rfl, rfl, trivial⟩ ⟨rfl, trivial⟩ (⟨by omega, .slice none 0 0, hB0, by rw [List.take_zero]; exact Own.nil _ _ _, by simp [Value.ownBlock], (Below.refl _ _).alloc (Nat.le_refl _) _⟩) ?_
  rintro k w' ⟨hk, v, hB1, ho1, hne, hb⟩
  refine v_seq ?_
  refine v_seq ?_
  refine v_region ?_
  refine vl_val (os_move rfl) ?_
  refine vl_val (os_move rfl) ?_
  refine vl_val (os_len Try.underlying23 rfl) ?_
  refine vl_val (os_lss rfl rfl) ?_
  refine vl_nil ?_
  refine v_cond_d rfl (fun h => ?_) (fun h => ?_)
  · obtain ⟨u, hu⟩ : ∃ u, ss[k]? = some u := ⟨ss[k]'(by omega), List.getElem?_eq_getElem (by omega)⟩
    obtain ⟨A1, n1, c1, rfl⟩ := hform k _ hu
    obtain ⟨bA, oA, rfl, -⟩ := hr (by omega)
    refine v_skip ?_
    refine v_seq ?_
    refine v_block ?_
    refine v_region ?_
    refine vl_val (os_move rfl) ?_
    refine vl_val (os_move rfl) ?_
    refine vl_val (os_move rfl) ?_
    refine vl_val (os_ix Try.underlying23 Try.sizeOf22 rfl rfl (i := k) (by omega) (by omega)) ?_
    refine vl_val (os_load Try.isAgg22 rfl ((hr.keep hb).get hu)) ?_
    refine vl_call (kit_putBytes _ w.heap.size v _ _ _ (ss.take k) w' hB1 ho1 hne (by rw [List.length_take]; omega) hb.size (Nat.le_refl _)) rfl ?_
    rintro u2 w2 ⟨v2, hB2, ho2, hne2, hb2⟩
    refine vl_nil ?_
    refine v_region ?_
    refine vl_val (os_move rfl) ?_
    refine vl_val (os_addi rfl rfl (by omega)) ?_
    refine vl_val (os_assign rfl) ?_
    refine vl_nil ?_
    exact ⟨k + 1, ⟨rfl, rfl, trivial⟩, ⟨rfl, trivial⟩, ⟨by omega, v2, hB2, by rw [List.take_add_one, hu]; exact ho2, hne2, hb.trans hb2⟩, by dsimp only; omega⟩
  · obtain rfl : N = k := by omega
    rw [List.take_of_length_le (by omega)] at ho1
    obtain ⟨A1, c1, rfl, -, -, hr1, hA1⟩ := Own.form ho1
    have hS : ∀ b ∈ ss.filterMap Value.ownBlock, b < w.heap.size := fun b hb => by
      obtain ⟨x, hx, hxb⟩ := List.mem_filterMap.1 hb
      obtain ⟨j, hj⟩ := List.mem_iff_getElem?.1 hx
      exact hlt j x b hj hxb
    obtain ⟨lab, hF⟩ := Fs.init (tt := 22) (K := K) (gb := gb) (wd := wd) (dd := fun _ => []) (Nat.le_trans hB hb.size) hr1 (fun j x hK hj => (ho j x hK hj).keepAll hb) hsv (fun h0 => (hsg h0).keepAll hb) hsep hs (fun b o e => ⟨(hA1 b o e).2.2, fun j x hj hxb => by have h1 := hlt j x b hj hxb; have h2 := (hA1 b o e).1; omega⟩)
    subst hN
    refine v_exit ?_
    refine v_seq ?_
    refine v_region ?_
    refine vl_val (os_move rfl) ?_
    refine vl_call (kit_apartBytesS _ A1 _ c1 B _ ss K gb wd lab nn cc (fun _ => []) w' hF rfl hN1 hn0 hn1 hB1 (fun hh => by have := hS _ hh; omega)) rfl ?_
    rintro u2 w2 ⟨rfl, hk2⟩
    refine vl_val (os_assign rfl) ?_
    refine vl_nil ?_
    refine v_ret ?_
    exact post_ret rfl rfl (⟨rfl, (Kb.of_below hb).trans hk2 (fun b hb => .inl hb)⟩)

end Go.Proofs.Ytpojijnjdlnokaa
