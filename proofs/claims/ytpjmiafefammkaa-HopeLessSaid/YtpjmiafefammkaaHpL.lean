/- Layer 25: the walk of HopeLess. -/
import Derived.Test.YtpjmiafefammkaaHp
import Derived.Test.YtpjmiafefammkaaAp
namespace Go.Proofs.Ytpjmiafefammkaa
open Go.RowKit
set_option linter.unusedVariables false

theorem getD_take {xs : List Int} {k i : Nat} (h : i < k) : (xs.take k).getD i 0 = xs.getD i 0 := by simp only [List.getD_eq_getElem?_getD, List.getElem?_take, if_pos h]
theorem getD_drop {xs : List Int} {k i : Nat} : (xs.drop k).getD i 0 = xs.getD (k + i) 0 := by simp only [List.getD_eq_getElem?_getD, List.getElem?_drop]
theorem scT_take {worths ks ws : List Int} {k i : Nat} (h : i < k) : scT (worths.take k) (ks.take k) ws i = scT worths ks ws i := by unfold scT; rw [getD_take h, getD_take h]
theorem scT_drop {worths ks ws : List Int} {k i : Nat} : scT (worths.drop k) (ks.drop k) ws i = scT worths ks ws (k + i) := by unfold scT; rw [getD_drop, getD_drop]
theorem scSum_take {worths ks ws : List Int} {k : Nat} : ∀ m, m ≤ k → scSum (worths.take k) (ks.take k) ws m = scSum worths ks ws m
  | 0, _ => rfl
  | m + 1, h => by simp only [scSum]; rw [scSum_take m (by omega), scT_take (by omega)]
theorem scSum_drop {worths ks ws : List Int} {k : Nat} : ∀ m, scSum worths ks ws k + scSum (worths.drop k) (ks.drop k) ws m = scSum worths ks ws (k + m)
  | 0 => by simp [scSum]
  | m + 1 => by
    have := scSum_drop (worths := worths) (ks := ks) (ws := ws) (k := k) m
    rw [show k + (m + 1) = (k + m) + 1 by omega]
    simp only [scSum]; rw [scT_drop]; omega
theorem sc_halve {worths ks ws : List Int} (h : scOk worths ks ws = true) {k : Nat} (hk : k ≤ ks.length) : scOk (worths.take k) (ks.take k) ws = true ∧ scOk (worths.drop k) (ks.drop k) ws = true ∧
    scSum (worths.take k) (ks.take k) ws (ks.take k).length + scSum (worths.drop k) (ks.drop k) ws (ks.drop k).length = scSum worths ks ws ks.length := by
  obtain ⟨a, b, c, d⟩ := sc_parts.1 h
  have l1 : (ks.take k).length = k := by rw [List.length_take]; omega
  have l2 : (ks.drop k).length = ks.length - k := List.length_drop ..
  refine ⟨sc_parts.2 ⟨a, by simp [b], by omega, fun i hi => ?_⟩, sc_parts.2 ⟨a, by simp [b], by omega, fun i hi => ?_⟩, ?_⟩
  · have := d i (by omega)
    unfold scGood at this ⊢
    rwa [getD_take (by omega), getD_take (by omega)]
  · have := d (k + i) (by omega)
    unfold scGood at this ⊢
    rwa [getD_drop, getD_drop]
  · rw [l1, l2, scSum_take k (Nat.le_refl _), scSum_drop, show k + (ks.length - k) = ks.length by omega]
theorem exOk_parts {worths ks hs : List Int} (h : exOk worths ks hs = true) : wtOk hs = true ∧ scOk worths ks (tailsL hs) = true := by simpa [exOk] using h
theorem exV_bd (worths ks hs : List Int) : 0 ≤ exV worths ks hs ∧ exV worths ks hs ≤ 8 * 68719476736 := by
  cases h : exOk worths ks hs
  · simp [exV, h]
  · obtain ⟨h1, h2⟩ := exOk_parts h
    rw [(exV_sc h1).1]; exact sc_bd h2
theorem ex_halve {worths ks hs : List Int} (h : exOk worths ks hs = true) {k : Nat} (hk : k ≤ ks.length) : exOk (worths.take k) (ks.take k) hs = true ∧ exOk (worths.drop k) (ks.drop k) hs = true ∧ exV (worths.take k) (ks.take k) hs + exV (worths.drop k) (ks.drop k) hs = exV worths ks hs := by
  obtain ⟨h1, h2⟩ := exOk_parts h
  obtain ⟨a, b, c⟩ := sc_halve h2 hk
  have e1 : exOk (worths.take k) (ks.take k) hs = true := by simp [exOk, h1, a]
  have e2 : exOk (worths.drop k) (ks.drop k) hs = true := by simp [exOk, h1, b]
  exact ⟨e1, e2, by unfold exV; rw [if_pos e1, if_pos e2, if_pos h]; exact c⟩
theorem ex_up {worths ks hs : List Int} (h : exOk worths ks hs = true) {k : Nat} (hk : k < ks.length) (hx : ks.getD k 0 + 1 < hs.length) : exOk worths (ks.set k (ks.getD k 0 + 1)) hs = true ∧ exV worths (ks.set k (ks.getD k 0 + 1)) hs ≤ exV worths ks hs := by
  obtain ⟨h1, h2⟩ := exOk_parts h
  obtain ⟨a, b⟩ := sc_up h2 hk (x := ks.getD k 0 + 1) (by omega) (by rw [tails_len]; exact hx)
  exact ⟨by rw [(exV_sc h1).2]; exact a, by rw [(exV_sc h1).1, (exV_sc h1).1]; exact b⟩
theorem ex_over {worths ks hs : List Int} {k : Nat} (hk : k < ks.length) (hx : ks.getD k 0 + 1 = hs.length) : exOk worths (ks.set k (ks.getD k 0 + 1)) hs = false := by
  cases h : exOk worths (ks.set k (ks.getD k 0 + 1)) hs with
  | false => rfl
  | true =>
    obtain ⟨h1, h2⟩ := exOk_parts h
    obtain ⟨a, b, c, d⟩ := sc_parts.1 h2
    have := (d k (by simpa using hk)).2.1
    rw [getD_set' hk, if_pos rfl, tails_len] at this
    omega

set_option maxHeartbeats 4000000 in
theorem law25_HopeLess (A B C : Option Addr) (l m n c d e : Nat) (worths ks hs : List Int) (at_ : Int) (w : World) (ha : Rd w .i64 A worths) (hb : Rd w .i64 B ks) (hc : Rd w .i64 C hs) (hl : l = worths.length) (hm : m = ks.length) (hn : n = hs.length) (hlc : l ≤ c) (hmd : m ≤ d) (hl' : l ≤ 17592186044416) (hm' : m ≤ 17592186044416) (hn' : n ≤ 17592186044416) (ih : AllI hs) :
    Gives Try.prog 7 #[.slice A l c, .slice B m d, .slice C n e, .int .i64 at_] w fun v w' => v = .bool true ∧ Below w.heap.size w w' := by
  refine gives_enter Try.call7 Try.func7 rfl rfl rfl (by kernel_rfl) ?_
  refine v_seq ?_
  refine v_region ?_
  refine vl_val (os_assign rfl) ?_
  refine vl_nil ?_
  refine v_seq ?_
  refine v_seq ?_
  refine v_region ?_
  refine vl_call (law25_awake w) rfl ?_
  rintro v1 w1 ⟨rfl, b1⟩
  refine vl_val (os_not rfl) ?_
  refine vl_nil ?_
  refine v_cond_f rfl ?_
  refine v_skip ?_
  refine v_seq ?_
  refine v_seq ?_
  refine v_region ?_
  refine vl_val (os_move rfl) ?_
  refine vl_val (os_len Try.underlying40 rfl) ?_
  refine vl_val (os_move rfl) ?_
  refine vl_val (os_len Try.underlying40 rfl) ?_
  refine vl_val (os_addi rfl rfl (by omega)) ?_
  refine vl_val (os_move rfl) ?_
  refine vl_val (os_len Try.underlying40 rfl) ?_
  refine vl_val (os_addi rfl rfl (by omega)) ?_
  refine vl_val (os_gtr rfl rfl) ?_
  refine vl_nil ?_
  refine v_cond_d rfl (fun hbig => ?_) (fun hbig => ?_)
  · refine v_seq ?_
    refine v_region ?_
    refine vl_val (os_assign rfl) ?_
    refine vl_nil ?_
    refine v_ret ?_
    exact post_ret rfl rfl (⟨rfl, b1⟩)
  · have ha1 := ha.keep b1
    have hb1 := hb.keep b1
    have hc1 := hc.keep b1
    refine v_skip ?_
    refine v_seq ?_
    refine v_region ?_
    refine vl_val (os_move rfl) ?_
    refine vl_val (os_move rfl) ?_
    refine vl_val (os_move rfl) ?_
    refine vl_call (hope_Expect A B C l m n c d e worths ks hs w1 ha1 hb1 hc1 hl hm hn (by omega) (by omega) (by omega) ih) rfl ?_
    rintro v2 w2 ⟨rfl, b12⟩
    have b2 : Below w.heap.size w w2 := b1.trans (b12.mono b1.size)
    refine vl_val (os_move rfl) ?_
    refine vl_val (os_extract rfl rfl) ?_
    refine vl_val (os_extract rfl rfl) ?_
    refine vl_val (os_assign rfl) ?_
    refine vl_val (os_assign rfl) ?_
    refine vl_nil ?_
    rcases (by cases h : exOk worths ks hs; exact .inl rfl; by_cases h2 : m = 0; exact .inr (.inl ⟨rfl, h2⟩); exact .inr (.inr ⟨rfl, h2⟩) : exOk worths ks hs = false ∨ (exOk worths ks hs = true ∧ m = 0) ∨ (exOk worths ks hs = true ∧ m ≠ 0)) with h | ⟨h, h0⟩ | ⟨h, h0⟩
    · rw [h]
      refine v_seq ?_
      refine v_seq ?_
      refine v_region ?_
      refine vl_val (os_move rfl) ?_
      refine vl_val (os_t (os_neq rfl rfl) (by decide)) ?_
      refine vl_val (os_move rfl) ?_
      refine vl_skip rfl rfl ?_
      refine vl_skip rfl rfl ?_
      refine vl_skip rfl rfl ?_
      refine vl_val (os_pick_t rfl rfl) ?_
      refine vl_nil ?_
      refine v_cond_t rfl ?_
      refine v_seq ?_
      refine v_region ?_
      refine vl_val (os_move rfl) ?_
      refine vl_val (os_t (os_eql rfl rfl) (by decide)) ?_
      refine vl_val (os_move rfl) ?_
      refine vl_valg rfl (os_move rfl) ?_
      refine vl_valg rfl (os_t (os_eql rfl rfl) (by simp [exV, h])) ?_
      refine vl_val (os_pick_t rfl rfl) ?_
      refine vl_val (os_move rfl) ?_
      refine vl_skip rfl rfl ?_
      refine vl_skip rfl rfl ?_
      refine vl_skip rfl rfl ?_
      refine vl_skip rfl rfl ?_
      refine vl_skipu rfl ?_
      refine vl_skipu rfl ?_
      refine vl_skip rfl rfl ?_
      refine vl_val (os_pick_t rfl rfl) ?_
      refine vl_val (os_assign rfl) ?_
      refine vl_nil ?_
      refine v_ret ?_
      exact post_ret rfl rfl (⟨rfl, b2⟩)
    · rw [h]
      refine v_seq ?_
      refine v_seq ?_
      refine v_region ?_
      refine vl_val (os_move rfl) ?_
      refine vl_val (os_f (os_neq rfl rfl) (by decide)) ?_
      refine vl_val (os_move rfl) ?_
      refine vl_valg rfl (os_move rfl) ?_
      refine vl_valg rfl (os_len Try.underlying40 rfl) ?_
      refine vl_valg rfl (os_eql rfl rfl) ?_
      refine vl_val (os_pick_f rfl rfl) ?_
      refine vl_nil ?_
      refine v_cond_yes rfl (by omega) ?_
      refine v_seq ?_
      refine v_region ?_
      refine vl_val (os_move rfl) ?_
      refine vl_val (os_f (os_eql rfl rfl) (by decide)) ?_
      refine vl_val (os_move rfl) ?_
      refine vl_skip rfl rfl ?_
      refine vl_skip rfl rfl ?_
      refine vl_val (os_pick_f rfl rfl) ?_
      refine vl_val (os_move rfl) ?_
      refine vl_valg rfl (os_move rfl) ?_
      refine vl_valg rfl (os_len Try.underlying40 rfl) ?_
      refine vl_valg rfl (os_t (os_eql rfl rfl) (by omega)) ?_
      refine vl_valg rfl (os_move rfl) ?_
      refine vl_valg rfl (os_move rfl) ?_
      refine vl_valg rfl (os_t (os_eql rfl rfl) (by unfold exV; rw [if_pos h, show ks.length = 0 by omega]; rfl)) ?_
      refine vl_valg rfl (os_pick_t rfl rfl) ?_
      refine vl_val (os_pick_f rfl rfl) ?_
      refine vl_val (os_assign rfl) ?_
      refine vl_nil ?_
      refine v_ret ?_
      exact post_ret rfl rfl (⟨rfl, b2⟩)
    · rw [h]
      refine v_seq ?_
      refine v_seq ?_
      refine v_region ?_
      refine vl_val (os_move rfl) ?_
      refine vl_val (os_f (os_neq rfl rfl) (by decide)) ?_
      refine vl_val (os_move rfl) ?_
      refine vl_valg rfl (os_move rfl) ?_
      refine vl_valg rfl (os_len Try.underlying40 rfl) ?_
      refine vl_valg rfl (os_eql rfl rfl) ?_
      refine vl_val (os_pick_f rfl rfl) ?_
      refine vl_nil ?_
      refine v_cond_no rfl (by omega) ?_
      obtain ⟨r, hr, hr1, hr2⟩ : ∃ r, at_.tmod (m : Int) = r ∧ -(m : Int) < r ∧ r < m := ⟨_, rfl, by have := Int.tmod_lt_of_pos (-at_) (show (0 : Int) < m by omega); rw [Int.neg_tmod] at this; omega, Int.tmod_lt_of_pos at_ (by omega)⟩
      obtain ⟨k, hk, hkm⟩ : ∃ k : Nat, (r + (m : Int)).tmod m = k ∧ k < m := ⟨((r + (m : Int)).tmod m).toNat, by have := Int.tmod_nonneg (m : Int) (show 0 ≤ r + (m : Int) by omega); omega, by have := Int.tmod_lt_of_pos (r + (m : Int)) (show (0 : Int) < m by omega); omega⟩
      refine v_skip ?_
      refine v_seq ?_
      refine v_region ?_
      refine vl_val (os_move rfl) ?_
      refine vl_val (os_move rfl) ?_
      refine vl_val (os_len Try.underlying40 rfl) ?_
      refine vl_val (os_rem rfl rfl (by omega) hr) ?_
      refine vl_val (os_move rfl) ?_
      refine vl_val (os_len Try.underlying40 rfl) ?_
      refine vl_val (os_addi rfl rfl (by omega)) ?_
      refine vl_val (os_move rfl) ?_
      refine vl_val (os_len Try.underlying40 rfl) ?_
      refine vl_val (os_rem rfl rfl (by omega) hk) ?_
      have hlm : l = m := by have := (sc_parts.1 (exOk_parts h).2).2.1; omega
      obtain ⟨t1, t2, t3⟩ := ex_halve h (k := k) (by omega)
      have ha2 := ha.keep b2
      have hb2 := hb.keep b2
      have hc2 := hc.keep b2
      refine vl_val (os_assign rfl) ?_
      refine vl_nil ?_
      refine v_seq ?_
      refine v_region_t LeG _ mixed (by kernel_rfl) lee_g (leg_start _) ?_
      refine vt_val (fun w hw => os_move rfl) ?_
      refine vt_val (fun w hw => os_move rfl) ?_
      refine vt_val (fun w hw => os_slice_h Try.underlying40 Try.sizeOf3 rfl rfl (h := k) (by omega) (by omega)) ?_
      refine vt_val (fun w hw => os_move rfl) ?_
      refine vt_val (fun w hw => os_move rfl) ?_
      refine vt_val (fun w hw => os_slice_h Try.underlying40 Try.sizeOf3 rfl rfl (h := k) (by omega) (by omega)) ?_
      refine vt_val (fun w hw => os_move rfl) ?_
      refine vt_call (v := _) (fun w hw => hope_Expect A B C k k n c d e (worths.take k) (ks.take k) hs w ((ha2.keep hw).take k) ((hb2.keep hw).take k) (hc2.keep hw) (by simp; omega) (by simp; omega) hn (by omega) (by omega) (by omega) ih) rfl ?_
      refine vt_val (fun w hw => os_move rfl) ?_
      refine vt_val (fun w hw => os_extract rfl rfl) ?_
      refine vt_val (fun w hw => os_extract rfl rfl) ?_
      refine vt_val (fun w hw => os_assign rfl) ?_
      refine vt_val (fun w hw => os_assign rfl) ?_
      refine vt_nil (fun Hw H => ?_)
      have b3 := b2.trans (H.mono b2.size)
      have ha3 := ha2.keep H
      have hb3 := hb2.keep H
      have hc3 := hc2.keep H
      refine v_seq ?_
      refine v_region_t LeG _ mixed (by kernel_rfl) lee_g (leg_start _) ?_
      refine vt_val (fun w hw => os_move rfl) ?_
      refine vt_val (fun w hw => os_move rfl) ?_
      refine vt_val (fun w hw => os_slice_l Try.underlying40 Try.sizeOf3 rfl rfl (i := k) (by omega) (by omega)) ?_
      refine vt_val (fun w hw => os_move rfl) ?_
      refine vt_val (fun w hw => os_move rfl) ?_
      refine vt_val (fun w hw => os_slice_l Try.underlying40 Try.sizeOf3 rfl rfl (i := k) (by omega) (by omega)) ?_
      refine vt_val (fun w hw => os_move rfl) ?_
      refine vt_call (v := _) (fun w hw => hope_Expect _ _ C _ _ n _ _ e (worths.drop k) (ks.drop k) hs w ((ha3.keep hw).sliced (c := c) (i := k) (by omega)) ((hb3.keep hw).sliced (c := d) (i := k) (by omega)) (hc3.keep hw) (by simp; omega) (by simp; omega) hn (by omega) (by omega) (by omega) ih) rfl ?_
      refine vt_val (fun w hw => os_move rfl) ?_
      refine vt_val (fun w hw => os_extract rfl rfl) ?_
      refine vt_val (fun w hw => os_extract rfl rfl) ?_
      refine vt_val (fun w hw => os_assign rfl) ?_
      refine vt_val (fun w hw => os_assign rfl) ?_
      refine vt_nil (fun Gw G => ?_)
      have b4 := b3.trans (G.mono b3.size)
      rw [t1, t2]
      refine v_seq ?_
      refine v_seq ?_
      refine v_region ?_
      refine vl_val (os_move rfl) ?_
      refine vl_val (os_f (os_neq rfl rfl) (by decide)) ?_
      refine vl_val (os_move rfl) ?_
      refine vl_valg rfl (os_move rfl) ?_
      refine vl_valg rfl (os_f (os_neq rfl rfl) (by decide)) ?_
      have x1 := exV_bd (worths.take k) (ks.take k) hs
      have x2 := exV_bd (worths.drop k) (ks.drop k) hs
      refine vl_val (os_pick_f rfl rfl) ?_
      refine vl_val (os_move rfl) ?_
      refine vl_valg rfl (os_move rfl) ?_
      refine vl_valg rfl (os_move rfl) ?_
      refine vl_valg rfl (os_addi rfl rfl (by omega)) ?_
      refine vl_valg rfl (os_move rfl) ?_
      refine vl_valg rfl (os_neq rfl rfl) ?_
      refine vl_val (os_pick_f rfl rfl) ?_
      refine vl_nil ?_
      refine v_cond_no rfl (by omega) ?_
      have s0 := own_alloc Gw [] 3 (Nat.le_refl Gw.heap.size) (by simp [maxLen])
      have s0b : Below Gw.heap.size Gw (Gw.alloc (.cells #[] 3)) := (Below.refl _ Gw).alloc (Nat.le_refl _) _
      refine v_skip ?_
      refine v_seq ?_
      refine v_region ?_
      refine vl_val (os_lit Try.underlying40 Try.sizeOf3 Try.zeroValue3 rfl rfl rfl rfl (by decide)) ?_
      refine vl_val (os_move rfl) ?_
      refine vl_some (ot_append Try.underlying40 ti_int rfl rfl rfl s0 ((hb3.keep G).keep s0b).toC (by simp [hm]) (ints_one _ _) (by simp; omega) (by simp [maxLen]; omega) (by simp)) ?_
      rintro v6 w6 ⟨so, sg⟩
      have x6 : Below Gw.heap.size Gw w6 := s0.below s0b sg (Nat.le_refl _) (by simp)
      have so6 : OwnK w6 Gw.heap.size 3 .i64 v6 ks := by simpa [OwnK] using so
      obtain ⟨g6, c6, rfl, hg6, hg6', hc6, _⟩ := so6.row (by omega)
      have hkb := (sc_parts.1 (exOk_parts h).2).2.2.2 k (by omega)
      unfold scGood at hkb
      rw [tails_len] at hkb
      have hwl := wtOk_parts (exOk_parts h).1
      have hcell : World.cell? w6 ⟨g6, 0 + k, none⟩ = some (.int .i64 (ks.getD k 0)) := by rw [Nat.zero_add]; exact OwnK.cell so6 (by omega)
      refine vl_val (os_assign rfl) ?_
      refine vl_nil ?_
      refine v_seq ?_
      refine v_region ?_
      refine vl_val (os_move rfl) ?_
      refine vl_val (os_move rfl) ?_
      refine vl_val (os_ix Try.underlying40 Try.sizeOf3 rfl rfl (i := k) (by omega) (by omega)) ?_
      refine vl_val (os_load Try.isAgg3 rfl (hcell)) ?_
      refine vl_val (os_addi rfl rfl (by omega)) ?_
      refine vl_val (os_ix Try.underlying40 Try.sizeOf3 rfl rfl (i := k) (by omega) (by omega)) ?_
      refine vl_unit (ou_store Try.sizeOf3 rfl rfl rfl (hcell) ((Own.free so6 _))) ?_
      rw [show 0 + k = k by omega]
      have so7 := OwnK.set so6 k (ks.getD k 0 + 1)
      have x7 := below_set x6 hg6 k (.int .i64 (ks.getD k 0 + 1))
      have b7 := b4.trans (x7.mono b4.size)
      have b37 := G.trans (x7.mono G.size)
      refine vl_nil ?_
      refine v_seq ?_
      refine v_region ?_
      refine vl_val (os_move rfl) ?_
      refine vl_val (os_move rfl) ?_
      refine vl_val (os_move rfl) ?_
      refine vl_call (hope_Expect A _ C l ks.length n c c6 e worths (ks.set k (ks.getD k 0 + 1)) hs _ (ha3.keep b37) (OwnK.rd so7) (hc3.keep b37) hl (by simp) hn (by omega) (by omega) (by omega) ih) rfl ?_
      rintro v8 w8 ⟨rfl, b78⟩
      have b8 := b7.trans (b78.mono b7.size)
      refine vl_val (os_move rfl) ?_
      refine vl_val (os_extract rfl rfl) ?_
      refine vl_val (os_extract rfl rfl) ?_
      refine vl_val (os_assign rfl) ?_
      refine vl_val (os_assign rfl) ?_
      refine vl_nil ?_
      by_cases hx : ks.getD k 0 + 1 < hs.length
      · obtain ⟨u1, u2⟩ := ex_up h (k := k) (by omega) hx
        rw [u1]
        refine v_seq ?_
        refine v_region ?_
        refine vl_val (os_move rfl) ?_
        refine vl_val (os_f (os_neq rfl rfl) (by decide)) ?_
        refine vl_val (os_move rfl) ?_
        refine vl_skip rfl rfl ?_
        refine vl_skip rfl rfl ?_
        refine vl_skip rfl rfl ?_
        refine vl_skip rfl rfl ?_
        refine vl_skip rfl rfl ?_
        refine vl_skip rfl rfl ?_
        refine vl_skip rfl rfl ?_
        refine vl_val (os_pick_f rfl rfl) ?_
        refine vl_val (os_move rfl) ?_
        refine vl_valg rfl (os_move rfl) ?_
        refine vl_valg rfl (os_t (os_eql rfl rfl) (by decide)) ?_
        refine vl_valg rfl (os_move rfl) ?_
        refine vl_valg rfl (os_move rfl) ?_
        refine vl_valg rfl (os_move rfl) ?_
        refine vl_valg rfl (os_leq rfl rfl) ?_
        refine vl_valg rfl (os_pick_t rfl rfl) ?_
        refine vl_val (os_pick_f rfl rfl) ?_
        refine vl_val (os_assign rfl) ?_
        refine vl_nil ?_
        refine v_ret ?_
        exact post_ret rfl rfl (⟨by rw [decide_eq_true u2], b8⟩)
      · have u1 := ex_over (worths := worths) (k := k) (ks := ks) (hs := hs) (by omega) (by omega)
        rw [u1]
        have hcell8 : World.cell? w8 ⟨g6, 0 + k, none⟩ = some (.int .i64 (ks.getD k 0 + 1)) := by
          have h1 := OwnK.cell (Own.keepAll so7 b78 : OwnK w8 _ _ _ _ _) (i := k) (by simp; omega)
          rw [getD_set' (by omega), if_pos rfl] at h1
          rw [Nat.zero_add]; exact h1
        refine v_seq ?_
        refine v_region ?_
        refine vl_val (os_move rfl) ?_
        refine vl_val (os_t (os_neq rfl rfl) (by decide)) ?_
        refine vl_val (os_move rfl) ?_
        refine vl_valg rfl (os_move rfl) ?_
        refine vl_valg rfl (os_move rfl) ?_
        refine vl_valg rfl (os_ix Try.underlying40 Try.sizeOf3 rfl rfl (i := k) (by omega) (by omega)) ?_
        refine vl_valg rfl (os_load Try.isAgg3 rfl (hcell8)) ?_
        refine vl_valg rfl (os_move rfl) ?_
        refine vl_valg rfl (os_len Try.underlying40 rfl) ?_
        refine vl_valg rfl (os_t (os_eql rfl rfl) (by omega)) ?_
        refine vl_val (os_pick_t rfl rfl) ?_
        refine vl_val (os_move rfl) ?_
        refine vl_skip rfl rfl ?_
        refine vl_skip rfl rfl ?_
        refine vl_skip rfl rfl ?_
        refine vl_skipu rfl ?_
        refine vl_skipu rfl ?_
        refine vl_skipu rfl ?_
        refine vl_skip rfl rfl ?_
        refine vl_val (os_pick_t rfl rfl) ?_
        refine vl_val (os_assign rfl) ?_
        refine vl_nil ?_
        refine v_ret ?_
        exact post_ret rfl rfl (⟨rfl, b8⟩)
end Go.Proofs.Ytpjmiafefammkaa
