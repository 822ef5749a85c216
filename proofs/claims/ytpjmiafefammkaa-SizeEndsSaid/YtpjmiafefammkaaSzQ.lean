/- Layer 11, plain law: what fits, fits with more room, with less in a layer, with a greater last threshold. No program in sight. -/
import Derived.Test.YtpjmiafefammkaaSzP
namespace Go.Proofs.Ytpjmiafefammkaa

theorem sumW_le : ∀ (zs ys : List (Int × Int)), ys.length = zs.length → (∀ i, i < zs.length → widthW (ys.getD i (0, 0)).1 (ys.getD i (0, 0)).2 ≤ widthW (zs.getD i (0, 0)).1 (zs.getD i (0, 0)).2) → sumW ys ≤ sumW zs
  | [], [], _, _ => by simp [sumW]
  | [], _ :: _, h, _ => by simp at h
  | _ :: _, [], h, _ => by simp at h
  | z :: zs, y :: ys, h, hi => by
    have h0 := hi 0 (by simp)
    have := sumW_le zs ys (by simpa using h) fun i hl => by have := hi (i + 1) (by simpa using hl); simpa using this
    simp only [sumW]
    simp at h0
    omega

theorem zip_getD {a b : List Int} {i : Nat} (ha : i < a.length) (hb : i < b.length) : (a.zip b).getD i (0, 0) = (a.getD i 0, b.getD i 0) := by
  rw [List.getD_eq_getElem?_getD, List.getElem?_eq_getElem (by rw [List.length_zip]; omega)]
  simp [ha, hb]

theorem fits_iff {n m b : Int} {lens ks : List Int} : fitsB n m b lens ks = true ↔ roomOk n m b lens.length = true ∧ lensB lens = true ∧ ks.length = lens.length ∧ sortedB ks = true ∧
    (∀ i, i < lens.length → 1 ≤ ks.getD i 0 ∧ ks.getD i 0 ≤ n) ∧ sumW (lens.zip ks) ≤ roomW n m b lens.length := by
  unfold fitsB
  simp only [Bool.and_eq_true, decide_eq_true_eq, fitGo_iff]
  constructor
  · rintro ⟨⟨⟨⟨h1, h2⟩, h3⟩, h4⟩, h5, h6⟩
    refine ⟨h1, h2, h3, h4, fun i hi => ?_, ?_⟩
    · have := h5 (lens.getD i 0, ks.getD i 0) (by
        rw [← zip_getD hi (by omega)]
        rw [List.getD_eq_getElem?_getD, List.getElem?_eq_getElem (by rw [List.length_zip]; omega)]
        exact List.getElem_mem _)
      simp only [widthOk, decide_eq_true_eq] at this
      omega
    · rcases h6 with h6 | h6
      · have : lens.length = 0 := by
          have := congrArg List.length h6
          rw [List.length_zip, h3] at this
          simpa using this
        simp [lensB, betw, this] at h2
      · exact h6
  · rintro ⟨h1, h2, h3, h4, h5, h6⟩
    refine ⟨⟨⟨⟨h1, h2⟩, h3⟩, h4⟩, fun p hp => ?_, .inr h6⟩
    obtain ⟨i, hi, rfl⟩ := List.mem_iff_getElem.1 hp
    rw [List.length_zip] at hi
    have h7 := h5 i (by omega)
    have h8 : rightB n m b = true := by simp only [roomOk, Bool.and_eq_true] at h1; exact h1.1
    simp only [rightB, decide_eq_true_eq] at h8
    simp only [lensB, Bool.and_eq_true, Bool.not_eq_true', List.any_eq_false, betw, decide_eq_true_eq] at h2
    have h9 := h2.2 lens[i] (List.getElem_mem _)
    have e1 : ks.getD i 0 = ks[i] := by simp [show i < ks.length by omega]
    rw [e1] at h7
    simp only [List.getElem_zip, widthOk, decide_eq_true_eq]
    simp at h9
    omega

theorem getD_set_eq (l : List Int) (k : Nat) (v : Int) (i : Nat) (hi : i < l.length) : (l.set k v).getD i 0 = if k = i then v else l.getD i 0 := by
  simp [List.getElem?_set, hi]
  split <;> simp_all

theorem fits_room {n m b m' b' : Int} {lens ks : List Int} (h : fitsB n m b lens ks = true) (hm : m ≤ m') (hm' : m' ≤ 1500) (hb : b ≤ b') (hb' : b' ≤ 524288) :
    fitsB n m' b' lens ks = true ∧ roomOk n m' b' lens.length = true ∧ roomW n m b lens.length ≤ roomW n m' b' lens.length := by
  rw [fits_iff] at h
  obtain ⟨h1, h2, h3, h4, h5, h6⟩ := h
  have h7 : roomOk n m' b' lens.length = true := by
    simp only [roomOk, rightB, Bool.and_eq_true, decide_eq_true_eq] at h1 ⊢
    exact ⟨by omega, h1.2⟩
  have h8 : 1 ≤ n := by simp only [roomOk, rightB, Bool.and_eq_true, decide_eq_true_eq] at h1; omega
  have h9 := room_mono (l := lens.length) h8 hm hb
  exact ⟨fits_iff.2 ⟨h7, h2, h3, h4, h5, by omega⟩, h7, h9⟩

theorem fits_nonneg {n m b : Int} {lens ks : List Int} (h : fitsB n m b lens ks = true) : 0 ≤ roomW n m b lens.length := by
  have h0 := h
  unfold fitsB at h0
  simp only [Bool.and_eq_true, decide_eq_true_eq] at h0
  have hz := (fitGo_iff _ _).1 h0.2
  have : 0 ≤ sumW (lens.zip ks) := by
    have h2 := hz.1
    generalize lens.zip ks = zs at h2
    induction zs with
    | nil => simp [sumW]
    | cons q s ih => simp only [sumW]; have := (width_bd (h2 q (by simp)).2).1; have := ih (fun p hp => h2 p (by simp [hp])); omega
  rw [fits_iff] at h
  omega

theorem fits_short {n m b : Int} {lens ks : List Int} (h : fitsB n m b lens ks = true) {k : Nat} {v : Int} (hk : k < lens.length) (h0 : 0 ≤ v) (hv : v ≤ lens.getD k 0) : fitsB n m b (lens.set k v) ks = true := by
  rw [fits_iff] at h ⊢
  obtain ⟨h1, h2, h3, h4, h5, h6⟩ := h
  rw [List.length_set]
  have hl2 : lensB (lens.set k v) = true := by
    simp only [lensB, Bool.and_eq_true, Bool.not_eq_true', List.any_eq_false, List.length_set] at h2 ⊢
    refine ⟨h2.1, fun z hz => ?_⟩
    obtain ⟨i, hi, rfl⟩ := List.mem_iff_getElem.1 hz
    rw [List.length_set] at hi
    rw [List.getElem_set]
    have h7 := h2.2 lens[k] (List.getElem_mem _)
    have h8 := h2.2 lens[i] (List.getElem_mem _)
    simp [hk] at hv
    split
    · simp [betw] at h7 ⊢; omega
    · exact h8
  refine ⟨h1, hl2, h3, h4, h5, ?_⟩
  refine Int.le_trans (sumW_le _ _ (by simp) fun i hi => ?_) h6
  rw [List.length_zip] at hi
  rw [zip_getD (by simp; omega) (by omega), zip_getD (by omega) (by omega), getD_set_eq _ _ _ _ (by omega)]
  simp only []
  split
  · rename_i he; subst he; exact width_mono hv (h5 k hk).1
  · exact Int.le_refl _

theorem fits_more {n m b : Int} {lens ks : List Int} (h : fitsB n m b lens ks = true) : fitsB n m b lens (ks.set (ks.length - 1) n) = true := by
  rw [fits_iff] at h ⊢
  obtain ⟨h1, h2, h3, h4, h5, h6⟩ := h
  have hlen : 1 ≤ lens.length := by simp only [lensB, Bool.and_eq_true, betw, decide_eq_true_eq] at h2; omega
  have hlast := h5 (ks.length - 1) (by omega)
  have hnn : ∀ i, i < lens.length → 0 ≤ lens.getD i 0 := fun i hi => by
    simp only [lensB, Bool.and_eq_true, Bool.not_eq_true', List.any_eq_false, betw, decide_eq_true_eq] at h2
    have := h2.2 lens[i] (List.getElem_mem _)
    simp at this
    simp [hi]; omega
  refine ⟨h1, h2, by rw [List.length_set, h3], ?_, fun i hi => ?_, ?_⟩
  · simp only [sortedB, decide_eq_true_eq, List.length_set] at h4 ⊢
    intro i hi hi2
    rw [getD_set_eq _ _ _ _ hi, getD_set_eq _ _ _ _ hi2, if_neg (show ¬ ks.length - 1 = i by omega)]
    split
    · exact (h5 i (by omega)).2
    · exact h4 i hi hi2
  · rw [getD_set_eq _ _ _ _ (by omega)]
    split
    · omega
    · exact h5 i hi
  · refine Int.le_trans (sumW_le _ _ (by simp) fun i hi => ?_) h6
    rw [List.length_zip] at hi
    rw [zip_getD (by omega) (by simp; omega), zip_getD (by omega) (by omega), getD_set_eq _ _ _ _ (by omega)]
    simp only []
    split
    · rename_i he; exact width_anti (hnn i (by omega)) (h5 i (by omega)).1 (h5 i (by omega)).2
    · exact Int.le_refl _
end Go.Proofs.Ytpjmiafefammkaa
