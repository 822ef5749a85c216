/- Layer 23, plain laws: what tails are; sums of folds; folding a hundred times. No program in sight. -/
import Derived.Test.YtpjmiafefammkaaTails
namespace Go.Proofs.Ytpjmiafefammkaa

def tailAt (hs : List Int) (k : Nat) : Int := min (hs.drop k).sum 65536

theorem sum_drop (hs : List Int) {k : Nat} (hk : k < hs.length) : (hs.drop k).sum = hs[k]?.getD 0 + (hs.drop (k + 1)).sum := by
  have h1 : hs[k]?.getD 0 = hs[k] := by simp [hk]
  rw [h1, List.drop_eq_getElem_cons hk, List.sum_cons]

theorem tFold_down (hs : List Int) : ∀ k, k ≤ hs.length → (tFold hs (downTo hs.length k)).1 = (hs.drop (hs.length - k)).sum ∧
    ∀ j, hs.length - k ≤ j → j < hs.length → (tFold hs (downTo hs.length k)).2[j]? = some (tailAt hs j) := by
  intro k
  induction k with
  | zero => intro _; exact ⟨by simp [downTo, tFold], fun j h1 h2 => by omega⟩
  | succ k ih =>
    intro hk
    obtain ⟨i1, i2⟩ := ih (by omega)
    have hs1 := sum_drop hs (k := hs.length - 1 - k) (by omega)
    rw [show hs.length - 1 - k + 1 = hs.length - k by omega] at hs1
    have hl := tFold_len hs (downTo hs.length k)
    rw [downTo_succ, tFold_snoc]
    simp only [tStep]
    rw [show hs.length - (k + 1) = hs.length - 1 - k by omega]
    refine ⟨by rw [i1, hs1]; omega, fun j h1 h2 => ?_⟩
    by_cases hj : j = hs.length - 1 - k
    · subst hj
      rw [List.getElem?_set_self (by omega)]
      unfold tailAt
      rw [i1, hs1, Int.add_comm]
    · rw [List.getElem?_set_ne (fun e => hj e.symm)]
      exact i2 j (by omega) h2

theorem tailsL_len (hs : List Int) : (tailsL hs).length = hs.length := by unfold tailsL; rw [tFold_len]

theorem tailsL_at (hs : List Int) {k : Nat} (hk : k < hs.length) : (tailsL hs)[k]? = some (tailAt hs k) := by
  unfold tailsL
  exact (tFold_down hs hs.length (Nat.le_refl _)).2 k (by omega) hk

theorem rowB_mem {hs : List Int} (hr : rowB hs = true) : ∀ z ∈ hs, 0 ≤ z ∧ z ≤ 65536 := by
  intro z hz
  obtain ⟨k, hk, rfl⟩ := List.mem_iff_getElem.1 hz
  have := rowB_at hr hk
  simpa [hk] using this

theorem sum_nonneg {hs : List Int} (h : ∀ z ∈ hs, 0 ≤ z) : 0 ≤ hs.sum := by
  induction hs with
  | nil => simp
  | cons x l ih => simp only [List.sum_cons]; have := h x (by simp); have := ih (fun z hz => h z (by simp [hz])); omega

theorem sum_le_mul {hs : List Int} (h : ∀ z ∈ hs, z ≤ 65536) : hs.sum ≤ hs.length * 65536 := by
  induction hs with
  | nil => simp
  | cons x l ih => simp only [List.sum_cons, List.length_cons]; have := h x (by simp); have := ih (fun z hz => h z (by simp [hz])); omega

/-- what the law's loop asks of each place -/
theorem tail_place {hs : List Int} (hr : rowB hs = true) {k : Nat} (hk : k < hs.length) :
    0 ≤ tailAt hs k ∧ tailAt hs k ≤ 65536 ∧ tailAt hs (k + 1) ≤ tailAt hs k ∧ 0 ≤ tailAt hs (k + 1) ∧ (tailAt hs k < 65536 → tailAt hs k = tailAt hs (k + 1) + hs[k]?.getD 0) ∧ (tailAt hs k = 65536 → 65536 ≤ tailAt hs (k + 1) + hs[k]?.getD 0) := by
  have h1 := sum_drop hs hk
  have h2 := rowB_at hr hk
  have h3 : 0 ≤ (hs.drop (k + 1)).sum := sum_nonneg fun z hz => (rowB_mem hr z (List.mem_of_mem_drop hz)).1
  simp only [List.getD_eq_getElem?_getD] at h2
  unfold tailAt
  omega

theorem tailAt_end (hs : List Int) {k : Nat} (hk : hs.length ≤ k) : tailAt hs k = 0 := by
  unfold tailAt; rw [List.drop_eq_nil_of_le hk]; decide

/-! ### folds -/
theorem foldL_len (hs xs : List Int) : (foldL hs xs).length = hs.length := mapK_length
theorem foldL_at (hs xs : List Int) {k : Nat} (hk : k < hs.length) : (foldL hs xs)[k]?.getD 0 = blendW (hs[k]?.getD 0) (xs[k]?.getD 0) := by
  unfold foldL mapK foldG
  simp [hk, List.getD_eq_getElem?_getD]

theorem rowB_mk {zs : List Int} (h0 : 0 < zs.length) (h1 : zs.length ≤ 256) (h2 : ∀ k, k < zs.length → 0 ≤ zs[k]?.getD 0 ∧ zs[k]?.getD 0 ≤ 65536) : rowB zs = true := by
  unfold rowB
  simp only [Bool.and_eq_true, decide_eq_true_eq, Bool.not_eq_true', List.any_eq_false]
  refine ⟨⟨h0, h1⟩, fun z hz => ?_⟩
  obtain ⟨k, hk, rfl⟩ := List.mem_iff_getElem.1 hz
  have := h2 k hk
  simp [hk] at this
  simp [isB_yes this.1 this.2]

theorem foldL_row {hs xs : List Int} (h1 : rowB hs = true) (h2 : rowB xs = true) (hl : hs.length = xs.length) : rowB (foldL hs xs) = true := by
  have a := rowB_len h1
  refine rowB_mk (by rw [foldL_len]; exact a.1) (by rw [foldL_len]; exact a.2) fun k hk => ?_
  rw [foldL_len] at hk
  rw [foldL_at hs xs hk]
  have b1 := rowB_at h1 hk
  have b2 := rowB_at h2 (k := k) (by omega)
  simp only [List.getD_eq_getElem?_getD] at b1 b2
  exact blendW_bd b1.1 b1.2 b2.1 b2.2

theorem foldV_ok {hs xs : List Int} (h1 : rowB hs = true) (h2 : rowB xs = true) (hl : hs.length = xs.length) : foldV hs xs = foldL hs xs ∧ foldOk hs xs = true := by
  have : foldOk hs xs = true := by simp [foldOk, h1, h2, hl]
  exact ⟨by simp [foldV, this], this⟩

theorem foldL_sum (hs : List Int) : ∀ (xs : List Int), hs.length = xs.length → 8 * (foldL hs xs).sum ≤ 7 * hs.sum + xs.sum := by
  induction hs with
  | nil => intro xs h; cases xs <;> simp_all [foldL, mapK]
  | cons h l ih =>
    intro xs hl
    cases xs with
    | nil => simp at hl
    | cons x m =>
      have := ih m (by simpa using hl)
      have e : foldL (h :: l) (x :: m) = blendW h x :: foldL l m := by
        unfold foldL mapK foldG
        simp [List.mapIdx_cons, List.getD_eq_getElem?_getD]
      rw [e]
      simp only [List.sum_cons]
      have : 8 * blendW h x ≤ 7 * h + x := by unfold blendW; omega
      omega

theorem foldL_self (hs : List Int) {k : Nat} (hk : k < hs.length) : (foldL hs hs)[k]?.getD 0 = hs[k]?.getD 0 := by
  rw [foldL_at hs hs hk]; unfold blendW; omega

/-- folded with the same row so many times -/
def foldN (xs : List Int) : Nat → List Int → List Int
  | 0, hs => hs
  | k + 1, hs => foldL (foldN xs k hs) xs
theorem foldN_len (xs hs : List Int) (k : Nat) : (foldN xs k hs).length = hs.length := by
  induction k with
  | zero => rfl
  | succ k ih => rw [foldN, foldL_len, ih]
theorem foldN_row {xs hs : List Int} (h1 : rowB hs = true) (h2 : rowB xs = true) (hl : hs.length = xs.length) (k : Nat) : rowB (foldN xs k hs) = true := by
  induction k with
  | zero => exact h1
  | succ k ih => exact foldL_row ih h2 (by rw [foldN_len]; exact hl)

/-- a number's way: from below (so much less), from above (so much more) -/
def down8 : Nat → Int → Int
  | 0, d => d
  | k + 1, d => down8 k d - down8 k d / 8
def up8 : Nat → Int → Int
  | 0, d => d
  | k + 1, d => up8 k d - (up8 k d + 7) / 8
theorem down8_mono (k : Nat) : ∀ d e : Int, 0 ≤ d → d ≤ e → 0 ≤ down8 k d ∧ down8 k d ≤ down8 k e := by
  induction k with
  | zero => intro d e h1 h2; exact ⟨h1, h2⟩
  | succ k ih => intro d e h1 h2; have := ih d e h1 h2; simp only [down8]; omega
theorem up8_mono (k : Nat) : ∀ d e : Int, 0 ≤ d → d ≤ e → 0 ≤ up8 k d ∧ up8 k d ≤ up8 k e := by
  induction k with
  | zero => intro d e h1 h2; exact ⟨h1, h2⟩
  | succ k ih => intro d e h1 h2; have := ih d e h1 h2; simp only [up8]; omega
theorem down8_end : down8 100 65536 = 7 := by decide +kernel
theorem up8_end : up8 100 65536 = 0 := by decide +kernel

theorem foldN_at (xs hs : List Int) {j : Nat} (hj : j < hs.length) (k : Nat) :
    (hs[j]?.getD 0 ≤ xs[j]?.getD 0 → xs[j]?.getD 0 - (foldN xs k hs)[j]?.getD 0 = down8 k (xs[j]?.getD 0 - hs[j]?.getD 0)) ∧
    (xs[j]?.getD 0 ≤ hs[j]?.getD 0 → (foldN xs k hs)[j]?.getD 0 - xs[j]?.getD 0 = up8 k (hs[j]?.getD 0 - xs[j]?.getD 0)) := by
  induction k with
  | zero => exact ⟨fun _ => rfl, fun _ => rfl⟩
  | succ k ih =>
    have e := foldL_at (foldN xs k hs) xs (k := j) (by rw [foldN_len]; exact hj)
    refine ⟨fun h => ?_, fun h => ?_⟩
    · have i1 := ih.1 h
      have := (down8_mono k _ _ (show 0 ≤ xs[j]?.getD 0 - hs[j]?.getD 0 by omega) (Int.le_refl _)).1
      simp only [foldN, down8, ← i1]
      rw [e]; unfold blendW; omega
    · have i1 := ih.2 h
      have := (up8_mono k _ _ (show 0 ≤ hs[j]?.getD 0 - xs[j]?.getD 0 by omega) (Int.le_refl _)).1
      simp only [foldN, up8, ← i1]
      rw [e]; unfold blendW; omega

/-- after a hundred times -/
theorem foldN_hundred {xs hs : List Int} (h1 : rowB hs = true) (h2 : rowB xs = true) (hl : hs.length = xs.length) {j : Nat} (hj : j < hs.length) :
    (foldN xs 100 hs)[j]?.getD 0 ≤ xs[j]?.getD 0 ∧ xs[j]?.getD 0 - (foldN xs 100 hs)[j]?.getD 0 ≤ 7 ∧ (foldN xs 101 hs)[j]?.getD 0 = (foldN xs 100 hs)[j]?.getD 0 := by
  have a1 := rowB_at h1 hj
  have a2 := rowB_at h2 (k := j) (by omega)
  simp only [List.getD_eq_getElem?_getD] at a1 a2
  obtain ⟨i1, i2⟩ := foldN_at xs hs hj 100
  have e := foldL_at (foldN xs 100 hs) xs (k := j) (by rw [foldN_len]; exact hj)
  have key : (foldN xs 100 hs)[j]?.getD 0 ≤ xs[j]?.getD 0 ∧ xs[j]?.getD 0 - (foldN xs 100 hs)[j]?.getD 0 ≤ 7 := by
    rcases Int.le_total (hs[j]?.getD 0) (xs[j]?.getD 0) with h | h
    · have := i1 h
      have m := down8_mono 100 (xs[j]?.getD 0 - hs[j]?.getD 0) 65536 (by omega) (by omega)
      rw [down8_end] at m
      omega
    · have := i2 h
      have m := up8_mono 100 (hs[j]?.getD 0 - xs[j]?.getD 0) 65536 (by omega) (by omega)
      rw [up8_end] at m
      omega
  refine ⟨key.1, key.2, ?_⟩
  show (foldL (foldN xs 100 hs) xs)[j]?.getD 0 = _
  rw [e]; unfold blendW; omega
theorem foldN_hundred_k {k : Nat} (hk : k = 100) {xs hs : List Int} (h1 : rowB hs = true) (h2 : rowB xs = true) (hl : hs.length = xs.length) {j : Nat} (hj : j < hs.length) :
    (foldN xs k hs)[j]?.getD 0 ≤ xs[j]?.getD 0 ∧ xs[j]?.getD 0 - (foldN xs k hs)[j]?.getD 0 ≤ 7 ∧ (foldL (foldN xs k hs) xs)[j]?.getD 0 = (foldN xs k hs)[j]?.getD 0 := by
  subst hk; exact foldN_hundred h1 h2 hl hj
end Go.Proofs.Ytpjmiafefammkaa
