/- Layer 12, plain: how scores move. No program in sight. -/
import Derived.Test.YtpjmiafefammkaaWgP
namespace Go.Proofs.Ytpjmiafefammkaa
set_option linter.unusedVariables false

theorem getD_set' {xs : List Int} {k : Nat} (hk : k < xs.length) (x : Int) (i : Nat) : (xs.set k x).getD i 0 = if i = k then x else xs.getD i 0 := by
  simp only [List.getD_eq_getElem?_getD, List.getElem?_set]
  by_cases h : k = i
  · subst h; simp [hk]
  · rw [if_neg h, if_neg (fun e => h e.symm)]
theorem sc_parts {worths ks w : List Int} : scOk worths ks w = true ↔ (rightB ((w.length : Int) - 1) w = true ∧ ks.length = worths.length ∧ ks.length ≤ 8 ∧ ∀ i, i < ks.length → scGood worths ks w i) := by
  simp only [scOk, Bool.and_eq_true, decide_eq_true_eq]
theorem scSum_le {worths ks ws worths' ks' ws' : List Int} : ∀ (m : Nat), (∀ i, i < m → scT worths ks ws i ≤ scT worths' ks' ws' i) → scSum worths ks ws m ≤ scSum worths' ks' ws' m
  | 0, _ => by simp [scSum]
  | m + 1, h => by
    have := scSum_le m (fun i hi => h i (by omega))
    have := h m (by omega)
    simp only [scSum]; omega
theorem scSum_add {worths ks ws w1 w2 : List Int} : ∀ (m : Nat), (∀ i, i < m → scT w1 ks ws i + scT w2 ks ws i = scT worths ks ws i) → scSum w1 ks ws m + scSum w2 ks ws m = scSum worths ks ws m
  | 0, _ => by simp [scSum]
  | m + 1, h => by
    have := scSum_add m (fun i hi => h i (by omega))
    have := h m (by omega)
    simp only [scSum]; omega
def sumTo (xs : List Int) : Nat → Int
  | 0 => 0
  | k + 1 => sumTo xs k + xs.getD k 0
theorem scSum_even {worths ks ws : List Int} : ∀ (m : Nat), (∀ i, i < m → ws.getD (ks.getD i 0).toNat 0 = 65536) → scSum worths ks ws m = sumTo worths m * 65536
  | 0, _ => by simp [scSum, sumTo]
  | m + 1, h => by
    have h1 := scSum_even (worths := worths) m (fun i hi => h i (by omega))
    have h2 := h m (by omega)
    simp only [scSum, sumTo, scT, h1, h2, Int.add_mul]
theorem scV_ok {worths ks ws : List Int} (h : scOk worths ks ws = true) : scV worths ks ws = scSum worths ks ws ks.length := by simp [scV, h]

/-- a greater threshold -/
theorem sc_up {worths ks ws : List Int} (h : scOk worths ks ws = true) {k : Nat} (hk : k < ks.length) {x : Int} (h1 : ks.getD k 0 ≤ x) (h2 : x < ws.length) :
    scOk worths (ks.set k x) ws = true ∧ scV worths (ks.set k x) ws ≤ scV worths ks ws := by
  obtain ⟨a, b, c, d⟩ := sc_parts.1 h
  have hk0 := d k hk
  have hok : scOk worths (ks.set k x) ws = true := by
    refine sc_parts.2 ⟨a, by simpa using b, by simpa using c, fun i hi => ?_⟩
    have hi' : i < ks.length := by simpa using hi
    have := d i hi'
    unfold scGood at this ⊢
    rw [getD_set' hk]
    unfold scGood at hk0
    split
    · rename_i e; subst e; omega
    · exact this
  refine ⟨hok, ?_⟩
  rw [scV_ok h, scV_ok hok, List.length_set]
  refine scSum_le _ fun i hi => ?_
  unfold scT
  rw [getD_set' hk]
  split
  · rename_i e
    subst e
    unfold scGood at hk0
    have hf : fallsB ws = true := by simp only [rightB, Bool.and_eq_true] at a; exact a.2.2.2
    have := falls_le hf (i := (ks.getD i 0).toNat) (k := x.toNat - (ks.getD i 0).toNat) (by omega)
    rw [show (ks.getD i 0).toNat + (x.toNat - (ks.getD i 0).toNat) = x.toNat by omega] at this
    exact Int.mul_le_mul_of_nonneg_left this hk0.2.2.1
  · exact Int.le_refl _
/-- a greater worth -/
theorem sc_rich {worths ks ws : List Int} (h : scOk worths ks ws = true) {k : Nat} (hk : k < ks.length) {y : Int} (h1 : worths.getD k 0 ≤ y) (h2 : y ≤ 1048576) :
    scOk (worths.set k y) ks ws = true ∧ scV worths ks ws ≤ scV (worths.set k y) ks ws := by
  obtain ⟨a, b, c, d⟩ := sc_parts.1 h
  have hk0 := d k hk
  have hok : scOk (worths.set k y) ks ws = true := by
    refine sc_parts.2 ⟨a, by simpa using b, c, fun i hi => ?_⟩
    have := d i hi
    unfold scGood at this ⊢
    rw [getD_set' (by omega)]
    unfold scGood at hk0
    split
    · rename_i e; subst e; omega
    · exact this
  refine ⟨hok, ?_⟩
  rw [scV_ok h, scV_ok hok]
  refine scSum_le _ fun i hi => ?_
  unfold scT
  rw [getD_set' (by omega)]
  split
  · rename_i e
    subst e
    unfold scGood at hk0
    exact Int.mul_le_mul_of_nonneg_right h1 (right_bd a _ (by omega)).1
  · exact Int.le_refl _
/-- even weights -/
theorem sc_even {worths ks ws : List Int} (h : scOk worths ks ws = true) {n : Nat} (hn : ws.length = n + 1) : (1 ≤ n ∧ n ≤ 255) ∧ scOk worths ks (List.replicate (n + 1) 65536) = true ∧ scV worths ks (List.replicate (n + 1) 65536) = sumTo worths worths.length * 65536 := by
  obtain ⟨a, b, c, d⟩ := sc_parts.1 h
  have hn2 : 1 ≤ n ∧ n ≤ 255 := by simp only [rightB, Bool.and_eq_true, decide_eq_true_eq] at a; omega
  have hat : ∀ i, i < n + 1 → (List.replicate (n + 1) (65536 : Int)).getD i 0 = 65536 := fun i hi => by simp [hi]
  have hok : scOk worths ks (List.replicate (n + 1) 65536) = true := by
    refine sc_parts.2 ⟨?_, b, c, fun i hi => ?_⟩
    · simp only [rightB, fallsB, Bool.and_eq_true, decide_eq_true_eq, List.length_replicate]
      refine ⟨by omega, by rw [hat 0 (by omega)]; omega, by rw [hat _ (by omega)]; omega, fun i hi hi2 => by rw [hat i hi, hat (i + 1) hi2]; omega⟩
    · have := d i hi
      unfold scGood at this ⊢
      rw [List.length_replicate]
      omega
  refine ⟨hn2, hok, ?_⟩
  rw [scV_ok hok, scSum_even _ (fun i hi => ?_), b]
  have := d i hi
  unfold scGood at this
  exact hat _ (by omega)
/-- worths in two rows -/
theorem sc_halves {worths ks ws : List Int} (h : scOk worths ks ws = true) : scOk (worths.map (· / 2)) ks ws = true ∧ scOk (worths.map (fun x => x - x / 2)) ks ws = true ∧
    scV (worths.map (· / 2)) ks ws + scV (worths.map (fun x => x - x / 2)) ks ws = scV worths ks ws := by
  obtain ⟨a, b, c, d⟩ := sc_parts.1 h
  have m1 : ∀ i, i < worths.length → (worths.map (· / 2)).getD i 0 = worths.getD i 0 / 2 := fun i hi => by simp [hi]
  have m2 : ∀ i, i < worths.length → (worths.map (fun x => x - x / 2)).getD i 0 = worths.getD i 0 - worths.getD i 0 / 2 := fun i hi => by simp [hi]
  have o1 : scOk (worths.map (· / 2)) ks ws = true := sc_parts.2 ⟨a, by simpa using b, c, fun i hi => by have := d i hi; unfold scGood at this ⊢; rw [m1 i (by omega)]; omega⟩
  have o2 : scOk (worths.map (fun x => x - x / 2)) ks ws = true := sc_parts.2 ⟨a, by simpa using b, c, fun i hi => by have := d i hi; unfold scGood at this ⊢; rw [m2 i (by omega)]; omega⟩
  refine ⟨o1, o2, ?_⟩
  rw [scV_ok h, scV_ok o1, scV_ok o2]
  refine scSum_add _ fun i hi => ?_
  unfold scT
  rw [m1 i (by omega), m2 i (by omega), ← Int.add_mul]
  congr 1
  omega
theorem sumTo_bd {worths ks ws : List Int} (h : scOk worths ks ws = true) : ∀ k, k ≤ worths.length → 0 ≤ sumTo worths k ∧ sumTo worths k ≤ k * 1048576
  | 0, _ => by simp [sumTo]
  | k + 1, hk => by
    obtain ⟨a, b, c, d⟩ := sc_parts.1 h
    have ih := sumTo_bd h k (by omega)
    have := d k (by omega)
    unfold scGood at this
    simp only [sumTo]
    push_cast
    omega
theorem sc_bd {worths ks ws : List Int} (h : scOk worths ks ws = true) : 0 ≤ scV worths ks ws ∧ scV worths ks ws ≤ 8 * 68719476736 := by
  obtain ⟨a, b, c, d⟩ := sc_parts.1 h
  rw [scV_ok h]
  have : ∀ k, k ≤ ks.length → 0 ≤ scSum worths ks ws k ∧ scSum worths ks ws k ≤ k * 68719476736 := by
    intro k
    induction k with
    | zero => intro _; simp [scSum]
    | succ k ih =>
      intro hk
      have h1 := ih (by omega)
      have h2 := scT_bd (right_bd a) (d k (by omega))
      simp only [scSum]
      push_cast
      omega
  have := this _ (Nat.le_refl _)
  omega
end Go.Proofs.Ytpjmiafefammkaa
