/- Layer 12, plain: what weights, scores and orders are. No program in sight. -/
import Derived.Test.YtpjmiafefammkaaLib
namespace Go.Proofs.Ytpjmiafefammkaa
set_option linter.unusedVariables false

def fallsB (zs : List Int) : Bool := decide (∀ i, i < zs.length → i + 1 < zs.length → zs.getD (i + 1) 0 ≤ zs.getD i 0)
def rightB (n : Int) (w : List Int) : Bool := decide (1 ≤ n ∧ n ≤ 255 ∧ (w.length : Int) = n + 1) && (decide (w.getD 0 0 ≤ 65536) && (decide (0 ≤ w.getD n.toNat 0) && fallsB w))
theorem falls_le {zs : List Int} (h : fallsB zs = true) {i : Nat} : ∀ {k : Nat}, i + k < zs.length → zs.getD (i + k) 0 ≤ zs.getD i 0 := by
  intro k
  induction k with
  | zero => intro _; exact Int.le_refl _
  | succ k ih =>
    intro hk
    have h1 := of_decide_eq_true h (i + k) (by omega) (by omega)
    have h2 := ih (by omega)
    rw [show i + (k + 1) = i + k + 1 by omega]
    omega
theorem right_bd {n : Int} {w : List Int} (h : rightB n w = true) : ∀ i, i < w.length → 0 ≤ w.getD i 0 ∧ w.getD i 0 ≤ 65536 := by
  simp only [rightB, Bool.and_eq_true, decide_eq_true_eq] at h
  obtain ⟨⟨h1, h2, h3⟩, h4, h5, h6⟩ := h
  intro i hi
  have a := falls_le h6 (i := 0) (k := i) (by omega)
  rw [Nat.zero_add] at a
  have b := falls_le h6 (i := i) (k := n.toNat - i) (by omega)
  rw [show i + (n.toNat - i) = n.toNat by omega] at b
  omega
/-- as the document has it -/
theorem right_all (n : Int) (w : List Int) : rightB n w = (decide (1 ≤ n ∧ n ≤ 255 ∧ (w.length : Int) = n + 1) && decide (∀ i, i < w.length → 0 ≤ w.getD i 0 ∧ w.getD i 0 ≤ 65536 ∧ (0 < i → w.getD i 0 ≤ w.getD (i - 1) 0))) := by
  rw [Bool.eq_iff_iff]
  constructor
  · intro h
    have hb := right_bd h
    simp only [rightB, Bool.and_eq_true, decide_eq_true_eq] at h ⊢
    refine ⟨h.1, fun i hi => ⟨(hb i hi).1, (hb i hi).2, fun h0 => ?_⟩⟩
    have := of_decide_eq_true h.2.2.2 (i - 1) (by omega) (by omega)
    rwa [show i - 1 + 1 = i by omega] at this
  · intro h
    simp only [rightB, fallsB, Bool.and_eq_true, decide_eq_true_eq] at h ⊢
    obtain ⟨⟨h1, h2, h3⟩, h4⟩ := h
    refine ⟨⟨h1, h2, h3⟩, (h4 0 (by omega)).2.1, (h4 n.toNat (by omega)).1, fun i hi hi2 => ?_⟩
    have := (h4 (i + 1) hi2).2.2 (by omega)
    simpa using this

def scT (worths ks w : List Int) (i : Nat) : Int := worths.getD i 0 * w.getD (ks.getD i 0).toNat 0
def scGood (worths ks w : List Int) (i : Nat) : Prop := 1 ≤ ks.getD i 0 ∧ ks.getD i 0 < w.length ∧ 0 ≤ worths.getD i 0 ∧ worths.getD i 0 ≤ 1048576
instance (worths ks w : List Int) (i : Nat) : Decidable (scGood worths ks w i) := by unfold scGood; infer_instance
def scOk (worths ks w : List Int) : Bool := rightB ((w.length : Int) - 1) w && (decide (ks.length = worths.length) && (decide (ks.length ≤ 8) && decide (∀ i, i < ks.length → scGood worths ks w i)))
def scSum (worths ks w : List Int) : Nat → Int
  | 0 => 0
  | k + 1 => scSum worths ks w k + scT worths ks w k
def scV (worths ks w : List Int) : Int := if scOk worths ks w then scSum worths ks w ks.length else 0
def errA (b : Bool) : Int := if b then 0 else 2
theorem errA_zero {b : Bool} : errA b = 0 ↔ b = true := by cases b <;> simp [errA]
theorem prod_bd {a b : Int} (ha : 0 ≤ a ∧ a ≤ 1048576) (hb : 0 ≤ b ∧ b ≤ 65536) : 0 ≤ a * b ∧ a * b ≤ 68719476736 :=
  ⟨Int.mul_nonneg ha.1 hb.1, Int.le_trans (Int.mul_le_mul ha.2 hb.2 hb.1 (by omega)) (by omega)⟩
theorem scT_bd {worths ks w : List Int} {i : Nat} (hw : ∀ i, i < w.length → 0 ≤ w.getD i 0 ∧ w.getD i 0 ≤ 65536) (hg : scGood worths ks w i) : 0 ≤ scT worths ks w i ∧ scT worths ks w i ≤ 68719476736 := by
  unfold scGood at hg
  exact prod_bd ⟨hg.2.2.1, hg.2.2.2⟩ (hw _ (by omega))

def lessL : List Int → List Int → Bool
  | _, [] => false
  | [], _ :: _ => true
  | x :: xs, y :: ys => decide (x < y) || (decide (x = y) && lessL xs ys)
theorem lessL_tri : ∀ (a b : List Int), (lessL a b || lessL b a) = !decide (a = b) ∧ (lessL a b && lessL b a) = false
  | [], [] => by simp [lessL]
  | [], _ :: _ => by simp [lessL]
  | _ :: _, [] => by simp [lessL]
  | x :: xs, y :: ys => by
    have ih := lessL_tri xs ys
    rcases (by omega : x < y ∨ y < x ∨ x = y) with h | h | h
    · have h1 : ¬ y < x := by omega
      have h2 : ¬ x = y := by omega
      have h3 : ¬ y = x := by omega
      simp [lessL, h, h1, h2, h3]
    · have h1 : ¬ x < y := by omega
      have h2 : ¬ x = y := by omega
      have h3 : ¬ y = x := by omega
      simp [lessL, h, h1, h2, h3]
    · subst h
      simpa [lessL] using ih
theorem lessL_trans : ∀ (a b c : List Int), lessL a b = true → lessL b c = true → lessL a c = true
  | _, _, [], _, h => by simp [lessL] at h
  | _, [], _ :: _, h, _ => by simp [lessL] at h
  | [], _ :: _, _ :: _, _, _ => by simp [lessL]
  | x :: xs, y :: ys, z :: zs, h1, h2 => by
    simp only [lessL, Bool.or_eq_true, Bool.and_eq_true, decide_eq_true_eq] at h1 h2 ⊢
    rcases h1 with h1 | ⟨h1, h1'⟩ <;> rcases h2 with h2 | ⟨h2, h2'⟩
    · exact .inl (by omega)
    · exact .inl (by omega)
    · exact .inl (by omega)
    · exact .inr ⟨by omega, lessL_trans xs ys zs h1' h2'⟩

def betOk (worths ks other w : List Int) : Bool := scOk worths ks w && scOk worths other w
def betV (worths ks other w : List Int) : Bool := betOk worths ks other w && (decide (scV worths other w < scV worths ks w) || (decide (scV worths ks w = scV worths other w) && lessL ks other))
theorem bet_tri {worths a b w : List Int} (h : betOk worths a b w = true) : (betV worths a b w || betV worths b a w) = !decide (a = b) ∧ (betV worths a b w && betV worths b a w) = false := by
  have h' : betOk worths b a w = true := by simp only [betOk, Bool.and_eq_true] at h ⊢; exact ⟨h.2, h.1⟩
  have ht := lessL_tri a b
  unfold betV
  rw [h, h']
  by_cases hab : a = b
  · subst hab
    have h1 : lessL a a = false := by simpa using ht.2
    simp [h1]
  · rw [decide_eq_false hab] at ht ⊢
    generalize scV worths a w = s
    generalize scV worths b w = t
    rcases (by omega : s < t ∨ t < s ∨ s = t) with h1 | h1 | h1
    · have h2 : ¬ t < s := by omega
      have h3 : ¬ s = t := by omega
      have h4 : ¬ t = s := by omega
      simp [h1, h2, h3, h4]
    · have h2 : ¬ s < t := by omega
      have h3 : ¬ s = t := by omega
      have h4 : ¬ t = s := by omega
      simp [h1, h2, h3, h4]
    · subst h1
      simpa using ht
theorem bet_trans {worths a b c w : List Int} (h : betOk worths a b w = true) (h2 : betOk worths b c w = true) (hab : betV worths a b w = true) (hbc : betV worths b c w = true) : betV worths a c w = true := by
  have h3 : betOk worths a c w = true := by simp only [betOk, Bool.and_eq_true] at h h2 ⊢; exact ⟨h.1, h2.2⟩
  simp only [betV, h, h2, h3, Bool.true_and, Bool.or_eq_true, Bool.and_eq_true, decide_eq_true_eq] at *
  rcases hab with hab | ⟨hab, hab'⟩ <;> rcases hbc with hbc | ⟨hbc, hbc'⟩
  · exact .inl (by omega)
  · exact .inl (by omega)
  · exact .inl (by omega)
  · exact .inr ⟨by omega, lessL_trans _ _ _ hab' hbc'⟩
end Go.Proofs.Ytpjmiafefammkaa
