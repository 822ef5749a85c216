/- Layer 25, plain: means as sums of tails. -/
import Derived.Test.YtpjmiafefammkaaHpB
namespace Go.Proofs.Ytpjmiafefammkaa
set_option linter.unusedVariables false

theorem exOkParts {worths ks hs : List Int} (h : exOk worths ks hs = true) : wtOk hs = true ∧ scOk worths ks (tailsL hs) = true := by simpa [exOk] using h
def sumF (f : Nat → Int) : Nat → Int
  | 0 => 0
  | k + 1 => sumF f k + f k
theorem sumF_add (f g : Nat → Int) : ∀ n, sumF (fun k => f k + g k) n = sumF f n + sumF g n
  | 0 => by simp [sumF]
  | n + 1 => by simp only [sumF]; rw [sumF_add f g n]; omega
theorem sumF_mul (f : Nat → Int) (a : Int) : ∀ n, sumF (fun k => f k * a) n = sumF f n * a
  | 0 => by simp [sumF]
  | n + 1 => by simp only [sumF]; rw [sumF_mul f a n, Int.add_mul]
theorem sumF_eq {f g : Nat → Int} : ∀ n, (∀ k, k < n → f k = g k) → sumF f n = sumF g n
  | 0, _ => rfl
  | n + 1, h => by simp only [sumF]; rw [sumF_eq n (fun k hk => h k (by omega)), h n (by omega)]
theorem sumF_bd {f : Nat → Int} {m : Int} : ∀ n, (∀ k, k < n → 0 ≤ f k ∧ f k ≤ m) → 0 ≤ sumF f n ∧ sumF f n ≤ n * m
  | 0, _ => by simp [sumF]
  | n + 1, h => by
    have h1 := sumF_bd n (fun k hk => h k (by omega))
    have h2 := h n (by omega)
    simp only [sumF]
    rw [show ((n + 1 : Nat) : Int) * m = n * m + m by rw [Int.natCast_add, Int.add_mul]; omega]
    omega
/-- the sum of those from k on, up to n -/
def upT (hs : List Int) (k : Int) (n : Nat) : Int := sumF (fun r => if k ≤ (r : Int) then hs.getD r 0 else 0) n
theorem upT_step (hs : List Int) (k : Nat) : ∀ n, upT hs k n = (if k < n then hs.getD k 0 else 0) + upT hs ((k : Int) + 1) n
  | 0 => by simp [upT, sumF]
  | n + 1 => by
    have := upT_step hs k n
    unfold upT at this ⊢
    simp only [sumF]
    rw [this]
    rcases Nat.lt_trichotomy k n with h | h | h
    · rw [if_pos h, if_pos (show k < n + 1 by omega), if_pos (show (k : Int) ≤ n by omega), if_pos (show (k : Int) + 1 ≤ n by omega)]; omega
    · subst h; rw [if_neg (by omega), if_pos (by omega), if_pos (by omega), if_neg (by omega)]; omega
    · rw [if_neg (by omega), if_neg (by omega), if_neg (by omega), if_neg (by omega)]; omega
theorem upT_end (hs : List Int) {k : Nat} : ∀ n, n ≤ k → upT hs k n = 0
  | 0, _ => rfl
  | n + 1, h => by
    have := upT_end hs (k := k) n (by omega)
    unfold upT at this ⊢
    simp only [sumF]
    rw [this, if_neg (by omega)]; rfl
theorem drop_upT (hs : List Int) : ∀ j k, k + j = hs.length → (hs.drop k).sum = upT hs k hs.length
  | 0, k, h => by rw [upT_end hs hs.length (by omega), List.drop_of_length_le (by omega)]; rfl
  | j + 1, k, h => by
    rw [sum_drop hs (by omega), drop_upT hs j (k + 1) (by omega), upT_step hs k, if_pos (by omega)]
    simp
theorem all_upT (hs : List Int) : sumF (fun r => hs.getD r 0) hs.length = hs.sum := by
  have h1 := drop_upT hs hs.length 0 (by omega)
  rw [List.drop_zero] at h1
  rw [h1]
  exact sumF_eq _ (fun k hk => by rw [if_pos (by omega)])
/-- the tails, if all together are no more than one -/
theorem tail_upT {hs : List Int} (hr : rowB hs = true) (hall : hs.sum ≤ 65536) {k : Nat} (hk : k < hs.length) : (tailsL hs).getD k 0 = upT hs k hs.length := by
  have h1 := tailsL_at hs hk
  rw [List.getD_eq_getElem?_getD, h1, Option.getD_some, tailAt, drop_upT hs (hs.length - k) k (by omega)]
  have h2 : upT hs k hs.length ≤ hs.sum := by
    rw [← all_upT hs]
    unfold upT
    have : ∀ n, n ≤ hs.length → sumF (fun r => if (k : Int) ≤ (r : Int) then hs.getD r 0 else 0) n ≤ sumF (fun r => hs.getD r 0) n := by
      intro n
      induction n with
      | zero => intro _; exact Int.le_refl _
      | succ n ih =>
        intro hn
        have h1 := ih (by omega)
        have h2 := rowB_at hr (k := n) (by omega)
        simp only [sumF]
        split <;> omega
    exact this _ (Nat.le_refl _)
  omega
def tailT (ws : List Int) (n : Nat) : Int := sumF (fun r => if 0 < r then ws.getD r 0 else 0) n
theorem mean_tails (hs : List Int) : ∀ n, meanS hs n = sumF (fun r => if 0 < r then upT hs r n else 0) n
  | 0 => rfl
  | n + 1 => by
    have ih := mean_tails hs n
    simp only [meanS, sumF]
    have h1 : sumF (fun r => if 0 < r then upT hs r (n + 1) else 0) n = sumF (fun r => (if 0 < r then upT hs r n else 0) + (if 0 < r then hs.getD n 0 else 0)) n := sumF_eq _ fun k hk => by
      by_cases h0 : 0 < k
      · simp only [if_pos h0]
        show upT hs k (n + 1) = _
        unfold upT
        simp only [sumF]
        rw [if_pos (by omega)]
      · simp [h0]
    have h2 : ∀ m : Nat, ∀ a : Int, sumF (fun r => if 0 < r then a else 0) (m + 1) = m * a := by
      intro m a
      induction m with
      | zero => simp [sumF]
      | succ m ihm => rw [sumF, ihm, if_pos (by omega)]; rw [Int.natCast_add, Int.add_mul]; omega
    have h3 : (if 0 < n then upT hs n (n + 1) else 0) = if 0 < n then hs.getD n 0 else 0 := by
      split
      · rw [upT_step hs n, if_pos (by omega)]
        have := upT_end hs (k := n + 1) (n + 1) (Nat.le_refl _)
        rw [show ((n : Int) + 1) = ((n + 1 : Nat) : Int) by omega, this, Int.add_zero]
      · rfl
    rw [h1, sumF_add, ← ih, h3]
    have h4 := h2 n (hs.getD n 0)
    simp only [sumF] at h4
    omega
theorem one_had (hs : List Int) (k a : Int) : ∀ n, sumF (fun r => hs.getD r 0 * (if k ≤ (r : Int) then a else 0)) n = a * upT hs k n
  | 0 => by simp [sumF, upT]
  | n + 1 => by
    have := one_had hs k a n
    unfold upT at this ⊢
    simp only [sumF]
    rw [this, Int.mul_add]
    split
    · rw [Int.mul_comm a (hs.getD n 0)]
    · simp
theorem had_swap (worths ks hs ws : List Int) (n : Nat) : ∀ m, (∀ i, i < m → ws.getD (ks.getD i 0).toNat 0 = upT hs (ks.getD i 0) n) → scSum worths ks ws m = sumF (fun r => hs.getD r 0 * hdSum worths ks r m) n
  | 0, _ => by
    simp only [scSum, hdSum]
    rw [sumF_eq (g := fun k => 0 * 0) n (fun k hk => by simp), sumF_mul (fun _ => 0)]; simp
  | m + 1, h => by
    have ih := had_swap worths ks hs ws n m (fun i hi => h i (by omega))
    have h1 := one_had hs (ks.getD m 0) (worths.getD m 0) n
    simp only [scSum, scT, h m (by omega)]
    rw [ih, ← h1, ← sumF_add]
    exact sumF_eq _ fun k hk => by simp only [hdSum, hdT]; rw [Int.mul_add]
theorem ex_had {worths ks hs : List Int} (h : exOk worths ks hs = true) {r : Nat} (hr : r < hs.length) : hdOk worths ks r = true := by
  obtain ⟨h1, h2⟩ := exOkParts h
  obtain ⟨a, b, c, d⟩ := sc_parts.1 h2
  obtain ⟨w1, w2, w3⟩ := wtOk_parts h1
  simp only [hdOk, Bool.and_eq_true, decide_eq_true_eq]
  refine ⟨b.symm, c, ⟨by omega, by omega⟩, fun i hi => ?_⟩
  have := d i hi
  unfold scGood at this
  rw [tails_len] at this
  unfold hdGood
  omega
def meanT (worths ks hs : List Int) (n : Nat) : Int := sumF (fun r => if hdOk worths ks r then hs.getD r 0 * hdV worths ks r else 0) n
theorem ex_mean {worths ks hs : List Int} (h : exOk worths ks hs = true) (hall : hs.sum ≤ 65536) : exV worths ks hs = meanT worths ks hs hs.length := by
  obtain ⟨h1, h2⟩ := exOkParts h
  obtain ⟨a, b, c, d⟩ := sc_parts.1 h2
  obtain ⟨w1, w2, w3⟩ := wtOk_parts h1
  unfold exV meanT
  rw [if_pos h, had_swap worths ks hs (tailsL hs) hs.length ks.length (fun i hi => ?_)]
  · exact sumF_eq _ fun k hk => by rw [if_pos (ex_had h hk), hdV, if_pos (ex_had h hk)]
  · have := d i hi
    unfold scGood at this
    rw [tails_len] at this
    have e := tail_upT w3 hall (k := (ks.getD i 0).toNat) (by omega)
    rw [e, show (((ks.getD i 0).toNat : Nat) : Int) = ks.getD i 0 by omega]
theorem mean_tail {hs : List Int} (hr : rowB hs = true) (hall : hs.sum ≤ 65536) : meanS hs hs.length = tailT (tailsL hs) hs.length := by
  rw [mean_tails]
  unfold tailT
  exact sumF_eq _ fun k hk => by rw [tail_upT hr hall hk]
theorem first_tail {hs : List Int} (hr : rowB hs = true) (hall : hs.sum ≤ 65536) : (tailsL hs).getD 0 0 = sumF (fun r => hs.getD r 0) hs.length := by
  have hl := rowB_len hr
  rw [tail_upT hr hall hl.1]
  exact sumF_eq _ (fun k hk => by rw [if_pos (by omega)])
theorem hdV_bd (worths ks : List Int) (came : Int) : 0 ≤ hdV worths ks came ∧ hdV worths ks came ≤ 8388608 := by
  unfold hdV
  split
  · rename_i h
    simp only [hdOk, Bool.and_eq_true, decide_eq_true_eq] at h
    have := hdSum_bd (came := came) ks.length h.2.2.2
    omega
  · omega
theorem tails_right {hs : List Int} (h : wtOk hs = true) : rightB ((hs.length : Int) - 1) (tailsL hs) = true := by
  obtain ⟨w1, w2, w3⟩ := wtOk_parts h
  have hp : ∀ k, k < hs.length → 0 ≤ tailAt hs k ∧ tailAt hs k ≤ 65536 ∧ tailAt hs (k + 1) ≤ tailAt hs k := fun k hk => by
    have h0 : ∀ j, 0 ≤ (hs.drop j).sum := fun j => sum_nonneg fun z hz => (rowB_mem w3 z (List.mem_of_mem_drop hz)).1
    have h1 := sum_drop hs hk
    have h2 := rowB_at w3 hk
    have h3 := h0 k
    simp only [List.getD_eq_getElem?_getD] at h2
    unfold tailAt
    omega
  have hat : ∀ k, k < hs.length → (tailsL hs).getD k 0 = tailAt hs k := fun k hk => by rw [List.getD_eq_getElem?_getD, tailsL_at hs hk]; rfl
  simp only [rightB, Bool.and_eq_true, decide_eq_true_eq, fallsB, tails_len]
  refine ⟨⟨by omega, by omega, by omega⟩, ?_, ?_, fun i hi hi2 => ?_⟩
  · rw [hat 0 (by omega)]; exact (hp 0 (by omega)).2.1
  · rw [hat _ (by omega)]; exact (hp _ (by omega)).1
  · rw [hat _ hi2, hat _ hi]; exact (hp i hi).2.2
end Go.Proofs.Ytpjmiafefammkaa
