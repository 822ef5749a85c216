/- Layer 7, plain: of what is sealed, of which bits are turned within 32 of them, it is told so. No program in sight. -/
import Derived.Test.YtmbcflanifoofaaSmO
namespace Go.Proofs.Ytmbcflanifoofaa
open Go.RowKit
set_option linter.unusedVariables false

def rN (x : Nat) : Nat := (x / 2) ^^^ (if x % 2 = 1 then 0xEDB88320 else 0)
def rNs : Nat → Nat → Nat
  | 0, x => x
  | k + 1, x => rNs k (rN x)
def natOf : List Int → Nat
  | [] => 0
  | z :: zs => z.toNat ^^^ (natOf zs <<< 8)
theorem rNs_add (a b x : Nat) : rNs (a + b) x = rNs b (rNs a x) := by
  induction a generalizing x with
  | zero => rw [Nat.zero_add]; rfl
  | succ a ih => rw [show a + 1 + b = (a + b) + 1 by omega]; exact ih (rN x)
theorem rNs_succ (k x : Nat) : rNs (k + 1) x = rN (rNs k x) := rNs_add k 1 x
theorem crcRnd_nat (s : BitVec 32) : (crcRnd s).toNat = rN s.toNat := by
  rw [crcRnd_eq, BitVec.toNat_xor, BitVec.toNat_ushiftRight, Nat.shiftRight_eq_div_pow, Nat.pow_one]
  unfold rN
  congr 1
  have : s.getLsbD 0 = decide (s.toNat % 2 = 1) := by simp [BitVec.getLsbD]
  rw [this]
  by_cases h : s.toNat % 2 = 1 <;> simp [h, crcPoly]
theorem crcRnds_nat (k : Nat) (s : BitVec 32) : (crcRnds k s).toNat = rNs k s.toNat := by
  induction k with
  | zero => rfl
  | succ k ih => rw [rNs_succ, ← ih]; exact crcRnd_nat _
theorem nxor_lc (a b c : Nat) : a ^^^ (b ^^^ c) = b ^^^ (a ^^^ c) := by rw [← Nat.xor_assoc, Nat.xor_comm a b, Nat.xor_assoc]
theorem nxor_cc (a b : Nat) : a ^^^ (a ^^^ b) = b := by rw [← Nat.xor_assoc, Nat.xor_self, Nat.zero_xor]
theorem rN_xor (a b : Nat) : rN (a ^^^ b) = rN a ^^^ rN b := by
  unfold rN
  rw [Nat.xor_div_two]
  have h : (a ^^^ b) % 2 = (a + b) % 2 := by have := @Nat.xor_mod_two_eq_one a b; omega
  generalize a / 2 = x
  generalize b / 2 = y
  rcases Nat.mod_two_eq_zero_or_one a with ha | ha <;> rcases Nat.mod_two_eq_zero_or_one b with hb | hb
  · rw [if_neg (by omega), if_neg (by omega), if_neg (by omega)]; simp
  · rw [if_pos (by omega), if_neg (by omega), if_pos (by omega)]; simp [Nat.xor_assoc]
  · rw [if_pos (by omega), if_pos (by omega), if_neg (by omega), Nat.xor_zero, Nat.xor_assoc, Nat.xor_assoc, Nat.xor_comm y]
  · rw [if_neg (by omega), if_pos (by omega), if_pos (by omega), Nat.xor_zero]
    generalize 0xEDB88320 = p
    rw [Nat.xor_assoc, nxor_lc p y p, Nat.xor_self, Nat.xor_zero]
theorem rNs_xor (k a b : Nat) : rNs k (a ^^^ b) = rNs k a ^^^ rNs k b := by
  induction k generalizing a b with
  | zero => rfl
  | succ k ih => simp only [rNs, rN_xor, ih]
theorem rNs_shift (k x : Nat) : rNs k (x <<< k) = x := by
  induction k with
  | zero => simp [rNs]
  | succ k ih =>
    have h : x <<< (k + 1) = 2 * (x <<< k) := by simp [Nat.shiftLeft_eq, Nat.pow_succ]; rw [← Nat.mul_assoc, Nat.mul_comm]
    have : rN (x <<< (k + 1)) = x <<< k := by
      unfold rN
      rw [h, if_neg (by omega), Nat.mul_div_cancel_left _ (by omega), Nat.xor_zero]
    simp only [rNs, this, ih]
theorem rN_ne {x : Nat} (h : x ≠ 0) (hl : x < 2 ^ 32) : rN x ≠ 0 ∧ rN x < 2 ^ 32 := by
  unfold rN
  refine ⟨fun h0 => ?_, Nat.xor_lt_two_pow (by omega) (by split <;> decide)⟩
  by_cases hx : x % 2 = 1
  · rw [if_pos hx] at h0
    have h1 : (x / 2 ^^^ 0xEDB88320).testBit 31 = false := by rw [h0]; simp
    rw [Nat.testBit_xor, Nat.testBit_lt_two_pow (show x / 2 < 2 ^ 31 by omega)] at h1
    exact absurd h1 (by decide)
  · rw [if_neg hx, Nat.xor_zero] at h0
    omega
theorem rNs_ne (k : Nat) {x : Nat} (h : x ≠ 0) (hl : x < 2 ^ 32) : rNs k x ≠ 0 := by
  induction k generalizing x with
  | zero => exact h
  | succ k ih => exact ih (rN_ne h hl).1 (rN_ne h hl).2
theorem crcRun_nat : ∀ (zs : List Int) (s : BitVec 32), AllB zs → (crcRun s zs).toNat = rNs (8 * zs.length) (s.toNat ^^^ natOf zs)
  | [], s, _ => by simp [crcRun, natOf, rNs]
  | z :: zs, s, h => by
    have hz := h z (by simp)
    have hb : (BitVec.setWidth 32 (BitVec.ofInt 8 z)).toNat = z.toNat := by
      simp [BitVec.toNat_ofInt]; omega
    show (crcRun (crcStep s z) zs).toNat = _
    rw [crcRun_nat zs _ (fun y hy => h y (by simp [hy])), crcStep_rnds, crcRnds_nat, BitVec.toNat_xor, hb]
    rw [show 8 * (z :: zs).length = 8 + 8 * zs.length by simp; omega, rNs_add, natOf, ← Nat.xor_assoc, rNs_xor 8 (s.toNat ^^^ z.toNat), rNs_shift]
theorem cons_add {z M : Nat} (h : z < 256) : z ^^^ (M <<< 8) = z + 256 * M := by
  apply Nat.eq_of_testBit_eq
  intro i
  rw [Nat.add_comm, show 256 * M + z = 2 ^ 8 * M + z from rfl, Nat.testBit_two_pow_mul_add M (show z < 2 ^ 8 from h), Nat.testBit_xor, Nat.testBit_shiftLeft]
  by_cases h8 : i < 8
  · simp [h8, show ¬ 8 ≤ i by omega]
  · have : z.testBit i = false := Nat.testBit_lt_two_pow (Nat.lt_of_lt_of_le h (Nat.pow_le_pow_right (n := 2) (by omega) (show 8 ≤ i by omega)))
    simp [h8, this, show 8 ≤ i by omega]
theorem natOf_le4 (x : BitVec 32) : natOf (le4 x) = x.toNat := by
  have hx := x.isLt
  simp only [le4, natOf, BitVec.toNat_setWidth, BitVec.toNat_ushiftRight, Int.toNat_natCast, Nat.shiftRight_eq_div_pow]
  rw [cons_add (by omega), cons_add (by omega), cons_add (by omega), cons_add (by omega)]
  omega
theorem seal_res (c : List Int) (hc : AllB c) : (crcRun (~~~ 0#32) (sealL c)).toNat = rNs 32 (2 ^ 32 - 1) := by
  unfold sealL
  rw [crcRun_app, crcRun_nat _ _ (le4_B _), natOf_le4, ← BitVec.toNat_xor]
  show rNs (8 * 4) _ = _
  congr 1
  have : crcOf [c] = ~~~ crcRun (~~~ 0#32) c := rfl
  rw [this]
  generalize crcRun (~~~ 0#32) c = x
  have : x ^^^ ~~~ x = BitVec.allOnes 32 := by
    apply BitVec.eq_of_getLsbD_eq
    intro i hi
    rw [BitVec.getLsbD_allOnes, BitVec.getLsbD_xor, BitVec.getLsbD_not]
    cases x.getLsbD i <;> simp [hi]
  rw [this]; decide
theorem seal_burst {b ts : List Int} {W k : Nat} (hb : AllB b) (ht : AllB ts) (hl : ts.length = (sealL b).length) (hn : natOf ts = natOf (sealL b) ^^^ (W <<< k)) (h0 : W ≠ 0) (hW : W < 2 ^ 32) (hk : k ≤ 8 * ts.length) : openE ts = 10 := by
  have h4 : 4 ≤ ts.length := by rw [hl]; simp [sealL, le4]
  unfold openE
  rw [if_neg (by omega), if_neg]
  intro hs
  have e1 := seal_res _ (ht.take (ts.length - 4))
  have e2 := seal_res _ hb
  rw [hs, crcRun_nat _ _ ht, hn, ← Nat.xor_assoc, rNs_xor, hl, ← crcRun_nat _ _ (sealL_B hb), e2] at e1
  have e3 : rNs (8 * (sealL b).length) (W <<< k) = 0 := by
    have := congrArg (fun z => rNs 32 (2 ^ 32 - 1) ^^^ z) e1
    simp only [nxor_cc, Nat.xor_self] at this
    exact this
  rw [show 8 * (sealL b).length = k + (8 * (sealL b).length - k) by omega, rNs_add, rNs_shift] at e3
  exact rNs_ne _ h0 hW e3
theorem natOf_set : ∀ (ts : List Int) (q : Nat) (z' : Int) (r : Nat), q < ts.length → z'.toNat = (ts.getD q 0).toNat ^^^ (1 <<< r) → natOf (ts.set q z') = natOf ts ^^^ (1 <<< (8 * q + r))
  | [], q, z', r, h, _ => by simp at h
  | z :: ts, 0, z', r, h, e => by
    simp only [List.set_cons_zero, natOf, List.getD_cons_zero] at e ⊢
    rw [e, Nat.mul_zero, Nat.zero_add, Nat.xor_assoc, Nat.xor_assoc, Nat.xor_comm (1 <<< r)]
  | z :: ts, q + 1, z', r, h, e => by
    simp only [List.set_cons_succ, natOf, List.getD_cons_succ] at e ⊢
    rw [natOf_set ts q z' r (by simpa using h) e, Nat.shiftLeft_xor_distrib, Nat.xor_assoc, ← Nat.shiftLeft_add, show 8 * q + r + 8 = 8 * (q + 1) + r by omega]
theorem bits_succ (t i : Nat) : t % 2 ^ (i + 1) = if t.testBit i then (t % 2 ^ i) ^^^ (1 <<< i) else t % 2 ^ i := by
  apply Nat.eq_of_testBit_eq
  intro j
  rw [Nat.testBit_mod_two_pow]
  split
  · rename_i h
    rw [Nat.testBit_xor, Nat.testBit_mod_two_pow, Nat.testBit_shiftLeft]
    rcases Nat.lt_trichotomy j i with hj | rfl | hj
    · simp [hj, show j < i + 1 by omega, show ¬ i ≤ j by omega]
    · simp [h]
    · have h1 : (1 : Nat).testBit (j - i) = false := Nat.testBit_lt_two_pow (Nat.one_lt_two_pow (by omega))
      simp [show ¬ j < i by omega, show ¬ j < i + 1 by omega, show i ≤ j by omega, h1]
  · rename_i h
    rw [Nat.testBit_mod_two_pow]
    rcases Nat.lt_trichotomy j i with hj | rfl | hj
    · simp [hj, show j < i + 1 by omega]
    · simp at h; simp [h]
    · simp [show ¬ j < i by omega, show ¬ j < i + 1 by omega]
theorem bits_step {M t i k : Nat} (h : t.testBit i = true) : M ^^^ ((t % 2 ^ (i + 1)) <<< k) = (M ^^^ ((t % 2 ^ i) <<< k)) ^^^ (1 <<< (k + i)) := by
  rw [bits_succ, if_pos h, Nat.shiftLeft_xor_distrib, ← Nat.xor_assoc, ← Nat.shiftLeft_add, Nat.add_comm i k]
theorem bits_ne {t i : Nat} (h : t.testBit i = true) : t % 2 ^ (i + 1) ≠ 0 := fun h0 => by
  have : (t % 2 ^ (i + 1)).testBit i = true := by rw [Nat.testBit_mod_two_pow]; simp [h]
  rw [h0] at this; simp at this
end Go.Proofs.Ytmbcflanifoofaa
