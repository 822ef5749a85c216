/- Layer 7, plain: the sums as functions on bits; they are linear. No program in sight. -/
import Derived.Test.YtpojijnjdlnokaaV2
namespace Go.Proofs.Ytpojijnjdlnokaa
open Go.RowKit

def crcPoly : BitVec 32 := 0xEDB88320#32
def crcRnd (s : BitVec 32) : BitVec 32 := (s >>> 1) ^^^ (crcPoly &&& -(s &&& 1#32))
def crcRnds : Nat → BitVec 32 → BitVec 32
  | 0, s => s
  | k + 1, s => crcRnd (crcRnds k s)
def crcTab (n : Nat) : BitVec 32 := crcRnds 8 (BitVec.ofNat 32 n)
def crcStep (s : BitVec 32) (z : Int) : BitVec 32 := (s >>> 8) ^^^ crcTab (s.setWidth 8 ^^^ BitVec.ofInt 8 z).toNat
def crcRun (s : BitVec 32) (zs : List Int) : BitVec 32 := zs.foldl crcStep s
def crcGo (s : BitVec 32) (zs : List Int) : BitVec 32 := ~~~ crcRun (~~~ s) zs
def crcOf (parts : List (List Int)) : BitVec 32 := ~~~ parts.foldl crcRun (~~~ 0#32)

theorem crc_neg (s : BitVec 32) : -(s &&& 1#32) = if s.getLsbD 0 then BitVec.allOnes 32 else 0#32 := by
  have h : s &&& 1#32 = if s.getLsbD 0 then 1#32 else 0#32 := by
    apply BitVec.eq_of_getLsbD_eq
    intro i hi
    by_cases h0 : i = 0
    · subst h0
      cases hs : s.getLsbD 0 <;> simp at hs ⊢ <;> simp [hs]
    · have h1 : (1#32).getLsbD i = false := by simp [BitVec.getLsbD_one, h0]
      simp only [BitVec.getLsbD_and, h1, Bool.and_false]
      split <;> simp [h1]
  rw [h]
  split <;> decide
theorem crcRnd_eq (s : BitVec 32) : crcRnd s = (s >>> 1) ^^^ (if s.getLsbD 0 then crcPoly else 0#32) := by
  unfold crcRnd
  rw [crc_neg]
  split
  · rw [show crcPoly &&& BitVec.allOnes 32 = crcPoly from by decide]
  · rw [show crcPoly &&& 0#32 = 0#32 from by decide]
theorem xor_lc (a b c : BitVec 32) : a ^^^ (b ^^^ c) = b ^^^ (a ^^^ c) := by rw [← BitVec.xor_assoc, BitVec.xor_comm a b, BitVec.xor_assoc]
theorem xor_cc (a b : BitVec 32) : a ^^^ (a ^^^ b) = b := by rw [← BitVec.xor_assoc]; simp
theorem crcRnd_xor (a b : BitVec 32) : crcRnd (a ^^^ b) = crcRnd a ^^^ crcRnd b := by
  rw [crcRnd_eq, crcRnd_eq, crcRnd_eq, BitVec.ushiftRight_xor_distrib, BitVec.getLsbD_xor]
  generalize a >>> 1 = x
  generalize b >>> 1 = y
  cases a.getLsbD 0 <;> cases b.getLsbD 0 <;> simp [BitVec.xor_assoc]
  · rw [BitVec.xor_comm]
  · rw [BitVec.xor_comm y, xor_cc]
theorem crcRnds_xor (k : Nat) (a b : BitVec 32) : crcRnds k (a ^^^ b) = crcRnds k a ^^^ crcRnds k b := by
  induction k with
  | zero => rfl
  | succ k ih => simp only [crcRnds, ih, crcRnd_xor]
theorem crcRnds_zero (k : Nat) : crcRnds k 0#32 = 0#32 := by
  induction k with
  | zero => rfl
  | succ k ih => simp only [crcRnds, ih]; decide
/-- rounds that take out noughts shift -/
theorem crcRnds_shift (k : Nat) : ∀ s : BitVec 32, (∀ i, i < k → s.getLsbD i = false) → crcRnds k s = s >>> k := by
  induction k with
  | zero => intro s _; simp [crcRnds]
  | succ k ih =>
    intro s h
    simp only [crcRnds]
    rw [ih s (fun i hi => h i (by omega)), crcRnd_eq]
    have : (s >>> k).getLsbD 0 = false := by simpa using h k (by omega)
    rw [this]
    simp [← BitVec.shiftRight_add]
theorem crcStep_rnds (s : BitVec 32) (z : Int) : crcStep s z = crcRnds 8 (s ^^^ BitVec.setWidth 32 (BitVec.ofInt 8 z)) := by
  have h : s ^^^ BitVec.setWidth 32 (BitVec.ofInt 8 z) = ((s >>> 8) <<< 8) ^^^ BitVec.setWidth 32 (s.setWidth 8 ^^^ BitVec.ofInt 8 z) := by
    apply BitVec.eq_of_getLsbD_eq
    intro i hi
    simp only [BitVec.getLsbD_xor, BitVec.getLsbD_setWidth, BitVec.getLsbD_shiftLeft, BitVec.getLsbD_ushiftRight, hi, decide_true, Bool.true_and]
    by_cases h8 : i < 8
    · simp [h8]
    · simp [h8, show 8 + (i - 8) = i by omega]
  rw [h, crcRnds_xor, crcRnds_shift 8 _ (fun i hi => by simp [hi])]
  unfold crcStep crcTab
  congr 1
  · apply BitVec.eq_of_getLsbD_eq
    intro i hi
    simp only [BitVec.getLsbD_ushiftRight, BitVec.getLsbD_shiftLeft]
    by_cases h1 : 8 + i < 32
    · simp [h1]
    · simp [h1]; exact BitVec.getLsbD_of_ge _ _ (by omega)
  · congr 1
    apply BitVec.eq_of_toNat_eq
    simp [BitVec.toNat_setWidth, BitVec.toNat_ofNat]
theorem crcStep_xor (a b : BitVec 32) (x y z : Int) (h : BitVec.ofInt 8 z = BitVec.ofInt 8 x ^^^ BitVec.ofInt 8 y) : crcStep (a ^^^ b) z = crcStep a x ^^^ crcStep b y := by
  rw [crcStep_rnds, crcStep_rnds, crcStep_rnds, ← crcRnds_xor, h]
  congr 1
  rw [BitVec.setWidth_xor]
  generalize BitVec.setWidth 32 (BitVec.ofInt 8 x) = u
  generalize BitVec.setWidth 32 (BitVec.ofInt 8 y) = v
  rw [BitVec.xor_assoc, BitVec.xor_assoc, xor_lc b u v]
theorem crcRun_xor : ∀ (xs ys zs : List Int) (a b : BitVec 32), xs.length = ys.length → zs.length = xs.length → (∀ i, i < xs.length → BitVec.ofInt 8 (zs.getD i 0) = BitVec.ofInt 8 (xs.getD i 0) ^^^ BitVec.ofInt 8 (ys.getD i 0)) →
    crcRun (a ^^^ b) zs = crcRun a xs ^^^ crcRun b ys
  | [], ys, zs, a, b, h1, h2, _ => by
    have e1 : ys = [] := List.eq_nil_of_length_eq_zero (by simpa using h1.symm)
    have e2 : zs = [] := List.eq_nil_of_length_eq_zero (by simpa using h2)
    subst e1; subst e2; rfl
  | x :: xs, [], zs, a, b, h1, _, _ => by simp at h1
  | x :: xs, y :: ys, [], a, b, _, h2, _ => by simp at h2
  | x :: xs, y :: ys, z :: zs, a, b, h1, h2, h => by
    have h0 := h 0 (by simp)
    simp at h0
    have ih := crcRun_xor xs ys zs (crcStep a x) (crcStep b y) (by simpa using h1) (by simpa using h2) fun i hi => by have := h (i + 1) (by simpa using hi); simpa using this
    show crcRun (crcStep (a ^^^ b) z) zs = crcRun (crcStep a x) xs ^^^ crcRun (crcStep b y) ys
    rw [crcStep_xor a b x y z h0, ih]
theorem crcRun_app (s : BitVec 32) (a b : List Int) : crcRun s (a ++ b) = crcRun (crcRun s a) b := by simp [crcRun]
theorem crcOf_one (a : List Int) : crcOf [a] = crcGo 0#32 a := rfl
/-- the law's sums -/
theorem crcOf_parts (xs : List Int) {lo hi : Nat} (h : lo ≤ hi) : crcOf [xs.take lo, (xs.drop lo).take (hi - lo), [], xs.drop hi] = crcOf [xs] := by
  unfold crcOf
  simp only [List.foldl_cons, List.foldl_nil]
  rw [← crcRun_app, ← crcRun_app, ← crcRun_app]
  have : xs.take lo ++ ((xs.drop lo).take (hi - lo) ++ ([] ++ xs.drop hi)) = xs := by
    rw [List.nil_append]
    have h2 : (xs.drop lo).take (hi - lo) ++ xs.drop hi = xs.drop lo := by
      have : xs.drop hi = (xs.drop lo).drop (hi - lo) := by rw [List.drop_drop]; congr 1; omega
      rw [this, List.take_append_drop]
    rw [h2, List.take_append_drop]
  rw [this]
theorem crcGo_parts (xs : List Int) (lo : Nat) : crcGo (crcOf [xs.take lo]) (xs.drop lo) = crcOf [xs] := by
  unfold crcGo crcOf
  simp only [List.foldl_cons, List.foldl_nil]
  rw [BitVec.not_not, ← crcRun_app, List.take_append_drop]
theorem not_xor (a b : BitVec 32) : ~~~ a ^^^ ~~~ b = a ^^^ b := by
  apply BitVec.eq_of_getLsbD_eq
  intro i hi
  simp [hi]
theorem crcOf_diff (xs ys ds zs : List Int) (h1 : xs.length = ys.length) (h2 : ds.length = xs.length) (h3 : zs.length = xs.length) (hd : ∀ i, i < xs.length → BitVec.ofInt 8 (ds.getD i 0) = BitVec.ofInt 8 (xs.getD i 0) ^^^ BitVec.ofInt 8 (ys.getD i 0))
    (hz : ∀ i, i < xs.length → zs.getD i 0 = 0) : crcOf [xs] ^^^ crcOf [ys] = crcOf [ds] ^^^ crcOf [zs] := by
  unfold crcOf
  simp only [List.foldl_cons, List.foldl_nil]
  rw [not_xor, not_xor, ← crcRun_xor xs ys ds _ _ h1 h2 hd, ← crcRun_xor ds zs ds _ _ (by omega) rfl fun i hi => by rw [hz i (by omega)]; simp]
end Go.Proofs.Ytpojijnjdlnokaa
