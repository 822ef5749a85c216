/- The rules of operations on 32 bits and on bytes, as functions on bits. No program in sight. -/
import Derived.Test.YtpojijnjdlnokaaV2
namespace Go.Proofs.Ytpojijnjdlnokaa
open Go.RowKit
set_option linter.unusedVariables false

theorem u32_of (x : BitVec 32) : BitVec.ofInt 32 (x.toNat : Int) = x := by rw [BitVec.ofInt_natCast]; simp
theorem u32_fit (x : BitVec 32) : IntKind.u32.wrap (x.toNat : Int) = x.toNat := by rw [IntKind.wrap_u32]; have := x.isLt; omega
theorem u8_of (x : BitVec 8) : BitVec.ofInt 8 (x.toNat : Int) = x := by rw [BitVec.ofInt_natCast]; simp
theorem u8_fit (x : BitVec 8) : IntKind.u8.wrap (x.toNat : Int) = x.toNat := by rw [IntKind.wrap_u8]; have := x.isLt; omega
theorem u8_int {z : Int} (h0 : 0 ≤ z) (h1 : z ≤ 255) : ((BitVec.ofInt 8 z).toNat : Int) = z := by
  rw [BitVec.toNat_ofInt]; simp; omega
theorem u32_int {z : Int} (h0 : 0 ≤ z) (h1 : z ≤ 4294967295) : ((BitVec.ofInt 32 z).toNat : Int) = z := by
  rw [BitVec.toNat_ofInt]; simp; omega

section
variable {P : Program} {n : Cx} {fr : Fr} {w : World} {ty : TypeId} {x y z : Operand} {m p : Int} {T T2 : TypeId} {k2 : IntKind}
theorem os_xor32 (a b : BitVec 32) (hx : Fr.ev fr x = some (.int .u32 m)) (hm : m = (a.toNat : Int)) (hy : Fr.ev fr y = some (.int .u32 p)) (hp : p = (b.toNat : Int)) : OS P n (.binOp .xor T x y T2) ty fr w (.int .u32 ((a ^^^ b).toNat : Int)) w :=
  os_xor hx hy (by subst hm; subst hp; show IntKind.u32.wrap ((BitVec.ofInt 32 _ ^^^ BitVec.ofInt 32 _).toNat : Nat) = _; rw [u32_of, u32_of]; exact u32_fit _)
theorem os_and32 (a b : BitVec 32) (hx : Fr.ev fr x = some (.int .u32 m)) (hm : m = (a.toNat : Int)) (hy : Fr.ev fr y = some (.int .u32 p)) (hp : p = (b.toNat : Int)) : OS P n (.binOp .and T x y T2) ty fr w (.int .u32 ((a &&& b).toNat : Int)) w :=
  os_and hx hy (by subst hm; subst hp; show IntKind.u32.wrap ((BitVec.ofInt 32 _ &&& BitVec.ofInt 32 _).toNat : Nat) = _; rw [u32_of, u32_of]; exact u32_fit _)
theorem os_shr32 (a : BitVec 32) (s : Nat) (hx : Fr.ev fr x = some (.int .u32 m)) (hm : m = (a.toNat : Int)) (hy : Fr.ev fr y = some (.int k2 p)) (hp : p = (s : Int)) : OS P n (.binOp .shr T x y T2) ty fr w (.int .u32 ((a >>> s).toNat : Int)) w :=
  os_shr hx hy (by omega) (by
    subst hm; subst hp
    show (a.toNat : Int).fdiv (2 ^ min ((s : Int)).toNat 32) = _
    have e : ((s : Int)).toNat = s := by omega
    rw [e, BitVec.toNat_ushiftRight, Nat.shiftRight_eq_div_pow, Int.fdiv_eq_ediv_of_nonneg _ (by exact_mod_cast Nat.zero_le _)]
    by_cases h : s ≤ 32
    · rw [Nat.min_eq_left h]; simp
    · rw [Nat.min_eq_right (by omega)]
      have h1 : a.toNat / 2 ^ s = 0 := Nat.div_eq_of_lt (Nat.lt_of_lt_of_le a.isLt (Nat.pow_le_pow_right (by omega) (by omega)))
      have h2 : a.toNat / 2 ^ 32 = 0 := Nat.div_eq_of_lt a.isLt
      rw [h1]
      have : ((a.toNat : Int) / 2 ^ 32) = ((a.toNat / 2 ^ 32 : Nat) : Int) := by simp
      rw [this, h2])
theorem os_neg32 (a : BitVec 32) (hx : Fr.ev fr x = some (.int .u32 m)) (hm : m = (a.toNat : Int)) : OS P n (.unOp .neg T x) ty fr w (.int .u32 ((-a).toNat : Int)) w :=
  os_neg hx (by subst hm; rw [IntKind.wrap_u32, BitVec.toNat_neg]; have := a.isLt; simp; omega)
theorem os_com32 (a : BitVec 32) (hx : Fr.ev fr x = some (.int .u32 m)) (hm : m = (a.toNat : Int)) : OS P n (.unOp .xor T x) ty fr w (.int .u32 ((~~~ a).toNat : Int)) w :=
  os_com hx (by
    subst hm
    show IntKind.u32.wrap ((BitVec.ofInt 32 4294967295 ^^^ BitVec.ofInt 32 _).toNat : Nat) = _
    rw [u32_of, show BitVec.ofInt 32 4294967295 = BitVec.allOnes 32 from by decide, BitVec.allOnes_xor]; exact u32_fit _)
theorem os_xor8 (a b : BitVec 8) (hx : Fr.ev fr x = some (.int .u8 m)) (hm : m = (a.toNat : Int)) (hy : Fr.ev fr y = some (.int .u8 p)) (hp : p = (b.toNat : Int)) : OS P n (.binOp .xor T x y T2) ty fr w (.int .u8 ((a ^^^ b).toNat : Int)) w :=
  os_xor hx hy (by subst hm; subst hp; show IntKind.u8.wrap ((BitVec.ofInt 8 _ ^^^ BitVec.ofInt 8 _).toNat : Nat) = _; rw [u8_of, u8_of]; exact u8_fit _)
/-- a byte of 32 bits -/
theorem os_low8 (a : BitVec 32) (h1 : P.underlying T = some (.int .u32)) (h2 : P.underlying T2 = some (.int .u8)) (hx : Fr.ev fr x = some (.int .u32 m)) (hm : m = (a.toNat : Int)) : OS P n (.convert T T2 x) ty fr w (.int .u8 ((a.setWidth 8).toNat : Int)) w :=
  os_conv h1 h2 hx (by subst hm; rw [IntKind.wrap_u8, BitVec.toNat_setWidth]; simp)
end
end Go.Proofs.Ytpojijnjdlnokaa
