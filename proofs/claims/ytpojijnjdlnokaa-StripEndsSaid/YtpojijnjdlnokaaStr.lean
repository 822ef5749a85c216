/- Bytes as texts. No program in sight. -/
import Derived.Test.YtpojijnjdlnokaaM
namespace Go.Proofs.Ytpojijnjdlnokaa
open Go.RowKit
set_option linter.unusedVariables false

/-! ### bytes as texts, which of two is less -/
section
variable {P : Program} {n : Cx} {fr : Fr} {w : World} {ty : TypeId} {x y z : Operand} {T T2 e : TypeId}
theorem os_string {A : Option Addr} {l c : Nat} {zs : List Int} (hs : P.underlying T = some (.slice e)) (he : P.underlying e = some (.int .u8)) (hd : P.underlying T2 = some .string) (hx : Fr.ev fr x = some (.slice A l c)) (hr : Rd w .u8 A zs) (hl : zs.length = l) (h0 : 0 < l) :
    OS P n (.convert T T2 x) ty fr w (.string (strOfNums zs)) w := os_of fun a ha => by
  obtain ⟨b, o, rfl, hc⟩ := hr (by omega)
  have := run_convert_bytes_arg (P := P) w T e hs he b o l c zs hl (fun i hi => hc i (by omega)) T2 hd
  simp [execOp, ha.ev hx, this]
theorem os_lss_string {a b : ByteArray} (hx : Fr.ev fr x = some (.string a)) (hy : Fr.ev fr y = some (.string b)) : OS P n (.binOp .lss T x y T2) ty fr w (.bool (Op.bytesLess a.toList b.toList)) w := os_of fun a ha => by
  simp [execOp, ha.ev hx, ha.ev hy, eqGuard, binOp, Op.stringOp]
theorem os_neq_string {a b : ByteArray} (hx : Fr.ev fr x = some (.string a)) (hy : Fr.ev fr y = some (.string b)) : OS P n (.binOp .neq T x y T2) ty fr w (.bool (!(a.toList == b.toList))) w := os_of fun a ha => by
  simp [execOp, ha.ev hx, ha.ev hy, eqGuard, binOp, Op.stringOp]
end
theorem str_eq : ∀ (xs ys : List Int), (∀ z ∈ xs, 0 ≤ z ∧ z ≤ 255) → (∀ z ∈ ys, 0 ≤ z ∧ z ≤ 255) → ((xs.map fun n => UInt8.ofNat n.toNat) == (ys.map fun n => UInt8.ofNat n.toNat)) = decide (xs = ys)
  | [], [], _, _ => rfl
  | [], y :: ys, _, _ => rfl
  | x :: xs, [], _, _ => rfl
  | x :: xs, y :: ys, hx, hy => by
    have ih := str_eq xs ys (fun z hz => hx z (by simp [hz])) (fun z hz => hy z (by simp [hz]))
    have h1 := hx x (by simp)
    have h2 := hy y (by simp)
    have t8 : ∀ z : Int, 0 ≤ z ∧ z ≤ 255 → (UInt8.ofNat z.toNat).toNat = z.toNat := fun z hz => UInt8.toNat_ofNat_of_lt (by show z.toNat < 256; omega)
    have e2 : (UInt8.ofNat x.toNat == UInt8.ofNat y.toNat) = decide (x = y) := by
      rw [Bool.eq_iff_iff, beq_iff_eq, decide_eq_true_iff, ← UInt8.toNat_inj, t8 x h1, t8 y h2]; omega
    simp only [List.map_cons, List.cons_beq_cons, e2, ih, List.cons.injEq]
    rw [Bool.decide_and]
end Go.Proofs.Ytpojijnjdlnokaa
