/- Layer 23, the plain laws: parts of 65536, shares, blends, rows, tails: what the document says, as functions on integers and lists. No program in sight. -/
import Derived.Test.YtpjmiafefammkaaLib
namespace Go.Proofs.Ytpjmiafefammkaa

def isB (n : Int) : Bool := decide (0 ≤ n ∧ n ≤ 65536)
def shareOk (a b : Int) : Bool := decide (0 < b ∧ b ≤ 2147483647 ∧ 0 ≤ a ∧ a ≤ b)
def shareV (a b : Int) : Int := if shareOk a b then a * 65536 / b else 0
def argE (ok : Bool) : Int := if ok then 0 else 2
def blendW (h x : Int) : Int := h + (x - h) / 8
def blendOk (h x : Int) : Bool := isB h && isB x
def blendV (h x : Int) : Int := if blendOk h x then blendW h x else 0

theorem isB_yes {n : Int} (h : 0 ≤ n) (h' : n ≤ 65536) : isB n = true := by simp [isB]; omega
theorem isB_no {n : Int} (h : n < 0 ∨ 65536 < n) : isB n = false := by simp [isB]; omega
theorem isB_iff {n : Int} : isB n = true ↔ 0 ≤ n ∧ n ≤ 65536 := by simp [isB]
theorem isB_iff' {n : Int} : isB n = false ↔ n < 0 ∨ 65536 < n := by simp [isB]; omega

theorem tdiv8 (n : Int) : n.tdiv 8 = if 0 ≤ n then n / 8 else -((-n) / 8) := by
  split
  · exact Int.tdiv_eq_ediv_of_nonneg (by omega)
  · have h : n = -(-n) := by omega
    rw [h, Int.neg_tdiv, Int.tdiv_eq_ediv_of_nonneg (by omega), ← h]
theorem tmod8 (n : Int) : n.tmod 8 = if 0 ≤ n then n % 8 else -((-n) % 8) := by
  split
  · exact Int.tmod_eq_emod_of_nonneg (by omega)
  · have h : n = -(-n) := by omega
    rw [h, Int.neg_tmod, Int.tmod_eq_emod_of_nonneg (by omega), ← h]
theorem down_lo {n : Int} (h1 : -65536 ≤ n) (h2 : n ≤ 65536) (h : n.tmod 8 < 0) : RowKit.wrap64 (n.tdiv 8 - 1) = n / 8 := by
  rw [tmod8] at h
  rw [tdiv8]
  have hb : (if 0 ≤ n then n / 8 else -((-n) / 8)) - 1 = n / 8 := by split at h <;> split <;> omega
  rw [hb]
  exact IntWalk.wrap64_in _ (by omega)
theorem down_hi {n : Int} (h : 0 ≤ n.tmod 8) : n.tdiv 8 = n / 8 := by
  rw [tmod8] at h
  rw [tdiv8]
  split at h <;> split <;> omega

theorem blendW_bd {h x : Int} (h1 : 0 ≤ h) (h2 : h ≤ 65536) (h3 : 0 ≤ x) (h4 : x ≤ 65536) : 0 ≤ blendW h x ∧ blendW h x ≤ 65536 := by unfold blendW; omega
end Go.Proofs.Ytpjmiafefammkaa
