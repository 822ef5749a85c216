/- From the form's reading of an argument to the words that the walks take. -/
import Derived.Test.YtpojijnjdlnokaaLib
import Derived.ProofKit
namespace Go.Proofs.Ytpojijnjdlnokaa
open Go.RowKit

/-- the range of Go's int -/
def I64 (n : Int) : Prop := -9223372036854775808 ≤ n ∧ n ≤ 9223372036854775807

theorem i64_of_wf {n : Int} (h : (Lit.int .i64 n).wf = true) : I64 n := by
  simp [Lit.wf, IntKind.min, IntKind.max, IntKind.signed, IntKind.bits] at h
  exact ⟨by omega, by omega⟩
theorem u8_of_wf {n : Int} (h : (Lit.int .u8 n).wf = true) : 0 ≤ n ∧ n ≤ 255 := by
  simp [Lit.wf, IntKind.min, IntKind.max, IntKind.signed, IntKind.bits] at h
  exact ⟨by omega, by omega⟩
theorem u32_of_wf {n : Int} (h : (Lit.int .u32 n).wf = true) : 0 ≤ n ∧ n ≤ 4294967295 := by
  simp [Lit.wf, IntKind.min, IntKind.max, IntKind.signed, IntKind.bits] at h
  exact ⟨by omega, by omega⟩

theorem rd_of_nil (W : World) (k : IntKind) (a : Option Addr) : ∃ zs, Rd W k a zs ∧ 0 = zs.length ∧ (0 : Nat) ≤ 9223372036854775807 ∧ (0 : Nat) ≤ 0 ∧ ∀ z ∈ zs, (Lit.int k z).wf = true :=
  ⟨[], Rd.nil, rfl, by decide, by decide, by simp⟩

theorem rd_of_ints (W : World) (k : IntKind) (x : Addr) (l c : Nat) (zs : List Int) (hl : l ≤ c) (hm : c ≤ maxLen) (hz : zs.length = c)
    (hcell : ∀ i, i < zs.length → W.cell? (x.add i) = some (.int k (zs.getD i 0))) (hwz : ∀ n ∈ zs, (Lit.int k n).wf = true) :
    ∃ ys, Rd W k (some x) ys ∧ l = ys.length ∧ l ≤ 9223372036854775807 ∧ l ≤ c ∧ ∀ z ∈ ys, (Lit.int k z).wf = true := by
  refine ⟨zs.take l, fun h => ?_, by rw [List.length_take, hz]; omega, by unfold maxLen at hm; omega, hl, fun z hz' => hwz z (List.mem_of_mem_take hz')⟩
  rw [List.length_take] at h
  obtain ⟨b, off, spot⟩ := x
  have hc := hcell 0 (by omega)
  have hspot : spot = none := by simpa [Addr.add] using World.cell?_spot hc
  subst hspot
  refine ⟨b, off, rfl, fun i hi => ?_⟩
  rw [List.length_take] at hi
  have h1 := hcell i (by omega)
  have e : (⟨b, off, none⟩ : Addr).add i = ⟨b, off + i, none⟩ := by unfold Addr.add; split <;> simp_all
  rw [e] at h1
  rw [h1]
  have : zs.getD i 0 = (zs.take l).getD i 0 := by simp [List.getElem?_take, show i < l by omega]
  rw [this]
end Go.Proofs.Ytpojijnjdlnokaa
