/- Structs of two numbers. No program in sight. -/
import Derived.Test.YtpjmiafefammkaaRs
namespace Go.Proofs.Ytpjmiafefammkaa
open Go.RowKit
set_option linter.unusedVariables false

def rowC (x : Int × Int) : List Value := [.int .i64 x.1, .int .i64 x.2]
theorem rowC_len (rows : List (Int × Int)) : ∀ c ∈ rows.map rowC, c.length = 2 := fun c hc => by obtain ⟨x, _, rfl⟩ := List.mem_map.1 hc; rfl
theorem rowC_one (rows : List (Int × Int)) : ∀ c ∈ rows.map rowC, ∀ u ∈ c, u.oneCell' = true := fun c hc u hu => by
  obtain ⟨x, _, rfl⟩ := List.mem_map.1 hc
  simp only [rowC, List.mem_cons, List.not_mem_nil, or_false] at hu
  rcases hu with rfl | rfl <;> rfl
theorem RdP.at2 {w : World} {A : Option Addr} {rows : List (Int × Int)} (h : RdP w 2 A (rows.map rowC)) {i : Nat} (hi : i < rows.length) : ∃ b o, A = some ⟨b, o, none⟩ ∧ w.cell? ⟨b, o + i * 2, none⟩ = some (.int .i64 (rows.getD i (0, 0)).1) ∧ w.cell? ⟨b, o + i * 2 + 1, none⟩ = some (.int .i64 (rows.getD i (0, 0)).2) ∧ RdC w (some ⟨b, o + i * 2, none⟩) (rowC (rows.getD i (0, 0))) := by
  have hc : (rows.map rowC)[i]? = some (rowC (rows.getD i (0, 0))) := by simp [hi]
  obtain ⟨b, o, e, hcell⟩ := h i _ hc
  subst e
  exact ⟨b, o, rfl, hcell 0 _ rfl, hcell 1 _ rfl, h.part hc⟩
end Go.Proofs.Ytpjmiafefammkaa
