/- Layer 7: the walk of SumDoes. -/
import Derived.Test.YtpojijnjdlnokaaSmP
import Derived.Test.YtpojijnjdlnokaaKitR
import Derived.Test.YtpojijnjdlnokaaFlEB
namespace Go.Proofs.Ytpojijnjdlnokaa
open Go.RowKit
set_option linter.unusedVariables false

theorem Own.part {w : World} {B : Nat} {t : TypeId} {g n c m : Nat} {cs : List Value} (h : Own w B t (.slice (some ⟨g, 0, none⟩) n c) cs) (hm : m ≤ c) : ∃ ds, ds.length = m ∧ Own w B t (.slice (some ⟨g, 0, none⟩) m c) ds := by
  rcases h.2 with ⟨h1, _⟩ | ⟨g', cap, cur, h1, hB, hg, hnc, hcm, hs, ht⟩
  · cases h1
  · cases h1
    have hl : (cur.toList.take m).length = m := by rw [List.length_take, Array.length_toList, hs]; omega
    exact ⟨cur.toList.take m, hl, by simp, .inr ⟨g, c, cur, by rw [hl], hB, hg, by omega, hcm, hs, by rw [hl]; simp⟩⟩
/-- how many there are in all -/
def lenS : List (List Int) → Nat
  | [] => 0
  | l :: r => l.length + lenS r
theorem lenS_take {ls : List (List Int)} {i : Nat} (hi : i < ls.length) : lenS (ls.take (i + 1)) = lenS (ls.take i) + (ls.getD i []).length := by
  induction ls generalizing i with
  | nil => simp at hi
  | cons l r ih =>
    cases i with
    | zero => simp [lenS]
    | succ i => rw [List.take_succ_cons, List.take_succ_cons, lenS, lenS, ih (by simpa using hi)]; simp; omega
theorem lenS_mem {ls : List (List Int)} : ∀ l ∈ ls, l.length ≤ lenS ls := by
  induction ls with
  | nil => intro l hl; cases hl
  | cons l r ih =>
    intro x hx
    rcases List.mem_cons.1 hx with rfl | hx
    · simp [lenS]
    · have := ih x hx; simp [lenS]; omega
end Go.Proofs.Ytpojijnjdlnokaa
