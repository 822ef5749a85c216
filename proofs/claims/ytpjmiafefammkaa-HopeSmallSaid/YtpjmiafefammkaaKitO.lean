/- The law's kit: lists are written over, their spare room too. -/
import Derived.Test.YtpjmiafefammkaaKitL
import Derived.Test.YtpjmiafefammkaaKb
namespace Go.Proofs.Ytpjmiafefammkaa
open Go.RowKit
set_option linter.unusedVariables false

theorem Own.stretch {w : World} {B : Nat} {t : TypeId} {g n c m : Nat} {cs : List Value} (h : Own w B t (.slice (some ⟨g, 0, none⟩) n c) cs) (hm : m ≤ c) : ∃ ds, ds.length = m ∧ Own w B t (.slice (some ⟨g, 0, none⟩) m c) ds := by
  rcases h.2 with ⟨h1, _⟩ | ⟨g', cap, cur, h1, hB, hg, hnc, hcm, hs, ht⟩
  · cases h1
  · cases h1
    have hl : (cur.toList.take m).length = m := by rw [List.length_take, Array.length_toList, hs]; omega
    exact ⟨cur.toList.take m, hl, by simp, .inr ⟨g, c, cur, by rw [hl], hB, hg, by omega, hcm, hs, by rw [hl]; simp⟩⟩
end Go.Proofs.Ytpjmiafefammkaa
