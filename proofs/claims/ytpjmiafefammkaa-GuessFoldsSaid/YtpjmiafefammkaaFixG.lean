/- Layer 23: the contracts in the form of the rules; the sum of a row. -/
import Derived.Test.YtpjmiafefammkaaFixQ
import Derived.Test.YtpjmiafefammkaaFixE
import Derived.Test.YtpjmiafefammkaaKitS
import Derived.Test.YtpjmiafefammkaaM
namespace Go.Proofs.Ytpjmiafefammkaa
open Go.RowKit
set_option linter.unusedVariables false

theorem g_Is (a : Int) (w : World) (h : I64 a) : Gives Try.prog 109 #[.int .i64 a] w fun v w' => v = .bool (isB a) ∧ w' = w :=
  gives_of Try.call109 (fixed_Is a w h) fun e w' ⟨h1, h2⟩ => ⟨_, h1, rfl, h2.symm⟩
theorem g_Is_t {a : Int} {w w' : World} (h : isB a = true) (hw : LeD w w') : Gives Try.prog 109 #[.int .i64 a] w' fun v w'' => v = .bool true ∧ LeD w' w'' :=
  (g_Is a w' (by have := isB_iff.1 h; exact ⟨by omega, by omega⟩)).mono fun v w'' ⟨h1, h2⟩ => ⟨by rw [h1, h], by rw [h2]; exact lee_d.refl _⟩
theorem g_Fold (A B : Option Addr) (n m c d : Nat) (hs xs : List Int) (w : World) (ha : Rd w .i64 A hs) (hb : Rd w .i64 B xs) (hn : n = hs.length) (hm : m = xs.length)
    (hn' : n ≤ 9223372036854775807) (hm' : m ≤ 9223372036854775807) (ih : AllI hs) (ix : AllI xs) :
    Gives Try.prog 30 #[.slice A n c, .slice B m d] w fun v w' => ∃ u, v = .tuple #[u, .int .i64 (argE (foldOk hs xs))] ∧ OwnI w' w.heap.size u (foldV hs xs) ∧ Below w.heap.size w w' :=
  gives_of Try.call30 (fixed_Fold A B n m c d hs xs w ha hb hn hm hn' hm' ih ix) fun e w' ⟨u, h1, h2, h3⟩ => ⟨_, h1, u, rfl, h2, h3⟩
theorem g_Tails (A : Option Addr) (n c : Nat) (hs : List Int) (w : World) (ha : Rd w .i64 A hs) (hn : n = hs.length) (hn' : n ≤ 9223372036854775807) (ih : AllI hs) :
    Gives Try.prog 73 #[.slice A n c] w fun v w' => ∃ u, v = .tuple #[u, .int .i64 (argE (rowB hs))] ∧ OwnI w' w.heap.size u (tailsV hs) ∧ Below w.heap.size w w' :=
  gives_of Try.call73 (fixed_Tails A n c hs w ha hn hn' ih) fun e w' ⟨u, h1, h2, h3⟩ => ⟨_, h1, u, rfl, h2, h3⟩

end Go.Proofs.Ytpjmiafefammkaa
