/- What stays but for some blocks. No program in sight. -/
import Derived.Test.YtpojijnjdlnokaaN
import Derived.Test.YtpojijnjdlnokaaAp
namespace Go.Proofs.Ytpojijnjdlnokaa
open Go.RowKit
set_option linter.unusedVariables false
/-! ### all stays but for some blocks -/
structure Kb (S : List Nat) (w w' : World) : Prop where
  os : w'.os = w.os
  tape : w'.tape = w.tape
  output : w'.output = w.output
  size : w.heap.size ≤ w'.heap.size
  block : ∀ k, k < w.heap.size → k ∉ S → w'.heap[k]? = w.heap[k]?
theorem Kb.refl (S : List Nat) (w : World) : Kb S w w := ⟨rfl, rfl, rfl, Nat.le_refl _, fun _ _ _ => rfl⟩
theorem Kb.trans {S T : List Nat} {a b c : World} (h : Kb S a b) (h' : Kb T b c) (hT : ∀ k ∈ T, k ∈ S ∨ a.heap.size ≤ k) : Kb S a c :=
  ⟨h'.os.trans h.os, h'.tape.trans h.tape, h'.output.trans h.output, Nat.le_trans h.size h'.size, fun k hk hS => by
    rw [h'.block k (Nat.lt_of_lt_of_le hk h.size) (fun hkT => by rcases hT k hkT with h1 | h1; exact hS h1; omega), h.block k hk hS]⟩
theorem Kb.mono {S T : List Nat} {a b : World} (h : Kb S a b) (hT : ∀ k ∈ S, k ∈ T ∨ a.heap.size ≤ k) : Kb T a b :=
  ⟨h.os, h.tape, h.output, h.size, fun k hk hS => h.block k hk fun hkS => by rcases hT k hkS with h1 | h1; exact hS h1; omega⟩
theorem Kb.of_below {S : List Nat} {a b : World} (h : Below a.heap.size a b) : Kb S a b := ⟨h.os, h.tape, h.output, h.size, fun k hk _ => h.block k hk⟩
theorem Kb.below {S : List Nat} {B : Nat} {w0 a b : World} (h : Kb S a b) (hb : Below B w0 a) (hS : ∀ k ∈ S, B ≤ k) (hB : B ≤ a.heap.size) : Below B w0 b :=
  ⟨h.os.trans hb.os, h.tape.trans hb.tape, h.output.trans hb.output, Nat.le_trans hb.size h.size, fun k hk => by
    rw [h.block k (by omega) (fun hkS => by have := hS k hkS; omega), hb.block k hk]⟩
theorem Kb.led {S : List Nat} {a b : World} (h : LeD a b) : Kb S a b := Kb.of_below (led_below h)
theorem Kb.set {S : List Nat} {w : World} {g : Nat} (hg : g ∈ S) (i : Nat) (u : Value) : Kb S w (w.setCell ⟨g, i, none⟩ u) :=
  have hb := below_set (Below.refl 0 w) (Nat.zero_le g) i u
  ⟨hb.os, hb.tape, hb.output, by simp [World.setCell], fun k _ hk => by
    rw [Below.heap_setCell _ _ _ _ (fun e => hk (by simp at e; rw [e]; exact hg))]⟩
theorem Kb.grown {S : List Nat} {w w' : World} {row : Option Nat} (hg : w.grownBy w' row) (hS : ∀ k, row = some k → k ∈ S) : Kb S w w' := by
  have hb := (Below.refl 0 w).grown hg (Nat.zero_le _) (fun k hk => Nat.zero_le _)
  refine ⟨hb.os, hb.tape, hb.output, ?_, fun k hk hkS => hg.block k hk fun e => hkS (hS k e.symm)⟩
  exact hg.size
theorem Bk.kb {w w' g cs t S} (h : Bk w g cs t) (hb : Kb S w w') (hg : g ∉ S) : Bk w' g cs t := (hb.block g h.lt hg).trans h
theorem Own.kb {w w' B t v cs S} (h : Own w B t v cs) (hb : Kb S w w') (hg : ∀ g, v.ownBlock = some g → g ∉ S) : Own w' B t v cs := by
  refine ⟨h.1, ?_⟩
  rcases h.2 with hn | ⟨g, cap, cur, rfl, hB0, hgg, rest⟩
  · exact .inl hn
  · exact .inr ⟨g, cap, cur, rfl, hB0, (hb.block g (Array.getElem?_eq_some_iff.1 hgg).1 (hg g rfl)).trans hgg, rest⟩

end Go.Proofs.Ytpojijnjdlnokaa
