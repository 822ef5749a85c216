/- append, and where the result's row lies. No program in sight. -/
import Derived.Test.YtpojijnjdlnokaaM
import Derived.Maps.AppendAt
namespace Go.Proofs.Ytpojijnjdlnokaa
open Go.RowKit
set_option linter.unusedVariables false
section
variable {P : Program} {n : Cx} {fr : Fr} {w w' : World} {ty : TypeId} {x y z : Operand} {v u : Value} {T T2 e : TypeId} {op : Op}
/-- append(s, x...), and where the result's row lies -/
theorem ot_append_at {A : Option Addr} {m c : Nat} {cs news : List Value} {z0 : Value} {bytes : Nat} {B : Nat} (hT : P.underlying T = some (.slice e)) (hi : TyInfo P e z0 1 bytes) (hz : z0.cells.size = 1) (hx : Fr.ev fr x = some v) (hy : Fr.ev fr y = some (.slice A m c))
    (ho : Own w B e v cs) (hr : RdC w A news) (hm : m = news.length) (h1 : ∀ u ∈ news, u.oneCell' = true) (hb : (cs.length + m) * bytes ≤ 140737488355328) (hl : cs.length + m ≤ maxLen) (hB : B ≤ w.heap.size) :
    OT P n (.call ⟨.builtin .append, #[x, y], #[T, T]⟩) ty fr w fun v' w' => Own w' B e v' (cs ++ news) ∧ w.grownBy w' v.ownBlock ∧ (v'.ownBlock = v.ownBlock ∨ v'.ownBlock = some w.heap.size) := by
  obtain ⟨i, i1, i2, i3, i4⟩ := info_parts hi
  by_cases h0 : 0 < news.length
  · obtain ⟨b, o, rfl, hc⟩ := hr h0
    obtain ⟨v', w', hrun, ho', hg, _, hown⟩ := run_append_own_at (P := P) w B T ty e i z0 1 bytes hT i1 i2 i3 i4 hz (by omega) v cs.length cs ho ⟨b, o, none⟩ m c news (by omega)
      (fun j u hu => by
        have hj := (List.getElem?_eq_some_iff.1 hu).1
        rw [addr_add, hc j hj]; exact hu) h1 hl hb hB
    refine ot_of fun a ha => ⟨v', w', by simp [execOp, resolve, invoke, builtin, ha.ev hx, ha.ev hy, hrun, Result.andThen], ?_, hg, hown⟩
    unfold Own
    rw [List.length_append, ← hm]
    exact ho'
  · have hnil : news = [] := List.eq_nil_of_length_eq_zero (by omega)
    subst hnil
    have hm0 : m = 0 := by simpa using hm
    subst hm0
    have hrun : (Builtin.append_ #[T, T] ty #[v, .slice A 0 c]).run P w = .ok v w := by
      rcases ho.2 with ⟨rfl, h2⟩ | ⟨g, cap, cur, rfl, _, _, hnc, _⟩
      · cases A <;> simp [Builtin.append_, run_underlying hT, sizeOf, typeInfo, i1, Builtin.lenOf, Builtin.firstCells, loadCells, loadCellsFrom]
      · cases A <;> simp [Builtin.append_, run_underlying hT, sizeOf, typeInfo, i1, Builtin.lenOf, Builtin.firstCells, hnc, storeCells, loadCells, loadCellsFrom]
    refine ot_of fun a ha => ⟨v, w, by simp [execOp, resolve, invoke, builtin, ha.ev hx, ha.ev hy, hrun, Result.andThen], by simpa using ho, World.grownBy.refl _ _, .inl rfl⟩
end
/-- two lists of a call's own in two rows -/
def sep (h r : Value) : Prop := ∀ x, h.ownBlock = some x → r.ownBlock ≠ some x
theorem sep.symm {h r : Value} (s : sep h r) : sep r h := fun x hr hh => s x hh hr
theorem sep.grow {h h' r : Value} {w : World} {B : Nat} {t : TypeId} {cs : List Value} (s : sep h r) (hr : Own w B t r cs) (hh : h'.ownBlock = h.ownBlock ∨ h'.ownBlock = some w.heap.size) : sep h' r := by
  intro x hx hrx
  rcases hh with e | e
  · rw [e] at hx; exact s x hx hrx
  · rw [e] at hx; cases hx
    have := (World.ownsRow.lt hr _ hrx).2
    omega
theorem sep.other {h r : Value} (s : sep h r) : r.ownBlock = none ∨ r.ownBlock ≠ h.ownBlock := by
  cases hr : r.ownBlock with
  | none => exact .inl rfl
  | some x => exact .inr fun e => s x e.symm hr
end Go.Proofs.Ytpojijnjdlnokaa
