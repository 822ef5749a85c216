/- Words for memory and small lemmas: a slice that reads as a list, a block that is known whole, worlds that differ by draws. No program in sight. -/
import Derived.WalkKit
import Derived.WalkSpells
import Derived.WalkLawsBesides
import Derived.Lib.Hide
import Derived.Deep.QuietTactic
import Derived.BigQuiet
import Derived.Deep.Draws
import Derived.KernelRfl
namespace Go.Proofs.Ytpojijnjdlnokaa
open Go.RowKit

/-! ### lists that are read -/

/-- the address A leads to a row whose first cells are the integers zs -/
def Rd (w : World) (k : IntKind) (A : Option Addr) (zs : List Int) : Prop :=
  0 < zs.length → ∃ b off, A = some ⟨b, off, none⟩ ∧ ∀ i, i < zs.length → w.cell? ⟨b, off + i, none⟩ = some (.int k (zs.getD i 0))

theorem Rd.at_ {w k A zs} (h : Rd w k A zs) {i : Nat} (hi : i < zs.length) : ∃ b off, A = some ⟨b, off, none⟩ ∧ w.cell? ⟨b, off + i, none⟩ = some (.int k (zs.getD i 0)) := by
  obtain ⟨b, off, e, hc⟩ := h (by omega)
  exact ⟨b, off, e, hc i hi⟩

theorem Rd.nil {w k A} : Rd w k A [] := fun h => absurd h (by simp)

/-- whatever lies in the world's cells below, stays: worlds that agree on all blocks that there were -/
theorem Rd.below {w w' : World} {B k A zs} (h : Rd w k A zs) (hb : Below B w w') (hB : ∀ b off, A = some ⟨b, off, none⟩ → b < B) : Rd w' k A zs := by
  intro hl
  obtain ⟨b, off, e, hc⟩ := h hl
  exact ⟨b, off, e, fun i hi => (hb.cell (p := ⟨b, off + i, none⟩) (hB b off e)).trans (hc i hi)⟩

theorem Rd.lt {w k A zs} (h : Rd w k A zs) (hl : 0 < zs.length) : ∃ b off, A = some ⟨b, off, none⟩ ∧ b < w.heap.size := by
  obtain ⟨b, off, e, hc⟩ := h hl
  exact ⟨b, off, e, World.block_lt_of_cell? w ⟨b, off + 0, none⟩ (hc 0 hl)⟩

/-- all that a world has stays in a world that is as it was below its size -/
theorem Rd.keep {w w' : World} {k A zs} (h : Rd w k A zs) (hb : Below w.heap.size w w') : Rd w' k A zs := by
  intro hl
  obtain ⟨b, off, e, hc⟩ := h hl
  refine ⟨b, off, e, fun i hi => ?_⟩
  have := World.block_lt_of_cell? w ⟨b, off + i, none⟩ (hc i hi)
  exact (hb.cell (p := ⟨b, off + i, none⟩) this).trans (hc i hi)

theorem Rd.drewN {w k A zs} (h : Rd w k A zs) (q : Nat) : Rd (w.drewN q) k A zs := h

theorem Rd.alloc {w k A zs} (h : Rd w k A zs) (o : Obj) : Rd (w.alloc o) k A zs := h.keep ((Below.refl _ _).alloc (Nat.le_refl _) o)

theorem below_drewN_ {B : Nat} {w w' : World} (h : Below B w w') (q : Nat) : Below B w (w'.drewN q) := ⟨h.os, h.tape, h.output, h.size, h.block⟩

/-! ### a test in the walk's two spellings -/
theorem ret_bool {a b : Bool} (h : a = b) : Ending.returned (.bool a) = .returned (.bool b) := by rw [h]
theorem ret_int {k : IntKind} {a b : Int} (h : a = b) : Ending.returned (.int k a) = .returned (.int k b) := by rw [h]

theorem drew_ex {w : World} {a b : Nat} : ∃ q, (w.drewN a).drewN b = w.drewN q := ⟨a + b, World.drewN_drewN ..⟩
theorem drew_of {w wr : World} (h : ∃ q, wr = w.drewN q) (n : Nat) : ∃ q, wr.drewN n = w.drewN q := by obtain ⟨q, rfl⟩ := h; exact drew_ex
theorem cell_of_drew {w wr : World} (h : ∃ q, wr = w.drewN q) {a : Addr} {v : Option Value} (hc : w.cell? a = v) : wr.cell? a = v := by obtain ⟨q, rfl⟩ := h; exact hc
theorem ne_of_bne {a b : Int} (h : (a != b) = true) : a ≠ b := by simpa using h
theorem eq_of_bne {a b : Int} (h : (a != b) = false) : a = b := by simpa using h
theorem take_succ_eq {α} {xs ys : List α} {k n : Nat} (hx : n = xs.length) (hy : n = ys.length) (hk : k < n) (h : xs.take k = ys.take k) (d : α)
    (e : xs[k]?.getD d = ys[k]?.getD d) : xs.take (k + 1) = ys.take (k + 1) := by
  have h1 : k < xs.length := by omega
  have h2 : k < ys.length := by omega
  rw [List.take_succ_eq_append_getElem h1, List.take_succ_eq_append_getElem h2, h]
  simp [h1, h2] at e
  rw [e]

theorem ne_of_getD {α} {xs ys : List α} {k : Nat} (d : α) (e : xs[k]?.getD d ≠ ys[k]?.getD d) : xs ≠ ys := fun h => e (by rw [h])

theorem eq_of_take {α} {xs ys : List α} {n : Nat} (hx : n = xs.length) (hy : n = ys.length) (h : xs.take n = ys.take n) : xs = ys := by
  rw [hx, List.take_length] at h
  rw [h, ← hx, hy, List.take_length]


/-! ### one element appended to a list of the call's own -/
theorem wpl_append1 {P : Program} {ops : Array Oper} {rest : List Oper} {o : Oper} {a : Act} {Q : Exit → Act → World → Prop} {w : World} (hgd : o.guard = none) (s x : Operand) (t : TypeId)
    (ho : o.op = .call { callee := .builtin .append, args := #[s, x], argTypes := #[t, t] }) (B : Nat) (e : TypeId) (z : Value) (bytes : Nat) (ht : P.underlying t = some (.slice e))
    (hinfo : (P.info? e).map (fun i => (i.zero, i.size, i.bytes)) = some (some z, 1, bytes)) (hz : z.oneCell' = true) (v : Value) (n : Nat) (xs : List Value) (hs : a.eval s = v) (hown : w.ownsRow B e 1 v n xs) (b c : Nat) (u : Value)
    (hx : a.eval x = .slice (some ⟨b, 0, none⟩) 1 c) (hc : w.cell? ⟨b, 0, none⟩ = some u) (h1 : u.oneCell' = true) (hlen : (n + 1) * bytes ≤ 140737488355328) (hlen' : n + 1 ≤ maxLen) (hB : B ≤ w.heap.size)
    (h : ∀ v' w', w'.ownsRow B e 1 v' (n + 1) (xs ++ [u]) → w.grownBy w' v.ownBlock → wpList P ops Q rest (a.put o.dst v') w') : wpList P ops Q (o :: rest) a w := by
  obtain ⟨i0, hi, hz0, hz1, hz2⟩ := info_parts hinfo
  refine wpList_append_own w hgd s x t ho B e i0 z 1 bytes ht hi hz0 hz1 hz2 (by cases z <;> simp_all [Value.cells, Value.oneCell']) (by decide) v n xs hs hown ⟨b, 0, none⟩ 1 c [u] hx rfl ?_ ?_ hlen' hlen hB (fun v' w' a1 a2 _ => h v' w' a1 a2)
  · intro j u' hu
    cases j with
    | zero => simp at hu; subst hu; simpa [Addr.add] using hc
    | succ j => simp at hu
  · intro u' hu; simp at hu; subst hu; exact h1

theorem cell_one_alloc (w : World) (u : Value) (t : TypeId) : (w.alloc (.cells #[u] t)).cell? ⟨w.heap.size, 0, none⟩ = some u := by
  rw [cell_of_row _ w.heap.size 0 #[u] t (0, 0) (heap_alloc_new w _)]; rfl
theorem cell_one_drewN (w : World) (q : Nat) (u : Value) (t : TypeId) : ((w.drewN q).alloc (.cells #[u] t)).cell? ⟨w.heap.size, 0, none⟩ = some u := cell_one_alloc (w.drewN q) u t
theorem ownsRow_drewN {w : World} {B : Nat} {e : TypeId} {size : Nat} {v : Value} {n : Nat} {xs : List Value} (h : w.ownsRow B e size v n xs) (q : Nat) : (w.drewN q).ownsRow B e size v n xs := h

/-- a block laid behind: what the call owns stays -/
theorem below_grown_own {w w1 w2 : World} {B : Nat} {e : TypeId} {size : Nat} {v : Value} {n : Nat} {xs : List Value} (hb : Below B w w1) (ho : w1.ownsRow B e size v n xs) (hg : w1.grownBy w2 v.ownBlock) (hB : B ≤ w1.heap.size) : Below B w w2 :=
  hb.grown hg hB fun k hk => (World.ownsRow.lt ho k hk).1

theorem snoc_ind {α : Type} {P : List α → Prop} (h0 : P []) (h1 : ∀ l x, P l → P (l ++ [x])) (l : List α) : P l := by
  have h : ∀ r : List α, P r.reverse := by
    intro r
    induction r with
    | nil => exact h0
    | cons x r ih => rw [List.reverse_cons]; exact h1 _ _ ih
  have := h l.reverse
  rwa [List.reverse_reverse] at this
end Go.Proofs.Ytpojijnjdlnokaa
