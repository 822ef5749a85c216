/- Literals of lists of structs. No program in sight. -/
import Derived.Test.YtpjmiafefammkaaRs
namespace Go.Proofs.Ytpjmiafefammkaa
open Go.RowKit
set_option linter.unusedVariables false

theorem fold_set (off : Nat) : ∀ (cs : List Value) (k : Nat) (a : Array Value), off + k + cs.length ≤ a.size →
    ((cs.zipIdx k).foldl (fun (a : Array Value) (x : Value × Nat) => a.setIfInBounds (off + x.2) x.1) a).toList = a.toList.take (off + k) ++ cs ++ a.toList.drop (off + k + cs.length)
  | [], k, a, _ => by simp
  | c :: r, k, a, h => by
    simp only [List.length_cons] at h
    rw [List.zipIdx_cons, List.foldl_cons, fold_set off r (k + 1) _ (by simp; omega)]
    have h1 : off + k < a.toList.length := by simp; omega
    rw [Array.toList_setIfInBounds, show off + (k + 1) = off + k + 1 by omega]
    have h2 : (a.toList.set (off + k) c).take (off + k + 1) = a.toList.take (off + k) ++ [c] := by
      rw [List.take_succ_eq_append_getElem (by simpa using h1), List.take_set, List.set_eq_of_length_le (by simp; omega)]
      simp
    rw [h2, List.drop_set, if_pos (by omega)]
    simp only [List.length_cons, List.append_assoc, List.singleton_append]
    rw [show off + k + 1 + r.length = off + k + (r.length + 1) by omega]
def aggs (css : List (List Value)) : List Value := css.map fun cs => .agg cs.toArray
theorem fill_many {s : Nat} (hs : 0 < s) : ∀ (css : List (List Value)) (i : Nat) (cells : Array Value), (∀ cs ∈ css, cs.length = s) → i * s + css.length * s = cells.size →
    Instr.fill (fun i => some (i * s, s)) cells (partsOf (aggs css) i) = some (cells.toList.take (i * s) ++ css.flatten).toArray
  | [], i, cells, _, hl => by
    simp only [aggs, List.map_nil, partsOf, Instr.fill, List.flatten_nil, List.append_nil]
    have : i * s = cells.toList.length := by simpa using hl
    rw [this, List.take_length]
  | cs :: r, i, cells, h1, hl => by
    have h2 := h1 cs (by simp)
    simp only [List.length_cons, Nat.add_mul, Nat.one_mul] at hl
    have hc : (Value.agg cs.toArray).cells = cs.toArray := rfl
    have hfold : (cs.toArray.zipIdx.foldl (fun (a : Array Value) (x : Value × Nat) => a.setIfInBounds (i * s + x.2) x.1) cells).toList = cells.toList.take (i * s) ++ cs ++ cells.toList.drop (i * s + s) := by
      have := fold_set (i * s) cs 0 cells (by omega)
      rw [Nat.add_zero, h2] at this
      rw [← this]
      simp
    have hsz : (cs.toArray.zipIdx.foldl (fun (a : Array Value) (x : Value × Nat) => a.setIfInBounds (i * s + x.2) x.1) cells).size = cells.size := by
      rw [← Array.length_toList, hfold]
      simp only [List.length_append, List.length_take, List.length_drop, Array.length_toList]
      omega
    have ih := fill_many hs r (i + 1) _ (fun c hc => h1 c (by simp [hc])) (by rw [hsz, Nat.add_mul, Nat.one_mul]; omega)
    simp only [aggs, List.map_cons, partsOf, Instr.fill, hc]
    rw [if_neg (by simp [h2]; omega)]
    simp only [aggs] at ih
    rw [ih, hfold]
    congr 2
    rw [Nat.add_mul, Nat.one_mul, List.take_append_of_le_length (by simp; omega), List.take_of_length_le (by simp; omega)]
    simp
theorem flat_at {s : Nat} : ∀ (css : List (List Value)) (i j : Nat) (c : List Value), (∀ cs ∈ css, cs.length = s) → css[i]? = some c → j < s → css.flatten[i * s + j]? = c[j]?
  | cs :: r, 0, j, c, h, hc, hj => by
    cases hc
    have := h cs (by simp)
    rw [List.flatten_cons, Nat.zero_mul, Nat.zero_add, List.getElem?_append_left (by omega)]
  | cs :: r, i + 1, j, c, h, hc, hj => by
    have h1 := h cs (by simp)
    rw [List.flatten_cons, List.getElem?_append_right (by rw [Nat.add_mul]; omega), h1, show (i + 1) * s + j - s = i * s + j by rw [Nat.add_mul]; omega]
    exact flat_at r i j c (fun c hc => h c (by simp [hc])) hc hj
theorem flat_len {s : Nat} : ∀ (css : List (List Value)), (∀ cs ∈ css, cs.length = s) → css.flatten.length = css.length * s
  | [], _ => by simp
  | cs :: r, h => by
    rw [List.flatten_cons, List.length_append, flat_len r (fun c hc => h c (by simp [hc])), h cs (by simp), List.length_cons, Nat.add_mul]; omega
theorem rdp_alloc (w : World) {s : Nat} (css : List (List Value)) (e : TypeId) (h : ∀ cs ∈ css, cs.length = s) : RdP (w.alloc (.cells css.flatten.toArray e)) s (some ⟨w.heap.size, 0, none⟩) css := fun i c hc => by
  refine ⟨_, 0, rfl, fun j v hv => ?_⟩
  have hj := (List.getElem?_eq_some_iff.1 hv).1
  rw [h c (List.mem_of_getElem? hc)] at hj
  rw [cell_of_row _ w.heap.size (0 + i * s + j) css.flatten.toArray e (0, 0) (heap_alloc_new w _)]
  simp only [List.getElem?_toArray]
  rw [Nat.zero_add, flat_at css i j c h hc hj]; exact hv
section
variable {P : Program} {n : Cx} {fr : Fr} {w : World} {ty : TypeId} {x y z : Operand} {T T2 e : TypeId}
/-- []T{..} of structs, all its elements written out -/
theorem os_litS {l s : Nat} {ps : List (Nat × Operand)} {css : List (List Value)} {z0 : Value} (hT : P.underlying T = some (.slice e)) (hs : ∀ w, (sizeOf e).run P w = .ok s w) (hz : ∀ w, (zeroValue e).run P w = .ok z0 w) (hx : evP fr ps 0 = some (aggs css)) (hl : l = css.length) (h1 : ∀ cs ∈ css, cs.length = s) (h0 : 0 < l) (hs0 : 0 < s) (h2 : l * s ≤ 16777216) :
    OS P n (.buildSlice T l ps.toArray) ty fr w (.slice (some ⟨w.heap.size, 0, none⟩) l l) (w.alloc (.cells css.flatten.toArray e)) := by
  subst hl
  refine os_of fun a ha => ?_
  have hp := ha.evP hx
  have hfill := fill_many hs0 css 0 ((Array.range (css.length * s)).map (fun i => z0.cells[i % z0.cells.size]!)) h1 (by simp)
  simp only [Nat.zero_mul, List.take_zero, List.nil_append] at hfill
  have hgt : ¬ css.length * s > 2 ^ 24 := by omega
  have hne : ¬ css.length * s = 0 := by
    have := Nat.mul_pos h0 hs0; omega
  have hps : List.map (fun p : Nat × Operand => (p.1, a.eval p.2)) ps = partsOf (aggs css) 0 := hp
  simp only [execOp, Instr.buildSlice, run_underlying hT, hs, hz, newRow, Result.andThen, Sem.run_bind, Sem.run_pure, hgt, hne, if_false, hps, hfill, List.map_toArray]
  rfl
end
end Go.Proofs.Ytpjmiafefammkaa
