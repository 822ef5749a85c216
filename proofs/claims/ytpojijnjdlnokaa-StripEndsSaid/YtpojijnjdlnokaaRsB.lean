/- How an argument that is a list of lists of numbers opens. No program in sight. -/
import Derived.Test.YtpojijnjdlnokaaRs
import Derived.Test.YtpojijnjdlnokaaCrc
namespace Go.Proofs.Ytpojijnjdlnokaa
open Go.ChangeShapes Go.WideShapes Go.ChangeAt Go.RowKit
set_option linter.unusedVariables false
section
variable {H : Type} {enc : TypeId × Value → H} {P : Program} {w : World} {base : Nat} {spare : Nat → Bool} {held : Bool} {t e f : TypeId} {fuel : Nat} {cs : List Value} {x : DataW H × List MemPlace}
theorem open_lists {k : IntKind} (ht : P.underlying t = some (.slice e)) (he : P.underlying e = some (.slice f)) (hf : P.underlying f = some (.int k)) (hC : P.cellsOf e = 1) (hC2 : P.cellsOf f = 1) (hb1 : 1 ≤ P.bytesOf e) (hb2 : 1 ≤ P.bytesOf f)
    (h : DataW.trod enc P w base spare held fuel t cs = some x) (hw : ∀ m ∈ x.1.weights P t, m ≤ reachBytes) :
    ∃ A len cap ls, cs = [.slice A len cap] ∧ len = ls.length ∧ len ≤ cap ∧ len ≤ 140737488351232 ∧ RdS w k A ls ∧ ∀ l ∈ ls, ∀ z ∈ l, (Lit.int k z).wf = true := by
  obtain ⟨A, len, cap, ps, rfl, h1, h2, h3, h4, h5⟩ := open_parts ht hC (by omega) h hw
  obtain ⟨ds, hds, hG⟩ := parts_map (D := Option Addr × Nat × Nat × List Int) (fun d => [Value.slice d.1 d.2.1 d.2.2.1]) (fun d => d.2.2.2.length = d.2.1 ∧ d.2.1 ≤ d.2.2.1 ∧ d.2.1 * P.bytesOf f ≤ reachBytes ∧ Rd w k d.1 d.2.2.2 ∧ ∀ z ∈ d.2.2.2, (Lit.int k z).wf = true) ps (fun c hc => by
    obtain ⟨hl, n, y, hy, hyw⟩ := h5 c hc
    obtain ⟨A', len', cap', zs, rfl, e1, e2, e3, e4, e5⟩ := open_nums he hf hC2 hy hyw
    exact ⟨(A', len', cap', zs), rfl, e1, e2, e3, e4, e5⟩)
  have hr : reachBytes = 140737488351232 := rfl
  have hlen : ds.length = len := by rw [← h1, ← hds, List.length_map]
  refine ⟨A, len, cap, ds.map (·.2.2.2), rfl, by rw [List.length_map, hlen], h2, ?_, fun h0 => ?_, fun l hl z hz => ?_⟩
  · have := Nat.le_mul_of_pos_right len (show 0 < P.bytesOf e by omega)
    omega
  · have h0' : 0 < ds.length := by simpa using h0
    have hp : ∀ i (hi : i < ds.length), ps[i]? = some [Value.slice ds[i].1 ds[i].2.1 ds[i].2.2.1] := fun i hi => by
      rw [← hds, List.getElem?_map, List.getElem?_eq_getElem hi]; rfl
    obtain ⟨b, o, rfl, _⟩ := h4 0 _ (hp 0 h0')
    refine ⟨b, o, rfl, fun i hi => ?_⟩
    have hi' : i < ds.length := by simpa using hi
    obtain ⟨g1, g2, g3, g4, _⟩ := hG ds[i] (List.getElem_mem _)
    have e1 : (ds.map (·.2.2.2)).getD i [] = ds[i].2.2.2 := by simp [hi']
    rw [e1]
    have hc := h4.cell (j := 0) (hp i hi') rfl
    rw [Nat.mul_one, Nat.add_zero] at hc
    refine ⟨ds[i].1, ds[i].2.2.1, by rw [g1]; exact hc, g4, by omega, ?_⟩
    have := Nat.le_mul_of_pos_right ds[i].2.1 (show 0 < P.bytesOf f by omega)
    omega
  · obtain ⟨d, hd, rfl⟩ := List.mem_map.1 hl
    exact (hG d hd).2.2.2.2 z hz
end
end Go.Proofs.Ytpojijnjdlnokaa
