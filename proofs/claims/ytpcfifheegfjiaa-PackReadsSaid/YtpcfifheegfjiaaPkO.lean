/- Layer 8: how a list of calls, an argument, opens. -/
import Derived.Test.YtpcfifheegfjiaaPkM
namespace Go.Proofs.Ytpcfifheegfjiaa
open Go.ChangeShapes Go.WideShapes Go.ChangeAt Go.RowKit
set_option linter.unusedVariables false
section
variable {H : Type} {enc : TypeId × Value → H} {w : World} {base : Nat} {spare : Nat → Bool} {held : Bool} {fuel : Nat} {cs : List Value} {x : DataW H × List MemPlace}
theorem open_do1 (h : DataW.trod enc Try.prog w base spare held fuel 58 cs = some x) (hw : ∀ m ∈ x.1.weights Try.prog 58, m ≤ reachBytes) : ∃ d : DoV, d.cells = cs ∧ DoOk w d ∧ I64 d.what ∧ I64 d.n ∧ I64 d.size := by
  obtain ⟨y0, y1, y2, y3, n, rfl, hl, h0, h1, h2, h3⟩ := Go.Joins.trod_struct4 Try.underlying58 h
  have hcl : Try.prog.cellsOf 58 = 4 := by kernel_rfl
  have c1 : Try.prog.cellsOf 3 = 1 := by kernel_rfl
  have c2 : Try.prog.cellsOf 22 = 1 := by kernel_rfl
  have c3 : Try.prog.cellsOf 5 = 1 := by kernel_rfl
  have b3 : Try.prog.bytesOf 5 = 1 := by kernel_rfl
  rw [hcl] at hl
  dsimp only at h0 h1 h2 h3
  rw [c1] at h0 h1 h2
  rw [c2] at h3
  obtain ⟨z0, e0, _, w0⟩ := DataW.trod_int Try.underlying3 h0
  obtain ⟨z1, e1, _, w1⟩ := DataW.trod_int Try.underlying3 h1
  obtain ⟨z2, e2, _, w2⟩ := DataW.trod_int Try.underlying3 h2
  have hw3 : ∀ m ∈ y3.1.weights Try.prog 22, m ≤ reachBytes := fun m hm => hw m (by
    simp only [DataW.weights, Try.underlying58, DataW.weightsEach, List.map_cons, List.map_nil, List.mem_append]
    exact .inr (.inr (.inr (.inl hm))))
  obtain ⟨A, l, c, bs, e3, hbl, hlc, hmx, hr, hwf⟩ := open_nums Try.underlying22 Try.underlying5 c3 h3 hw3
  rw [b3] at hmx
  match cs, hl with
  | [v0, v1, v2, v3], _ =>
    simp at e0 e1 e2 e3
    subst e0 e1 e2 e3
    exact ⟨⟨z0, z1, z2, A, l, c, bs⟩, rfl, ⟨hr, hbl, by simp [reachBytes] at hmx; omega, fun z hz => u8_of_wf (hwf z hz)⟩, i64_of_wf w0, i64_of_wf w1, i64_of_wf w2⟩
theorem open_do (h : DataW.trod enc Try.prog w base spare held fuel 49 cs = some x) (hw : ∀ m ∈ x.1.weights Try.prog 49, m ≤ reachBytes) :
    ∃ A len cap ds, cs = [.slice A len cap] ∧ RdDo w A ds ∧ len = ds.length ∧ len ≤ 140737488351232 ∧ ∀ d ∈ ds, I64 d.what ∧ I64 d.n ∧ I64 d.size := by
  obtain ⟨A, len, cap, ps, rfl, h1, h2, h3, h4, h5⟩ := open_parts Try.underlying49 (by kernel_rfl) (by decide : 0 < 4) h hw
  have hb : Try.prog.bytesOf 58 = 48 := by kernel_rfl
  obtain ⟨ds, rfl, hd⟩ := parts_map DoV.cells (fun d => DoOk w d ∧ I64 d.what ∧ I64 d.n ∧ I64 d.size) ps (fun c hc => by
    obtain ⟨_, n, y, hy, hyw⟩ := h5 c hc
    exact open_do1 hy hyw)
  exact ⟨A, len, cap, ds, rfl, ⟨h4, fun d hd' => (hd d hd').1⟩, by rw [← h1, List.length_map], by rw [hb] at h3; simp [reachBytes] at h3; omega, fun d hd' => (hd d hd').2⟩
end
end Go.Proofs.Ytpcfifheegfjiaa
