/- Texts joined: OpR OpH. -/
import Derived.Test.YtlfkhnchceoinaaM24
import Derived.ChangeSame
/- How a list of structs of two numbers, an argument, opens. -/
namespace Go.Proofs.Ytlfkhnchceoinaa
open Go.ChangeShapes Go.WideShapes Go.ChangeAt Go.RowKit
set_option linter.unusedVariables false
section
variable {H : Type} {enc : TypeId × Value → H} {w : World} {base : Nat} {spare : Nat → Bool} {held : Bool} {fuel : Nat} {cs : List Value} {x : DataW H × List MemPlace}
theorem open_pairRow (h : DataW.trod enc Try.prog w base spare held fuel 41 cs = some x) : ∃ p : Int × Int, rowC p = cs ∧ I64 p.1 ∧ I64 p.2 := by
  obtain ⟨y0, y1, n, rfl, hl, h0, h1⟩ := trod_struct2 Try.underlying41 h
  have hcl : Try.prog.cellsOf 41 = 2 := by kernel_rfl
  have c1 : Try.prog.cellsOf 3 = 1 := by kernel_rfl
  rw [hcl] at hl
  dsimp only at h0 h1
  rw [c1] at h0 h1
  obtain ⟨z0, e0, _, w0⟩ := DataW.trod_int Try.underlying3 h0
  obtain ⟨z1, e1, _, w1⟩ := DataW.trod_int Try.underlying3 h1
  match cs, hl with
  | [v0, v1], _ =>
    simp at e0 e1
    subst e0 e1
    exact ⟨(z0, z1), rfl, i64_of_wf w0, i64_of_wf w1⟩
theorem open_listRow (h : DataW.trod enc Try.prog w base spare held fuel 26 cs = some x) (hw : ∀ m ∈ x.1.weights Try.prog 26, m ≤ reachBytes) :
    ∃ (A : Option Addr) (len cap : Nat) (ps : List (Int × Int)), cs = [.slice A len cap] ∧ RdP w 2 A (ps.map rowC) ∧ len = ps.length ∧ len ≤ cap ∧ len * 16 ≤ 140737488351232 ∧ ∀ p ∈ ps, I64 p.1 ∧ I64 p.2 := by
  obtain ⟨A, len, cap, ps, rfl, h1, h2, h3, h4, h5⟩ := open_parts Try.underlying26 (by kernel_rfl) (by decide : 0 < 2) h hw
  have hb : Try.prog.bytesOf 41 = 16 := by kernel_rfl
  obtain ⟨ds, rfl, hd⟩ := parts_map rowC (fun d => I64 d.1 ∧ I64 d.2) ps (fun c hc => by
    obtain ⟨_, n, y, hy, hyw⟩ := h5 c hc
    exact open_pairRow hy)
  exact ⟨A, len, cap, ds, rfl, h4, by rw [← h1, List.length_map], h2, by rw [hb] at h3; simp only [reachBytes] at h3; exact h3, hd⟩
theorem open_pairCount (h : DataW.trod enc Try.prog w base spare held fuel 143 cs = some x) : ∃ p : Int × Int, rowC p = cs ∧ I64 p.1 ∧ I64 p.2 := by
  obtain ⟨y0, y1, n, rfl, hl, h0, h1⟩ := trod_struct2 Try.underlying143 h
  have hcl : Try.prog.cellsOf 143 = 2 := by kernel_rfl
  have c1 : Try.prog.cellsOf 3 = 1 := by kernel_rfl
  rw [hcl] at hl
  dsimp only at h0 h1
  rw [c1] at h0 h1
  obtain ⟨z0, e0, _, w0⟩ := DataW.trod_int Try.underlying3 h0
  obtain ⟨z1, e1, _, w1⟩ := DataW.trod_int Try.underlying3 h1
  match cs, hl with
  | [v0, v1], _ =>
    simp at e0 e1
    subst e0 e1
    exact ⟨(z0, z1), rfl, i64_of_wf w0, i64_of_wf w1⟩
theorem open_listCount (h : DataW.trod enc Try.prog w base spare held fuel 141 cs = some x) (hw : ∀ m ∈ x.1.weights Try.prog 141, m ≤ reachBytes) :
    ∃ (A : Option Addr) (len cap : Nat) (ps : List (Int × Int)), cs = [.slice A len cap] ∧ RdP w 2 A (ps.map rowC) ∧ len = ps.length ∧ len ≤ cap ∧ len * 16 ≤ 140737488351232 ∧ ∀ p ∈ ps, I64 p.1 ∧ I64 p.2 := by
  obtain ⟨A, len, cap, ps, rfl, h1, h2, h3, h4, h5⟩ := open_parts Try.underlying141 (by kernel_rfl) (by decide : 0 < 2) h hw
  have hb : Try.prog.bytesOf 143 = 16 := by kernel_rfl
  obtain ⟨ds, rfl, hd⟩ := parts_map rowC (fun d => I64 d.1 ∧ I64 d.2) ps (fun c hc => by
    obtain ⟨_, n, y, hy, hyw⟩ := h5 c hc
    exact open_pairCount hy)
  exact ⟨A, len, cap, ds, rfl, h4, by rw [← h1, List.length_map], h2, by rw [hb] at h3; simp only [reachBytes] at h3; exact h3, hd⟩
end
end Go.Proofs.Ytlfkhnchceoinaa

/- How a header, an argument, opens. -/
namespace Go.Proofs.Ytlfkhnchceoinaa
open Go.ChangeShapes Go.WideShapes Go.ChangeAt Go.RowKit
set_option linter.unusedVariables false
section
variable {H : Type} {enc : TypeId × Value → H} {w : World} {base : Nat} {spare : Nat → Bool} {held : Bool} {fuel : Nat} {cs : List Value} {x : DataW H × List MemPlace}
theorem trod_struct6 {P : Program} {t : TypeId} {f0 f1 f2 f3 f4 f5 : Field} (ht : P.underlying t = some (.struct #[f0, f1, f2, f3, f4, f5])) (h : DataW.trod enc P w base spare held fuel t cs = some x) :
    ∃ y0 y1 y2 y3 y4 y5 n, x = (.agg [y0.1, y1.1, y2.1, y3.1, y4.1, y5.1], y0.2 ++ (y1.2 ++ (y2.2 ++ (y3.2 ++ (y4.2 ++ y5.2))))) ∧ cs.length = P.cellsOf t ∧ DataW.trod enc P w base spare held n f0.type ((cs.drop f0.offset).take (P.cellsOf f0.type)) = some y0 ∧
      DataW.trod enc P w base spare held n f1.type ((cs.drop f1.offset).take (P.cellsOf f1.type)) = some y1 ∧ DataW.trod enc P w base spare held n f2.type ((cs.drop f2.offset).take (P.cellsOf f2.type)) = some y2 ∧
      DataW.trod enc P w base spare held n f3.type ((cs.drop f3.offset).take (P.cellsOf f3.type)) = some y3 ∧ DataW.trod enc P w base spare held n f4.type ((cs.drop f4.offset).take (P.cellsOf f4.type)) = some y4 ∧ DataW.trod enc P w base spare held n f5.type ((cs.drop f5.offset).take (P.cellsOf f5.type)) = some y5 := by
  obtain ⟨xs, n, _, rfl, hl, hlen, hf⟩ := DataW.trod_struct ht h
  match xs, hlen with
  | [y0, y1, y2, y3, y4, y5], _ => exact ⟨y0, y1, y2, y3, y4, y5, n, by simp, hl, by simpa using hf 0 f0 rfl, by simpa using hf 1 f1 rfl, by simpa using hf 2 f2 rfl, by simpa using hf 3 f3 rfl, by simpa using hf 4 f4 rfl, by simpa using hf 5 f5 rfl⟩
theorem open_head (h : DataW.trod enc Try.prog w base spare held fuel 28 cs = some x) (hw : ∀ m ∈ x.1.weights Try.prog 28, m ≤ reachBytes) : ∃ d : HeadV, d.cells = cs ∧ HeadOk w d := by
  obtain ⟨y0, y1, y2, y3, y4, y5, n, rfl, hl, h0, h1, h2, h3, h4, h5⟩ := trod_struct6 Try.underlying28 h
  have hcl : Try.prog.cellsOf 28 = 6 := by kernel_rfl
  have c1 : Try.prog.cellsOf 3 = 1 := by kernel_rfl
  have c2 : Try.prog.cellsOf 26 = 1 := by kernel_rfl
  rw [hcl] at hl
  dsimp only at h0 h1 h2 h3 h4 h5
  rw [c1] at h0 h1 h2 h3 h4
  rw [c2] at h5
  obtain ⟨z0, e0, _, w0⟩ := DataW.trod_int Try.underlying3 h0
  obtain ⟨z1, e1, _, w1⟩ := DataW.trod_int Try.underlying3 h1
  obtain ⟨z2, e2, _, w2⟩ := DataW.trod_int Try.underlying3 h2
  obtain ⟨z3, e3, _, w3⟩ := DataW.trod_int Try.underlying3 h3
  obtain ⟨z4, e4, _, w4⟩ := DataW.trod_int Try.underlying3 h4
  have hw5 : ∀ m ∈ y5.1.weights Try.prog 26, m ≤ reachBytes := fun m hm => hw m (by
    simp only [DataW.weights, Try.underlying28, DataW.weightsEach, List.map_cons, List.map_nil, List.mem_append]
    exact .inr (.inr (.inr (.inr (.inr (.inl hm))))))
  obtain ⟨A, l, c, ps, e5, hr, hl2, hlc, hmx, hI⟩ := open_listRow h5 hw5
  match cs, hl with
  | [v0, v1, v2, v3, v4, v5], _ =>
    simp at e0 e1 e2 e3 e4 e5
    subst e0 e1 e2 e3 e4 e5
    exact ⟨⟨⟨z0, z1, z2, z3, z4, ps⟩, A, l, c⟩, rfl, hr, hl2, by simp only []; omega, ⟨i64_of_wf w0, i64_of_wf w1, i64_of_wf w2, i64_of_wf w3, i64_of_wf w4⟩, hI, hlc⟩
end
end Go.Proofs.Ytlfkhnchceoinaa
