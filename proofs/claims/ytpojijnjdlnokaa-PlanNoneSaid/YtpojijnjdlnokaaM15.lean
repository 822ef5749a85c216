/- Texts joined: OpR OpT. -/
import Derived.Test.YtpojijnjdlnokaaM14
import Derived.ChangeSame
/- How a list of structs of two numbers, an argument, opens. -/
namespace Go.Proofs.Ytpojijnjdlnokaa
open Go.ChangeShapes Go.WideShapes Go.ChangeAt Go.RowKit
set_option linter.unusedVariables false
section
variable {H : Type} {enc : TypeId × Value → H} {w : World} {base : Nat} {spare : Nat → Bool} {held : Bool} {fuel : Nat} {cs : List Value} {x : DataW H × List MemPlace}
theorem open_pairRow (h : DataW.trod enc Try.prog w base spare held fuel 62 cs = some x) : ∃ p : Int × Int, rowC p = cs ∧ I64 p.1 ∧ I64 p.2 := by
  obtain ⟨y0, y1, n, rfl, hl, h0, h1⟩ := trod_struct2 Try.underlying62 h
  have hcl : Try.prog.cellsOf 62 = 2 := by kernel_rfl
  have c1 : Try.prog.cellsOf 3 = 1 := by kernel_rfl
  rw [hcl] at hl
  dsimp only at h0 h1
  rw [c1] at h0 h1
  obtain ⟨z0, e0, _, w0⟩ := DataW.trod_int Try.underlying3 h0
  obtain ⟨z1, e1, _, w1⟩ := DataW.trod_int Try.underlying3 h1
  match cs, hl with
  | [v0, v1], _ =>
    simp at e0 e1
    subst e0 e1
    exact ⟨(z0, z1), rfl, i64_of_wf w0, i64_of_wf w1⟩
theorem open_listRow (h : DataW.trod enc Try.prog w base spare held fuel 63 cs = some x) (hw : ∀ m ∈ x.1.weights Try.prog 63, m ≤ reachBytes) :
    ∃ (A : Option Addr) (len cap : Nat) (ps : List (Int × Int)), cs = [.slice A len cap] ∧ RdP w 2 A (ps.map rowC) ∧ len = ps.length ∧ len ≤ cap ∧ len * 16 ≤ 140737488351232 ∧ ∀ p ∈ ps, I64 p.1 ∧ I64 p.2 := by
  obtain ⟨A, len, cap, ps, rfl, h1, h2, h3, h4, h5⟩ := open_parts Try.underlying63 (by kernel_rfl) (by decide : 0 < 2) h hw
  have hb : Try.prog.bytesOf 62 = 16 := by kernel_rfl
  obtain ⟨ds, rfl, hd⟩ := parts_map rowC (fun d => I64 d.1 ∧ I64 d.2) ps (fun c hc => by
    obtain ⟨_, n, y, hy, hyw⟩ := h5 c hc
    exact open_pairRow hy)
  exact ⟨A, len, cap, ds, rfl, h4, by rw [← h1, List.length_map], h2, by rw [hb] at h3; simp only [reachBytes] at h3; exact h3, hd⟩
theorem open_pairCount (h : DataW.trod enc Try.prog w base spare held fuel 201 cs = some x) : ∃ p : Int × Int, rowC p = cs ∧ I64 p.1 ∧ I64 p.2 := by
  obtain ⟨y0, y1, n, rfl, hl, h0, h1⟩ := trod_struct2 Try.underlying201 h
  have hcl : Try.prog.cellsOf 201 = 2 := by kernel_rfl
  have c1 : Try.prog.cellsOf 3 = 1 := by kernel_rfl
  rw [hcl] at hl
  dsimp only at h0 h1
  rw [c1] at h0 h1
  obtain ⟨z0, e0, _, w0⟩ := DataW.trod_int Try.underlying3 h0
  obtain ⟨z1, e1, _, w1⟩ := DataW.trod_int Try.underlying3 h1
  match cs, hl with
  | [v0, v1], _ =>
    simp at e0 e1
    subst e0 e1
    exact ⟨(z0, z1), rfl, i64_of_wf w0, i64_of_wf w1⟩
theorem open_listCount (h : DataW.trod enc Try.prog w base spare held fuel 199 cs = some x) (hw : ∀ m ∈ x.1.weights Try.prog 199, m ≤ reachBytes) :
    ∃ (A : Option Addr) (len cap : Nat) (ps : List (Int × Int)), cs = [.slice A len cap] ∧ RdP w 2 A (ps.map rowC) ∧ len = ps.length ∧ len ≤ cap ∧ len * 16 ≤ 140737488351232 ∧ ∀ p ∈ ps, I64 p.1 ∧ I64 p.2 := by
  obtain ⟨A, len, cap, ps, rfl, h1, h2, h3, h4, h5⟩ := open_parts Try.underlying199 (by kernel_rfl) (by decide : 0 < 2) h hw
  have hb : Try.prog.bytesOf 201 = 16 := by kernel_rfl
  obtain ⟨ds, rfl, hd⟩ := parts_map rowC (fun d => I64 d.1 ∧ I64 d.2) ps (fun c hc => by
    obtain ⟨_, n, y, hy, hyw⟩ := h5 c hc
    exact open_pairCount hy)
  exact ⟨A, len, cap, ds, rfl, h4, by rw [← h1, List.length_map], h2, by rw [hb] at h3; simp only [reachBytes] at h3; exact h3, hd⟩
end
end Go.Proofs.Ytpojijnjdlnokaa

/- How a task, an argument, opens. -/
namespace Go.Proofs.Ytpojijnjdlnokaa
open Go.ChangeShapes Go.WideShapes Go.ChangeAt Go.RowKit
set_option linter.unusedVariables false
section
variable {H : Type} {enc : TypeId × Value → H} {w : World} {base : Nat} {spare : Nat → Bool} {held : Bool} {fuel : Nat} {cs : List Value} {x : DataW H × List MemPlace}
theorem open_listI (h : DataW.trod enc Try.prog w base spare held fuel 40 cs = some x) (hw : ∀ m ∈ x.1.weights Try.prog 40, m ≤ reachBytes) :
    ∃ (A : Option Addr) (len cap : Nat) (zs : List Int), cs = [.slice A len cap] ∧ Rd w .i64 A zs ∧ len = zs.length ∧ len ≤ cap ∧ len * 8 ≤ 140737488351232 ∧ AllI zs := by
  obtain ⟨A, len, cap, ps, rfl, h1, h2, h3, h4, h5⟩ := open_parts Try.underlying40 (by kernel_rfl) (by decide : 0 < 1) h hw
  have hb : Try.prog.bytesOf 3 = 8 := by kernel_rfl
  obtain ⟨ds, rfl, hd⟩ := parts_map (fun (z : Int) => [Value.int .i64 z]) (fun z => I64 z) ps (fun c hc => by
    obtain ⟨hl, n, y, hy, hyw⟩ := h5 c hc
    obtain ⟨z0, e0, _, w0⟩ := DataW.trod_int Try.underlying3 hy
    exact ⟨z0, e0.symm, i64_of_wf w0⟩)
  refine ⟨A, len, cap, ds, rfl, ?_, by rw [← h1, List.length_map], h2, by rw [hb] at h3; simp only [reachBytes] at h3; exact h3, hd⟩
  have := h4.toC (fun c hc => by obtain ⟨z, _, rfl⟩ := List.mem_map.1 hc; rfl)
  rw [List.map_map] at this
  exact RdC.toRd (by simpa [Function.comp_def] using this)
theorem trod_struct3' {P : Program} {t : TypeId} {f0 f1 f2 : Field} (ht : P.underlying t = some (.struct #[f0, f1, f2])) (h : DataW.trod enc P w base spare held fuel t cs = some x) :
    ∃ y0 y1 y2 n, x = (.agg [y0.1, y1.1, y2.1], y0.2 ++ (y1.2 ++ y2.2)) ∧ cs.length = P.cellsOf t ∧ DataW.trod enc P w base spare held n f0.type ((cs.drop f0.offset).take (P.cellsOf f0.type)) = some y0 ∧
      DataW.trod enc P w base spare held n f1.type ((cs.drop f1.offset).take (P.cellsOf f1.type)) = some y1 ∧ DataW.trod enc P w base spare held n f2.type ((cs.drop f2.offset).take (P.cellsOf f2.type)) = some y2 := by
  obtain ⟨xs, n, _, rfl, hl, hlen, hf⟩ := DataW.trod_struct ht h
  match xs, hlen with
  | [y0, y1, y2], _ => exact ⟨y0, y1, y2, n, by simp, hl, by simpa using hf 0 f0 rfl, by simpa using hf 1 f1 rfl, by simpa using hf 2 f2 rfl⟩
theorem open_bounds (h : DataW.trod enc Try.prog w base spare held fuel 42 cs = some x) : ∃ n m b : Int, cs = [.int .i64 n, .int .i64 m, .int .i64 b] ∧ I64 n ∧ I64 m ∧ I64 b := by
  obtain ⟨y0, y1, y2, n, rfl, hl, h0, h1, h2⟩ := trod_struct3' Try.underlying42 h
  have hcl : Try.prog.cellsOf 42 = 3 := by kernel_rfl
  have c1 : Try.prog.cellsOf 3 = 1 := by kernel_rfl
  rw [hcl] at hl
  dsimp only at h0 h1 h2
  rw [c1] at h0 h1 h2
  obtain ⟨z0, e0, _, w0⟩ := DataW.trod_int Try.underlying3 h0
  obtain ⟨z1, e1, _, w1⟩ := DataW.trod_int Try.underlying3 h1
  obtain ⟨z2, e2, _, w2⟩ := DataW.trod_int Try.underlying3 h2
  match cs, hl with
  | [v0, v1, v2], _ =>
    simp at e0 e1 e2
    subst e0 e1 e2
    exact ⟨z0, z1, z2, rfl, i64_of_wf w0, i64_of_wf w1, i64_of_wf w2⟩
theorem open_task (h : DataW.trod enc Try.prog w base spare held fuel 44 cs = some x) (hw : ∀ m ∈ x.1.weights Try.prog 44, m ≤ reachBytes) : ∃ (d : TaskV) (q : TaskP), d.cells = cs ∧ TaskOk w d q ∧ d.ll ≤ d.lc ∧ d.wl ≤ d.wc ∧ d.vl ≤ d.vc := by
  obtain ⟨y0, y1, y2, y3, n, rfl, hl, h0, h1, h2, h3⟩ := Go.Joins.trod_struct4 Try.underlying44 h
  have hcl : Try.prog.cellsOf 44 = 6 := by kernel_rfl
  have c3 : Try.prog.cellsOf 42 = 3 := by kernel_rfl
  have c1 : Try.prog.cellsOf 40 = 1 := by kernel_rfl
  rw [hcl] at hl
  dsimp only at h0 h1 h2 h3
  rw [c3] at h0
  rw [c1] at h1 h2 h3
  obtain ⟨zn, zm, zb, e0, i0, i1, i2⟩ := open_bounds h0
  have hw1 : ∀ m ∈ y1.1.weights Try.prog 40, m ≤ reachBytes := fun m hm => hw m (by
    simp only [DataW.weights, Try.underlying44, DataW.weightsEach, List.map_cons, List.map_nil, List.mem_append]
    exact .inr (.inl hm))
  have hw2 : ∀ m ∈ y2.1.weights Try.prog 40, m ≤ reachBytes := fun m hm => hw m (by
    simp only [DataW.weights, Try.underlying44, DataW.weightsEach, List.map_cons, List.map_nil, List.mem_append]
    exact .inr (.inr (.inl hm)))
  have hw3 : ∀ m ∈ y3.1.weights Try.prog 40, m ≤ reachBytes := fun m hm => hw m (by
    simp only [DataW.weights, Try.underlying44, DataW.weightsEach, List.map_cons, List.map_nil, List.mem_append]
    exact .inr (.inr (.inr (.inl hm))))
  obtain ⟨A1, l1, k1, zs1, e1, r1, g1, p1, m1, a1⟩ := open_listI h1 hw1
  obtain ⟨A2, l2, k2, zs2, e2, r2, g2, p2, m2, a2⟩ := open_listI h2 hw2
  obtain ⟨A3, l3, k3, zs3, e3, r3, g3, p3, m3, a3⟩ := open_listI h3 hw3
  match cs, hl with
  | [v0, v1, v2, v3, v4, v5], _ =>
    simp at e0 e1 e2 e3
    obtain ⟨rfl, rfl, rfl⟩ := e0
    subst e1 e2 e3
    exact ⟨⟨zn, zm, zb, A1, l1, k1, A2, l2, k2, A3, l3, k3⟩, ⟨zn, zm, zb, zs1, zs2, zs3⟩, rfl, ⟨r1, r2, r3, g1, g2, g3, by simp only []; omega, by simp only []; omega, by simp only []; omega, rfl, rfl, rfl, ⟨i0, i1, i2⟩, a1, a2, a3⟩, p1, p2, p3⟩
end
end Go.Proofs.Ytpojijnjdlnokaa
