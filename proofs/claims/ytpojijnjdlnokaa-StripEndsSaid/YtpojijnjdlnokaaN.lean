/- Structs in memory: fields, whole loads and stores, struct values. No program in sight. -/
import Derived.Test.YtpojijnjdlnokaaM
namespace Go.Proofs.Ytpojijnjdlnokaa
open Go.RowKit
set_option linter.unusedVariables false

/-- block g holds just these cells -/
def Bk (w : World) (g : Nat) (cs : List Value) (t : TypeId) : Prop := w.heap[g]? = some (.cells cs.toArray t (0, 0))

theorem Bk.cell {w g cs t} (h : Bk w g cs t) {i : Nat} {v : Value} (hv : nthV cs i = some v) : w.cell? ⟨g, 0 + i, none⟩ = some v := by
  rw [nthV_eq] at hv
  rw [cell_of_row w g (0 + i) cs.toArray t (0, 0) h]
  simpa using hv
theorem Bk.free {w g cs t} (h : Bk w g cs t) (i : Nat) : w.frozen? ⟨g, i, none⟩ = false := by
  unfold World.frozen?
  unfold Bk at h
  simp [h]
theorem Bk.lt {w g cs t} (h : Bk w g cs t) : g < w.heap.size := (Array.getElem?_eq_some_iff.1 h).1
theorem Bk.keep {w w' g cs t} (h : Bk w g cs t) (hb : Below w.heap.size w w') : Bk w' g cs t := (hb.block g h.lt).trans h
theorem Bk.below {w w' g cs t B} (h : Bk w g cs t) (hb : Below B w w') (hg : g < B) : Bk w' g cs t := (hb.block g hg).trans h
theorem Bk.led {w w' g cs t} (h : Bk w g cs t) (hb : LeD w w') : Bk w' g cs t := by obtain ⟨q, rfl⟩ := hb; exact h
theorem Bk.alloc {w g cs t} (h : Bk w g cs t) (o : Obj) : Bk (w.alloc o) g cs t := h.keep ((Below.refl _ _).alloc (Nat.le_refl _) o)
theorem bk_new (w : World) (cs : List Value) (t : TypeId) : Bk (w.alloc (.cells cs.toArray t)) w.heap.size cs t := heap_alloc_new w _
theorem Bk.set {w g cs t} (h : Bk w g cs t) (i : Nat) (u : Value) : Bk (w.setCell ⟨g, 0 + i, none⟩ u) g (cs.set i u) t := by
  unfold Bk at *
  unfold World.setCell
  simp [h, Array.getElem?_modify]
theorem Bk.other {w g cs t} (h : Bk w g cs t) {a : Addr} (ha : a.block ≠ g) (u : Value) : Bk (w.setCell a u) g cs t := by
  unfold Bk at *
  rw [Below.heap_setCell _ _ _ _ (fun e => ha e.symm)]; exact h
theorem Bk.grown {w w' g cs t row} (h : Bk w g cs t) (hg : w.grownBy w' row) (hne : some g ≠ row) : Bk w' g cs t := by
  unfold Bk at *
  rw [hg.block g (Array.getElem?_eq_some_iff.1 h).1 hne]; exact h
theorem Bk.rdc {w g cs t} (h : Bk w g cs t) : RdC w (some ⟨g, 0, none⟩) cs := fun _ => ⟨g, 0, rfl, fun i hi => by
  rw [cell_of_row w g (0 + i) cs.toArray t (0, 0) h]; simp⟩
theorem below_set {w0 w : World} {B g : Nat} (hb : Below B w0 w) (hg : B ≤ g) (i : Nat) (u : Value) : Below B w0 (w.setCell ⟨g, i, none⟩ u) := hb.setCell (p := ⟨g, i, none⟩) hg u
theorem setRow_bk {w : World} {g : Nat} {cs : List Value} {t : TypeId} (h : Bk w g cs t) (ds : List Value) : Bk (w.setRow g ds.toArray) g ds t := by
  unfold Bk at *
  unfold World.setRow
  simp [h, Array.getElem?_modify]

theorem below_setRow {w0 w : World} {B g : Nat} (hb : Below B w0 w) (hg : B ≤ g) (cs : Array Value) : Below B w0 (w.setRow g cs) :=
  ⟨hb.os, hb.tape, hb.output, by simpa [World.setRow] using hb.size, fun k hk => by
    rw [← hb.block k hk]
    simp [World.setRow, Array.getElem?_modify, show ¬ g = k by omega]⟩

/-- field i of struct type s: at which cell; of how many cells -/
def fieldB (P : Program) (s i : Nat) : Option (Nat × Nat) := match P.underlying s with
  | some (.struct fs) => match fs[i]? with
    | some f => match P.info? f.type with
      | some inf => some (f.offset, inf.size)
      | none => none
    | none => none
  | _ => none

section
variable {P : Program} {n : Cx} {fr : Fr} {w w' : World} {ty : TypeId} {x y z : Operand} {v u : Value} {T T2 e : TypeId} {op : Op}

theorem fieldB_spec {s i o k : Nat} (h : fieldB P s i = some (o, k)) : ∃ fs f, P.underlying s = some (.struct fs) ∧ fs[i]? = some f ∧ f.offset = o ∧ ∀ w, (sizeOf f.type).run P w = .ok k w := by
  unfold fieldB at h
  split at h
  · rename_i fs hu
    split at h
    · rename_i f hf
      split at h
      · rename_i inf hi
        simp only [Option.some.injEq, Prod.mk.injEq] at h
        exact ⟨fs, f, hu, hf, h.1, fun w => by simp [sizeOf, typeInfo, hi, h.2]⟩
      · cases h
    · cases h
  · cases h

theorem os_fa {b o0 o k i : Nat} (hF : fieldB P T i = some (o, k + 1)) (hx : Fr.ev fr x = some (.pointer (some ⟨b, o0, none⟩))) : OS P n (.fieldAddr T x i) ty fr w (.pointer (some ⟨b, o0 + o, none⟩)) w := by
  obtain ⟨fs, f, hu, hf, ho, hs⟩ := fieldB_spec hF
  exact os_of fun a ha => by
    simp [execOp, ha.ev hx, Instr.fieldAt, run_underlying hu, hf, Instr.sureAddr, fieldPlace, hs, ho, addr_add]

/-- a field of one cell of a struct's value -/
theorem os_fld {cs : List Value} {i o : Nat} (hF : fieldB P T i = some (o, 1)) (hA : ∀ fs f, P.underlying T = some (.struct fs) → fs[i]? = some f → ∀ w, (isAgg f.type).run P w = .ok false w) (hx : Fr.ev fr x = some (.agg cs.toArray)) (hv : nthV cs o = some v) : OS P n (.field T x i) ty fr w v w := by
  obtain ⟨fs, f, hu, hf, ho, hs⟩ := fieldB_spec hF
  rw [nthV_eq] at hv
  exact os_of fun a ha => by
    simp [execOp, ha.ev hx, Instr.field, run_underlying hu, hf, asAgg, part, hA fs f hu hf, ho, hv]

/-- a whole struct or array is read -/
theorem os_loadB {g : Nat} {cs : List Value} {t : TypeId} {d : TypeDesc} (hu : P.underlying T = some d) (hd : (match d with | .struct _ | .array _ _ => true | _ => false) = true) (hs : (P.info? T).map (·.size) = some cs.length) (hx : Fr.ev fr x = some (.pointer (some ⟨g, 0, none⟩))) (hg : Bk w g cs t) :
    OS P n (.load T x) ty fr w (.agg cs.toArray) w := os_of fun a ha => by
  have := run_loadVar_row (P := P) w g t T cs.toArray (0, 0) d hg hu hd (by simpa using hs)
  simp [execOp, ha.ev hx, Instr.loadAt, Instr.sureAddr, this]
/-- a whole struct or array is written -/
theorem ou_storeB {g : Nat} {cs ds : List Value} {t : TypeId} (hs : (P.info? T).map (·.size) = some ds.length) (hx : Fr.ev fr x = some (.pointer (some ⟨g, 0, none⟩))) (hy : Fr.ev fr y = some (.agg ds.toArray)) (hg : Bk w g cs t) (hl : cs.length = ds.length) (h1 : oneCells ds = true) :
    OU P n (.store T x y) ty fr w (w.setRow g ds.toArray) := by
  have h2 : ds.toArray.all (·.oneCell') = true := by
    have : ∀ l : List Value, oneCells l = true → l.all (·.oneCell') = true := by
      intro l
      induction l with
      | nil => intro _; rfl
      | cons v r ih => intro h; simp only [oneCells, Bool.and_eq_true] at h; simp [h.1]; simpa using ih h.2
    simpa using this ds h1
  have := run_storeVar_row (P := P) w g t T cs.toArray ds.toArray hg (by simpa using hs) (by simpa using hl) h2
  unfold OU
  intro a ha
  simp [execOp, ha.ev hx, ha.ev hy, Instr.storeAt, Instr.sureAddr, this]

def evN (fr : Fr) : List (Nat × Operand) → Option (List (Nat × Value))
  | [] => some []
  | (i, x) :: r => match Fr.ev fr x with
    | some v => match evN fr r with
      | some vs => some ((i, v) :: vs)
      | none => none
    | none => none
theorem Ag.evN {n : Cx} {fr : Fr} {a : Act} (h : Ag n fr a) : ∀ {xs : List (Nat × Operand)} {vs : List (Nat × Value)}, evN fr xs = some vs → xs.map (fun p => (p.1, a.eval p.2)) = vs
  | [], vs, hx => by simp [Ytpojijnjdlnokaa.evN] at hx; subst hx; rfl
  | (i, x) :: r, vs, hx => by
    simp only [Ytpojijnjdlnokaa.evN] at hx
    cases h1 : Fr.ev fr x with
    | none => simp [h1] at hx
    | some v =>
      cases h2 : Ytpojijnjdlnokaa.evN fr r with
      | none => simp [h1, h2] at hx
      | some us =>
        simp [h1, h2] at hx
        subst hx
        simp [h.ev h1, h.evN h2]
/-- T{..} -/
theorem os_build {ps : List (Nat × Operand)} {vs : List (Nat × Value)} {cs : List Value} (hx : evN fr ps = some vs) (hb : P.built T vs = some cs.toArray) : OS P n (.build T ps.toArray) ty fr w (.agg cs.toArray) w := os_of fun a ha => by
  have h1 := ha.evN hx
  have h2 := run_build (P := P) w T (ps.map (fun p => (p.1, a.eval p.2))).toArray cs.toArray (by rw [h1]; simpa using hb)
  have h3 : (execOp a.eval ⟨none, .build T ps.toArray, ty, "", #[], none⟩) = (do pure (.value (← Instr.build T (ps.map (fun p => (p.1, a.eval p.2))).toArray))) := by
    simp [execOp]
  rw [h3]
  simp [h2]
end
end Go.Proofs.Ytpojijnjdlnokaa
