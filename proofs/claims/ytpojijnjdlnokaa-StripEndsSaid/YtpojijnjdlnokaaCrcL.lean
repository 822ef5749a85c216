/- Layer 7: awake, and the walk of SumParts. -/
import Derived.Test.YtpojijnjdlnokaaCrc
import Derived.Test.YtpojijnjdlnokaaKitP
import Derived.Lib.SlBytesConst
namespace Go.Proofs.Ytpojijnjdlnokaa
open Go.RowKit
set_option linter.unusedVariables false

section
variable {P : Program} {n : Cx} {fr : Fr} {w : World} {ty : TypeId} {x : Operand} {T e : TypeId}
/-- []byte of a constant text -/
theorem os_text {vs : List Value} {l c : Nat} (hT : P.underlying T = some (.slice e)) (he : P.underlying e = some (.int .u8)) (hx : Fr.ev fr x = some (.slice (some ⟨w.heap.size, 0, none⟩) l c)) :
    OS P n (.convert T T x) ty fr (w.alloc (.cells vs.toArray e)) (.slice (some ⟨w.heap.size, 0, none⟩) l c) (w.alloc (.cells vs.toArray e (vs.length, vs.length + 1))) := os_of fun a ha => by
  have := Lib.run_convert_bytes_const (P := P) w T e vs.toArray l c hT he
  simp [execOp, ha.ev hx, this]
end
theorem rd_text (w : World) (zs : List Int) (e : TypeId) (f : Nat × Nat) : Rd (w.alloc (.cells (zs.map (Value.int .u8)).toArray e f)) .u8 (some ⟨w.heap.size, 0, none⟩) zs := fun _ => by
  refine ⟨_, 0, rfl, fun i hi => ?_⟩
  rw [cell_of_row _ w.heap.size (0 + i) (zs.map (Value.int .u8)).toArray e f (heap_alloc_new w _)]
  simp [hi]
theorem below_text (w : World) (o : Obj) : Below w.heap.size w (w.alloc o) := (Below.refl _ w).alloc (Nat.le_refl _) o

/-- a list of lists, written out -/
theorem rds_lit' (w : World) (k : IntKind) (T : TypeId) (hs : List (Option Addr × Nat × Nat × List Int)) (h : ∀ x ∈ hs, Rd w k x.1 x.2.2.2 ∧ x.2.1 = x.2.2.2.length ∧ x.2.1 ≤ x.2.2.1 ∧ x.2.1 ≤ 140737488351232) :
    RdS (w.alloc (.cells (hs.map fun x => Value.slice x.1 x.2.1 x.2.2.1).toArray T)) k (some ⟨w.heap.size, 0, none⟩) (hs.map fun x => x.2.2.2) := fun _ => by
  refine ⟨_, 0, rfl, fun i hi => ?_⟩
  have hi' : i < hs.length := by simpa using hi
  obtain ⟨h1, h0, h2, h3⟩ := h hs[i] (List.getElem_mem _)
  have e1 : (hs.map fun x => x.2.2.2).getD i [] = hs[i].2.2.2 := by simp [hi']
  rw [e1]
  refine ⟨hs[i].1, hs[i].2.2.1, ?_, h1.keep (below_text w _), by omega, by omega⟩
  rw [cell_of_row _ w.heap.size (0 + i) _ T (0, 0) (heap_alloc_new w _)]
  simp [hi', h0]
theorem rds_lit (w : World) (k : IntKind) (T : TypeId) (hs : List (Option Addr × Nat × List Int)) (h : ∀ x ∈ hs, Rd w k x.1 x.2.2 ∧ x.2.2.length ≤ x.2.1 ∧ x.2.2.length ≤ 140737488351232) :
    RdS (w.alloc (.cells (hs.map fun x => Value.slice x.1 x.2.2.length x.2.1).toArray T)) k (some ⟨w.heap.size, 0, none⟩) (hs.map fun x => x.2.2) := by
  have := rds_lit' w k T (hs.map fun x => (x.1, x.2.2.length, x.2.1, x.2.2)) (by
    intro x hx
    obtain ⟨y, hy, rfl⟩ := List.mem_map.1 hx
    obtain ⟨h1, h2, h3⟩ := h y hy
    exact ⟨h1, rfl, h2, h3⟩)
  simpa [Function.comp_def] using this

def text9 : List Int := [49, 50, 51, 52, 53, 54, 55, 56, 57]
theorem crc_text : crcOf [[49, 50, 51, 52, 53, 54, 55, 56, 57]] = 0xCBF43926#32 := by decide +kernel
theorem crc_none : crcOf [] = 0#32 := by decide +kernel
theorem crc_go : crcGo (crcOf [[49, 50, 51, 52]]) [53, 54, 55, 56, 57] = 0xCBF43926#32 := by decide +kernel
theorem allB_lit {zs : List Int} (h : zs.all (fun z => decide (0 ≤ z ∧ z ≤ 255)) = true) : AllB zs := by
  intro z hz; simpa using List.all_eq_true.1 h z hz

end Go.Proofs.Ytpojijnjdlnokaa
