/- Layer 7: awake, and the walk of SumParts. -/
import Derived.Test.YtmbcflanifoofaaCrc
import Derived.Test.YtmbcflanifoofaaKitP
import Derived.Lib.SlBytesConst
namespace Go.Proofs.Ytmbcflanifoofaa
open Go.RowKit
set_option linter.unusedVariables false

section
variable {P : Program} {n : Cx} {fr : Fr} {w : World} {ty : TypeId} {x : Operand} {T e : TypeId}
/-- []byte of a constant text -/
theorem os_text {vs : List Value} {l c : Nat} (hT : P.underlying T = some (.slice e)) (he : P.underlying e = some (.int .u8)) (hx : Fr.ev fr x = some (.slice (some ⟨w.heap.size, 0, none⟩) l c)) :
    OS P n (.convert T T x) ty fr (w.alloc (.cells vs.toArray e)) (.slice (some ⟨w.heap.size, 0, none⟩) l c) (w.alloc (.cells vs.toArray e (vs.length, vs.length + 1))) := os_of fun a ha => by
  have := Lib.run_convert_bytes_const (P := P) w T e vs.toArray l c hT he
  simp [execOp, ha.ev hx, this]
end
theorem rd_text (w : World) (zs : List Int) (e : TypeId) (f : Nat × Nat) : Rd (w.alloc (.cells (zs.map (Value.int .u8)).toArray e f)) .u8 (some ⟨w.heap.size, 0, none⟩) zs := fun _ => by
  refine ⟨_, 0, rfl, fun i hi => ?_⟩
  rw [cell_of_row _ w.heap.size (0 + i) (zs.map (Value.int .u8)).toArray e f (heap_alloc_new w _)]
  simp [hi]
theorem below_text (w : World) (o : Obj) : Below w.heap.size w (w.alloc o) := (Below.refl _ w).alloc (Nat.le_refl _) o

/-- a list of lists, written out -/
theorem rds_lit' (w : World) (k : IntKind) (T : TypeId) (hs : List (Option Addr × Nat × Nat × List Int)) (h : ∀ x ∈ hs, Rd w k x.1 x.2.2.2 ∧ x.2.1 = x.2.2.2.length ∧ x.2.1 ≤ x.2.2.1 ∧ x.2.1 ≤ 140737488351232) :
    RdS (w.alloc (.cells (hs.map fun x => Value.slice x.1 x.2.1 x.2.2.1).toArray T)) k (some ⟨w.heap.size, 0, none⟩) (hs.map fun x => x.2.2.2) := fun _ => by
  refine ⟨_, 0, rfl, fun i hi => ?_⟩
  have hi' : i < hs.length := by simpa using hi
  obtain ⟨h1, h0, h2, h3⟩ := h hs[i] (List.getElem_mem _)
  have e1 : (hs.map fun x => x.2.2.2).getD i [] = hs[i].2.2.2 := by simp [hi']
  rw [e1]
  refine ⟨hs[i].1, hs[i].2.2.1, ?_, h1.keep (below_text w _), by omega, by omega⟩
  rw [cell_of_row _ w.heap.size (0 + i) _ T (0, 0) (heap_alloc_new w _)]
  simp [hi', h0]
theorem rds_lit (w : World) (k : IntKind) (T : TypeId) (hs : List (Option Addr × Nat × List Int)) (h : ∀ x ∈ hs, Rd w k x.1 x.2.2 ∧ x.2.2.length ≤ x.2.1 ∧ x.2.2.length ≤ 140737488351232) :
    RdS (w.alloc (.cells (hs.map fun x => Value.slice x.1 x.2.2.length x.2.1).toArray T)) k (some ⟨w.heap.size, 0, none⟩) (hs.map fun x => x.2.2) := by
  have := rds_lit' w k T (hs.map fun x => (x.1, x.2.2.length, x.2.1, x.2.2)) (by
    intro x hx
    obtain ⟨y, hy, rfl⟩ := List.mem_map.1 hx
    obtain ⟨h1, h2, h3⟩ := h y hy
    exact ⟨h1, rfl, h2, h3⟩)
  simpa [Function.comp_def] using this

def text9 : List Int := [49, 50, 51, 52, 53, 54, 55, 56, 57]
theorem crc_text : crcOf [[49, 50, 51, 52, 53, 54, 55, 56, 57]] = 0xCBF43926#32 := by decide +kernel
theorem crc_none : crcOf [] = 0#32 := by decide +kernel
theorem crc_go : crcGo (crcOf [[49, 50, 51, 52]]) [53, 54, 55, 56, 57] = 0xCBF43926#32 := by decide +kernel
theorem allB_lit {zs : List Int} (h : zs.all (fun z => decide (0 ≤ z ∧ z ≤ 255)) = true) : AllB zs := by
  intro z hz; simpa using List.all_eq_true.1 h z hz

theorem law07_awake (w : World) : Gives Try.prog 37 #[] w fun v w' => v = .bool true ∧ Below w.heap.size w w' := by
  refine gives_enter Try.call37 Try.func37 rfl rfl rfl (by kernel_rfl) ?_
  refine v_seq ?_
  refine v_region ?_
  refine vl_val (os_assign rfl) ?_
  refine vl_nil ?_
  refine v_seq ?_
  refine v_region ?_
  refine vl_val (os_lit Try.underlying33 Try.sizeOf5 Try.zeroValue5 rfl rfl rfl rfl (by decide)) ?_
  refine vl_val (os_text (vs := [.int .u8 49, .int .u8 50, .int .u8 51, .int .u8 52, .int .u8 53, .int .u8 54, .int .u8 55, .int .u8 56, .int .u8 57]) Try.underlying33 Try.underlying5 rfl) ?_
  refine vl_val (os_lit Try.underlying34 Try.sizeOf33 Try.zeroValue33 rfl rfl rfl rfl (by decide)) ?_
  refine vl_call (sum_Of _ _ _ [[49, 50, 51, 52, 53, 54, 55, 56, 57]] _ (rds_lit _ .u8 _ [(some ⟨w.heap.size, 0, none⟩, 9, [49, 50, 51, 52, 53, 54, 55, 56, 57])] (by intro x hx; simp at hx; subst hx; exact ⟨rd_text w _ _ _, by simp, by simp⟩)) rfl (by decide) (by intro l hl; simp at hl; subst hl; exact allB_lit rfl)) rfl ?_
  rintro v1 w1 ⟨rfl, hb1⟩
  have hb1w : Below w.heap.size w w1 := (((Below.refl _ w).alloc (Nat.le_refl _) _).alloc (by simp) _).trans (hb1.mono (by simp; omega))
  refine vl_val (os_t (os_eql rfl rfl) (by rw [crc_text]; decide)) ?_
  refine vl_val (os_move rfl) ?_
  refine vl_callg rfl (sum_Of none 0 0 [] _ RdS.nil rfl (by decide) (by simp)) rfl ?_
  rintro v2 w2 ⟨rfl, hb2⟩
  have hb2w := hb1w.trans (hb2.mono hb1w.size)
  refine vl_valg rfl (os_t (os_eql rfl rfl) (by rw [crc_none]; decide)) ?_
  refine vl_val (os_pick_t rfl rfl) ?_
  refine vl_val (os_move rfl) ?_
  refine vl_valg rfl (os_lit Try.underlying33 Try.sizeOf5 Try.zeroValue5 rfl rfl rfl rfl (by decide)) ?_
  refine vl_valg rfl (os_text (vs := [.int .u8 49, .int .u8 50, .int .u8 51, .int .u8 52]) Try.underlying33 Try.underlying5 rfl) ?_
  refine vl_valg rfl (os_lit Try.underlying34 Try.sizeOf33 Try.zeroValue33 rfl rfl rfl rfl (by decide)) ?_
  refine vl_callg rfl (sum_Of _ _ _ [[49, 50, 51, 52]] _ (rds_lit _ .u8 _ [(some ⟨w2.heap.size, 0, none⟩, 4, [49, 50, 51, 52])] (by intro x hx; simp at hx; subst hx; exact ⟨rd_text w2 _ _ _, by simp, by simp⟩)) rfl (by decide) (by intro l hl; simp at hl; subst hl; exact allB_lit rfl)) rfl ?_
  rintro v3 w3 ⟨rfl, hb3⟩
  have hb3w : Below w.heap.size w w3 := ((hb2w.alloc hb2w.size _).alloc (by simp; have := hb2w.size; omega) _).trans (hb3.mono (by simp; have := hb2w.size; omega))
  refine vl_valg rfl (os_lit Try.underlying33 Try.sizeOf5 Try.zeroValue5 rfl rfl rfl rfl (by decide)) ?_
  refine vl_valg rfl (os_text (vs := [.int .u8 53, .int .u8 54, .int .u8 55, .int .u8 56, .int .u8 57]) Try.underlying33 Try.underlying5 rfl) ?_
  refine vl_callg rfl (sum_Go (crcOf [[49, 50, 51, 52]]) _ _ _ [53, 54, 55, 56, 57] _ (rd_text w3 _ _ _) rfl (by decide) (allB_lit rfl)) rfl ?_
  rintro v4 w4 ⟨rfl, hb4⟩
  refine vl_valg rfl (os_eql rfl rfl) ?_
  refine vl_val (os_pick_t rfl rfl) ?_
  refine vl_val (os_assign rfl) ?_
  refine vl_nil ?_
  refine v_ret ?_
  exact post_ret rfl rfl (⟨by rw [crc_go]; rfl, (hb3w.alloc hb3w.size _).trans (hb4.mono (by simp; have := hb3w.size; omega))⟩)
end Go.Proofs.Ytmbcflanifoofaa
