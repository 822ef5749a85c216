/- Texts joined: Gs. -/
import Derived.Test.YtpjmiafefammkaaM6
/- Layer 24: the program's guesser: new, made, whether a report is right, what it says. -/
namespace Go.Proofs.Ytpjmiafefammkaa
open Go.RowKit
set_option linter.unusedVariables false

section
variable {P : Program} {n : Cx} {fr : Fr} {w : World} {ty : TypeId} {x y : Operand} {m : Int} {T e : TypeId} {k : IntKind} {v : Value}
/-- a slice of an array that lies at a block's start -/
theorem os_sliceA_h {g l h : Nat} (hT : P.underlying T = some (.array l e)) (hs : ∀ w, (sizeOf e).run P w = .ok 1 w) (hx : Fr.ev fr x = some (.pointer (some ⟨g, 0, none⟩))) (hy : Fr.ev fr y = some (.int k m)) (hm : m = (h : Int)) (hh : h ≤ l) : OS P n (.slice T x none (some y) none) ty fr w (.slice (some ⟨g, 0, none⟩) h l) w := os_of fun a ha => by
  subst hm
  simp [execOp, ha.ev hx, ha.ev hy, Instr.sliceAt, Instr.slice, run_underlying hT, Instr.sliceBounds, Instr.sliceBound, asIntOf, asAddr, Instr.sureAddr, hs, hh, Addr.add]
theorem os_sliceA_all {g l : Nat} (hT : P.underlying T = some (.array l e)) (hs : ∀ w, (sizeOf e).run P w = .ok 1 w) (hx : Fr.ev fr x = some (.pointer (some ⟨g, 0, none⟩))) : OS P n (.slice T x none none none) ty fr w (.slice (some ⟨g, 0, none⟩) l l) w := os_of fun a ha => by
  simp [execOp, ha.ev hx, Instr.sliceAt, Instr.slice, run_underlying hT, Instr.sliceBounds, Instr.sliceBound, asAddr, Instr.sureAddr, hs, Addr.add]
theorem Bk.at_ {w g cs t} (h : Bk w g cs t) {i : Nat} {v : Value} (hv : cs[i]? = some v) : w.cell? ⟨g, 0 + i, none⟩ = some v := by
  rw [cell_of_row w g (0 + i) cs.toArray t (0, 0) h]
  simpa using hv
end

/-- a guesser's cells: its parts, and its stream, n and last number -/
def mkG (ps : List Int) (st n sq : Int) : List Value := ((ps ++ List.replicate (256 - ps.length) 0).map (Value.int .i64)) ++ [.int .i64 st, .int .i64 n, .int .i64 sq]
theorem mkG_len {ps : List Int} (h : ps.length ≤ 256) (st n sq : Int) : (mkG ps st n sq).length = 259 := by simp [mkG]; omega
theorem mkG_at {ps : List Int} (h : ps.length ≤ 256) (st n sq : Int) : (mkG ps st n sq)[256]? = some (.int .i64 st) ∧ (mkG ps st n sq)[257]? = some (.int .i64 n) ∧ (mkG ps st n sq)[258]? = some (.int .i64 sq) := by
  have e : ((ps ++ List.replicate (256 - ps.length) 0).map (Value.int .i64)).length = 256 := by simp; omega
  refine ⟨?_, ?_, ?_⟩
  · unfold mkG; rw [List.getElem?_append_right (by omega), e]; rfl
  · unfold mkG; rw [List.getElem?_append_right (by omega), e]; rfl
  · unfold mkG; rw [List.getElem?_append_right (by omega), e]; rfl
theorem mkG_take {ps : List Int} (h : ps.length ≤ 256) (st n sq : Int) : (mkG ps st n sq).take ps.length = ps.map (Value.int .i64) := by
  unfold mkG
  rw [List.take_append_of_le_length (by simp), List.map_append, List.take_append_of_le_length (by simp), List.take_of_length_le (by simp)]
theorem mkG_copy {ps hs : List Int} (h : ps.length ≤ 256) (hl : hs.length = ps.length) (st n sq : Int) : (mkG ps st n sq).take 0 ++ hs.map (Value.int .i64) ++ (mkG ps st n sq).drop (0 + hs.length) = mkG hs st n sq := by
  unfold mkG
  rw [List.take_zero, List.nil_append, Nat.zero_add, List.drop_append_of_le_length (by simp; omega), ← List.map_drop, List.drop_append_of_le_length (by omega), List.drop_of_length_le (by omega), List.nil_append, hl, List.map_append, List.append_assoc]
theorem mkG_sq {ps : List Int} (h : ps.length ≤ 256) (st n sq q : Int) : (mkG ps st n sq).set 258 (.int .i64 q) = mkG ps st n q := by
  have e : ((ps ++ List.replicate (256 - ps.length) 0).map (Value.int .i64)).length = 256 := by simp; omega
  unfold mkG
  rw [List.set_append_right _ _ (by omega), e]
  rfl
/-- a guesser that was made -/
structure GS (w : World) (g : Nat) (ps : List Int) (st n sq : Int) : Prop where
  bk : Bk w g (mkG ps st n sq) 54
  len : (ps.length : Int) = n + 1
  n : 1 ≤ n ∧ n ≤ 255
  row : rowB ps = true
theorem GS.le {w g ps st n sq} (h : GS w g ps st n sq) : ps.length ≤ 256 := by have := h.len; have := h.n; omega
theorem GS.keep {w w' g ps st n sq} (h : GS w g ps st n sq) (hb : Below w.heap.size w w') : GS w' g ps st n sq := ⟨h.bk.keep hb, h.len, h.n, h.row⟩
theorem GS.led {w w' g ps st n sq} (h : GS w g ps st n sq) (hb : LeD w w') : GS w' g ps st n sq := ⟨h.bk.led hb, h.len, h.n, h.row⟩
theorem GS.st {w g ps st n sq} (h : GS w g ps st n sq) : w.cell? ⟨g, 0 + 256, none⟩ = some (.int .i64 st) := h.bk.at_ (mkG_at h.le st n sq).1
theorem GS.cn {w g ps st n sq} (h : GS w g ps st n sq) : w.cell? ⟨g, 0 + 257, none⟩ = some (.int .i64 n) := h.bk.at_ (mkG_at h.le st n sq).2.1
theorem GS.sq {w g ps st n sq} (h : GS w g ps st n sq) : w.cell? ⟨g, 0 + 258, none⟩ = some (.int .i64 sq) := h.bk.at_ (mkG_at h.le st n sq).2.2
theorem GS.rd {w g ps st n sq} (h : GS w g ps st n sq) : Rd w .i64 (some ⟨g, 0, none⟩) ps := by
  have := (h.bk.rdc).take ps.length
  rw [mkG_take h.le] at this
  exact this.toRd

def newP (n : Int) : List Int := List.replicate n.toNat 0 ++ [65536]
theorem newP_mk {n : Int} (h : 1 ≤ n ∧ n ≤ 255) (st : Int) : (mkG [] st n 0).set n.toNat (Value.int .i64 65536) = mkG (newP n) st n 0 := by
  obtain ⟨M, hM⟩ : ∃ M, M = 256 := ⟨_, rfl⟩
  have hn : n.toNat < M := by omega
  unfold mkG newP
  rw [← hM, List.nil_append, List.set_append_left _ _ (by simpa using hn)]
  congr 1
  apply List.ext_getElem
  · simp; omega
  · intro i h1 h2
    simp only [List.length_set, List.length_map, List.length_replicate, List.length_nil, Nat.sub_zero] at h1
    rw [List.getElem_set]
    simp only [List.getElem_map]
    by_cases hi : n.toNat = i
    · subst hi
      rw [if_pos rfl]
      simp [List.getElem_append]
    · rw [if_neg hi]
      simp only [List.getElem_replicate, List.getElem_append, List.length_append, List.length_replicate, List.length_singleton]
      split
      · split
        · rfl
        · rename_i h3 h4; omega
      · rfl
theorem mkG_zero {i : Nat} (h : i < 256) (st n sq : Int) : (mkG [] st n sq)[i]? = some (Value.int .i64 0) := by
  obtain ⟨M, hM⟩ : ∃ M, M = 256 := ⟨_, rfl⟩
  unfold mkG
  have hi : i < M := by omega
  rw [← hM, List.nil_append, List.getElem?_append_left (by simpa using hi)]
  simp [hi]
theorem newP_row {n : Int} (h : 1 ≤ n ∧ n ≤ 255) : rowB (newP n) = true := by
  refine rowB_mk (by simp [newP]) (by simp [newP]; omega) fun k hk => ?_
  rw [List.getElem?_eq_getElem hk]
  have hm : (newP n)[k] ∈ newP n := List.getElem_mem _
  rcases List.mem_append.1 hm with h1 | h1
  · rw [show ((some (newP n)[k]).getD 0 : Int) = (newP n)[k] from rfl, (List.mem_replicate.1 h1).2]; decide
  · rw [show ((some (newP n)[k]).getD 0 : Int) = (newP n)[k] from rfl, List.mem_singleton.1 h1]; decide
def newOk (st n : Int) : Bool := decide (0 ≤ st ∧ st ≤ 65535 ∧ 1 ≤ n ∧ n ≤ 255)
theorem u64_bigG {z : Int} (h : I64 z) (hz : z < 0 ∨ 65535 < z) : 65535 < IntKind.u64.wrap z := by
  have h1 := h.1
  have h2 := h.2
  simp only [IntKind.wrap, IntKind.signed, IntKind.bits]
  simp
  omega
set_option maxHeartbeats 1000000 in
theorem guess_New (st n : Int) (w : World) (hs : I64 st) (hn : I64 n) : Gives Try.prog 16 #[.int .i64 st, .int .i64 n] w fun v w' => Below w.heap.size w w' ∧ ((newOk st n = false ∧ v = .tuple #[.pointer none, .int .i64 2]) ∨ (newOk st n = true ∧ v = .tuple #[.pointer (some ⟨w.heap.size, 0, none⟩), .int .i64 0] ∧ GS w' w.heap.size (newP n) st n 0)) := by
  obtain ⟨s1, s2⟩ := hs
  obtain ⟨n1, n2⟩ := hn
  refine gives_enter Try.call16 Try.func16 rfl rfl rfl (by kernel_rfl) ?_
  rcases (by omega : (st < 0 ∨ 65535 < st) ∨ (0 ≤ st ∧ st ≤ 65535 ∧ n ≤ 0) ∨ (0 ≤ st ∧ st ≤ 65535 ∧ 255 < n) ∨ (0 ≤ st ∧ st ≤ 65535 ∧ 1 ≤ n ∧ n ≤ 255)) with h | ⟨h, h2, h3⟩ | ⟨h, h2, h3⟩ | ⟨h, h2, h3, h4⟩
  · refine v_seq ?_
    refine v_region ?_
    refine vl_val (os_assign rfl) ?_
    refine vl_val (os_assign rfl) ?_
    refine vl_nil ?_
    refine v_seq ?_
    refine v_seq ?_
    refine v_region ?_
    refine vl_val (os_move rfl) ?_
    refine vl_val (os_conv Try.underlying3 Try.underlying86 rfl rfl) ?_
    refine vl_val (os_t (os_gtr rfl rfl) (u64_bigG ⟨s1, s2⟩ h)) ?_
    refine vl_val (os_move rfl) ?_
    refine vl_skip rfl rfl ?_
    refine vl_skip rfl rfl ?_
    refine vl_val (os_pick_t rfl rfl) ?_
    refine vl_val (os_move rfl) ?_
    refine vl_skip rfl rfl ?_
    refine vl_skip rfl rfl ?_
    refine vl_val (os_pick_t rfl rfl) ?_
    refine vl_nil ?_
    refine v_cond_t rfl ?_
    refine v_seq ?_
    refine v_region ?_
    refine vl_val (os_assign rfl) ?_
    refine vl_val (os_assign rfl) ?_
    refine vl_nil ?_
    refine v_ret ?_
    exact post_ret2 rfl rfl rfl (⟨Below.refl _ _, .inl ⟨by simp [newOk]; omega, rfl⟩⟩)
  · refine v_seq ?_
    refine v_region ?_
    refine vl_val (os_assign rfl) ?_
    refine vl_val (os_assign rfl) ?_
    refine vl_nil ?_
    refine v_seq ?_
    refine v_seq ?_
    refine v_region ?_
    refine vl_val (os_move rfl) ?_
    refine vl_val (os_conv Try.underlying3 Try.underlying86 (r := st) rfl (by simp [IntKind.wrap, IntKind.signed, IntKind.bits]; omega)) ?_
    refine vl_val (os_f (os_gtr rfl rfl) (by omega)) ?_
    refine vl_val (os_move rfl) ?_
    refine vl_valg rfl (os_move rfl) ?_
    refine vl_valg rfl (os_t (os_leq rfl rfl) (by omega)) ?_
    refine vl_val (os_pick_f rfl rfl) ?_
    refine vl_val (os_move rfl) ?_
    refine vl_skip rfl rfl ?_
    refine vl_skip rfl rfl ?_
    refine vl_val (os_pick_t rfl rfl) ?_
    refine vl_nil ?_
    refine v_cond_t rfl ?_
    refine v_seq ?_
    refine v_region ?_
    refine vl_val (os_assign rfl) ?_
    refine vl_val (os_assign rfl) ?_
    refine vl_nil ?_
    refine v_ret ?_
    exact post_ret2 rfl rfl rfl (⟨Below.refl _ _, .inl ⟨by simp [newOk]; omega, rfl⟩⟩)
  · refine v_seq ?_
    refine v_region ?_
    refine vl_val (os_assign rfl) ?_
    refine vl_val (os_assign rfl) ?_
    refine vl_nil ?_
    refine v_seq ?_
    refine v_seq ?_
    refine v_region ?_
    refine vl_val (os_move rfl) ?_
    refine vl_val (os_conv Try.underlying3 Try.underlying86 (r := st) rfl (by simp [IntKind.wrap, IntKind.signed, IntKind.bits]; omega)) ?_
    refine vl_val (os_f (os_gtr rfl rfl) (by omega)) ?_
    refine vl_val (os_move rfl) ?_
    refine vl_valg rfl (os_move rfl) ?_
    refine vl_valg rfl (os_f (os_leq rfl rfl) (by omega)) ?_
    refine vl_val (os_pick_f rfl rfl) ?_
    refine vl_val (os_move rfl) ?_
    refine vl_valg rfl (os_move rfl) ?_
    refine vl_valg rfl (os_gtr rfl rfl) ?_
    refine vl_val (os_pick_f rfl rfl) ?_
    refine vl_nil ?_
    refine v_cond_yes rfl (by omega) ?_
    refine v_seq ?_
    refine v_region ?_
    refine vl_val (os_assign rfl) ?_
    refine vl_val (os_assign rfl) ?_
    refine vl_nil ?_
    refine v_ret ?_
    exact post_ret2 rfl rfl rfl (⟨Below.refl _ _, .inl ⟨by simp [newOk]; omega, rfl⟩⟩)
  · refine v_seq ?_
    refine v_region ?_
    refine vl_val (os_assign rfl) ?_
    refine vl_val (os_assign rfl) ?_
    refine vl_nil ?_
    refine v_seq ?_
    refine v_seq ?_
    refine v_region ?_
    refine vl_val (os_move rfl) ?_
    refine vl_val (os_conv Try.underlying3 Try.underlying86 (r := st) rfl (by simp [IntKind.wrap, IntKind.signed, IntKind.bits]; omega)) ?_
    refine vl_val (os_f (os_gtr rfl rfl) (by omega)) ?_
    refine vl_val (os_move rfl) ?_
    refine vl_valg rfl (os_move rfl) ?_
    refine vl_valg rfl (os_f (os_leq rfl rfl) (by omega)) ?_
    refine vl_val (os_pick_f rfl rfl) ?_
    refine vl_val (os_move rfl) ?_
    refine vl_valg rfl (os_move rfl) ?_
    refine vl_valg rfl (os_gtr rfl rfl) ?_
    refine vl_val (os_pick_f rfl rfl) ?_
    refine vl_nil ?_
    refine v_cond_no rfl (by omega) ?_
    refine v_skip ?_
    refine v_seq ?_
    refine v_region ?_
    refine vl_val (os_move rfl) ?_
    refine vl_val (os_move rfl) ?_
    refine vl_val (os_build (cs := mkG [] st n 0) rfl (by kernel_rfl)) ?_
    have hB := bk_new w (mkG [] st n 0) 54
    have hc := mkG_zero (i := n.toNat) (by omega) st n 0
    refine vl_val (os_box rfl) ?_
    refine vl_val (os_assign rfl) ?_
    refine vl_nil ?_
    refine v_seq ?_
    refine v_region ?_
    refine vl_val (os_move rfl) ?_
    refine vl_val (os_move rfl) ?_
    refine vl_val (os_nilCheck rfl) ?_
    refine vl_val (os_fa (o := 0) (k := 255) (by kernel_rfl) rfl) ?_
    refine vl_val (os_ixa Try.underlying52 Try.sizeOf3 rfl rfl (i := n.toNat) (by omega) (by omega)) ?_
    refine vl_unit (ou_store Try.sizeOf3 rfl rfl rfl (hB.at_ hc) (hB.free _)) ?_
    have hB2 := hB.set n.toNat (.int .i64 65536)
    rw [newP_mk ⟨h3, h4⟩] at hB2
    have b1 : Below w.heap.size w (w.alloc (.cells (mkG [] st n 0).toArray 54)) := (Below.refl _ w).alloc (Nat.le_refl _) _
    refine vl_nil ?_
    refine v_seq ?_
    refine v_region ?_
    refine vl_val (os_move rfl) ?_
    refine vl_val (os_assign rfl) ?_
    refine vl_val (os_assign rfl) ?_
    refine vl_nil ?_
    refine v_ret ?_
    exact post_ret2 rfl rfl rfl (⟨below_set b1 (Nat.le_refl _) _ _, .inr ⟨by simp [newOk]; omega, rfl, hB2, by simp [newP]; omega, ⟨h3, h4⟩, newP_row ⟨h3, h4⟩⟩⟩)
theorem guess_made {g : Nat} {ps : List Int} {st n sq : Int} {w : World} (h : GS w g ps st n sq) : Gives Try.prog 58 #[.pointer (some ⟨g, 0, none⟩)] w fun v w' => v = .bool true ∧ w' = w := by
  have hn := h.n
  refine gives_enter Try.call58 Try.func58 rfl rfl rfl (by kernel_rfl) ?_
  refine v_seq ?_
  refine v_region ?_
  refine vl_val (os_assign rfl) ?_
  refine vl_nil ?_
  refine v_seq ?_
  refine v_region ?_
  refine vl_val (os_move rfl) ?_
  refine vl_val (os_is (os_neqnil (by kernel_rfl) rfl rfl) (rfl)) ?_
  refine vl_val (os_move rfl) ?_
  refine vl_valg rfl (os_move rfl) ?_
  refine vl_valg rfl (os_nilCheck rfl) ?_
  refine vl_valg rfl (os_fa (o := 257) (k := 0) (by kernel_rfl) rfl) ?_
  refine vl_valg rfl (os_load Try.isAgg3 rfl (h.cn)) ?_
  refine vl_valg rfl (os_gtr rfl rfl) ?_
  refine vl_val (os_pick_t rfl rfl) ?_
  refine vl_val (os_assign rfl) ?_
  refine vl_nil ?_
  refine v_ret ?_
  exact post_ret rfl rfl (⟨by simp; omega, rfl⟩)
theorem guess_within (a b c : Int) (w : World) : Gives Try.prog 56 #[.int .i64 a, .int .i64 b, .int .i64 c] w fun v w' => v = .bool (inB a b c) ∧ w' = w := by
  refine gives_enter Try.call56 Try.func56 rfl rfl rfl (by kernel_rfl) ?_
  by_cases h : b ≤ a
  · refine v_seq ?_
    refine v_region ?_
    refine vl_val (os_assign rfl) ?_
    refine vl_nil ?_
    refine v_seq ?_
    refine v_region ?_
    refine vl_val (os_move rfl) ?_
    refine vl_val (os_move rfl) ?_
    refine vl_val (os_t (os_geq rfl rfl) (by omega)) ?_
    refine vl_val (os_move rfl) ?_
    refine vl_valg rfl (os_move rfl) ?_
    refine vl_valg rfl (os_move rfl) ?_
    refine vl_valg rfl (os_leq rfl rfl) ?_
    refine vl_val (os_pick_t rfl rfl) ?_
    refine vl_val (os_assign rfl) ?_
    refine vl_nil ?_
    refine v_ret ?_
    exact post_ret rfl rfl (⟨by simp [inB, h], rfl⟩)
  · refine v_seq ?_
    refine v_region ?_
    refine vl_val (os_assign rfl) ?_
    refine vl_nil ?_
    refine v_seq ?_
    refine v_region ?_
    refine vl_val (os_move rfl) ?_
    refine vl_val (os_move rfl) ?_
    refine vl_val (os_f (os_geq rfl rfl) (by omega)) ?_
    refine vl_val (os_move rfl) ?_
    refine vl_skip rfl rfl ?_
    refine vl_skip rfl rfl ?_
    refine vl_skip rfl rfl ?_
    refine vl_val (os_pick_f rfl rfl) ?_
    refine vl_val (os_assign rfl) ?_
    refine vl_nil ?_
    refine v_ret ?_
    exact post_ret rfl rfl (⟨by simp [inB, h], rfl⟩)
theorem inB_no {a b c : Int} (h : c < a) : inB a b c = false := by simp [inB]; omega
set_option maxHeartbeats 2000000 in
theorem guess_Right (d : NoteV) (w : World) (hd : NoteOk w d) : Gives Try.prog 18 #[.agg d.cells.toArray] w fun v w' => v = .bool (rightN d) ∧ Below w.heap.size w w' := by
  have hl := hd.2.1
  have hl9 := hd.2.2.1
  have hB0 := bk_new w d.cells 35
  have hb0 : Below w.heap.size w (w.alloc (.cells d.cells.toArray 35)) := (Below.refl _ w).alloc (Nat.le_refl _) _
  by_cases hn : d.n ≤ 255
  · skip
    refine gives_enter Try.call18 Try.func18 rfl rfl rfl (by kernel_rfl) ?_
    refine v_seq ?_
    refine v_region ?_
    refine vl_val (os_box rfl) ?_
    refine vl_val (os_assign rfl) ?_
    refine vl_nil ?_
    refine v_seq ?_
    refine v_region ?_
    refine vl_val (os_assign rfl) ?_
    refine vl_nil ?_
    refine v_seq ?_
    refine v_seq ?_
    refine v_region ?_
    refine vl_val (os_fa (o := 3) (k := 0) (by kernel_rfl) rfl) ?_
    refine vl_val (os_load Try.isAgg33 rfl (hB0.cell rfl)) ?_
    refine vl_val (os_len Try.underlying33 rfl) ?_
    refine vl_val (os_move rfl) ?_
    refine vl_nil ?_
    refine v_block ?_
    refine v_loop2 [(1, _), (7, _), (8, _)] (fun (i : Nat) (z : Int) => [(3, .int .i64 z), (9, .int .i64 i)]) (fun i z w' => i ≤ d.l ∧ 0 ≤ z ∧ z ≤ 255 ∧ cntOk d.n 0 d.cs = cntOk d.n z (d.cs.drop i) ∧ LeG (w.alloc (.cells d.cells.toArray 35)) w') (fun i z => d.l - i) (0) (0) ⟨rfl, rfl, rfl, trivial⟩ ⟨rfl, rfl, trivial⟩ (⟨by omega, by omega, by omega, rfl, lee_g.refl _⟩) ?_
    rintro i z w1 ⟨hi, hz1, hz2, hg, b1⟩
    refine v_seq ?_
    refine v_region ?_
    refine vl_val (os_lss rfl rfl) ?_
    refine vl_nil ?_
    refine v_seq ?_
    refine v_cond_d rfl (fun h => ?_) (fun h => ?_)
    · obtain ⟨b, o, eA, q1, q2, q3⟩ := (show RdP w1 2 d.A (d.cs.map rowC) from (hd.keep hb0).1.keep b1).at2 (i := i) (by omega)
      rw [eA]
      have hst := cnt_step (n := d.n) (cs := d.cs) (i := i) (last := z) (by omega)
      refine v_skip ?_
      refine v_seq ?_
      refine v_block ?_
      refine v_seq ?_
      refine v_region ?_
      refine vl_val (os_ixs Try.underlying33 Try.sizeOf49 rfl rfl (i := i) (by omega) (by omega)) ?_
      refine vl_val (os_loadP Try.underlying49 rfl (by kernel_rfl) rfl q3) ?_
      refine vl_val (os_allocB Try.zeroValue49 (zc := _) (cs := [.int .i64 0, .int .i64 0]) rfl) ?_
      have hC0 := bk_new w1 [.int .i64 0, .int .i64 0] 49
      have b2 := Below.alloc b1 (Below.size b1) (.cells [Value.int .i64 0, .int .i64 0].toArray 49)
      refine vl_unit (ou_storeB (by kernel_rfl) rfl rfl hC0 rfl rfl) ?_
      have hC := setRow_bk hC0 (rowC (d.cs.getD i (0, 0)))
      have b3 := below_setRow b2 (Below.size b1) (rowC (d.cs.getD i (0, 0))).toArray
      have hD := hB0.keep b3
      refine vl_nil ?_
      cases c1 : inB (d.cs.getD i (0, 0)).1 (z + 1) d.n
      · refine v_seq ?_
        refine v_seq ?_
        refine v_region ?_
        refine vl_val (os_fa (o := 0) (k := 0) (by kernel_rfl) rfl) ?_
        refine vl_val (os_load Try.isAgg3 rfl (hC.cell rfl)) ?_
        refine vl_val (os_move rfl) ?_
        refine vl_val (os_addi rfl rfl (by omega)) ?_
        refine vl_val (os_fa (o := 2) (k := 0) (by kernel_rfl) rfl) ?_
        refine vl_val (os_load Try.isAgg3 rfl (hD.cell rfl)) ?_
        refine vl_call (gives_bool (guess_within (d.cs.getD i (0, 0)).1 (z + 1) d.n _) c1) rfl ?_
        rintro v4 w4 ⟨rfl, rfl⟩
        refine vl_val (os_not rfl) ?_
        refine vl_val (os_move rfl) ?_
        refine vl_skip rfl rfl ?_
        refine vl_skip rfl rfl ?_
        refine vl_skip rfl rfl ?_
        refine vl_skip rfl rfl ?_
        refine vl_val (os_pick_t rfl rfl) ?_
        refine vl_nil ?_
        refine v_cond_t rfl ?_
        refine v_seq ?_
        refine v_region ?_
        refine vl_val (os_assign rfl) ?_
        refine vl_nil ?_
        refine v_ret ?_
        exact post_ret rfl rfl (⟨by rw [show rightN d = false by unfold rightN; rw [hg, hst, c1]; rfl], hb0.trans (b3.mono hb0.size)⟩)
      · cases c2 : inB (d.cs.getD i (0, 0)).2 1 65535
        · refine v_seq ?_
          refine v_seq ?_
          refine v_region ?_
          refine vl_val (os_fa (o := 0) (k := 0) (by kernel_rfl) rfl) ?_
          refine vl_val (os_load Try.isAgg3 rfl (hC.cell rfl)) ?_
          refine vl_val (os_move rfl) ?_
          refine vl_val (os_addi rfl rfl (by omega)) ?_
          refine vl_val (os_fa (o := 2) (k := 0) (by kernel_rfl) rfl) ?_
          refine vl_val (os_load Try.isAgg3 rfl (hD.cell rfl)) ?_
          refine vl_call (gives_bool (guess_within (d.cs.getD i (0, 0)).1 (z + 1) d.n _) c1) rfl ?_
          rintro v4 w4 ⟨rfl, rfl⟩
          refine vl_val (os_not rfl) ?_
          refine vl_val (os_move rfl) ?_
          refine vl_valg rfl (os_fa (o := 1) (k := 0) (by kernel_rfl) rfl) ?_
          refine vl_valg rfl (os_load Try.isAgg3 rfl (hC.cell rfl)) ?_
          refine vl_callg rfl (gives_bool (guess_within (d.cs.getD i (0, 0)).2 1 65535 _) c2) rfl ?_
          rintro v5 w5 ⟨rfl, rfl⟩
          refine vl_valg rfl (os_not rfl) ?_
          refine vl_val (os_pick_f rfl rfl) ?_
          refine vl_nil ?_
          refine v_cond_t rfl ?_
          refine v_seq ?_
          refine v_region ?_
          refine vl_val (os_assign rfl) ?_
          refine vl_nil ?_
          refine v_ret ?_
          exact post_ret rfl rfl (⟨by rw [show rightN d = false by unfold rightN; rw [hg, hst, c1, c2]; rfl], hb0.trans (b3.mono hb0.size)⟩)
        · refine v_seq ?_
          refine v_seq ?_
          refine v_region ?_
          refine vl_val (os_fa (o := 0) (k := 0) (by kernel_rfl) rfl) ?_
          refine vl_val (os_load Try.isAgg3 rfl (hC.cell rfl)) ?_
          refine vl_val (os_move rfl) ?_
          refine vl_val (os_addi rfl rfl (by omega)) ?_
          refine vl_val (os_fa (o := 2) (k := 0) (by kernel_rfl) rfl) ?_
          refine vl_val (os_load Try.isAgg3 rfl (hD.cell rfl)) ?_
          refine vl_call (gives_bool (guess_within (d.cs.getD i (0, 0)).1 (z + 1) d.n _) c1) rfl ?_
          rintro v4 w4 ⟨rfl, rfl⟩
          refine vl_val (os_not rfl) ?_
          refine vl_val (os_move rfl) ?_
          refine vl_valg rfl (os_fa (o := 1) (k := 0) (by kernel_rfl) rfl) ?_
          refine vl_valg rfl (os_load Try.isAgg3 rfl (hC.cell rfl)) ?_
          refine vl_callg rfl (gives_bool (guess_within (d.cs.getD i (0, 0)).2 1 65535 _) c2) rfl ?_
          rintro v5 w5 ⟨rfl, rfl⟩
          refine vl_valg rfl (os_not rfl) ?_
          refine vl_val (os_pick_f rfl rfl) ?_
          refine vl_nil ?_
          refine v_cond_f rfl ?_
          refine v_skip ?_
          refine v_region ?_
          refine vl_val (os_fa (o := 0) (k := 0) (by kernel_rfl) rfl) ?_
          refine vl_val (os_load Try.isAgg3 rfl (hC.cell rfl)) ?_
          refine vl_val (os_assign rfl) ?_
          refine vl_nil ?_
          refine v_region ?_
          refine vl_val (os_addi rfl rfl (by omega)) ?_
          refine vl_val (os_move rfl) ?_
          refine vl_nil ?_
          exact ⟨⟨i + 1, (d.cs.getD i (0, 0)).1⟩, ⟨rfl, rfl, rfl, trivial⟩, ⟨rfl, rfl, trivial⟩, ⟨by (try dsimp only); omega, by have := inB_iff.1 c1; (try dsimp only); omega, by have := inB_iff.1 c1; (try dsimp only); omega, by (try dsimp only); rw [hg, hst, c1, c2]; rfl, b3⟩, by dsimp only; omega⟩
    · obtain hli : d.l = i := by omega
      have hcn : cntOk d.n 0 d.cs = true := by rw [hg, List.drop_of_length_le (by omega)]; rfl
      have hD := hB0.keep b1
      cases c1 : inB d.st 0 65535
      · refine v_exit ?_
        refine v_seq ?_
        refine v_region ?_
        refine vl_val (os_fa (o := 0) (k := 0) (by kernel_rfl) rfl) ?_
        refine vl_val (os_load Try.isAgg3 rfl (hD.cell rfl)) ?_
        refine vl_call (gives_bool (guess_within d.st 0 65535 _) c1) rfl ?_
        rintro v4 w4 ⟨rfl, rfl⟩
        refine vl_val (os_move rfl) ?_
        refine vl_skip rfl rfl ?_
        refine vl_skip rfl rfl ?_
        refine vl_skip rfl rfl ?_
        refine vl_val (os_pick_f rfl rfl) ?_
        refine vl_val (os_move rfl) ?_
        refine vl_skip rfl rfl ?_
        refine vl_skip rfl rfl ?_
        refine vl_skip rfl rfl ?_
        refine vl_val (os_pick_f rfl rfl) ?_
        refine vl_val (os_assign rfl) ?_
        refine vl_nil ?_
        refine v_ret ?_
        exact post_ret rfl rfl (⟨by simp [rightN, c1], hb0.trans (Below.mono b1 hb0.size)⟩)
      · cases c2 : inB d.sq 1 2147483647
        · refine v_exit ?_
          refine v_seq ?_
          refine v_region ?_
          refine vl_val (os_fa (o := 0) (k := 0) (by kernel_rfl) rfl) ?_
          refine vl_val (os_load Try.isAgg3 rfl (hD.cell rfl)) ?_
          refine vl_call (gives_bool (guess_within d.st 0 65535 _) c1) rfl ?_
          rintro v4 w4 ⟨rfl, rfl⟩
          refine vl_val (os_move rfl) ?_
          refine vl_valg rfl (os_fa (o := 1) (k := 0) (by kernel_rfl) rfl) ?_
          refine vl_valg rfl (os_load Try.isAgg3 rfl (hD.cell rfl)) ?_
          refine vl_callg rfl (gives_bool (guess_within d.sq 1 2147483647 _) c2) rfl ?_
          rintro v5 w5 ⟨rfl, rfl⟩
          refine vl_val (os_pick_t rfl rfl) ?_
          refine vl_val (os_move rfl) ?_
          refine vl_skip rfl rfl ?_
          refine vl_skip rfl rfl ?_
          refine vl_skip rfl rfl ?_
          refine vl_val (os_pick_f rfl rfl) ?_
          refine vl_val (os_assign rfl) ?_
          refine vl_nil ?_
          refine v_ret ?_
          exact post_ret rfl rfl (⟨by simp [rightN, c2], hb0.trans (Below.mono b1 hb0.size)⟩)
        · refine v_exit ?_
          refine v_seq ?_
          refine v_region ?_
          refine vl_val (os_fa (o := 0) (k := 0) (by kernel_rfl) rfl) ?_
          refine vl_val (os_load Try.isAgg3 rfl (hD.cell rfl)) ?_
          refine vl_call (gives_bool (guess_within d.st 0 65535 _) c1) rfl ?_
          rintro v4 w4 ⟨rfl, rfl⟩
          refine vl_val (os_move rfl) ?_
          refine vl_valg rfl (os_fa (o := 1) (k := 0) (by kernel_rfl) rfl) ?_
          refine vl_valg rfl (os_load Try.isAgg3 rfl (hD.cell rfl)) ?_
          refine vl_callg rfl (gives_bool (guess_within d.sq 1 2147483647 _) c2) rfl ?_
          rintro v5 w5 ⟨rfl, rfl⟩
          refine vl_val (os_pick_t rfl rfl) ?_
          refine vl_val (os_move rfl) ?_
          refine vl_valg rfl (os_fa (o := 2) (k := 0) (by kernel_rfl) rfl) ?_
          refine vl_valg rfl (os_load Try.isAgg3 rfl (hD.cell rfl)) ?_
          refine vl_callg rfl (guess_within d.n 1 255 _) rfl ?_
          rintro v6 w6 ⟨rfl, rfl⟩
          refine vl_val (os_pick_t rfl rfl) ?_
          refine vl_val (os_assign rfl) ?_
          refine vl_nil ?_
          refine v_ret ?_
          exact post_ret rfl rfl (⟨by simp [rightN, c1, c2, hcn], hb0.trans (Below.mono b1 hb0.size)⟩)
  · have hno : inB d.n 1 255 = false := inB_no (by omega)
    have hbad : rightN d = false := by simp [rightN, hno]
    refine gives_enter Try.call18 Try.func18 rfl rfl rfl (by kernel_rfl) ?_
    refine v_seq ?_
    refine v_region ?_
    refine vl_val (os_box rfl) ?_
    refine vl_val (os_assign rfl) ?_
    refine vl_nil ?_
    refine v_seq ?_
    refine v_region ?_
    refine vl_val (os_assign rfl) ?_
    refine vl_nil ?_
    refine v_seq ?_
    refine v_seq ?_
    refine v_region ?_
    refine vl_val (os_fa (o := 3) (k := 0) (by kernel_rfl) rfl) ?_
    refine vl_val (os_load Try.isAgg33 rfl (hB0.cell rfl)) ?_
    refine vl_val (os_len Try.underlying33 rfl) ?_
    refine vl_val (os_move rfl) ?_
    refine vl_nil ?_
    refine v_block ?_
    refine v_loop2 [(1, _), (7, _), (8, _)] (fun (i : Nat) (z : Int) => [(3, .int .i64 z), (9, .int .i64 i)]) (fun i z w' => i ≤ d.l ∧ True ∧ LeG (w.alloc (.cells d.cells.toArray 35)) w') (fun i z => d.l - i) (0) (0) ⟨rfl, rfl, rfl, trivial⟩ ⟨rfl, rfl, trivial⟩ (⟨by omega, trivial, lee_g.refl _⟩) ?_
    rintro i z w1 ⟨hi, -, b1⟩
    refine v_seq ?_
    refine v_region ?_
    refine vl_val (os_lss rfl rfl) ?_
    refine vl_nil ?_
    refine v_seq ?_
    refine v_cond_d rfl (fun h => ?_) (fun h => ?_)
    · obtain ⟨b, o, eA, q1, q2, q3⟩ := (show RdP w1 2 d.A (d.cs.map rowC) from (hd.keep hb0).1.keep b1).at2 (i := i) (by omega)
      rw [eA]
      refine v_skip ?_
      refine v_seq ?_
      refine v_block ?_
      refine v_seq ?_
      refine v_region ?_
      refine vl_val (os_ixs Try.underlying33 Try.sizeOf49 rfl rfl (i := i) (by omega) (by omega)) ?_
      refine vl_val (os_loadP Try.underlying49 rfl (by kernel_rfl) rfl q3) ?_
      refine vl_val (os_allocB Try.zeroValue49 (zc := _) (cs := [.int .i64 0, .int .i64 0]) rfl) ?_
      have hC0 := bk_new w1 [.int .i64 0, .int .i64 0] 49
      have b2 := Below.alloc b1 (Below.size b1) (.cells [Value.int .i64 0, .int .i64 0].toArray 49)
      refine vl_unit (ou_storeB (by kernel_rfl) rfl rfl hC0 rfl rfl) ?_
      have hC := setRow_bk hC0 (rowC (d.cs.getD i (0, 0)))
      have b3 := below_setRow b2 (Below.size b1) (rowC (d.cs.getD i (0, 0))).toArray
      have hD := hB0.keep b3
      refine vl_nil ?_
      cases c1 : inB (d.cs.getD i (0, 0)).1 (IntKind.i64.wrap (z + 1)) d.n
      · refine v_seq ?_
        refine v_seq ?_
        refine v_region ?_
        refine vl_val (os_fa (o := 0) (k := 0) (by kernel_rfl) rfl) ?_
        refine vl_val (os_load Try.isAgg3 rfl (hC.cell rfl)) ?_
        refine vl_val (os_move rfl) ?_
        refine vl_val (os_add rfl rfl (rfl)) ?_
        refine vl_val (os_fa (o := 2) (k := 0) (by kernel_rfl) rfl) ?_
        refine vl_val (os_load Try.isAgg3 rfl (hD.cell rfl)) ?_
        refine vl_call (gives_bool (guess_within (d.cs.getD i (0, 0)).1 (IntKind.i64.wrap (z + 1)) d.n _) c1) rfl ?_
        rintro v4 w4 ⟨rfl, rfl⟩
        refine vl_val (os_not rfl) ?_
        refine vl_val (os_move rfl) ?_
        refine vl_skip rfl rfl ?_
        refine vl_skip rfl rfl ?_
        refine vl_skip rfl rfl ?_
        refine vl_skip rfl rfl ?_
        refine vl_val (os_pick_t rfl rfl) ?_
        refine vl_nil ?_
        refine v_cond_t rfl ?_
        refine v_seq ?_
        refine v_region ?_
        refine vl_val (os_assign rfl) ?_
        refine vl_nil ?_
        refine v_ret ?_
        exact post_ret rfl rfl (⟨by rw [hbad], hb0.trans (b3.mono hb0.size)⟩)
      · cases c2 : inB (d.cs.getD i (0, 0)).2 1 65535
        · refine v_seq ?_
          refine v_seq ?_
          refine v_region ?_
          refine vl_val (os_fa (o := 0) (k := 0) (by kernel_rfl) rfl) ?_
          refine vl_val (os_load Try.isAgg3 rfl (hC.cell rfl)) ?_
          refine vl_val (os_move rfl) ?_
          refine vl_val (os_add rfl rfl (rfl)) ?_
          refine vl_val (os_fa (o := 2) (k := 0) (by kernel_rfl) rfl) ?_
          refine vl_val (os_load Try.isAgg3 rfl (hD.cell rfl)) ?_
          refine vl_call (gives_bool (guess_within (d.cs.getD i (0, 0)).1 (IntKind.i64.wrap (z + 1)) d.n _) c1) rfl ?_
          rintro v4 w4 ⟨rfl, rfl⟩
          refine vl_val (os_not rfl) ?_
          refine vl_val (os_move rfl) ?_
          refine vl_valg rfl (os_fa (o := 1) (k := 0) (by kernel_rfl) rfl) ?_
          refine vl_valg rfl (os_load Try.isAgg3 rfl (hC.cell rfl)) ?_
          refine vl_callg rfl (gives_bool (guess_within (d.cs.getD i (0, 0)).2 1 65535 _) c2) rfl ?_
          rintro v5 w5 ⟨rfl, rfl⟩
          refine vl_valg rfl (os_not rfl) ?_
          refine vl_val (os_pick_f rfl rfl) ?_
          refine vl_nil ?_
          refine v_cond_t rfl ?_
          refine v_seq ?_
          refine v_region ?_
          refine vl_val (os_assign rfl) ?_
          refine vl_nil ?_
          refine v_ret ?_
          exact post_ret rfl rfl (⟨by rw [hbad], hb0.trans (b3.mono hb0.size)⟩)
        · refine v_seq ?_
          refine v_seq ?_
          refine v_region ?_
          refine vl_val (os_fa (o := 0) (k := 0) (by kernel_rfl) rfl) ?_
          refine vl_val (os_load Try.isAgg3 rfl (hC.cell rfl)) ?_
          refine vl_val (os_move rfl) ?_
          refine vl_val (os_add rfl rfl (rfl)) ?_
          refine vl_val (os_fa (o := 2) (k := 0) (by kernel_rfl) rfl) ?_
          refine vl_val (os_load Try.isAgg3 rfl (hD.cell rfl)) ?_
          refine vl_call (gives_bool (guess_within (d.cs.getD i (0, 0)).1 (IntKind.i64.wrap (z + 1)) d.n _) c1) rfl ?_
          rintro v4 w4 ⟨rfl, rfl⟩
          refine vl_val (os_not rfl) ?_
          refine vl_val (os_move rfl) ?_
          refine vl_valg rfl (os_fa (o := 1) (k := 0) (by kernel_rfl) rfl) ?_
          refine vl_valg rfl (os_load Try.isAgg3 rfl (hC.cell rfl)) ?_
          refine vl_callg rfl (gives_bool (guess_within (d.cs.getD i (0, 0)).2 1 65535 _) c2) rfl ?_
          rintro v5 w5 ⟨rfl, rfl⟩
          refine vl_valg rfl (os_not rfl) ?_
          refine vl_val (os_pick_f rfl rfl) ?_
          refine vl_nil ?_
          refine v_cond_f rfl ?_
          refine v_skip ?_
          refine v_region ?_
          refine vl_val (os_fa (o := 0) (k := 0) (by kernel_rfl) rfl) ?_
          refine vl_val (os_load Try.isAgg3 rfl (hC.cell rfl)) ?_
          refine vl_val (os_assign rfl) ?_
          refine vl_nil ?_
          refine v_region ?_
          refine vl_val (os_addi rfl rfl (by omega)) ?_
          refine vl_val (os_move rfl) ?_
          refine vl_nil ?_
          exact ⟨⟨i + 1, (d.cs.getD i (0, 0)).1⟩, ⟨rfl, rfl, rfl, trivial⟩, ⟨rfl, rfl, trivial⟩, ⟨by (try dsimp only); omega, trivial, b3⟩, by dsimp only; omega⟩
    · have hD := hB0.keep b1
      cases c1 : inB d.st 0 65535
      · refine v_exit ?_
        refine v_seq ?_
        refine v_region ?_
        refine vl_val (os_fa (o := 0) (k := 0) (by kernel_rfl) rfl) ?_
        refine vl_val (os_load Try.isAgg3 rfl (hD.cell rfl)) ?_
        refine vl_call (gives_bool (guess_within d.st 0 65535 _) c1) rfl ?_
        rintro v4 w4 ⟨rfl, rfl⟩
        refine vl_val (os_move rfl) ?_
        refine vl_skip rfl rfl ?_
        refine vl_skip rfl rfl ?_
        refine vl_skip rfl rfl ?_
        refine vl_val (os_pick_f rfl rfl) ?_
        refine vl_val (os_move rfl) ?_
        refine vl_skip rfl rfl ?_
        refine vl_skip rfl rfl ?_
        refine vl_skip rfl rfl ?_
        refine vl_val (os_pick_f rfl rfl) ?_
        refine vl_val (os_assign rfl) ?_
        refine vl_nil ?_
        refine v_ret ?_
        exact post_ret rfl rfl (⟨by simp [rightN, c1], hb0.trans (Below.mono b1 hb0.size)⟩)
      · cases c2 : inB d.sq 1 2147483647
        · refine v_exit ?_
          refine v_seq ?_
          refine v_region ?_
          refine vl_val (os_fa (o := 0) (k := 0) (by kernel_rfl) rfl) ?_
          refine vl_val (os_load Try.isAgg3 rfl (hD.cell rfl)) ?_
          refine vl_call (gives_bool (guess_within d.st 0 65535 _) c1) rfl ?_
          rintro v4 w4 ⟨rfl, rfl⟩
          refine vl_val (os_move rfl) ?_
          refine vl_valg rfl (os_fa (o := 1) (k := 0) (by kernel_rfl) rfl) ?_
          refine vl_valg rfl (os_load Try.isAgg3 rfl (hD.cell rfl)) ?_
          refine vl_callg rfl (gives_bool (guess_within d.sq 1 2147483647 _) c2) rfl ?_
          rintro v5 w5 ⟨rfl, rfl⟩
          refine vl_val (os_pick_t rfl rfl) ?_
          refine vl_val (os_move rfl) ?_
          refine vl_skip rfl rfl ?_
          refine vl_skip rfl rfl ?_
          refine vl_skip rfl rfl ?_
          refine vl_val (os_pick_f rfl rfl) ?_
          refine vl_val (os_assign rfl) ?_
          refine vl_nil ?_
          refine v_ret ?_
          exact post_ret rfl rfl (⟨by simp [rightN, c2], hb0.trans (Below.mono b1 hb0.size)⟩)
        · refine v_exit ?_
          refine v_seq ?_
          refine v_region ?_
          refine vl_val (os_fa (o := 0) (k := 0) (by kernel_rfl) rfl) ?_
          refine vl_val (os_load Try.isAgg3 rfl (hD.cell rfl)) ?_
          refine vl_call (gives_bool (guess_within d.st 0 65535 _) c1) rfl ?_
          rintro v4 w4 ⟨rfl, rfl⟩
          refine vl_val (os_move rfl) ?_
          refine vl_valg rfl (os_fa (o := 1) (k := 0) (by kernel_rfl) rfl) ?_
          refine vl_valg rfl (os_load Try.isAgg3 rfl (hD.cell rfl)) ?_
          refine vl_callg rfl (gives_bool (guess_within d.sq 1 2147483647 _) c2) rfl ?_
          rintro v5 w5 ⟨rfl, rfl⟩
          refine vl_val (os_pick_t rfl rfl) ?_
          refine vl_val (os_move rfl) ?_
          refine vl_valg rfl (os_fa (o := 2) (k := 0) (by kernel_rfl) rfl) ?_
          refine vl_valg rfl (os_load Try.isAgg3 rfl (hD.cell rfl)) ?_
          refine vl_callg rfl (guess_within d.n 1 255 _) rfl ?_
          rintro v6 w6 ⟨rfl, rfl⟩
          refine vl_val (os_pick_t rfl rfl) ?_
          refine vl_val (os_assign rfl) ?_
          refine vl_nil ?_
          refine v_ret ?_
          exact post_ret rfl rfl (⟨by rw [hbad, hno], hb0.trans (Below.mono b1 hb0.size)⟩)
end Go.Proofs.Ytpjmiafefammkaa
