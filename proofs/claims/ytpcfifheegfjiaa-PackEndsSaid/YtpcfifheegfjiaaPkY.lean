/- Layer 8: the walk of PackEnds (a closed statement). -/
import Derived.Test.YtpcfifheegfjiaaPkX
import Derived.Test.YtpcfifheegfjiaaPkE
import Derived.Test.YtpcfifheegfjiaaLs
namespace Go.Proofs.Ytpcfifheegfjiaa
open Go.RowKit
set_option linter.unusedVariables false

def pNums : List Int := [-9223372036854775808, -1, 0, 1, 255, 256, 65535, 65536, 16777215, 16777216, 4294967295, 4294967296, 9223372036854775807]
def pRow : List Int := [0, 255, 1, 128, 7, 0, 9, 200, 1, 2]
theorem pRow_Y : AllY pRow := by unfold AllY; decide
/-- a call with numbers only -/
def dN (what n size : Int) : DoV := ⟨what, n, size, none, 0, 0, []⟩
theorem dN_ok (w : World) (what n size : Int) : DoOk w (dN what n size) := ⟨Rd.nil, rfl, by simp [dN], fun z hz => by cases hz⟩
def dB (A : Option Addr) (l c : Nat) (bs : List Int) : DoV := ⟨1, 0, 0, A, l, c, bs⟩
theorem cells4 (ds : List DoV) : ∀ cs ∈ ds.map DoV.cells, cs.length = 4 := fun cs hc => by
  obtain ⟨d, _, rfl⟩ := List.mem_map.1 hc; rfl
theorem rdDo_alloc (w : World) (ds : List DoV) (h : ∀ d ∈ ds, DoOk w d) : RdDo (w.alloc (.cells (ds.map DoV.cells).flatten.toArray 58)) (some ⟨w.heap.size, 0, none⟩) ds :=
  ⟨rdp_alloc w (ds.map DoV.cells) _ (cells4 ds), fun d hd => let o := h d hd; ⟨o.rd.keep ((Below.refl _ _).alloc (Nat.le_refl _) _), o.len, o.max, o.y⟩⟩
def pN (w : World) : World := w.alloc (.cells (pNums.map (Value.int .i64)).toArray 3)
set_option maxHeartbeats 4000000 in
theorem law08_PackEnds (w : World) : Gives Try.prog 13 #[] w fun v w' => v = .bool true ∧ Below w.heap.size w w' := by
  have y1 : AllY [0, 255] := by unfold AllY; decide
  have y2 : AllY [5] := by unfold AllY; decide
  have rN0 := rd_alloc w .i64 pNums 3
  obtain ⟨gR, hgR⟩ : ∃ gR, gR = w.heap.size + 1 := ⟨_, rfl⟩
  have rR0 : Rd ((pN w).alloc (.cells (pRow.map (Value.int .u8)).toArray 5)) .u8 (some ⟨gR, 0, none⟩) pRow := by rw [hgR, show w.heap.size + 1 = (pN w).heap.size by simp [pN]]; exact rd_alloc (pN w) .u8 pRow 5
  have bN : Below w.heap.size w (pN w) := (Below.refl _ _).alloc (Nat.le_refl _) _
  have bR : Below (pN w).heap.size (pN w) ((pN w).alloc (.cells (pRow.map (Value.int .u8)).toArray 5)) := (Below.refl _ _).alloc (Nat.le_refl _) _
  have rN0 : Rd (pN w) .i64 (some ⟨w.heap.size, 0, none⟩) pNums := rN0
  have rN0 := rN0.keep bR
  have b0 := bN.trans (bR.mono bN.size)
  refine gives_enter Try.call13 Try.func13 rfl rfl rfl (by kernel_rfl) ?_
  refine v_seq ?_
  refine v_region ?_
  refine vl_val (os_assign rfl) ?_
  refine vl_nil ?_
  refine v_seq ?_
  refine v_region ?_
  refine vl_val (os_lit Try.underlying37 Try.sizeOf3 Try.zeroValue3 rfl rfl rfl rfl (by decide)) ?_
  refine vl_val (os_assign rfl) ?_
  refine vl_nil ?_
  refine v_seq ?_
  refine v_region ?_
  refine vl_val (os_lit Try.underlying22 Try.sizeOf5 Try.zeroValue5 rfl rfl rfl rfl (by decide)) ?_
  simp only [World.size_alloc]
  rw [← hgR]
  refine vl_val (os_assign rfl) ?_
  refine vl_nil ?_
  refine v_seq ?_
  refine v_seq ?_
  refine v_region ?_
  refine vl_val (os_assign rfl) ?_
  refine vl_nil ?_
  refine v_block ?_
  refine v_loop [(1, _), (2, _)] (fun (i : Nat) => [(3, .int .i64 i)]) (fun i w' => i ≤ 13 ∧ Below w.heap.size w w' ∧ Rd w' .i64 (some ⟨w.heap.size, 0, none⟩) pNums ∧ Rd w' .u8 (some ⟨gR, 0, none⟩) pRow) (fun i => 13 - i) (0) ⟨rfl, rfl, trivial⟩ ⟨rfl, trivial⟩ (⟨by omega, b0, rN0, rR0⟩) ?_
  rintro i w' ⟨hi, bw, rN, rR⟩
  refine v_seq ?_
  refine v_seq ?_
  refine v_region ?_
  refine vl_val (os_move rfl) ?_
  refine vl_val (os_move rfl) ?_
  refine vl_val (os_len Try.underlying37 rfl) ?_
  refine vl_val (os_lss rfl rfl) ?_
  refine vl_nil ?_
  refine v_cond_d rfl (fun hlt => ?_) (fun hlt => ?_)
  · refine v_skip ?_
    refine v_seq ?_
    refine v_block ?_
    refine v_seq ?_
    refine v_region ?_
    refine vl_val (os_assign rfl) ?_
    refine vl_nil ?_
    refine v_block ?_
    refine v_loop [(1, _), (2, _), (3, _)] (fun (j : Nat) => [(4, .int .i64 ((j : Int) - 1))]) (fun j w' => j ≤ 8 ∧ Below w.heap.size w w' ∧ Rd w' .i64 (some ⟨w.heap.size, 0, none⟩) pNums ∧ Rd w' .u8 (some ⟨gR, 0, none⟩) pRow) (fun j => 8 - j) (0) ⟨rfl, rfl, rfl, trivial⟩ ⟨rfl, trivial⟩ (⟨by omega, bw, rN, rR⟩) ?_
    rintro j w' ⟨hj, bw, rN, rR⟩
    refine v_seq ?_
    refine v_seq ?_
    refine v_region ?_
    refine vl_val (os_move rfl) ?_
    refine vl_val (os_lss rfl rfl) ?_
    refine vl_nil ?_
    refine v_cond_d rfl (fun hlt2 => ?_) (fun hlt2 => ?_)
    · obtain ⟨bn, on, en, cn⟩ := rN.at_ (i := i) (by simp [pNums]; omega)
      cases en
      obtain ⟨z, hz⟩ : ∃ z, z = pNums.getD i 0 := ⟨_, rfl⟩
      rw [← hz] at cn
      have rA := rd_alloc (w'.drewN 1) .u8 [5] 5
      have bA : Below w'.heap.size w' ((w'.drewN 1).alloc (.cells ([5].map (Value.int .u8)).toArray 5)) := (led_below ⟨1, rfl⟩).alloc (by simp) _
      have hD1 : ∀ d ∈ [dB (some ⟨gR, 0, none⟩) 2 10 [0, 255], dN 0 z ((j : Int) - 1), dB (some ⟨w'.heap.size, 0, none⟩) 1 1 [5], dN 0 3 4], DoOk ((w'.drewN 1).alloc (.cells ([5].map (Value.int .u8)).toArray 5)) d := by
        intro d hd
        simp only [List.mem_cons, List.not_mem_nil, or_false] at hd
        rcases hd with rfl | rfl | rfl | rfl
        · exact ⟨(rR.take 2).keep bA, rfl, by simp [dB], y1⟩
        · exact dN_ok _ _ _ _
        · exact ⟨rA, rfl, by simp [dB], y2⟩
        · exact dN_ok _ _ _ _
      refine v_skip ?_
      refine v_seq ?_
      refine v_block ?_
      refine v_seq ?_
      refine v_region_a mixed ?_
      refine va_pure 0 rfl (by kernel_rfl) (by kernel_rfl) (by kernel_rfl) (fun w => (os_move rfl)) ?_
      refine va_pure 1 rfl (by kernel_rfl) (by kernel_rfl) (by kernel_rfl) (fun w => (os_slice_h Try.underlying22 Try.sizeOf5 rfl rfl (h := 2) (by omega) (by omega))) ?_
      refine va_pure 2 rfl (by kernel_rfl) (by kernel_rfl) (by kernel_rfl) (fun w => (os_build (cs := [.int .i64 1, .int .i64 0, .int .i64 0, .slice (some ⟨gR, 0, none⟩) 2 10]) rfl (by kernel_rfl))) ?_
      refine va_pure 3 rfl (by kernel_rfl) (by kernel_rfl) (by kernel_rfl) (fun w => (os_move rfl)) ?_
      refine va_pure 4 rfl (by kernel_rfl) (by kernel_rfl) (by kernel_rfl) (fun w => (os_move rfl)) ?_
      refine va_pure 5 rfl (by kernel_rfl) (by kernel_rfl) (by kernel_rfl) (fun w => (os_ix Try.underlying37 Try.sizeOf3 rfl rfl (i := i) (by omega) (by omega))) ?_
      refine va_pure 7 rfl (by kernel_rfl) (by kernel_rfl) (by kernel_rfl) (fun w => (os_move rfl)) ?_
      refine va_pure 11 rfl (by kernel_rfl) (by kernel_rfl) (by kernel_rfl) (fun w => (os_build (cs := [.int .i64 0, .int .i64 3, .int .i64 4, .slice none 0 0]) rfl (by kernel_rfl))) ?_
      refine va_two 6 9 (by kernel_rfl) ?_ ?_
      · refine vn_val rfl (os_load Try.isAgg3 rfl (by first | exact cn | exact kcell bA cn)) ?_
        refine va_pure 8 rfl (by kernel_rfl) (by kernel_rfl) (by kernel_rfl) (fun w => (os_build (cs := [.int .i64 0, .int .i64 z, .int .i64 ((j : Int) - 1), .slice none 0 0]) rfl (by kernel_rfl))) ?_
        refine va_one 9 (by kernel_rfl) ?_
        refine vn_val rfl (os_lit Try.underlying22 Try.sizeOf5 Try.zeroValue5 rfl rfl rfl rfl (by decide)) ?_
        refine va_pure 10 rfl (by kernel_rfl) (by kernel_rfl) (by kernel_rfl) (fun w => (os_build (cs := [.int .i64 1, .int .i64 0, .int .i64 0, .slice (some ⟨w'.heap.size, 0, none⟩) 1 1]) rfl (by kernel_rfl))) ?_
        refine va_one 12 (by kernel_rfl) ?_
        refine vn_val rfl (os_litS (css := [dB (some ⟨gR, 0, none⟩) 2 10 [0, 255], dN 0 z ((j : Int) - 1), dB (some ⟨w'.heap.size, 0, none⟩) 1 1 [5], dN 0 3 4].map DoV.cells) Try.underlying49 Try.sizeOf58 Try.zeroValue58 rfl rfl (cells4 _) (by decide) (by decide) (by decide)) ?_
        refine va_one 13 (by kernel_rfl) ?_
        refine vn_call rfl (law08_PackWrites _ _ _ [dB (some ⟨gR, 0, none⟩) 2 10 [0, 255], dN 0 z ((j : Int) - 1), dB (some ⟨w'.heap.size, 0, none⟩) 1 1 [5], dN 0 3 4] _ (rdDo_alloc _ _ hD1) rfl (by simp)) rfl ?_
        rintro v1 w1 ⟨rfl, b1⟩
        have bL : Below w'.heap.size w' (((w'.drewN 1).alloc (.cells ([5].map (Value.int .u8)).toArray 5)).alloc (.cells ([dB (some ⟨gR, 0, none⟩) 2 10 [0, 255], dN 0 z ((j : Int) - 1), dB (some ⟨w'.heap.size, 0, none⟩) 1 1 [5], dN 0 3 4].map DoV.cells).flatten.toArray 58)) := bA.alloc bA.size _
        have b1w : Below w'.heap.size w' w1 := bL.trans (b1.mono bL.size)
        refine va_pure 14 rfl (by kernel_rfl) (by kernel_rfl) (by kernel_rfl) (fun w => (os_not rfl)) ?_
        refine va_pure 15 rfl (by kernel_rfl) (by kernel_rfl) (by kernel_rfl) (fun w => (os_move rfl)) ?_
        refine va_pure 16 rfl (by kernel_rfl) (by kernel_rfl) (by kernel_rfl) (fun w => (os_move rfl)) ?_
        refine va_pure 17 rfl (by kernel_rfl) (by kernel_rfl) (by kernel_rfl) (fun w => (os_move rfl)) ?_
        refine va_pure 18 rfl (by kernel_rfl) (by kernel_rfl) (by kernel_rfl) (fun w => (os_build (cs := [.int .i64 0, .int .i64 0, .int .i64 ((j : Int) - 1), .slice none 0 0]) rfl (by kernel_rfl))) ?_
        refine va_pure 19 rfl (by kernel_rfl) (by kernel_rfl) (by kernel_rfl) (fun w => (os_move rfl)) ?_
        refine va_pure 20 rfl (by kernel_rfl) (by kernel_rfl) (by kernel_rfl) (fun w => (os_remi rfl rfl (by omega))) ?_
        refine va_pure 21 rfl (by kernel_rfl) (by kernel_rfl) (by kernel_rfl) (fun w => (os_build (cs := [.int .i64 0, .int .i64 0, .int .i64 ((i : Int) % 5), .slice none 0 0]) rfl (by kernel_rfl))) ?_
        refine va_pure 22 rfl (by kernel_rfl) (by kernel_rfl) (by kernel_rfl) (fun w => (os_move rfl)) ?_
        refine va_pure 23 rfl (by kernel_rfl) (by kernel_rfl) (by kernel_rfl) (fun w => (os_move rfl)) ?_
        refine va_pure 24 rfl (by kernel_rfl) (by kernel_rfl) (by kernel_rfl) (fun w => (os_ix Try.underlying37 Try.sizeOf3 rfl rfl (i := i) (by omega) (by omega))) ?_
        refine va_pure 27 rfl (by kernel_rfl) (by kernel_rfl) (by kernel_rfl) (fun w => (os_build (cs := [.int .i64 0, .int .i64 0, .int .i64 1, .slice none 0 0]) rfl (by kernel_rfl))) ?_
        refine va_one 25 (by kernel_rfl) ?_
        refine vn_val rfl (os_load Try.isAgg3 rfl (kcell b1w cn)) ?_
        refine va_pure 26 rfl (by kernel_rfl) (by kernel_rfl) (by kernel_rfl) (fun w => (os_build (cs := [.int .i64 1, .int .i64 z, .int .i64 0, .slice none 0 0]) rfl (by kernel_rfl))) ?_
        refine va_one 28 (by kernel_rfl) ?_
        refine vn_val rfl (os_litS (css := [dN 0 0 ((j : Int) - 1), dN 0 0 ((i : Int) % 5), dN 1 z 0, dN 0 0 1].map DoV.cells) Try.underlying49 Try.sizeOf58 Try.zeroValue58 rfl rfl (cells4 _) (by decide) (by decide) (by decide)) ?_
        refine va_one 29 (by kernel_rfl) ?_
        refine vn_call rfl (law08_PackReads _ 10 10 pRow _ _ _ [dN 0 0 ((j : Int) - 1), dN 0 0 ((i : Int) % 5), dN 1 z 0, dN 0 0 1] _ ((rR.keep b1w).keep ((Below.refl _ _).alloc (Nat.le_refl _) _)) rfl (by simp) pRow_Y (rdDo_alloc _ _ (by intro d hd; simp only [List.mem_cons, List.not_mem_nil, or_false] at hd; rcases hd with rfl | rfl | rfl | rfl <;> exact dN_ok _ _ _ _)) rfl (by simp)) rfl ?_
        rintro v2 w2 ⟨rfl, b2⟩
        have b2w : Below w'.heap.size w' w2 := b1w.trans (((Below.refl _ _).alloc (Nat.le_refl _) _ |>.trans (b2.mono (by simp))).mono b1w.size)
        refine va_pure 30 rfl (by kernel_rfl) (by kernel_rfl) (by kernel_rfl) (fun w => (os_not rfl)) ?_
        refine va_pure 31 rfl (by kernel_rfl) (by kernel_rfl) (by kernel_rfl) (fun w => (os_pick_f rfl rfl)) ?_
        refine va_done (by kernel_rfl) ?_
        refine v_cond_f rfl ?_
        refine v_skip ?_
        refine v_region ?_
        refine vl_val (os_move rfl) ?_
        refine vl_val (os_addi rfl rfl (by omega)) ?_
        refine vl_val (os_assign rfl) ?_
        refine vl_nil ?_
        exact ⟨j + 1, ⟨rfl, rfl, rfl, trivial⟩, ⟨get_int rfl (by omega), trivial⟩, ⟨by omega, bw.trans (b2w.mono bw.size), rN.keep b2w, rR.keep b2w⟩, by dsimp only; omega⟩
      · refine vn_val rfl (os_lit Try.underlying22 Try.sizeOf5 Try.zeroValue5 rfl rfl rfl rfl (by decide)) ?_
        refine va_pure 10 rfl (by kernel_rfl) (by kernel_rfl) (by kernel_rfl) (fun w => (os_build (cs := [.int .i64 1, .int .i64 0, .int .i64 0, .slice (some ⟨w'.heap.size, 0, none⟩) 1 1]) rfl (by kernel_rfl))) ?_
        refine va_one 6 (by kernel_rfl) ?_
        refine vn_val rfl (os_load Try.isAgg3 rfl (by first | exact cn | exact kcell bA cn)) ?_
        refine va_pure 8 rfl (by kernel_rfl) (by kernel_rfl) (by kernel_rfl) (fun w => (os_build (cs := [.int .i64 0, .int .i64 z, .int .i64 ((j : Int) - 1), .slice none 0 0]) rfl (by kernel_rfl))) ?_
        refine va_one 12 (by kernel_rfl) ?_
        refine vn_val rfl (os_litS (css := [dB (some ⟨gR, 0, none⟩) 2 10 [0, 255], dN 0 z ((j : Int) - 1), dB (some ⟨w'.heap.size, 0, none⟩) 1 1 [5], dN 0 3 4].map DoV.cells) Try.underlying49 Try.sizeOf58 Try.zeroValue58 rfl rfl (cells4 _) (by decide) (by decide) (by decide)) ?_
        refine va_one 13 (by kernel_rfl) ?_
        refine vn_call rfl (law08_PackWrites _ _ _ [dB (some ⟨gR, 0, none⟩) 2 10 [0, 255], dN 0 z ((j : Int) - 1), dB (some ⟨w'.heap.size, 0, none⟩) 1 1 [5], dN 0 3 4] _ (rdDo_alloc _ _ hD1) rfl (by simp)) rfl ?_
        rintro v1 w1 ⟨rfl, b1⟩
        have bL : Below w'.heap.size w' (((w'.drewN 1).alloc (.cells ([5].map (Value.int .u8)).toArray 5)).alloc (.cells ([dB (some ⟨gR, 0, none⟩) 2 10 [0, 255], dN 0 z ((j : Int) - 1), dB (some ⟨w'.heap.size, 0, none⟩) 1 1 [5], dN 0 3 4].map DoV.cells).flatten.toArray 58)) := bA.alloc bA.size _
        have b1w : Below w'.heap.size w' w1 := bL.trans (b1.mono bL.size)
        refine va_pure 14 rfl (by kernel_rfl) (by kernel_rfl) (by kernel_rfl) (fun w => (os_not rfl)) ?_
        refine va_pure 15 rfl (by kernel_rfl) (by kernel_rfl) (by kernel_rfl) (fun w => (os_move rfl)) ?_
        refine va_pure 16 rfl (by kernel_rfl) (by kernel_rfl) (by kernel_rfl) (fun w => (os_move rfl)) ?_
        refine va_pure 17 rfl (by kernel_rfl) (by kernel_rfl) (by kernel_rfl) (fun w => (os_move rfl)) ?_
        refine va_pure 18 rfl (by kernel_rfl) (by kernel_rfl) (by kernel_rfl) (fun w => (os_build (cs := [.int .i64 0, .int .i64 0, .int .i64 ((j : Int) - 1), .slice none 0 0]) rfl (by kernel_rfl))) ?_
        refine va_pure 19 rfl (by kernel_rfl) (by kernel_rfl) (by kernel_rfl) (fun w => (os_move rfl)) ?_
        refine va_pure 20 rfl (by kernel_rfl) (by kernel_rfl) (by kernel_rfl) (fun w => (os_remi rfl rfl (by omega))) ?_
        refine va_pure 21 rfl (by kernel_rfl) (by kernel_rfl) (by kernel_rfl) (fun w => (os_build (cs := [.int .i64 0, .int .i64 0, .int .i64 ((i : Int) % 5), .slice none 0 0]) rfl (by kernel_rfl))) ?_
        refine va_pure 22 rfl (by kernel_rfl) (by kernel_rfl) (by kernel_rfl) (fun w => (os_move rfl)) ?_
        refine va_pure 23 rfl (by kernel_rfl) (by kernel_rfl) (by kernel_rfl) (fun w => (os_move rfl)) ?_
        refine va_pure 24 rfl (by kernel_rfl) (by kernel_rfl) (by kernel_rfl) (fun w => (os_ix Try.underlying37 Try.sizeOf3 rfl rfl (i := i) (by omega) (by omega))) ?_
        refine va_pure 27 rfl (by kernel_rfl) (by kernel_rfl) (by kernel_rfl) (fun w => (os_build (cs := [.int .i64 0, .int .i64 0, .int .i64 1, .slice none 0 0]) rfl (by kernel_rfl))) ?_
        refine va_one 25 (by kernel_rfl) ?_
        refine vn_val rfl (os_load Try.isAgg3 rfl (kcell b1w cn)) ?_
        refine va_pure 26 rfl (by kernel_rfl) (by kernel_rfl) (by kernel_rfl) (fun w => (os_build (cs := [.int .i64 1, .int .i64 z, .int .i64 0, .slice none 0 0]) rfl (by kernel_rfl))) ?_
        refine va_one 28 (by kernel_rfl) ?_
        refine vn_val rfl (os_litS (css := [dN 0 0 ((j : Int) - 1), dN 0 0 ((i : Int) % 5), dN 1 z 0, dN 0 0 1].map DoV.cells) Try.underlying49 Try.sizeOf58 Try.zeroValue58 rfl rfl (cells4 _) (by decide) (by decide) (by decide)) ?_
        refine va_one 29 (by kernel_rfl) ?_
        refine vn_call rfl (law08_PackReads _ 10 10 pRow _ _ _ [dN 0 0 ((j : Int) - 1), dN 0 0 ((i : Int) % 5), dN 1 z 0, dN 0 0 1] _ ((rR.keep b1w).keep ((Below.refl _ _).alloc (Nat.le_refl _) _)) rfl (by simp) pRow_Y (rdDo_alloc _ _ (by intro d hd; simp only [List.mem_cons, List.not_mem_nil, or_false] at hd; rcases hd with rfl | rfl | rfl | rfl <;> exact dN_ok _ _ _ _)) rfl (by simp)) rfl ?_
        rintro v2 w2 ⟨rfl, b2⟩
        have b2w : Below w'.heap.size w' w2 := b1w.trans (((Below.refl _ _).alloc (Nat.le_refl _) _ |>.trans (b2.mono (by simp))).mono b1w.size)
        refine va_pure 30 rfl (by kernel_rfl) (by kernel_rfl) (by kernel_rfl) (fun w => (os_not rfl)) ?_
        refine va_pure 31 rfl (by kernel_rfl) (by kernel_rfl) (by kernel_rfl) (fun w => (os_pick_f rfl rfl)) ?_
        refine va_done (by kernel_rfl) ?_
        refine v_cond_f rfl ?_
        refine v_skip ?_
        refine v_region ?_
        refine vl_val (os_move rfl) ?_
        refine vl_val (os_addi rfl rfl (by omega)) ?_
        refine vl_val (os_assign rfl) ?_
        refine vl_nil ?_
        exact ⟨j + 1, ⟨rfl, rfl, rfl, trivial⟩, ⟨get_int rfl (by omega), trivial⟩, ⟨by omega, bw.trans (b2w.mono bw.size), rN.keep b2w, rR.keep b2w⟩, by dsimp only; omega⟩
    · refine v_exit ?_
      refine v_region ?_
      refine vl_val (os_move rfl) ?_
      refine vl_val (os_addi rfl rfl (by omega)) ?_
      refine vl_val (os_assign rfl) ?_
      refine vl_nil ?_
      exact ⟨i + 1, ⟨rfl, rfl, trivial⟩, ⟨rfl, trivial⟩, ⟨by omega, bw, rN, rR⟩, by dsimp only; omega⟩
  · refine v_exit ?_
    refine v_seq ?_
    refine v_seq ?_
    refine v_region ?_
    refine vl_val (os_assign rfl) ?_
    refine vl_nil ?_
    refine v_block ?_
    refine v_loop [(2, _)] (fun (n : Nat) => [(5, .int .i64 ((n : Int) - 1))]) (fun n w' => n ≤ 13 ∧ Below w.heap.size w w' ∧ Rd w' .u8 (some ⟨gR, 0, none⟩) pRow) (fun n => 13 - n) (0) ⟨rfl, trivial⟩ ⟨rfl, trivial⟩ (⟨by omega, bw, rR⟩) ?_
    rintro n w' ⟨hn, bw, rR⟩
    refine v_seq ?_
    refine v_seq ?_
    refine v_region ?_
    refine vl_val (os_move rfl) ?_
    refine vl_val (os_lss rfl rfl) ?_
    refine vl_nil ?_
    refine v_cond_d rfl (fun hlt2 => ?_) (fun hlt2 => ?_)
    · refine v_skip ?_
      refine v_seq ?_
      refine v_block ?_
      refine v_seq ?_
      refine v_region ?_
      refine vl_val (os_move rfl) ?_
      refine vl_val (os_move rfl) ?_
      refine vl_val (os_build (cs := [.int .i64 1, .int .i64 ((n : Int) - 1), .int .i64 0, .slice none 0 0]) rfl (by kernel_rfl)) ?_
      refine vl_val (os_move rfl) ?_
      refine vl_val (os_subi rfl rfl (by omega)) ?_
      refine vl_val (os_build (cs := [.int .i64 1, .int .i64 (10 - ((n : Int) - 1)), .int .i64 0, .slice none 0 0]) rfl (by kernel_rfl)) ?_
      refine vl_val (os_build (cs := [.int .i64 1, .int .i64 0, .int .i64 0, .slice none 0 0]) rfl (by kernel_rfl)) ?_
      refine vl_val (os_build (cs := [.int .i64 0, .int .i64 0, .int .i64 1, .slice none 0 0]) rfl (by kernel_rfl)) ?_
      refine vl_val (os_litS (css := [dN 1 ((n : Int) - 1) 0, dN 1 (10 - ((n : Int) - 1)) 0, dN 1 0 0, dN 0 0 1].map DoV.cells) Try.underlying49 Try.sizeOf58 Try.zeroValue58 rfl rfl (cells4 _) (by decide) (by decide) (by decide)) ?_
      refine vl_call (law08_PackReads _ 10 10 pRow _ _ _ [dN 1 ((n : Int) - 1) 0, dN 1 (10 - ((n : Int) - 1)) 0, dN 1 0 0, dN 0 0 1] _ (rR.keep ((Below.refl _ _).alloc (Nat.le_refl _) _)) rfl (by simp) pRow_Y (rdDo_alloc _ _ (by intro d hd; simp only [List.mem_cons, List.not_mem_nil, or_false] at hd; rcases hd with rfl | rfl | rfl | rfl <;> exact dN_ok _ _ _ _)) rfl (by simp)) rfl ?_
      rintro v2 w2 ⟨rfl, b2⟩
      have b2w : Below w'.heap.size w' w2 := ((Below.refl _ _).alloc (Nat.le_refl _) _ |>.trans (b2.mono (by simp)))
      obtain ⟨k, hk, hk10⟩ : ∃ k : Nat, max ((n : Int) - 1) 0 % 11 = k ∧ k ≤ 10 := ⟨(max ((n : Int) - 1) 0 % 11).toNat, by omega, by omega⟩
      refine vl_val (os_not rfl) ?_
      refine vl_val (os_move rfl) ?_
      refine vl_valg rfl (os_move rfl) ?_
      refine vl_valg rfl (os_move rfl) ?_
      refine vl_valg rfl (os_max rfl rfl) ?_
      refine vl_valg rfl (os_remi rfl rfl (by omega)) ?_
      refine vl_valg rfl (os_slice_h Try.underlying22 Try.sizeOf5 rfl rfl (h := k) (by omega) (by omega)) ?_
      refine vl_valg rfl (os_build (cs := [.int .i64 0, .int .i64 0, .int .i64 4, .slice none 0 0]) rfl (by kernel_rfl)) ?_
      refine vl_valg rfl (os_build (cs := [.int .i64 0, .int .i64 0, .int .i64 3, .slice none 0 0]) rfl (by kernel_rfl)) ?_
      refine vl_valg rfl (os_build (cs := [.int .i64 0, .int .i64 0, .int .i64 2, .slice none 0 0]) rfl (by kernel_rfl)) ?_
      refine vl_valg rfl (os_build (cs := [.int .i64 0, .int .i64 0, .int .i64 1, .slice none 0 0]) rfl (by kernel_rfl)) ?_
      refine vl_valg rfl (os_build (cs := [.int .i64 0, .int .i64 0, .int .i64 1, .slice none 0 0]) rfl (by kernel_rfl)) ?_
      refine vl_valg rfl (os_litS (css := [dN 0 0 4, dN 0 0 3, dN 0 0 2, dN 0 0 1, dN 0 0 1].map DoV.cells) Try.underlying49 Try.sizeOf58 Try.zeroValue58 rfl rfl (cells4 _) (by decide) (by decide) (by decide)) ?_
      refine vl_callg rfl (law08_PackReads _ k 10 (pRow.take k) _ _ _ [dN 0 0 4, dN 0 0 3, dN 0 0 2, dN 0 0 1, dN 0 0 1] _ (((rR.take k).keep b2w).keep ((Below.refl _ _).alloc (Nat.le_refl _) _)) (by simp [pRow]; omega) (by omega) (pRow_Y.take k) (rdDo_alloc _ _ (by intro d hd; simp only [List.mem_cons, List.not_mem_nil, or_false] at hd; rcases hd with rfl | rfl | rfl | rfl | rfl <;> exact dN_ok _ _ _ _)) rfl (by simp)) rfl ?_
      rintro v3 w3 ⟨rfl, b3⟩
      have b3w : Below w'.heap.size w' w3 := b2w.trans (((Below.refl _ _).alloc (Nat.le_refl _) _ |>.trans (b3.mono (by simp))).mono b2w.size)
      refine vl_valg rfl (os_not rfl) ?_
      refine vl_val (os_pick_f rfl rfl) ?_
      refine vl_nil ?_
      refine v_cond_f rfl ?_
      refine v_skip ?_
      refine v_region ?_
      refine vl_val (os_move rfl) ?_
      refine vl_val (os_addi rfl rfl (by omega)) ?_
      refine vl_val (os_assign rfl) ?_
      refine vl_nil ?_
      exact ⟨n + 1, ⟨rfl, trivial⟩, ⟨get_int rfl (by omega), trivial⟩, ⟨by omega, bw.trans (b3w.mono bw.size), rR.keep b3w⟩, by dsimp only; omega⟩
    · refine v_exit ?_
      refine v_seq ?_
      refine v_region ?_
      refine vl_val (os_build (cs := [.int .i64 0, .int .i64 0, .int .i64 4611686018427387904, .slice none 0 0]) rfl (by kernel_rfl)) ?_
      refine vl_val (os_build (cs := [.int .i64 0, .int .i64 0, .int .i64 1, .slice none 0 0]) rfl (by kernel_rfl)) ?_
      refine vl_val (os_litS (css := [dN 0 0 4611686018427387904, dN 0 0 1].map DoV.cells) Try.underlying49 Try.sizeOf58 Try.zeroValue58 rfl rfl (cells4 _) (by decide) (by decide) (by decide)) ?_
      refine vl_call (law08_PackWrites _ _ _ [dN 0 0 4611686018427387904, dN 0 0 1] _ (rdDo_alloc _ _ (by intro d hd; simp only [List.mem_cons, List.not_mem_nil, or_false] at hd; rcases hd with rfl | rfl <;> exact dN_ok _ _ _ _)) rfl (by simp)) rfl ?_
      rintro v2 w2 ⟨rfl, b2⟩
      have b2w : Below w'.heap.size w' w2 := ((Below.refl _ _).alloc (Nat.le_refl _) _ |>.trans (b2.mono (by simp)))
      refine vl_val (os_move rfl) ?_
      refine vl_callg rfl (law08_PackReads none 0 0 [] none 0 0 [] w2 Rd.nil rfl (by omega) (fun z hz => by cases hz) ⟨fun i c hc => by simp at hc, fun d hd => by cases hd⟩ rfl (by omega)) rfl ?_
      rintro v3 w3 ⟨rfl, b3⟩
      refine vl_val (os_pick_t rfl rfl) ?_
      refine vl_val (os_move rfl) ?_
      refine vl_callg rfl (law08_none w3) rfl ?_
      rintro v4 w4 ⟨rfl, b4⟩
      refine vl_val (os_pick_t rfl rfl) ?_
      refine vl_val (os_move rfl) ?_
      refine vl_callg rfl (law08_awake w4) rfl ?_
      rintro v5 w5 ⟨rfl, b5⟩
      have b35 := b3.trans ((b4.trans (b5.mono b4.size)).mono b3.size)
      refine vl_val (os_pick_t rfl rfl) ?_
      refine vl_val (os_assign rfl) ?_
      refine vl_nil ?_
      refine v_ret ?_
      exact post_ret rfl rfl (⟨rfl, bw.trans ((b2w.trans (b35.mono b2w.size)).mono bw.size)⟩)
end Go.Proofs.Ytpcfifheegfjiaa
