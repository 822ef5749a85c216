/- The law's kit: whether lists lie apart: of those kinds of which there are none. -/
import Derived.Test.YtmbcflanifoofaaFlK
namespace Go.Proofs.Ytmbcflanifoofaa
open Go.RowKit
set_option linter.unusedVariables false

theorem ti_lLimbs : TyInfo Try.prog 139 (.slice none 0 0) 1 24 := by unfold TyInfo; kernel_rfl
theorem kit_noneLimbs (w : World) : Gives Try.prog 97 #[.slice none 0 0] w fun v w' => v = .bool true ∧ Below w.heap.size w w' := by
  refine gives_enter Try.call97 Try.func97 rfl rfl rfl (by kernel_rfl) ?_
  refine v_seq ?_
  refine v_region ?_
  refine vl_val (os_assign rfl) ?_
  refine vl_nil ?_
  refine v_seq ?_
  refine v_seq ?_
  refine v_region ?_
  refine vl_val (os_assign rfl) ?_
  refine vl_nil ?_
  refine v_block ?_
  refine v_loop [(0, _)] (fun (k : Nat) => [(3, .int .i64 k)]) (fun k w' => k = 0 ∧ Below w.heap.size w w') (fun k => 0) (0) ⟨rfl, trivial⟩ ⟨rfl, trivial⟩ (⟨rfl, Below.refl _ _⟩) ?_
  rintro k w' ⟨rfl, hb⟩
  refine v_seq ?_
  refine v_seq ?_
  refine v_region ?_
  refine vl_val (os_move rfl) ?_
  refine vl_val (os_move rfl) ?_
  refine vl_val (os_len Try.underlying90 rfl) ?_
  refine vl_val (os_lss rfl rfl) ?_
  refine vl_nil ?_
  refine v_cond_no rfl (by omega) ?_
  refine v_exit ?_
  refine v_seq ?_
  refine v_region ?_
  refine vl_val (os_move rfl) ?_
  refine vl_val (os_len Try.underlying90 rfl) ?_
  refine vl_some (ot_make (l := 0) Try.underlying90 ti_lLimbs rfl rfl rfl rfl rfl (by omega) (by simp [maxLen]) w'.heap.size (Nat.le_refl _)) ?_
  rintro v1 w1 ⟨rfl, ho1, hg1⟩
  have hb1 := hb.trans (((Below.refl _ _).grown hg1 (Nat.le_refl _) (fun k hk => by cases hk)).mono hb.size)
  refine vl_val (os_assign rfl) ?_
  refine vl_nil ?_
  refine v_seq ?_
  refine v_seq ?_
  refine v_region ?_
  refine vl_val (os_assign rfl) ?_
  refine vl_nil ?_
  refine v_block ?_
  refine v_loop [(0, _), (5, _)] (fun (k : Nat) => [(6, .int .i64 k)]) (fun k w' => k = 0 ∧ Below w.heap.size w w') (fun k => 0) (0) ⟨rfl, rfl, trivial⟩ ⟨rfl, trivial⟩ (⟨rfl, hb1⟩) ?_
  rintro k w' ⟨rfl, hb⟩
  refine v_seq ?_
  refine v_seq ?_
  refine v_region ?_
  refine vl_val (os_move rfl) ?_
  refine vl_val (os_move rfl) ?_
  refine vl_val (os_len Try.underlying90 rfl) ?_
  refine vl_val (os_lss rfl rfl) ?_
  refine vl_nil ?_
  refine v_cond_no rfl (by omega) ?_
  refine v_exit ?_
  refine v_seq ?_
  refine v_seq ?_
  refine v_region ?_
  refine vl_val (os_assign rfl) ?_
  refine vl_nil ?_
  refine v_block ?_
  refine v_loop [(0, _), (5, _)] (fun (k : Nat) => [(9, .int .i64 k)]) (fun k w' => k = 0 ∧ Below w.heap.size w w') (fun k => 0) (0) ⟨rfl, rfl, trivial⟩ ⟨rfl, trivial⟩ (⟨rfl, hb⟩) ?_
  rintro k w' ⟨rfl, hb⟩
  refine v_seq ?_
  refine v_seq ?_
  refine v_region ?_
  refine vl_val (os_move rfl) ?_
  refine vl_val (os_move rfl) ?_
  refine vl_val (os_len Try.underlying90 rfl) ?_
  refine vl_val (os_lss rfl rfl) ?_
  refine vl_nil ?_
  refine v_cond_no rfl (by omega) ?_
  refine v_exit ?_
  refine v_seq ?_
  refine v_seq ?_
  refine v_region ?_
  refine vl_val (os_assign rfl) ?_
  refine vl_nil ?_
  refine v_block ?_
  refine v_loop [(0, _), (5, _)] (fun (k : Nat) => [(11, .int .i64 k)]) (fun k w' => k = 0 ∧ Below w.heap.size w w') (fun k => 0) (0) ⟨rfl, rfl, trivial⟩ ⟨rfl, trivial⟩ (⟨rfl, hb⟩) ?_
  rintro k w' ⟨rfl, hb⟩
  refine v_seq ?_
  refine v_seq ?_
  refine v_region ?_
  refine vl_val (os_move rfl) ?_
  refine vl_val (os_move rfl) ?_
  refine vl_val (os_len Try.underlying90 rfl) ?_
  refine vl_val (os_lss rfl rfl) ?_
  refine vl_nil ?_
  refine v_cond_no rfl (by omega) ?_
  refine v_exit ?_
  refine v_seq ?_
  refine v_seq ?_
  refine v_region ?_
  refine vl_val (os_assign rfl) ?_
  refine vl_nil ?_
  refine v_block ?_
  refine v_loop [(0, _), (5, _)] (fun (k : Nat) => [(14, .int .i64 k)]) (fun k w' => k = 0 ∧ Below w.heap.size w w') (fun k => 0) (0) ⟨rfl, rfl, trivial⟩ ⟨rfl, trivial⟩ (⟨rfl, hb⟩) ?_
  rintro k w' ⟨rfl, hb⟩
  refine v_seq ?_
  refine v_seq ?_
  refine v_region ?_
  refine vl_val (os_move rfl) ?_
  refine vl_val (os_move rfl) ?_
  refine vl_val (os_len Try.underlying90 rfl) ?_
  refine vl_val (os_lss rfl rfl) ?_
  refine vl_nil ?_
  refine v_cond_no rfl (by omega) ?_
  refine v_exit ?_
  refine v_seq ?_
  refine v_region ?_
  refine vl_val (os_assign rfl) ?_
  refine vl_nil ?_
  refine v_ret ?_
  exact post_ret rfl rfl (⟨rfl, hb⟩)
theorem ti_lWords : TyInfo Try.prog 140 (.slice none 0 0) 1 24 := by unfold TyInfo; kernel_rfl
theorem kit_noneWords (w : World) : Gives Try.prog 98 #[.slice none 0 0] w fun v w' => v = .bool true ∧ Below w.heap.size w w' := by
  refine gives_enter Try.call98 Try.func98 rfl rfl rfl (by kernel_rfl) ?_
  refine v_seq ?_
  refine v_region ?_
  refine vl_val (os_assign rfl) ?_
  refine vl_nil ?_
  refine v_seq ?_
  refine v_seq ?_
  refine v_region ?_
  refine vl_val (os_assign rfl) ?_
  refine vl_nil ?_
  refine v_block ?_
  refine v_loop [(0, _)] (fun (k : Nat) => [(3, .int .i64 k)]) (fun k w' => k = 0 ∧ Below w.heap.size w w') (fun k => 0) (0) ⟨rfl, trivial⟩ ⟨rfl, trivial⟩ (⟨rfl, Below.refl _ _⟩) ?_
  rintro k w' ⟨rfl, hb⟩
  refine v_seq ?_
  refine v_seq ?_
  refine v_region ?_
  refine vl_val (os_move rfl) ?_
  refine vl_val (os_move rfl) ?_
  refine vl_val (os_len Try.underlying91 rfl) ?_
  refine vl_val (os_lss rfl rfl) ?_
  refine vl_nil ?_
  refine v_cond_no rfl (by omega) ?_
  refine v_exit ?_
  refine v_seq ?_
  refine v_region ?_
  refine vl_val (os_move rfl) ?_
  refine vl_val (os_len Try.underlying91 rfl) ?_
  refine vl_some (ot_make (l := 0) Try.underlying91 ti_lWords rfl rfl rfl rfl rfl (by omega) (by simp [maxLen]) w'.heap.size (Nat.le_refl _)) ?_
  rintro v1 w1 ⟨rfl, ho1, hg1⟩
  have hb1 := hb.trans (((Below.refl _ _).grown hg1 (Nat.le_refl _) (fun k hk => by cases hk)).mono hb.size)
  refine vl_val (os_assign rfl) ?_
  refine vl_nil ?_
  refine v_seq ?_
  refine v_seq ?_
  refine v_region ?_
  refine vl_val (os_assign rfl) ?_
  refine vl_nil ?_
  refine v_block ?_
  refine v_loop [(0, _), (5, _)] (fun (k : Nat) => [(6, .int .i64 k)]) (fun k w' => k = 0 ∧ Below w.heap.size w w') (fun k => 0) (0) ⟨rfl, rfl, trivial⟩ ⟨rfl, trivial⟩ (⟨rfl, hb1⟩) ?_
  rintro k w' ⟨rfl, hb⟩
  refine v_seq ?_
  refine v_seq ?_
  refine v_region ?_
  refine vl_val (os_move rfl) ?_
  refine vl_val (os_move rfl) ?_
  refine vl_val (os_len Try.underlying91 rfl) ?_
  refine vl_val (os_lss rfl rfl) ?_
  refine vl_nil ?_
  refine v_cond_no rfl (by omega) ?_
  refine v_exit ?_
  refine v_seq ?_
  refine v_seq ?_
  refine v_region ?_
  refine vl_val (os_assign rfl) ?_
  refine vl_nil ?_
  refine v_block ?_
  refine v_loop [(0, _), (5, _)] (fun (k : Nat) => [(9, .int .i64 k)]) (fun k w' => k = 0 ∧ Below w.heap.size w w') (fun k => 0) (0) ⟨rfl, rfl, trivial⟩ ⟨rfl, trivial⟩ (⟨rfl, hb⟩) ?_
  rintro k w' ⟨rfl, hb⟩
  refine v_seq ?_
  refine v_seq ?_
  refine v_region ?_
  refine vl_val (os_move rfl) ?_
  refine vl_val (os_move rfl) ?_
  refine vl_val (os_len Try.underlying91 rfl) ?_
  refine vl_val (os_lss rfl rfl) ?_
  refine vl_nil ?_
  refine v_cond_no rfl (by omega) ?_
  refine v_exit ?_
  refine v_seq ?_
  refine v_seq ?_
  refine v_region ?_
  refine vl_val (os_assign rfl) ?_
  refine vl_nil ?_
  refine v_block ?_
  refine v_loop [(0, _), (5, _)] (fun (k : Nat) => [(11, .int .i64 k)]) (fun k w' => k = 0 ∧ Below w.heap.size w w') (fun k => 0) (0) ⟨rfl, rfl, trivial⟩ ⟨rfl, trivial⟩ (⟨rfl, hb⟩) ?_
  rintro k w' ⟨rfl, hb⟩
  refine v_seq ?_
  refine v_seq ?_
  refine v_region ?_
  refine vl_val (os_move rfl) ?_
  refine vl_val (os_move rfl) ?_
  refine vl_val (os_len Try.underlying91 rfl) ?_
  refine vl_val (os_lss rfl rfl) ?_
  refine vl_nil ?_
  refine v_cond_no rfl (by omega) ?_
  refine v_exit ?_
  refine v_seq ?_
  refine v_seq ?_
  refine v_region ?_
  refine vl_val (os_assign rfl) ?_
  refine vl_nil ?_
  refine v_block ?_
  refine v_loop [(0, _), (5, _)] (fun (k : Nat) => [(14, .int .i64 k)]) (fun k w' => k = 0 ∧ Below w.heap.size w w') (fun k => 0) (0) ⟨rfl, rfl, trivial⟩ ⟨rfl, trivial⟩ (⟨rfl, hb⟩) ?_
  rintro k w' ⟨rfl, hb⟩
  refine v_seq ?_
  refine v_seq ?_
  refine v_region ?_
  refine vl_val (os_move rfl) ?_
  refine vl_val (os_move rfl) ?_
  refine vl_val (os_len Try.underlying91 rfl) ?_
  refine vl_val (os_lss rfl rfl) ?_
  refine vl_nil ?_
  refine v_cond_no rfl (by omega) ?_
  refine v_exit ?_
  refine v_seq ?_
  refine v_region ?_
  refine vl_val (os_assign rfl) ?_
  refine vl_nil ?_
  refine v_ret ?_
  exact post_ret rfl rfl (⟨rfl, hb⟩)
theorem ti_lInts : TyInfo Try.prog 28 (.slice none 0 0) 1 24 := by unfold TyInfo; kernel_rfl
theorem kit_noneInts (w : World) : Gives Try.prog 99 #[.slice none 0 0] w fun v w' => v = .bool true ∧ Below w.heap.size w w' := by
  refine gives_enter Try.call99 Try.func99 rfl rfl rfl (by kernel_rfl) ?_
  refine v_seq ?_
  refine v_region ?_
  refine vl_val (os_assign rfl) ?_
  refine vl_nil ?_
  refine v_seq ?_
  refine v_seq ?_
  refine v_region ?_
  refine vl_val (os_assign rfl) ?_
  refine vl_nil ?_
  refine v_block ?_
  refine v_loop [(0, _)] (fun (k : Nat) => [(3, .int .i64 k)]) (fun k w' => k = 0 ∧ Below w.heap.size w w') (fun k => 0) (0) ⟨rfl, trivial⟩ ⟨rfl, trivial⟩ (⟨rfl, Below.refl _ _⟩) ?_
  rintro k w' ⟨rfl, hb⟩
  refine v_seq ?_
  refine v_seq ?_
  refine v_region ?_
  refine vl_val (os_move rfl) ?_
  refine vl_val (os_move rfl) ?_
  refine vl_val (os_len Try.underlying92 rfl) ?_
  refine vl_val (os_lss rfl rfl) ?_
  refine vl_nil ?_
  refine v_cond_no rfl (by omega) ?_
  refine v_exit ?_
  refine v_seq ?_
  refine v_region ?_
  refine vl_val (os_move rfl) ?_
  refine vl_val (os_len Try.underlying92 rfl) ?_
  refine vl_some (ot_make (l := 0) Try.underlying92 ti_lInts rfl rfl rfl rfl rfl (by omega) (by simp [maxLen]) w'.heap.size (Nat.le_refl _)) ?_
  rintro v1 w1 ⟨rfl, ho1, hg1⟩
  have hb1 := hb.trans (((Below.refl _ _).grown hg1 (Nat.le_refl _) (fun k hk => by cases hk)).mono hb.size)
  refine vl_val (os_assign rfl) ?_
  refine vl_nil ?_
  refine v_seq ?_
  refine v_seq ?_
  refine v_region ?_
  refine vl_val (os_assign rfl) ?_
  refine vl_nil ?_
  refine v_block ?_
  refine v_loop [(0, _), (5, _)] (fun (k : Nat) => [(6, .int .i64 k)]) (fun k w' => k = 0 ∧ Below w.heap.size w w') (fun k => 0) (0) ⟨rfl, rfl, trivial⟩ ⟨rfl, trivial⟩ (⟨rfl, hb1⟩) ?_
  rintro k w' ⟨rfl, hb⟩
  refine v_seq ?_
  refine v_seq ?_
  refine v_region ?_
  refine vl_val (os_move rfl) ?_
  refine vl_val (os_move rfl) ?_
  refine vl_val (os_len Try.underlying92 rfl) ?_
  refine vl_val (os_lss rfl rfl) ?_
  refine vl_nil ?_
  refine v_cond_no rfl (by omega) ?_
  refine v_exit ?_
  refine v_seq ?_
  refine v_seq ?_
  refine v_region ?_
  refine vl_val (os_assign rfl) ?_
  refine vl_nil ?_
  refine v_block ?_
  refine v_loop [(0, _), (5, _)] (fun (k : Nat) => [(9, .int .i64 k)]) (fun k w' => k = 0 ∧ Below w.heap.size w w') (fun k => 0) (0) ⟨rfl, rfl, trivial⟩ ⟨rfl, trivial⟩ (⟨rfl, hb⟩) ?_
  rintro k w' ⟨rfl, hb⟩
  refine v_seq ?_
  refine v_seq ?_
  refine v_region ?_
  refine vl_val (os_move rfl) ?_
  refine vl_val (os_move rfl) ?_
  refine vl_val (os_len Try.underlying92 rfl) ?_
  refine vl_val (os_lss rfl rfl) ?_
  refine vl_nil ?_
  refine v_cond_no rfl (by omega) ?_
  refine v_exit ?_
  refine v_seq ?_
  refine v_seq ?_
  refine v_region ?_
  refine vl_val (os_assign rfl) ?_
  refine vl_nil ?_
  refine v_block ?_
  refine v_loop [(0, _), (5, _)] (fun (k : Nat) => [(11, .int .i64 k)]) (fun k w' => k = 0 ∧ Below w.heap.size w w') (fun k => 0) (0) ⟨rfl, rfl, trivial⟩ ⟨rfl, trivial⟩ (⟨rfl, hb⟩) ?_
  rintro k w' ⟨rfl, hb⟩
  refine v_seq ?_
  refine v_seq ?_
  refine v_region ?_
  refine vl_val (os_move rfl) ?_
  refine vl_val (os_move rfl) ?_
  refine vl_val (os_len Try.underlying92 rfl) ?_
  refine vl_val (os_lss rfl rfl) ?_
  refine vl_nil ?_
  refine v_cond_no rfl (by omega) ?_
  refine v_exit ?_
  refine v_seq ?_
  refine v_seq ?_
  refine v_region ?_
  refine vl_val (os_assign rfl) ?_
  refine vl_nil ?_
  refine v_block ?_
  refine v_loop [(0, _), (5, _)] (fun (k : Nat) => [(14, .int .i64 k)]) (fun k w' => k = 0 ∧ Below w.heap.size w w') (fun k => 0) (0) ⟨rfl, rfl, trivial⟩ ⟨rfl, trivial⟩ (⟨rfl, hb⟩) ?_
  rintro k w' ⟨rfl, hb⟩
  refine v_seq ?_
  refine v_seq ?_
  refine v_region ?_
  refine vl_val (os_move rfl) ?_
  refine vl_val (os_move rfl) ?_
  refine vl_val (os_len Try.underlying92 rfl) ?_
  refine vl_val (os_lss rfl rfl) ?_
  refine vl_nil ?_
  refine v_cond_no rfl (by omega) ?_
  refine v_exit ?_
  refine v_seq ?_
  refine v_region ?_
  refine vl_val (os_assign rfl) ?_
  refine vl_nil ?_
  refine v_ret ?_
  exact post_ret rfl rfl (⟨rfl, hb⟩)
theorem ti_lLongs : TyInfo Try.prog 141 (.slice none 0 0) 1 24 := by unfold TyInfo; kernel_rfl
theorem kit_noneLongs (w : World) : Gives Try.prog 100 #[.slice none 0 0] w fun v w' => v = .bool true ∧ Below w.heap.size w w' := by
  refine gives_enter Try.call100 Try.func100 rfl rfl rfl (by kernel_rfl) ?_
  refine v_seq ?_
  refine v_region ?_
  refine vl_val (os_assign rfl) ?_
  refine vl_nil ?_
  refine v_seq ?_
  refine v_seq ?_
  refine v_region ?_
  refine vl_val (os_assign rfl) ?_
  refine vl_nil ?_
  refine v_block ?_
  refine v_loop [(0, _)] (fun (k : Nat) => [(3, .int .i64 k)]) (fun k w' => k = 0 ∧ Below w.heap.size w w') (fun k => 0) (0) ⟨rfl, trivial⟩ ⟨rfl, trivial⟩ (⟨rfl, Below.refl _ _⟩) ?_
  rintro k w' ⟨rfl, hb⟩
  refine v_seq ?_
  refine v_seq ?_
  refine v_region ?_
  refine vl_val (os_move rfl) ?_
  refine vl_val (os_move rfl) ?_
  refine vl_val (os_len Try.underlying93 rfl) ?_
  refine vl_val (os_lss rfl rfl) ?_
  refine vl_nil ?_
  refine v_cond_no rfl (by omega) ?_
  refine v_exit ?_
  refine v_seq ?_
  refine v_region ?_
  refine vl_val (os_move rfl) ?_
  refine vl_val (os_len Try.underlying93 rfl) ?_
  refine vl_some (ot_make (l := 0) Try.underlying93 ti_lLongs rfl rfl rfl rfl rfl (by omega) (by simp [maxLen]) w'.heap.size (Nat.le_refl _)) ?_
  rintro v1 w1 ⟨rfl, ho1, hg1⟩
  have hb1 := hb.trans (((Below.refl _ _).grown hg1 (Nat.le_refl _) (fun k hk => by cases hk)).mono hb.size)
  refine vl_val (os_assign rfl) ?_
  refine vl_nil ?_
  refine v_seq ?_
  refine v_seq ?_
  refine v_region ?_
  refine vl_val (os_assign rfl) ?_
  refine vl_nil ?_
  refine v_block ?_
  refine v_loop [(0, _), (5, _)] (fun (k : Nat) => [(6, .int .i64 k)]) (fun k w' => k = 0 ∧ Below w.heap.size w w') (fun k => 0) (0) ⟨rfl, rfl, trivial⟩ ⟨rfl, trivial⟩ (⟨rfl, hb1⟩) ?_
  rintro k w' ⟨rfl, hb⟩
  refine v_seq ?_
  refine v_seq ?_
  refine v_region ?_
  refine vl_val (os_move rfl) ?_
  refine vl_val (os_move rfl) ?_
  refine vl_val (os_len Try.underlying93 rfl) ?_
  refine vl_val (os_lss rfl rfl) ?_
  refine vl_nil ?_
  refine v_cond_no rfl (by omega) ?_
  refine v_exit ?_
  refine v_seq ?_
  refine v_seq ?_
  refine v_region ?_
  refine vl_val (os_assign rfl) ?_
  refine vl_nil ?_
  refine v_block ?_
  refine v_loop [(0, _), (5, _)] (fun (k : Nat) => [(9, .int .i64 k)]) (fun k w' => k = 0 ∧ Below w.heap.size w w') (fun k => 0) (0) ⟨rfl, rfl, trivial⟩ ⟨rfl, trivial⟩ (⟨rfl, hb⟩) ?_
  rintro k w' ⟨rfl, hb⟩
  refine v_seq ?_
  refine v_seq ?_
  refine v_region ?_
  refine vl_val (os_move rfl) ?_
  refine vl_val (os_move rfl) ?_
  refine vl_val (os_len Try.underlying93 rfl) ?_
  refine vl_val (os_lss rfl rfl) ?_
  refine vl_nil ?_
  refine v_cond_no rfl (by omega) ?_
  refine v_exit ?_
  refine v_seq ?_
  refine v_seq ?_
  refine v_region ?_
  refine vl_val (os_assign rfl) ?_
  refine vl_nil ?_
  refine v_block ?_
  refine v_loop [(0, _), (5, _)] (fun (k : Nat) => [(11, .int .i64 k)]) (fun k w' => k = 0 ∧ Below w.heap.size w w') (fun k => 0) (0) ⟨rfl, rfl, trivial⟩ ⟨rfl, trivial⟩ (⟨rfl, hb⟩) ?_
  rintro k w' ⟨rfl, hb⟩
  refine v_seq ?_
  refine v_seq ?_
  refine v_region ?_
  refine vl_val (os_move rfl) ?_
  refine vl_val (os_move rfl) ?_
  refine vl_val (os_len Try.underlying93 rfl) ?_
  refine vl_val (os_lss rfl rfl) ?_
  refine vl_nil ?_
  refine v_cond_no rfl (by omega) ?_
  refine v_exit ?_
  refine v_seq ?_
  refine v_seq ?_
  refine v_region ?_
  refine vl_val (os_assign rfl) ?_
  refine vl_nil ?_
  refine v_block ?_
  refine v_loop [(0, _), (5, _)] (fun (k : Nat) => [(14, .int .i64 k)]) (fun k w' => k = 0 ∧ Below w.heap.size w w') (fun k => 0) (0) ⟨rfl, rfl, trivial⟩ ⟨rfl, trivial⟩ (⟨rfl, hb⟩) ?_
  rintro k w' ⟨rfl, hb⟩
  refine v_seq ?_
  refine v_seq ?_
  refine v_region ?_
  refine vl_val (os_move rfl) ?_
  refine vl_val (os_move rfl) ?_
  refine vl_val (os_len Try.underlying93 rfl) ?_
  refine vl_val (os_lss rfl rfl) ?_
  refine vl_nil ?_
  refine v_cond_no rfl (by omega) ?_
  refine v_exit ?_
  refine v_seq ?_
  refine v_region ?_
  refine vl_val (os_assign rfl) ?_
  refine vl_nil ?_
  refine v_ret ?_
  exact post_ret rfl rfl (⟨rfl, hb⟩)
theorem ti_lTexts : TyInfo Try.prog 142 (.slice none 0 0) 1 24 := by unfold TyInfo; kernel_rfl
theorem kit_noneTexts (w : World) : Gives Try.prog 101 #[.slice none 0 0] w fun v w' => v = .bool true ∧ Below w.heap.size w w' := by
  refine gives_enter Try.call101 Try.func101 rfl rfl rfl (by kernel_rfl) ?_
  refine v_seq ?_
  refine v_region ?_
  refine vl_val (os_assign rfl) ?_
  refine vl_nil ?_
  refine v_seq ?_
  refine v_seq ?_
  refine v_region ?_
  refine vl_val (os_assign rfl) ?_
  refine vl_nil ?_
  refine v_block ?_
  refine v_loop [(0, _)] (fun (k : Nat) => [(3, .int .i64 k)]) (fun k w' => k = 0 ∧ Below w.heap.size w w') (fun k => 0) (0) ⟨rfl, trivial⟩ ⟨rfl, trivial⟩ (⟨rfl, Below.refl _ _⟩) ?_
  rintro k w' ⟨rfl, hb⟩
  refine v_seq ?_
  refine v_seq ?_
  refine v_region ?_
  refine vl_val (os_move rfl) ?_
  refine vl_val (os_move rfl) ?_
  refine vl_val (os_len Try.underlying94 rfl) ?_
  refine vl_val (os_lss rfl rfl) ?_
  refine vl_nil ?_
  refine v_cond_no rfl (by omega) ?_
  refine v_exit ?_
  refine v_seq ?_
  refine v_region ?_
  refine vl_val (os_move rfl) ?_
  refine vl_val (os_len Try.underlying94 rfl) ?_
  refine vl_some (ot_make (l := 0) Try.underlying94 ti_lTexts rfl rfl rfl rfl rfl (by omega) (by simp [maxLen]) w'.heap.size (Nat.le_refl _)) ?_
  rintro v1 w1 ⟨rfl, ho1, hg1⟩
  have hb1 := hb.trans (((Below.refl _ _).grown hg1 (Nat.le_refl _) (fun k hk => by cases hk)).mono hb.size)
  refine vl_val (os_assign rfl) ?_
  refine vl_nil ?_
  refine v_seq ?_
  refine v_seq ?_
  refine v_region ?_
  refine vl_val (os_assign rfl) ?_
  refine vl_nil ?_
  refine v_block ?_
  refine v_loop [(0, _), (5, _)] (fun (k : Nat) => [(6, .int .i64 k)]) (fun k w' => k = 0 ∧ Below w.heap.size w w') (fun k => 0) (0) ⟨rfl, rfl, trivial⟩ ⟨rfl, trivial⟩ (⟨rfl, hb1⟩) ?_
  rintro k w' ⟨rfl, hb⟩
  refine v_seq ?_
  refine v_seq ?_
  refine v_region ?_
  refine vl_val (os_move rfl) ?_
  refine vl_val (os_move rfl) ?_
  refine vl_val (os_len Try.underlying94 rfl) ?_
  refine vl_val (os_lss rfl rfl) ?_
  refine vl_nil ?_
  refine v_cond_no rfl (by omega) ?_
  refine v_exit ?_
  refine v_seq ?_
  refine v_seq ?_
  refine v_region ?_
  refine vl_val (os_assign rfl) ?_
  refine vl_nil ?_
  refine v_block ?_
  refine v_loop [(0, _), (5, _)] (fun (k : Nat) => [(9, .int .i64 k)]) (fun k w' => k = 0 ∧ Below w.heap.size w w') (fun k => 0) (0) ⟨rfl, rfl, trivial⟩ ⟨rfl, trivial⟩ (⟨rfl, hb⟩) ?_
  rintro k w' ⟨rfl, hb⟩
  refine v_seq ?_
  refine v_seq ?_
  refine v_region ?_
  refine vl_val (os_move rfl) ?_
  refine vl_val (os_move rfl) ?_
  refine vl_val (os_len Try.underlying94 rfl) ?_
  refine vl_val (os_lss rfl rfl) ?_
  refine vl_nil ?_
  refine v_cond_no rfl (by omega) ?_
  refine v_exit ?_
  refine v_seq ?_
  refine v_seq ?_
  refine v_region ?_
  refine vl_val (os_assign rfl) ?_
  refine vl_nil ?_
  refine v_block ?_
  refine v_loop [(0, _), (5, _)] (fun (k : Nat) => [(11, .int .i64 k)]) (fun k w' => k = 0 ∧ Below w.heap.size w w') (fun k => 0) (0) ⟨rfl, rfl, trivial⟩ ⟨rfl, trivial⟩ (⟨rfl, hb⟩) ?_
  rintro k w' ⟨rfl, hb⟩
  refine v_seq ?_
  refine v_seq ?_
  refine v_region ?_
  refine vl_val (os_move rfl) ?_
  refine vl_val (os_move rfl) ?_
  refine vl_val (os_len Try.underlying94 rfl) ?_
  refine vl_val (os_lss rfl rfl) ?_
  refine vl_nil ?_
  refine v_cond_no rfl (by omega) ?_
  refine v_exit ?_
  refine v_seq ?_
  refine v_seq ?_
  refine v_region ?_
  refine vl_val (os_assign rfl) ?_
  refine vl_nil ?_
  refine v_block ?_
  refine v_loop [(0, _), (5, _)] (fun (k : Nat) => [(14, .int .i64 k)]) (fun k w' => k = 0 ∧ Below w.heap.size w w') (fun k => 0) (0) ⟨rfl, rfl, trivial⟩ ⟨rfl, trivial⟩ (⟨rfl, hb⟩) ?_
  rintro k w' ⟨rfl, hb⟩
  refine v_seq ?_
  refine v_seq ?_
  refine v_region ?_
  refine vl_val (os_move rfl) ?_
  refine vl_val (os_move rfl) ?_
  refine vl_val (os_len Try.underlying94 rfl) ?_
  refine vl_val (os_lss rfl rfl) ?_
  refine vl_nil ?_
  refine v_cond_no rfl (by omega) ?_
  refine v_exit ?_
  refine v_seq ?_
  refine v_region ?_
  refine vl_val (os_assign rfl) ?_
  refine vl_nil ?_
  refine v_ret ?_
  exact post_ret rfl rfl (⟨rfl, hb⟩)
theorem ti_lBytes : TyInfo Try.prog 33 (.slice none 0 0) 1 24 := by unfold TyInfo; kernel_rfl
theorem kit_noneBytes (w : World) : Gives Try.prog 102 #[.slice none 0 0] w fun v w' => v = .bool true ∧ Below w.heap.size w w' := by
  refine gives_enter Try.call102 Try.func102 rfl rfl rfl (by kernel_rfl) ?_
  refine v_seq ?_
  refine v_region ?_
  refine vl_val (os_assign rfl) ?_
  refine vl_nil ?_
  refine v_seq ?_
  refine v_seq ?_
  refine v_region ?_
  refine vl_val (os_assign rfl) ?_
  refine vl_nil ?_
  refine v_block ?_
  refine v_loop [(0, _)] (fun (k : Nat) => [(3, .int .i64 k)]) (fun k w' => k = 0 ∧ Below w.heap.size w w') (fun k => 0) (0) ⟨rfl, trivial⟩ ⟨rfl, trivial⟩ (⟨rfl, Below.refl _ _⟩) ?_
  rintro k w' ⟨rfl, hb⟩
  refine v_seq ?_
  refine v_seq ?_
  refine v_region ?_
  refine vl_val (os_move rfl) ?_
  refine vl_val (os_move rfl) ?_
  refine vl_val (os_len Try.underlying34 rfl) ?_
  refine vl_val (os_lss rfl rfl) ?_
  refine vl_nil ?_
  refine v_cond_no rfl (by omega) ?_
  refine v_exit ?_
  refine v_seq ?_
  refine v_region ?_
  refine vl_val (os_move rfl) ?_
  refine vl_val (os_len Try.underlying34 rfl) ?_
  refine vl_some (ot_make (l := 0) Try.underlying34 ti_lBytes rfl rfl rfl rfl rfl (by omega) (by simp [maxLen]) w'.heap.size (Nat.le_refl _)) ?_
  rintro v1 w1 ⟨rfl, ho1, hg1⟩
  have hb1 := hb.trans (((Below.refl _ _).grown hg1 (Nat.le_refl _) (fun k hk => by cases hk)).mono hb.size)
  refine vl_val (os_assign rfl) ?_
  refine vl_nil ?_
  refine v_seq ?_
  refine v_seq ?_
  refine v_region ?_
  refine vl_val (os_assign rfl) ?_
  refine vl_nil ?_
  refine v_block ?_
  refine v_loop [(0, _), (5, _)] (fun (k : Nat) => [(6, .int .i64 k)]) (fun k w' => k = 0 ∧ Below w.heap.size w w') (fun k => 0) (0) ⟨rfl, rfl, trivial⟩ ⟨rfl, trivial⟩ (⟨rfl, hb1⟩) ?_
  rintro k w' ⟨rfl, hb⟩
  refine v_seq ?_
  refine v_seq ?_
  refine v_region ?_
  refine vl_val (os_move rfl) ?_
  refine vl_val (os_move rfl) ?_
  refine vl_val (os_len Try.underlying34 rfl) ?_
  refine vl_val (os_lss rfl rfl) ?_
  refine vl_nil ?_
  refine v_cond_no rfl (by omega) ?_
  refine v_exit ?_
  refine v_seq ?_
  refine v_seq ?_
  refine v_region ?_
  refine vl_val (os_assign rfl) ?_
  refine vl_nil ?_
  refine v_block ?_
  refine v_loop [(0, _), (5, _)] (fun (k : Nat) => [(9, .int .i64 k)]) (fun k w' => k = 0 ∧ Below w.heap.size w w') (fun k => 0) (0) ⟨rfl, rfl, trivial⟩ ⟨rfl, trivial⟩ (⟨rfl, hb⟩) ?_
  rintro k w' ⟨rfl, hb⟩
  refine v_seq ?_
  refine v_seq ?_
  refine v_region ?_
  refine vl_val (os_move rfl) ?_
  refine vl_val (os_move rfl) ?_
  refine vl_val (os_len Try.underlying34 rfl) ?_
  refine vl_val (os_lss rfl rfl) ?_
  refine vl_nil ?_
  refine v_cond_no rfl (by omega) ?_
  refine v_exit ?_
  refine v_seq ?_
  refine v_seq ?_
  refine v_region ?_
  refine vl_val (os_assign rfl) ?_
  refine vl_nil ?_
  refine v_block ?_
  refine v_loop [(0, _), (5, _)] (fun (k : Nat) => [(11, .int .i64 k)]) (fun k w' => k = 0 ∧ Below w.heap.size w w') (fun k => 0) (0) ⟨rfl, rfl, trivial⟩ ⟨rfl, trivial⟩ (⟨rfl, hb⟩) ?_
  rintro k w' ⟨rfl, hb⟩
  refine v_seq ?_
  refine v_seq ?_
  refine v_region ?_
  refine vl_val (os_move rfl) ?_
  refine vl_val (os_move rfl) ?_
  refine vl_val (os_len Try.underlying34 rfl) ?_
  refine vl_val (os_lss rfl rfl) ?_
  refine vl_nil ?_
  refine v_cond_no rfl (by omega) ?_
  refine v_exit ?_
  refine v_seq ?_
  refine v_seq ?_
  refine v_region ?_
  refine vl_val (os_assign rfl) ?_
  refine vl_nil ?_
  refine v_block ?_
  refine v_loop [(0, _), (5, _)] (fun (k : Nat) => [(14, .int .i64 k)]) (fun k w' => k = 0 ∧ Below w.heap.size w w') (fun k => 0) (0) ⟨rfl, rfl, trivial⟩ ⟨rfl, trivial⟩ (⟨rfl, hb⟩) ?_
  rintro k w' ⟨rfl, hb⟩
  refine v_seq ?_
  refine v_seq ?_
  refine v_region ?_
  refine vl_val (os_move rfl) ?_
  refine vl_val (os_move rfl) ?_
  refine vl_val (os_len Try.underlying34 rfl) ?_
  refine vl_val (os_lss rfl rfl) ?_
  refine vl_nil ?_
  refine v_cond_no rfl (by omega) ?_
  refine v_exit ?_
  refine v_seq ?_
  refine v_region ?_
  refine vl_val (os_assign rfl) ?_
  refine vl_nil ?_
  refine v_ret ?_
  exact post_ret rfl rfl (⟨rfl, hb⟩)
theorem ti_lTruths : TyInfo Try.prog 144 (.slice none 0 0) 1 24 := by unfold TyInfo; kernel_rfl
theorem kit_noneTruths (w : World) : Gives Try.prog 103 #[.slice none 0 0] w fun v w' => v = .bool true ∧ Below w.heap.size w w' := by
  refine gives_enter Try.call103 Try.func103 rfl rfl rfl (by kernel_rfl) ?_
  refine v_seq ?_
  refine v_region ?_
  refine vl_val (os_assign rfl) ?_
  refine vl_nil ?_
  refine v_seq ?_
  refine v_seq ?_
  refine v_region ?_
  refine vl_val (os_assign rfl) ?_
  refine vl_nil ?_
  refine v_block ?_
  refine v_loop [(0, _)] (fun (k : Nat) => [(3, .int .i64 k)]) (fun k w' => k = 0 ∧ Below w.heap.size w w') (fun k => 0) (0) ⟨rfl, trivial⟩ ⟨rfl, trivial⟩ (⟨rfl, Below.refl _ _⟩) ?_
  rintro k w' ⟨rfl, hb⟩
  refine v_seq ?_
  refine v_seq ?_
  refine v_region ?_
  refine vl_val (os_move rfl) ?_
  refine vl_val (os_move rfl) ?_
  refine vl_val (os_len Try.underlying95 rfl) ?_
  refine vl_val (os_lss rfl rfl) ?_
  refine vl_nil ?_
  refine v_cond_no rfl (by omega) ?_
  refine v_exit ?_
  refine v_seq ?_
  refine v_region ?_
  refine vl_val (os_move rfl) ?_
  refine vl_val (os_len Try.underlying95 rfl) ?_
  refine vl_some (ot_make (l := 0) Try.underlying95 ti_lTruths rfl rfl rfl rfl rfl (by omega) (by simp [maxLen]) w'.heap.size (Nat.le_refl _)) ?_
  rintro v1 w1 ⟨rfl, ho1, hg1⟩
  have hb1 := hb.trans (((Below.refl _ _).grown hg1 (Nat.le_refl _) (fun k hk => by cases hk)).mono hb.size)
  refine vl_val (os_assign rfl) ?_
  refine vl_nil ?_
  refine v_seq ?_
  refine v_seq ?_
  refine v_region ?_
  refine vl_val (os_assign rfl) ?_
  refine vl_nil ?_
  refine v_block ?_
  refine v_loop [(0, _), (5, _)] (fun (k : Nat) => [(6, .int .i64 k)]) (fun k w' => k = 0 ∧ Below w.heap.size w w') (fun k => 0) (0) ⟨rfl, rfl, trivial⟩ ⟨rfl, trivial⟩ (⟨rfl, hb1⟩) ?_
  rintro k w' ⟨rfl, hb⟩
  refine v_seq ?_
  refine v_seq ?_
  refine v_region ?_
  refine vl_val (os_move rfl) ?_
  refine vl_val (os_move rfl) ?_
  refine vl_val (os_len Try.underlying95 rfl) ?_
  refine vl_val (os_lss rfl rfl) ?_
  refine vl_nil ?_
  refine v_cond_no rfl (by omega) ?_
  refine v_exit ?_
  refine v_seq ?_
  refine v_seq ?_
  refine v_region ?_
  refine vl_val (os_assign rfl) ?_
  refine vl_nil ?_
  refine v_block ?_
  refine v_loop [(0, _), (5, _)] (fun (k : Nat) => [(9, .int .i64 k)]) (fun k w' => k = 0 ∧ Below w.heap.size w w') (fun k => 0) (0) ⟨rfl, rfl, trivial⟩ ⟨rfl, trivial⟩ (⟨rfl, hb⟩) ?_
  rintro k w' ⟨rfl, hb⟩
  refine v_seq ?_
  refine v_seq ?_
  refine v_region ?_
  refine vl_val (os_move rfl) ?_
  refine vl_val (os_move rfl) ?_
  refine vl_val (os_len Try.underlying95 rfl) ?_
  refine vl_val (os_lss rfl rfl) ?_
  refine vl_nil ?_
  refine v_cond_no rfl (by omega) ?_
  refine v_exit ?_
  refine v_seq ?_
  refine v_seq ?_
  refine v_region ?_
  refine vl_val (os_assign rfl) ?_
  refine vl_nil ?_
  refine v_block ?_
  refine v_loop [(0, _), (5, _)] (fun (k : Nat) => [(11, .int .i64 k)]) (fun k w' => k = 0 ∧ Below w.heap.size w w') (fun k => 0) (0) ⟨rfl, rfl, trivial⟩ ⟨rfl, trivial⟩ (⟨rfl, hb⟩) ?_
  rintro k w' ⟨rfl, hb⟩
  refine v_seq ?_
  refine v_seq ?_
  refine v_region ?_
  refine vl_val (os_move rfl) ?_
  refine vl_val (os_move rfl) ?_
  refine vl_val (os_len Try.underlying95 rfl) ?_
  refine vl_val (os_lss rfl rfl) ?_
  refine vl_nil ?_
  refine v_cond_no rfl (by omega) ?_
  refine v_exit ?_
  refine v_seq ?_
  refine v_seq ?_
  refine v_region ?_
  refine vl_val (os_assign rfl) ?_
  refine vl_nil ?_
  refine v_block ?_
  refine v_loop [(0, _), (5, _)] (fun (k : Nat) => [(14, .int .i64 k)]) (fun k w' => k = 0 ∧ Below w.heap.size w w') (fun k => 0) (0) ⟨rfl, rfl, trivial⟩ ⟨rfl, trivial⟩ (⟨rfl, hb⟩) ?_
  rintro k w' ⟨rfl, hb⟩
  refine v_seq ?_
  refine v_seq ?_
  refine v_region ?_
  refine vl_val (os_move rfl) ?_
  refine vl_val (os_move rfl) ?_
  refine vl_val (os_len Try.underlying95 rfl) ?_
  refine vl_val (os_lss rfl rfl) ?_
  refine vl_nil ?_
  refine v_cond_no rfl (by omega) ?_
  refine v_exit ?_
  refine v_seq ?_
  refine v_region ?_
  refine vl_val (os_assign rfl) ?_
  refine vl_nil ?_
  refine v_ret ?_
  exact post_ret rfl rfl (⟨rfl, hb⟩)
theorem ti_lLayers : TyInfo Try.prog 145 (.slice none 0 0) 1 24 := by unfold TyInfo; kernel_rfl
theorem kit_noneLayers (w : World) : Gives Try.prog 104 #[.slice none 0 0] w fun v w' => v = .bool true ∧ Below w.heap.size w w' := by
  refine gives_enter Try.call104 Try.func104 rfl rfl rfl (by kernel_rfl) ?_
  refine v_seq ?_
  refine v_region ?_
  refine vl_val (os_assign rfl) ?_
  refine vl_nil ?_
  refine v_seq ?_
  refine v_seq ?_
  refine v_region ?_
  refine vl_val (os_assign rfl) ?_
  refine vl_nil ?_
  refine v_block ?_
  refine v_loop [(0, _)] (fun (k : Nat) => [(3, .int .i64 k)]) (fun k w' => k = 0 ∧ Below w.heap.size w w') (fun k => 0) (0) ⟨rfl, trivial⟩ ⟨rfl, trivial⟩ (⟨rfl, Below.refl _ _⟩) ?_
  rintro k w' ⟨rfl, hb⟩
  refine v_seq ?_
  refine v_seq ?_
  refine v_region ?_
  refine vl_val (os_move rfl) ?_
  refine vl_val (os_move rfl) ?_
  refine vl_val (os_len Try.underlying96 rfl) ?_
  refine vl_val (os_lss rfl rfl) ?_
  refine vl_nil ?_
  refine v_cond_no rfl (by omega) ?_
  refine v_exit ?_
  refine v_seq ?_
  refine v_region ?_
  refine vl_val (os_move rfl) ?_
  refine vl_val (os_len Try.underlying96 rfl) ?_
  refine vl_some (ot_make (l := 0) Try.underlying96 ti_lLayers rfl rfl rfl rfl rfl (by omega) (by simp [maxLen]) w'.heap.size (Nat.le_refl _)) ?_
  rintro v1 w1 ⟨rfl, ho1, hg1⟩
  have hb1 := hb.trans (((Below.refl _ _).grown hg1 (Nat.le_refl _) (fun k hk => by cases hk)).mono hb.size)
  refine vl_val (os_assign rfl) ?_
  refine vl_nil ?_
  refine v_seq ?_
  refine v_seq ?_
  refine v_region ?_
  refine vl_val (os_assign rfl) ?_
  refine vl_nil ?_
  refine v_block ?_
  refine v_loop [(0, _), (5, _)] (fun (k : Nat) => [(6, .int .i64 k)]) (fun k w' => k = 0 ∧ Below w.heap.size w w') (fun k => 0) (0) ⟨rfl, rfl, trivial⟩ ⟨rfl, trivial⟩ (⟨rfl, hb1⟩) ?_
  rintro k w' ⟨rfl, hb⟩
  refine v_seq ?_
  refine v_seq ?_
  refine v_region ?_
  refine vl_val (os_move rfl) ?_
  refine vl_val (os_move rfl) ?_
  refine vl_val (os_len Try.underlying96 rfl) ?_
  refine vl_val (os_lss rfl rfl) ?_
  refine vl_nil ?_
  refine v_cond_no rfl (by omega) ?_
  refine v_exit ?_
  refine v_seq ?_
  refine v_seq ?_
  refine v_region ?_
  refine vl_val (os_assign rfl) ?_
  refine vl_nil ?_
  refine v_block ?_
  refine v_loop [(0, _), (5, _)] (fun (k : Nat) => [(9, .int .i64 k)]) (fun k w' => k = 0 ∧ Below w.heap.size w w') (fun k => 0) (0) ⟨rfl, rfl, trivial⟩ ⟨rfl, trivial⟩ (⟨rfl, hb⟩) ?_
  rintro k w' ⟨rfl, hb⟩
  refine v_seq ?_
  refine v_seq ?_
  refine v_region ?_
  refine vl_val (os_move rfl) ?_
  refine vl_val (os_move rfl) ?_
  refine vl_val (os_len Try.underlying96 rfl) ?_
  refine vl_val (os_lss rfl rfl) ?_
  refine vl_nil ?_
  refine v_cond_no rfl (by omega) ?_
  refine v_exit ?_
  refine v_seq ?_
  refine v_seq ?_
  refine v_region ?_
  refine vl_val (os_assign rfl) ?_
  refine vl_nil ?_
  refine v_block ?_
  refine v_loop [(0, _), (5, _)] (fun (k : Nat) => [(11, .int .i64 k)]) (fun k w' => k = 0 ∧ Below w.heap.size w w') (fun k => 0) (0) ⟨rfl, rfl, trivial⟩ ⟨rfl, trivial⟩ (⟨rfl, hb⟩) ?_
  rintro k w' ⟨rfl, hb⟩
  refine v_seq ?_
  refine v_seq ?_
  refine v_region ?_
  refine vl_val (os_move rfl) ?_
  refine vl_val (os_move rfl) ?_
  refine vl_val (os_len Try.underlying96 rfl) ?_
  refine vl_val (os_lss rfl rfl) ?_
  refine vl_nil ?_
  refine v_cond_no rfl (by omega) ?_
  refine v_exit ?_
  refine v_seq ?_
  refine v_seq ?_
  refine v_region ?_
  refine vl_val (os_assign rfl) ?_
  refine vl_nil ?_
  refine v_block ?_
  refine v_loop [(0, _), (5, _)] (fun (k : Nat) => [(14, .int .i64 k)]) (fun k w' => k = 0 ∧ Below w.heap.size w w') (fun k => 0) (0) ⟨rfl, rfl, trivial⟩ ⟨rfl, trivial⟩ (⟨rfl, hb⟩) ?_
  rintro k w' ⟨rfl, hb⟩
  refine v_seq ?_
  refine v_seq ?_
  refine v_region ?_
  refine vl_val (os_move rfl) ?_
  refine vl_val (os_move rfl) ?_
  refine vl_val (os_len Try.underlying96 rfl) ?_
  refine vl_val (os_lss rfl rfl) ?_
  refine vl_nil ?_
  refine v_cond_no rfl (by omega) ?_
  refine v_exit ?_
  refine v_seq ?_
  refine v_region ?_
  refine vl_val (os_assign rfl) ?_
  refine vl_nil ?_
  refine v_ret ?_
  exact post_ret rfl rfl (⟨rfl, hb⟩)
theorem ti_lTable : TyInfo Try.prog 58 (.slice none 0 0) 1 24 := by unfold TyInfo; kernel_rfl
theorem kit_noneTable (w : World) : Gives Try.prog 105 #[.slice none 0 0] w fun v w' => v = .bool true ∧ Below w.heap.size w w' := by
  refine gives_enter Try.call105 Try.func105 rfl rfl rfl (by kernel_rfl) ?_
  refine v_seq ?_
  refine v_region ?_
  refine vl_val (os_assign rfl) ?_
  refine vl_nil ?_
  refine v_seq ?_
  refine v_seq ?_
  refine v_region ?_
  refine vl_val (os_assign rfl) ?_
  refine vl_nil ?_
  refine v_block ?_
  refine v_loop [(0, _)] (fun (k : Nat) => [(3, .int .i64 k)]) (fun k w' => k = 0 ∧ Below w.heap.size w w') (fun k => 0) (0) ⟨rfl, trivial⟩ ⟨rfl, trivial⟩ (⟨rfl, Below.refl _ _⟩) ?_
  rintro k w' ⟨rfl, hb⟩
  refine v_seq ?_
  refine v_seq ?_
  refine v_region ?_
  refine vl_val (os_move rfl) ?_
  refine vl_val (os_move rfl) ?_
  refine vl_val (os_len Try.underlying97 rfl) ?_
  refine vl_val (os_lss rfl rfl) ?_
  refine vl_nil ?_
  refine v_cond_no rfl (by omega) ?_
  refine v_exit ?_
  refine v_seq ?_
  refine v_region ?_
  refine vl_val (os_move rfl) ?_
  refine vl_val (os_len Try.underlying97 rfl) ?_
  refine vl_some (ot_make (l := 0) Try.underlying97 ti_lTable rfl rfl rfl rfl rfl (by omega) (by simp [maxLen]) w'.heap.size (Nat.le_refl _)) ?_
  rintro v1 w1 ⟨rfl, ho1, hg1⟩
  have hb1 := hb.trans (((Below.refl _ _).grown hg1 (Nat.le_refl _) (fun k hk => by cases hk)).mono hb.size)
  refine vl_val (os_assign rfl) ?_
  refine vl_nil ?_
  refine v_seq ?_
  refine v_seq ?_
  refine v_region ?_
  refine vl_val (os_assign rfl) ?_
  refine vl_nil ?_
  refine v_block ?_
  refine v_loop [(0, _), (5, _)] (fun (k : Nat) => [(6, .int .i64 k)]) (fun k w' => k = 0 ∧ Below w.heap.size w w') (fun k => 0) (0) ⟨rfl, rfl, trivial⟩ ⟨rfl, trivial⟩ (⟨rfl, hb1⟩) ?_
  rintro k w' ⟨rfl, hb⟩
  refine v_seq ?_
  refine v_seq ?_
  refine v_region ?_
  refine vl_val (os_move rfl) ?_
  refine vl_val (os_move rfl) ?_
  refine vl_val (os_len Try.underlying97 rfl) ?_
  refine vl_val (os_lss rfl rfl) ?_
  refine vl_nil ?_
  refine v_cond_no rfl (by omega) ?_
  refine v_exit ?_
  refine v_seq ?_
  refine v_seq ?_
  refine v_region ?_
  refine vl_val (os_assign rfl) ?_
  refine vl_nil ?_
  refine v_block ?_
  refine v_loop [(0, _), (5, _)] (fun (k : Nat) => [(9, .int .i64 k)]) (fun k w' => k = 0 ∧ Below w.heap.size w w') (fun k => 0) (0) ⟨rfl, rfl, trivial⟩ ⟨rfl, trivial⟩ (⟨rfl, hb⟩) ?_
  rintro k w' ⟨rfl, hb⟩
  refine v_seq ?_
  refine v_seq ?_
  refine v_region ?_
  refine vl_val (os_move rfl) ?_
  refine vl_val (os_move rfl) ?_
  refine vl_val (os_len Try.underlying97 rfl) ?_
  refine vl_val (os_lss rfl rfl) ?_
  refine vl_nil ?_
  refine v_cond_no rfl (by omega) ?_
  refine v_exit ?_
  refine v_seq ?_
  refine v_seq ?_
  refine v_region ?_
  refine vl_val (os_assign rfl) ?_
  refine vl_nil ?_
  refine v_block ?_
  refine v_loop [(0, _), (5, _)] (fun (k : Nat) => [(11, .int .i64 k)]) (fun k w' => k = 0 ∧ Below w.heap.size w w') (fun k => 0) (0) ⟨rfl, rfl, trivial⟩ ⟨rfl, trivial⟩ (⟨rfl, hb⟩) ?_
  rintro k w' ⟨rfl, hb⟩
  refine v_seq ?_
  refine v_seq ?_
  refine v_region ?_
  refine vl_val (os_move rfl) ?_
  refine vl_val (os_move rfl) ?_
  refine vl_val (os_len Try.underlying97 rfl) ?_
  refine vl_val (os_lss rfl rfl) ?_
  refine vl_nil ?_
  refine v_cond_no rfl (by omega) ?_
  refine v_exit ?_
  refine v_seq ?_
  refine v_seq ?_
  refine v_region ?_
  refine vl_val (os_assign rfl) ?_
  refine vl_nil ?_
  refine v_block ?_
  refine v_loop [(0, _), (5, _)] (fun (k : Nat) => [(14, .int .i64 k)]) (fun k w' => k = 0 ∧ Below w.heap.size w w') (fun k => 0) (0) ⟨rfl, rfl, trivial⟩ ⟨rfl, trivial⟩ (⟨rfl, hb⟩) ?_
  rintro k w' ⟨rfl, hb⟩
  refine v_seq ?_
  refine v_seq ?_
  refine v_region ?_
  refine vl_val (os_move rfl) ?_
  refine vl_val (os_move rfl) ?_
  refine vl_val (os_len Try.underlying97 rfl) ?_
  refine vl_val (os_lss rfl rfl) ?_
  refine vl_nil ?_
  refine v_cond_no rfl (by omega) ?_
  refine v_exit ?_
  refine v_seq ?_
  refine v_region ?_
  refine vl_val (os_assign rfl) ?_
  refine vl_nil ?_
  refine v_ret ?_
  exact post_ret rfl rfl (⟨rfl, hb⟩)
theorem ti_lHeads : TyInfo Try.prog 150 (.slice none 0 0) 1 24 := by unfold TyInfo; kernel_rfl
theorem kit_noneHeads (w : World) : Gives Try.prog 106 #[.slice none 0 0] w fun v w' => v = .bool true ∧ Below w.heap.size w w' := by
  refine gives_enter Try.call106 Try.func106 rfl rfl rfl (by kernel_rfl) ?_
  refine v_seq ?_
  refine v_region ?_
  refine vl_val (os_assign rfl) ?_
  refine vl_nil ?_
  refine v_seq ?_
  refine v_seq ?_
  refine v_region ?_
  refine vl_val (os_assign rfl) ?_
  refine vl_nil ?_
  refine v_block ?_
  refine v_loop [(0, _)] (fun (k : Nat) => [(3, .int .i64 k)]) (fun k w' => k = 0 ∧ Below w.heap.size w w') (fun k => 0) (0) ⟨rfl, trivial⟩ ⟨rfl, trivial⟩ (⟨rfl, Below.refl _ _⟩) ?_
  rintro k w' ⟨rfl, hb⟩
  refine v_seq ?_
  refine v_seq ?_
  refine v_region ?_
  refine vl_val (os_move rfl) ?_
  refine vl_val (os_move rfl) ?_
  refine vl_val (os_len Try.underlying98 rfl) ?_
  refine vl_val (os_lss rfl rfl) ?_
  refine vl_nil ?_
  refine v_cond_no rfl (by omega) ?_
  refine v_exit ?_
  refine v_seq ?_
  refine v_region ?_
  refine vl_val (os_move rfl) ?_
  refine vl_val (os_len Try.underlying98 rfl) ?_
  refine vl_some (ot_make (l := 0) Try.underlying98 ti_lHeads rfl rfl rfl rfl rfl (by omega) (by simp [maxLen]) w'.heap.size (Nat.le_refl _)) ?_
  rintro v1 w1 ⟨rfl, ho1, hg1⟩
  have hb1 := hb.trans (((Below.refl _ _).grown hg1 (Nat.le_refl _) (fun k hk => by cases hk)).mono hb.size)
  refine vl_val (os_assign rfl) ?_
  refine vl_nil ?_
  refine v_seq ?_
  refine v_seq ?_
  refine v_region ?_
  refine vl_val (os_assign rfl) ?_
  refine vl_nil ?_
  refine v_block ?_
  refine v_loop [(0, _), (5, _)] (fun (k : Nat) => [(6, .int .i64 k)]) (fun k w' => k = 0 ∧ Below w.heap.size w w') (fun k => 0) (0) ⟨rfl, rfl, trivial⟩ ⟨rfl, trivial⟩ (⟨rfl, hb1⟩) ?_
  rintro k w' ⟨rfl, hb⟩
  refine v_seq ?_
  refine v_seq ?_
  refine v_region ?_
  refine vl_val (os_move rfl) ?_
  refine vl_val (os_move rfl) ?_
  refine vl_val (os_len Try.underlying98 rfl) ?_
  refine vl_val (os_lss rfl rfl) ?_
  refine vl_nil ?_
  refine v_cond_no rfl (by omega) ?_
  refine v_exit ?_
  refine v_seq ?_
  refine v_seq ?_
  refine v_region ?_
  refine vl_val (os_assign rfl) ?_
  refine vl_nil ?_
  refine v_block ?_
  refine v_loop [(0, _), (5, _)] (fun (k : Nat) => [(9, .int .i64 k)]) (fun k w' => k = 0 ∧ Below w.heap.size w w') (fun k => 0) (0) ⟨rfl, rfl, trivial⟩ ⟨rfl, trivial⟩ (⟨rfl, hb⟩) ?_
  rintro k w' ⟨rfl, hb⟩
  refine v_seq ?_
  refine v_seq ?_
  refine v_region ?_
  refine vl_val (os_move rfl) ?_
  refine vl_val (os_move rfl) ?_
  refine vl_val (os_len Try.underlying98 rfl) ?_
  refine vl_val (os_lss rfl rfl) ?_
  refine vl_nil ?_
  refine v_cond_no rfl (by omega) ?_
  refine v_exit ?_
  refine v_seq ?_
  refine v_seq ?_
  refine v_region ?_
  refine vl_val (os_assign rfl) ?_
  refine vl_nil ?_
  refine v_block ?_
  refine v_loop [(0, _), (5, _)] (fun (k : Nat) => [(11, .int .i64 k)]) (fun k w' => k = 0 ∧ Below w.heap.size w w') (fun k => 0) (0) ⟨rfl, rfl, trivial⟩ ⟨rfl, trivial⟩ (⟨rfl, hb⟩) ?_
  rintro k w' ⟨rfl, hb⟩
  refine v_seq ?_
  refine v_seq ?_
  refine v_region ?_
  refine vl_val (os_move rfl) ?_
  refine vl_val (os_move rfl) ?_
  refine vl_val (os_len Try.underlying98 rfl) ?_
  refine vl_val (os_lss rfl rfl) ?_
  refine vl_nil ?_
  refine v_cond_no rfl (by omega) ?_
  refine v_exit ?_
  refine v_seq ?_
  refine v_seq ?_
  refine v_region ?_
  refine vl_val (os_assign rfl) ?_
  refine vl_nil ?_
  refine v_block ?_
  refine v_loop [(0, _), (5, _)] (fun (k : Nat) => [(14, .int .i64 k)]) (fun k w' => k = 0 ∧ Below w.heap.size w w') (fun k => 0) (0) ⟨rfl, rfl, trivial⟩ ⟨rfl, trivial⟩ (⟨rfl, hb⟩) ?_
  rintro k w' ⟨rfl, hb⟩
  refine v_seq ?_
  refine v_seq ?_
  refine v_region ?_
  refine vl_val (os_move rfl) ?_
  refine vl_val (os_move rfl) ?_
  refine vl_val (os_len Try.underlying98 rfl) ?_
  refine vl_val (os_lss rfl rfl) ?_
  refine vl_nil ?_
  refine v_cond_no rfl (by omega) ?_
  refine v_exit ?_
  refine v_seq ?_
  refine v_region ?_
  refine vl_val (os_assign rfl) ?_
  refine vl_nil ?_
  refine v_ret ?_
  exact post_ret rfl rfl (⟨rfl, hb⟩)
theorem ti_lCounts : TyInfo Try.prog 155 (.slice none 0 0) 1 24 := by unfold TyInfo; kernel_rfl
theorem kit_noneCounts (w : World) : Gives Try.prog 107 #[.slice none 0 0] w fun v w' => v = .bool true ∧ Below w.heap.size w w' := by
  refine gives_enter Try.call107 Try.func107 rfl rfl rfl (by kernel_rfl) ?_
  refine v_seq ?_
  refine v_region ?_
  refine vl_val (os_assign rfl) ?_
  refine vl_nil ?_
  refine v_seq ?_
  refine v_seq ?_
  refine v_region ?_
  refine vl_val (os_assign rfl) ?_
  refine vl_nil ?_
  refine v_block ?_
  refine v_loop [(0, _)] (fun (k : Nat) => [(3, .int .i64 k)]) (fun k w' => k = 0 ∧ Below w.heap.size w w') (fun k => 0) (0) ⟨rfl, trivial⟩ ⟨rfl, trivial⟩ (⟨rfl, Below.refl _ _⟩) ?_
  rintro k w' ⟨rfl, hb⟩
  refine v_seq ?_
  refine v_seq ?_
  refine v_region ?_
  refine vl_val (os_move rfl) ?_
  refine vl_val (os_move rfl) ?_
  refine vl_val (os_len Try.underlying99 rfl) ?_
  refine vl_val (os_lss rfl rfl) ?_
  refine vl_nil ?_
  refine v_cond_no rfl (by omega) ?_
  refine v_exit ?_
  refine v_seq ?_
  refine v_region ?_
  refine vl_val (os_move rfl) ?_
  refine vl_val (os_len Try.underlying99 rfl) ?_
  refine vl_some (ot_make (l := 0) Try.underlying99 ti_lCounts rfl rfl rfl rfl rfl (by omega) (by simp [maxLen]) w'.heap.size (Nat.le_refl _)) ?_
  rintro v1 w1 ⟨rfl, ho1, hg1⟩
  have hb1 := hb.trans (((Below.refl _ _).grown hg1 (Nat.le_refl _) (fun k hk => by cases hk)).mono hb.size)
  refine vl_val (os_assign rfl) ?_
  refine vl_nil ?_
  refine v_seq ?_
  refine v_seq ?_
  refine v_region ?_
  refine vl_val (os_assign rfl) ?_
  refine vl_nil ?_
  refine v_block ?_
  refine v_loop [(0, _), (5, _)] (fun (k : Nat) => [(6, .int .i64 k)]) (fun k w' => k = 0 ∧ Below w.heap.size w w') (fun k => 0) (0) ⟨rfl, rfl, trivial⟩ ⟨rfl, trivial⟩ (⟨rfl, hb1⟩) ?_
  rintro k w' ⟨rfl, hb⟩
  refine v_seq ?_
  refine v_seq ?_
  refine v_region ?_
  refine vl_val (os_move rfl) ?_
  refine vl_val (os_move rfl) ?_
  refine vl_val (os_len Try.underlying99 rfl) ?_
  refine vl_val (os_lss rfl rfl) ?_
  refine vl_nil ?_
  refine v_cond_no rfl (by omega) ?_
  refine v_exit ?_
  refine v_seq ?_
  refine v_seq ?_
  refine v_region ?_
  refine vl_val (os_assign rfl) ?_
  refine vl_nil ?_
  refine v_block ?_
  refine v_loop [(0, _), (5, _)] (fun (k : Nat) => [(9, .int .i64 k)]) (fun k w' => k = 0 ∧ Below w.heap.size w w') (fun k => 0) (0) ⟨rfl, rfl, trivial⟩ ⟨rfl, trivial⟩ (⟨rfl, hb⟩) ?_
  rintro k w' ⟨rfl, hb⟩
  refine v_seq ?_
  refine v_seq ?_
  refine v_region ?_
  refine vl_val (os_move rfl) ?_
  refine vl_val (os_move rfl) ?_
  refine vl_val (os_len Try.underlying99 rfl) ?_
  refine vl_val (os_lss rfl rfl) ?_
  refine vl_nil ?_
  refine v_cond_no rfl (by omega) ?_
  refine v_exit ?_
  refine v_seq ?_
  refine v_seq ?_
  refine v_region ?_
  refine vl_val (os_assign rfl) ?_
  refine vl_nil ?_
  refine v_block ?_
  refine v_loop [(0, _), (5, _)] (fun (k : Nat) => [(11, .int .i64 k)]) (fun k w' => k = 0 ∧ Below w.heap.size w w') (fun k => 0) (0) ⟨rfl, rfl, trivial⟩ ⟨rfl, trivial⟩ (⟨rfl, hb⟩) ?_
  rintro k w' ⟨rfl, hb⟩
  refine v_seq ?_
  refine v_seq ?_
  refine v_region ?_
  refine vl_val (os_move rfl) ?_
  refine vl_val (os_move rfl) ?_
  refine vl_val (os_len Try.underlying99 rfl) ?_
  refine vl_val (os_lss rfl rfl) ?_
  refine vl_nil ?_
  refine v_cond_no rfl (by omega) ?_
  refine v_exit ?_
  refine v_seq ?_
  refine v_seq ?_
  refine v_region ?_
  refine vl_val (os_assign rfl) ?_
  refine vl_nil ?_
  refine v_block ?_
  refine v_loop [(0, _), (5, _)] (fun (k : Nat) => [(14, .int .i64 k)]) (fun k w' => k = 0 ∧ Below w.heap.size w w') (fun k => 0) (0) ⟨rfl, rfl, trivial⟩ ⟨rfl, trivial⟩ (⟨rfl, hb⟩) ?_
  rintro k w' ⟨rfl, hb⟩
  refine v_seq ?_
  refine v_seq ?_
  refine v_region ?_
  refine vl_val (os_move rfl) ?_
  refine vl_val (os_move rfl) ?_
  refine vl_val (os_len Try.underlying99 rfl) ?_
  refine vl_val (os_lss rfl rfl) ?_
  refine vl_nil ?_
  refine v_cond_no rfl (by omega) ?_
  refine v_exit ?_
  refine v_seq ?_
  refine v_region ?_
  refine vl_val (os_assign rfl) ?_
  refine vl_nil ?_
  refine v_ret ?_
  exact post_ret rfl rfl (⟨rfl, hb⟩)
theorem ti_lNotes : TyInfo Try.prog 159 (.slice none 0 0) 1 24 := by unfold TyInfo; kernel_rfl
theorem kit_noneNotes (w : World) : Gives Try.prog 108 #[.slice none 0 0] w fun v w' => v = .bool true ∧ Below w.heap.size w w' := by
  refine gives_enter Try.call108 Try.func108 rfl rfl rfl (by kernel_rfl) ?_
  refine v_seq ?_
  refine v_region ?_
  refine vl_val (os_assign rfl) ?_
  refine vl_nil ?_
  refine v_seq ?_
  refine v_seq ?_
  refine v_region ?_
  refine vl_val (os_assign rfl) ?_
  refine vl_nil ?_
  refine v_block ?_
  refine v_loop [(0, _)] (fun (k : Nat) => [(3, .int .i64 k)]) (fun k w' => k = 0 ∧ Below w.heap.size w w') (fun k => 0) (0) ⟨rfl, trivial⟩ ⟨rfl, trivial⟩ (⟨rfl, Below.refl _ _⟩) ?_
  rintro k w' ⟨rfl, hb⟩
  refine v_seq ?_
  refine v_seq ?_
  refine v_region ?_
  refine vl_val (os_move rfl) ?_
  refine vl_val (os_move rfl) ?_
  refine vl_val (os_len Try.underlying100 rfl) ?_
  refine vl_val (os_lss rfl rfl) ?_
  refine vl_nil ?_
  refine v_cond_no rfl (by omega) ?_
  refine v_exit ?_
  refine v_seq ?_
  refine v_region ?_
  refine vl_val (os_move rfl) ?_
  refine vl_val (os_len Try.underlying100 rfl) ?_
  refine vl_some (ot_make (l := 0) Try.underlying100 ti_lNotes rfl rfl rfl rfl rfl (by omega) (by simp [maxLen]) w'.heap.size (Nat.le_refl _)) ?_
  rintro v1 w1 ⟨rfl, ho1, hg1⟩
  have hb1 := hb.trans (((Below.refl _ _).grown hg1 (Nat.le_refl _) (fun k hk => by cases hk)).mono hb.size)
  refine vl_val (os_assign rfl) ?_
  refine vl_nil ?_
  refine v_seq ?_
  refine v_seq ?_
  refine v_region ?_
  refine vl_val (os_assign rfl) ?_
  refine vl_nil ?_
  refine v_block ?_
  refine v_loop [(0, _), (5, _)] (fun (k : Nat) => [(6, .int .i64 k)]) (fun k w' => k = 0 ∧ Below w.heap.size w w') (fun k => 0) (0) ⟨rfl, rfl, trivial⟩ ⟨rfl, trivial⟩ (⟨rfl, hb1⟩) ?_
  rintro k w' ⟨rfl, hb⟩
  refine v_seq ?_
  refine v_seq ?_
  refine v_region ?_
  refine vl_val (os_move rfl) ?_
  refine vl_val (os_move rfl) ?_
  refine vl_val (os_len Try.underlying100 rfl) ?_
  refine vl_val (os_lss rfl rfl) ?_
  refine vl_nil ?_
  refine v_cond_no rfl (by omega) ?_
  refine v_exit ?_
  refine v_seq ?_
  refine v_seq ?_
  refine v_region ?_
  refine vl_val (os_assign rfl) ?_
  refine vl_nil ?_
  refine v_block ?_
  refine v_loop [(0, _), (5, _)] (fun (k : Nat) => [(9, .int .i64 k)]) (fun k w' => k = 0 ∧ Below w.heap.size w w') (fun k => 0) (0) ⟨rfl, rfl, trivial⟩ ⟨rfl, trivial⟩ (⟨rfl, hb⟩) ?_
  rintro k w' ⟨rfl, hb⟩
  refine v_seq ?_
  refine v_seq ?_
  refine v_region ?_
  refine vl_val (os_move rfl) ?_
  refine vl_val (os_move rfl) ?_
  refine vl_val (os_len Try.underlying100 rfl) ?_
  refine vl_val (os_lss rfl rfl) ?_
  refine vl_nil ?_
  refine v_cond_no rfl (by omega) ?_
  refine v_exit ?_
  refine v_seq ?_
  refine v_seq ?_
  refine v_region ?_
  refine vl_val (os_assign rfl) ?_
  refine vl_nil ?_
  refine v_block ?_
  refine v_loop [(0, _), (5, _)] (fun (k : Nat) => [(11, .int .i64 k)]) (fun k w' => k = 0 ∧ Below w.heap.size w w') (fun k => 0) (0) ⟨rfl, rfl, trivial⟩ ⟨rfl, trivial⟩ (⟨rfl, hb⟩) ?_
  rintro k w' ⟨rfl, hb⟩
  refine v_seq ?_
  refine v_seq ?_
  refine v_region ?_
  refine vl_val (os_move rfl) ?_
  refine vl_val (os_move rfl) ?_
  refine vl_val (os_len Try.underlying100 rfl) ?_
  refine vl_val (os_lss rfl rfl) ?_
  refine vl_nil ?_
  refine v_cond_no rfl (by omega) ?_
  refine v_exit ?_
  refine v_seq ?_
  refine v_seq ?_
  refine v_region ?_
  refine vl_val (os_assign rfl) ?_
  refine vl_nil ?_
  refine v_block ?_
  refine v_loop [(0, _), (5, _)] (fun (k : Nat) => [(14, .int .i64 k)]) (fun k w' => k = 0 ∧ Below w.heap.size w w') (fun k => 0) (0) ⟨rfl, rfl, trivial⟩ ⟨rfl, trivial⟩ (⟨rfl, hb⟩) ?_
  rintro k w' ⟨rfl, hb⟩
  refine v_seq ?_
  refine v_seq ?_
  refine v_region ?_
  refine vl_val (os_move rfl) ?_
  refine vl_val (os_move rfl) ?_
  refine vl_val (os_len Try.underlying100 rfl) ?_
  refine vl_val (os_lss rfl rfl) ?_
  refine vl_nil ?_
  refine v_cond_no rfl (by omega) ?_
  refine v_exit ?_
  refine v_seq ?_
  refine v_region ?_
  refine vl_val (os_assign rfl) ?_
  refine vl_nil ?_
  refine v_ret ?_
  exact post_ret rfl rfl (⟨rfl, hb⟩)
theorem ti_lFates : TyInfo Try.prog 164 (.slice none 0 0) 1 24 := by unfold TyInfo; kernel_rfl
theorem kit_noneFates (w : World) : Gives Try.prog 109 #[.slice none 0 0] w fun v w' => v = .bool true ∧ Below w.heap.size w w' := by
  refine gives_enter Try.call109 Try.func109 rfl rfl rfl (by kernel_rfl) ?_
  refine v_seq ?_
  refine v_region ?_
  refine vl_val (os_assign rfl) ?_
  refine vl_nil ?_
  refine v_seq ?_
  refine v_seq ?_
  refine v_region ?_
  refine vl_val (os_assign rfl) ?_
  refine vl_nil ?_
  refine v_block ?_
  refine v_loop [(0, _)] (fun (k : Nat) => [(3, .int .i64 k)]) (fun k w' => k = 0 ∧ Below w.heap.size w w') (fun k => 0) (0) ⟨rfl, trivial⟩ ⟨rfl, trivial⟩ (⟨rfl, Below.refl _ _⟩) ?_
  rintro k w' ⟨rfl, hb⟩
  refine v_seq ?_
  refine v_seq ?_
  refine v_region ?_
  refine vl_val (os_move rfl) ?_
  refine vl_val (os_move rfl) ?_
  refine vl_val (os_len Try.underlying101 rfl) ?_
  refine vl_val (os_lss rfl rfl) ?_
  refine vl_nil ?_
  refine v_cond_no rfl (by omega) ?_
  refine v_exit ?_
  refine v_seq ?_
  refine v_region ?_
  refine vl_val (os_move rfl) ?_
  refine vl_val (os_len Try.underlying101 rfl) ?_
  refine vl_some (ot_make (l := 0) Try.underlying101 ti_lFates rfl rfl rfl rfl rfl (by omega) (by simp [maxLen]) w'.heap.size (Nat.le_refl _)) ?_
  rintro v1 w1 ⟨rfl, ho1, hg1⟩
  have hb1 := hb.trans (((Below.refl _ _).grown hg1 (Nat.le_refl _) (fun k hk => by cases hk)).mono hb.size)
  refine vl_val (os_assign rfl) ?_
  refine vl_nil ?_
  refine v_seq ?_
  refine v_seq ?_
  refine v_region ?_
  refine vl_val (os_assign rfl) ?_
  refine vl_nil ?_
  refine v_block ?_
  refine v_loop [(0, _), (5, _)] (fun (k : Nat) => [(6, .int .i64 k)]) (fun k w' => k = 0 ∧ Below w.heap.size w w') (fun k => 0) (0) ⟨rfl, rfl, trivial⟩ ⟨rfl, trivial⟩ (⟨rfl, hb1⟩) ?_
  rintro k w' ⟨rfl, hb⟩
  refine v_seq ?_
  refine v_seq ?_
  refine v_region ?_
  refine vl_val (os_move rfl) ?_
  refine vl_val (os_move rfl) ?_
  refine vl_val (os_len Try.underlying101 rfl) ?_
  refine vl_val (os_lss rfl rfl) ?_
  refine vl_nil ?_
  refine v_cond_no rfl (by omega) ?_
  refine v_exit ?_
  refine v_seq ?_
  refine v_seq ?_
  refine v_region ?_
  refine vl_val (os_assign rfl) ?_
  refine vl_nil ?_
  refine v_block ?_
  refine v_loop [(0, _), (5, _)] (fun (k : Nat) => [(9, .int .i64 k)]) (fun k w' => k = 0 ∧ Below w.heap.size w w') (fun k => 0) (0) ⟨rfl, rfl, trivial⟩ ⟨rfl, trivial⟩ (⟨rfl, hb⟩) ?_
  rintro k w' ⟨rfl, hb⟩
  refine v_seq ?_
  refine v_seq ?_
  refine v_region ?_
  refine vl_val (os_move rfl) ?_
  refine vl_val (os_move rfl) ?_
  refine vl_val (os_len Try.underlying101 rfl) ?_
  refine vl_val (os_lss rfl rfl) ?_
  refine vl_nil ?_
  refine v_cond_no rfl (by omega) ?_
  refine v_exit ?_
  refine v_seq ?_
  refine v_seq ?_
  refine v_region ?_
  refine vl_val (os_assign rfl) ?_
  refine vl_nil ?_
  refine v_block ?_
  refine v_loop [(0, _), (5, _)] (fun (k : Nat) => [(11, .int .i64 k)]) (fun k w' => k = 0 ∧ Below w.heap.size w w') (fun k => 0) (0) ⟨rfl, rfl, trivial⟩ ⟨rfl, trivial⟩ (⟨rfl, hb⟩) ?_
  rintro k w' ⟨rfl, hb⟩
  refine v_seq ?_
  refine v_seq ?_
  refine v_region ?_
  refine vl_val (os_move rfl) ?_
  refine vl_val (os_move rfl) ?_
  refine vl_val (os_len Try.underlying101 rfl) ?_
  refine vl_val (os_lss rfl rfl) ?_
  refine vl_nil ?_
  refine v_cond_no rfl (by omega) ?_
  refine v_exit ?_
  refine v_seq ?_
  refine v_seq ?_
  refine v_region ?_
  refine vl_val (os_assign rfl) ?_
  refine vl_nil ?_
  refine v_block ?_
  refine v_loop [(0, _), (5, _)] (fun (k : Nat) => [(14, .int .i64 k)]) (fun k w' => k = 0 ∧ Below w.heap.size w w') (fun k => 0) (0) ⟨rfl, rfl, trivial⟩ ⟨rfl, trivial⟩ (⟨rfl, hb⟩) ?_
  rintro k w' ⟨rfl, hb⟩
  refine v_seq ?_
  refine v_seq ?_
  refine v_region ?_
  refine vl_val (os_move rfl) ?_
  refine vl_val (os_move rfl) ?_
  refine vl_val (os_len Try.underlying101 rfl) ?_
  refine vl_val (os_lss rfl rfl) ?_
  refine vl_nil ?_
  refine v_cond_no rfl (by omega) ?_
  refine v_exit ?_
  refine v_seq ?_
  refine v_region ?_
  refine vl_val (os_assign rfl) ?_
  refine vl_nil ?_
  refine v_ret ?_
  exact post_ret rfl rfl (⟨rfl, hb⟩)

end Go.Proofs.Ytmbcflanifoofaa
