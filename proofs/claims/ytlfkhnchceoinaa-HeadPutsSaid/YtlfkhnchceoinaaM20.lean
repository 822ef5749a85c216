/- Texts joined: FlE. -/
import Derived.Test.YtlfkhnchceoinaaM19
/- The law's kit: whether lists lie apart: of those kinds of which there are none. -/
namespace Go.Proofs.Ytlfkhnchceoinaa
open Go.RowKit
set_option linter.unusedVariables false

theorem ti_lLimbs : TyInfo Try.prog 129 (.slice none 0 0) 1 24 := by unfold TyInfo; kernel_rfl
theorem kit_noneLimbs (w : World) : Gives Try.prog 68 #[.slice none 0 0] w fun v w' => v = .bool true ∧ Below w.heap.size w w' := by
  refine gives_enter Try.call68 Try.func68 rfl rfl rfl (by kernel_rfl) ?_
  refine v_seq ?_
  refine v_region ?_
  refine vl_val (os_assign rfl) ?_
  refine vl_nil ?_
  refine v_seq ?_
  refine v_seq ?_
  refine v_region ?_
  refine vl_val (os_assign rfl) ?_
  refine vl_nil ?_
  refine v_block ?_
  refine v_loop [(0, _)] (fun (k : Nat) => [(3, .int .i64 k)]) (fun k w' => k = 0 ∧ Below w.heap.size w w') (fun k => 0) (0) ⟨rfl, trivial⟩ ⟨rfl, trivial⟩ (⟨rfl, Below.refl _ _⟩) ?_
  rintro k w' ⟨rfl, hb⟩
  refine v_seq ?_
  refine v_seq ?_
  refine v_region ?_
  refine vl_val (os_move rfl) ?_
  refine vl_val (os_move rfl) ?_
  refine vl_val (os_len Try.underlying69 rfl) ?_
  refine vl_val (os_lss rfl rfl) ?_
  refine vl_nil ?_
  refine v_cond_no rfl (by omega) ?_
  refine v_exit ?_
  refine v_seq ?_
  refine v_region ?_
  refine vl_val (os_move rfl) ?_
  refine vl_val (os_len Try.underlying69 rfl) ?_
  refine vl_some (ot_make (l := 0) Try.underlying69 ti_lLimbs rfl rfl rfl rfl rfl (by omega) (by simp [maxLen]) w'.heap.size (Nat.le_refl _)) ?_
  rintro v1 w1 ⟨rfl, ho1, hg1⟩
  have hb1 := hb.trans (((Below.refl _ _).grown hg1 (Nat.le_refl _) (fun k hk => by cases hk)).mono hb.size)
  refine vl_val (os_assign rfl) ?_
  refine vl_nil ?_
  refine v_seq ?_
  refine v_seq ?_
  refine v_region ?_
  refine vl_val (os_assign rfl) ?_
  refine vl_nil ?_
  refine v_block ?_
  refine v_loop [(0, _), (5, _)] (fun (k : Nat) => [(6, .int .i64 k)]) (fun k w' => k = 0 ∧ Below w.heap.size w w') (fun k => 0) (0) ⟨rfl, rfl, trivial⟩ ⟨rfl, trivial⟩ (⟨rfl, hb1⟩) ?_
  rintro k w' ⟨rfl, hb⟩
  refine v_seq ?_
  refine v_seq ?_
  refine v_region ?_
  refine vl_val (os_move rfl) ?_
  refine vl_val (os_move rfl) ?_
  refine vl_val (os_len Try.underlying69 rfl) ?_
  refine vl_val (os_lss rfl rfl) ?_
  refine vl_nil ?_
  refine v_cond_no rfl (by omega) ?_
  refine v_exit ?_
  refine v_seq ?_
  refine v_seq ?_
  refine v_region ?_
  refine vl_val (os_assign rfl) ?_
  refine vl_nil ?_
  refine v_block ?_
  refine v_loop [(0, _), (5, _)] (fun (k : Nat) => [(9, .int .i64 k)]) (fun k w' => k = 0 ∧ Below w.heap.size w w') (fun k => 0) (0) ⟨rfl, rfl, trivial⟩ ⟨rfl, trivial⟩ (⟨rfl, hb⟩) ?_
  rintro k w' ⟨rfl, hb⟩
  refine v_seq ?_
  refine v_seq ?_
  refine v_region ?_
  refine vl_val (os_move rfl) ?_
  refine vl_val (os_move rfl) ?_
  refine vl_val (os_len Try.underlying69 rfl) ?_
  refine vl_val (os_lss rfl rfl) ?_
  refine vl_nil ?_
  refine v_cond_no rfl (by omega) ?_
  refine v_exit ?_
  refine v_seq ?_
  refine v_seq ?_
  refine v_region ?_
  refine vl_val (os_assign rfl) ?_
  refine vl_nil ?_
  refine v_block ?_
  refine v_loop [(0, _), (5, _)] (fun (k : Nat) => [(11, .int .i64 k)]) (fun k w' => k = 0 ∧ Below w.heap.size w w') (fun k => 0) (0) ⟨rfl, rfl, trivial⟩ ⟨rfl, trivial⟩ (⟨rfl, hb⟩) ?_
  rintro k w' ⟨rfl, hb⟩
  refine v_seq ?_
  refine v_seq ?_
  refine v_region ?_
  refine vl_val (os_move rfl) ?_
  refine vl_val (os_move rfl) ?_
  refine vl_val (os_len Try.underlying69 rfl) ?_
  refine vl_val (os_lss rfl rfl) ?_
  refine vl_nil ?_
  refine v_cond_no rfl (by omega) ?_
  refine v_exit ?_
  refine v_seq ?_
  refine v_seq ?_
  refine v_region ?_
  refine vl_val (os_assign rfl) ?_
  refine vl_nil ?_
  refine v_block ?_
  refine v_loop [(0, _), (5, _)] (fun (k : Nat) => [(14, .int .i64 k)]) (fun k w' => k = 0 ∧ Below w.heap.size w w') (fun k => 0) (0) ⟨rfl, rfl, trivial⟩ ⟨rfl, trivial⟩ (⟨rfl, hb⟩) ?_
  rintro k w' ⟨rfl, hb⟩
  refine v_seq ?_
  refine v_seq ?_
  refine v_region ?_
  refine vl_val (os_move rfl) ?_
  refine vl_val (os_move rfl) ?_
  refine vl_val (os_len Try.underlying69 rfl) ?_
  refine vl_val (os_lss rfl rfl) ?_
  refine vl_nil ?_
  refine v_cond_no rfl (by omega) ?_
  refine v_exit ?_
  refine v_seq ?_
  refine v_region ?_
  refine vl_val (os_assign rfl) ?_
  refine vl_nil ?_
  refine v_ret ?_
  exact post_ret rfl rfl (⟨rfl, hb⟩)
theorem ti_lWords : TyInfo Try.prog 130 (.slice none 0 0) 1 24 := by unfold TyInfo; kernel_rfl
theorem kit_noneWords (w : World) : Gives Try.prog 69 #[.slice none 0 0] w fun v w' => v = .bool true ∧ Below w.heap.size w w' := by
  refine gives_enter Try.call69 Try.func69 rfl rfl rfl (by kernel_rfl) ?_
  refine v_seq ?_
  refine v_region ?_
  refine vl_val (os_assign rfl) ?_
  refine vl_nil ?_
  refine v_seq ?_
  refine v_seq ?_
  refine v_region ?_
  refine vl_val (os_assign rfl) ?_
  refine vl_nil ?_
  refine v_block ?_
  refine v_loop [(0, _)] (fun (k : Nat) => [(3, .int .i64 k)]) (fun k w' => k = 0 ∧ Below w.heap.size w w') (fun k => 0) (0) ⟨rfl, trivial⟩ ⟨rfl, trivial⟩ (⟨rfl, Below.refl _ _⟩) ?_
  rintro k w' ⟨rfl, hb⟩
  refine v_seq ?_
  refine v_seq ?_
  refine v_region ?_
  refine vl_val (os_move rfl) ?_
  refine vl_val (os_move rfl) ?_
  refine vl_val (os_len Try.underlying70 rfl) ?_
  refine vl_val (os_lss rfl rfl) ?_
  refine vl_nil ?_
  refine v_cond_no rfl (by omega) ?_
  refine v_exit ?_
  refine v_seq ?_
  refine v_region ?_
  refine vl_val (os_move rfl) ?_
  refine vl_val (os_len Try.underlying70 rfl) ?_
  refine vl_some (ot_make (l := 0) Try.underlying70 ti_lWords rfl rfl rfl rfl rfl (by omega) (by simp [maxLen]) w'.heap.size (Nat.le_refl _)) ?_
  rintro v1 w1 ⟨rfl, ho1, hg1⟩
  have hb1 := hb.trans (((Below.refl _ _).grown hg1 (Nat.le_refl _) (fun k hk => by cases hk)).mono hb.size)
  refine vl_val (os_assign rfl) ?_
  refine vl_nil ?_
  refine v_seq ?_
  refine v_seq ?_
  refine v_region ?_
  refine vl_val (os_assign rfl) ?_
  refine vl_nil ?_
  refine v_block ?_
  refine v_loop [(0, _), (5, _)] (fun (k : Nat) => [(6, .int .i64 k)]) (fun k w' => k = 0 ∧ Below w.heap.size w w') (fun k => 0) (0) ⟨rfl, rfl, trivial⟩ ⟨rfl, trivial⟩ (⟨rfl, hb1⟩) ?_
  rintro k w' ⟨rfl, hb⟩
  refine v_seq ?_
  refine v_seq ?_
  refine v_region ?_
  refine vl_val (os_move rfl) ?_
  refine vl_val (os_move rfl) ?_
  refine vl_val (os_len Try.underlying70 rfl) ?_
  refine vl_val (os_lss rfl rfl) ?_
  refine vl_nil ?_
  refine v_cond_no rfl (by omega) ?_
  refine v_exit ?_
  refine v_seq ?_
  refine v_seq ?_
  refine v_region ?_
  refine vl_val (os_assign rfl) ?_
  refine vl_nil ?_
  refine v_block ?_
  refine v_loop [(0, _), (5, _)] (fun (k : Nat) => [(9, .int .i64 k)]) (fun k w' => k = 0 ∧ Below w.heap.size w w') (fun k => 0) (0) ⟨rfl, rfl, trivial⟩ ⟨rfl, trivial⟩ (⟨rfl, hb⟩) ?_
  rintro k w' ⟨rfl, hb⟩
  refine v_seq ?_
  refine v_seq ?_
  refine v_region ?_
  refine vl_val (os_move rfl) ?_
  refine vl_val (os_move rfl) ?_
  refine vl_val (os_len Try.underlying70 rfl) ?_
  refine vl_val (os_lss rfl rfl) ?_
  refine vl_nil ?_
  refine v_cond_no rfl (by omega) ?_
  refine v_exit ?_
  refine v_seq ?_
  refine v_seq ?_
  refine v_region ?_
  refine vl_val (os_assign rfl) ?_
  refine vl_nil ?_
  refine v_block ?_
  refine v_loop [(0, _), (5, _)] (fun (k : Nat) => [(11, .int .i64 k)]) (fun k w' => k = 0 ∧ Below w.heap.size w w') (fun k => 0) (0) ⟨rfl, rfl, trivial⟩ ⟨rfl, trivial⟩ (⟨rfl, hb⟩) ?_
  rintro k w' ⟨rfl, hb⟩
  refine v_seq ?_
  refine v_seq ?_
  refine v_region ?_
  refine vl_val (os_move rfl) ?_
  refine vl_val (os_move rfl) ?_
  refine vl_val (os_len Try.underlying70 rfl) ?_
  refine vl_val (os_lss rfl rfl) ?_
  refine vl_nil ?_
  refine v_cond_no rfl (by omega) ?_
  refine v_exit ?_
  refine v_seq ?_
  refine v_seq ?_
  refine v_region ?_
  refine vl_val (os_assign rfl) ?_
  refine vl_nil ?_
  refine v_block ?_
  refine v_loop [(0, _), (5, _)] (fun (k : Nat) => [(14, .int .i64 k)]) (fun k w' => k = 0 ∧ Below w.heap.size w w') (fun k => 0) (0) ⟨rfl, rfl, trivial⟩ ⟨rfl, trivial⟩ (⟨rfl, hb⟩) ?_
  rintro k w' ⟨rfl, hb⟩
  refine v_seq ?_
  refine v_seq ?_
  refine v_region ?_
  refine vl_val (os_move rfl) ?_
  refine vl_val (os_move rfl) ?_
  refine vl_val (os_len Try.underlying70 rfl) ?_
  refine vl_val (os_lss rfl rfl) ?_
  refine vl_nil ?_
  refine v_cond_no rfl (by omega) ?_
  refine v_exit ?_
  refine v_seq ?_
  refine v_region ?_
  refine vl_val (os_assign rfl) ?_
  refine vl_nil ?_
  refine v_ret ?_
  exact post_ret rfl rfl (⟨rfl, hb⟩)
theorem ti_lInts : TyInfo Try.prog 39 (.slice none 0 0) 1 24 := by unfold TyInfo; kernel_rfl
theorem kit_noneInts (w : World) : Gives Try.prog 70 #[.slice none 0 0] w fun v w' => v = .bool true ∧ Below w.heap.size w w' := by
  refine gives_enter Try.call70 Try.func70 rfl rfl rfl (by kernel_rfl) ?_
  refine v_seq ?_
  refine v_region ?_
  refine vl_val (os_assign rfl) ?_
  refine vl_nil ?_
  refine v_seq ?_
  refine v_seq ?_
  refine v_region ?_
  refine vl_val (os_assign rfl) ?_
  refine vl_nil ?_
  refine v_block ?_
  refine v_loop [(0, _)] (fun (k : Nat) => [(3, .int .i64 k)]) (fun k w' => k = 0 ∧ Below w.heap.size w w') (fun k => 0) (0) ⟨rfl, trivial⟩ ⟨rfl, trivial⟩ (⟨rfl, Below.refl _ _⟩) ?_
  rintro k w' ⟨rfl, hb⟩
  refine v_seq ?_
  refine v_seq ?_
  refine v_region ?_
  refine vl_val (os_move rfl) ?_
  refine vl_val (os_move rfl) ?_
  refine vl_val (os_len Try.underlying71 rfl) ?_
  refine vl_val (os_lss rfl rfl) ?_
  refine vl_nil ?_
  refine v_cond_no rfl (by omega) ?_
  refine v_exit ?_
  refine v_seq ?_
  refine v_region ?_
  refine vl_val (os_move rfl) ?_
  refine vl_val (os_len Try.underlying71 rfl) ?_
  refine vl_some (ot_make (l := 0) Try.underlying71 ti_lInts rfl rfl rfl rfl rfl (by omega) (by simp [maxLen]) w'.heap.size (Nat.le_refl _)) ?_
  rintro v1 w1 ⟨rfl, ho1, hg1⟩
  have hb1 := hb.trans (((Below.refl _ _).grown hg1 (Nat.le_refl _) (fun k hk => by cases hk)).mono hb.size)
  refine vl_val (os_assign rfl) ?_
  refine vl_nil ?_
  refine v_seq ?_
  refine v_seq ?_
  refine v_region ?_
  refine vl_val (os_assign rfl) ?_
  refine vl_nil ?_
  refine v_block ?_
  refine v_loop [(0, _), (5, _)] (fun (k : Nat) => [(6, .int .i64 k)]) (fun k w' => k = 0 ∧ Below w.heap.size w w') (fun k => 0) (0) ⟨rfl, rfl, trivial⟩ ⟨rfl, trivial⟩ (⟨rfl, hb1⟩) ?_
  rintro k w' ⟨rfl, hb⟩
  refine v_seq ?_
  refine v_seq ?_
  refine v_region ?_
  refine vl_val (os_move rfl) ?_
  refine vl_val (os_move rfl) ?_
  refine vl_val (os_len Try.underlying71 rfl) ?_
  refine vl_val (os_lss rfl rfl) ?_
  refine vl_nil ?_
  refine v_cond_no rfl (by omega) ?_
  refine v_exit ?_
  refine v_seq ?_
  refine v_seq ?_
  refine v_region ?_
  refine vl_val (os_assign rfl) ?_
  refine vl_nil ?_
  refine v_block ?_
  refine v_loop [(0, _), (5, _)] (fun (k : Nat) => [(9, .int .i64 k)]) (fun k w' => k = 0 ∧ Below w.heap.size w w') (fun k => 0) (0) ⟨rfl, rfl, trivial⟩ ⟨rfl, trivial⟩ (⟨rfl, hb⟩) ?_
  rintro k w' ⟨rfl, hb⟩
  refine v_seq ?_
  refine v_seq ?_
  refine v_region ?_
  refine vl_val (os_move rfl) ?_
  refine vl_val (os_move rfl) ?_
  refine vl_val (os_len Try.underlying71 rfl) ?_
  refine vl_val (os_lss rfl rfl) ?_
  refine vl_nil ?_
  refine v_cond_no rfl (by omega) ?_
  refine v_exit ?_
  refine v_seq ?_
  refine v_seq ?_
  refine v_region ?_
  refine vl_val (os_assign rfl) ?_
  refine vl_nil ?_
  refine v_block ?_
  refine v_loop [(0, _), (5, _)] (fun (k : Nat) => [(11, .int .i64 k)]) (fun k w' => k = 0 ∧ Below w.heap.size w w') (fun k => 0) (0) ⟨rfl, rfl, trivial⟩ ⟨rfl, trivial⟩ (⟨rfl, hb⟩) ?_
  rintro k w' ⟨rfl, hb⟩
  refine v_seq ?_
  refine v_seq ?_
  refine v_region ?_
  refine vl_val (os_move rfl) ?_
  refine vl_val (os_move rfl) ?_
  refine vl_val (os_len Try.underlying71 rfl) ?_
  refine vl_val (os_lss rfl rfl) ?_
  refine vl_nil ?_
  refine v_cond_no rfl (by omega) ?_
  refine v_exit ?_
  refine v_seq ?_
  refine v_seq ?_
  refine v_region ?_
  refine vl_val (os_assign rfl) ?_
  refine vl_nil ?_
  refine v_block ?_
  refine v_loop [(0, _), (5, _)] (fun (k : Nat) => [(14, .int .i64 k)]) (fun k w' => k = 0 ∧ Below w.heap.size w w') (fun k => 0) (0) ⟨rfl, rfl, trivial⟩ ⟨rfl, trivial⟩ (⟨rfl, hb⟩) ?_
  rintro k w' ⟨rfl, hb⟩
  refine v_seq ?_
  refine v_seq ?_
  refine v_region ?_
  refine vl_val (os_move rfl) ?_
  refine vl_val (os_move rfl) ?_
  refine vl_val (os_len Try.underlying71 rfl) ?_
  refine vl_val (os_lss rfl rfl) ?_
  refine vl_nil ?_
  refine v_cond_no rfl (by omega) ?_
  refine v_exit ?_
  refine v_seq ?_
  refine v_region ?_
  refine vl_val (os_assign rfl) ?_
  refine vl_nil ?_
  refine v_ret ?_
  exact post_ret rfl rfl (⟨rfl, hb⟩)
theorem ti_lLongs : TyInfo Try.prog 131 (.slice none 0 0) 1 24 := by unfold TyInfo; kernel_rfl
theorem kit_noneLongs (w : World) : Gives Try.prog 71 #[.slice none 0 0] w fun v w' => v = .bool true ∧ Below w.heap.size w w' := by
  refine gives_enter Try.call71 Try.func71 rfl rfl rfl (by kernel_rfl) ?_
  refine v_seq ?_
  refine v_region ?_
  refine vl_val (os_assign rfl) ?_
  refine vl_nil ?_
  refine v_seq ?_
  refine v_seq ?_
  refine v_region ?_
  refine vl_val (os_assign rfl) ?_
  refine vl_nil ?_
  refine v_block ?_
  refine v_loop [(0, _)] (fun (k : Nat) => [(3, .int .i64 k)]) (fun k w' => k = 0 ∧ Below w.heap.size w w') (fun k => 0) (0) ⟨rfl, trivial⟩ ⟨rfl, trivial⟩ (⟨rfl, Below.refl _ _⟩) ?_
  rintro k w' ⟨rfl, hb⟩
  refine v_seq ?_
  refine v_seq ?_
  refine v_region ?_
  refine vl_val (os_move rfl) ?_
  refine vl_val (os_move rfl) ?_
  refine vl_val (os_len Try.underlying72 rfl) ?_
  refine vl_val (os_lss rfl rfl) ?_
  refine vl_nil ?_
  refine v_cond_no rfl (by omega) ?_
  refine v_exit ?_
  refine v_seq ?_
  refine v_region ?_
  refine vl_val (os_move rfl) ?_
  refine vl_val (os_len Try.underlying72 rfl) ?_
  refine vl_some (ot_make (l := 0) Try.underlying72 ti_lLongs rfl rfl rfl rfl rfl (by omega) (by simp [maxLen]) w'.heap.size (Nat.le_refl _)) ?_
  rintro v1 w1 ⟨rfl, ho1, hg1⟩
  have hb1 := hb.trans (((Below.refl _ _).grown hg1 (Nat.le_refl _) (fun k hk => by cases hk)).mono hb.size)
  refine vl_val (os_assign rfl) ?_
  refine vl_nil ?_
  refine v_seq ?_
  refine v_seq ?_
  refine v_region ?_
  refine vl_val (os_assign rfl) ?_
  refine vl_nil ?_
  refine v_block ?_
  refine v_loop [(0, _), (5, _)] (fun (k : Nat) => [(6, .int .i64 k)]) (fun k w' => k = 0 ∧ Below w.heap.size w w') (fun k => 0) (0) ⟨rfl, rfl, trivial⟩ ⟨rfl, trivial⟩ (⟨rfl, hb1⟩) ?_
  rintro k w' ⟨rfl, hb⟩
  refine v_seq ?_
  refine v_seq ?_
  refine v_region ?_
  refine vl_val (os_move rfl) ?_
  refine vl_val (os_move rfl) ?_
  refine vl_val (os_len Try.underlying72 rfl) ?_
  refine vl_val (os_lss rfl rfl) ?_
  refine vl_nil ?_
  refine v_cond_no rfl (by omega) ?_
  refine v_exit ?_
  refine v_seq ?_
  refine v_seq ?_
  refine v_region ?_
  refine vl_val (os_assign rfl) ?_
  refine vl_nil ?_
  refine v_block ?_
  refine v_loop [(0, _), (5, _)] (fun (k : Nat) => [(9, .int .i64 k)]) (fun k w' => k = 0 ∧ Below w.heap.size w w') (fun k => 0) (0) ⟨rfl, rfl, trivial⟩ ⟨rfl, trivial⟩ (⟨rfl, hb⟩) ?_
  rintro k w' ⟨rfl, hb⟩
  refine v_seq ?_
  refine v_seq ?_
  refine v_region ?_
  refine vl_val (os_move rfl) ?_
  refine vl_val (os_move rfl) ?_
  refine vl_val (os_len Try.underlying72 rfl) ?_
  refine vl_val (os_lss rfl rfl) ?_
  refine vl_nil ?_
  refine v_cond_no rfl (by omega) ?_
  refine v_exit ?_
  refine v_seq ?_
  refine v_seq ?_
  refine v_region ?_
  refine vl_val (os_assign rfl) ?_
  refine vl_nil ?_
  refine v_block ?_
  refine v_loop [(0, _), (5, _)] (fun (k : Nat) => [(11, .int .i64 k)]) (fun k w' => k = 0 ∧ Below w.heap.size w w') (fun k => 0) (0) ⟨rfl, rfl, trivial⟩ ⟨rfl, trivial⟩ (⟨rfl, hb⟩) ?_
  rintro k w' ⟨rfl, hb⟩
  refine v_seq ?_
  refine v_seq ?_
  refine v_region ?_
  refine vl_val (os_move rfl) ?_
  refine vl_val (os_move rfl) ?_
  refine vl_val (os_len Try.underlying72 rfl) ?_
  refine vl_val (os_lss rfl rfl) ?_
  refine vl_nil ?_
  refine v_cond_no rfl (by omega) ?_
  refine v_exit ?_
  refine v_seq ?_
  refine v_seq ?_
  refine v_region ?_
  refine vl_val (os_assign rfl) ?_
  refine vl_nil ?_
  refine v_block ?_
  refine v_loop [(0, _), (5, _)] (fun (k : Nat) => [(14, .int .i64 k)]) (fun k w' => k = 0 ∧ Below w.heap.size w w') (fun k => 0) (0) ⟨rfl, rfl, trivial⟩ ⟨rfl, trivial⟩ (⟨rfl, hb⟩) ?_
  rintro k w' ⟨rfl, hb⟩
  refine v_seq ?_
  refine v_seq ?_
  refine v_region ?_
  refine vl_val (os_move rfl) ?_
  refine vl_val (os_move rfl) ?_
  refine vl_val (os_len Try.underlying72 rfl) ?_
  refine vl_val (os_lss rfl rfl) ?_
  refine vl_nil ?_
  refine v_cond_no rfl (by omega) ?_
  refine v_exit ?_
  refine v_seq ?_
  refine v_region ?_
  refine vl_val (os_assign rfl) ?_
  refine vl_nil ?_
  refine v_ret ?_
  exact post_ret rfl rfl (⟨rfl, hb⟩)
theorem ti_lTexts : TyInfo Try.prog 132 (.slice none 0 0) 1 24 := by unfold TyInfo; kernel_rfl
theorem kit_noneTexts (w : World) : Gives Try.prog 72 #[.slice none 0 0] w fun v w' => v = .bool true ∧ Below w.heap.size w w' := by
  refine gives_enter Try.call72 Try.func72 rfl rfl rfl (by kernel_rfl) ?_
  refine v_seq ?_
  refine v_region ?_
  refine vl_val (os_assign rfl) ?_
  refine vl_nil ?_
  refine v_seq ?_
  refine v_seq ?_
  refine v_region ?_
  refine vl_val (os_assign rfl) ?_
  refine vl_nil ?_
  refine v_block ?_
  refine v_loop [(0, _)] (fun (k : Nat) => [(3, .int .i64 k)]) (fun k w' => k = 0 ∧ Below w.heap.size w w') (fun k => 0) (0) ⟨rfl, trivial⟩ ⟨rfl, trivial⟩ (⟨rfl, Below.refl _ _⟩) ?_
  rintro k w' ⟨rfl, hb⟩
  refine v_seq ?_
  refine v_seq ?_
  refine v_region ?_
  refine vl_val (os_move rfl) ?_
  refine vl_val (os_move rfl) ?_
  refine vl_val (os_len Try.underlying73 rfl) ?_
  refine vl_val (os_lss rfl rfl) ?_
  refine vl_nil ?_
  refine v_cond_no rfl (by omega) ?_
  refine v_exit ?_
  refine v_seq ?_
  refine v_region ?_
  refine vl_val (os_move rfl) ?_
  refine vl_val (os_len Try.underlying73 rfl) ?_
  refine vl_some (ot_make (l := 0) Try.underlying73 ti_lTexts rfl rfl rfl rfl rfl (by omega) (by simp [maxLen]) w'.heap.size (Nat.le_refl _)) ?_
  rintro v1 w1 ⟨rfl, ho1, hg1⟩
  have hb1 := hb.trans (((Below.refl _ _).grown hg1 (Nat.le_refl _) (fun k hk => by cases hk)).mono hb.size)
  refine vl_val (os_assign rfl) ?_
  refine vl_nil ?_
  refine v_seq ?_
  refine v_seq ?_
  refine v_region ?_
  refine vl_val (os_assign rfl) ?_
  refine vl_nil ?_
  refine v_block ?_
  refine v_loop [(0, _), (5, _)] (fun (k : Nat) => [(6, .int .i64 k)]) (fun k w' => k = 0 ∧ Below w.heap.size w w') (fun k => 0) (0) ⟨rfl, rfl, trivial⟩ ⟨rfl, trivial⟩ (⟨rfl, hb1⟩) ?_
  rintro k w' ⟨rfl, hb⟩
  refine v_seq ?_
  refine v_seq ?_
  refine v_region ?_
  refine vl_val (os_move rfl) ?_
  refine vl_val (os_move rfl) ?_
  refine vl_val (os_len Try.underlying73 rfl) ?_
  refine vl_val (os_lss rfl rfl) ?_
  refine vl_nil ?_
  refine v_cond_no rfl (by omega) ?_
  refine v_exit ?_
  refine v_seq ?_
  refine v_seq ?_
  refine v_region ?_
  refine vl_val (os_assign rfl) ?_
  refine vl_nil ?_
  refine v_block ?_
  refine v_loop [(0, _), (5, _)] (fun (k : Nat) => [(9, .int .i64 k)]) (fun k w' => k = 0 ∧ Below w.heap.size w w') (fun k => 0) (0) ⟨rfl, rfl, trivial⟩ ⟨rfl, trivial⟩ (⟨rfl, hb⟩) ?_
  rintro k w' ⟨rfl, hb⟩
  refine v_seq ?_
  refine v_seq ?_
  refine v_region ?_
  refine vl_val (os_move rfl) ?_
  refine vl_val (os_move rfl) ?_
  refine vl_val (os_len Try.underlying73 rfl) ?_
  refine vl_val (os_lss rfl rfl) ?_
  refine vl_nil ?_
  refine v_cond_no rfl (by omega) ?_
  refine v_exit ?_
  refine v_seq ?_
  refine v_seq ?_
  refine v_region ?_
  refine vl_val (os_assign rfl) ?_
  refine vl_nil ?_
  refine v_block ?_
  refine v_loop [(0, _), (5, _)] (fun (k : Nat) => [(11, .int .i64 k)]) (fun k w' => k = 0 ∧ Below w.heap.size w w') (fun k => 0) (0) ⟨rfl, rfl, trivial⟩ ⟨rfl, trivial⟩ (⟨rfl, hb⟩) ?_
  rintro k w' ⟨rfl, hb⟩
  refine v_seq ?_
  refine v_seq ?_
  refine v_region ?_
  refine vl_val (os_move rfl) ?_
  refine vl_val (os_move rfl) ?_
  refine vl_val (os_len Try.underlying73 rfl) ?_
  refine vl_val (os_lss rfl rfl) ?_
  refine vl_nil ?_
  refine v_cond_no rfl (by omega) ?_
  refine v_exit ?_
  refine v_seq ?_
  refine v_seq ?_
  refine v_region ?_
  refine vl_val (os_assign rfl) ?_
  refine vl_nil ?_
  refine v_block ?_
  refine v_loop [(0, _), (5, _)] (fun (k : Nat) => [(14, .int .i64 k)]) (fun k w' => k = 0 ∧ Below w.heap.size w w') (fun k => 0) (0) ⟨rfl, rfl, trivial⟩ ⟨rfl, trivial⟩ (⟨rfl, hb⟩) ?_
  rintro k w' ⟨rfl, hb⟩
  refine v_seq ?_
  refine v_seq ?_
  refine v_region ?_
  refine vl_val (os_move rfl) ?_
  refine vl_val (os_move rfl) ?_
  refine vl_val (os_len Try.underlying73 rfl) ?_
  refine vl_val (os_lss rfl rfl) ?_
  refine vl_nil ?_
  refine v_cond_no rfl (by omega) ?_
  refine v_exit ?_
  refine v_seq ?_
  refine v_region ?_
  refine vl_val (os_assign rfl) ?_
  refine vl_nil ?_
  refine v_ret ?_
  exact post_ret rfl rfl (⟨rfl, hb⟩)
theorem ti_lBytes : TyInfo Try.prog 22 (.slice none 0 0) 1 24 := by unfold TyInfo; kernel_rfl
theorem kit_noneBytes (w : World) : Gives Try.prog 73 #[.slice none 0 0] w fun v w' => v = .bool true ∧ Below w.heap.size w w' := by
  refine gives_enter Try.call73 Try.func73 rfl rfl rfl (by kernel_rfl) ?_
  refine v_seq ?_
  refine v_region ?_
  refine vl_val (os_assign rfl) ?_
  refine vl_nil ?_
  refine v_seq ?_
  refine v_seq ?_
  refine v_region ?_
  refine vl_val (os_assign rfl) ?_
  refine vl_nil ?_
  refine v_block ?_
  refine v_loop [(0, _)] (fun (k : Nat) => [(3, .int .i64 k)]) (fun k w' => k = 0 ∧ Below w.heap.size w w') (fun k => 0) (0) ⟨rfl, trivial⟩ ⟨rfl, trivial⟩ (⟨rfl, Below.refl _ _⟩) ?_
  rintro k w' ⟨rfl, hb⟩
  refine v_seq ?_
  refine v_seq ?_
  refine v_region ?_
  refine vl_val (os_move rfl) ?_
  refine vl_val (os_move rfl) ?_
  refine vl_val (os_len Try.underlying37 rfl) ?_
  refine vl_val (os_lss rfl rfl) ?_
  refine vl_nil ?_
  refine v_cond_no rfl (by omega) ?_
  refine v_exit ?_
  refine v_seq ?_
  refine v_region ?_
  refine vl_val (os_move rfl) ?_
  refine vl_val (os_len Try.underlying37 rfl) ?_
  refine vl_some (ot_make (l := 0) Try.underlying37 ti_lBytes rfl rfl rfl rfl rfl (by omega) (by simp [maxLen]) w'.heap.size (Nat.le_refl _)) ?_
  rintro v1 w1 ⟨rfl, ho1, hg1⟩
  have hb1 := hb.trans (((Below.refl _ _).grown hg1 (Nat.le_refl _) (fun k hk => by cases hk)).mono hb.size)
  refine vl_val (os_assign rfl) ?_
  refine vl_nil ?_
  refine v_seq ?_
  refine v_seq ?_
  refine v_region ?_
  refine vl_val (os_assign rfl) ?_
  refine vl_nil ?_
  refine v_block ?_
  refine v_loop [(0, _), (5, _)] (fun (k : Nat) => [(6, .int .i64 k)]) (fun k w' => k = 0 ∧ Below w.heap.size w w') (fun k => 0) (0) ⟨rfl, rfl, trivial⟩ ⟨rfl, trivial⟩ (⟨rfl, hb1⟩) ?_
  rintro k w' ⟨rfl, hb⟩
  refine v_seq ?_
  refine v_seq ?_
  refine v_region ?_
  refine vl_val (os_move rfl) ?_
  refine vl_val (os_move rfl) ?_
  refine vl_val (os_len Try.underlying37 rfl) ?_
  refine vl_val (os_lss rfl rfl) ?_
  refine vl_nil ?_
  refine v_cond_no rfl (by omega) ?_
  refine v_exit ?_
  refine v_seq ?_
  refine v_seq ?_
  refine v_region ?_
  refine vl_val (os_assign rfl) ?_
  refine vl_nil ?_
  refine v_block ?_
  refine v_loop [(0, _), (5, _)] (fun (k : Nat) => [(9, .int .i64 k)]) (fun k w' => k = 0 ∧ Below w.heap.size w w') (fun k => 0) (0) ⟨rfl, rfl, trivial⟩ ⟨rfl, trivial⟩ (⟨rfl, hb⟩) ?_
  rintro k w' ⟨rfl, hb⟩
  refine v_seq ?_
  refine v_seq ?_
  refine v_region ?_
  refine vl_val (os_move rfl) ?_
  refine vl_val (os_move rfl) ?_
  refine vl_val (os_len Try.underlying37 rfl) ?_
  refine vl_val (os_lss rfl rfl) ?_
  refine vl_nil ?_
  refine v_cond_no rfl (by omega) ?_
  refine v_exit ?_
  refine v_seq ?_
  refine v_seq ?_
  refine v_region ?_
  refine vl_val (os_assign rfl) ?_
  refine vl_nil ?_
  refine v_block ?_
  refine v_loop [(0, _), (5, _)] (fun (k : Nat) => [(11, .int .i64 k)]) (fun k w' => k = 0 ∧ Below w.heap.size w w') (fun k => 0) (0) ⟨rfl, rfl, trivial⟩ ⟨rfl, trivial⟩ (⟨rfl, hb⟩) ?_
  rintro k w' ⟨rfl, hb⟩
  refine v_seq ?_
  refine v_seq ?_
  refine v_region ?_
  refine vl_val (os_move rfl) ?_
  refine vl_val (os_move rfl) ?_
  refine vl_val (os_len Try.underlying37 rfl) ?_
  refine vl_val (os_lss rfl rfl) ?_
  refine vl_nil ?_
  refine v_cond_no rfl (by omega) ?_
  refine v_exit ?_
  refine v_seq ?_
  refine v_seq ?_
  refine v_region ?_
  refine vl_val (os_assign rfl) ?_
  refine vl_nil ?_
  refine v_block ?_
  refine v_loop [(0, _), (5, _)] (fun (k : Nat) => [(14, .int .i64 k)]) (fun k w' => k = 0 ∧ Below w.heap.size w w') (fun k => 0) (0) ⟨rfl, rfl, trivial⟩ ⟨rfl, trivial⟩ (⟨rfl, hb⟩) ?_
  rintro k w' ⟨rfl, hb⟩
  refine v_seq ?_
  refine v_seq ?_
  refine v_region ?_
  refine vl_val (os_move rfl) ?_
  refine vl_val (os_move rfl) ?_
  refine vl_val (os_len Try.underlying37 rfl) ?_
  refine vl_val (os_lss rfl rfl) ?_
  refine vl_nil ?_
  refine v_cond_no rfl (by omega) ?_
  refine v_exit ?_
  refine v_seq ?_
  refine v_region ?_
  refine vl_val (os_assign rfl) ?_
  refine vl_nil ?_
  refine v_ret ?_
  exact post_ret rfl rfl (⟨rfl, hb⟩)
theorem ti_lTruths : TyInfo Try.prog 134 (.slice none 0 0) 1 24 := by unfold TyInfo; kernel_rfl
theorem kit_noneTruths (w : World) : Gives Try.prog 74 #[.slice none 0 0] w fun v w' => v = .bool true ∧ Below w.heap.size w w' := by
  refine gives_enter Try.call74 Try.func74 rfl rfl rfl (by kernel_rfl) ?_
  refine v_seq ?_
  refine v_region ?_
  refine vl_val (os_assign rfl) ?_
  refine vl_nil ?_
  refine v_seq ?_
  refine v_seq ?_
  refine v_region ?_
  refine vl_val (os_assign rfl) ?_
  refine vl_nil ?_
  refine v_block ?_
  refine v_loop [(0, _)] (fun (k : Nat) => [(3, .int .i64 k)]) (fun k w' => k = 0 ∧ Below w.heap.size w w') (fun k => 0) (0) ⟨rfl, trivial⟩ ⟨rfl, trivial⟩ (⟨rfl, Below.refl _ _⟩) ?_
  rintro k w' ⟨rfl, hb⟩
  refine v_seq ?_
  refine v_seq ?_
  refine v_region ?_
  refine vl_val (os_move rfl) ?_
  refine vl_val (os_move rfl) ?_
  refine vl_val (os_len Try.underlying74 rfl) ?_
  refine vl_val (os_lss rfl rfl) ?_
  refine vl_nil ?_
  refine v_cond_no rfl (by omega) ?_
  refine v_exit ?_
  refine v_seq ?_
  refine v_region ?_
  refine vl_val (os_move rfl) ?_
  refine vl_val (os_len Try.underlying74 rfl) ?_
  refine vl_some (ot_make (l := 0) Try.underlying74 ti_lTruths rfl rfl rfl rfl rfl (by omega) (by simp [maxLen]) w'.heap.size (Nat.le_refl _)) ?_
  rintro v1 w1 ⟨rfl, ho1, hg1⟩
  have hb1 := hb.trans (((Below.refl _ _).grown hg1 (Nat.le_refl _) (fun k hk => by cases hk)).mono hb.size)
  refine vl_val (os_assign rfl) ?_
  refine vl_nil ?_
  refine v_seq ?_
  refine v_seq ?_
  refine v_region ?_
  refine vl_val (os_assign rfl) ?_
  refine vl_nil ?_
  refine v_block ?_
  refine v_loop [(0, _), (5, _)] (fun (k : Nat) => [(6, .int .i64 k)]) (fun k w' => k = 0 ∧ Below w.heap.size w w') (fun k => 0) (0) ⟨rfl, rfl, trivial⟩ ⟨rfl, trivial⟩ (⟨rfl, hb1⟩) ?_
  rintro k w' ⟨rfl, hb⟩
  refine v_seq ?_
  refine v_seq ?_
  refine v_region ?_
  refine vl_val (os_move rfl) ?_
  refine vl_val (os_move rfl) ?_
  refine vl_val (os_len Try.underlying74 rfl) ?_
  refine vl_val (os_lss rfl rfl) ?_
  refine vl_nil ?_
  refine v_cond_no rfl (by omega) ?_
  refine v_exit ?_
  refine v_seq ?_
  refine v_seq ?_
  refine v_region ?_
  refine vl_val (os_assign rfl) ?_
  refine vl_nil ?_
  refine v_block ?_
  refine v_loop [(0, _), (5, _)] (fun (k : Nat) => [(9, .int .i64 k)]) (fun k w' => k = 0 ∧ Below w.heap.size w w') (fun k => 0) (0) ⟨rfl, rfl, trivial⟩ ⟨rfl, trivial⟩ (⟨rfl, hb⟩) ?_
  rintro k w' ⟨rfl, hb⟩
  refine v_seq ?_
  refine v_seq ?_
  refine v_region ?_
  refine vl_val (os_move rfl) ?_
  refine vl_val (os_move rfl) ?_
  refine vl_val (os_len Try.underlying74 rfl) ?_
  refine vl_val (os_lss rfl rfl) ?_
  refine vl_nil ?_
  refine v_cond_no rfl (by omega) ?_
  refine v_exit ?_
  refine v_seq ?_
  refine v_seq ?_
  refine v_region ?_
  refine vl_val (os_assign rfl) ?_
  refine vl_nil ?_
  refine v_block ?_
  refine v_loop [(0, _), (5, _)] (fun (k : Nat) => [(11, .int .i64 k)]) (fun k w' => k = 0 ∧ Below w.heap.size w w') (fun k => 0) (0) ⟨rfl, rfl, trivial⟩ ⟨rfl, trivial⟩ (⟨rfl, hb⟩) ?_
  rintro k w' ⟨rfl, hb⟩
  refine v_seq ?_
  refine v_seq ?_
  refine v_region ?_
  refine vl_val (os_move rfl) ?_
  refine vl_val (os_move rfl) ?_
  refine vl_val (os_len Try.underlying74 rfl) ?_
  refine vl_val (os_lss rfl rfl) ?_
  refine vl_nil ?_
  refine v_cond_no rfl (by omega) ?_
  refine v_exit ?_
  refine v_seq ?_
  refine v_seq ?_
  refine v_region ?_
  refine vl_val (os_assign rfl) ?_
  refine vl_nil ?_
  refine v_block ?_
  refine v_loop [(0, _), (5, _)] (fun (k : Nat) => [(14, .int .i64 k)]) (fun k w' => k = 0 ∧ Below w.heap.size w w') (fun k => 0) (0) ⟨rfl, rfl, trivial⟩ ⟨rfl, trivial⟩ (⟨rfl, hb⟩) ?_
  rintro k w' ⟨rfl, hb⟩
  refine v_seq ?_
  refine v_seq ?_
  refine v_region ?_
  refine vl_val (os_move rfl) ?_
  refine vl_val (os_move rfl) ?_
  refine vl_val (os_len Try.underlying74 rfl) ?_
  refine vl_val (os_lss rfl rfl) ?_
  refine vl_nil ?_
  refine v_cond_no rfl (by omega) ?_
  refine v_exit ?_
  refine v_seq ?_
  refine v_region ?_
  refine vl_val (os_assign rfl) ?_
  refine vl_nil ?_
  refine v_ret ?_
  exact post_ret rfl rfl (⟨rfl, hb⟩)
theorem ti_lLayers : TyInfo Try.prog 135 (.slice none 0 0) 1 24 := by unfold TyInfo; kernel_rfl
theorem kit_noneLayers (w : World) : Gives Try.prog 75 #[.slice none 0 0] w fun v w' => v = .bool true ∧ Below w.heap.size w w' := by
  refine gives_enter Try.call75 Try.func75 rfl rfl rfl (by kernel_rfl) ?_
  refine v_seq ?_
  refine v_region ?_
  refine vl_val (os_assign rfl) ?_
  refine vl_nil ?_
  refine v_seq ?_
  refine v_seq ?_
  refine v_region ?_
  refine vl_val (os_assign rfl) ?_
  refine vl_nil ?_
  refine v_block ?_
  refine v_loop [(0, _)] (fun (k : Nat) => [(3, .int .i64 k)]) (fun k w' => k = 0 ∧ Below w.heap.size w w') (fun k => 0) (0) ⟨rfl, trivial⟩ ⟨rfl, trivial⟩ (⟨rfl, Below.refl _ _⟩) ?_
  rintro k w' ⟨rfl, hb⟩
  refine v_seq ?_
  refine v_seq ?_
  refine v_region ?_
  refine vl_val (os_move rfl) ?_
  refine vl_val (os_move rfl) ?_
  refine vl_val (os_len Try.underlying75 rfl) ?_
  refine vl_val (os_lss rfl rfl) ?_
  refine vl_nil ?_
  refine v_cond_no rfl (by omega) ?_
  refine v_exit ?_
  refine v_seq ?_
  refine v_region ?_
  refine vl_val (os_move rfl) ?_
  refine vl_val (os_len Try.underlying75 rfl) ?_
  refine vl_some (ot_make (l := 0) Try.underlying75 ti_lLayers rfl rfl rfl rfl rfl (by omega) (by simp [maxLen]) w'.heap.size (Nat.le_refl _)) ?_
  rintro v1 w1 ⟨rfl, ho1, hg1⟩
  have hb1 := hb.trans (((Below.refl _ _).grown hg1 (Nat.le_refl _) (fun k hk => by cases hk)).mono hb.size)
  refine vl_val (os_assign rfl) ?_
  refine vl_nil ?_
  refine v_seq ?_
  refine v_seq ?_
  refine v_region ?_
  refine vl_val (os_assign rfl) ?_
  refine vl_nil ?_
  refine v_block ?_
  refine v_loop [(0, _), (5, _)] (fun (k : Nat) => [(6, .int .i64 k)]) (fun k w' => k = 0 ∧ Below w.heap.size w w') (fun k => 0) (0) ⟨rfl, rfl, trivial⟩ ⟨rfl, trivial⟩ (⟨rfl, hb1⟩) ?_
  rintro k w' ⟨rfl, hb⟩
  refine v_seq ?_
  refine v_seq ?_
  refine v_region ?_
  refine vl_val (os_move rfl) ?_
  refine vl_val (os_move rfl) ?_
  refine vl_val (os_len Try.underlying75 rfl) ?_
  refine vl_val (os_lss rfl rfl) ?_
  refine vl_nil ?_
  refine v_cond_no rfl (by omega) ?_
  refine v_exit ?_
  refine v_seq ?_
  refine v_seq ?_
  refine v_region ?_
  refine vl_val (os_assign rfl) ?_
  refine vl_nil ?_
  refine v_block ?_
  refine v_loop [(0, _), (5, _)] (fun (k : Nat) => [(9, .int .i64 k)]) (fun k w' => k = 0 ∧ Below w.heap.size w w') (fun k => 0) (0) ⟨rfl, rfl, trivial⟩ ⟨rfl, trivial⟩ (⟨rfl, hb⟩) ?_
  rintro k w' ⟨rfl, hb⟩
  refine v_seq ?_
  refine v_seq ?_
  refine v_region ?_
  refine vl_val (os_move rfl) ?_
  refine vl_val (os_move rfl) ?_
  refine vl_val (os_len Try.underlying75 rfl) ?_
  refine vl_val (os_lss rfl rfl) ?_
  refine vl_nil ?_
  refine v_cond_no rfl (by omega) ?_
  refine v_exit ?_
  refine v_seq ?_
  refine v_seq ?_
  refine v_region ?_
  refine vl_val (os_assign rfl) ?_
  refine vl_nil ?_
  refine v_block ?_
  refine v_loop [(0, _), (5, _)] (fun (k : Nat) => [(11, .int .i64 k)]) (fun k w' => k = 0 ∧ Below w.heap.size w w') (fun k => 0) (0) ⟨rfl, rfl, trivial⟩ ⟨rfl, trivial⟩ (⟨rfl, hb⟩) ?_
  rintro k w' ⟨rfl, hb⟩
  refine v_seq ?_
  refine v_seq ?_
  refine v_region ?_
  refine vl_val (os_move rfl) ?_
  refine vl_val (os_move rfl) ?_
  refine vl_val (os_len Try.underlying75 rfl) ?_
  refine vl_val (os_lss rfl rfl) ?_
  refine vl_nil ?_
  refine v_cond_no rfl (by omega) ?_
  refine v_exit ?_
  refine v_seq ?_
  refine v_seq ?_
  refine v_region ?_
  refine vl_val (os_assign rfl) ?_
  refine vl_nil ?_
  refine v_block ?_
  refine v_loop [(0, _), (5, _)] (fun (k : Nat) => [(14, .int .i64 k)]) (fun k w' => k = 0 ∧ Below w.heap.size w w') (fun k => 0) (0) ⟨rfl, rfl, trivial⟩ ⟨rfl, trivial⟩ (⟨rfl, hb⟩) ?_
  rintro k w' ⟨rfl, hb⟩
  refine v_seq ?_
  refine v_seq ?_
  refine v_region ?_
  refine vl_val (os_move rfl) ?_
  refine vl_val (os_move rfl) ?_
  refine vl_val (os_len Try.underlying75 rfl) ?_
  refine vl_val (os_lss rfl rfl) ?_
  refine vl_nil ?_
  refine v_cond_no rfl (by omega) ?_
  refine v_exit ?_
  refine v_seq ?_
  refine v_region ?_
  refine vl_val (os_assign rfl) ?_
  refine vl_nil ?_
  refine v_ret ?_
  exact post_ret rfl rfl (⟨rfl, hb⟩)
theorem ti_lTable : TyInfo Try.prog 26 (.slice none 0 0) 1 24 := by unfold TyInfo; kernel_rfl
theorem kit_noneTable (w : World) : Gives Try.prog 76 #[.slice none 0 0] w fun v w' => v = .bool true ∧ Below w.heap.size w w' := by
  refine gives_enter Try.call76 Try.func76 rfl rfl rfl (by kernel_rfl) ?_
  refine v_seq ?_
  refine v_region ?_
  refine vl_val (os_assign rfl) ?_
  refine vl_nil ?_
  refine v_seq ?_
  refine v_seq ?_
  refine v_region ?_
  refine vl_val (os_assign rfl) ?_
  refine vl_nil ?_
  refine v_block ?_
  refine v_loop [(0, _)] (fun (k : Nat) => [(3, .int .i64 k)]) (fun k w' => k = 0 ∧ Below w.heap.size w w') (fun k => 0) (0) ⟨rfl, trivial⟩ ⟨rfl, trivial⟩ (⟨rfl, Below.refl _ _⟩) ?_
  rintro k w' ⟨rfl, hb⟩
  refine v_seq ?_
  refine v_seq ?_
  refine v_region ?_
  refine vl_val (os_move rfl) ?_
  refine vl_val (os_move rfl) ?_
  refine vl_val (os_len Try.underlying76 rfl) ?_
  refine vl_val (os_lss rfl rfl) ?_
  refine vl_nil ?_
  refine v_cond_no rfl (by omega) ?_
  refine v_exit ?_
  refine v_seq ?_
  refine v_region ?_
  refine vl_val (os_move rfl) ?_
  refine vl_val (os_len Try.underlying76 rfl) ?_
  refine vl_some (ot_make (l := 0) Try.underlying76 ti_lTable rfl rfl rfl rfl rfl (by omega) (by simp [maxLen]) w'.heap.size (Nat.le_refl _)) ?_
  rintro v1 w1 ⟨rfl, ho1, hg1⟩
  have hb1 := hb.trans (((Below.refl _ _).grown hg1 (Nat.le_refl _) (fun k hk => by cases hk)).mono hb.size)
  refine vl_val (os_assign rfl) ?_
  refine vl_nil ?_
  refine v_seq ?_
  refine v_seq ?_
  refine v_region ?_
  refine vl_val (os_assign rfl) ?_
  refine vl_nil ?_
  refine v_block ?_
  refine v_loop [(0, _), (5, _)] (fun (k : Nat) => [(6, .int .i64 k)]) (fun k w' => k = 0 ∧ Below w.heap.size w w') (fun k => 0) (0) ⟨rfl, rfl, trivial⟩ ⟨rfl, trivial⟩ (⟨rfl, hb1⟩) ?_
  rintro k w' ⟨rfl, hb⟩
  refine v_seq ?_
  refine v_seq ?_
  refine v_region ?_
  refine vl_val (os_move rfl) ?_
  refine vl_val (os_move rfl) ?_
  refine vl_val (os_len Try.underlying76 rfl) ?_
  refine vl_val (os_lss rfl rfl) ?_
  refine vl_nil ?_
  refine v_cond_no rfl (by omega) ?_
  refine v_exit ?_
  refine v_seq ?_
  refine v_seq ?_
  refine v_region ?_
  refine vl_val (os_assign rfl) ?_
  refine vl_nil ?_
  refine v_block ?_
  refine v_loop [(0, _), (5, _)] (fun (k : Nat) => [(9, .int .i64 k)]) (fun k w' => k = 0 ∧ Below w.heap.size w w') (fun k => 0) (0) ⟨rfl, rfl, trivial⟩ ⟨rfl, trivial⟩ (⟨rfl, hb⟩) ?_
  rintro k w' ⟨rfl, hb⟩
  refine v_seq ?_
  refine v_seq ?_
  refine v_region ?_
  refine vl_val (os_move rfl) ?_
  refine vl_val (os_move rfl) ?_
  refine vl_val (os_len Try.underlying76 rfl) ?_
  refine vl_val (os_lss rfl rfl) ?_
  refine vl_nil ?_
  refine v_cond_no rfl (by omega) ?_
  refine v_exit ?_
  refine v_seq ?_
  refine v_seq ?_
  refine v_region ?_
  refine vl_val (os_assign rfl) ?_
  refine vl_nil ?_
  refine v_block ?_
  refine v_loop [(0, _), (5, _)] (fun (k : Nat) => [(11, .int .i64 k)]) (fun k w' => k = 0 ∧ Below w.heap.size w w') (fun k => 0) (0) ⟨rfl, rfl, trivial⟩ ⟨rfl, trivial⟩ (⟨rfl, hb⟩) ?_
  rintro k w' ⟨rfl, hb⟩
  refine v_seq ?_
  refine v_seq ?_
  refine v_region ?_
  refine vl_val (os_move rfl) ?_
  refine vl_val (os_move rfl) ?_
  refine vl_val (os_len Try.underlying76 rfl) ?_
  refine vl_val (os_lss rfl rfl) ?_
  refine vl_nil ?_
  refine v_cond_no rfl (by omega) ?_
  refine v_exit ?_
  refine v_seq ?_
  refine v_seq ?_
  refine v_region ?_
  refine vl_val (os_assign rfl) ?_
  refine vl_nil ?_
  refine v_block ?_
  refine v_loop [(0, _), (5, _)] (fun (k : Nat) => [(14, .int .i64 k)]) (fun k w' => k = 0 ∧ Below w.heap.size w w') (fun k => 0) (0) ⟨rfl, rfl, trivial⟩ ⟨rfl, trivial⟩ (⟨rfl, hb⟩) ?_
  rintro k w' ⟨rfl, hb⟩
  refine v_seq ?_
  refine v_seq ?_
  refine v_region ?_
  refine vl_val (os_move rfl) ?_
  refine vl_val (os_move rfl) ?_
  refine vl_val (os_len Try.underlying76 rfl) ?_
  refine vl_val (os_lss rfl rfl) ?_
  refine vl_nil ?_
  refine v_cond_no rfl (by omega) ?_
  refine v_exit ?_
  refine v_seq ?_
  refine v_region ?_
  refine vl_val (os_assign rfl) ?_
  refine vl_nil ?_
  refine v_ret ?_
  exact post_ret rfl rfl (⟨rfl, hb⟩)
theorem ti_lHeads : TyInfo Try.prog 42 (.slice none 0 0) 1 24 := by unfold TyInfo; kernel_rfl
theorem kit_noneHeads (w : World) : Gives Try.prog 77 #[.slice none 0 0] w fun v w' => v = .bool true ∧ Below w.heap.size w w' := by
  refine gives_enter Try.call77 Try.func77 rfl rfl rfl (by kernel_rfl) ?_
  refine v_seq ?_
  refine v_region ?_
  refine vl_val (os_assign rfl) ?_
  refine vl_nil ?_
  refine v_seq ?_
  refine v_seq ?_
  refine v_region ?_
  refine vl_val (os_assign rfl) ?_
  refine vl_nil ?_
  refine v_block ?_
  refine v_loop [(0, _)] (fun (k : Nat) => [(3, .int .i64 k)]) (fun k w' => k = 0 ∧ Below w.heap.size w w') (fun k => 0) (0) ⟨rfl, trivial⟩ ⟨rfl, trivial⟩ (⟨rfl, Below.refl _ _⟩) ?_
  rintro k w' ⟨rfl, hb⟩
  refine v_seq ?_
  refine v_seq ?_
  refine v_region ?_
  refine vl_val (os_move rfl) ?_
  refine vl_val (os_move rfl) ?_
  refine vl_val (os_len Try.underlying77 rfl) ?_
  refine vl_val (os_lss rfl rfl) ?_
  refine vl_nil ?_
  refine v_cond_no rfl (by omega) ?_
  refine v_exit ?_
  refine v_seq ?_
  refine v_region ?_
  refine vl_val (os_move rfl) ?_
  refine vl_val (os_len Try.underlying77 rfl) ?_
  refine vl_some (ot_make (l := 0) Try.underlying77 ti_lHeads rfl rfl rfl rfl rfl (by omega) (by simp [maxLen]) w'.heap.size (Nat.le_refl _)) ?_
  rintro v1 w1 ⟨rfl, ho1, hg1⟩
  have hb1 := hb.trans (((Below.refl _ _).grown hg1 (Nat.le_refl _) (fun k hk => by cases hk)).mono hb.size)
  refine vl_val (os_assign rfl) ?_
  refine vl_nil ?_
  refine v_seq ?_
  refine v_seq ?_
  refine v_region ?_
  refine vl_val (os_assign rfl) ?_
  refine vl_nil ?_
  refine v_block ?_
  refine v_loop [(0, _), (5, _)] (fun (k : Nat) => [(6, .int .i64 k)]) (fun k w' => k = 0 ∧ Below w.heap.size w w') (fun k => 0) (0) ⟨rfl, rfl, trivial⟩ ⟨rfl, trivial⟩ (⟨rfl, hb1⟩) ?_
  rintro k w' ⟨rfl, hb⟩
  refine v_seq ?_
  refine v_seq ?_
  refine v_region ?_
  refine vl_val (os_move rfl) ?_
  refine vl_val (os_move rfl) ?_
  refine vl_val (os_len Try.underlying77 rfl) ?_
  refine vl_val (os_lss rfl rfl) ?_
  refine vl_nil ?_
  refine v_cond_no rfl (by omega) ?_
  refine v_exit ?_
  refine v_seq ?_
  refine v_seq ?_
  refine v_region ?_
  refine vl_val (os_assign rfl) ?_
  refine vl_nil ?_
  refine v_block ?_
  refine v_loop [(0, _), (5, _)] (fun (k : Nat) => [(9, .int .i64 k)]) (fun k w' => k = 0 ∧ Below w.heap.size w w') (fun k => 0) (0) ⟨rfl, rfl, trivial⟩ ⟨rfl, trivial⟩ (⟨rfl, hb⟩) ?_
  rintro k w' ⟨rfl, hb⟩
  refine v_seq ?_
  refine v_seq ?_
  refine v_region ?_
  refine vl_val (os_move rfl) ?_
  refine vl_val (os_move rfl) ?_
  refine vl_val (os_len Try.underlying77 rfl) ?_
  refine vl_val (os_lss rfl rfl) ?_
  refine vl_nil ?_
  refine v_cond_no rfl (by omega) ?_
  refine v_exit ?_
  refine v_seq ?_
  refine v_seq ?_
  refine v_region ?_
  refine vl_val (os_assign rfl) ?_
  refine vl_nil ?_
  refine v_block ?_
  refine v_loop [(0, _), (5, _)] (fun (k : Nat) => [(11, .int .i64 k)]) (fun k w' => k = 0 ∧ Below w.heap.size w w') (fun k => 0) (0) ⟨rfl, rfl, trivial⟩ ⟨rfl, trivial⟩ (⟨rfl, hb⟩) ?_
  rintro k w' ⟨rfl, hb⟩
  refine v_seq ?_
  refine v_seq ?_
  refine v_region ?_
  refine vl_val (os_move rfl) ?_
  refine vl_val (os_move rfl) ?_
  refine vl_val (os_len Try.underlying77 rfl) ?_
  refine vl_val (os_lss rfl rfl) ?_
  refine vl_nil ?_
  refine v_cond_no rfl (by omega) ?_
  refine v_exit ?_
  refine v_seq ?_
  refine v_seq ?_
  refine v_region ?_
  refine vl_val (os_assign rfl) ?_
  refine vl_nil ?_
  refine v_block ?_
  refine v_loop [(0, _), (5, _)] (fun (k : Nat) => [(14, .int .i64 k)]) (fun k w' => k = 0 ∧ Below w.heap.size w w') (fun k => 0) (0) ⟨rfl, rfl, trivial⟩ ⟨rfl, trivial⟩ (⟨rfl, hb⟩) ?_
  rintro k w' ⟨rfl, hb⟩
  refine v_seq ?_
  refine v_seq ?_
  refine v_region ?_
  refine vl_val (os_move rfl) ?_
  refine vl_val (os_move rfl) ?_
  refine vl_val (os_len Try.underlying77 rfl) ?_
  refine vl_val (os_lss rfl rfl) ?_
  refine vl_nil ?_
  refine v_cond_no rfl (by omega) ?_
  refine v_exit ?_
  refine v_seq ?_
  refine v_region ?_
  refine vl_val (os_assign rfl) ?_
  refine vl_nil ?_
  refine v_ret ?_
  exact post_ret rfl rfl (⟨rfl, hb⟩)
theorem ti_lCounts : TyInfo Try.prog 141 (.slice none 0 0) 1 24 := by unfold TyInfo; kernel_rfl
theorem kit_noneCounts (w : World) : Gives Try.prog 78 #[.slice none 0 0] w fun v w' => v = .bool true ∧ Below w.heap.size w w' := by
  refine gives_enter Try.call78 Try.func78 rfl rfl rfl (by kernel_rfl) ?_
  refine v_seq ?_
  refine v_region ?_
  refine vl_val (os_assign rfl) ?_
  refine vl_nil ?_
  refine v_seq ?_
  refine v_seq ?_
  refine v_region ?_
  refine vl_val (os_assign rfl) ?_
  refine vl_nil ?_
  refine v_block ?_
  refine v_loop [(0, _)] (fun (k : Nat) => [(3, .int .i64 k)]) (fun k w' => k = 0 ∧ Below w.heap.size w w') (fun k => 0) (0) ⟨rfl, trivial⟩ ⟨rfl, trivial⟩ (⟨rfl, Below.refl _ _⟩) ?_
  rintro k w' ⟨rfl, hb⟩
  refine v_seq ?_
  refine v_seq ?_
  refine v_region ?_
  refine vl_val (os_move rfl) ?_
  refine vl_val (os_move rfl) ?_
  refine vl_val (os_len Try.underlying78 rfl) ?_
  refine vl_val (os_lss rfl rfl) ?_
  refine vl_nil ?_
  refine v_cond_no rfl (by omega) ?_
  refine v_exit ?_
  refine v_seq ?_
  refine v_region ?_
  refine vl_val (os_move rfl) ?_
  refine vl_val (os_len Try.underlying78 rfl) ?_
  refine vl_some (ot_make (l := 0) Try.underlying78 ti_lCounts rfl rfl rfl rfl rfl (by omega) (by simp [maxLen]) w'.heap.size (Nat.le_refl _)) ?_
  rintro v1 w1 ⟨rfl, ho1, hg1⟩
  have hb1 := hb.trans (((Below.refl _ _).grown hg1 (Nat.le_refl _) (fun k hk => by cases hk)).mono hb.size)
  refine vl_val (os_assign rfl) ?_
  refine vl_nil ?_
  refine v_seq ?_
  refine v_seq ?_
  refine v_region ?_
  refine vl_val (os_assign rfl) ?_
  refine vl_nil ?_
  refine v_block ?_
  refine v_loop [(0, _), (5, _)] (fun (k : Nat) => [(6, .int .i64 k)]) (fun k w' => k = 0 ∧ Below w.heap.size w w') (fun k => 0) (0) ⟨rfl, rfl, trivial⟩ ⟨rfl, trivial⟩ (⟨rfl, hb1⟩) ?_
  rintro k w' ⟨rfl, hb⟩
  refine v_seq ?_
  refine v_seq ?_
  refine v_region ?_
  refine vl_val (os_move rfl) ?_
  refine vl_val (os_move rfl) ?_
  refine vl_val (os_len Try.underlying78 rfl) ?_
  refine vl_val (os_lss rfl rfl) ?_
  refine vl_nil ?_
  refine v_cond_no rfl (by omega) ?_
  refine v_exit ?_
  refine v_seq ?_
  refine v_seq ?_
  refine v_region ?_
  refine vl_val (os_assign rfl) ?_
  refine vl_nil ?_
  refine v_block ?_
  refine v_loop [(0, _), (5, _)] (fun (k : Nat) => [(9, .int .i64 k)]) (fun k w' => k = 0 ∧ Below w.heap.size w w') (fun k => 0) (0) ⟨rfl, rfl, trivial⟩ ⟨rfl, trivial⟩ (⟨rfl, hb⟩) ?_
  rintro k w' ⟨rfl, hb⟩
  refine v_seq ?_
  refine v_seq ?_
  refine v_region ?_
  refine vl_val (os_move rfl) ?_
  refine vl_val (os_move rfl) ?_
  refine vl_val (os_len Try.underlying78 rfl) ?_
  refine vl_val (os_lss rfl rfl) ?_
  refine vl_nil ?_
  refine v_cond_no rfl (by omega) ?_
  refine v_exit ?_
  refine v_seq ?_
  refine v_seq ?_
  refine v_region ?_
  refine vl_val (os_assign rfl) ?_
  refine vl_nil ?_
  refine v_block ?_
  refine v_loop [(0, _), (5, _)] (fun (k : Nat) => [(11, .int .i64 k)]) (fun k w' => k = 0 ∧ Below w.heap.size w w') (fun k => 0) (0) ⟨rfl, rfl, trivial⟩ ⟨rfl, trivial⟩ (⟨rfl, hb⟩) ?_
  rintro k w' ⟨rfl, hb⟩
  refine v_seq ?_
  refine v_seq ?_
  refine v_region ?_
  refine vl_val (os_move rfl) ?_
  refine vl_val (os_move rfl) ?_
  refine vl_val (os_len Try.underlying78 rfl) ?_
  refine vl_val (os_lss rfl rfl) ?_
  refine vl_nil ?_
  refine v_cond_no rfl (by omega) ?_
  refine v_exit ?_
  refine v_seq ?_
  refine v_seq ?_
  refine v_region ?_
  refine vl_val (os_assign rfl) ?_
  refine vl_nil ?_
  refine v_block ?_
  refine v_loop [(0, _), (5, _)] (fun (k : Nat) => [(14, .int .i64 k)]) (fun k w' => k = 0 ∧ Below w.heap.size w w') (fun k => 0) (0) ⟨rfl, rfl, trivial⟩ ⟨rfl, trivial⟩ (⟨rfl, hb⟩) ?_
  rintro k w' ⟨rfl, hb⟩
  refine v_seq ?_
  refine v_seq ?_
  refine v_region ?_
  refine vl_val (os_move rfl) ?_
  refine vl_val (os_move rfl) ?_
  refine vl_val (os_len Try.underlying78 rfl) ?_
  refine vl_val (os_lss rfl rfl) ?_
  refine vl_nil ?_
  refine v_cond_no rfl (by omega) ?_
  refine v_exit ?_
  refine v_seq ?_
  refine v_region ?_
  refine vl_val (os_assign rfl) ?_
  refine vl_nil ?_
  refine v_ret ?_
  exact post_ret rfl rfl (⟨rfl, hb⟩)
theorem ti_lNotes : TyInfo Try.prog 145 (.slice none 0 0) 1 24 := by unfold TyInfo; kernel_rfl
theorem kit_noneNotes (w : World) : Gives Try.prog 79 #[.slice none 0 0] w fun v w' => v = .bool true ∧ Below w.heap.size w w' := by
  refine gives_enter Try.call79 Try.func79 rfl rfl rfl (by kernel_rfl) ?_
  refine v_seq ?_
  refine v_region ?_
  refine vl_val (os_assign rfl) ?_
  refine vl_nil ?_
  refine v_seq ?_
  refine v_seq ?_
  refine v_region ?_
  refine vl_val (os_assign rfl) ?_
  refine vl_nil ?_
  refine v_block ?_
  refine v_loop [(0, _)] (fun (k : Nat) => [(3, .int .i64 k)]) (fun k w' => k = 0 ∧ Below w.heap.size w w') (fun k => 0) (0) ⟨rfl, trivial⟩ ⟨rfl, trivial⟩ (⟨rfl, Below.refl _ _⟩) ?_
  rintro k w' ⟨rfl, hb⟩
  refine v_seq ?_
  refine v_seq ?_
  refine v_region ?_
  refine vl_val (os_move rfl) ?_
  refine vl_val (os_move rfl) ?_
  refine vl_val (os_len Try.underlying79 rfl) ?_
  refine vl_val (os_lss rfl rfl) ?_
  refine vl_nil ?_
  refine v_cond_no rfl (by omega) ?_
  refine v_exit ?_
  refine v_seq ?_
  refine v_region ?_
  refine vl_val (os_move rfl) ?_
  refine vl_val (os_len Try.underlying79 rfl) ?_
  refine vl_some (ot_make (l := 0) Try.underlying79 ti_lNotes rfl rfl rfl rfl rfl (by omega) (by simp [maxLen]) w'.heap.size (Nat.le_refl _)) ?_
  rintro v1 w1 ⟨rfl, ho1, hg1⟩
  have hb1 := hb.trans (((Below.refl _ _).grown hg1 (Nat.le_refl _) (fun k hk => by cases hk)).mono hb.size)
  refine vl_val (os_assign rfl) ?_
  refine vl_nil ?_
  refine v_seq ?_
  refine v_seq ?_
  refine v_region ?_
  refine vl_val (os_assign rfl) ?_
  refine vl_nil ?_
  refine v_block ?_
  refine v_loop [(0, _), (5, _)] (fun (k : Nat) => [(6, .int .i64 k)]) (fun k w' => k = 0 ∧ Below w.heap.size w w') (fun k => 0) (0) ⟨rfl, rfl, trivial⟩ ⟨rfl, trivial⟩ (⟨rfl, hb1⟩) ?_
  rintro k w' ⟨rfl, hb⟩
  refine v_seq ?_
  refine v_seq ?_
  refine v_region ?_
  refine vl_val (os_move rfl) ?_
  refine vl_val (os_move rfl) ?_
  refine vl_val (os_len Try.underlying79 rfl) ?_
  refine vl_val (os_lss rfl rfl) ?_
  refine vl_nil ?_
  refine v_cond_no rfl (by omega) ?_
  refine v_exit ?_
  refine v_seq ?_
  refine v_seq ?_
  refine v_region ?_
  refine vl_val (os_assign rfl) ?_
  refine vl_nil ?_
  refine v_block ?_
  refine v_loop [(0, _), (5, _)] (fun (k : Nat) => [(9, .int .i64 k)]) (fun k w' => k = 0 ∧ Below w.heap.size w w') (fun k => 0) (0) ⟨rfl, rfl, trivial⟩ ⟨rfl, trivial⟩ (⟨rfl, hb⟩) ?_
  rintro k w' ⟨rfl, hb⟩
  refine v_seq ?_
  refine v_seq ?_
  refine v_region ?_
  refine vl_val (os_move rfl) ?_
  refine vl_val (os_move rfl) ?_
  refine vl_val (os_len Try.underlying79 rfl) ?_
  refine vl_val (os_lss rfl rfl) ?_
  refine vl_nil ?_
  refine v_cond_no rfl (by omega) ?_
  refine v_exit ?_
  refine v_seq ?_
  refine v_seq ?_
  refine v_region ?_
  refine vl_val (os_assign rfl) ?_
  refine vl_nil ?_
  refine v_block ?_
  refine v_loop [(0, _), (5, _)] (fun (k : Nat) => [(11, .int .i64 k)]) (fun k w' => k = 0 ∧ Below w.heap.size w w') (fun k => 0) (0) ⟨rfl, rfl, trivial⟩ ⟨rfl, trivial⟩ (⟨rfl, hb⟩) ?_
  rintro k w' ⟨rfl, hb⟩
  refine v_seq ?_
  refine v_seq ?_
  refine v_region ?_
  refine vl_val (os_move rfl) ?_
  refine vl_val (os_move rfl) ?_
  refine vl_val (os_len Try.underlying79 rfl) ?_
  refine vl_val (os_lss rfl rfl) ?_
  refine vl_nil ?_
  refine v_cond_no rfl (by omega) ?_
  refine v_exit ?_
  refine v_seq ?_
  refine v_seq ?_
  refine v_region ?_
  refine vl_val (os_assign rfl) ?_
  refine vl_nil ?_
  refine v_block ?_
  refine v_loop [(0, _), (5, _)] (fun (k : Nat) => [(14, .int .i64 k)]) (fun k w' => k = 0 ∧ Below w.heap.size w w') (fun k => 0) (0) ⟨rfl, rfl, trivial⟩ ⟨rfl, trivial⟩ (⟨rfl, hb⟩) ?_
  rintro k w' ⟨rfl, hb⟩
  refine v_seq ?_
  refine v_seq ?_
  refine v_region ?_
  refine vl_val (os_move rfl) ?_
  refine vl_val (os_move rfl) ?_
  refine vl_val (os_len Try.underlying79 rfl) ?_
  refine vl_val (os_lss rfl rfl) ?_
  refine vl_nil ?_
  refine v_cond_no rfl (by omega) ?_
  refine v_exit ?_
  refine v_seq ?_
  refine v_region ?_
  refine vl_val (os_assign rfl) ?_
  refine vl_nil ?_
  refine v_ret ?_
  exact post_ret rfl rfl (⟨rfl, hb⟩)
theorem ti_lFates : TyInfo Try.prog 150 (.slice none 0 0) 1 24 := by unfold TyInfo; kernel_rfl
theorem kit_noneFates (w : World) : Gives Try.prog 80 #[.slice none 0 0] w fun v w' => v = .bool true ∧ Below w.heap.size w w' := by
  refine gives_enter Try.call80 Try.func80 rfl rfl rfl (by kernel_rfl) ?_
  refine v_seq ?_
  refine v_region ?_
  refine vl_val (os_assign rfl) ?_
  refine vl_nil ?_
  refine v_seq ?_
  refine v_seq ?_
  refine v_region ?_
  refine vl_val (os_assign rfl) ?_
  refine vl_nil ?_
  refine v_block ?_
  refine v_loop [(0, _)] (fun (k : Nat) => [(3, .int .i64 k)]) (fun k w' => k = 0 ∧ Below w.heap.size w w') (fun k => 0) (0) ⟨rfl, trivial⟩ ⟨rfl, trivial⟩ (⟨rfl, Below.refl _ _⟩) ?_
  rintro k w' ⟨rfl, hb⟩
  refine v_seq ?_
  refine v_seq ?_
  refine v_region ?_
  refine vl_val (os_move rfl) ?_
  refine vl_val (os_move rfl) ?_
  refine vl_val (os_len Try.underlying80 rfl) ?_
  refine vl_val (os_lss rfl rfl) ?_
  refine vl_nil ?_
  refine v_cond_no rfl (by omega) ?_
  refine v_exit ?_
  refine v_seq ?_
  refine v_region ?_
  refine vl_val (os_move rfl) ?_
  refine vl_val (os_len Try.underlying80 rfl) ?_
  refine vl_some (ot_make (l := 0) Try.underlying80 ti_lFates rfl rfl rfl rfl rfl (by omega) (by simp [maxLen]) w'.heap.size (Nat.le_refl _)) ?_
  rintro v1 w1 ⟨rfl, ho1, hg1⟩
  have hb1 := hb.trans (((Below.refl _ _).grown hg1 (Nat.le_refl _) (fun k hk => by cases hk)).mono hb.size)
  refine vl_val (os_assign rfl) ?_
  refine vl_nil ?_
  refine v_seq ?_
  refine v_seq ?_
  refine v_region ?_
  refine vl_val (os_assign rfl) ?_
  refine vl_nil ?_
  refine v_block ?_
  refine v_loop [(0, _), (5, _)] (fun (k : Nat) => [(6, .int .i64 k)]) (fun k w' => k = 0 ∧ Below w.heap.size w w') (fun k => 0) (0) ⟨rfl, rfl, trivial⟩ ⟨rfl, trivial⟩ (⟨rfl, hb1⟩) ?_
  rintro k w' ⟨rfl, hb⟩
  refine v_seq ?_
  refine v_seq ?_
  refine v_region ?_
  refine vl_val (os_move rfl) ?_
  refine vl_val (os_move rfl) ?_
  refine vl_val (os_len Try.underlying80 rfl) ?_
  refine vl_val (os_lss rfl rfl) ?_
  refine vl_nil ?_
  refine v_cond_no rfl (by omega) ?_
  refine v_exit ?_
  refine v_seq ?_
  refine v_seq ?_
  refine v_region ?_
  refine vl_val (os_assign rfl) ?_
  refine vl_nil ?_
  refine v_block ?_
  refine v_loop [(0, _), (5, _)] (fun (k : Nat) => [(9, .int .i64 k)]) (fun k w' => k = 0 ∧ Below w.heap.size w w') (fun k => 0) (0) ⟨rfl, rfl, trivial⟩ ⟨rfl, trivial⟩ (⟨rfl, hb⟩) ?_
  rintro k w' ⟨rfl, hb⟩
  refine v_seq ?_
  refine v_seq ?_
  refine v_region ?_
  refine vl_val (os_move rfl) ?_
  refine vl_val (os_move rfl) ?_
  refine vl_val (os_len Try.underlying80 rfl) ?_
  refine vl_val (os_lss rfl rfl) ?_
  refine vl_nil ?_
  refine v_cond_no rfl (by omega) ?_
  refine v_exit ?_
  refine v_seq ?_
  refine v_seq ?_
  refine v_region ?_
  refine vl_val (os_assign rfl) ?_
  refine vl_nil ?_
  refine v_block ?_
  refine v_loop [(0, _), (5, _)] (fun (k : Nat) => [(11, .int .i64 k)]) (fun k w' => k = 0 ∧ Below w.heap.size w w') (fun k => 0) (0) ⟨rfl, rfl, trivial⟩ ⟨rfl, trivial⟩ (⟨rfl, hb⟩) ?_
  rintro k w' ⟨rfl, hb⟩
  refine v_seq ?_
  refine v_seq ?_
  refine v_region ?_
  refine vl_val (os_move rfl) ?_
  refine vl_val (os_move rfl) ?_
  refine vl_val (os_len Try.underlying80 rfl) ?_
  refine vl_val (os_lss rfl rfl) ?_
  refine vl_nil ?_
  refine v_cond_no rfl (by omega) ?_
  refine v_exit ?_
  refine v_seq ?_
  refine v_seq ?_
  refine v_region ?_
  refine vl_val (os_assign rfl) ?_
  refine vl_nil ?_
  refine v_block ?_
  refine v_loop [(0, _), (5, _)] (fun (k : Nat) => [(14, .int .i64 k)]) (fun k w' => k = 0 ∧ Below w.heap.size w w') (fun k => 0) (0) ⟨rfl, rfl, trivial⟩ ⟨rfl, trivial⟩ (⟨rfl, hb⟩) ?_
  rintro k w' ⟨rfl, hb⟩
  refine v_seq ?_
  refine v_seq ?_
  refine v_region ?_
  refine vl_val (os_move rfl) ?_
  refine vl_val (os_move rfl) ?_
  refine vl_val (os_len Try.underlying80 rfl) ?_
  refine vl_val (os_lss rfl rfl) ?_
  refine vl_nil ?_
  refine v_cond_no rfl (by omega) ?_
  refine v_exit ?_
  refine v_seq ?_
  refine v_region ?_
  refine vl_val (os_assign rfl) ?_
  refine vl_nil ?_
  refine v_ret ?_
  exact post_ret rfl rfl (⟨rfl, hb⟩)

end Go.Proofs.Ytlfkhnchceoinaa
