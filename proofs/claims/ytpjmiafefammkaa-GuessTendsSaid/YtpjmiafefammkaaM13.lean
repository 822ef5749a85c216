/- Texts joined: FlE. -/
import Derived.Test.YtpjmiafefammkaaM12
/- The law's kit: whether lists lie apart: of those kinds of which there are none. -/
namespace Go.Proofs.Ytpjmiafefammkaa
open Go.RowKit
set_option linter.unusedVariables false

theorem ti_lLimbs : TyInfo Try.prog 154 (.slice none 0 0) 1 24 := by unfold TyInfo; kernel_rfl
theorem kit_noneLimbs (w : World) : Gives Try.prog 115 #[.slice none 0 0] w fun v w' => v = .bool true ∧ Below w.heap.size w w' := by
  refine gives_enter Try.call115 Try.func115 rfl rfl rfl (by kernel_rfl) ?_
  refine v_seq ?_
  refine v_region ?_
  refine vl_val (os_assign rfl) ?_
  refine vl_nil ?_
  refine v_seq ?_
  refine v_seq ?_
  refine v_region ?_
  refine vl_val (os_assign rfl) ?_
  refine vl_nil ?_
  refine v_block ?_
  refine v_loop [(0, _)] (fun (k : Nat) => [(3, .int .i64 k)]) (fun k w' => k = 0 ∧ Below w.heap.size w w') (fun k => 0) (0) ⟨rfl, trivial⟩ ⟨rfl, trivial⟩ (⟨rfl, Below.refl _ _⟩) ?_
  rintro k w' ⟨rfl, hb⟩
  refine v_seq ?_
  refine v_seq ?_
  refine v_region ?_
  refine vl_val (os_move rfl) ?_
  refine vl_val (os_move rfl) ?_
  refine vl_val (os_len Try.underlying99 rfl) ?_
  refine vl_val (os_lss rfl rfl) ?_
  refine vl_nil ?_
  refine v_cond_no rfl (by omega) ?_
  refine v_exit ?_
  refine v_seq ?_
  refine v_region ?_
  refine vl_val (os_move rfl) ?_
  refine vl_val (os_len Try.underlying99 rfl) ?_
  refine vl_some (ot_make (l := 0) Try.underlying99 ti_lLimbs rfl rfl rfl rfl rfl (by omega) (by simp [maxLen]) w'.heap.size (Nat.le_refl _)) ?_
  rintro v1 w1 ⟨rfl, ho1, hg1⟩
  have hb1 := hb.trans (((Below.refl _ _).grown hg1 (Nat.le_refl _) (fun k hk => by cases hk)).mono hb.size)
  refine vl_val (os_assign rfl) ?_
  refine vl_nil ?_
  refine v_seq ?_
  refine v_seq ?_
  refine v_region ?_
  refine vl_val (os_assign rfl) ?_
  refine vl_nil ?_
  refine v_block ?_
  refine v_loop [(0, _), (5, _)] (fun (k : Nat) => [(6, .int .i64 k)]) (fun k w' => k = 0 ∧ Below w.heap.size w w') (fun k => 0) (0) ⟨rfl, rfl, trivial⟩ ⟨rfl, trivial⟩ (⟨rfl, hb1⟩) ?_
  rintro k w' ⟨rfl, hb⟩
  refine v_seq ?_
  refine v_seq ?_
  refine v_region ?_
  refine vl_val (os_move rfl) ?_
  refine vl_val (os_move rfl) ?_
  refine vl_val (os_len Try.underlying99 rfl) ?_
  refine vl_val (os_lss rfl rfl) ?_
  refine vl_nil ?_
  refine v_cond_no rfl (by omega) ?_
  refine v_exit ?_
  refine v_seq ?_
  refine v_seq ?_
  refine v_region ?_
  refine vl_val (os_assign rfl) ?_
  refine vl_nil ?_
  refine v_block ?_
  refine v_loop [(0, _), (5, _)] (fun (k : Nat) => [(9, .int .i64 k)]) (fun k w' => k = 0 ∧ Below w.heap.size w w') (fun k => 0) (0) ⟨rfl, rfl, trivial⟩ ⟨rfl, trivial⟩ (⟨rfl, hb⟩) ?_
  rintro k w' ⟨rfl, hb⟩
  refine v_seq ?_
  refine v_seq ?_
  refine v_region ?_
  refine vl_val (os_move rfl) ?_
  refine vl_val (os_move rfl) ?_
  refine vl_val (os_len Try.underlying99 rfl) ?_
  refine vl_val (os_lss rfl rfl) ?_
  refine vl_nil ?_
  refine v_cond_no rfl (by omega) ?_
  refine v_exit ?_
  refine v_seq ?_
  refine v_seq ?_
  refine v_region ?_
  refine vl_val (os_assign rfl) ?_
  refine vl_nil ?_
  refine v_block ?_
  refine v_loop [(0, _), (5, _)] (fun (k : Nat) => [(11, .int .i64 k)]) (fun k w' => k = 0 ∧ Below w.heap.size w w') (fun k => 0) (0) ⟨rfl, rfl, trivial⟩ ⟨rfl, trivial⟩ (⟨rfl, hb⟩) ?_
  rintro k w' ⟨rfl, hb⟩
  refine v_seq ?_
  refine v_seq ?_
  refine v_region ?_
  refine vl_val (os_move rfl) ?_
  refine vl_val (os_move rfl) ?_
  refine vl_val (os_len Try.underlying99 rfl) ?_
  refine vl_val (os_lss rfl rfl) ?_
  refine vl_nil ?_
  refine v_cond_no rfl (by omega) ?_
  refine v_exit ?_
  refine v_seq ?_
  refine v_seq ?_
  refine v_region ?_
  refine vl_val (os_assign rfl) ?_
  refine vl_nil ?_
  refine v_block ?_
  refine v_loop [(0, _), (5, _)] (fun (k : Nat) => [(14, .int .i64 k)]) (fun k w' => k = 0 ∧ Below w.heap.size w w') (fun k => 0) (0) ⟨rfl, rfl, trivial⟩ ⟨rfl, trivial⟩ (⟨rfl, hb⟩) ?_
  rintro k w' ⟨rfl, hb⟩
  refine v_seq ?_
  refine v_seq ?_
  refine v_region ?_
  refine vl_val (os_move rfl) ?_
  refine vl_val (os_move rfl) ?_
  refine vl_val (os_len Try.underlying99 rfl) ?_
  refine vl_val (os_lss rfl rfl) ?_
  refine vl_nil ?_
  refine v_cond_no rfl (by omega) ?_
  refine v_exit ?_
  refine v_seq ?_
  refine v_region ?_
  refine vl_val (os_assign rfl) ?_
  refine vl_nil ?_
  refine v_ret ?_
  exact post_ret rfl rfl (⟨rfl, hb⟩)
theorem ti_lWords : TyInfo Try.prog 156 (.slice none 0 0) 1 24 := by unfold TyInfo; kernel_rfl
theorem kit_noneWords (w : World) : Gives Try.prog 116 #[.slice none 0 0] w fun v w' => v = .bool true ∧ Below w.heap.size w w' := by
  refine gives_enter Try.call116 Try.func116 rfl rfl rfl (by kernel_rfl) ?_
  refine v_seq ?_
  refine v_region ?_
  refine vl_val (os_assign rfl) ?_
  refine vl_nil ?_
  refine v_seq ?_
  refine v_seq ?_
  refine v_region ?_
  refine vl_val (os_assign rfl) ?_
  refine vl_nil ?_
  refine v_block ?_
  refine v_loop [(0, _)] (fun (k : Nat) => [(3, .int .i64 k)]) (fun k w' => k = 0 ∧ Below w.heap.size w w') (fun k => 0) (0) ⟨rfl, trivial⟩ ⟨rfl, trivial⟩ (⟨rfl, Below.refl _ _⟩) ?_
  rintro k w' ⟨rfl, hb⟩
  refine v_seq ?_
  refine v_seq ?_
  refine v_region ?_
  refine vl_val (os_move rfl) ?_
  refine vl_val (os_move rfl) ?_
  refine vl_val (os_len Try.underlying100 rfl) ?_
  refine vl_val (os_lss rfl rfl) ?_
  refine vl_nil ?_
  refine v_cond_no rfl (by omega) ?_
  refine v_exit ?_
  refine v_seq ?_
  refine v_region ?_
  refine vl_val (os_move rfl) ?_
  refine vl_val (os_len Try.underlying100 rfl) ?_
  refine vl_some (ot_make (l := 0) Try.underlying100 ti_lWords rfl rfl rfl rfl rfl (by omega) (by simp [maxLen]) w'.heap.size (Nat.le_refl _)) ?_
  rintro v1 w1 ⟨rfl, ho1, hg1⟩
  have hb1 := hb.trans (((Below.refl _ _).grown hg1 (Nat.le_refl _) (fun k hk => by cases hk)).mono hb.size)
  refine vl_val (os_assign rfl) ?_
  refine vl_nil ?_
  refine v_seq ?_
  refine v_seq ?_
  refine v_region ?_
  refine vl_val (os_assign rfl) ?_
  refine vl_nil ?_
  refine v_block ?_
  refine v_loop [(0, _), (5, _)] (fun (k : Nat) => [(6, .int .i64 k)]) (fun k w' => k = 0 ∧ Below w.heap.size w w') (fun k => 0) (0) ⟨rfl, rfl, trivial⟩ ⟨rfl, trivial⟩ (⟨rfl, hb1⟩) ?_
  rintro k w' ⟨rfl, hb⟩
  refine v_seq ?_
  refine v_seq ?_
  refine v_region ?_
  refine vl_val (os_move rfl) ?_
  refine vl_val (os_move rfl) ?_
  refine vl_val (os_len Try.underlying100 rfl) ?_
  refine vl_val (os_lss rfl rfl) ?_
  refine vl_nil ?_
  refine v_cond_no rfl (by omega) ?_
  refine v_exit ?_
  refine v_seq ?_
  refine v_seq ?_
  refine v_region ?_
  refine vl_val (os_assign rfl) ?_
  refine vl_nil ?_
  refine v_block ?_
  refine v_loop [(0, _), (5, _)] (fun (k : Nat) => [(9, .int .i64 k)]) (fun k w' => k = 0 ∧ Below w.heap.size w w') (fun k => 0) (0) ⟨rfl, rfl, trivial⟩ ⟨rfl, trivial⟩ (⟨rfl, hb⟩) ?_
  rintro k w' ⟨rfl, hb⟩
  refine v_seq ?_
  refine v_seq ?_
  refine v_region ?_
  refine vl_val (os_move rfl) ?_
  refine vl_val (os_move rfl) ?_
  refine vl_val (os_len Try.underlying100 rfl) ?_
  refine vl_val (os_lss rfl rfl) ?_
  refine vl_nil ?_
  refine v_cond_no rfl (by omega) ?_
  refine v_exit ?_
  refine v_seq ?_
  refine v_seq ?_
  refine v_region ?_
  refine vl_val (os_assign rfl) ?_
  refine vl_nil ?_
  refine v_block ?_
  refine v_loop [(0, _), (5, _)] (fun (k : Nat) => [(11, .int .i64 k)]) (fun k w' => k = 0 ∧ Below w.heap.size w w') (fun k => 0) (0) ⟨rfl, rfl, trivial⟩ ⟨rfl, trivial⟩ (⟨rfl, hb⟩) ?_
  rintro k w' ⟨rfl, hb⟩
  refine v_seq ?_
  refine v_seq ?_
  refine v_region ?_
  refine vl_val (os_move rfl) ?_
  refine vl_val (os_move rfl) ?_
  refine vl_val (os_len Try.underlying100 rfl) ?_
  refine vl_val (os_lss rfl rfl) ?_
  refine vl_nil ?_
  refine v_cond_no rfl (by omega) ?_
  refine v_exit ?_
  refine v_seq ?_
  refine v_seq ?_
  refine v_region ?_
  refine vl_val (os_assign rfl) ?_
  refine vl_nil ?_
  refine v_block ?_
  refine v_loop [(0, _), (5, _)] (fun (k : Nat) => [(14, .int .i64 k)]) (fun k w' => k = 0 ∧ Below w.heap.size w w') (fun k => 0) (0) ⟨rfl, rfl, trivial⟩ ⟨rfl, trivial⟩ (⟨rfl, hb⟩) ?_
  rintro k w' ⟨rfl, hb⟩
  refine v_seq ?_
  refine v_seq ?_
  refine v_region ?_
  refine vl_val (os_move rfl) ?_
  refine vl_val (os_move rfl) ?_
  refine vl_val (os_len Try.underlying100 rfl) ?_
  refine vl_val (os_lss rfl rfl) ?_
  refine vl_nil ?_
  refine v_cond_no rfl (by omega) ?_
  refine v_exit ?_
  refine v_seq ?_
  refine v_region ?_
  refine vl_val (os_assign rfl) ?_
  refine vl_nil ?_
  refine v_ret ?_
  exact post_ret rfl rfl (⟨rfl, hb⟩)
theorem ti_lInts : TyInfo Try.prog 40 (.slice none 0 0) 1 24 := by unfold TyInfo; kernel_rfl
theorem kit_noneInts (w : World) : Gives Try.prog 117 #[.slice none 0 0] w fun v w' => v = .bool true ∧ Below w.heap.size w w' := by
  refine gives_enter Try.call117 Try.func117 rfl rfl rfl (by kernel_rfl) ?_
  refine v_seq ?_
  refine v_region ?_
  refine vl_val (os_assign rfl) ?_
  refine vl_nil ?_
  refine v_seq ?_
  refine v_seq ?_
  refine v_region ?_
  refine vl_val (os_assign rfl) ?_
  refine vl_nil ?_
  refine v_block ?_
  refine v_loop [(0, _)] (fun (k : Nat) => [(3, .int .i64 k)]) (fun k w' => k = 0 ∧ Below w.heap.size w w') (fun k => 0) (0) ⟨rfl, trivial⟩ ⟨rfl, trivial⟩ (⟨rfl, Below.refl _ _⟩) ?_
  rintro k w' ⟨rfl, hb⟩
  refine v_seq ?_
  refine v_seq ?_
  refine v_region ?_
  refine vl_val (os_move rfl) ?_
  refine vl_val (os_move rfl) ?_
  refine vl_val (os_len Try.underlying70 rfl) ?_
  refine vl_val (os_lss rfl rfl) ?_
  refine vl_nil ?_
  refine v_cond_no rfl (by omega) ?_
  refine v_exit ?_
  refine v_seq ?_
  refine v_region ?_
  refine vl_val (os_move rfl) ?_
  refine vl_val (os_len Try.underlying70 rfl) ?_
  refine vl_some (ot_make (l := 0) Try.underlying70 ti_lInts rfl rfl rfl rfl rfl (by omega) (by simp [maxLen]) w'.heap.size (Nat.le_refl _)) ?_
  rintro v1 w1 ⟨rfl, ho1, hg1⟩
  have hb1 := hb.trans (((Below.refl _ _).grown hg1 (Nat.le_refl _) (fun k hk => by cases hk)).mono hb.size)
  refine vl_val (os_assign rfl) ?_
  refine vl_nil ?_
  refine v_seq ?_
  refine v_seq ?_
  refine v_region ?_
  refine vl_val (os_assign rfl) ?_
  refine vl_nil ?_
  refine v_block ?_
  refine v_loop [(0, _), (5, _)] (fun (k : Nat) => [(6, .int .i64 k)]) (fun k w' => k = 0 ∧ Below w.heap.size w w') (fun k => 0) (0) ⟨rfl, rfl, trivial⟩ ⟨rfl, trivial⟩ (⟨rfl, hb1⟩) ?_
  rintro k w' ⟨rfl, hb⟩
  refine v_seq ?_
  refine v_seq ?_
  refine v_region ?_
  refine vl_val (os_move rfl) ?_
  refine vl_val (os_move rfl) ?_
  refine vl_val (os_len Try.underlying70 rfl) ?_
  refine vl_val (os_lss rfl rfl) ?_
  refine vl_nil ?_
  refine v_cond_no rfl (by omega) ?_
  refine v_exit ?_
  refine v_seq ?_
  refine v_seq ?_
  refine v_region ?_
  refine vl_val (os_assign rfl) ?_
  refine vl_nil ?_
  refine v_block ?_
  refine v_loop [(0, _), (5, _)] (fun (k : Nat) => [(9, .int .i64 k)]) (fun k w' => k = 0 ∧ Below w.heap.size w w') (fun k => 0) (0) ⟨rfl, rfl, trivial⟩ ⟨rfl, trivial⟩ (⟨rfl, hb⟩) ?_
  rintro k w' ⟨rfl, hb⟩
  refine v_seq ?_
  refine v_seq ?_
  refine v_region ?_
  refine vl_val (os_move rfl) ?_
  refine vl_val (os_move rfl) ?_
  refine vl_val (os_len Try.underlying70 rfl) ?_
  refine vl_val (os_lss rfl rfl) ?_
  refine vl_nil ?_
  refine v_cond_no rfl (by omega) ?_
  refine v_exit ?_
  refine v_seq ?_
  refine v_seq ?_
  refine v_region ?_
  refine vl_val (os_assign rfl) ?_
  refine vl_nil ?_
  refine v_block ?_
  refine v_loop [(0, _), (5, _)] (fun (k : Nat) => [(11, .int .i64 k)]) (fun k w' => k = 0 ∧ Below w.heap.size w w') (fun k => 0) (0) ⟨rfl, rfl, trivial⟩ ⟨rfl, trivial⟩ (⟨rfl, hb⟩) ?_
  rintro k w' ⟨rfl, hb⟩
  refine v_seq ?_
  refine v_seq ?_
  refine v_region ?_
  refine vl_val (os_move rfl) ?_
  refine vl_val (os_move rfl) ?_
  refine vl_val (os_len Try.underlying70 rfl) ?_
  refine vl_val (os_lss rfl rfl) ?_
  refine vl_nil ?_
  refine v_cond_no rfl (by omega) ?_
  refine v_exit ?_
  refine v_seq ?_
  refine v_seq ?_
  refine v_region ?_
  refine vl_val (os_assign rfl) ?_
  refine vl_nil ?_
  refine v_block ?_
  refine v_loop [(0, _), (5, _)] (fun (k : Nat) => [(14, .int .i64 k)]) (fun k w' => k = 0 ∧ Below w.heap.size w w') (fun k => 0) (0) ⟨rfl, rfl, trivial⟩ ⟨rfl, trivial⟩ (⟨rfl, hb⟩) ?_
  rintro k w' ⟨rfl, hb⟩
  refine v_seq ?_
  refine v_seq ?_
  refine v_region ?_
  refine vl_val (os_move rfl) ?_
  refine vl_val (os_move rfl) ?_
  refine vl_val (os_len Try.underlying70 rfl) ?_
  refine vl_val (os_lss rfl rfl) ?_
  refine vl_nil ?_
  refine v_cond_no rfl (by omega) ?_
  refine v_exit ?_
  refine v_seq ?_
  refine v_region ?_
  refine vl_val (os_assign rfl) ?_
  refine vl_nil ?_
  refine v_ret ?_
  exact post_ret rfl rfl (⟨rfl, hb⟩)
theorem ti_lLongs : TyInfo Try.prog 158 (.slice none 0 0) 1 24 := by unfold TyInfo; kernel_rfl
theorem kit_noneLongs (w : World) : Gives Try.prog 118 #[.slice none 0 0] w fun v w' => v = .bool true ∧ Below w.heap.size w w' := by
  refine gives_enter Try.call118 Try.func118 rfl rfl rfl (by kernel_rfl) ?_
  refine v_seq ?_
  refine v_region ?_
  refine vl_val (os_assign rfl) ?_
  refine vl_nil ?_
  refine v_seq ?_
  refine v_seq ?_
  refine v_region ?_
  refine vl_val (os_assign rfl) ?_
  refine vl_nil ?_
  refine v_block ?_
  refine v_loop [(0, _)] (fun (k : Nat) => [(3, .int .i64 k)]) (fun k w' => k = 0 ∧ Below w.heap.size w w') (fun k => 0) (0) ⟨rfl, trivial⟩ ⟨rfl, trivial⟩ (⟨rfl, Below.refl _ _⟩) ?_
  rintro k w' ⟨rfl, hb⟩
  refine v_seq ?_
  refine v_seq ?_
  refine v_region ?_
  refine vl_val (os_move rfl) ?_
  refine vl_val (os_move rfl) ?_
  refine vl_val (os_len Try.underlying101 rfl) ?_
  refine vl_val (os_lss rfl rfl) ?_
  refine vl_nil ?_
  refine v_cond_no rfl (by omega) ?_
  refine v_exit ?_
  refine v_seq ?_
  refine v_region ?_
  refine vl_val (os_move rfl) ?_
  refine vl_val (os_len Try.underlying101 rfl) ?_
  refine vl_some (ot_make (l := 0) Try.underlying101 ti_lLongs rfl rfl rfl rfl rfl (by omega) (by simp [maxLen]) w'.heap.size (Nat.le_refl _)) ?_
  rintro v1 w1 ⟨rfl, ho1, hg1⟩
  have hb1 := hb.trans (((Below.refl _ _).grown hg1 (Nat.le_refl _) (fun k hk => by cases hk)).mono hb.size)
  refine vl_val (os_assign rfl) ?_
  refine vl_nil ?_
  refine v_seq ?_
  refine v_seq ?_
  refine v_region ?_
  refine vl_val (os_assign rfl) ?_
  refine vl_nil ?_
  refine v_block ?_
  refine v_loop [(0, _), (5, _)] (fun (k : Nat) => [(6, .int .i64 k)]) (fun k w' => k = 0 ∧ Below w.heap.size w w') (fun k => 0) (0) ⟨rfl, rfl, trivial⟩ ⟨rfl, trivial⟩ (⟨rfl, hb1⟩) ?_
  rintro k w' ⟨rfl, hb⟩
  refine v_seq ?_
  refine v_seq ?_
  refine v_region ?_
  refine vl_val (os_move rfl) ?_
  refine vl_val (os_move rfl) ?_
  refine vl_val (os_len Try.underlying101 rfl) ?_
  refine vl_val (os_lss rfl rfl) ?_
  refine vl_nil ?_
  refine v_cond_no rfl (by omega) ?_
  refine v_exit ?_
  refine v_seq ?_
  refine v_seq ?_
  refine v_region ?_
  refine vl_val (os_assign rfl) ?_
  refine vl_nil ?_
  refine v_block ?_
  refine v_loop [(0, _), (5, _)] (fun (k : Nat) => [(9, .int .i64 k)]) (fun k w' => k = 0 ∧ Below w.heap.size w w') (fun k => 0) (0) ⟨rfl, rfl, trivial⟩ ⟨rfl, trivial⟩ (⟨rfl, hb⟩) ?_
  rintro k w' ⟨rfl, hb⟩
  refine v_seq ?_
  refine v_seq ?_
  refine v_region ?_
  refine vl_val (os_move rfl) ?_
  refine vl_val (os_move rfl) ?_
  refine vl_val (os_len Try.underlying101 rfl) ?_
  refine vl_val (os_lss rfl rfl) ?_
  refine vl_nil ?_
  refine v_cond_no rfl (by omega) ?_
  refine v_exit ?_
  refine v_seq ?_
  refine v_seq ?_
  refine v_region ?_
  refine vl_val (os_assign rfl) ?_
  refine vl_nil ?_
  refine v_block ?_
  refine v_loop [(0, _), (5, _)] (fun (k : Nat) => [(11, .int .i64 k)]) (fun k w' => k = 0 ∧ Below w.heap.size w w') (fun k => 0) (0) ⟨rfl, rfl, trivial⟩ ⟨rfl, trivial⟩ (⟨rfl, hb⟩) ?_
  rintro k w' ⟨rfl, hb⟩
  refine v_seq ?_
  refine v_seq ?_
  refine v_region ?_
  refine vl_val (os_move rfl) ?_
  refine vl_val (os_move rfl) ?_
  refine vl_val (os_len Try.underlying101 rfl) ?_
  refine vl_val (os_lss rfl rfl) ?_
  refine vl_nil ?_
  refine v_cond_no rfl (by omega) ?_
  refine v_exit ?_
  refine v_seq ?_
  refine v_seq ?_
  refine v_region ?_
  refine vl_val (os_assign rfl) ?_
  refine vl_nil ?_
  refine v_block ?_
  refine v_loop [(0, _), (5, _)] (fun (k : Nat) => [(14, .int .i64 k)]) (fun k w' => k = 0 ∧ Below w.heap.size w w') (fun k => 0) (0) ⟨rfl, rfl, trivial⟩ ⟨rfl, trivial⟩ (⟨rfl, hb⟩) ?_
  rintro k w' ⟨rfl, hb⟩
  refine v_seq ?_
  refine v_seq ?_
  refine v_region ?_
  refine vl_val (os_move rfl) ?_
  refine vl_val (os_move rfl) ?_
  refine vl_val (os_len Try.underlying101 rfl) ?_
  refine vl_val (os_lss rfl rfl) ?_
  refine vl_nil ?_
  refine v_cond_no rfl (by omega) ?_
  refine v_exit ?_
  refine v_seq ?_
  refine v_region ?_
  refine vl_val (os_assign rfl) ?_
  refine vl_nil ?_
  refine v_ret ?_
  exact post_ret rfl rfl (⟨rfl, hb⟩)
theorem ti_lTexts : TyInfo Try.prog 159 (.slice none 0 0) 1 24 := by unfold TyInfo; kernel_rfl
theorem kit_noneTexts (w : World) : Gives Try.prog 119 #[.slice none 0 0] w fun v w' => v = .bool true ∧ Below w.heap.size w w' := by
  refine gives_enter Try.call119 Try.func119 rfl rfl rfl (by kernel_rfl) ?_
  refine v_seq ?_
  refine v_region ?_
  refine vl_val (os_assign rfl) ?_
  refine vl_nil ?_
  refine v_seq ?_
  refine v_seq ?_
  refine v_region ?_
  refine vl_val (os_assign rfl) ?_
  refine vl_nil ?_
  refine v_block ?_
  refine v_loop [(0, _)] (fun (k : Nat) => [(3, .int .i64 k)]) (fun k w' => k = 0 ∧ Below w.heap.size w w') (fun k => 0) (0) ⟨rfl, trivial⟩ ⟨rfl, trivial⟩ (⟨rfl, Below.refl _ _⟩) ?_
  rintro k w' ⟨rfl, hb⟩
  refine v_seq ?_
  refine v_seq ?_
  refine v_region ?_
  refine vl_val (os_move rfl) ?_
  refine vl_val (os_move rfl) ?_
  refine vl_val (os_len Try.underlying102 rfl) ?_
  refine vl_val (os_lss rfl rfl) ?_
  refine vl_nil ?_
  refine v_cond_no rfl (by omega) ?_
  refine v_exit ?_
  refine v_seq ?_
  refine v_region ?_
  refine vl_val (os_move rfl) ?_
  refine vl_val (os_len Try.underlying102 rfl) ?_
  refine vl_some (ot_make (l := 0) Try.underlying102 ti_lTexts rfl rfl rfl rfl rfl (by omega) (by simp [maxLen]) w'.heap.size (Nat.le_refl _)) ?_
  rintro v1 w1 ⟨rfl, ho1, hg1⟩
  have hb1 := hb.trans (((Below.refl _ _).grown hg1 (Nat.le_refl _) (fun k hk => by cases hk)).mono hb.size)
  refine vl_val (os_assign rfl) ?_
  refine vl_nil ?_
  refine v_seq ?_
  refine v_seq ?_
  refine v_region ?_
  refine vl_val (os_assign rfl) ?_
  refine vl_nil ?_
  refine v_block ?_
  refine v_loop [(0, _), (5, _)] (fun (k : Nat) => [(6, .int .i64 k)]) (fun k w' => k = 0 ∧ Below w.heap.size w w') (fun k => 0) (0) ⟨rfl, rfl, trivial⟩ ⟨rfl, trivial⟩ (⟨rfl, hb1⟩) ?_
  rintro k w' ⟨rfl, hb⟩
  refine v_seq ?_
  refine v_seq ?_
  refine v_region ?_
  refine vl_val (os_move rfl) ?_
  refine vl_val (os_move rfl) ?_
  refine vl_val (os_len Try.underlying102 rfl) ?_
  refine vl_val (os_lss rfl rfl) ?_
  refine vl_nil ?_
  refine v_cond_no rfl (by omega) ?_
  refine v_exit ?_
  refine v_seq ?_
  refine v_seq ?_
  refine v_region ?_
  refine vl_val (os_assign rfl) ?_
  refine vl_nil ?_
  refine v_block ?_
  refine v_loop [(0, _), (5, _)] (fun (k : Nat) => [(9, .int .i64 k)]) (fun k w' => k = 0 ∧ Below w.heap.size w w') (fun k => 0) (0) ⟨rfl, rfl, trivial⟩ ⟨rfl, trivial⟩ (⟨rfl, hb⟩) ?_
  rintro k w' ⟨rfl, hb⟩
  refine v_seq ?_
  refine v_seq ?_
  refine v_region ?_
  refine vl_val (os_move rfl) ?_
  refine vl_val (os_move rfl) ?_
  refine vl_val (os_len Try.underlying102 rfl) ?_
  refine vl_val (os_lss rfl rfl) ?_
  refine vl_nil ?_
  refine v_cond_no rfl (by omega) ?_
  refine v_exit ?_
  refine v_seq ?_
  refine v_seq ?_
  refine v_region ?_
  refine vl_val (os_assign rfl) ?_
  refine vl_nil ?_
  refine v_block ?_
  refine v_loop [(0, _), (5, _)] (fun (k : Nat) => [(11, .int .i64 k)]) (fun k w' => k = 0 ∧ Below w.heap.size w w') (fun k => 0) (0) ⟨rfl, rfl, trivial⟩ ⟨rfl, trivial⟩ (⟨rfl, hb⟩) ?_
  rintro k w' ⟨rfl, hb⟩
  refine v_seq ?_
  refine v_seq ?_
  refine v_region ?_
  refine vl_val (os_move rfl) ?_
  refine vl_val (os_move rfl) ?_
  refine vl_val (os_len Try.underlying102 rfl) ?_
  refine vl_val (os_lss rfl rfl) ?_
  refine vl_nil ?_
  refine v_cond_no rfl (by omega) ?_
  refine v_exit ?_
  refine v_seq ?_
  refine v_seq ?_
  refine v_region ?_
  refine vl_val (os_assign rfl) ?_
  refine vl_nil ?_
  refine v_block ?_
  refine v_loop [(0, _), (5, _)] (fun (k : Nat) => [(14, .int .i64 k)]) (fun k w' => k = 0 ∧ Below w.heap.size w w') (fun k => 0) (0) ⟨rfl, rfl, trivial⟩ ⟨rfl, trivial⟩ (⟨rfl, hb⟩) ?_
  rintro k w' ⟨rfl, hb⟩
  refine v_seq ?_
  refine v_seq ?_
  refine v_region ?_
  refine vl_val (os_move rfl) ?_
  refine vl_val (os_move rfl) ?_
  refine vl_val (os_len Try.underlying102 rfl) ?_
  refine vl_val (os_lss rfl rfl) ?_
  refine vl_nil ?_
  refine v_cond_no rfl (by omega) ?_
  refine v_exit ?_
  refine v_seq ?_
  refine v_region ?_
  refine vl_val (os_assign rfl) ?_
  refine vl_nil ?_
  refine v_ret ?_
  exact post_ret rfl rfl (⟨rfl, hb⟩)
theorem ti_lBytes : TyInfo Try.prog 161 (.slice none 0 0) 1 24 := by unfold TyInfo; kernel_rfl
theorem kit_noneBytes (w : World) : Gives Try.prog 120 #[.slice none 0 0] w fun v w' => v = .bool true ∧ Below w.heap.size w w' := by
  refine gives_enter Try.call120 Try.func120 rfl rfl rfl (by kernel_rfl) ?_
  refine v_seq ?_
  refine v_region ?_
  refine vl_val (os_assign rfl) ?_
  refine vl_nil ?_
  refine v_seq ?_
  refine v_seq ?_
  refine v_region ?_
  refine vl_val (os_assign rfl) ?_
  refine vl_nil ?_
  refine v_block ?_
  refine v_loop [(0, _)] (fun (k : Nat) => [(3, .int .i64 k)]) (fun k w' => k = 0 ∧ Below w.heap.size w w') (fun k => 0) (0) ⟨rfl, trivial⟩ ⟨rfl, trivial⟩ (⟨rfl, Below.refl _ _⟩) ?_
  rintro k w' ⟨rfl, hb⟩
  refine v_seq ?_
  refine v_seq ?_
  refine v_region ?_
  refine vl_val (os_move rfl) ?_
  refine vl_val (os_move rfl) ?_
  refine vl_val (os_len Try.underlying103 rfl) ?_
  refine vl_val (os_lss rfl rfl) ?_
  refine vl_nil ?_
  refine v_cond_no rfl (by omega) ?_
  refine v_exit ?_
  refine v_seq ?_
  refine v_region ?_
  refine vl_val (os_move rfl) ?_
  refine vl_val (os_len Try.underlying103 rfl) ?_
  refine vl_some (ot_make (l := 0) Try.underlying103 ti_lBytes rfl rfl rfl rfl rfl (by omega) (by simp [maxLen]) w'.heap.size (Nat.le_refl _)) ?_
  rintro v1 w1 ⟨rfl, ho1, hg1⟩
  have hb1 := hb.trans (((Below.refl _ _).grown hg1 (Nat.le_refl _) (fun k hk => by cases hk)).mono hb.size)
  refine vl_val (os_assign rfl) ?_
  refine vl_nil ?_
  refine v_seq ?_
  refine v_seq ?_
  refine v_region ?_
  refine vl_val (os_assign rfl) ?_
  refine vl_nil ?_
  refine v_block ?_
  refine v_loop [(0, _), (5, _)] (fun (k : Nat) => [(6, .int .i64 k)]) (fun k w' => k = 0 ∧ Below w.heap.size w w') (fun k => 0) (0) ⟨rfl, rfl, trivial⟩ ⟨rfl, trivial⟩ (⟨rfl, hb1⟩) ?_
  rintro k w' ⟨rfl, hb⟩
  refine v_seq ?_
  refine v_seq ?_
  refine v_region ?_
  refine vl_val (os_move rfl) ?_
  refine vl_val (os_move rfl) ?_
  refine vl_val (os_len Try.underlying103 rfl) ?_
  refine vl_val (os_lss rfl rfl) ?_
  refine vl_nil ?_
  refine v_cond_no rfl (by omega) ?_
  refine v_exit ?_
  refine v_seq ?_
  refine v_seq ?_
  refine v_region ?_
  refine vl_val (os_assign rfl) ?_
  refine vl_nil ?_
  refine v_block ?_
  refine v_loop [(0, _), (5, _)] (fun (k : Nat) => [(9, .int .i64 k)]) (fun k w' => k = 0 ∧ Below w.heap.size w w') (fun k => 0) (0) ⟨rfl, rfl, trivial⟩ ⟨rfl, trivial⟩ (⟨rfl, hb⟩) ?_
  rintro k w' ⟨rfl, hb⟩
  refine v_seq ?_
  refine v_seq ?_
  refine v_region ?_
  refine vl_val (os_move rfl) ?_
  refine vl_val (os_move rfl) ?_
  refine vl_val (os_len Try.underlying103 rfl) ?_
  refine vl_val (os_lss rfl rfl) ?_
  refine vl_nil ?_
  refine v_cond_no rfl (by omega) ?_
  refine v_exit ?_
  refine v_seq ?_
  refine v_seq ?_
  refine v_region ?_
  refine vl_val (os_assign rfl) ?_
  refine vl_nil ?_
  refine v_block ?_
  refine v_loop [(0, _), (5, _)] (fun (k : Nat) => [(11, .int .i64 k)]) (fun k w' => k = 0 ∧ Below w.heap.size w w') (fun k => 0) (0) ⟨rfl, rfl, trivial⟩ ⟨rfl, trivial⟩ (⟨rfl, hb⟩) ?_
  rintro k w' ⟨rfl, hb⟩
  refine v_seq ?_
  refine v_seq ?_
  refine v_region ?_
  refine vl_val (os_move rfl) ?_
  refine vl_val (os_move rfl) ?_
  refine vl_val (os_len Try.underlying103 rfl) ?_
  refine vl_val (os_lss rfl rfl) ?_
  refine vl_nil ?_
  refine v_cond_no rfl (by omega) ?_
  refine v_exit ?_
  refine v_seq ?_
  refine v_seq ?_
  refine v_region ?_
  refine vl_val (os_assign rfl) ?_
  refine vl_nil ?_
  refine v_block ?_
  refine v_loop [(0, _), (5, _)] (fun (k : Nat) => [(14, .int .i64 k)]) (fun k w' => k = 0 ∧ Below w.heap.size w w') (fun k => 0) (0) ⟨rfl, rfl, trivial⟩ ⟨rfl, trivial⟩ (⟨rfl, hb⟩) ?_
  rintro k w' ⟨rfl, hb⟩
  refine v_seq ?_
  refine v_seq ?_
  refine v_region ?_
  refine vl_val (os_move rfl) ?_
  refine vl_val (os_move rfl) ?_
  refine vl_val (os_len Try.underlying103 rfl) ?_
  refine vl_val (os_lss rfl rfl) ?_
  refine vl_nil ?_
  refine v_cond_no rfl (by omega) ?_
  refine v_exit ?_
  refine v_seq ?_
  refine v_region ?_
  refine vl_val (os_assign rfl) ?_
  refine vl_nil ?_
  refine v_ret ?_
  exact post_ret rfl rfl (⟨rfl, hb⟩)
theorem ti_lTruths : TyInfo Try.prog 163 (.slice none 0 0) 1 24 := by unfold TyInfo; kernel_rfl
theorem kit_noneTruths (w : World) : Gives Try.prog 121 #[.slice none 0 0] w fun v w' => v = .bool true ∧ Below w.heap.size w w' := by
  refine gives_enter Try.call121 Try.func121 rfl rfl rfl (by kernel_rfl) ?_
  refine v_seq ?_
  refine v_region ?_
  refine vl_val (os_assign rfl) ?_
  refine vl_nil ?_
  refine v_seq ?_
  refine v_seq ?_
  refine v_region ?_
  refine vl_val (os_assign rfl) ?_
  refine vl_nil ?_
  refine v_block ?_
  refine v_loop [(0, _)] (fun (k : Nat) => [(3, .int .i64 k)]) (fun k w' => k = 0 ∧ Below w.heap.size w w') (fun k => 0) (0) ⟨rfl, trivial⟩ ⟨rfl, trivial⟩ (⟨rfl, Below.refl _ _⟩) ?_
  rintro k w' ⟨rfl, hb⟩
  refine v_seq ?_
  refine v_seq ?_
  refine v_region ?_
  refine vl_val (os_move rfl) ?_
  refine vl_val (os_move rfl) ?_
  refine vl_val (os_len Try.underlying104 rfl) ?_
  refine vl_val (os_lss rfl rfl) ?_
  refine vl_nil ?_
  refine v_cond_no rfl (by omega) ?_
  refine v_exit ?_
  refine v_seq ?_
  refine v_region ?_
  refine vl_val (os_move rfl) ?_
  refine vl_val (os_len Try.underlying104 rfl) ?_
  refine vl_some (ot_make (l := 0) Try.underlying104 ti_lTruths rfl rfl rfl rfl rfl (by omega) (by simp [maxLen]) w'.heap.size (Nat.le_refl _)) ?_
  rintro v1 w1 ⟨rfl, ho1, hg1⟩
  have hb1 := hb.trans (((Below.refl _ _).grown hg1 (Nat.le_refl _) (fun k hk => by cases hk)).mono hb.size)
  refine vl_val (os_assign rfl) ?_
  refine vl_nil ?_
  refine v_seq ?_
  refine v_seq ?_
  refine v_region ?_
  refine vl_val (os_assign rfl) ?_
  refine vl_nil ?_
  refine v_block ?_
  refine v_loop [(0, _), (5, _)] (fun (k : Nat) => [(6, .int .i64 k)]) (fun k w' => k = 0 ∧ Below w.heap.size w w') (fun k => 0) (0) ⟨rfl, rfl, trivial⟩ ⟨rfl, trivial⟩ (⟨rfl, hb1⟩) ?_
  rintro k w' ⟨rfl, hb⟩
  refine v_seq ?_
  refine v_seq ?_
  refine v_region ?_
  refine vl_val (os_move rfl) ?_
  refine vl_val (os_move rfl) ?_
  refine vl_val (os_len Try.underlying104 rfl) ?_
  refine vl_val (os_lss rfl rfl) ?_
  refine vl_nil ?_
  refine v_cond_no rfl (by omega) ?_
  refine v_exit ?_
  refine v_seq ?_
  refine v_seq ?_
  refine v_region ?_
  refine vl_val (os_assign rfl) ?_
  refine vl_nil ?_
  refine v_block ?_
  refine v_loop [(0, _), (5, _)] (fun (k : Nat) => [(9, .int .i64 k)]) (fun k w' => k = 0 ∧ Below w.heap.size w w') (fun k => 0) (0) ⟨rfl, rfl, trivial⟩ ⟨rfl, trivial⟩ (⟨rfl, hb⟩) ?_
  rintro k w' ⟨rfl, hb⟩
  refine v_seq ?_
  refine v_seq ?_
  refine v_region ?_
  refine vl_val (os_move rfl) ?_
  refine vl_val (os_move rfl) ?_
  refine vl_val (os_len Try.underlying104 rfl) ?_
  refine vl_val (os_lss rfl rfl) ?_
  refine vl_nil ?_
  refine v_cond_no rfl (by omega) ?_
  refine v_exit ?_
  refine v_seq ?_
  refine v_seq ?_
  refine v_region ?_
  refine vl_val (os_assign rfl) ?_
  refine vl_nil ?_
  refine v_block ?_
  refine v_loop [(0, _), (5, _)] (fun (k : Nat) => [(11, .int .i64 k)]) (fun k w' => k = 0 ∧ Below w.heap.size w w') (fun k => 0) (0) ⟨rfl, rfl, trivial⟩ ⟨rfl, trivial⟩ (⟨rfl, hb⟩) ?_
  rintro k w' ⟨rfl, hb⟩
  refine v_seq ?_
  refine v_seq ?_
  refine v_region ?_
  refine vl_val (os_move rfl) ?_
  refine vl_val (os_move rfl) ?_
  refine vl_val (os_len Try.underlying104 rfl) ?_
  refine vl_val (os_lss rfl rfl) ?_
  refine vl_nil ?_
  refine v_cond_no rfl (by omega) ?_
  refine v_exit ?_
  refine v_seq ?_
  refine v_seq ?_
  refine v_region ?_
  refine vl_val (os_assign rfl) ?_
  refine vl_nil ?_
  refine v_block ?_
  refine v_loop [(0, _), (5, _)] (fun (k : Nat) => [(14, .int .i64 k)]) (fun k w' => k = 0 ∧ Below w.heap.size w w') (fun k => 0) (0) ⟨rfl, rfl, trivial⟩ ⟨rfl, trivial⟩ (⟨rfl, hb⟩) ?_
  rintro k w' ⟨rfl, hb⟩
  refine v_seq ?_
  refine v_seq ?_
  refine v_region ?_
  refine vl_val (os_move rfl) ?_
  refine vl_val (os_move rfl) ?_
  refine vl_val (os_len Try.underlying104 rfl) ?_
  refine vl_val (os_lss rfl rfl) ?_
  refine vl_nil ?_
  refine v_cond_no rfl (by omega) ?_
  refine v_exit ?_
  refine v_seq ?_
  refine v_region ?_
  refine vl_val (os_assign rfl) ?_
  refine vl_nil ?_
  refine v_ret ?_
  exact post_ret rfl rfl (⟨rfl, hb⟩)
theorem ti_lLayers : TyInfo Try.prog 164 (.slice none 0 0) 1 24 := by unfold TyInfo; kernel_rfl
theorem kit_noneLayers (w : World) : Gives Try.prog 122 #[.slice none 0 0] w fun v w' => v = .bool true ∧ Below w.heap.size w w' := by
  refine gives_enter Try.call122 Try.func122 rfl rfl rfl (by kernel_rfl) ?_
  refine v_seq ?_
  refine v_region ?_
  refine vl_val (os_assign rfl) ?_
  refine vl_nil ?_
  refine v_seq ?_
  refine v_seq ?_
  refine v_region ?_
  refine vl_val (os_assign rfl) ?_
  refine vl_nil ?_
  refine v_block ?_
  refine v_loop [(0, _)] (fun (k : Nat) => [(3, .int .i64 k)]) (fun k w' => k = 0 ∧ Below w.heap.size w w') (fun k => 0) (0) ⟨rfl, trivial⟩ ⟨rfl, trivial⟩ (⟨rfl, Below.refl _ _⟩) ?_
  rintro k w' ⟨rfl, hb⟩
  refine v_seq ?_
  refine v_seq ?_
  refine v_region ?_
  refine vl_val (os_move rfl) ?_
  refine vl_val (os_move rfl) ?_
  refine vl_val (os_len Try.underlying105 rfl) ?_
  refine vl_val (os_lss rfl rfl) ?_
  refine vl_nil ?_
  refine v_cond_no rfl (by omega) ?_
  refine v_exit ?_
  refine v_seq ?_
  refine v_region ?_
  refine vl_val (os_move rfl) ?_
  refine vl_val (os_len Try.underlying105 rfl) ?_
  refine vl_some (ot_make (l := 0) Try.underlying105 ti_lLayers rfl rfl rfl rfl rfl (by omega) (by simp [maxLen]) w'.heap.size (Nat.le_refl _)) ?_
  rintro v1 w1 ⟨rfl, ho1, hg1⟩
  have hb1 := hb.trans (((Below.refl _ _).grown hg1 (Nat.le_refl _) (fun k hk => by cases hk)).mono hb.size)
  refine vl_val (os_assign rfl) ?_
  refine vl_nil ?_
  refine v_seq ?_
  refine v_seq ?_
  refine v_region ?_
  refine vl_val (os_assign rfl) ?_
  refine vl_nil ?_
  refine v_block ?_
  refine v_loop [(0, _), (5, _)] (fun (k : Nat) => [(6, .int .i64 k)]) (fun k w' => k = 0 ∧ Below w.heap.size w w') (fun k => 0) (0) ⟨rfl, rfl, trivial⟩ ⟨rfl, trivial⟩ (⟨rfl, hb1⟩) ?_
  rintro k w' ⟨rfl, hb⟩
  refine v_seq ?_
  refine v_seq ?_
  refine v_region ?_
  refine vl_val (os_move rfl) ?_
  refine vl_val (os_move rfl) ?_
  refine vl_val (os_len Try.underlying105 rfl) ?_
  refine vl_val (os_lss rfl rfl) ?_
  refine vl_nil ?_
  refine v_cond_no rfl (by omega) ?_
  refine v_exit ?_
  refine v_seq ?_
  refine v_seq ?_
  refine v_region ?_
  refine vl_val (os_assign rfl) ?_
  refine vl_nil ?_
  refine v_block ?_
  refine v_loop [(0, _), (5, _)] (fun (k : Nat) => [(9, .int .i64 k)]) (fun k w' => k = 0 ∧ Below w.heap.size w w') (fun k => 0) (0) ⟨rfl, rfl, trivial⟩ ⟨rfl, trivial⟩ (⟨rfl, hb⟩) ?_
  rintro k w' ⟨rfl, hb⟩
  refine v_seq ?_
  refine v_seq ?_
  refine v_region ?_
  refine vl_val (os_move rfl) ?_
  refine vl_val (os_move rfl) ?_
  refine vl_val (os_len Try.underlying105 rfl) ?_
  refine vl_val (os_lss rfl rfl) ?_
  refine vl_nil ?_
  refine v_cond_no rfl (by omega) ?_
  refine v_exit ?_
  refine v_seq ?_
  refine v_seq ?_
  refine v_region ?_
  refine vl_val (os_assign rfl) ?_
  refine vl_nil ?_
  refine v_block ?_
  refine v_loop [(0, _), (5, _)] (fun (k : Nat) => [(11, .int .i64 k)]) (fun k w' => k = 0 ∧ Below w.heap.size w w') (fun k => 0) (0) ⟨rfl, rfl, trivial⟩ ⟨rfl, trivial⟩ (⟨rfl, hb⟩) ?_
  rintro k w' ⟨rfl, hb⟩
  refine v_seq ?_
  refine v_seq ?_
  refine v_region ?_
  refine vl_val (os_move rfl) ?_
  refine vl_val (os_move rfl) ?_
  refine vl_val (os_len Try.underlying105 rfl) ?_
  refine vl_val (os_lss rfl rfl) ?_
  refine vl_nil ?_
  refine v_cond_no rfl (by omega) ?_
  refine v_exit ?_
  refine v_seq ?_
  refine v_seq ?_
  refine v_region ?_
  refine vl_val (os_assign rfl) ?_
  refine vl_nil ?_
  refine v_block ?_
  refine v_loop [(0, _), (5, _)] (fun (k : Nat) => [(14, .int .i64 k)]) (fun k w' => k = 0 ∧ Below w.heap.size w w') (fun k => 0) (0) ⟨rfl, rfl, trivial⟩ ⟨rfl, trivial⟩ (⟨rfl, hb⟩) ?_
  rintro k w' ⟨rfl, hb⟩
  refine v_seq ?_
  refine v_seq ?_
  refine v_region ?_
  refine vl_val (os_move rfl) ?_
  refine vl_val (os_move rfl) ?_
  refine vl_val (os_len Try.underlying105 rfl) ?_
  refine vl_val (os_lss rfl rfl) ?_
  refine vl_nil ?_
  refine v_cond_no rfl (by omega) ?_
  refine v_exit ?_
  refine v_seq ?_
  refine v_region ?_
  refine vl_val (os_assign rfl) ?_
  refine vl_nil ?_
  refine v_ret ?_
  exact post_ret rfl rfl (⟨rfl, hb⟩)
theorem ti_lTable : TyInfo Try.prog 79 (.slice none 0 0) 1 24 := by unfold TyInfo; kernel_rfl
theorem kit_noneTable (w : World) : Gives Try.prog 123 #[.slice none 0 0] w fun v w' => v = .bool true ∧ Below w.heap.size w w' := by
  refine gives_enter Try.call123 Try.func123 rfl rfl rfl (by kernel_rfl) ?_
  refine v_seq ?_
  refine v_region ?_
  refine vl_val (os_assign rfl) ?_
  refine vl_nil ?_
  refine v_seq ?_
  refine v_seq ?_
  refine v_region ?_
  refine vl_val (os_assign rfl) ?_
  refine vl_nil ?_
  refine v_block ?_
  refine v_loop [(0, _)] (fun (k : Nat) => [(3, .int .i64 k)]) (fun k w' => k = 0 ∧ Below w.heap.size w w') (fun k => 0) (0) ⟨rfl, trivial⟩ ⟨rfl, trivial⟩ (⟨rfl, Below.refl _ _⟩) ?_
  rintro k w' ⟨rfl, hb⟩
  refine v_seq ?_
  refine v_seq ?_
  refine v_region ?_
  refine vl_val (os_move rfl) ?_
  refine vl_val (os_move rfl) ?_
  refine vl_val (os_len Try.underlying106 rfl) ?_
  refine vl_val (os_lss rfl rfl) ?_
  refine vl_nil ?_
  refine v_cond_no rfl (by omega) ?_
  refine v_exit ?_
  refine v_seq ?_
  refine v_region ?_
  refine vl_val (os_move rfl) ?_
  refine vl_val (os_len Try.underlying106 rfl) ?_
  refine vl_some (ot_make (l := 0) Try.underlying106 ti_lTable rfl rfl rfl rfl rfl (by omega) (by simp [maxLen]) w'.heap.size (Nat.le_refl _)) ?_
  rintro v1 w1 ⟨rfl, ho1, hg1⟩
  have hb1 := hb.trans (((Below.refl _ _).grown hg1 (Nat.le_refl _) (fun k hk => by cases hk)).mono hb.size)
  refine vl_val (os_assign rfl) ?_
  refine vl_nil ?_
  refine v_seq ?_
  refine v_seq ?_
  refine v_region ?_
  refine vl_val (os_assign rfl) ?_
  refine vl_nil ?_
  refine v_block ?_
  refine v_loop [(0, _), (5, _)] (fun (k : Nat) => [(6, .int .i64 k)]) (fun k w' => k = 0 ∧ Below w.heap.size w w') (fun k => 0) (0) ⟨rfl, rfl, trivial⟩ ⟨rfl, trivial⟩ (⟨rfl, hb1⟩) ?_
  rintro k w' ⟨rfl, hb⟩
  refine v_seq ?_
  refine v_seq ?_
  refine v_region ?_
  refine vl_val (os_move rfl) ?_
  refine vl_val (os_move rfl) ?_
  refine vl_val (os_len Try.underlying106 rfl) ?_
  refine vl_val (os_lss rfl rfl) ?_
  refine vl_nil ?_
  refine v_cond_no rfl (by omega) ?_
  refine v_exit ?_
  refine v_seq ?_
  refine v_seq ?_
  refine v_region ?_
  refine vl_val (os_assign rfl) ?_
  refine vl_nil ?_
  refine v_block ?_
  refine v_loop [(0, _), (5, _)] (fun (k : Nat) => [(9, .int .i64 k)]) (fun k w' => k = 0 ∧ Below w.heap.size w w') (fun k => 0) (0) ⟨rfl, rfl, trivial⟩ ⟨rfl, trivial⟩ (⟨rfl, hb⟩) ?_
  rintro k w' ⟨rfl, hb⟩
  refine v_seq ?_
  refine v_seq ?_
  refine v_region ?_
  refine vl_val (os_move rfl) ?_
  refine vl_val (os_move rfl) ?_
  refine vl_val (os_len Try.underlying106 rfl) ?_
  refine vl_val (os_lss rfl rfl) ?_
  refine vl_nil ?_
  refine v_cond_no rfl (by omega) ?_
  refine v_exit ?_
  refine v_seq ?_
  refine v_seq ?_
  refine v_region ?_
  refine vl_val (os_assign rfl) ?_
  refine vl_nil ?_
  refine v_block ?_
  refine v_loop [(0, _), (5, _)] (fun (k : Nat) => [(11, .int .i64 k)]) (fun k w' => k = 0 ∧ Below w.heap.size w w') (fun k => 0) (0) ⟨rfl, rfl, trivial⟩ ⟨rfl, trivial⟩ (⟨rfl, hb⟩) ?_
  rintro k w' ⟨rfl, hb⟩
  refine v_seq ?_
  refine v_seq ?_
  refine v_region ?_
  refine vl_val (os_move rfl) ?_
  refine vl_val (os_move rfl) ?_
  refine vl_val (os_len Try.underlying106 rfl) ?_
  refine vl_val (os_lss rfl rfl) ?_
  refine vl_nil ?_
  refine v_cond_no rfl (by omega) ?_
  refine v_exit ?_
  refine v_seq ?_
  refine v_seq ?_
  refine v_region ?_
  refine vl_val (os_assign rfl) ?_
  refine vl_nil ?_
  refine v_block ?_
  refine v_loop [(0, _), (5, _)] (fun (k : Nat) => [(14, .int .i64 k)]) (fun k w' => k = 0 ∧ Below w.heap.size w w') (fun k => 0) (0) ⟨rfl, rfl, trivial⟩ ⟨rfl, trivial⟩ (⟨rfl, hb⟩) ?_
  rintro k w' ⟨rfl, hb⟩
  refine v_seq ?_
  refine v_seq ?_
  refine v_region ?_
  refine vl_val (os_move rfl) ?_
  refine vl_val (os_move rfl) ?_
  refine vl_val (os_len Try.underlying106 rfl) ?_
  refine vl_val (os_lss rfl rfl) ?_
  refine vl_nil ?_
  refine v_cond_no rfl (by omega) ?_
  refine v_exit ?_
  refine v_seq ?_
  refine v_region ?_
  refine vl_val (os_assign rfl) ?_
  refine vl_nil ?_
  refine v_ret ?_
  exact post_ret rfl rfl (⟨rfl, hb⟩)
theorem ti_lHeads : TyInfo Try.prog 169 (.slice none 0 0) 1 24 := by unfold TyInfo; kernel_rfl
theorem kit_noneHeads (w : World) : Gives Try.prog 124 #[.slice none 0 0] w fun v w' => v = .bool true ∧ Below w.heap.size w w' := by
  refine gives_enter Try.call124 Try.func124 rfl rfl rfl (by kernel_rfl) ?_
  refine v_seq ?_
  refine v_region ?_
  refine vl_val (os_assign rfl) ?_
  refine vl_nil ?_
  refine v_seq ?_
  refine v_seq ?_
  refine v_region ?_
  refine vl_val (os_assign rfl) ?_
  refine vl_nil ?_
  refine v_block ?_
  refine v_loop [(0, _)] (fun (k : Nat) => [(3, .int .i64 k)]) (fun k w' => k = 0 ∧ Below w.heap.size w w') (fun k => 0) (0) ⟨rfl, trivial⟩ ⟨rfl, trivial⟩ (⟨rfl, Below.refl _ _⟩) ?_
  rintro k w' ⟨rfl, hb⟩
  refine v_seq ?_
  refine v_seq ?_
  refine v_region ?_
  refine vl_val (os_move rfl) ?_
  refine vl_val (os_move rfl) ?_
  refine vl_val (os_len Try.underlying107 rfl) ?_
  refine vl_val (os_lss rfl rfl) ?_
  refine vl_nil ?_
  refine v_cond_no rfl (by omega) ?_
  refine v_exit ?_
  refine v_seq ?_
  refine v_region ?_
  refine vl_val (os_move rfl) ?_
  refine vl_val (os_len Try.underlying107 rfl) ?_
  refine vl_some (ot_make (l := 0) Try.underlying107 ti_lHeads rfl rfl rfl rfl rfl (by omega) (by simp [maxLen]) w'.heap.size (Nat.le_refl _)) ?_
  rintro v1 w1 ⟨rfl, ho1, hg1⟩
  have hb1 := hb.trans (((Below.refl _ _).grown hg1 (Nat.le_refl _) (fun k hk => by cases hk)).mono hb.size)
  refine vl_val (os_assign rfl) ?_
  refine vl_nil ?_
  refine v_seq ?_
  refine v_seq ?_
  refine v_region ?_
  refine vl_val (os_assign rfl) ?_
  refine vl_nil ?_
  refine v_block ?_
  refine v_loop [(0, _), (5, _)] (fun (k : Nat) => [(6, .int .i64 k)]) (fun k w' => k = 0 ∧ Below w.heap.size w w') (fun k => 0) (0) ⟨rfl, rfl, trivial⟩ ⟨rfl, trivial⟩ (⟨rfl, hb1⟩) ?_
  rintro k w' ⟨rfl, hb⟩
  refine v_seq ?_
  refine v_seq ?_
  refine v_region ?_
  refine vl_val (os_move rfl) ?_
  refine vl_val (os_move rfl) ?_
  refine vl_val (os_len Try.underlying107 rfl) ?_
  refine vl_val (os_lss rfl rfl) ?_
  refine vl_nil ?_
  refine v_cond_no rfl (by omega) ?_
  refine v_exit ?_
  refine v_seq ?_
  refine v_seq ?_
  refine v_region ?_
  refine vl_val (os_assign rfl) ?_
  refine vl_nil ?_
  refine v_block ?_
  refine v_loop [(0, _), (5, _)] (fun (k : Nat) => [(9, .int .i64 k)]) (fun k w' => k = 0 ∧ Below w.heap.size w w') (fun k => 0) (0) ⟨rfl, rfl, trivial⟩ ⟨rfl, trivial⟩ (⟨rfl, hb⟩) ?_
  rintro k w' ⟨rfl, hb⟩
  refine v_seq ?_
  refine v_seq ?_
  refine v_region ?_
  refine vl_val (os_move rfl) ?_
  refine vl_val (os_move rfl) ?_
  refine vl_val (os_len Try.underlying107 rfl) ?_
  refine vl_val (os_lss rfl rfl) ?_
  refine vl_nil ?_
  refine v_cond_no rfl (by omega) ?_
  refine v_exit ?_
  refine v_seq ?_
  refine v_seq ?_
  refine v_region ?_
  refine vl_val (os_assign rfl) ?_
  refine vl_nil ?_
  refine v_block ?_
  refine v_loop [(0, _), (5, _)] (fun (k : Nat) => [(11, .int .i64 k)]) (fun k w' => k = 0 ∧ Below w.heap.size w w') (fun k => 0) (0) ⟨rfl, rfl, trivial⟩ ⟨rfl, trivial⟩ (⟨rfl, hb⟩) ?_
  rintro k w' ⟨rfl, hb⟩
  refine v_seq ?_
  refine v_seq ?_
  refine v_region ?_
  refine vl_val (os_move rfl) ?_
  refine vl_val (os_move rfl) ?_
  refine vl_val (os_len Try.underlying107 rfl) ?_
  refine vl_val (os_lss rfl rfl) ?_
  refine vl_nil ?_
  refine v_cond_no rfl (by omega) ?_
  refine v_exit ?_
  refine v_seq ?_
  refine v_seq ?_
  refine v_region ?_
  refine vl_val (os_assign rfl) ?_
  refine vl_nil ?_
  refine v_block ?_
  refine v_loop [(0, _), (5, _)] (fun (k : Nat) => [(14, .int .i64 k)]) (fun k w' => k = 0 ∧ Below w.heap.size w w') (fun k => 0) (0) ⟨rfl, rfl, trivial⟩ ⟨rfl, trivial⟩ (⟨rfl, hb⟩) ?_
  rintro k w' ⟨rfl, hb⟩
  refine v_seq ?_
  refine v_seq ?_
  refine v_region ?_
  refine vl_val (os_move rfl) ?_
  refine vl_val (os_move rfl) ?_
  refine vl_val (os_len Try.underlying107 rfl) ?_
  refine vl_val (os_lss rfl rfl) ?_
  refine vl_nil ?_
  refine v_cond_no rfl (by omega) ?_
  refine v_exit ?_
  refine v_seq ?_
  refine v_region ?_
  refine vl_val (os_assign rfl) ?_
  refine vl_nil ?_
  refine v_ret ?_
  exact post_ret rfl rfl (⟨rfl, hb⟩)
theorem ti_lCounts : TyInfo Try.prog 33 (.slice none 0 0) 1 24 := by unfold TyInfo; kernel_rfl
theorem kit_noneCounts (w : World) : Gives Try.prog 125 #[.slice none 0 0] w fun v w' => v = .bool true ∧ Below w.heap.size w w' := by
  refine gives_enter Try.call125 Try.func125 rfl rfl rfl (by kernel_rfl) ?_
  refine v_seq ?_
  refine v_region ?_
  refine vl_val (os_assign rfl) ?_
  refine vl_nil ?_
  refine v_seq ?_
  refine v_seq ?_
  refine v_region ?_
  refine vl_val (os_assign rfl) ?_
  refine vl_nil ?_
  refine v_block ?_
  refine v_loop [(0, _)] (fun (k : Nat) => [(3, .int .i64 k)]) (fun k w' => k = 0 ∧ Below w.heap.size w w') (fun k => 0) (0) ⟨rfl, trivial⟩ ⟨rfl, trivial⟩ (⟨rfl, Below.refl _ _⟩) ?_
  rintro k w' ⟨rfl, hb⟩
  refine v_seq ?_
  refine v_seq ?_
  refine v_region ?_
  refine vl_val (os_move rfl) ?_
  refine vl_val (os_move rfl) ?_
  refine vl_val (os_len Try.underlying108 rfl) ?_
  refine vl_val (os_lss rfl rfl) ?_
  refine vl_nil ?_
  refine v_cond_no rfl (by omega) ?_
  refine v_exit ?_
  refine v_seq ?_
  refine v_region ?_
  refine vl_val (os_move rfl) ?_
  refine vl_val (os_len Try.underlying108 rfl) ?_
  refine vl_some (ot_make (l := 0) Try.underlying108 ti_lCounts rfl rfl rfl rfl rfl (by omega) (by simp [maxLen]) w'.heap.size (Nat.le_refl _)) ?_
  rintro v1 w1 ⟨rfl, ho1, hg1⟩
  have hb1 := hb.trans (((Below.refl _ _).grown hg1 (Nat.le_refl _) (fun k hk => by cases hk)).mono hb.size)
  refine vl_val (os_assign rfl) ?_
  refine vl_nil ?_
  refine v_seq ?_
  refine v_seq ?_
  refine v_region ?_
  refine vl_val (os_assign rfl) ?_
  refine vl_nil ?_
  refine v_block ?_
  refine v_loop [(0, _), (5, _)] (fun (k : Nat) => [(6, .int .i64 k)]) (fun k w' => k = 0 ∧ Below w.heap.size w w') (fun k => 0) (0) ⟨rfl, rfl, trivial⟩ ⟨rfl, trivial⟩ (⟨rfl, hb1⟩) ?_
  rintro k w' ⟨rfl, hb⟩
  refine v_seq ?_
  refine v_seq ?_
  refine v_region ?_
  refine vl_val (os_move rfl) ?_
  refine vl_val (os_move rfl) ?_
  refine vl_val (os_len Try.underlying108 rfl) ?_
  refine vl_val (os_lss rfl rfl) ?_
  refine vl_nil ?_
  refine v_cond_no rfl (by omega) ?_
  refine v_exit ?_
  refine v_seq ?_
  refine v_seq ?_
  refine v_region ?_
  refine vl_val (os_assign rfl) ?_
  refine vl_nil ?_
  refine v_block ?_
  refine v_loop [(0, _), (5, _)] (fun (k : Nat) => [(9, .int .i64 k)]) (fun k w' => k = 0 ∧ Below w.heap.size w w') (fun k => 0) (0) ⟨rfl, rfl, trivial⟩ ⟨rfl, trivial⟩ (⟨rfl, hb⟩) ?_
  rintro k w' ⟨rfl, hb⟩
  refine v_seq ?_
  refine v_seq ?_
  refine v_region ?_
  refine vl_val (os_move rfl) ?_
  refine vl_val (os_move rfl) ?_
  refine vl_val (os_len Try.underlying108 rfl) ?_
  refine vl_val (os_lss rfl rfl) ?_
  refine vl_nil ?_
  refine v_cond_no rfl (by omega) ?_
  refine v_exit ?_
  refine v_seq ?_
  refine v_seq ?_
  refine v_region ?_
  refine vl_val (os_assign rfl) ?_
  refine vl_nil ?_
  refine v_block ?_
  refine v_loop [(0, _), (5, _)] (fun (k : Nat) => [(11, .int .i64 k)]) (fun k w' => k = 0 ∧ Below w.heap.size w w') (fun k => 0) (0) ⟨rfl, rfl, trivial⟩ ⟨rfl, trivial⟩ (⟨rfl, hb⟩) ?_
  rintro k w' ⟨rfl, hb⟩
  refine v_seq ?_
  refine v_seq ?_
  refine v_region ?_
  refine vl_val (os_move rfl) ?_
  refine vl_val (os_move rfl) ?_
  refine vl_val (os_len Try.underlying108 rfl) ?_
  refine vl_val (os_lss rfl rfl) ?_
  refine vl_nil ?_
  refine v_cond_no rfl (by omega) ?_
  refine v_exit ?_
  refine v_seq ?_
  refine v_seq ?_
  refine v_region ?_
  refine vl_val (os_assign rfl) ?_
  refine vl_nil ?_
  refine v_block ?_
  refine v_loop [(0, _), (5, _)] (fun (k : Nat) => [(14, .int .i64 k)]) (fun k w' => k = 0 ∧ Below w.heap.size w w') (fun k => 0) (0) ⟨rfl, rfl, trivial⟩ ⟨rfl, trivial⟩ (⟨rfl, hb⟩) ?_
  rintro k w' ⟨rfl, hb⟩
  refine v_seq ?_
  refine v_seq ?_
  refine v_region ?_
  refine vl_val (os_move rfl) ?_
  refine vl_val (os_move rfl) ?_
  refine vl_val (os_len Try.underlying108 rfl) ?_
  refine vl_val (os_lss rfl rfl) ?_
  refine vl_nil ?_
  refine v_cond_no rfl (by omega) ?_
  refine v_exit ?_
  refine v_seq ?_
  refine v_region ?_
  refine vl_val (os_assign rfl) ?_
  refine vl_nil ?_
  refine v_ret ?_
  exact post_ret rfl rfl (⟨rfl, hb⟩)
theorem ti_lNotes : TyInfo Try.prog 22 (.slice none 0 0) 1 24 := by unfold TyInfo; kernel_rfl
theorem kit_noneNotes (w : World) : Gives Try.prog 126 #[.slice none 0 0] w fun v w' => v = .bool true ∧ Below w.heap.size w w' := by
  refine gives_enter Try.call126 Try.func126 rfl rfl rfl (by kernel_rfl) ?_
  refine v_seq ?_
  refine v_region ?_
  refine vl_val (os_assign rfl) ?_
  refine vl_nil ?_
  refine v_seq ?_
  refine v_seq ?_
  refine v_region ?_
  refine vl_val (os_assign rfl) ?_
  refine vl_nil ?_
  refine v_block ?_
  refine v_loop [(0, _)] (fun (k : Nat) => [(3, .int .i64 k)]) (fun k w' => k = 0 ∧ Below w.heap.size w w') (fun k => 0) (0) ⟨rfl, trivial⟩ ⟨rfl, trivial⟩ (⟨rfl, Below.refl _ _⟩) ?_
  rintro k w' ⟨rfl, hb⟩
  refine v_seq ?_
  refine v_seq ?_
  refine v_region ?_
  refine vl_val (os_move rfl) ?_
  refine vl_val (os_move rfl) ?_
  refine vl_val (os_len Try.underlying109 rfl) ?_
  refine vl_val (os_lss rfl rfl) ?_
  refine vl_nil ?_
  refine v_cond_no rfl (by omega) ?_
  refine v_exit ?_
  refine v_seq ?_
  refine v_region ?_
  refine vl_val (os_move rfl) ?_
  refine vl_val (os_len Try.underlying109 rfl) ?_
  refine vl_some (ot_make (l := 0) Try.underlying109 ti_lNotes rfl rfl rfl rfl rfl (by omega) (by simp [maxLen]) w'.heap.size (Nat.le_refl _)) ?_
  rintro v1 w1 ⟨rfl, ho1, hg1⟩
  have hb1 := hb.trans (((Below.refl _ _).grown hg1 (Nat.le_refl _) (fun k hk => by cases hk)).mono hb.size)
  refine vl_val (os_assign rfl) ?_
  refine vl_nil ?_
  refine v_seq ?_
  refine v_seq ?_
  refine v_region ?_
  refine vl_val (os_assign rfl) ?_
  refine vl_nil ?_
  refine v_block ?_
  refine v_loop [(0, _), (5, _)] (fun (k : Nat) => [(6, .int .i64 k)]) (fun k w' => k = 0 ∧ Below w.heap.size w w') (fun k => 0) (0) ⟨rfl, rfl, trivial⟩ ⟨rfl, trivial⟩ (⟨rfl, hb1⟩) ?_
  rintro k w' ⟨rfl, hb⟩
  refine v_seq ?_
  refine v_seq ?_
  refine v_region ?_
  refine vl_val (os_move rfl) ?_
  refine vl_val (os_move rfl) ?_
  refine vl_val (os_len Try.underlying109 rfl) ?_
  refine vl_val (os_lss rfl rfl) ?_
  refine vl_nil ?_
  refine v_cond_no rfl (by omega) ?_
  refine v_exit ?_
  refine v_seq ?_
  refine v_seq ?_
  refine v_region ?_
  refine vl_val (os_assign rfl) ?_
  refine vl_nil ?_
  refine v_block ?_
  refine v_loop [(0, _), (5, _)] (fun (k : Nat) => [(9, .int .i64 k)]) (fun k w' => k = 0 ∧ Below w.heap.size w w') (fun k => 0) (0) ⟨rfl, rfl, trivial⟩ ⟨rfl, trivial⟩ (⟨rfl, hb⟩) ?_
  rintro k w' ⟨rfl, hb⟩
  refine v_seq ?_
  refine v_seq ?_
  refine v_region ?_
  refine vl_val (os_move rfl) ?_
  refine vl_val (os_move rfl) ?_
  refine vl_val (os_len Try.underlying109 rfl) ?_
  refine vl_val (os_lss rfl rfl) ?_
  refine vl_nil ?_
  refine v_cond_no rfl (by omega) ?_
  refine v_exit ?_
  refine v_seq ?_
  refine v_seq ?_
  refine v_region ?_
  refine vl_val (os_assign rfl) ?_
  refine vl_nil ?_
  refine v_block ?_
  refine v_loop [(0, _), (5, _)] (fun (k : Nat) => [(11, .int .i64 k)]) (fun k w' => k = 0 ∧ Below w.heap.size w w') (fun k => 0) (0) ⟨rfl, rfl, trivial⟩ ⟨rfl, trivial⟩ (⟨rfl, hb⟩) ?_
  rintro k w' ⟨rfl, hb⟩
  refine v_seq ?_
  refine v_seq ?_
  refine v_region ?_
  refine vl_val (os_move rfl) ?_
  refine vl_val (os_move rfl) ?_
  refine vl_val (os_len Try.underlying109 rfl) ?_
  refine vl_val (os_lss rfl rfl) ?_
  refine vl_nil ?_
  refine v_cond_no rfl (by omega) ?_
  refine v_exit ?_
  refine v_seq ?_
  refine v_seq ?_
  refine v_region ?_
  refine vl_val (os_assign rfl) ?_
  refine vl_nil ?_
  refine v_block ?_
  refine v_loop [(0, _), (5, _)] (fun (k : Nat) => [(14, .int .i64 k)]) (fun k w' => k = 0 ∧ Below w.heap.size w w') (fun k => 0) (0) ⟨rfl, rfl, trivial⟩ ⟨rfl, trivial⟩ (⟨rfl, hb⟩) ?_
  rintro k w' ⟨rfl, hb⟩
  refine v_seq ?_
  refine v_seq ?_
  refine v_region ?_
  refine vl_val (os_move rfl) ?_
  refine vl_val (os_move rfl) ?_
  refine vl_val (os_len Try.underlying109 rfl) ?_
  refine vl_val (os_lss rfl rfl) ?_
  refine vl_nil ?_
  refine v_cond_no rfl (by omega) ?_
  refine v_exit ?_
  refine v_seq ?_
  refine v_region ?_
  refine vl_val (os_assign rfl) ?_
  refine vl_nil ?_
  refine v_ret ?_
  exact post_ret rfl rfl (⟨rfl, hb⟩)
theorem ti_lFates : TyInfo Try.prog 175 (.slice none 0 0) 1 24 := by unfold TyInfo; kernel_rfl
theorem kit_noneFates (w : World) : Gives Try.prog 127 #[.slice none 0 0] w fun v w' => v = .bool true ∧ Below w.heap.size w w' := by
  refine gives_enter Try.call127 Try.func127 rfl rfl rfl (by kernel_rfl) ?_
  refine v_seq ?_
  refine v_region ?_
  refine vl_val (os_assign rfl) ?_
  refine vl_nil ?_
  refine v_seq ?_
  refine v_seq ?_
  refine v_region ?_
  refine vl_val (os_assign rfl) ?_
  refine vl_nil ?_
  refine v_block ?_
  refine v_loop [(0, _)] (fun (k : Nat) => [(3, .int .i64 k)]) (fun k w' => k = 0 ∧ Below w.heap.size w w') (fun k => 0) (0) ⟨rfl, trivial⟩ ⟨rfl, trivial⟩ (⟨rfl, Below.refl _ _⟩) ?_
  rintro k w' ⟨rfl, hb⟩
  refine v_seq ?_
  refine v_seq ?_
  refine v_region ?_
  refine vl_val (os_move rfl) ?_
  refine vl_val (os_move rfl) ?_
  refine vl_val (os_len Try.underlying110 rfl) ?_
  refine vl_val (os_lss rfl rfl) ?_
  refine vl_nil ?_
  refine v_cond_no rfl (by omega) ?_
  refine v_exit ?_
  refine v_seq ?_
  refine v_region ?_
  refine vl_val (os_move rfl) ?_
  refine vl_val (os_len Try.underlying110 rfl) ?_
  refine vl_some (ot_make (l := 0) Try.underlying110 ti_lFates rfl rfl rfl rfl rfl (by omega) (by simp [maxLen]) w'.heap.size (Nat.le_refl _)) ?_
  rintro v1 w1 ⟨rfl, ho1, hg1⟩
  have hb1 := hb.trans (((Below.refl _ _).grown hg1 (Nat.le_refl _) (fun k hk => by cases hk)).mono hb.size)
  refine vl_val (os_assign rfl) ?_
  refine vl_nil ?_
  refine v_seq ?_
  refine v_seq ?_
  refine v_region ?_
  refine vl_val (os_assign rfl) ?_
  refine vl_nil ?_
  refine v_block ?_
  refine v_loop [(0, _), (5, _)] (fun (k : Nat) => [(6, .int .i64 k)]) (fun k w' => k = 0 ∧ Below w.heap.size w w') (fun k => 0) (0) ⟨rfl, rfl, trivial⟩ ⟨rfl, trivial⟩ (⟨rfl, hb1⟩) ?_
  rintro k w' ⟨rfl, hb⟩
  refine v_seq ?_
  refine v_seq ?_
  refine v_region ?_
  refine vl_val (os_move rfl) ?_
  refine vl_val (os_move rfl) ?_
  refine vl_val (os_len Try.underlying110 rfl) ?_
  refine vl_val (os_lss rfl rfl) ?_
  refine vl_nil ?_
  refine v_cond_no rfl (by omega) ?_
  refine v_exit ?_
  refine v_seq ?_
  refine v_seq ?_
  refine v_region ?_
  refine vl_val (os_assign rfl) ?_
  refine vl_nil ?_
  refine v_block ?_
  refine v_loop [(0, _), (5, _)] (fun (k : Nat) => [(9, .int .i64 k)]) (fun k w' => k = 0 ∧ Below w.heap.size w w') (fun k => 0) (0) ⟨rfl, rfl, trivial⟩ ⟨rfl, trivial⟩ (⟨rfl, hb⟩) ?_
  rintro k w' ⟨rfl, hb⟩
  refine v_seq ?_
  refine v_seq ?_
  refine v_region ?_
  refine vl_val (os_move rfl) ?_
  refine vl_val (os_move rfl) ?_
  refine vl_val (os_len Try.underlying110 rfl) ?_
  refine vl_val (os_lss rfl rfl) ?_
  refine vl_nil ?_
  refine v_cond_no rfl (by omega) ?_
  refine v_exit ?_
  refine v_seq ?_
  refine v_seq ?_
  refine v_region ?_
  refine vl_val (os_assign rfl) ?_
  refine vl_nil ?_
  refine v_block ?_
  refine v_loop [(0, _), (5, _)] (fun (k : Nat) => [(11, .int .i64 k)]) (fun k w' => k = 0 ∧ Below w.heap.size w w') (fun k => 0) (0) ⟨rfl, rfl, trivial⟩ ⟨rfl, trivial⟩ (⟨rfl, hb⟩) ?_
  rintro k w' ⟨rfl, hb⟩
  refine v_seq ?_
  refine v_seq ?_
  refine v_region ?_
  refine vl_val (os_move rfl) ?_
  refine vl_val (os_move rfl) ?_
  refine vl_val (os_len Try.underlying110 rfl) ?_
  refine vl_val (os_lss rfl rfl) ?_
  refine vl_nil ?_
  refine v_cond_no rfl (by omega) ?_
  refine v_exit ?_
  refine v_seq ?_
  refine v_seq ?_
  refine v_region ?_
  refine vl_val (os_assign rfl) ?_
  refine vl_nil ?_
  refine v_block ?_
  refine v_loop [(0, _), (5, _)] (fun (k : Nat) => [(14, .int .i64 k)]) (fun k w' => k = 0 ∧ Below w.heap.size w w') (fun k => 0) (0) ⟨rfl, rfl, trivial⟩ ⟨rfl, trivial⟩ (⟨rfl, hb⟩) ?_
  rintro k w' ⟨rfl, hb⟩
  refine v_seq ?_
  refine v_seq ?_
  refine v_region ?_
  refine vl_val (os_move rfl) ?_
  refine vl_val (os_move rfl) ?_
  refine vl_val (os_len Try.underlying110 rfl) ?_
  refine vl_val (os_lss rfl rfl) ?_
  refine vl_nil ?_
  refine v_cond_no rfl (by omega) ?_
  refine v_exit ?_
  refine v_seq ?_
  refine v_region ?_
  refine vl_val (os_assign rfl) ?_
  refine vl_nil ?_
  refine v_ret ?_
  exact post_ret rfl rfl (⟨rfl, hb⟩)

end Go.Proofs.Ytpjmiafefammkaa
