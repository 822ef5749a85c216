/- Texts joined: FlE. -/
import Derived.Test.YtpojijnjdlnokaaM20
/- The law's kit: whether lists lie apart: of those kinds of which there are none. -/
namespace Go.Proofs.Ytpojijnjdlnokaa
open Go.RowKit
set_option linter.unusedVariables false

theorem ti_lLimbs : TyInfo Try.prog 187 (.slice none 0 0) 1 24 := by unfold TyInfo; kernel_rfl
theorem kit_noneLimbs (w : World) : Gives Try.prog 107 #[.slice none 0 0] w fun v w' => v = .bool true ∧ Below w.heap.size w w' := by
  refine gives_enter Try.call107 Try.func107 rfl rfl rfl (by kernel_rfl) ?_
  refine v_seq ?_
  refine v_region ?_
  refine vl_val (os_assign rfl) ?_
  refine vl_nil ?_
  refine v_seq ?_
  refine v_seq ?_
  refine v_region ?_
  refine vl_val (os_assign rfl) ?_
  refine vl_nil ?_
  refine v_block ?_
  refine v_loop [(0, _)] (fun (k : Nat) => [(3, .int .i64 k)]) (fun k w' => k = 0 ∧ Below w.heap.size w w') (fun k => 0) (0) ⟨rfl, trivial⟩ ⟨rfl, trivial⟩ (⟨rfl, Below.refl _ _⟩) ?_
  rintro k w' ⟨rfl, hb⟩
  refine v_seq ?_
  refine v_seq ?_
  refine v_region ?_
  refine vl_val (os_move rfl) ?_
  refine vl_val (os_move rfl) ?_
  refine vl_val (os_len Try.underlying110 rfl) ?_
  refine vl_val (os_lss rfl rfl) ?_
  refine vl_nil ?_
  refine v_cond_no rfl (by omega) ?_
  refine v_exit ?_
  refine v_seq ?_
  refine v_region ?_
  refine vl_val (os_move rfl) ?_
  refine vl_val (os_len Try.underlying110 rfl) ?_
  refine vl_some (ot_make (l := 0) Try.underlying110 ti_lLimbs rfl rfl rfl rfl rfl (by omega) (by simp [maxLen]) w'.heap.size (Nat.le_refl _)) ?_
  rintro v1 w1 ⟨rfl, ho1, hg1⟩
  have hb1 := hb.trans (((Below.refl _ _).grown hg1 (Nat.le_refl _) (fun k hk => by cases hk)).mono hb.size)
  refine vl_val (os_assign rfl) ?_
  refine vl_nil ?_
  refine v_seq ?_
  refine v_seq ?_
  refine v_region ?_
  refine vl_val (os_assign rfl) ?_
  refine vl_nil ?_
  refine v_block ?_
  refine v_loop [(0, _), (5, _)] (fun (k : Nat) => [(6, .int .i64 k)]) (fun k w' => k = 0 ∧ Below w.heap.size w w') (fun k => 0) (0) ⟨rfl, rfl, trivial⟩ ⟨rfl, trivial⟩ (⟨rfl, hb1⟩) ?_
  rintro k w' ⟨rfl, hb⟩
  refine v_seq ?_
  refine v_seq ?_
  refine v_region ?_
  refine vl_val (os_move rfl) ?_
  refine vl_val (os_move rfl) ?_
  refine vl_val (os_len Try.underlying110 rfl) ?_
  refine vl_val (os_lss rfl rfl) ?_
  refine vl_nil ?_
  refine v_cond_no rfl (by omega) ?_
  refine v_exit ?_
  refine v_seq ?_
  refine v_seq ?_
  refine v_region ?_
  refine vl_val (os_assign rfl) ?_
  refine vl_nil ?_
  refine v_block ?_
  refine v_loop [(0, _), (5, _)] (fun (k : Nat) => [(9, .int .i64 k)]) (fun k w' => k = 0 ∧ Below w.heap.size w w') (fun k => 0) (0) ⟨rfl, rfl, trivial⟩ ⟨rfl, trivial⟩ (⟨rfl, hb⟩) ?_
  rintro k w' ⟨rfl, hb⟩
  refine v_seq ?_
  refine v_seq ?_
  refine v_region ?_
  refine vl_val (os_move rfl) ?_
  refine vl_val (os_move rfl) ?_
  refine vl_val (os_len Try.underlying110 rfl) ?_
  refine vl_val (os_lss rfl rfl) ?_
  refine vl_nil ?_
  refine v_cond_no rfl (by omega) ?_
  refine v_exit ?_
  refine v_seq ?_
  refine v_seq ?_
  refine v_region ?_
  refine vl_val (os_assign rfl) ?_
  refine vl_nil ?_
  refine v_block ?_
  refine v_loop [(0, _), (5, _)] (fun (k : Nat) => [(11, .int .i64 k)]) (fun k w' => k = 0 ∧ Below w.heap.size w w') (fun k => 0) (0) ⟨rfl, rfl, trivial⟩ ⟨rfl, trivial⟩ (⟨rfl, hb⟩) ?_
  rintro k w' ⟨rfl, hb⟩
  refine v_seq ?_
  refine v_seq ?_
  refine v_region ?_
  refine vl_val (os_move rfl) ?_
  refine vl_val (os_move rfl) ?_
  refine vl_val (os_len Try.underlying110 rfl) ?_
  refine vl_val (os_lss rfl rfl) ?_
  refine vl_nil ?_
  refine v_cond_no rfl (by omega) ?_
  refine v_exit ?_
  refine v_seq ?_
  refine v_seq ?_
  refine v_region ?_
  refine vl_val (os_assign rfl) ?_
  refine vl_nil ?_
  refine v_block ?_
  refine v_loop [(0, _), (5, _)] (fun (k : Nat) => [(14, .int .i64 k)]) (fun k w' => k = 0 ∧ Below w.heap.size w w') (fun k => 0) (0) ⟨rfl, rfl, trivial⟩ ⟨rfl, trivial⟩ (⟨rfl, hb⟩) ?_
  rintro k w' ⟨rfl, hb⟩
  refine v_seq ?_
  refine v_seq ?_
  refine v_region ?_
  refine vl_val (os_move rfl) ?_
  refine vl_val (os_move rfl) ?_
  refine vl_val (os_len Try.underlying110 rfl) ?_
  refine vl_val (os_lss rfl rfl) ?_
  refine vl_nil ?_
  refine v_cond_no rfl (by omega) ?_
  refine v_exit ?_
  refine v_seq ?_
  refine v_region ?_
  refine vl_val (os_assign rfl) ?_
  refine vl_nil ?_
  refine v_ret ?_
  exact post_ret rfl rfl (⟨rfl, hb⟩)
theorem ti_lWords : TyInfo Try.prog 188 (.slice none 0 0) 1 24 := by unfold TyInfo; kernel_rfl
theorem kit_noneWords (w : World) : Gives Try.prog 108 #[.slice none 0 0] w fun v w' => v = .bool true ∧ Below w.heap.size w w' := by
  refine gives_enter Try.call108 Try.func108 rfl rfl rfl (by kernel_rfl) ?_
  refine v_seq ?_
  refine v_region ?_
  refine vl_val (os_assign rfl) ?_
  refine vl_nil ?_
  refine v_seq ?_
  refine v_seq ?_
  refine v_region ?_
  refine vl_val (os_assign rfl) ?_
  refine vl_nil ?_
  refine v_block ?_
  refine v_loop [(0, _)] (fun (k : Nat) => [(3, .int .i64 k)]) (fun k w' => k = 0 ∧ Below w.heap.size w w') (fun k => 0) (0) ⟨rfl, trivial⟩ ⟨rfl, trivial⟩ (⟨rfl, Below.refl _ _⟩) ?_
  rintro k w' ⟨rfl, hb⟩
  refine v_seq ?_
  refine v_seq ?_
  refine v_region ?_
  refine vl_val (os_move rfl) ?_
  refine vl_val (os_move rfl) ?_
  refine vl_val (os_len Try.underlying111 rfl) ?_
  refine vl_val (os_lss rfl rfl) ?_
  refine vl_nil ?_
  refine v_cond_no rfl (by omega) ?_
  refine v_exit ?_
  refine v_seq ?_
  refine v_region ?_
  refine vl_val (os_move rfl) ?_
  refine vl_val (os_len Try.underlying111 rfl) ?_
  refine vl_some (ot_make (l := 0) Try.underlying111 ti_lWords rfl rfl rfl rfl rfl (by omega) (by simp [maxLen]) w'.heap.size (Nat.le_refl _)) ?_
  rintro v1 w1 ⟨rfl, ho1, hg1⟩
  have hb1 := hb.trans (((Below.refl _ _).grown hg1 (Nat.le_refl _) (fun k hk => by cases hk)).mono hb.size)
  refine vl_val (os_assign rfl) ?_
  refine vl_nil ?_
  refine v_seq ?_
  refine v_seq ?_
  refine v_region ?_
  refine vl_val (os_assign rfl) ?_
  refine vl_nil ?_
  refine v_block ?_
  refine v_loop [(0, _), (5, _)] (fun (k : Nat) => [(6, .int .i64 k)]) (fun k w' => k = 0 ∧ Below w.heap.size w w') (fun k => 0) (0) ⟨rfl, rfl, trivial⟩ ⟨rfl, trivial⟩ (⟨rfl, hb1⟩) ?_
  rintro k w' ⟨rfl, hb⟩
  refine v_seq ?_
  refine v_seq ?_
  refine v_region ?_
  refine vl_val (os_move rfl) ?_
  refine vl_val (os_move rfl) ?_
  refine vl_val (os_len Try.underlying111 rfl) ?_
  refine vl_val (os_lss rfl rfl) ?_
  refine vl_nil ?_
  refine v_cond_no rfl (by omega) ?_
  refine v_exit ?_
  refine v_seq ?_
  refine v_seq ?_
  refine v_region ?_
  refine vl_val (os_assign rfl) ?_
  refine vl_nil ?_
  refine v_block ?_
  refine v_loop [(0, _), (5, _)] (fun (k : Nat) => [(9, .int .i64 k)]) (fun k w' => k = 0 ∧ Below w.heap.size w w') (fun k => 0) (0) ⟨rfl, rfl, trivial⟩ ⟨rfl, trivial⟩ (⟨rfl, hb⟩) ?_
  rintro k w' ⟨rfl, hb⟩
  refine v_seq ?_
  refine v_seq ?_
  refine v_region ?_
  refine vl_val (os_move rfl) ?_
  refine vl_val (os_move rfl) ?_
  refine vl_val (os_len Try.underlying111 rfl) ?_
  refine vl_val (os_lss rfl rfl) ?_
  refine vl_nil ?_
  refine v_cond_no rfl (by omega) ?_
  refine v_exit ?_
  refine v_seq ?_
  refine v_seq ?_
  refine v_region ?_
  refine vl_val (os_assign rfl) ?_
  refine vl_nil ?_
  refine v_block ?_
  refine v_loop [(0, _), (5, _)] (fun (k : Nat) => [(11, .int .i64 k)]) (fun k w' => k = 0 ∧ Below w.heap.size w w') (fun k => 0) (0) ⟨rfl, rfl, trivial⟩ ⟨rfl, trivial⟩ (⟨rfl, hb⟩) ?_
  rintro k w' ⟨rfl, hb⟩
  refine v_seq ?_
  refine v_seq ?_
  refine v_region ?_
  refine vl_val (os_move rfl) ?_
  refine vl_val (os_move rfl) ?_
  refine vl_val (os_len Try.underlying111 rfl) ?_
  refine vl_val (os_lss rfl rfl) ?_
  refine vl_nil ?_
  refine v_cond_no rfl (by omega) ?_
  refine v_exit ?_
  refine v_seq ?_
  refine v_seq ?_
  refine v_region ?_
  refine vl_val (os_assign rfl) ?_
  refine vl_nil ?_
  refine v_block ?_
  refine v_loop [(0, _), (5, _)] (fun (k : Nat) => [(14, .int .i64 k)]) (fun k w' => k = 0 ∧ Below w.heap.size w w') (fun k => 0) (0) ⟨rfl, rfl, trivial⟩ ⟨rfl, trivial⟩ (⟨rfl, hb⟩) ?_
  rintro k w' ⟨rfl, hb⟩
  refine v_seq ?_
  refine v_seq ?_
  refine v_region ?_
  refine vl_val (os_move rfl) ?_
  refine vl_val (os_move rfl) ?_
  refine vl_val (os_len Try.underlying111 rfl) ?_
  refine vl_val (os_lss rfl rfl) ?_
  refine vl_nil ?_
  refine v_cond_no rfl (by omega) ?_
  refine v_exit ?_
  refine v_seq ?_
  refine v_region ?_
  refine vl_val (os_assign rfl) ?_
  refine vl_nil ?_
  refine v_ret ?_
  exact post_ret rfl rfl (⟨rfl, hb⟩)
theorem ti_lInts : TyInfo Try.prog 40 (.slice none 0 0) 1 24 := by unfold TyInfo; kernel_rfl
theorem kit_noneInts (w : World) : Gives Try.prog 109 #[.slice none 0 0] w fun v w' => v = .bool true ∧ Below w.heap.size w w' := by
  refine gives_enter Try.call109 Try.func109 rfl rfl rfl (by kernel_rfl) ?_
  refine v_seq ?_
  refine v_region ?_
  refine vl_val (os_assign rfl) ?_
  refine vl_nil ?_
  refine v_seq ?_
  refine v_seq ?_
  refine v_region ?_
  refine vl_val (os_assign rfl) ?_
  refine vl_nil ?_
  refine v_block ?_
  refine v_loop [(0, _)] (fun (k : Nat) => [(3, .int .i64 k)]) (fun k w' => k = 0 ∧ Below w.heap.size w w') (fun k => 0) (0) ⟨rfl, trivial⟩ ⟨rfl, trivial⟩ (⟨rfl, Below.refl _ _⟩) ?_
  rintro k w' ⟨rfl, hb⟩
  refine v_seq ?_
  refine v_seq ?_
  refine v_region ?_
  refine vl_val (os_move rfl) ?_
  refine vl_val (os_move rfl) ?_
  refine vl_val (os_len Try.underlying59 rfl) ?_
  refine vl_val (os_lss rfl rfl) ?_
  refine vl_nil ?_
  refine v_cond_no rfl (by omega) ?_
  refine v_exit ?_
  refine v_seq ?_
  refine v_region ?_
  refine vl_val (os_move rfl) ?_
  refine vl_val (os_len Try.underlying59 rfl) ?_
  refine vl_some (ot_make (l := 0) Try.underlying59 ti_lInts rfl rfl rfl rfl rfl (by omega) (by simp [maxLen]) w'.heap.size (Nat.le_refl _)) ?_
  rintro v1 w1 ⟨rfl, ho1, hg1⟩
  have hb1 := hb.trans (((Below.refl _ _).grown hg1 (Nat.le_refl _) (fun k hk => by cases hk)).mono hb.size)
  refine vl_val (os_assign rfl) ?_
  refine vl_nil ?_
  refine v_seq ?_
  refine v_seq ?_
  refine v_region ?_
  refine vl_val (os_assign rfl) ?_
  refine vl_nil ?_
  refine v_block ?_
  refine v_loop [(0, _), (5, _)] (fun (k : Nat) => [(6, .int .i64 k)]) (fun k w' => k = 0 ∧ Below w.heap.size w w') (fun k => 0) (0) ⟨rfl, rfl, trivial⟩ ⟨rfl, trivial⟩ (⟨rfl, hb1⟩) ?_
  rintro k w' ⟨rfl, hb⟩
  refine v_seq ?_
  refine v_seq ?_
  refine v_region ?_
  refine vl_val (os_move rfl) ?_
  refine vl_val (os_move rfl) ?_
  refine vl_val (os_len Try.underlying59 rfl) ?_
  refine vl_val (os_lss rfl rfl) ?_
  refine vl_nil ?_
  refine v_cond_no rfl (by omega) ?_
  refine v_exit ?_
  refine v_seq ?_
  refine v_seq ?_
  refine v_region ?_
  refine vl_val (os_assign rfl) ?_
  refine vl_nil ?_
  refine v_block ?_
  refine v_loop [(0, _), (5, _)] (fun (k : Nat) => [(9, .int .i64 k)]) (fun k w' => k = 0 ∧ Below w.heap.size w w') (fun k => 0) (0) ⟨rfl, rfl, trivial⟩ ⟨rfl, trivial⟩ (⟨rfl, hb⟩) ?_
  rintro k w' ⟨rfl, hb⟩
  refine v_seq ?_
  refine v_seq ?_
  refine v_region ?_
  refine vl_val (os_move rfl) ?_
  refine vl_val (os_move rfl) ?_
  refine vl_val (os_len Try.underlying59 rfl) ?_
  refine vl_val (os_lss rfl rfl) ?_
  refine vl_nil ?_
  refine v_cond_no rfl (by omega) ?_
  refine v_exit ?_
  refine v_seq ?_
  refine v_seq ?_
  refine v_region ?_
  refine vl_val (os_assign rfl) ?_
  refine vl_nil ?_
  refine v_block ?_
  refine v_loop [(0, _), (5, _)] (fun (k : Nat) => [(11, .int .i64 k)]) (fun k w' => k = 0 ∧ Below w.heap.size w w') (fun k => 0) (0) ⟨rfl, rfl, trivial⟩ ⟨rfl, trivial⟩ (⟨rfl, hb⟩) ?_
  rintro k w' ⟨rfl, hb⟩
  refine v_seq ?_
  refine v_seq ?_
  refine v_region ?_
  refine vl_val (os_move rfl) ?_
  refine vl_val (os_move rfl) ?_
  refine vl_val (os_len Try.underlying59 rfl) ?_
  refine vl_val (os_lss rfl rfl) ?_
  refine vl_nil ?_
  refine v_cond_no rfl (by omega) ?_
  refine v_exit ?_
  refine v_seq ?_
  refine v_seq ?_
  refine v_region ?_
  refine vl_val (os_assign rfl) ?_
  refine vl_nil ?_
  refine v_block ?_
  refine v_loop [(0, _), (5, _)] (fun (k : Nat) => [(14, .int .i64 k)]) (fun k w' => k = 0 ∧ Below w.heap.size w w') (fun k => 0) (0) ⟨rfl, rfl, trivial⟩ ⟨rfl, trivial⟩ (⟨rfl, hb⟩) ?_
  rintro k w' ⟨rfl, hb⟩
  refine v_seq ?_
  refine v_seq ?_
  refine v_region ?_
  refine vl_val (os_move rfl) ?_
  refine vl_val (os_move rfl) ?_
  refine vl_val (os_len Try.underlying59 rfl) ?_
  refine vl_val (os_lss rfl rfl) ?_
  refine vl_nil ?_
  refine v_cond_no rfl (by omega) ?_
  refine v_exit ?_
  refine v_seq ?_
  refine v_region ?_
  refine vl_val (os_assign rfl) ?_
  refine vl_nil ?_
  refine v_ret ?_
  exact post_ret rfl rfl (⟨rfl, hb⟩)
theorem ti_lLongs : TyInfo Try.prog 189 (.slice none 0 0) 1 24 := by unfold TyInfo; kernel_rfl
theorem kit_noneLongs (w : World) : Gives Try.prog 110 #[.slice none 0 0] w fun v w' => v = .bool true ∧ Below w.heap.size w w' := by
  refine gives_enter Try.call110 Try.func110 rfl rfl rfl (by kernel_rfl) ?_
  refine v_seq ?_
  refine v_region ?_
  refine vl_val (os_assign rfl) ?_
  refine vl_nil ?_
  refine v_seq ?_
  refine v_seq ?_
  refine v_region ?_
  refine vl_val (os_assign rfl) ?_
  refine vl_nil ?_
  refine v_block ?_
  refine v_loop [(0, _)] (fun (k : Nat) => [(3, .int .i64 k)]) (fun k w' => k = 0 ∧ Below w.heap.size w w') (fun k => 0) (0) ⟨rfl, trivial⟩ ⟨rfl, trivial⟩ (⟨rfl, Below.refl _ _⟩) ?_
  rintro k w' ⟨rfl, hb⟩
  refine v_seq ?_
  refine v_seq ?_
  refine v_region ?_
  refine vl_val (os_move rfl) ?_
  refine vl_val (os_move rfl) ?_
  refine vl_val (os_len Try.underlying112 rfl) ?_
  refine vl_val (os_lss rfl rfl) ?_
  refine vl_nil ?_
  refine v_cond_no rfl (by omega) ?_
  refine v_exit ?_
  refine v_seq ?_
  refine v_region ?_
  refine vl_val (os_move rfl) ?_
  refine vl_val (os_len Try.underlying112 rfl) ?_
  refine vl_some (ot_make (l := 0) Try.underlying112 ti_lLongs rfl rfl rfl rfl rfl (by omega) (by simp [maxLen]) w'.heap.size (Nat.le_refl _)) ?_
  rintro v1 w1 ⟨rfl, ho1, hg1⟩
  have hb1 := hb.trans (((Below.refl _ _).grown hg1 (Nat.le_refl _) (fun k hk => by cases hk)).mono hb.size)
  refine vl_val (os_assign rfl) ?_
  refine vl_nil ?_
  refine v_seq ?_
  refine v_seq ?_
  refine v_region ?_
  refine vl_val (os_assign rfl) ?_
  refine vl_nil ?_
  refine v_block ?_
  refine v_loop [(0, _), (5, _)] (fun (k : Nat) => [(6, .int .i64 k)]) (fun k w' => k = 0 ∧ Below w.heap.size w w') (fun k => 0) (0) ⟨rfl, rfl, trivial⟩ ⟨rfl, trivial⟩ (⟨rfl, hb1⟩) ?_
  rintro k w' ⟨rfl, hb⟩
  refine v_seq ?_
  refine v_seq ?_
  refine v_region ?_
  refine vl_val (os_move rfl) ?_
  refine vl_val (os_move rfl) ?_
  refine vl_val (os_len Try.underlying112 rfl) ?_
  refine vl_val (os_lss rfl rfl) ?_
  refine vl_nil ?_
  refine v_cond_no rfl (by omega) ?_
  refine v_exit ?_
  refine v_seq ?_
  refine v_seq ?_
  refine v_region ?_
  refine vl_val (os_assign rfl) ?_
  refine vl_nil ?_
  refine v_block ?_
  refine v_loop [(0, _), (5, _)] (fun (k : Nat) => [(9, .int .i64 k)]) (fun k w' => k = 0 ∧ Below w.heap.size w w') (fun k => 0) (0) ⟨rfl, rfl, trivial⟩ ⟨rfl, trivial⟩ (⟨rfl, hb⟩) ?_
  rintro k w' ⟨rfl, hb⟩
  refine v_seq ?_
  refine v_seq ?_
  refine v_region ?_
  refine vl_val (os_move rfl) ?_
  refine vl_val (os_move rfl) ?_
  refine vl_val (os_len Try.underlying112 rfl) ?_
  refine vl_val (os_lss rfl rfl) ?_
  refine vl_nil ?_
  refine v_cond_no rfl (by omega) ?_
  refine v_exit ?_
  refine v_seq ?_
  refine v_seq ?_
  refine v_region ?_
  refine vl_val (os_assign rfl) ?_
  refine vl_nil ?_
  refine v_block ?_
  refine v_loop [(0, _), (5, _)] (fun (k : Nat) => [(11, .int .i64 k)]) (fun k w' => k = 0 ∧ Below w.heap.size w w') (fun k => 0) (0) ⟨rfl, rfl, trivial⟩ ⟨rfl, trivial⟩ (⟨rfl, hb⟩) ?_
  rintro k w' ⟨rfl, hb⟩
  refine v_seq ?_
  refine v_seq ?_
  refine v_region ?_
  refine vl_val (os_move rfl) ?_
  refine vl_val (os_move rfl) ?_
  refine vl_val (os_len Try.underlying112 rfl) ?_
  refine vl_val (os_lss rfl rfl) ?_
  refine vl_nil ?_
  refine v_cond_no rfl (by omega) ?_
  refine v_exit ?_
  refine v_seq ?_
  refine v_seq ?_
  refine v_region ?_
  refine vl_val (os_assign rfl) ?_
  refine vl_nil ?_
  refine v_block ?_
  refine v_loop [(0, _), (5, _)] (fun (k : Nat) => [(14, .int .i64 k)]) (fun k w' => k = 0 ∧ Below w.heap.size w w') (fun k => 0) (0) ⟨rfl, rfl, trivial⟩ ⟨rfl, trivial⟩ (⟨rfl, hb⟩) ?_
  rintro k w' ⟨rfl, hb⟩
  refine v_seq ?_
  refine v_seq ?_
  refine v_region ?_
  refine vl_val (os_move rfl) ?_
  refine vl_val (os_move rfl) ?_
  refine vl_val (os_len Try.underlying112 rfl) ?_
  refine vl_val (os_lss rfl rfl) ?_
  refine vl_nil ?_
  refine v_cond_no rfl (by omega) ?_
  refine v_exit ?_
  refine v_seq ?_
  refine v_region ?_
  refine vl_val (os_assign rfl) ?_
  refine vl_nil ?_
  refine v_ret ?_
  exact post_ret rfl rfl (⟨rfl, hb⟩)
theorem ti_lTexts : TyInfo Try.prog 190 (.slice none 0 0) 1 24 := by unfold TyInfo; kernel_rfl
theorem kit_noneTexts (w : World) : Gives Try.prog 111 #[.slice none 0 0] w fun v w' => v = .bool true ∧ Below w.heap.size w w' := by
  refine gives_enter Try.call111 Try.func111 rfl rfl rfl (by kernel_rfl) ?_
  refine v_seq ?_
  refine v_region ?_
  refine vl_val (os_assign rfl) ?_
  refine vl_nil ?_
  refine v_seq ?_
  refine v_seq ?_
  refine v_region ?_
  refine vl_val (os_assign rfl) ?_
  refine vl_nil ?_
  refine v_block ?_
  refine v_loop [(0, _)] (fun (k : Nat) => [(3, .int .i64 k)]) (fun k w' => k = 0 ∧ Below w.heap.size w w') (fun k => 0) (0) ⟨rfl, trivial⟩ ⟨rfl, trivial⟩ (⟨rfl, Below.refl _ _⟩) ?_
  rintro k w' ⟨rfl, hb⟩
  refine v_seq ?_
  refine v_seq ?_
  refine v_region ?_
  refine vl_val (os_move rfl) ?_
  refine vl_val (os_move rfl) ?_
  refine vl_val (os_len Try.underlying113 rfl) ?_
  refine vl_val (os_lss rfl rfl) ?_
  refine vl_nil ?_
  refine v_cond_no rfl (by omega) ?_
  refine v_exit ?_
  refine v_seq ?_
  refine v_region ?_
  refine vl_val (os_move rfl) ?_
  refine vl_val (os_len Try.underlying113 rfl) ?_
  refine vl_some (ot_make (l := 0) Try.underlying113 ti_lTexts rfl rfl rfl rfl rfl (by omega) (by simp [maxLen]) w'.heap.size (Nat.le_refl _)) ?_
  rintro v1 w1 ⟨rfl, ho1, hg1⟩
  have hb1 := hb.trans (((Below.refl _ _).grown hg1 (Nat.le_refl _) (fun k hk => by cases hk)).mono hb.size)
  refine vl_val (os_assign rfl) ?_
  refine vl_nil ?_
  refine v_seq ?_
  refine v_seq ?_
  refine v_region ?_
  refine vl_val (os_assign rfl) ?_
  refine vl_nil ?_
  refine v_block ?_
  refine v_loop [(0, _), (5, _)] (fun (k : Nat) => [(6, .int .i64 k)]) (fun k w' => k = 0 ∧ Below w.heap.size w w') (fun k => 0) (0) ⟨rfl, rfl, trivial⟩ ⟨rfl, trivial⟩ (⟨rfl, hb1⟩) ?_
  rintro k w' ⟨rfl, hb⟩
  refine v_seq ?_
  refine v_seq ?_
  refine v_region ?_
  refine vl_val (os_move rfl) ?_
  refine vl_val (os_move rfl) ?_
  refine vl_val (os_len Try.underlying113 rfl) ?_
  refine vl_val (os_lss rfl rfl) ?_
  refine vl_nil ?_
  refine v_cond_no rfl (by omega) ?_
  refine v_exit ?_
  refine v_seq ?_
  refine v_seq ?_
  refine v_region ?_
  refine vl_val (os_assign rfl) ?_
  refine vl_nil ?_
  refine v_block ?_
  refine v_loop [(0, _), (5, _)] (fun (k : Nat) => [(9, .int .i64 k)]) (fun k w' => k = 0 ∧ Below w.heap.size w w') (fun k => 0) (0) ⟨rfl, rfl, trivial⟩ ⟨rfl, trivial⟩ (⟨rfl, hb⟩) ?_
  rintro k w' ⟨rfl, hb⟩
  refine v_seq ?_
  refine v_seq ?_
  refine v_region ?_
  refine vl_val (os_move rfl) ?_
  refine vl_val (os_move rfl) ?_
  refine vl_val (os_len Try.underlying113 rfl) ?_
  refine vl_val (os_lss rfl rfl) ?_
  refine vl_nil ?_
  refine v_cond_no rfl (by omega) ?_
  refine v_exit ?_
  refine v_seq ?_
  refine v_seq ?_
  refine v_region ?_
  refine vl_val (os_assign rfl) ?_
  refine vl_nil ?_
  refine v_block ?_
  refine v_loop [(0, _), (5, _)] (fun (k : Nat) => [(11, .int .i64 k)]) (fun k w' => k = 0 ∧ Below w.heap.size w w') (fun k => 0) (0) ⟨rfl, rfl, trivial⟩ ⟨rfl, trivial⟩ (⟨rfl, hb⟩) ?_
  rintro k w' ⟨rfl, hb⟩
  refine v_seq ?_
  refine v_seq ?_
  refine v_region ?_
  refine vl_val (os_move rfl) ?_
  refine vl_val (os_move rfl) ?_
  refine vl_val (os_len Try.underlying113 rfl) ?_
  refine vl_val (os_lss rfl rfl) ?_
  refine vl_nil ?_
  refine v_cond_no rfl (by omega) ?_
  refine v_exit ?_
  refine v_seq ?_
  refine v_seq ?_
  refine v_region ?_
  refine vl_val (os_assign rfl) ?_
  refine vl_nil ?_
  refine v_block ?_
  refine v_loop [(0, _), (5, _)] (fun (k : Nat) => [(14, .int .i64 k)]) (fun k w' => k = 0 ∧ Below w.heap.size w w') (fun k => 0) (0) ⟨rfl, rfl, trivial⟩ ⟨rfl, trivial⟩ (⟨rfl, hb⟩) ?_
  rintro k w' ⟨rfl, hb⟩
  refine v_seq ?_
  refine v_seq ?_
  refine v_region ?_
  refine vl_val (os_move rfl) ?_
  refine vl_val (os_move rfl) ?_
  refine vl_val (os_len Try.underlying113 rfl) ?_
  refine vl_val (os_lss rfl rfl) ?_
  refine vl_nil ?_
  refine v_cond_no rfl (by omega) ?_
  refine v_exit ?_
  refine v_seq ?_
  refine v_region ?_
  refine vl_val (os_assign rfl) ?_
  refine vl_nil ?_
  refine v_ret ?_
  exact post_ret rfl rfl (⟨rfl, hb⟩)
theorem ti_lBytes : TyInfo Try.prog 22 (.slice none 0 0) 1 24 := by unfold TyInfo; kernel_rfl
theorem kit_noneBytes (w : World) : Gives Try.prog 112 #[.slice none 0 0] w fun v w' => v = .bool true ∧ Below w.heap.size w w' := by
  refine gives_enter Try.call112 Try.func112 rfl rfl rfl (by kernel_rfl) ?_
  refine v_seq ?_
  refine v_region ?_
  refine vl_val (os_assign rfl) ?_
  refine vl_nil ?_
  refine v_seq ?_
  refine v_seq ?_
  refine v_region ?_
  refine vl_val (os_assign rfl) ?_
  refine vl_nil ?_
  refine v_block ?_
  refine v_loop [(0, _)] (fun (k : Nat) => [(3, .int .i64 k)]) (fun k w' => k = 0 ∧ Below w.heap.size w w') (fun k => 0) (0) ⟨rfl, trivial⟩ ⟨rfl, trivial⟩ (⟨rfl, Below.refl _ _⟩) ?_
  rintro k w' ⟨rfl, hb⟩
  refine v_seq ?_
  refine v_seq ?_
  refine v_region ?_
  refine vl_val (os_move rfl) ?_
  refine vl_val (os_move rfl) ?_
  refine vl_val (os_len Try.underlying23 rfl) ?_
  refine vl_val (os_lss rfl rfl) ?_
  refine vl_nil ?_
  refine v_cond_no rfl (by omega) ?_
  refine v_exit ?_
  refine v_seq ?_
  refine v_region ?_
  refine vl_val (os_move rfl) ?_
  refine vl_val (os_len Try.underlying23 rfl) ?_
  refine vl_some (ot_make (l := 0) Try.underlying23 ti_lBytes rfl rfl rfl rfl rfl (by omega) (by simp [maxLen]) w'.heap.size (Nat.le_refl _)) ?_
  rintro v1 w1 ⟨rfl, ho1, hg1⟩
  have hb1 := hb.trans (((Below.refl _ _).grown hg1 (Nat.le_refl _) (fun k hk => by cases hk)).mono hb.size)
  refine vl_val (os_assign rfl) ?_
  refine vl_nil ?_
  refine v_seq ?_
  refine v_seq ?_
  refine v_region ?_
  refine vl_val (os_assign rfl) ?_
  refine vl_nil ?_
  refine v_block ?_
  refine v_loop [(0, _), (5, _)] (fun (k : Nat) => [(6, .int .i64 k)]) (fun k w' => k = 0 ∧ Below w.heap.size w w') (fun k => 0) (0) ⟨rfl, rfl, trivial⟩ ⟨rfl, trivial⟩ (⟨rfl, hb1⟩) ?_
  rintro k w' ⟨rfl, hb⟩
  refine v_seq ?_
  refine v_seq ?_
  refine v_region ?_
  refine vl_val (os_move rfl) ?_
  refine vl_val (os_move rfl) ?_
  refine vl_val (os_len Try.underlying23 rfl) ?_
  refine vl_val (os_lss rfl rfl) ?_
  refine vl_nil ?_
  refine v_cond_no rfl (by omega) ?_
  refine v_exit ?_
  refine v_seq ?_
  refine v_seq ?_
  refine v_region ?_
  refine vl_val (os_assign rfl) ?_
  refine vl_nil ?_
  refine v_block ?_
  refine v_loop [(0, _), (5, _)] (fun (k : Nat) => [(9, .int .i64 k)]) (fun k w' => k = 0 ∧ Below w.heap.size w w') (fun k => 0) (0) ⟨rfl, rfl, trivial⟩ ⟨rfl, trivial⟩ (⟨rfl, hb⟩) ?_
  rintro k w' ⟨rfl, hb⟩
  refine v_seq ?_
  refine v_seq ?_
  refine v_region ?_
  refine vl_val (os_move rfl) ?_
  refine vl_val (os_move rfl) ?_
  refine vl_val (os_len Try.underlying23 rfl) ?_
  refine vl_val (os_lss rfl rfl) ?_
  refine vl_nil ?_
  refine v_cond_no rfl (by omega) ?_
  refine v_exit ?_
  refine v_seq ?_
  refine v_seq ?_
  refine v_region ?_
  refine vl_val (os_assign rfl) ?_
  refine vl_nil ?_
  refine v_block ?_
  refine v_loop [(0, _), (5, _)] (fun (k : Nat) => [(11, .int .i64 k)]) (fun k w' => k = 0 ∧ Below w.heap.size w w') (fun k => 0) (0) ⟨rfl, rfl, trivial⟩ ⟨rfl, trivial⟩ (⟨rfl, hb⟩) ?_
  rintro k w' ⟨rfl, hb⟩
  refine v_seq ?_
  refine v_seq ?_
  refine v_region ?_
  refine vl_val (os_move rfl) ?_
  refine vl_val (os_move rfl) ?_
  refine vl_val (os_len Try.underlying23 rfl) ?_
  refine vl_val (os_lss rfl rfl) ?_
  refine vl_nil ?_
  refine v_cond_no rfl (by omega) ?_
  refine v_exit ?_
  refine v_seq ?_
  refine v_seq ?_
  refine v_region ?_
  refine vl_val (os_assign rfl) ?_
  refine vl_nil ?_
  refine v_block ?_
  refine v_loop [(0, _), (5, _)] (fun (k : Nat) => [(14, .int .i64 k)]) (fun k w' => k = 0 ∧ Below w.heap.size w w') (fun k => 0) (0) ⟨rfl, rfl, trivial⟩ ⟨rfl, trivial⟩ (⟨rfl, hb⟩) ?_
  rintro k w' ⟨rfl, hb⟩
  refine v_seq ?_
  refine v_seq ?_
  refine v_region ?_
  refine vl_val (os_move rfl) ?_
  refine vl_val (os_move rfl) ?_
  refine vl_val (os_len Try.underlying23 rfl) ?_
  refine vl_val (os_lss rfl rfl) ?_
  refine vl_nil ?_
  refine v_cond_no rfl (by omega) ?_
  refine v_exit ?_
  refine v_seq ?_
  refine v_region ?_
  refine vl_val (os_assign rfl) ?_
  refine vl_nil ?_
  refine v_ret ?_
  exact post_ret rfl rfl (⟨rfl, hb⟩)
theorem ti_lTruths : TyInfo Try.prog 146 (.slice none 0 0) 1 24 := by unfold TyInfo; kernel_rfl
theorem kit_noneTruths (w : World) : Gives Try.prog 113 #[.slice none 0 0] w fun v w' => v = .bool true ∧ Below w.heap.size w w' := by
  refine gives_enter Try.call113 Try.func113 rfl rfl rfl (by kernel_rfl) ?_
  refine v_seq ?_
  refine v_region ?_
  refine vl_val (os_assign rfl) ?_
  refine vl_nil ?_
  refine v_seq ?_
  refine v_seq ?_
  refine v_region ?_
  refine vl_val (os_assign rfl) ?_
  refine vl_nil ?_
  refine v_block ?_
  refine v_loop [(0, _)] (fun (k : Nat) => [(3, .int .i64 k)]) (fun k w' => k = 0 ∧ Below w.heap.size w w') (fun k => 0) (0) ⟨rfl, trivial⟩ ⟨rfl, trivial⟩ (⟨rfl, Below.refl _ _⟩) ?_
  rintro k w' ⟨rfl, hb⟩
  refine v_seq ?_
  refine v_seq ?_
  refine v_region ?_
  refine vl_val (os_move rfl) ?_
  refine vl_val (os_move rfl) ?_
  refine vl_val (os_len Try.underlying114 rfl) ?_
  refine vl_val (os_lss rfl rfl) ?_
  refine vl_nil ?_
  refine v_cond_no rfl (by omega) ?_
  refine v_exit ?_
  refine v_seq ?_
  refine v_region ?_
  refine vl_val (os_move rfl) ?_
  refine vl_val (os_len Try.underlying114 rfl) ?_
  refine vl_some (ot_make (l := 0) Try.underlying114 ti_lTruths rfl rfl rfl rfl rfl (by omega) (by simp [maxLen]) w'.heap.size (Nat.le_refl _)) ?_
  rintro v1 w1 ⟨rfl, ho1, hg1⟩
  have hb1 := hb.trans (((Below.refl _ _).grown hg1 (Nat.le_refl _) (fun k hk => by cases hk)).mono hb.size)
  refine vl_val (os_assign rfl) ?_
  refine vl_nil ?_
  refine v_seq ?_
  refine v_seq ?_
  refine v_region ?_
  refine vl_val (os_assign rfl) ?_
  refine vl_nil ?_
  refine v_block ?_
  refine v_loop [(0, _), (5, _)] (fun (k : Nat) => [(6, .int .i64 k)]) (fun k w' => k = 0 ∧ Below w.heap.size w w') (fun k => 0) (0) ⟨rfl, rfl, trivial⟩ ⟨rfl, trivial⟩ (⟨rfl, hb1⟩) ?_
  rintro k w' ⟨rfl, hb⟩
  refine v_seq ?_
  refine v_seq ?_
  refine v_region ?_
  refine vl_val (os_move rfl) ?_
  refine vl_val (os_move rfl) ?_
  refine vl_val (os_len Try.underlying114 rfl) ?_
  refine vl_val (os_lss rfl rfl) ?_
  refine vl_nil ?_
  refine v_cond_no rfl (by omega) ?_
  refine v_exit ?_
  refine v_seq ?_
  refine v_seq ?_
  refine v_region ?_
  refine vl_val (os_assign rfl) ?_
  refine vl_nil ?_
  refine v_block ?_
  refine v_loop [(0, _), (5, _)] (fun (k : Nat) => [(9, .int .i64 k)]) (fun k w' => k = 0 ∧ Below w.heap.size w w') (fun k => 0) (0) ⟨rfl, rfl, trivial⟩ ⟨rfl, trivial⟩ (⟨rfl, hb⟩) ?_
  rintro k w' ⟨rfl, hb⟩
  refine v_seq ?_
  refine v_seq ?_
  refine v_region ?_
  refine vl_val (os_move rfl) ?_
  refine vl_val (os_move rfl) ?_
  refine vl_val (os_len Try.underlying114 rfl) ?_
  refine vl_val (os_lss rfl rfl) ?_
  refine vl_nil ?_
  refine v_cond_no rfl (by omega) ?_
  refine v_exit ?_
  refine v_seq ?_
  refine v_seq ?_
  refine v_region ?_
  refine vl_val (os_assign rfl) ?_
  refine vl_nil ?_
  refine v_block ?_
  refine v_loop [(0, _), (5, _)] (fun (k : Nat) => [(11, .int .i64 k)]) (fun k w' => k = 0 ∧ Below w.heap.size w w') (fun k => 0) (0) ⟨rfl, rfl, trivial⟩ ⟨rfl, trivial⟩ (⟨rfl, hb⟩) ?_
  rintro k w' ⟨rfl, hb⟩
  refine v_seq ?_
  refine v_seq ?_
  refine v_region ?_
  refine vl_val (os_move rfl) ?_
  refine vl_val (os_move rfl) ?_
  refine vl_val (os_len Try.underlying114 rfl) ?_
  refine vl_val (os_lss rfl rfl) ?_
  refine vl_nil ?_
  refine v_cond_no rfl (by omega) ?_
  refine v_exit ?_
  refine v_seq ?_
  refine v_seq ?_
  refine v_region ?_
  refine vl_val (os_assign rfl) ?_
  refine vl_nil ?_
  refine v_block ?_
  refine v_loop [(0, _), (5, _)] (fun (k : Nat) => [(14, .int .i64 k)]) (fun k w' => k = 0 ∧ Below w.heap.size w w') (fun k => 0) (0) ⟨rfl, rfl, trivial⟩ ⟨rfl, trivial⟩ (⟨rfl, hb⟩) ?_
  rintro k w' ⟨rfl, hb⟩
  refine v_seq ?_
  refine v_seq ?_
  refine v_region ?_
  refine vl_val (os_move rfl) ?_
  refine vl_val (os_move rfl) ?_
  refine vl_val (os_len Try.underlying114 rfl) ?_
  refine vl_val (os_lss rfl rfl) ?_
  refine vl_nil ?_
  refine v_cond_no rfl (by omega) ?_
  refine v_exit ?_
  refine v_seq ?_
  refine v_region ?_
  refine vl_val (os_assign rfl) ?_
  refine vl_nil ?_
  refine v_ret ?_
  exact post_ret rfl rfl (⟨rfl, hb⟩)
theorem ti_lLayers : TyInfo Try.prog 192 (.slice none 0 0) 1 24 := by unfold TyInfo; kernel_rfl
theorem kit_noneLayers (w : World) : Gives Try.prog 114 #[.slice none 0 0] w fun v w' => v = .bool true ∧ Below w.heap.size w w' := by
  refine gives_enter Try.call114 Try.func114 rfl rfl rfl (by kernel_rfl) ?_
  refine v_seq ?_
  refine v_region ?_
  refine vl_val (os_assign rfl) ?_
  refine vl_nil ?_
  refine v_seq ?_
  refine v_seq ?_
  refine v_region ?_
  refine vl_val (os_assign rfl) ?_
  refine vl_nil ?_
  refine v_block ?_
  refine v_loop [(0, _)] (fun (k : Nat) => [(3, .int .i64 k)]) (fun k w' => k = 0 ∧ Below w.heap.size w w') (fun k => 0) (0) ⟨rfl, trivial⟩ ⟨rfl, trivial⟩ (⟨rfl, Below.refl _ _⟩) ?_
  rintro k w' ⟨rfl, hb⟩
  refine v_seq ?_
  refine v_seq ?_
  refine v_region ?_
  refine vl_val (os_move rfl) ?_
  refine vl_val (os_move rfl) ?_
  refine vl_val (os_len Try.underlying115 rfl) ?_
  refine vl_val (os_lss rfl rfl) ?_
  refine vl_nil ?_
  refine v_cond_no rfl (by omega) ?_
  refine v_exit ?_
  refine v_seq ?_
  refine v_region ?_
  refine vl_val (os_move rfl) ?_
  refine vl_val (os_len Try.underlying115 rfl) ?_
  refine vl_some (ot_make (l := 0) Try.underlying115 ti_lLayers rfl rfl rfl rfl rfl (by omega) (by simp [maxLen]) w'.heap.size (Nat.le_refl _)) ?_
  rintro v1 w1 ⟨rfl, ho1, hg1⟩
  have hb1 := hb.trans (((Below.refl _ _).grown hg1 (Nat.le_refl _) (fun k hk => by cases hk)).mono hb.size)
  refine vl_val (os_assign rfl) ?_
  refine vl_nil ?_
  refine v_seq ?_
  refine v_seq ?_
  refine v_region ?_
  refine vl_val (os_assign rfl) ?_
  refine vl_nil ?_
  refine v_block ?_
  refine v_loop [(0, _), (5, _)] (fun (k : Nat) => [(6, .int .i64 k)]) (fun k w' => k = 0 ∧ Below w.heap.size w w') (fun k => 0) (0) ⟨rfl, rfl, trivial⟩ ⟨rfl, trivial⟩ (⟨rfl, hb1⟩) ?_
  rintro k w' ⟨rfl, hb⟩
  refine v_seq ?_
  refine v_seq ?_
  refine v_region ?_
  refine vl_val (os_move rfl) ?_
  refine vl_val (os_move rfl) ?_
  refine vl_val (os_len Try.underlying115 rfl) ?_
  refine vl_val (os_lss rfl rfl) ?_
  refine vl_nil ?_
  refine v_cond_no rfl (by omega) ?_
  refine v_exit ?_
  refine v_seq ?_
  refine v_seq ?_
  refine v_region ?_
  refine vl_val (os_assign rfl) ?_
  refine vl_nil ?_
  refine v_block ?_
  refine v_loop [(0, _), (5, _)] (fun (k : Nat) => [(9, .int .i64 k)]) (fun k w' => k = 0 ∧ Below w.heap.size w w') (fun k => 0) (0) ⟨rfl, rfl, trivial⟩ ⟨rfl, trivial⟩ (⟨rfl, hb⟩) ?_
  rintro k w' ⟨rfl, hb⟩
  refine v_seq ?_
  refine v_seq ?_
  refine v_region ?_
  refine vl_val (os_move rfl) ?_
  refine vl_val (os_move rfl) ?_
  refine vl_val (os_len Try.underlying115 rfl) ?_
  refine vl_val (os_lss rfl rfl) ?_
  refine vl_nil ?_
  refine v_cond_no rfl (by omega) ?_
  refine v_exit ?_
  refine v_seq ?_
  refine v_seq ?_
  refine v_region ?_
  refine vl_val (os_assign rfl) ?_
  refine vl_nil ?_
  refine v_block ?_
  refine v_loop [(0, _), (5, _)] (fun (k : Nat) => [(11, .int .i64 k)]) (fun k w' => k = 0 ∧ Below w.heap.size w w') (fun k => 0) (0) ⟨rfl, rfl, trivial⟩ ⟨rfl, trivial⟩ (⟨rfl, hb⟩) ?_
  rintro k w' ⟨rfl, hb⟩
  refine v_seq ?_
  refine v_seq ?_
  refine v_region ?_
  refine vl_val (os_move rfl) ?_
  refine vl_val (os_move rfl) ?_
  refine vl_val (os_len Try.underlying115 rfl) ?_
  refine vl_val (os_lss rfl rfl) ?_
  refine vl_nil ?_
  refine v_cond_no rfl (by omega) ?_
  refine v_exit ?_
  refine v_seq ?_
  refine v_seq ?_
  refine v_region ?_
  refine vl_val (os_assign rfl) ?_
  refine vl_nil ?_
  refine v_block ?_
  refine v_loop [(0, _), (5, _)] (fun (k : Nat) => [(14, .int .i64 k)]) (fun k w' => k = 0 ∧ Below w.heap.size w w') (fun k => 0) (0) ⟨rfl, rfl, trivial⟩ ⟨rfl, trivial⟩ (⟨rfl, hb⟩) ?_
  rintro k w' ⟨rfl, hb⟩
  refine v_seq ?_
  refine v_seq ?_
  refine v_region ?_
  refine vl_val (os_move rfl) ?_
  refine vl_val (os_move rfl) ?_
  refine vl_val (os_len Try.underlying115 rfl) ?_
  refine vl_val (os_lss rfl rfl) ?_
  refine vl_nil ?_
  refine v_cond_no rfl (by omega) ?_
  refine v_exit ?_
  refine v_seq ?_
  refine v_region ?_
  refine vl_val (os_assign rfl) ?_
  refine vl_nil ?_
  refine v_ret ?_
  exact post_ret rfl rfl (⟨rfl, hb⟩)
theorem ti_lTable : TyInfo Try.prog 63 (.slice none 0 0) 1 24 := by unfold TyInfo; kernel_rfl
theorem kit_noneTable (w : World) : Gives Try.prog 115 #[.slice none 0 0] w fun v w' => v = .bool true ∧ Below w.heap.size w w' := by
  refine gives_enter Try.call115 Try.func115 rfl rfl rfl (by kernel_rfl) ?_
  refine v_seq ?_
  refine v_region ?_
  refine vl_val (os_assign rfl) ?_
  refine vl_nil ?_
  refine v_seq ?_
  refine v_seq ?_
  refine v_region ?_
  refine vl_val (os_assign rfl) ?_
  refine vl_nil ?_
  refine v_block ?_
  refine v_loop [(0, _)] (fun (k : Nat) => [(3, .int .i64 k)]) (fun k w' => k = 0 ∧ Below w.heap.size w w') (fun k => 0) (0) ⟨rfl, trivial⟩ ⟨rfl, trivial⟩ (⟨rfl, Below.refl _ _⟩) ?_
  rintro k w' ⟨rfl, hb⟩
  refine v_seq ?_
  refine v_seq ?_
  refine v_region ?_
  refine vl_val (os_move rfl) ?_
  refine vl_val (os_move rfl) ?_
  refine vl_val (os_len Try.underlying116 rfl) ?_
  refine vl_val (os_lss rfl rfl) ?_
  refine vl_nil ?_
  refine v_cond_no rfl (by omega) ?_
  refine v_exit ?_
  refine v_seq ?_
  refine v_region ?_
  refine vl_val (os_move rfl) ?_
  refine vl_val (os_len Try.underlying116 rfl) ?_
  refine vl_some (ot_make (l := 0) Try.underlying116 ti_lTable rfl rfl rfl rfl rfl (by omega) (by simp [maxLen]) w'.heap.size (Nat.le_refl _)) ?_
  rintro v1 w1 ⟨rfl, ho1, hg1⟩
  have hb1 := hb.trans (((Below.refl _ _).grown hg1 (Nat.le_refl _) (fun k hk => by cases hk)).mono hb.size)
  refine vl_val (os_assign rfl) ?_
  refine vl_nil ?_
  refine v_seq ?_
  refine v_seq ?_
  refine v_region ?_
  refine vl_val (os_assign rfl) ?_
  refine vl_nil ?_
  refine v_block ?_
  refine v_loop [(0, _), (5, _)] (fun (k : Nat) => [(6, .int .i64 k)]) (fun k w' => k = 0 ∧ Below w.heap.size w w') (fun k => 0) (0) ⟨rfl, rfl, trivial⟩ ⟨rfl, trivial⟩ (⟨rfl, hb1⟩) ?_
  rintro k w' ⟨rfl, hb⟩
  refine v_seq ?_
  refine v_seq ?_
  refine v_region ?_
  refine vl_val (os_move rfl) ?_
  refine vl_val (os_move rfl) ?_
  refine vl_val (os_len Try.underlying116 rfl) ?_
  refine vl_val (os_lss rfl rfl) ?_
  refine vl_nil ?_
  refine v_cond_no rfl (by omega) ?_
  refine v_exit ?_
  refine v_seq ?_
  refine v_seq ?_
  refine v_region ?_
  refine vl_val (os_assign rfl) ?_
  refine vl_nil ?_
  refine v_block ?_
  refine v_loop [(0, _), (5, _)] (fun (k : Nat) => [(9, .int .i64 k)]) (fun k w' => k = 0 ∧ Below w.heap.size w w') (fun k => 0) (0) ⟨rfl, rfl, trivial⟩ ⟨rfl, trivial⟩ (⟨rfl, hb⟩) ?_
  rintro k w' ⟨rfl, hb⟩
  refine v_seq ?_
  refine v_seq ?_
  refine v_region ?_
  refine vl_val (os_move rfl) ?_
  refine vl_val (os_move rfl) ?_
  refine vl_val (os_len Try.underlying116 rfl) ?_
  refine vl_val (os_lss rfl rfl) ?_
  refine vl_nil ?_
  refine v_cond_no rfl (by omega) ?_
  refine v_exit ?_
  refine v_seq ?_
  refine v_seq ?_
  refine v_region ?_
  refine vl_val (os_assign rfl) ?_
  refine vl_nil ?_
  refine v_block ?_
  refine v_loop [(0, _), (5, _)] (fun (k : Nat) => [(11, .int .i64 k)]) (fun k w' => k = 0 ∧ Below w.heap.size w w') (fun k => 0) (0) ⟨rfl, rfl, trivial⟩ ⟨rfl, trivial⟩ (⟨rfl, hb⟩) ?_
  rintro k w' ⟨rfl, hb⟩
  refine v_seq ?_
  refine v_seq ?_
  refine v_region ?_
  refine vl_val (os_move rfl) ?_
  refine vl_val (os_move rfl) ?_
  refine vl_val (os_len Try.underlying116 rfl) ?_
  refine vl_val (os_lss rfl rfl) ?_
  refine vl_nil ?_
  refine v_cond_no rfl (by omega) ?_
  refine v_exit ?_
  refine v_seq ?_
  refine v_seq ?_
  refine v_region ?_
  refine vl_val (os_assign rfl) ?_
  refine vl_nil ?_
  refine v_block ?_
  refine v_loop [(0, _), (5, _)] (fun (k : Nat) => [(14, .int .i64 k)]) (fun k w' => k = 0 ∧ Below w.heap.size w w') (fun k => 0) (0) ⟨rfl, rfl, trivial⟩ ⟨rfl, trivial⟩ (⟨rfl, hb⟩) ?_
  rintro k w' ⟨rfl, hb⟩
  refine v_seq ?_
  refine v_seq ?_
  refine v_region ?_
  refine vl_val (os_move rfl) ?_
  refine vl_val (os_move rfl) ?_
  refine vl_val (os_len Try.underlying116 rfl) ?_
  refine vl_val (os_lss rfl rfl) ?_
  refine vl_nil ?_
  refine v_cond_no rfl (by omega) ?_
  refine v_exit ?_
  refine v_seq ?_
  refine v_region ?_
  refine vl_val (os_assign rfl) ?_
  refine vl_nil ?_
  refine v_ret ?_
  exact post_ret rfl rfl (⟨rfl, hb⟩)
theorem ti_lHeads : TyInfo Try.prog 66 (.slice none 0 0) 1 24 := by unfold TyInfo; kernel_rfl
theorem kit_noneHeads (w : World) : Gives Try.prog 116 #[.slice none 0 0] w fun v w' => v = .bool true ∧ Below w.heap.size w w' := by
  refine gives_enter Try.call116 Try.func116 rfl rfl rfl (by kernel_rfl) ?_
  refine v_seq ?_
  refine v_region ?_
  refine vl_val (os_assign rfl) ?_
  refine vl_nil ?_
  refine v_seq ?_
  refine v_seq ?_
  refine v_region ?_
  refine vl_val (os_assign rfl) ?_
  refine vl_nil ?_
  refine v_block ?_
  refine v_loop [(0, _)] (fun (k : Nat) => [(3, .int .i64 k)]) (fun k w' => k = 0 ∧ Below w.heap.size w w') (fun k => 0) (0) ⟨rfl, trivial⟩ ⟨rfl, trivial⟩ (⟨rfl, Below.refl _ _⟩) ?_
  rintro k w' ⟨rfl, hb⟩
  refine v_seq ?_
  refine v_seq ?_
  refine v_region ?_
  refine vl_val (os_move rfl) ?_
  refine vl_val (os_move rfl) ?_
  refine vl_val (os_len Try.underlying117 rfl) ?_
  refine vl_val (os_lss rfl rfl) ?_
  refine vl_nil ?_
  refine v_cond_no rfl (by omega) ?_
  refine v_exit ?_
  refine v_seq ?_
  refine v_region ?_
  refine vl_val (os_move rfl) ?_
  refine vl_val (os_len Try.underlying117 rfl) ?_
  refine vl_some (ot_make (l := 0) Try.underlying117 ti_lHeads rfl rfl rfl rfl rfl (by omega) (by simp [maxLen]) w'.heap.size (Nat.le_refl _)) ?_
  rintro v1 w1 ⟨rfl, ho1, hg1⟩
  have hb1 := hb.trans (((Below.refl _ _).grown hg1 (Nat.le_refl _) (fun k hk => by cases hk)).mono hb.size)
  refine vl_val (os_assign rfl) ?_
  refine vl_nil ?_
  refine v_seq ?_
  refine v_seq ?_
  refine v_region ?_
  refine vl_val (os_assign rfl) ?_
  refine vl_nil ?_
  refine v_block ?_
  refine v_loop [(0, _), (5, _)] (fun (k : Nat) => [(6, .int .i64 k)]) (fun k w' => k = 0 ∧ Below w.heap.size w w') (fun k => 0) (0) ⟨rfl, rfl, trivial⟩ ⟨rfl, trivial⟩ (⟨rfl, hb1⟩) ?_
  rintro k w' ⟨rfl, hb⟩
  refine v_seq ?_
  refine v_seq ?_
  refine v_region ?_
  refine vl_val (os_move rfl) ?_
  refine vl_val (os_move rfl) ?_
  refine vl_val (os_len Try.underlying117 rfl) ?_
  refine vl_val (os_lss rfl rfl) ?_
  refine vl_nil ?_
  refine v_cond_no rfl (by omega) ?_
  refine v_exit ?_
  refine v_seq ?_
  refine v_seq ?_
  refine v_region ?_
  refine vl_val (os_assign rfl) ?_
  refine vl_nil ?_
  refine v_block ?_
  refine v_loop [(0, _), (5, _)] (fun (k : Nat) => [(9, .int .i64 k)]) (fun k w' => k = 0 ∧ Below w.heap.size w w') (fun k => 0) (0) ⟨rfl, rfl, trivial⟩ ⟨rfl, trivial⟩ (⟨rfl, hb⟩) ?_
  rintro k w' ⟨rfl, hb⟩
  refine v_seq ?_
  refine v_seq ?_
  refine v_region ?_
  refine vl_val (os_move rfl) ?_
  refine vl_val (os_move rfl) ?_
  refine vl_val (os_len Try.underlying117 rfl) ?_
  refine vl_val (os_lss rfl rfl) ?_
  refine vl_nil ?_
  refine v_cond_no rfl (by omega) ?_
  refine v_exit ?_
  refine v_seq ?_
  refine v_seq ?_
  refine v_region ?_
  refine vl_val (os_assign rfl) ?_
  refine vl_nil ?_
  refine v_block ?_
  refine v_loop [(0, _), (5, _)] (fun (k : Nat) => [(11, .int .i64 k)]) (fun k w' => k = 0 ∧ Below w.heap.size w w') (fun k => 0) (0) ⟨rfl, rfl, trivial⟩ ⟨rfl, trivial⟩ (⟨rfl, hb⟩) ?_
  rintro k w' ⟨rfl, hb⟩
  refine v_seq ?_
  refine v_seq ?_
  refine v_region ?_
  refine vl_val (os_move rfl) ?_
  refine vl_val (os_move rfl) ?_
  refine vl_val (os_len Try.underlying117 rfl) ?_
  refine vl_val (os_lss rfl rfl) ?_
  refine vl_nil ?_
  refine v_cond_no rfl (by omega) ?_
  refine v_exit ?_
  refine v_seq ?_
  refine v_seq ?_
  refine v_region ?_
  refine vl_val (os_assign rfl) ?_
  refine vl_nil ?_
  refine v_block ?_
  refine v_loop [(0, _), (5, _)] (fun (k : Nat) => [(14, .int .i64 k)]) (fun k w' => k = 0 ∧ Below w.heap.size w w') (fun k => 0) (0) ⟨rfl, rfl, trivial⟩ ⟨rfl, trivial⟩ (⟨rfl, hb⟩) ?_
  rintro k w' ⟨rfl, hb⟩
  refine v_seq ?_
  refine v_seq ?_
  refine v_region ?_
  refine vl_val (os_move rfl) ?_
  refine vl_val (os_move rfl) ?_
  refine vl_val (os_len Try.underlying117 rfl) ?_
  refine vl_val (os_lss rfl rfl) ?_
  refine vl_nil ?_
  refine v_cond_no rfl (by omega) ?_
  refine v_exit ?_
  refine v_seq ?_
  refine v_region ?_
  refine vl_val (os_assign rfl) ?_
  refine vl_nil ?_
  refine v_ret ?_
  exact post_ret rfl rfl (⟨rfl, hb⟩)
theorem ti_lCounts : TyInfo Try.prog 199 (.slice none 0 0) 1 24 := by unfold TyInfo; kernel_rfl
theorem kit_noneCounts (w : World) : Gives Try.prog 117 #[.slice none 0 0] w fun v w' => v = .bool true ∧ Below w.heap.size w w' := by
  refine gives_enter Try.call117 Try.func117 rfl rfl rfl (by kernel_rfl) ?_
  refine v_seq ?_
  refine v_region ?_
  refine vl_val (os_assign rfl) ?_
  refine vl_nil ?_
  refine v_seq ?_
  refine v_seq ?_
  refine v_region ?_
  refine vl_val (os_assign rfl) ?_
  refine vl_nil ?_
  refine v_block ?_
  refine v_loop [(0, _)] (fun (k : Nat) => [(3, .int .i64 k)]) (fun k w' => k = 0 ∧ Below w.heap.size w w') (fun k => 0) (0) ⟨rfl, trivial⟩ ⟨rfl, trivial⟩ (⟨rfl, Below.refl _ _⟩) ?_
  rintro k w' ⟨rfl, hb⟩
  refine v_seq ?_
  refine v_seq ?_
  refine v_region ?_
  refine vl_val (os_move rfl) ?_
  refine vl_val (os_move rfl) ?_
  refine vl_val (os_len Try.underlying118 rfl) ?_
  refine vl_val (os_lss rfl rfl) ?_
  refine vl_nil ?_
  refine v_cond_no rfl (by omega) ?_
  refine v_exit ?_
  refine v_seq ?_
  refine v_region ?_
  refine vl_val (os_move rfl) ?_
  refine vl_val (os_len Try.underlying118 rfl) ?_
  refine vl_some (ot_make (l := 0) Try.underlying118 ti_lCounts rfl rfl rfl rfl rfl (by omega) (by simp [maxLen]) w'.heap.size (Nat.le_refl _)) ?_
  rintro v1 w1 ⟨rfl, ho1, hg1⟩
  have hb1 := hb.trans (((Below.refl _ _).grown hg1 (Nat.le_refl _) (fun k hk => by cases hk)).mono hb.size)
  refine vl_val (os_assign rfl) ?_
  refine vl_nil ?_
  refine v_seq ?_
  refine v_seq ?_
  refine v_region ?_
  refine vl_val (os_assign rfl) ?_
  refine vl_nil ?_
  refine v_block ?_
  refine v_loop [(0, _), (5, _)] (fun (k : Nat) => [(6, .int .i64 k)]) (fun k w' => k = 0 ∧ Below w.heap.size w w') (fun k => 0) (0) ⟨rfl, rfl, trivial⟩ ⟨rfl, trivial⟩ (⟨rfl, hb1⟩) ?_
  rintro k w' ⟨rfl, hb⟩
  refine v_seq ?_
  refine v_seq ?_
  refine v_region ?_
  refine vl_val (os_move rfl) ?_
  refine vl_val (os_move rfl) ?_
  refine vl_val (os_len Try.underlying118 rfl) ?_
  refine vl_val (os_lss rfl rfl) ?_
  refine vl_nil ?_
  refine v_cond_no rfl (by omega) ?_
  refine v_exit ?_
  refine v_seq ?_
  refine v_seq ?_
  refine v_region ?_
  refine vl_val (os_assign rfl) ?_
  refine vl_nil ?_
  refine v_block ?_
  refine v_loop [(0, _), (5, _)] (fun (k : Nat) => [(9, .int .i64 k)]) (fun k w' => k = 0 ∧ Below w.heap.size w w') (fun k => 0) (0) ⟨rfl, rfl, trivial⟩ ⟨rfl, trivial⟩ (⟨rfl, hb⟩) ?_
  rintro k w' ⟨rfl, hb⟩
  refine v_seq ?_
  refine v_seq ?_
  refine v_region ?_
  refine vl_val (os_move rfl) ?_
  refine vl_val (os_move rfl) ?_
  refine vl_val (os_len Try.underlying118 rfl) ?_
  refine vl_val (os_lss rfl rfl) ?_
  refine vl_nil ?_
  refine v_cond_no rfl (by omega) ?_
  refine v_exit ?_
  refine v_seq ?_
  refine v_seq ?_
  refine v_region ?_
  refine vl_val (os_assign rfl) ?_
  refine vl_nil ?_
  refine v_block ?_
  refine v_loop [(0, _), (5, _)] (fun (k : Nat) => [(11, .int .i64 k)]) (fun k w' => k = 0 ∧ Below w.heap.size w w') (fun k => 0) (0) ⟨rfl, rfl, trivial⟩ ⟨rfl, trivial⟩ (⟨rfl, hb⟩) ?_
  rintro k w' ⟨rfl, hb⟩
  refine v_seq ?_
  refine v_seq ?_
  refine v_region ?_
  refine vl_val (os_move rfl) ?_
  refine vl_val (os_move rfl) ?_
  refine vl_val (os_len Try.underlying118 rfl) ?_
  refine vl_val (os_lss rfl rfl) ?_
  refine vl_nil ?_
  refine v_cond_no rfl (by omega) ?_
  refine v_exit ?_
  refine v_seq ?_
  refine v_seq ?_
  refine v_region ?_
  refine vl_val (os_assign rfl) ?_
  refine vl_nil ?_
  refine v_block ?_
  refine v_loop [(0, _), (5, _)] (fun (k : Nat) => [(14, .int .i64 k)]) (fun k w' => k = 0 ∧ Below w.heap.size w w') (fun k => 0) (0) ⟨rfl, rfl, trivial⟩ ⟨rfl, trivial⟩ (⟨rfl, hb⟩) ?_
  rintro k w' ⟨rfl, hb⟩
  refine v_seq ?_
  refine v_seq ?_
  refine v_region ?_
  refine vl_val (os_move rfl) ?_
  refine vl_val (os_move rfl) ?_
  refine vl_val (os_len Try.underlying118 rfl) ?_
  refine vl_val (os_lss rfl rfl) ?_
  refine vl_nil ?_
  refine v_cond_no rfl (by omega) ?_
  refine v_exit ?_
  refine v_seq ?_
  refine v_region ?_
  refine vl_val (os_assign rfl) ?_
  refine vl_nil ?_
  refine v_ret ?_
  exact post_ret rfl rfl (⟨rfl, hb⟩)
theorem ti_lNotes : TyInfo Try.prog 203 (.slice none 0 0) 1 24 := by unfold TyInfo; kernel_rfl
theorem kit_noneNotes (w : World) : Gives Try.prog 118 #[.slice none 0 0] w fun v w' => v = .bool true ∧ Below w.heap.size w w' := by
  refine gives_enter Try.call118 Try.func118 rfl rfl rfl (by kernel_rfl) ?_
  refine v_seq ?_
  refine v_region ?_
  refine vl_val (os_assign rfl) ?_
  refine vl_nil ?_
  refine v_seq ?_
  refine v_seq ?_
  refine v_region ?_
  refine vl_val (os_assign rfl) ?_
  refine vl_nil ?_
  refine v_block ?_
  refine v_loop [(0, _)] (fun (k : Nat) => [(3, .int .i64 k)]) (fun k w' => k = 0 ∧ Below w.heap.size w w') (fun k => 0) (0) ⟨rfl, trivial⟩ ⟨rfl, trivial⟩ (⟨rfl, Below.refl _ _⟩) ?_
  rintro k w' ⟨rfl, hb⟩
  refine v_seq ?_
  refine v_seq ?_
  refine v_region ?_
  refine vl_val (os_move rfl) ?_
  refine vl_val (os_move rfl) ?_
  refine vl_val (os_len Try.underlying119 rfl) ?_
  refine vl_val (os_lss rfl rfl) ?_
  refine vl_nil ?_
  refine v_cond_no rfl (by omega) ?_
  refine v_exit ?_
  refine v_seq ?_
  refine v_region ?_
  refine vl_val (os_move rfl) ?_
  refine vl_val (os_len Try.underlying119 rfl) ?_
  refine vl_some (ot_make (l := 0) Try.underlying119 ti_lNotes rfl rfl rfl rfl rfl (by omega) (by simp [maxLen]) w'.heap.size (Nat.le_refl _)) ?_
  rintro v1 w1 ⟨rfl, ho1, hg1⟩
  have hb1 := hb.trans (((Below.refl _ _).grown hg1 (Nat.le_refl _) (fun k hk => by cases hk)).mono hb.size)
  refine vl_val (os_assign rfl) ?_
  refine vl_nil ?_
  refine v_seq ?_
  refine v_seq ?_
  refine v_region ?_
  refine vl_val (os_assign rfl) ?_
  refine vl_nil ?_
  refine v_block ?_
  refine v_loop [(0, _), (5, _)] (fun (k : Nat) => [(6, .int .i64 k)]) (fun k w' => k = 0 ∧ Below w.heap.size w w') (fun k => 0) (0) ⟨rfl, rfl, trivial⟩ ⟨rfl, trivial⟩ (⟨rfl, hb1⟩) ?_
  rintro k w' ⟨rfl, hb⟩
  refine v_seq ?_
  refine v_seq ?_
  refine v_region ?_
  refine vl_val (os_move rfl) ?_
  refine vl_val (os_move rfl) ?_
  refine vl_val (os_len Try.underlying119 rfl) ?_
  refine vl_val (os_lss rfl rfl) ?_
  refine vl_nil ?_
  refine v_cond_no rfl (by omega) ?_
  refine v_exit ?_
  refine v_seq ?_
  refine v_seq ?_
  refine v_region ?_
  refine vl_val (os_assign rfl) ?_
  refine vl_nil ?_
  refine v_block ?_
  refine v_loop [(0, _), (5, _)] (fun (k : Nat) => [(9, .int .i64 k)]) (fun k w' => k = 0 ∧ Below w.heap.size w w') (fun k => 0) (0) ⟨rfl, rfl, trivial⟩ ⟨rfl, trivial⟩ (⟨rfl, hb⟩) ?_
  rintro k w' ⟨rfl, hb⟩
  refine v_seq ?_
  refine v_seq ?_
  refine v_region ?_
  refine vl_val (os_move rfl) ?_
  refine vl_val (os_move rfl) ?_
  refine vl_val (os_len Try.underlying119 rfl) ?_
  refine vl_val (os_lss rfl rfl) ?_
  refine vl_nil ?_
  refine v_cond_no rfl (by omega) ?_
  refine v_exit ?_
  refine v_seq ?_
  refine v_seq ?_
  refine v_region ?_
  refine vl_val (os_assign rfl) ?_
  refine vl_nil ?_
  refine v_block ?_
  refine v_loop [(0, _), (5, _)] (fun (k : Nat) => [(11, .int .i64 k)]) (fun k w' => k = 0 ∧ Below w.heap.size w w') (fun k => 0) (0) ⟨rfl, rfl, trivial⟩ ⟨rfl, trivial⟩ (⟨rfl, hb⟩) ?_
  rintro k w' ⟨rfl, hb⟩
  refine v_seq ?_
  refine v_seq ?_
  refine v_region ?_
  refine vl_val (os_move rfl) ?_
  refine vl_val (os_move rfl) ?_
  refine vl_val (os_len Try.underlying119 rfl) ?_
  refine vl_val (os_lss rfl rfl) ?_
  refine vl_nil ?_
  refine v_cond_no rfl (by omega) ?_
  refine v_exit ?_
  refine v_seq ?_
  refine v_seq ?_
  refine v_region ?_
  refine vl_val (os_assign rfl) ?_
  refine vl_nil ?_
  refine v_block ?_
  refine v_loop [(0, _), (5, _)] (fun (k : Nat) => [(14, .int .i64 k)]) (fun k w' => k = 0 ∧ Below w.heap.size w w') (fun k => 0) (0) ⟨rfl, rfl, trivial⟩ ⟨rfl, trivial⟩ (⟨rfl, hb⟩) ?_
  rintro k w' ⟨rfl, hb⟩
  refine v_seq ?_
  refine v_seq ?_
  refine v_region ?_
  refine vl_val (os_move rfl) ?_
  refine vl_val (os_move rfl) ?_
  refine vl_val (os_len Try.underlying119 rfl) ?_
  refine vl_val (os_lss rfl rfl) ?_
  refine vl_nil ?_
  refine v_cond_no rfl (by omega) ?_
  refine v_exit ?_
  refine v_seq ?_
  refine v_region ?_
  refine vl_val (os_assign rfl) ?_
  refine vl_nil ?_
  refine v_ret ?_
  exact post_ret rfl rfl (⟨rfl, hb⟩)
theorem ti_lFates : TyInfo Try.prog 208 (.slice none 0 0) 1 24 := by unfold TyInfo; kernel_rfl
theorem kit_noneFates (w : World) : Gives Try.prog 119 #[.slice none 0 0] w fun v w' => v = .bool true ∧ Below w.heap.size w w' := by
  refine gives_enter Try.call119 Try.func119 rfl rfl rfl (by kernel_rfl) ?_
  refine v_seq ?_
  refine v_region ?_
  refine vl_val (os_assign rfl) ?_
  refine vl_nil ?_
  refine v_seq ?_
  refine v_seq ?_
  refine v_region ?_
  refine vl_val (os_assign rfl) ?_
  refine vl_nil ?_
  refine v_block ?_
  refine v_loop [(0, _)] (fun (k : Nat) => [(3, .int .i64 k)]) (fun k w' => k = 0 ∧ Below w.heap.size w w') (fun k => 0) (0) ⟨rfl, trivial⟩ ⟨rfl, trivial⟩ (⟨rfl, Below.refl _ _⟩) ?_
  rintro k w' ⟨rfl, hb⟩
  refine v_seq ?_
  refine v_seq ?_
  refine v_region ?_
  refine vl_val (os_move rfl) ?_
  refine vl_val (os_move rfl) ?_
  refine vl_val (os_len Try.underlying120 rfl) ?_
  refine vl_val (os_lss rfl rfl) ?_
  refine vl_nil ?_
  refine v_cond_no rfl (by omega) ?_
  refine v_exit ?_
  refine v_seq ?_
  refine v_region ?_
  refine vl_val (os_move rfl) ?_
  refine vl_val (os_len Try.underlying120 rfl) ?_
  refine vl_some (ot_make (l := 0) Try.underlying120 ti_lFates rfl rfl rfl rfl rfl (by omega) (by simp [maxLen]) w'.heap.size (Nat.le_refl _)) ?_
  rintro v1 w1 ⟨rfl, ho1, hg1⟩
  have hb1 := hb.trans (((Below.refl _ _).grown hg1 (Nat.le_refl _) (fun k hk => by cases hk)).mono hb.size)
  refine vl_val (os_assign rfl) ?_
  refine vl_nil ?_
  refine v_seq ?_
  refine v_seq ?_
  refine v_region ?_
  refine vl_val (os_assign rfl) ?_
  refine vl_nil ?_
  refine v_block ?_
  refine v_loop [(0, _), (5, _)] (fun (k : Nat) => [(6, .int .i64 k)]) (fun k w' => k = 0 ∧ Below w.heap.size w w') (fun k => 0) (0) ⟨rfl, rfl, trivial⟩ ⟨rfl, trivial⟩ (⟨rfl, hb1⟩) ?_
  rintro k w' ⟨rfl, hb⟩
  refine v_seq ?_
  refine v_seq ?_
  refine v_region ?_
  refine vl_val (os_move rfl) ?_
  refine vl_val (os_move rfl) ?_
  refine vl_val (os_len Try.underlying120 rfl) ?_
  refine vl_val (os_lss rfl rfl) ?_
  refine vl_nil ?_
  refine v_cond_no rfl (by omega) ?_
  refine v_exit ?_
  refine v_seq ?_
  refine v_seq ?_
  refine v_region ?_
  refine vl_val (os_assign rfl) ?_
  refine vl_nil ?_
  refine v_block ?_
  refine v_loop [(0, _), (5, _)] (fun (k : Nat) => [(9, .int .i64 k)]) (fun k w' => k = 0 ∧ Below w.heap.size w w') (fun k => 0) (0) ⟨rfl, rfl, trivial⟩ ⟨rfl, trivial⟩ (⟨rfl, hb⟩) ?_
  rintro k w' ⟨rfl, hb⟩
  refine v_seq ?_
  refine v_seq ?_
  refine v_region ?_
  refine vl_val (os_move rfl) ?_
  refine vl_val (os_move rfl) ?_
  refine vl_val (os_len Try.underlying120 rfl) ?_
  refine vl_val (os_lss rfl rfl) ?_
  refine vl_nil ?_
  refine v_cond_no rfl (by omega) ?_
  refine v_exit ?_
  refine v_seq ?_
  refine v_seq ?_
  refine v_region ?_
  refine vl_val (os_assign rfl) ?_
  refine vl_nil ?_
  refine v_block ?_
  refine v_loop [(0, _), (5, _)] (fun (k : Nat) => [(11, .int .i64 k)]) (fun k w' => k = 0 ∧ Below w.heap.size w w') (fun k => 0) (0) ⟨rfl, rfl, trivial⟩ ⟨rfl, trivial⟩ (⟨rfl, hb⟩) ?_
  rintro k w' ⟨rfl, hb⟩
  refine v_seq ?_
  refine v_seq ?_
  refine v_region ?_
  refine vl_val (os_move rfl) ?_
  refine vl_val (os_move rfl) ?_
  refine vl_val (os_len Try.underlying120 rfl) ?_
  refine vl_val (os_lss rfl rfl) ?_
  refine vl_nil ?_
  refine v_cond_no rfl (by omega) ?_
  refine v_exit ?_
  refine v_seq ?_
  refine v_seq ?_
  refine v_region ?_
  refine vl_val (os_assign rfl) ?_
  refine vl_nil ?_
  refine v_block ?_
  refine v_loop [(0, _), (5, _)] (fun (k : Nat) => [(14, .int .i64 k)]) (fun k w' => k = 0 ∧ Below w.heap.size w w') (fun k => 0) (0) ⟨rfl, rfl, trivial⟩ ⟨rfl, trivial⟩ (⟨rfl, hb⟩) ?_
  rintro k w' ⟨rfl, hb⟩
  refine v_seq ?_
  refine v_seq ?_
  refine v_region ?_
  refine vl_val (os_move rfl) ?_
  refine vl_val (os_move rfl) ?_
  refine vl_val (os_len Try.underlying120 rfl) ?_
  refine vl_val (os_lss rfl rfl) ?_
  refine vl_nil ?_
  refine v_cond_no rfl (by omega) ?_
  refine v_exit ?_
  refine v_seq ?_
  refine v_region ?_
  refine vl_val (os_assign rfl) ?_
  refine vl_nil ?_
  refine v_ret ?_
  exact post_ret rfl rfl (⟨rfl, hb⟩)

end Go.Proofs.Ytpojijnjdlnokaa
