/- Texts joined: Ly V5 SzG KitS. -/
import Derived.Test.YtpojijnjdlnokaaM8
/- Layers 10, 11: lay.Right, lay.Long over its iterator; size.Of. -/
namespace Go.Proofs.Ytpojijnjdlnokaa
open Go.RowKit
set_option linter.unusedVariables false

theorem lay_Right (n : Int) (A : Option Addr) (l c : Nat) (rows : List (Int × Int)) (w : World) (ha : RdP w 2 A (rows.map rowC)) (hl : l = rows.length) (hl' : l ≤ 9000000000000000) :
    Gives Try.prog 126 #[.int .i64 n, .slice A l c] w fun v w' => v = .bool (layOk n rows) ∧ Below w.heap.size w w' := by
  by_cases hin : 1 ≤ n ∧ n ≤ 255 ∧ 1 ≤ l ∧ l ≤ 8
  · obtain ⟨h1, h2, h3, h4⟩ := hin
    have e0 : layOk n rows = layGo n 1 rows := by simp only [layOk]; rw [decide_eq_true (by omega)]; simp
    rw [e0]
    refine gives_enter Try.call126 Try.func126 rfl rfl rfl (by kernel_rfl) ?_
    refine v_seq ?_
    refine v_region ?_
    refine vl_val (os_assign rfl) ?_
    refine vl_nil ?_
    refine v_seq ?_
    refine v_seq ?_
    refine v_region ?_
    refine vl_val (os_move rfl) ?_
    refine vl_val (os_f (os_lss rfl rfl) (by omega)) ?_
    refine vl_val (os_move rfl) ?_
    refine vl_valg rfl (os_move rfl) ?_
    refine vl_valg rfl (os_f (os_gtr rfl rfl) (by omega)) ?_
    refine vl_val (os_pick_f rfl rfl) ?_
    refine vl_val (os_move rfl) ?_
    refine vl_valg rfl (os_move rfl) ?_
    refine vl_valg rfl (os_len Try.underlying63 rfl) ?_
    refine vl_valg rfl (os_f (os_lss rfl rfl) (by omega)) ?_
    refine vl_val (os_pick_f rfl rfl) ?_
    refine vl_val (os_move rfl) ?_
    refine vl_valg rfl (os_move rfl) ?_
    refine vl_valg rfl (os_len Try.underlying63 rfl) ?_
    refine vl_valg rfl (os_gtr rfl rfl) ?_
    refine vl_val (os_pick_f rfl rfl) ?_
    refine vl_nil ?_
    refine v_cond_no rfl (by omega) ?_
    refine v_skip ?_
    refine v_seq ?_
    refine v_region ?_
    refine vl_val (os_assign rfl) ?_
    refine vl_nil ?_
    refine v_seq ?_
    refine v_seq ?_
    refine v_region ?_
    refine vl_val (os_move rfl) ?_
    refine vl_val (os_len Try.underlying63 rfl) ?_
    refine vl_val (os_move rfl) ?_
    refine vl_nil ?_
    refine v_block ?_
    refine v_loop [(0, _), (24, _), (25, _)] (fun (i : Nat) => [(5, .int .i64 (prevK rows i)), (26, .int .i64 i)]) (fun i w' => i ≤ l ∧ layGo n 1 rows = layGo n (prevK rows i) (rows.drop i) ∧ Below w.heap.size w w') (fun i => l - i) (0) ⟨rfl, rfl, rfl, trivial⟩ ⟨rfl, rfl, trivial⟩ (⟨by omega, rfl, Below.refl _ _⟩) ?_
    rintro i w1 ⟨hi, hg, b1⟩
    refine v_seq ?_
    refine v_region ?_
    refine vl_val (os_lss rfl rfl) ?_
    refine vl_nil ?_
    refine v_seq ?_
    refine v_cond_d rfl (fun h => ?_) (fun h => ?_)
    · obtain ⟨b, o, rfl, q1, q2, q3⟩ := (show RdP w1 2 A (rows.map rowC) from ha.keep b1).at2 (i := i) (by omega)
      have hst := layGo_step (n := n) (rows := rows) (i := i) (by omega)
      refine v_skip ?_
      refine v_seq ?_
      refine v_block ?_
      refine v_seq ?_
      refine v_region ?_
      refine vl_val (os_ixs Try.underlying63 Try.sizeOf62 rfl rfl (i := i) (by omega) (by omega)) ?_
      refine vl_val (os_loadP Try.underlying62 rfl (by kernel_rfl) rfl q3) ?_
      refine vl_val (os_allocB Try.zeroValue62 (zc := _) (cs := [.int .i64 0, .int .i64 0]) rfl) ?_
      have hB0 := bk_new w1 [.int .i64 0, .int .i64 0] 62
      have b2 := b1.alloc b1.size (.cells [Value.int .i64 0, .int .i64 0].toArray 62)
      refine vl_unit (ou_storeB (by kernel_rfl) rfl rfl hB0 rfl rfl) ?_
      have hB := setRow_bk hB0 (rowC (rows.getD i (0, 0)))
      have b3 := below_setRow b2 b1.size (rowC (rows.getD i (0, 0))).toArray
      refine vl_nil ?_
      rcases (by unfold rowGood; omega : (rows.getD i (0, 0)).1 < prevK rows i ∨ (prevK rows i ≤ (rows.getD i (0, 0)).1 ∧ n < (rows.getD i (0, 0)).1) ∨ (prevK rows i ≤ (rows.getD i (0, 0)).1 ∧ (rows.getD i (0, 0)).1 ≤ n ∧ (rows.getD i (0, 0)).2 < 0) ∨ (prevK rows i ≤ (rows.getD i (0, 0)).1 ∧ (rows.getD i (0, 0)).1 ≤ n ∧ 0 ≤ (rows.getD i (0, 0)).2 ∧ 65535 < (rows.getD i (0, 0)).2) ∨ rowGood n (prevK rows i) (rows.getD i (0, 0))) with g | ⟨g, g2⟩ | ⟨g, g2, g3⟩ | ⟨g, g2, g3, g4⟩ | g
      · refine v_seq ?_
        refine v_seq ?_
        refine v_region ?_
        refine vl_val (os_fa (o := 0) (k := 0) (by kernel_rfl) rfl) ?_
        refine vl_val (os_load Try.isAgg3 rfl (hB.cell rfl)) ?_
        refine vl_val (os_move rfl) ?_
        refine vl_val (os_t (os_lss rfl rfl) (by omega)) ?_
        refine vl_val (os_move rfl) ?_
        refine vl_skip rfl rfl ?_
        refine vl_skip rfl rfl ?_
        refine vl_skip rfl rfl ?_
        refine vl_skip rfl rfl ?_
        refine vl_val (os_pick_t rfl rfl) ?_
        refine vl_val (os_move rfl) ?_
        refine vl_skip rfl rfl ?_
        refine vl_skip rfl rfl ?_
        refine vl_skip rfl rfl ?_
        refine vl_val (os_pick_t rfl rfl) ?_
        refine vl_val (os_move rfl) ?_
        refine vl_skip rfl rfl ?_
        refine vl_skip rfl rfl ?_
        refine vl_skip rfl rfl ?_
        refine vl_val (os_pick_t rfl rfl) ?_
        refine vl_nil ?_
        refine v_cond_t rfl ?_
        refine v_seq ?_
        refine v_region ?_
        refine vl_val (os_assign rfl) ?_
        refine vl_nil ?_
        refine v_ret ?_
        exact post_ret rfl rfl (⟨by rw [hg, hst, decide_eq_false (by unfold rowGood; omega)]; rfl, b3⟩)
      · refine v_seq ?_
        refine v_seq ?_
        refine v_region ?_
        refine vl_val (os_fa (o := 0) (k := 0) (by kernel_rfl) rfl) ?_
        refine vl_val (os_load Try.isAgg3 rfl (hB.cell rfl)) ?_
        refine vl_val (os_move rfl) ?_
        refine vl_val (os_f (os_lss rfl rfl) (by omega)) ?_
        refine vl_val (os_move rfl) ?_
        refine vl_valg rfl (os_fa (o := 0) (k := 0) (by kernel_rfl) rfl) ?_
        refine vl_valg rfl (os_load Try.isAgg3 rfl (hB.cell rfl)) ?_
        refine vl_valg rfl (os_move rfl) ?_
        refine vl_valg rfl (os_t (os_gtr rfl rfl) (by omega)) ?_
        refine vl_val (os_pick_f rfl rfl) ?_
        refine vl_val (os_move rfl) ?_
        refine vl_skip rfl rfl ?_
        refine vl_skip rfl rfl ?_
        refine vl_skip rfl rfl ?_
        refine vl_val (os_pick_t rfl rfl) ?_
        refine vl_val (os_move rfl) ?_
        refine vl_skip rfl rfl ?_
        refine vl_skip rfl rfl ?_
        refine vl_skip rfl rfl ?_
        refine vl_val (os_pick_t rfl rfl) ?_
        refine vl_nil ?_
        refine v_cond_t rfl ?_
        refine v_seq ?_
        refine v_region ?_
        refine vl_val (os_assign rfl) ?_
        refine vl_nil ?_
        refine v_ret ?_
        exact post_ret rfl rfl (⟨by rw [hg, hst, decide_eq_false (by unfold rowGood; omega)]; rfl, b3⟩)
      · refine v_seq ?_
        refine v_seq ?_
        refine v_region ?_
        refine vl_val (os_fa (o := 0) (k := 0) (by kernel_rfl) rfl) ?_
        refine vl_val (os_load Try.isAgg3 rfl (hB.cell rfl)) ?_
        refine vl_val (os_move rfl) ?_
        refine vl_val (os_f (os_lss rfl rfl) (by omega)) ?_
        refine vl_val (os_move rfl) ?_
        refine vl_valg rfl (os_fa (o := 0) (k := 0) (by kernel_rfl) rfl) ?_
        refine vl_valg rfl (os_load Try.isAgg3 rfl (hB.cell rfl)) ?_
        refine vl_valg rfl (os_move rfl) ?_
        refine vl_valg rfl (os_f (os_gtr rfl rfl) (by omega)) ?_
        refine vl_val (os_pick_f rfl rfl) ?_
        refine vl_val (os_move rfl) ?_
        refine vl_valg rfl (os_fa (o := 1) (k := 0) (by kernel_rfl) rfl) ?_
        refine vl_valg rfl (os_load Try.isAgg3 rfl (hB.cell rfl)) ?_
        refine vl_valg rfl (os_t (os_lss rfl rfl) (by omega)) ?_
        refine vl_val (os_pick_f rfl rfl) ?_
        refine vl_val (os_move rfl) ?_
        refine vl_skip rfl rfl ?_
        refine vl_skip rfl rfl ?_
        refine vl_skip rfl rfl ?_
        refine vl_val (os_pick_t rfl rfl) ?_
        refine vl_nil ?_
        refine v_cond_t rfl ?_
        refine v_seq ?_
        refine v_region ?_
        refine vl_val (os_assign rfl) ?_
        refine vl_nil ?_
        refine v_ret ?_
        exact post_ret rfl rfl (⟨by rw [hg, hst, decide_eq_false (by unfold rowGood; omega)]; rfl, b3⟩)
      · refine v_seq ?_
        refine v_seq ?_
        refine v_region ?_
        refine vl_val (os_fa (o := 0) (k := 0) (by kernel_rfl) rfl) ?_
        refine vl_val (os_load Try.isAgg3 rfl (hB.cell rfl)) ?_
        refine vl_val (os_move rfl) ?_
        refine vl_val (os_f (os_lss rfl rfl) (by omega)) ?_
        refine vl_val (os_move rfl) ?_
        refine vl_valg rfl (os_fa (o := 0) (k := 0) (by kernel_rfl) rfl) ?_
        refine vl_valg rfl (os_load Try.isAgg3 rfl (hB.cell rfl)) ?_
        refine vl_valg rfl (os_move rfl) ?_
        refine vl_valg rfl (os_f (os_gtr rfl rfl) (by omega)) ?_
        refine vl_val (os_pick_f rfl rfl) ?_
        refine vl_val (os_move rfl) ?_
        refine vl_valg rfl (os_fa (o := 1) (k := 0) (by kernel_rfl) rfl) ?_
        refine vl_valg rfl (os_load Try.isAgg3 rfl (hB.cell rfl)) ?_
        refine vl_valg rfl (os_f (os_lss rfl rfl) (by omega)) ?_
        refine vl_val (os_pick_f rfl rfl) ?_
        refine vl_val (os_move rfl) ?_
        refine vl_valg rfl (os_fa (o := 1) (k := 0) (by kernel_rfl) rfl) ?_
        refine vl_valg rfl (os_load Try.isAgg3 rfl (hB.cell rfl)) ?_
        refine vl_valg rfl (os_gtr rfl rfl) ?_
        refine vl_val (os_pick_f rfl rfl) ?_
        refine vl_nil ?_
        refine v_cond_yes rfl (by omega) ?_
        refine v_seq ?_
        refine v_region ?_
        refine vl_val (os_assign rfl) ?_
        refine vl_nil ?_
        refine v_ret ?_
        exact post_ret rfl rfl (⟨by rw [hg, hst, decide_eq_false (by unfold rowGood; omega)]; rfl, b3⟩)
      · have g' := g
        unfold rowGood at g'
        refine v_seq ?_
        refine v_seq ?_
        refine v_region ?_
        refine vl_val (os_fa (o := 0) (k := 0) (by kernel_rfl) rfl) ?_
        refine vl_val (os_load Try.isAgg3 rfl (hB.cell rfl)) ?_
        refine vl_val (os_move rfl) ?_
        refine vl_val (os_f (os_lss rfl rfl) (by omega)) ?_
        refine vl_val (os_move rfl) ?_
        refine vl_valg rfl (os_fa (o := 0) (k := 0) (by kernel_rfl) rfl) ?_
        refine vl_valg rfl (os_load Try.isAgg3 rfl (hB.cell rfl)) ?_
        refine vl_valg rfl (os_move rfl) ?_
        refine vl_valg rfl (os_f (os_gtr rfl rfl) (by omega)) ?_
        refine vl_val (os_pick_f rfl rfl) ?_
        refine vl_val (os_move rfl) ?_
        refine vl_valg rfl (os_fa (o := 1) (k := 0) (by kernel_rfl) rfl) ?_
        refine vl_valg rfl (os_load Try.isAgg3 rfl (hB.cell rfl)) ?_
        refine vl_valg rfl (os_f (os_lss rfl rfl) (by omega)) ?_
        refine vl_val (os_pick_f rfl rfl) ?_
        refine vl_val (os_move rfl) ?_
        refine vl_valg rfl (os_fa (o := 1) (k := 0) (by kernel_rfl) rfl) ?_
        refine vl_valg rfl (os_load Try.isAgg3 rfl (hB.cell rfl)) ?_
        refine vl_valg rfl (os_gtr rfl rfl) ?_
        refine vl_val (os_pick_f rfl rfl) ?_
        refine vl_nil ?_
        refine v_cond_no rfl (by omega) ?_
        refine v_skip ?_
        refine v_region ?_
        refine vl_val (os_fa (o := 0) (k := 0) (by kernel_rfl) rfl) ?_
        refine vl_val (os_load Try.isAgg3 rfl (hB.cell rfl)) ?_
        refine vl_val (os_assign rfl) ?_
        refine vl_nil ?_
        refine v_region ?_
        refine vl_val (os_addi rfl rfl (by omega)) ?_
        refine vl_val (os_move rfl) ?_
        refine vl_nil ?_
        exact ⟨i + 1, ⟨rfl, rfl, rfl, trivial⟩, ⟨rfl, rfl, trivial⟩, ⟨by omega, by rw [hg, hst, decide_eq_true g]; rfl, b3⟩, by dsimp only; omega⟩
    · obtain rfl : l = i := by omega
      refine v_exit ?_
      refine v_seq ?_
      refine v_region ?_
      refine vl_val (os_assign rfl) ?_
      refine vl_nil ?_
      refine v_ret ?_
      exact post_ret rfl rfl (⟨by rw [hg, List.drop_of_length_le (by omega)]; rfl, b1⟩)
  · have e0 : layOk n rows = false := by simp only [layOk]; rw [decide_eq_false (by omega)]; simp
    rw [e0]
    refine gives_enter Try.call126 Try.func126 rfl rfl rfl (by kernel_rfl) ?_
    rcases (by omega : n < 1 ∨ (1 ≤ n ∧ 255 < n) ∨ (1 ≤ n ∧ n ≤ 255 ∧ l < 1) ∨ (1 ≤ n ∧ n ≤ 255 ∧ 1 ≤ l ∧ 8 < l)) with g | ⟨g, g2⟩ | ⟨g, g2, g3⟩ | ⟨g, g2, g3, g4⟩
    · refine v_seq ?_
      refine v_region ?_
      refine vl_val (os_assign rfl) ?_
      refine vl_nil ?_
      refine v_seq ?_
      refine v_seq ?_
      refine v_region ?_
      refine vl_val (os_move rfl) ?_
      refine vl_val (os_t (os_lss rfl rfl) (by omega)) ?_
      refine vl_val (os_move rfl) ?_
      refine vl_skip rfl rfl ?_
      refine vl_skip rfl rfl ?_
      refine vl_val (os_pick_t rfl rfl) ?_
      refine vl_val (os_move rfl) ?_
      refine vl_skip rfl rfl ?_
      refine vl_skip rfl rfl ?_
      refine vl_skip rfl rfl ?_
      refine vl_val (os_pick_t rfl rfl) ?_
      refine vl_val (os_move rfl) ?_
      refine vl_skip rfl rfl ?_
      refine vl_skip rfl rfl ?_
      refine vl_skip rfl rfl ?_
      refine vl_val (os_pick_t rfl rfl) ?_
      refine vl_nil ?_
      refine v_cond_t rfl ?_
      refine v_seq ?_
      refine v_region ?_
      refine vl_val (os_assign rfl) ?_
      refine vl_nil ?_
      refine v_ret ?_
      exact post_ret rfl rfl (⟨rfl, Below.refl _ _⟩)
    · refine v_seq ?_
      refine v_region ?_
      refine vl_val (os_assign rfl) ?_
      refine vl_nil ?_
      refine v_seq ?_
      refine v_seq ?_
      refine v_region ?_
      refine vl_val (os_move rfl) ?_
      refine vl_val (os_f (os_lss rfl rfl) (by omega)) ?_
      refine vl_val (os_move rfl) ?_
      refine vl_valg rfl (os_move rfl) ?_
      refine vl_valg rfl (os_t (os_gtr rfl rfl) (by omega)) ?_
      refine vl_val (os_pick_f rfl rfl) ?_
      refine vl_val (os_move rfl) ?_
      refine vl_skip rfl rfl ?_
      refine vl_skip rfl rfl ?_
      refine vl_skip rfl rfl ?_
      refine vl_val (os_pick_t rfl rfl) ?_
      refine vl_val (os_move rfl) ?_
      refine vl_skip rfl rfl ?_
      refine vl_skip rfl rfl ?_
      refine vl_skip rfl rfl ?_
      refine vl_val (os_pick_t rfl rfl) ?_
      refine vl_nil ?_
      refine v_cond_t rfl ?_
      refine v_seq ?_
      refine v_region ?_
      refine vl_val (os_assign rfl) ?_
      refine vl_nil ?_
      refine v_ret ?_
      exact post_ret rfl rfl (⟨rfl, Below.refl _ _⟩)
    · refine v_seq ?_
      refine v_region ?_
      refine vl_val (os_assign rfl) ?_
      refine vl_nil ?_
      refine v_seq ?_
      refine v_seq ?_
      refine v_region ?_
      refine vl_val (os_move rfl) ?_
      refine vl_val (os_f (os_lss rfl rfl) (by omega)) ?_
      refine vl_val (os_move rfl) ?_
      refine vl_valg rfl (os_move rfl) ?_
      refine vl_valg rfl (os_f (os_gtr rfl rfl) (by omega)) ?_
      refine vl_val (os_pick_f rfl rfl) ?_
      refine vl_val (os_move rfl) ?_
      refine vl_valg rfl (os_move rfl) ?_
      refine vl_valg rfl (os_len Try.underlying63 rfl) ?_
      refine vl_valg rfl (os_t (os_lss rfl rfl) (by omega)) ?_
      refine vl_val (os_pick_f rfl rfl) ?_
      refine vl_val (os_move rfl) ?_
      refine vl_skip rfl rfl ?_
      refine vl_skip rfl rfl ?_
      refine vl_skip rfl rfl ?_
      refine vl_val (os_pick_t rfl rfl) ?_
      refine vl_nil ?_
      refine v_cond_t rfl ?_
      refine v_seq ?_
      refine v_region ?_
      refine vl_val (os_assign rfl) ?_
      refine vl_nil ?_
      refine v_ret ?_
      exact post_ret rfl rfl (⟨rfl, Below.refl _ _⟩)
    · refine v_seq ?_
      refine v_region ?_
      refine vl_val (os_assign rfl) ?_
      refine vl_nil ?_
      refine v_seq ?_
      refine v_seq ?_
      refine v_region ?_
      refine vl_val (os_move rfl) ?_
      refine vl_val (os_f (os_lss rfl rfl) (by omega)) ?_
      refine vl_val (os_move rfl) ?_
      refine vl_valg rfl (os_move rfl) ?_
      refine vl_valg rfl (os_f (os_gtr rfl rfl) (by omega)) ?_
      refine vl_val (os_pick_f rfl rfl) ?_
      refine vl_val (os_move rfl) ?_
      refine vl_valg rfl (os_move rfl) ?_
      refine vl_valg rfl (os_len Try.underlying63 rfl) ?_
      refine vl_valg rfl (os_f (os_lss rfl rfl) (by omega)) ?_
      refine vl_val (os_pick_f rfl rfl) ?_
      refine vl_val (os_move rfl) ?_
      refine vl_valg rfl (os_move rfl) ?_
      refine vl_valg rfl (os_len Try.underlying63 rfl) ?_
      refine vl_valg rfl (os_gtr rfl rfl) ?_
      refine vl_val (os_pick_f rfl rfl) ?_
      refine vl_nil ?_
      refine v_cond_yes rfl (by omega) ?_
      refine v_seq ?_
      refine v_region ?_
      refine vl_val (os_assign rfl) ?_
      refine vl_nil ?_
      refine v_ret ?_
      exact post_ret rfl rfl (⟨rfl, Below.refl _ _⟩)

theorem lay_stripes (A : Option Addr) (l c : Nat) (w : World) : Gives Try.prog 146 #[.slice A l c] w fun v w' => v = .func (.func 167) #[] #[.pointer (some ⟨w.heap.size, 0, none⟩)] ∧ w' = w.alloc (.cells #[.slice A l c] 63) := by
  refine gives_enter Try.call146 Try.func146 rfl rfl rfl (by kernel_rfl) ?_
  refine v_seq ?_
  refine v_region ?_
  refine vl_val (os_box rfl) ?_
  refine vl_val (os_assign rfl) ?_
  refine vl_nil ?_
  refine v_seq ?_
  refine v_region ?_
  refine vl_val (os_makeFunc rfl) ?_
  refine vl_val (os_assign rfl) ?_
  refine vl_nil ?_
  refine v_ret ?_
  exact post_ret rfl rfl (⟨by simp, rfl⟩)
theorem lay_stripes_fn (y p : Nat) (A : Option Addr) (l c : Nat) (rows : List (Int × Int)) (J Jx : Nat → World → Prop) (W : World)
    (hJI : ∀ k W, J k W → W.cell? ⟨p, 0, none⟩ = some (.slice A l c) ∧ RdP W 2 A (rows.map rowC)) (hJ : ∀ k W W', J k W → LeG W W' → J k W')
    (hl : l = rows.length) (hl8 : l ≤ 8) (hin : ∀ i, i < rows.length → widthOk (rows.getD i (0, 0)).2 (rows.getD i (0, 0)).1 = true) (hR : Rounds Try.prog y (fun k => [.int .i64 (offS rows k), .int .i64 (offS rows (k + 1))]) l J Jx) (hJ0 : J 0 W) :
    Gives Try.prog 167 #[.func (.yield y) #[] #[], .pointer (some ⟨p, 0, none⟩)] W fun _ W' => J l W' ∨ ∃ k, Jx k W' := by
  refine gives_enter Try.call167 Try.func167 rfl rfl rfl (by kernel_rfl) ?_
  refine v_seq ?_
  refine v_region ?_
  refine vl_val (os_assign rfl) ?_
  refine vl_nil ?_
  refine v_seq ?_
  refine v_region ?_
  refine vl_val (os_load Try.isAgg63 rfl ((hJI 0 W hJ0).1)) ?_
  refine vl_val (os_len Try.underlying63 rfl) ?_
  refine vl_val (os_move rfl) ?_
  refine vl_nil ?_
  refine v_block ?_
  refine v_loop [(0, _), (8, _), (9, _)] (fun (i : Nat) => [(3, .int .i64 (offS rows i)), (10, .int .i64 i)]) (fun i w' => i ≤ l ∧ J i w') (fun i => l - i) (0) ⟨rfl, rfl, rfl, trivial⟩ ⟨rfl, rfl, trivial⟩ (⟨by omega, hJ0⟩) ?_
  rintro i w1 ⟨hi, hj⟩
  refine v_seq ?_
  refine v_region ?_
  refine vl_val (os_lss rfl rfl) ?_
  refine vl_nil ?_
  refine v_seq ?_
  refine v_cond_d rfl (fun h => ?_) (fun h => ?_)
  · obtain ⟨b, o, rfl, q1, q2, q3⟩ := (hJI i w1 hj).2.at2 (i := i) (by omega)
    have hok := hin i (by omega)
    have hbd := offS_bd (rows := rows) i
    have hbd2 := offS_bd (rows := rows) (i + 1)
    have hwd : 0 ≤ (rows.getD i (0, 0)).2 ∧ (rows.getD i (0, 0)).2 ≤ 65535 ∧ 1 ≤ (rows.getD i (0, 0)).1 ∧ (rows.getD i (0, 0)).1 ≤ 255 := by simpa [widthOk] using hok
    refine v_skip ?_
    refine v_seq ?_
    refine v_block ?_
    refine v_seq ?_
    refine v_region ?_
    refine vl_val (os_ixs Try.underlying63 Try.sizeOf62 rfl rfl (i := i) (by omega) (by omega)) ?_
    refine vl_val (os_loadP Try.underlying62 rfl (by kernel_rfl) rfl q3) ?_
    refine vl_val (os_allocB Try.zeroValue62 (zc := _) (cs := [.int .i64 0, .int .i64 0]) rfl) ?_
    have hB0 := bk_new w1 [.int .i64 0, .int .i64 0] 62
    have b2 : Below w1.heap.size w1 (w1.alloc (.cells [Value.int .i64 0, .int .i64 0].toArray 62)) := (Below.refl _ _).alloc (Nat.le_refl _) _
    refine vl_unit (ou_storeB (by kernel_rfl) rfl rfl hB0 rfl rfl) ?_
    have hB := setRow_bk hB0 (rowC (rows.getD i (0, 0)))
    have b3 := below_setRow b2 (Nat.le_refl _) (rowC (rows.getD i (0, 0))).toArray
    refine vl_nil ?_
    refine v_seq ?_
    refine v_region ?_
    refine vl_val (os_fa (o := 1) (k := 0) (by kernel_rfl) rfl) ?_
    refine vl_val (os_load Try.isAgg3 rfl (hB.cell rfl)) ?_
    refine vl_val (os_fa (o := 0) (k := 0) (by kernel_rfl) rfl) ?_
    refine vl_val (os_load Try.isAgg3 rfl (hB.cell rfl)) ?_
    refine vl_call (strip_Width (rows.getD i (0, 0)).2 (rows.getD i (0, 0)).1 _ ⟨by omega, by omega⟩ ⟨by omega, by omega⟩) rfl ?_
    rintro v2 w2 ⟨rfl, rfl⟩
    change 0 ≤ offS rows i + widthV (rows.getD i (0, 0)).2 (rows.getD i (0, 0)).1 ∧ offS rows i + widthV (rows.getD i (0, 0)).2 (rows.getD i (0, 0)).1 ≤ _ at hbd2
    refine vl_val (os_move rfl) ?_
    refine vl_val (os_extract rfl rfl) ?_
    refine vl_val (os_extract rfl rfl) ?_
    refine vl_val (os_assign rfl) ?_
    refine vl_val (os_assign rfl) ?_
    refine vl_nil ?_
    refine v_seq ?_
    refine v_seq ?_
    refine v_region ?_
    refine vl_val (os_move rfl) ?_
    refine vl_val (os_move rfl) ?_
    refine vl_val (os_move rfl) ?_
    refine vl_val (os_move rfl) ?_
    refine vl_val (os_addi rfl rfl (by omega)) ?_
    refine vl_yield rfl rfl (hR i _ (hJ i w1 _ hj b3) (by omega)) ?_
    rintro bo w4 ⟨hy, hn⟩
    refine vl_val (os_not rfl) ?_
    refine vl_nil ?_
    refine v_cond rfl (fun hbv => ?_) (fun hbv => ?_)
    · refine v_ret ?_
      exact post_ret0 rfl (.inr ⟨i, hn (by simpa using hbv)⟩)
    · refine v_skip ?_
      refine v_region ?_
      refine vl_val (os_move rfl) ?_
      refine vl_val (os_move rfl) ?_
      refine vl_val (os_addi rfl rfl (by omega)) ?_
      refine vl_val (os_assign rfl) ?_
      refine vl_nil ?_
      refine v_region ?_
      refine vl_val (os_addi rfl rfl (by omega)) ?_
      refine vl_val (os_move rfl) ?_
      refine vl_nil ?_
      exact ⟨i + 1, ⟨rfl, rfl, rfl, trivial⟩, ⟨rfl, rfl, trivial⟩, ⟨by omega, hy (by simpa using hbv)⟩, by dsimp only; omega⟩
  · obtain rfl : l = i := by omega
    refine v_exit ?_
    exact post_end0 rfl (.inl hj)

set_option maxHeartbeats 2000000 in
theorem lay_Long (n : Int) (A : Option Addr) (l c : Nat) (rows : List (Int × Int)) (w : World) (ha : RdP w 2 A (rows.map rowC)) (hl : l = rows.length) (hl' : l ≤ 9000000000000000) :
    Gives Try.prog 92 #[.int .i64 n, .slice A l c] w fun v w' => v = .tuple #[.int .i64 (longV n rows), .int .i64 (errE (layOk n rows))] ∧ Below w.heap.size w w' := by
  have hB0 := bk_new w [.int .i64 0] 3
  have hb0 : Below w.heap.size w (w.alloc (.cells [Value.int .i64 0].toArray 3)) := (Below.refl _ w).alloc (Nat.le_refl _) _
  cases hok : layOk n rows
  · skip
    refine gives_enter Try.call92 Try.func92 rfl rfl rfl (by kernel_rfl) ?_
    refine v_seq ?_
    refine v_region ?_
    refine vl_val (os_alloc1 Try.zeroValue3 rfl) ?_
    refine vl_val (os_assign rfl) ?_
    refine vl_nil ?_
    refine v_seq ?_
    refine v_seq ?_
    refine v_region ?_
    refine vl_val (os_move rfl) ?_
    refine vl_val (os_move rfl) ?_
    refine vl_call ((lay_Right n A l c rows _ (ha.keep hb0) hl hl').mono fun v w' hh => (⟨by rw [hh.1, hok], hh.2⟩ : v = .bool false ∧ Below _ _ w')) rfl ?_
    rintro v1 w1 ⟨rfl, b1⟩
    have hB1 := hB0.keep b1
    have b1' := hb0.trans (b1.mono hb0.size)
    refine vl_val (os_not rfl) ?_
    refine vl_nil ?_
    refine v_cond_t rfl ?_
    refine v_seq ?_
    refine v_region ?_
    refine vl_unit (ou_store Try.sizeOf3 rfl rfl rfl (hB1.cell (i := 0) rfl) (hB1.free _)) ?_
    refine vl_val (os_assign rfl) ?_
    refine vl_nil ?_
    refine v_ret ?_
    exact post_of (fun a ha => res_ct (t := 4) (t2 := 5) rfl rfl rfl Try.isAgg3 ((hB1.set 0 _).cell (i := 0) rfl) ha) (⟨by simp [longV, hok, errE], below_set b1' (Nat.le_refl _) _ _⟩)
  · obtain ⟨⟨p1, p2⟩, p3, p4, p5, p6⟩ := layOk_parts hok
    refine gives_enter Try.call92 Try.func92 rfl rfl rfl (by kernel_rfl) ?_
    refine v_seq ?_
    refine v_region ?_
    refine vl_val (os_alloc1 Try.zeroValue3 rfl) ?_
    refine vl_val (os_assign rfl) ?_
    refine vl_nil ?_
    refine v_seq ?_
    refine v_seq ?_
    refine v_region ?_
    refine vl_val (os_move rfl) ?_
    refine vl_val (os_move rfl) ?_
    refine vl_call ((lay_Right n A l c rows _ (ha.keep hb0) hl hl').mono fun v w' hh => (⟨by rw [hh.1, hok], hh.2⟩ : v = .bool true ∧ Below _ _ w')) rfl ?_
    rintro v1 w1 ⟨rfl, b1⟩
    have hB1 := hB0.keep b1
    have b1' := hb0.trans (b1.mono hb0.size)
    refine vl_val (os_not rfl) ?_
    refine vl_nil ?_
    refine v_cond_f rfl ?_
    refine v_skip ?_
    refine v_range_seq ?_
    refine v_region ?_
    refine vl_val (os_move rfl) ?_
    refine vl_call (lay_stripes A l c w1) rfl ?_
    rintro v2 w2 ⟨rfl, rfl⟩
    obtain ⟨p, hp⟩ : ∃ p, p = w1.heap.size := ⟨_, rfl⟩
    obtain ⟨w2, hw2⟩ : ∃ w2, w2 = w1.alloc (.cells [Value.slice A l c].toArray 63) := ⟨_, rfl⟩
    have P1 : Bk w2 p [.slice A l c] 63 := by rw [hw2, hp]; exact bk_new w1 _ _
    have hB2 : Bk w2 w.heap.size [.int .i64 0] 3 := by rw [hw2]; exact hB1.alloc _
    have b2 : Below w.heap.size w w2 := by rw [hw2]; exact b1'.alloc b1'.size _
    have hlt := hB1.lt
    have hw2' : w2 = w1.alloc (.cells #[.slice A l c] 63) := hw2
    rw [← hw2', ← hp]
    refine vl_nil ?_
    refine v_range (l) (fun k => [.int .i64 (offS rows k), .int .i64 (offS rows (k + 1))]) (fun k w' => Bk w' w.heap.size [.int .i64 (offS rows k)] 3 ∧ Bk w' p [.slice A l c] 63 ∧ Below w.heap.size w w') (fun e w' => False) (fun k => [(7, .int .i64 (offS rows (k + 1))), (4, .pointer (some ⟨w.heap.size, 0, none⟩))]) Try.call167 rfl (fun _ => rfl) (fun k W W' ⟨h1, h2, h3⟩ hn => ⟨hn.bk h1, hn.bk h2, hn.below h3 b2.size (Nat.le_refl _)⟩) (fun _ => Abd.no) (⟨hB2, P1, b2⟩) (fun l J Jx W hW hJI hJ hJx hR hJ0 => lay_stripes_fn l p A _ c rows J Jx W (fun k W h => by obtain ⟨h1, h2, h3⟩ := hJI k W h; exact ⟨h2.cell (i := 0) rfl, ha.keep h3⟩) hJ hl (by omega) p6 hR hJ0) ?_ ?_ ?_ (fun _ _ _ _ h => h.elim) (fun _ _ _ _ _ h => h.elim)
    · intro l k w'
      refine v_region ?_
      refine vl_val (os_assign rfl) ?_
      refine vl_nil ?_
      exact ⟨rfl, rfl, ⟨rfl, rfl, trivial⟩⟩
    · rintro l k w' hk ⟨h1, h2, h3⟩
      refine v_block ?_
      refine v_region ?_
      refine vl_val (os_move rfl) ?_
      refine vl_unit (ou_store Try.sizeOf3 rfl rfl rfl (h1.cell (i := 0) rfl) (h1.free _)) ?_
      refine vl_nil ?_
      exact ⟨Kn.set (h1.cell (i := 0) rfl) _, h1.set 0 _, Bk.setOther h2 (by omega) _ _, below_set h3 (Nat.le_refl _) _ _⟩
    · rintro D w' hD hK ⟨h1, h2, h3⟩
      refine v_seq ?_
      refine v_region ?_
      refine vl_val (os_load Try.isAgg3 rfl (h1.cell (i := 0) rfl)) ?_
      refine vl_unit (ou_store Try.sizeOf3 rfl rfl rfl (h1.cell (i := 0) rfl) (h1.free _)) ?_
      have hK' := (Kn.set (B := 0) (h1.cell (i := 0) rfl) (.int .i64 (offS rows l))).block D _ (Nat.zero_le _) hK rfl
      have hN := Nc.put (B := w2.heap.size) (.deferred none) hD hK' rfl
      refine vl_val (os_assign rfl) ?_
      refine vl_nil ?_
      refine v_ret ?_
      exact post_m (fn := Try.f92) (hK') (fun a ha => res_ct (t := 4) (t2 := 5) rfl rfl rfl Try.isAgg3 ((hN.bk (h1.set 0 _)).cell (i := 0) rfl) ha) (⟨by simp [longV, hok, errE, hl], hN.below (below_set h3 (Nat.le_refl _) (0 + 0) _) b2.size (Nat.le_refl _)⟩)
theorem size_Of (n : Int) (A : Option Addr) (l c : Nat) (rows : List (Int × Int)) (w : World) (ha : RdP w 2 A (rows.map rowC)) (hl : l = rows.length) (hl' : l ≤ 9000000000000000) :
    Gives Try.prog 49 #[.int .i64 n, .slice A l c] w fun v w' => v = .tuple #[.int .i64 (ofV n rows), .int .i64 (errE (layOk n rows))] ∧ Below w.heap.size w w' := by
  refine gives_enter Try.call49 Try.func49 rfl rfl rfl (by kernel_rfl) ?_
  refine v_seq ?_
  refine v_region ?_
  refine vl_val (os_assign rfl) ?_
  refine vl_val (os_assign rfl) ?_
  refine vl_nil ?_
  refine v_seq ?_
  refine v_region ?_
  refine vl_val (os_move rfl) ?_
  refine vl_val (os_move rfl) ?_
  refine vl_call (lay_Long n A l c rows w ha hl hl') rfl ?_
  rintro v1 w1 ⟨rfl, b1⟩
  refine vl_val (os_move rfl) ?_
  refine vl_val (os_extract rfl rfl) ?_
  refine vl_val (os_extract rfl rfl) ?_
  refine vl_val (os_assign rfl) ?_
  refine vl_val (os_assign rfl) ?_
  refine vl_nil ?_
  cases hok : layOk n rows
  · refine v_seq ?_
    refine v_seq ?_
    refine v_region ?_
    refine vl_val (os_move rfl) ?_
    refine vl_val (os_neq rfl rfl) ?_
    refine vl_nil ?_
    refine v_cond_yes rfl (by decide) ?_
    refine v_seq ?_
    refine v_region ?_
    refine vl_val (os_move rfl) ?_
    refine vl_val (os_assign rfl) ?_
    refine vl_val (os_assign rfl) ?_
    refine vl_nil ?_
    refine v_ret ?_
    exact post_ret2 rfl rfl rfl (⟨by simp [ofV, hok, errE], b1⟩)
  · have hb := offS_bd (rows := rows) rows.length
    obtain ⟨-, p3, p4, -, -⟩ := layOk_parts hok
    rw [show longV n rows = offS rows rows.length by simp [longV, hok]]
    refine v_seq ?_
    refine v_seq ?_
    refine v_region ?_
    refine vl_val (os_move rfl) ?_
    refine vl_val (os_neq rfl rfl) ?_
    refine vl_nil ?_
    refine v_cond_no rfl (by decide) ?_
    refine v_skip ?_
    refine v_seq ?_
    refine v_region ?_
    refine vl_val (os_move rfl) ?_
    refine vl_val (os_len Try.underlying63 rfl) ?_
    refine vl_val (os_muli rfl rfl (by omega)) ?_
    refine vl_val (os_addi rfl rfl (by omega)) ?_
    refine vl_val (os_move rfl) ?_
    refine vl_val (os_addi rfl rfl (by omega)) ?_
    refine vl_val (os_assign rfl) ?_
    refine vl_val (os_assign rfl) ?_
    refine vl_nil ?_
    refine v_ret ?_
    exact post_ret2 rfl rfl rfl (⟨by simp [ofV, hok, errE, hl], b1⟩)
end Go.Proofs.Ytpojijnjdlnokaa

/- In a region that draws: a call of which several arguments bear facts. No program in sight. -/
namespace Go.Proofs.Ytpojijnjdlnokaa
open Go.RowKit
set_option linter.unusedVariables false

def FactsIn (ts : Ts) (look : List Nat) : List (Nat × Fact) → Prop
  | [] => True
  | (t, T) :: r => (Ts.get ts t = some T ∧ look.contains t = true) ∧ FactsIn ts look r
def AllU (K : Fr → Prop) (w : World) : List (Nat × Fact) → Fr → Prop
  | [], fr => K fr
  | (t, T) :: r, fr => ∀ u, T u w → AllU K w r ((t, u) :: fr)
theorem allU_ag {K : Fr → Prop} {n : Cx} {w : World} {a : Act} {ts : Ts} {look : List Nat} (hfs : ∀ t ∈ look, ∀ T, Ts.get ts t = some T → ∃ u, a.tmps[t]? = some u ∧ T u w) : ∀ (sl : List (Nat × Fact)) (fr : Fr), FactsIn ts look sl → AllU K w sl fr → Ag n fr a → ∃ fr', Ag n fr' a ∧ K fr'
  | [], fr, _, h, ha => ⟨fr, ha, h⟩
  | (t, T) :: r, fr, hs, h, ha => by
    obtain ⟨⟨h1, h2⟩, h3⟩ := hs
    obtain ⟨u, hu, hTu⟩ := hfs t (by simpa using h2) T h1
    refine allU_ag hfs r ((t, u) :: fr) h3 (h u hTu) ⟨ha.defers, ha.size, fun s x hs => ?_⟩
    simp only [Fr.get] at hs
    cases hb : Nat.beq t s with
    | true =>
      rw [hb] at hs
      have hts : t = s := Nat.eq_of_beq_eq_true hb
      subst hts
      rw [← hs]; exact hu
    | false => rw [hb] at hs; exact ha.at_ s x hs

section
variable {P : Program} {n : Cx} {all rest : List Oper} {le : World → World → Prop} {w0 w : World} {fr : Fr} {ts : Ts} {Q : Exit → Fr → World → Prop} {d : Nat} {op : Op} {ty : TypeId} {pos : String} {aft : Array Edge} {gw : World → Prop}
theorem vt_calls {g : Option (Nat × Bool)} {f : FuncId} {xs : List Operand} {tt : Array TypeId} (sl : List (Nat × Fact)) (v : Value)
    (hs : FactsIn ts (Oper.looksAt all.toArray ⟨some d, .call ⟨.value (.func f), xs.toArray, tt⟩, ty, pos, aft, g⟩) sl)
    (h : ∀ w, le w0 w → AllU (fun fr' => ∃ args, evL fr' xs = some args ∧ Gives P f args.toArray w (fun v' w' => v' = v ∧ le w w')) w sl fr) (k : VT P n all le w0 rest ((d, v) :: fr) ts Q gw) (hg : GOk all fr g := by first | exact True.intro | rfl)
    (hcl : clean fr ts all ⟨some d, .call ⟨.value (.func f), xs.toArray, tt⟩, ty, pos, aft, g⟩ = true := by rfl) (hts : Ts.get ts d = none := by rfl) :
    VT P n all le w0 (⟨some d, .call ⟨.value (.func f), xs.toArray, tt⟩, ty, pos, aft, g⟩ :: rest) fr ts Q gw := by
  unfold VT at k ⊢
  intro hle hok hlt htn
  obtain ⟨h1, h2⟩ := dst_lt hok rfl
  refine vt_gen (stable_eq le v) hcl htn (fun a w ha hlw hfs => ?_) (by show VTL _ _ _ _ _ _ _ (ext (lf fr ts) (some d) _) gw; rw [lf_cons hts]; exact k hle h2 (hlt.cons h1 v) htn) hlt
  rw [hg.wanted ha, if_pos rfl]
  obtain ⟨fr', ha2, args, hx, hgv⟩ := allU_ag hfs sl fr hs (h w hlw) ha
  unfold Oper.wp
  unfold Gives at hgv
  rw [execOp_bare, run_callee (first := #[]) (cap := #[]) hgv.1 rfl hx ha2]
  simp only [Array.append_empty, Array.empty_append]
  refine hgv.2.mono ?_
  rintro e w' ⟨v', rfl, h1, h2⟩
  exact ⟨v', rfl, h2, h1⟩
/-- a call, whatever its guard, of whose value a fact is known -/
theorem vt_callfg {g : Option (Nat × Bool)} {f : FuncId} {xs : List Operand} {tt : Array TypeId} {args : List Value} (U : Fact) (hU : Stable le U) (h : ∀ w, le w0 w → Gives P f args.toArray w (fun v w' => le w w' ∧ U v w')) (hx : evL fr xs = some args) (k : VT P n all le w0 rest fr ((d, U) :: ts) Q gw)
    (hg : GOk all fr g := by first | exact True.intro | rfl) (hcl : clean fr ts all ⟨some d, .call ⟨.value (.func f), xs.toArray, tt⟩, ty, pos, aft, g⟩ = true := by rfl) : VT P n all le w0 (⟨some d, .call ⟨.value (.func f), xs.toArray, tt⟩, ty, pos, aft, g⟩ :: rest) fr ts Q gw := by
  unfold VT at k ⊢
  intro hle hok hlt htn
  obtain ⟨h1, h2⟩ := dst_lt hok rfl
  refine vt_callx (first := #[]) (cap := #[]) hU rfl hx (fun w hw => ?_) hcl (fun a ha => hg.wanted ha) hlt htn (by rw [lf_fact]; exact k hle h2 hlt (ts_keep htn h1 U))
  simp only [Array.append_empty, Array.empty_append]
  exact h w hw
/-- a call of which several arguments bear facts, of whose value a fact is known -/
theorem vt_callsg {g : Option (Nat × Bool)} {f : FuncId} {xs : List Operand} {tt : Array TypeId} (sl : List (Nat × Fact)) (U : Fact) (hU : Stable le U)
    (hs : FactsIn ts (Oper.looksAt all.toArray ⟨some d, .call ⟨.value (.func f), xs.toArray, tt⟩, ty, pos, aft, g⟩) sl)
    (h : ∀ w, le w0 w → AllU (fun fr' => ∃ args, evL fr' xs = some args ∧ Gives P f args.toArray w (fun v' w' => le w w' ∧ U v' w')) w sl fr) (k : VT P n all le w0 rest fr ((d, U) :: ts) Q gw) (hg : GOk all fr g := by first | exact True.intro | rfl)
    (hcl : clean fr ts all ⟨some d, .call ⟨.value (.func f), xs.toArray, tt⟩, ty, pos, aft, g⟩ = true := by rfl) :
    VT P n all le w0 (⟨some d, .call ⟨.value (.func f), xs.toArray, tt⟩, ty, pos, aft, g⟩ :: rest) fr ts Q gw := by
  unfold VT at k ⊢
  intro hle hok hlt htn
  obtain ⟨h1, h2⟩ := dst_lt hok rfl
  refine vt_gen hU hcl htn (fun a w ha hlw hfs => ?_) (by show VTL _ _ _ _ _ _ _ (ext (lf fr ts) (some d) _) gw; rw [lf_fact]; exact k hle h2 hlt (ts_keep htn h1 U)) hlt
  rw [hg.wanted ha, if_pos rfl]
  obtain ⟨fr', ha2, args, hx, hgv⟩ := allU_ag hfs sl fr hs (h w hlw) ha
  unfold Oper.wp
  unfold Gives at hgv
  rw [execOp_bare, run_callee (first := #[]) (cap := #[]) hgv.1 rfl hx ha2]
  simp only [Array.append_empty, Array.empty_append]
  refine hgv.2.mono ?_
  rintro e w' ⟨v', rfl, h1, h2⟩
  exact ⟨v', rfl, h1, h2⟩
/-- an operation, whatever its guard, that looks at a slot of which a fact is known -/
theorem vt_useg {g : Option (Nat × Bool)} (t : Nat) {T : Fact} (hT : Ts.get ts t = some T) (U : Fact) (hU : Stable le U) (h : ∀ u w, le w0 w → T u w → OT P n op ty ((t, u) :: fr) w (fun v w' => le w w' ∧ U v w')) (k : VT P n all le w0 rest fr ((d, U) :: ts) Q gw)
    (hg : GOk all fr g := by first | exact True.intro | rfl) (ht : (Oper.looksAt all.toArray ⟨some d, op, ty, pos, aft, g⟩).contains t = true := by rfl) (hcl : clean fr ts all ⟨some d, op, ty, pos, aft, g⟩ = true := by rfl) : VT P n all le w0 (⟨some d, op, ty, pos, aft, g⟩ :: rest) fr ts Q gw := by
  unfold VT at k ⊢
  intro hle hok hlt htn
  obtain ⟨h1, h2⟩ := dst_lt hok rfl
  refine vt_run hU hcl hlt htn (fun a ha => hg.wanted ha) (fun a w ha hlw hfs => ?_) (by rw [lf_fact]; exact k hle h2 hlt (ts_keep htn h1 U))
  obtain ⟨u, hu, hTu⟩ := hfs t (by simpa using ht) T hT
  have := h u w hlw hTu
  unfold OT at this
  refine this a ⟨ha.defers, ha.size, fun s x hs => ?_⟩
  simp only [Fr.get] at hs
  cases hb : Nat.beq t s with
  | true =>
    rw [hb] at hs
    have hts : t = s := Nat.eq_of_beq_eq_true hb
    subst hts
    rw [← hs]; exact hu
  | false => rw [hb] at hs; exact ha.at_ s x hs
end
/-- a list of numbers that a region lays -/
def IsRow (k : IntKind) (zs : List Int) : Fact := fun v w => ∃ A c, v = .slice A zs.length c ∧ Rd w k A zs
theorem isRow_stable (k : IntKind) (zs : List Int) : Stable LeG (IsRow k zs) := fun v w w' h ⟨A, c, e, r⟩ => ⟨A, c, e, r.keep h⟩
theorem isRow_lit (k : IntKind) (w : World) (zs : List Int) (e : TypeId) : LeG w (w.alloc (.cells (zs.map (Value.int k)).toArray e)) ∧ IsRow k zs (.slice (some ⟨w.heap.size, 0, none⟩) zs.length zs.length) (w.alloc (.cells (zs.map (Value.int k)).toArray e)) :=
  ⟨(Below.refl _ _).alloc (Nat.le_refl _) _, _, _, rfl, rd_alloc w k zs e⟩
end Go.Proofs.Ytpojijnjdlnokaa

/- Layer 11: what can fit at all; the walk of SizeGreatest. -/
namespace Go.Proofs.Ytpojijnjdlnokaa
open Go.RowKit
set_option linter.unusedVariables false

def canB (n m b : Int) (lens : List Int) : Bool := rightB n m b && fitsB n m b lens (List.replicate lens.length n)
theorem sumW_mono : ∀ (lens ks js : List Int), ks.length = lens.length → js.length = lens.length → (∀ i, i < lens.length → 0 ≤ lens.getD i 0 ∧ 1 ≤ ks.getD i 0 ∧ ks.getD i 0 ≤ js.getD i 0) → sumW (lens.zip js) ≤ sumW (lens.zip ks)
  | [], _, _, _, _, _ => by simp [sumW]
  | x :: lens, k :: ks, j :: js, h1, h2, h => by
    have h0 := h 0 (by simp)
    simp at h0
    have ih := sumW_mono lens ks js (by simpa using h1) (by simpa using h2) (fun i hi => by have := h (i + 1) (by simpa using hi); simpa using this)
    have := width_anti h0.1 h0.2.1 h0.2.2
    simp only [List.zip_cons_cons, sumW]
    omega
  | x :: lens, [], _, h1, _, _ => by simp at h1
  | x :: lens, _ :: _, [], _, h2, _ => by simp at h2
theorem lens_at {ls : List Int} (h : lensB ls = true) : ∀ i, i < ls.length → 0 ≤ ls.getD i 0 ∧ ls.getD i 0 ≤ 65535 := (lens_bd h).2.2
/-- if any thresholds fit, those do that are all n -/
theorem fits_can {n m b : Int} {lens ks : List Int} (h : fitsB n m b lens ks = true) : canB n m b lens = true := by
  obtain ⟨h1, h2, h3, h4, h5, h6⟩ := fits_iff.1 h
  have hr : rightB n m b = true := by simp only [roomOk, Bool.and_eq_true] at h1; exact h1.1
  have hn := right_bd hr
  have hrep : ∀ i, i < lens.length → (List.replicate lens.length n).getD i 0 = n := fun i hi => by simp [hi]
  refine Bool.and_eq_true_iff.2 ⟨hr, fits_iff.2 ⟨h1, h2, by simp, ?_, fun i hi => by rw [hrep i hi]; omega, ?_⟩⟩
  · simp only [sortedB, decide_eq_true_eq, List.length_replicate]
    intro i hi hi2
    rw [hrep i hi, hrep _ hi2]; omega
  · exact Int.le_trans (sumW_mono lens ks _ h3 (by simp) (fun i hi => ⟨(lens_at h2 i hi).1, (h5 i hi).1, by rw [hrep i hi]; exact (h5 i hi).2⟩)) h6
def rowsZ (ks lens : List Int) : List (Int × Int) := ks.zip lens
theorem rowsZ_at {ks lens : List Int} (h : ks.length = lens.length) {i : Nat} (hi : i < ks.length) : (rowsZ ks lens).getD i (0, 0) = (ks.getD i 0, lens.getD i 0) := zip_getD hi (by omega)
theorem offS_sum {rows : List (Int × Int)} (h : ∀ i, i < rows.length → widthOk (rows.getD i (0, 0)).2 (rows.getD i (0, 0)).1 = true) : ∀ k, k ≤ rows.length → offS rows k = sumW ((rows.take k).map fun x => (x.2, x.1))
  | 0, _ => by simp [offS, sumW]
  | k + 1, hk => by
    have ih := offS_sum h k (by omega)
    have hh := h k (by omega)
    have e : rows.getD k (0, 0) = rows[k] := by simp [show k < rows.length by omega]
    rw [List.take_succ_eq_append_getElem (by omega), List.map_append]
    have hs : ∀ (a b : List (Int × Int)), sumW (a ++ b) = sumW a + sumW b := fun a b => by
      induction a with
      | nil => simp [sumW]
      | cons x r ihh => simp only [List.cons_append, sumW]; omega
    rw [hs, ← ih]
    simp only [offS, List.map_cons, List.map_nil, sumW, Int.add_zero]
    rw [e] at hh ⊢
    simp [widthV, hh]
theorem zip_swap : ∀ (a b : List Int), (a.zip b).map (fun x => (x.2, x.1)) = b.zip a
  | [], b => by cases b <;> simp
  | x :: a, [] => by simp
  | x :: a, y :: b => by simp [zip_swap a b]
/-- a table's law, in rows of thresholds and of lengths -/
theorem layGo_sorted {n : Int} : ∀ (ks lens : List Int) (least : Int), ks.length = lens.length → (layGo n least (rowsZ ks lens) = true ↔ ((∀ i, i < ks.length → ks.getD i 0 ≤ n ∧ 0 ≤ lens.getD i 0 ∧ lens.getD i 0 ≤ 65535) ∧ (0 < ks.length → least ≤ ks.getD 0 0) ∧ sortedB ks = true))
  | [], [], _, _ => by simp [rowsZ, layGo, sortedB]
  | k :: ks, l :: lens, least, h => by
    have ih := layGo_sorted (n := n) ks lens k (by simpa using h)
    have e : rowsZ (k :: ks) (l :: lens) = (k, l) :: rowsZ ks lens := rfl
    rw [e, layGo, Bool.and_eq_true, decide_eq_true_eq, ih]
    unfold rowGood
    simp only [sortedB, decide_eq_true_eq, List.length_cons]
    constructor
    · rintro ⟨⟨a1, a2, a3, a4⟩, b1, b2, b3⟩
      refine ⟨fun i hi => ?_, fun _ => by simpa using a1, fun i hi hi2 => ?_⟩
      · cases i with
        | zero => simp; omega
        | succ i => simpa using b1 i (by omega)
      · cases i with
        | zero => have := b2 (by omega); simpa using this
        | succ i => simpa using b3 i (by omega) (by omega)
    · rintro ⟨a, b, c⟩
      have a0 := a 0 (by omega)
      have b0 := b (by omega)
      simp at a0 b0
      refine ⟨⟨b0, a0.1, a0.2.1, a0.2.2⟩, fun i hi => ?_, fun h0 => ?_, fun i hi hi2 => ?_⟩
      · have := a (i + 1) (by omega); simpa using this
      · have := c 0 (by omega) (by omega); simpa using this
      · have := c (i + 1) (by omega) (by omega); simpa using this
  | [], _ :: _, _, h => by simp at h
  | _ :: _, [], _, h => by simp at h
theorem sorted_ge {ks : List Int} (h : sortedB ks = true) : ∀ i, i < ks.length → ks.getD 0 0 ≤ ks.getD i 0
  | 0, _ => Int.le_refl _
  | i + 1, hi => by
    have h1 := sorted_ge h i (by omega)
    have h2 := of_decide_eq_true h i (by omega) hi
    omega
theorem fits_lay {n m b : Int} {lens ks : List Int} (h : fitsB n m b lens ks = true) : layOk n (rowsZ ks lens) = true := by
  obtain ⟨h1, h2, h3, h4, h5, h6⟩ := fits_iff.1 h
  have hr : rightB n m b = true := by simp only [roomOk, Bool.and_eq_true] at h1; exact h1.1
  have hn := right_bd hr
  have hb := lens_bd h2
  have hlen : (rowsZ ks lens).length = lens.length := by simp [rowsZ, h3]
  simp only [layOk, Bool.and_eq_true, decide_eq_true_eq, hlen]
  refine ⟨⟨hn.1, hn.2.1, hb.1, hb.2.1⟩, (layGo_sorted ks lens 1 h3).2 ⟨fun i hi => ?_, fun h0 => (h5 0 (by omega)).1, h4⟩⟩
  have := h5 i (by omega)
  have := hb.2.2 i (by omega)
  omega
theorem lay_fits {n m b : Int} {lens ks : List Int} (h3 : ks.length = lens.length) (h1 : roomOk n m b lens.length = true) (hL : layOk n (rowsZ ks lens) = true) : fitsB n m b lens ks = decide (offS (rowsZ ks lens) ks.length ≤ roomW n m b lens.length) := by
  obtain ⟨p1, p2, p3, p4, p5⟩ := layOk_parts hL
  have hlen : (rowsZ ks lens).length = lens.length := by simp [rowsZ, h3]
  rw [hlen] at p2 p3 p5
  obtain ⟨q1, q2, q3⟩ := (layGo_sorted ks lens 1 h3).1 p4
  have hl : lensB lens = true := by
    simp only [lensB, Bool.and_eq_true, Bool.not_eq_true', List.any_eq_false, betw, decide_eq_true_eq]
    refine ⟨by omega, fun z hz => ?_⟩
    obtain ⟨i, hi, rfl⟩ := List.getElem_of_mem hz
    have := (q1 i (by omega)).2
    have e : lens.getD i 0 = lens[i] := by simp [hi]
    rw [e] at this
    simpa using this
  have hsum : offS (rowsZ ks lens) ks.length = sumW (lens.zip ks) := by
    rw [offS_sum (by rw [hlen]; exact p5) ks.length (by rw [hlen, h3]; exact Nat.le_refl _), List.take_of_length_le (by rw [hlen, h3]; exact Nat.le_refl _)]
    exact congrArg sumW (zip_swap ks lens)
  rw [hsum, Bool.eq_iff_iff, fits_iff, decide_eq_true_eq]
  refine ⟨fun h => h.2.2.2.2.2, fun h => ⟨h1, hl, h3, q3, fun i hi => ?_, h⟩⟩
  have := sorted_ge q3 i (by omega)
  have := q2 (by omega)
  exact ⟨by omega, (q1 i (by omega)).1⟩
theorem room_iff {n m b l long : Int} (h : roomOk n m b l = true) (h0 : 0 ≤ long) : (long ≤ roomW n m b l) ↔ (18 + 3 * l + long ≤ m ∧ (18 + 3 * l + long) * n ≤ b) := by
  have hr : rightB n m b = true := by simp only [roomOk, Bool.and_eq_true] at h; exact h.1
  have hn := right_bd hr
  have h1 := Int.le_ediv_iff_mul_le (a := 18 + 3 * l + long) (b := b) (c := n) (by omega)
  unfold roomW
  rw [← h1]
  omega

theorem ti_row : TyInfo Try.prog 62 (.agg #[.int .i64 0, .int .i64 0]) 2 16 := by unfold TyInfo; kernel_rfl
theorem rows_take {ks lens : List Int} {i : Nat} (h1 : i < ks.length) (h2 : ks.length = lens.length) : ((rowsZ ks lens).take (i + 1)).map rowC = ((rowsZ ks lens).take i).map rowC ++ [[.int .i64 (ks.getD i 0), .int .i64 (lens.getD i 0)]] := by
  have hi : i < (rowsZ ks lens).length := by simp [rowsZ]; omega
  rw [List.take_succ_eq_append_getElem hi, List.map_append]
  have e := rowsZ_at h2 h1
  have e2 : (rowsZ ks lens).getD i (0, 0) = (rowsZ ks lens)[i] := by simp [hi]
  rw [e2] at e
  rw [e]
  rfl
theorem fit_mul {n m b X : Int} (h : rightB n m b = true) (h0 : 0 ≤ X) (h1 : X ≤ 100000000) : I64 (X * n) := by
  have := right_bd h
  have h2 : 0 ≤ X * n := Int.mul_nonneg h0 (by omega)
  have h3 : X * n ≤ 100000000 * 255 := Int.mul_le_mul h1 (by omega) (by omega) (by omega)
  exact ⟨by omega, by omega⟩
theorem all_rep {n : Int} (h : I64 n) (l : Nat) : AllI (List.replicate l n) := by
  intro z hz
  obtain ⟨-, rfl⟩ := List.mem_replicate.1 hz
  exact h
theorem rep_row (A : Option Addr) (c l : Nat) (z : Int) (w : World) (hr : Rd w .i64 A [z]) (hl : l ≤ 1000000) : Gives Try.prog 93 #[.slice A 1 c, .int .i64 l] w fun v w' => LeG w w' ∧ IsRow .i64 (List.replicate l z) v w' := by
  by_cases h0 : l = 0
  · subst h0
    exact (sl_Repeat0 A c z w hr).mono fun v w' ⟨g, e, ho, hb⟩ => ⟨hb, _, _, e, by rw [e] at ho; exact OwnK.rd ho⟩
  · exact (sl_Repeat A c l z w hr ⟨by omega, hl⟩).mono fun v w' ⟨g, e, ho, hb⟩ => ⟨hb, some ⟨g, 0, none⟩, l, by simpa using e, by rw [e] at ho; exact OwnK.rd ho⟩
set_option maxHeartbeats 2000000 in
theorem size_Can (n m b : Int) (A : Option Addr) (l c : Nat) (lens : List Int) (w : World) (ha : Rd w .i64 A lens) (hl : l = lens.length) (hl' : l ≤ 300) (hn : I64 n) :
    Gives Try.prog 59 #[.agg #[.int .i64 n, .int .i64 m, .int .i64 b], .slice A l c] w fun v w' => v = .bool (canB n m b lens) ∧ Below w.heap.size w w' := by
  have hB0 := bk_new w [.int .i64 n, .int .i64 m, .int .i64 b] 42
  have hb0 : Below w.heap.size w (w.alloc (.cells #[.int .i64 n, .int .i64 m, .int .i64 b] 42)) := (Below.refl _ w).alloc (Nat.le_refl _) _
  have ha0 := ha.keep hb0
  refine gives_enter Try.call59 Try.func59 rfl rfl rfl (by kernel_rfl) ?_
  cases hr : rightB n m b
  · refine v_seq ?_
    refine v_region ?_
    refine vl_val (os_box rfl) ?_
    refine vl_val (os_assign rfl) ?_
    refine vl_nil ?_
    refine v_seq ?_
    refine v_region_t LeG _ mixed (by kernel_rfl) lee_g (leg_start _) ?_
    refine vt_val (fun w hw => os_loadB Try.underlying42 rfl (by kernel_rfl) rfl ((hB0.keep hw))) ?_
    refine vt_call (v := .bool false) (fun w hw => gives_boolb (size_Right n m b w) hr) rfl ?_
    refine vt_val (fun w hw => os_move rfl) ?_
    refine vt_skip rfl rfl ?_
    refine vt_skip rfl rfl ?_
    refine vt_skip rfl rfl ?_
    refine vt_skip rfl rfl ?_
    refine vt_skip rfl rfl ?_
    refine vt_skip rfl rfl ?_
    refine vt_skip rfl rfl ?_
    refine vt_skip rfl rfl ?_
    refine vt_skip rfl rfl ?_
    refine vt_val (fun w hw => os_pick_f rfl rfl) ?_
    refine vt_val (fun w hw => os_assign rfl) ?_
    refine vt_nil (fun Hw H => ?_)
    refine v_ret ?_
    exact post_ret rfl rfl (⟨by simp [canB, hr], hb0.trans (H.mono hb0.size)⟩)
  · refine v_seq ?_
    refine v_region ?_
    refine vl_val (os_box rfl) ?_
    refine vl_val (os_assign rfl) ?_
    refine vl_nil ?_
    refine v_seq ?_
    refine v_region_t LeG _ mixed (by kernel_rfl) lee_g (leg_start _) ?_
    refine vt_val (fun w hw => os_loadB Try.underlying42 rfl (by kernel_rfl) rfl ((hB0.keep hw))) ?_
    refine vt_call (v := .bool true) (fun w hw => gives_boolb (size_Right n m b w) hr) rfl ?_
    refine vt_val (fun w hw => os_move rfl) ?_
    refine vt_valg rfl (fun w hw => os_loadB Try.underlying42 rfl (by kernel_rfl) rfl ((hB0.keep hw))) ?_
    refine vt_valg rfl (fun w hw => os_move rfl) ?_
    refine vt_valg rfl (fun w hw => os_fa (o := 0) (k := 0) (by kernel_rfl) rfl) ?_
    refine vt_valg rfl (fun w hw => os_load Try.isAgg3 rfl ((hB0.keep hw).cell rfl)) ?_
    refine vt_new (IsRow .i64 [n]) (isRow_stable _ _) (fun w hw => os_lit Try.underlying40 Try.sizeOf3 Try.zeroValue3 rfl rfl rfl rfl (by decide)) (fun w hw => isRow_lit .i64 w [n] _) ?_
    refine vt_valg rfl (fun w hw => os_move rfl) ?_
    refine vt_valg rfl (fun w hw => os_len Try.underlying40 rfl) ?_
    refine vt_callsg [(12, _)] (IsRow .i64 (List.replicate l n)) (isRow_stable _ _) ⟨⟨rfl, rfl⟩, trivial⟩ (fun w hw => fun u0 ⟨A0, c0, e0, x0⟩ => ⟨_, rfl, by subst e0; exact rep_row A0 c0 l n w x0 (by omega)⟩) ?_
    refine vt_callu 15 (.bool (canB n m b lens)) rfl (fun u w hw ⟨A', c', e, hr2⟩ => ⟨_, rfl, by subst e; exact (size_Fits n m b A A' l c _ c' lens (List.replicate l n) w (ha0.keep hw) hr2 hl rfl (by omega) (by simp; omega) (all_rep hn l)).mono fun v w' hh => ⟨by rw [hh.1]; simp [canB, hr, hl], hh.2⟩⟩) ?_
    refine vt_val (fun w hw => os_pick_t rfl rfl) ?_
    refine vt_val (fun w hw => os_assign rfl) ?_
    refine vt_nil (fun Hw H => ?_)
    intro u2 hu2 u1 hu1
    refine v_ret ?_
    exact post_ret rfl rfl (⟨by simp [canB, hr], hb0.trans (H.mono hb0.size)⟩)
end Go.Proofs.Ytpojijnjdlnokaa

/- The statements' own helpers: lists held against each other. -/
namespace Go.Proofs.Ytpojijnjdlnokaa
open Go.RowKit
set_option linter.unusedVariables false

theorem kit_SameInts (A B : Option Addr) (n m c d : Nat) (xs ys : List Int) (w : World) (ha : Rd w .i64 A xs) (hb : Rd w .i64 B ys) (hn : n = xs.length) (hm : m = ys.length)
   (hn' : n ≤ 9223372036854775807) (hm' : m ≤ 9223372036854775807) :
    Gives Try.prog 34 #[.slice A n c, .slice B m d] w fun v w' => v = .bool (decide (xs = ys)) ∧ LeD w w' := by
  refine gives_enter Try.call34 Try.func34 rfl rfl rfl (by kernel_rfl) ?_
  refine v_seq ?_
  refine v_region ?_
  refine vl_val (os_assign rfl) ?_
  refine vl_nil ?_
  refine v_seq ?_
  refine v_seq ?_
  refine v_region ?_
  refine vl_val (os_move rfl) ?_
  refine vl_val (os_len Try.underlying40 rfl) ?_
  refine vl_val (os_move rfl) ?_
  refine vl_val (os_len Try.underlying40 rfl) ?_
  refine vl_val (os_neq rfl rfl) ?_
  refine vl_nil ?_
  refine v_cond_d rfl (fun h => ?_) (fun h => ?_)
  · refine v_seq ?_
    refine v_region ?_
    refine vl_val (os_assign rfl) ?_
    refine vl_nil ?_
    refine v_ret ?_
    exact post_ret rfl rfl (⟨by rw [decide_eq_false]; intro he; subst he; omega, lee_d.refl _⟩)
  · refine v_skip ?_
    refine v_seq ?_
    refine v_seq ?_
    refine v_region ?_
    refine vl_val (os_assign rfl) ?_
    refine vl_nil ?_
    refine v_block ?_
    refine v_loop [(0, _), (1, _)] (fun (k : Nat) => [(5, .int .i64 k)]) (fun k w' => k ≤ n ∧ xs.take k = ys.take k ∧ LeD w w') (fun k => n - k) (0) ⟨rfl, rfl, trivial⟩ ⟨rfl, trivial⟩ (⟨by omega, rfl, lee_d.refl _⟩) ?_
    rintro k w' ⟨hk, htk, q, rfl⟩
    refine v_seq ?_
    refine v_seq ?_
    refine v_region ?_
    refine vl_val (os_move rfl) ?_
    refine vl_val (os_move rfl) ?_
    refine vl_val (os_len Try.underlying40 rfl) ?_
    refine vl_val (os_lss rfl rfl) ?_
    refine vl_nil ?_
    refine v_cond_d rfl (fun hlt => ?_) (fun hlt => ?_)
    · obtain ⟨b1, o1, rfl, c1⟩ := (ha.drewN q).at_ (i := k) (by omega)
      obtain ⟨b2, o2, rfl, c2⟩ := (hb.drewN q).at_ (i := k) (by omega)
      refine v_skip ?_
      refine v_seq ?_
      refine v_block ?_
      refine v_seq ?_
      refine v_region_t LeD _ mixed (by kernel_rfl) lee_d (led_start _) ?_
      refine vt_val (fun w hw => os_move rfl) ?_
      refine vt_val (fun w hw => os_move rfl) ?_
      refine vt_val (fun w hw => os_ix Try.underlying40 Try.sizeOf3 rfl rfl (i := k) (by omega) (by omega)) ?_
      refine vt_val (fun w hw => os_load Try.isAgg3 rfl (led_cell hw (c1))) ?_
      refine vt_val (fun w hw => os_move rfl) ?_
      refine vt_val (fun w hw => os_move rfl) ?_
      refine vt_val (fun w hw => os_ix Try.underlying40 Try.sizeOf3 rfl rfl (i := k) (by omega) (by omega)) ?_
      refine vt_val (fun w hw => os_load Try.isAgg3 rfl (led_cell hw (c2))) ?_
      refine vt_val (fun w hw => os_neq rfl rfl) ?_
      refine vt_nil (fun w hw => ?_)
      obtain ⟨q2, rfl⟩ := hw
      refine v_cond_d rfl (fun hne => ?_) (fun hne => ?_)
      · refine v_seq ?_
        refine v_region ?_
        refine vl_val (os_assign rfl) ?_
        refine vl_nil ?_
        refine v_ret ?_
        exact post_ret rfl rfl (⟨by rw [decide_eq_false]; intro he; subst he; exact hne rfl, _, World.drewN_drewN ..⟩)
      · refine v_skip ?_
        refine v_region ?_
        refine vl_val (os_move rfl) ?_
        refine vl_val (os_addi rfl rfl (by omega)) ?_
        refine vl_val (os_assign rfl) ?_
        refine vl_nil ?_
        exact ⟨k + 1, ⟨rfl, rfl, trivial⟩, ⟨rfl, trivial⟩, ⟨by omega, take_succ_eq (n := n) hn (by omega) (by omega) htk 0 (by simpa using hne), _, World.drewN_drewN ..⟩, by dsimp only; omega⟩
    · obtain rfl : k = n := by omega
      refine v_exit ?_
      refine v_seq ?_
      refine v_region ?_
      refine vl_val (os_assign rfl) ?_
      refine vl_nil ?_
      refine v_ret ?_
      exact post_ret rfl rfl (⟨by rw [decide_eq_true]; exact eq_of_take hn (by omega) htk, _, rfl⟩)

theorem kit_SameBytes (A B : Option Addr) (n m c d : Nat) (xs ys : List Int) (w : World) (ha : Rd w .u8 A xs) (hb : Rd w .u8 B ys) (hn : n = xs.length) (hm : m = ys.length)
   (hn' : n ≤ 9223372036854775807) (hm' : m ≤ 9223372036854775807) :
    Gives Try.prog 23 #[.slice A n c, .slice B m d] w fun v w' => v = .bool (decide (xs = ys)) ∧ LeD w w' := by
  refine gives_enter Try.call23 Try.func23 rfl rfl rfl (by kernel_rfl) ?_
  refine v_seq ?_
  refine v_region ?_
  refine vl_val (os_assign rfl) ?_
  refine vl_nil ?_
  refine v_seq ?_
  refine v_seq ?_
  refine v_region ?_
  refine vl_val (os_move rfl) ?_
  refine vl_val (os_len Try.underlying22 rfl) ?_
  refine vl_val (os_move rfl) ?_
  refine vl_val (os_len Try.underlying22 rfl) ?_
  refine vl_val (os_neq rfl rfl) ?_
  refine vl_nil ?_
  refine v_cond_d rfl (fun h => ?_) (fun h => ?_)
  · refine v_seq ?_
    refine v_region ?_
    refine vl_val (os_assign rfl) ?_
    refine vl_nil ?_
    refine v_ret ?_
    exact post_ret rfl rfl (⟨by rw [decide_eq_false]; intro he; subst he; omega, lee_d.refl _⟩)
  · refine v_skip ?_
    refine v_seq ?_
    refine v_seq ?_
    refine v_region ?_
    refine vl_val (os_assign rfl) ?_
    refine vl_nil ?_
    refine v_block ?_
    refine v_loop [(0, _), (1, _)] (fun (k : Nat) => [(5, .int .i64 k)]) (fun k w' => k ≤ n ∧ xs.take k = ys.take k ∧ LeD w w') (fun k => n - k) (0) ⟨rfl, rfl, trivial⟩ ⟨rfl, trivial⟩ (⟨by omega, rfl, lee_d.refl _⟩) ?_
    rintro k w' ⟨hk, htk, q, rfl⟩
    refine v_seq ?_
    refine v_seq ?_
    refine v_region ?_
    refine vl_val (os_move rfl) ?_
    refine vl_val (os_move rfl) ?_
    refine vl_val (os_len Try.underlying22 rfl) ?_
    refine vl_val (os_lss rfl rfl) ?_
    refine vl_nil ?_
    refine v_cond_d rfl (fun hlt => ?_) (fun hlt => ?_)
    · obtain ⟨b1, o1, rfl, c1⟩ := (ha.drewN q).at_ (i := k) (by omega)
      obtain ⟨b2, o2, rfl, c2⟩ := (hb.drewN q).at_ (i := k) (by omega)
      refine v_skip ?_
      refine v_seq ?_
      refine v_block ?_
      refine v_seq ?_
      refine v_region_t LeD _ mixed (by kernel_rfl) lee_d (led_start _) ?_
      refine vt_val (fun w hw => os_move rfl) ?_
      refine vt_val (fun w hw => os_move rfl) ?_
      refine vt_val (fun w hw => os_ix Try.underlying22 Try.sizeOf5 rfl rfl (i := k) (by omega) (by omega)) ?_
      refine vt_val (fun w hw => os_load Try.isAgg5 rfl (led_cell hw (c1))) ?_
      refine vt_val (fun w hw => os_move rfl) ?_
      refine vt_val (fun w hw => os_move rfl) ?_
      refine vt_val (fun w hw => os_ix Try.underlying22 Try.sizeOf5 rfl rfl (i := k) (by omega) (by omega)) ?_
      refine vt_val (fun w hw => os_load Try.isAgg5 rfl (led_cell hw (c2))) ?_
      refine vt_val (fun w hw => os_neq rfl rfl) ?_
      refine vt_nil (fun w hw => ?_)
      obtain ⟨q2, rfl⟩ := hw
      refine v_cond_d rfl (fun hne => ?_) (fun hne => ?_)
      · refine v_seq ?_
        refine v_region ?_
        refine vl_val (os_assign rfl) ?_
        refine vl_nil ?_
        refine v_ret ?_
        exact post_ret rfl rfl (⟨by rw [decide_eq_false]; intro he; subst he; exact hne rfl, _, World.drewN_drewN ..⟩)
      · refine v_skip ?_
        refine v_region ?_
        refine vl_val (os_move rfl) ?_
        refine vl_val (os_addi rfl rfl (by omega)) ?_
        refine vl_val (os_assign rfl) ?_
        refine vl_nil ?_
        exact ⟨k + 1, ⟨rfl, rfl, trivial⟩, ⟨rfl, trivial⟩, ⟨by omega, take_succ_eq (n := n) hn (by omega) (by omega) htk 0 (by simpa using hne), _, World.drewN_drewN ..⟩, by dsimp only; omega⟩
    · obtain rfl : k = n := by omega
      refine v_exit ?_
      refine v_seq ?_
      refine v_region ?_
      refine vl_val (os_assign rfl) ?_
      refine vl_nil ?_
      refine v_ret ?_
      exact post_ret rfl rfl (⟨by rw [decide_eq_true]; exact eq_of_take hn (by omega) htk, _, rfl⟩)

end Go.Proofs.Ytpojijnjdlnokaa
