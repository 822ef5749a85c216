/- Texts joined: Ly Hd. -/
import Derived.Test.YtpojijnjdlnokaaM11
/- Layers 10, 11: lay.Right, lay.Long over its iterator; size.Of. -/
namespace Go.Proofs.Ytpojijnjdlnokaa
open Go.RowKit
set_option linter.unusedVariables false

theorem lay_Right (n : Int) (A : Option Addr) (l c : Nat) (rows : List (Int × Int)) (w : World) (ha : RdP w 2 A (rows.map rowC)) (hl : l = rows.length) (hl' : l ≤ 9000000000000000) :
    Gives Try.prog 126 #[.int .i64 n, .slice A l c] w fun v w' => v = .bool (layOk n rows) ∧ Below w.heap.size w w' := by
  by_cases hin : 1 ≤ n ∧ n ≤ 255 ∧ 1 ≤ l ∧ l ≤ 8
  · obtain ⟨h1, h2, h3, h4⟩ := hin
    have e0 : layOk n rows = layGo n 1 rows := by simp only [layOk]; rw [decide_eq_true (by omega)]; simp
    rw [e0]
    refine gives_enter Try.call126 Try.func126 rfl rfl rfl (by kernel_rfl) ?_
    refine v_seq ?_
    refine v_region ?_
    refine vl_val (os_assign rfl) ?_
    refine vl_nil ?_
    refine v_seq ?_
    refine v_seq ?_
    refine v_region ?_
    refine vl_val (os_move rfl) ?_
    refine vl_val (os_f (os_lss rfl rfl) (by omega)) ?_
    refine vl_val (os_move rfl) ?_
    refine vl_valg rfl (os_move rfl) ?_
    refine vl_valg rfl (os_f (os_gtr rfl rfl) (by omega)) ?_
    refine vl_val (os_pick_f rfl rfl) ?_
    refine vl_val (os_move rfl) ?_
    refine vl_valg rfl (os_move rfl) ?_
    refine vl_valg rfl (os_len Try.underlying63 rfl) ?_
    refine vl_valg rfl (os_f (os_lss rfl rfl) (by omega)) ?_
    refine vl_val (os_pick_f rfl rfl) ?_
    refine vl_val (os_move rfl) ?_
    refine vl_valg rfl (os_move rfl) ?_
    refine vl_valg rfl (os_len Try.underlying63 rfl) ?_
    refine vl_valg rfl (os_gtr rfl rfl) ?_
    refine vl_val (os_pick_f rfl rfl) ?_
    refine vl_nil ?_
    refine v_cond_no rfl (by omega) ?_
    refine v_skip ?_
    refine v_seq ?_
    refine v_region ?_
    refine vl_val (os_assign rfl) ?_
    refine vl_nil ?_
    refine v_seq ?_
    refine v_seq ?_
    refine v_region ?_
    refine vl_val (os_move rfl) ?_
    refine vl_val (os_len Try.underlying63 rfl) ?_
    refine vl_val (os_move rfl) ?_
    refine vl_nil ?_
    refine v_block ?_
    refine v_loop [(0, _), (24, _), (25, _)] (fun (i : Nat) => [(5, .int .i64 (prevK rows i)), (26, .int .i64 i)]) (fun i w' => i ≤ l ∧ layGo n 1 rows = layGo n (prevK rows i) (rows.drop i) ∧ Below w.heap.size w w') (fun i => l - i) (0) ⟨rfl, rfl, rfl, trivial⟩ ⟨rfl, rfl, trivial⟩ (⟨by omega, rfl, Below.refl _ _⟩) ?_
    rintro i w1 ⟨hi, hg, b1⟩
    refine v_seq ?_
    refine v_region ?_
    refine vl_val (os_lss rfl rfl) ?_
    refine vl_nil ?_
    refine v_seq ?_
    refine v_cond_d rfl (fun h => ?_) (fun h => ?_)
    · obtain ⟨b, o, rfl, q1, q2, q3⟩ := (show RdP w1 2 A (rows.map rowC) from ha.keep b1).at2 (i := i) (by omega)
      have hst := layGo_step (n := n) (rows := rows) (i := i) (by omega)
      refine v_skip ?_
      refine v_seq ?_
      refine v_block ?_
      refine v_seq ?_
      refine v_region ?_
      refine vl_val (os_ixs Try.underlying63 Try.sizeOf62 rfl rfl (i := i) (by omega) (by omega)) ?_
      refine vl_val (os_loadP Try.underlying62 rfl (by kernel_rfl) rfl q3) ?_
      refine vl_val (os_allocB Try.zeroValue62 (zc := _) (cs := [.int .i64 0, .int .i64 0]) rfl) ?_
      have hB0 := bk_new w1 [.int .i64 0, .int .i64 0] 62
      have b2 := b1.alloc b1.size (.cells [Value.int .i64 0, .int .i64 0].toArray 62)
      refine vl_unit (ou_storeB (by kernel_rfl) rfl rfl hB0 rfl rfl) ?_
      have hB := setRow_bk hB0 (rowC (rows.getD i (0, 0)))
      have b3 := below_setRow b2 b1.size (rowC (rows.getD i (0, 0))).toArray
      refine vl_nil ?_
      rcases (by unfold rowGood; omega : (rows.getD i (0, 0)).1 < prevK rows i ∨ (prevK rows i ≤ (rows.getD i (0, 0)).1 ∧ n < (rows.getD i (0, 0)).1) ∨ (prevK rows i ≤ (rows.getD i (0, 0)).1 ∧ (rows.getD i (0, 0)).1 ≤ n ∧ (rows.getD i (0, 0)).2 < 0) ∨ (prevK rows i ≤ (rows.getD i (0, 0)).1 ∧ (rows.getD i (0, 0)).1 ≤ n ∧ 0 ≤ (rows.getD i (0, 0)).2 ∧ 65535 < (rows.getD i (0, 0)).2) ∨ rowGood n (prevK rows i) (rows.getD i (0, 0))) with g | ⟨g, g2⟩ | ⟨g, g2, g3⟩ | ⟨g, g2, g3, g4⟩ | g
      · refine v_seq ?_
        refine v_seq ?_
        refine v_region ?_
        refine vl_val (os_fa (o := 0) (k := 0) (by kernel_rfl) rfl) ?_
        refine vl_val (os_load Try.isAgg3 rfl (hB.cell rfl)) ?_
        refine vl_val (os_move rfl) ?_
        refine vl_val (os_t (os_lss rfl rfl) (by omega)) ?_
        refine vl_val (os_move rfl) ?_
        refine vl_skip rfl rfl ?_
        refine vl_skip rfl rfl ?_
        refine vl_skip rfl rfl ?_
        refine vl_skip rfl rfl ?_
        refine vl_val (os_pick_t rfl rfl) ?_
        refine vl_val (os_move rfl) ?_
        refine vl_skip rfl rfl ?_
        refine vl_skip rfl rfl ?_
        refine vl_skip rfl rfl ?_
        refine vl_val (os_pick_t rfl rfl) ?_
        refine vl_val (os_move rfl) ?_
        refine vl_skip rfl rfl ?_
        refine vl_skip rfl rfl ?_
        refine vl_skip rfl rfl ?_
        refine vl_val (os_pick_t rfl rfl) ?_
        refine vl_nil ?_
        refine v_cond_t rfl ?_
        refine v_seq ?_
        refine v_region ?_
        refine vl_val (os_assign rfl) ?_
        refine vl_nil ?_
        refine v_ret ?_
        exact post_ret rfl rfl (⟨by rw [hg, hst, decide_eq_false (by unfold rowGood; omega)]; rfl, b3⟩)
      · refine v_seq ?_
        refine v_seq ?_
        refine v_region ?_
        refine vl_val (os_fa (o := 0) (k := 0) (by kernel_rfl) rfl) ?_
        refine vl_val (os_load Try.isAgg3 rfl (hB.cell rfl)) ?_
        refine vl_val (os_move rfl) ?_
        refine vl_val (os_f (os_lss rfl rfl) (by omega)) ?_
        refine vl_val (os_move rfl) ?_
        refine vl_valg rfl (os_fa (o := 0) (k := 0) (by kernel_rfl) rfl) ?_
        refine vl_valg rfl (os_load Try.isAgg3 rfl (hB.cell rfl)) ?_
        refine vl_valg rfl (os_move rfl) ?_
        refine vl_valg rfl (os_t (os_gtr rfl rfl) (by omega)) ?_
        refine vl_val (os_pick_f rfl rfl) ?_
        refine vl_val (os_move rfl) ?_
        refine vl_skip rfl rfl ?_
        refine vl_skip rfl rfl ?_
        refine vl_skip rfl rfl ?_
        refine vl_val (os_pick_t rfl rfl) ?_
        refine vl_val (os_move rfl) ?_
        refine vl_skip rfl rfl ?_
        refine vl_skip rfl rfl ?_
        refine vl_skip rfl rfl ?_
        refine vl_val (os_pick_t rfl rfl) ?_
        refine vl_nil ?_
        refine v_cond_t rfl ?_
        refine v_seq ?_
        refine v_region ?_
        refine vl_val (os_assign rfl) ?_
        refine vl_nil ?_
        refine v_ret ?_
        exact post_ret rfl rfl (⟨by rw [hg, hst, decide_eq_false (by unfold rowGood; omega)]; rfl, b3⟩)
      · refine v_seq ?_
        refine v_seq ?_
        refine v_region ?_
        refine vl_val (os_fa (o := 0) (k := 0) (by kernel_rfl) rfl) ?_
        refine vl_val (os_load Try.isAgg3 rfl (hB.cell rfl)) ?_
        refine vl_val (os_move rfl) ?_
        refine vl_val (os_f (os_lss rfl rfl) (by omega)) ?_
        refine vl_val (os_move rfl) ?_
        refine vl_valg rfl (os_fa (o := 0) (k := 0) (by kernel_rfl) rfl) ?_
        refine vl_valg rfl (os_load Try.isAgg3 rfl (hB.cell rfl)) ?_
        refine vl_valg rfl (os_move rfl) ?_
        refine vl_valg rfl (os_f (os_gtr rfl rfl) (by omega)) ?_
        refine vl_val (os_pick_f rfl rfl) ?_
        refine vl_val (os_move rfl) ?_
        refine vl_valg rfl (os_fa (o := 1) (k := 0) (by kernel_rfl) rfl) ?_
        refine vl_valg rfl (os_load Try.isAgg3 rfl (hB.cell rfl)) ?_
        refine vl_valg rfl (os_t (os_lss rfl rfl) (by omega)) ?_
        refine vl_val (os_pick_f rfl rfl) ?_
        refine vl_val (os_move rfl) ?_
        refine vl_skip rfl rfl ?_
        refine vl_skip rfl rfl ?_
        refine vl_skip rfl rfl ?_
        refine vl_val (os_pick_t rfl rfl) ?_
        refine vl_nil ?_
        refine v_cond_t rfl ?_
        refine v_seq ?_
        refine v_region ?_
        refine vl_val (os_assign rfl) ?_
        refine vl_nil ?_
        refine v_ret ?_
        exact post_ret rfl rfl (⟨by rw [hg, hst, decide_eq_false (by unfold rowGood; omega)]; rfl, b3⟩)
      · refine v_seq ?_
        refine v_seq ?_
        refine v_region ?_
        refine vl_val (os_fa (o := 0) (k := 0) (by kernel_rfl) rfl) ?_
        refine vl_val (os_load Try.isAgg3 rfl (hB.cell rfl)) ?_
        refine vl_val (os_move rfl) ?_
        refine vl_val (os_f (os_lss rfl rfl) (by omega)) ?_
        refine vl_val (os_move rfl) ?_
        refine vl_valg rfl (os_fa (o := 0) (k := 0) (by kernel_rfl) rfl) ?_
        refine vl_valg rfl (os_load Try.isAgg3 rfl (hB.cell rfl)) ?_
        refine vl_valg rfl (os_move rfl) ?_
        refine vl_valg rfl (os_f (os_gtr rfl rfl) (by omega)) ?_
        refine vl_val (os_pick_f rfl rfl) ?_
        refine vl_val (os_move rfl) ?_
        refine vl_valg rfl (os_fa (o := 1) (k := 0) (by kernel_rfl) rfl) ?_
        refine vl_valg rfl (os_load Try.isAgg3 rfl (hB.cell rfl)) ?_
        refine vl_valg rfl (os_f (os_lss rfl rfl) (by omega)) ?_
        refine vl_val (os_pick_f rfl rfl) ?_
        refine vl_val (os_move rfl) ?_
        refine vl_valg rfl (os_fa (o := 1) (k := 0) (by kernel_rfl) rfl) ?_
        refine vl_valg rfl (os_load Try.isAgg3 rfl (hB.cell rfl)) ?_
        refine vl_valg rfl (os_gtr rfl rfl) ?_
        refine vl_val (os_pick_f rfl rfl) ?_
        refine vl_nil ?_
        refine v_cond_yes rfl (by omega) ?_
        refine v_seq ?_
        refine v_region ?_
        refine vl_val (os_assign rfl) ?_
        refine vl_nil ?_
        refine v_ret ?_
        exact post_ret rfl rfl (⟨by rw [hg, hst, decide_eq_false (by unfold rowGood; omega)]; rfl, b3⟩)
      · have g' := g
        unfold rowGood at g'
        refine v_seq ?_
        refine v_seq ?_
        refine v_region ?_
        refine vl_val (os_fa (o := 0) (k := 0) (by kernel_rfl) rfl) ?_
        refine vl_val (os_load Try.isAgg3 rfl (hB.cell rfl)) ?_
        refine vl_val (os_move rfl) ?_
        refine vl_val (os_f (os_lss rfl rfl) (by omega)) ?_
        refine vl_val (os_move rfl) ?_
        refine vl_valg rfl (os_fa (o := 0) (k := 0) (by kernel_rfl) rfl) ?_
        refine vl_valg rfl (os_load Try.isAgg3 rfl (hB.cell rfl)) ?_
        refine vl_valg rfl (os_move rfl) ?_
        refine vl_valg rfl (os_f (os_gtr rfl rfl) (by omega)) ?_
        refine vl_val (os_pick_f rfl rfl) ?_
        refine vl_val (os_move rfl) ?_
        refine vl_valg rfl (os_fa (o := 1) (k := 0) (by kernel_rfl) rfl) ?_
        refine vl_valg rfl (os_load Try.isAgg3 rfl (hB.cell rfl)) ?_
        refine vl_valg rfl (os_f (os_lss rfl rfl) (by omega)) ?_
        refine vl_val (os_pick_f rfl rfl) ?_
        refine vl_val (os_move rfl) ?_
        refine vl_valg rfl (os_fa (o := 1) (k := 0) (by kernel_rfl) rfl) ?_
        refine vl_valg rfl (os_load Try.isAgg3 rfl (hB.cell rfl)) ?_
        refine vl_valg rfl (os_gtr rfl rfl) ?_
        refine vl_val (os_pick_f rfl rfl) ?_
        refine vl_nil ?_
        refine v_cond_no rfl (by omega) ?_
        refine v_skip ?_
        refine v_region ?_
        refine vl_val (os_fa (o := 0) (k := 0) (by kernel_rfl) rfl) ?_
        refine vl_val (os_load Try.isAgg3 rfl (hB.cell rfl)) ?_
        refine vl_val (os_assign rfl) ?_
        refine vl_nil ?_
        refine v_region ?_
        refine vl_val (os_addi rfl rfl (by omega)) ?_
        refine vl_val (os_move rfl) ?_
        refine vl_nil ?_
        exact ⟨i + 1, ⟨rfl, rfl, rfl, trivial⟩, ⟨rfl, rfl, trivial⟩, ⟨by omega, by rw [hg, hst, decide_eq_true g]; rfl, b3⟩, by dsimp only; omega⟩
    · obtain rfl : l = i := by omega
      refine v_exit ?_
      refine v_seq ?_
      refine v_region ?_
      refine vl_val (os_assign rfl) ?_
      refine vl_nil ?_
      refine v_ret ?_
      exact post_ret rfl rfl (⟨by rw [hg, List.drop_of_length_le (by omega)]; rfl, b1⟩)
  · have e0 : layOk n rows = false := by simp only [layOk]; rw [decide_eq_false (by omega)]; simp
    rw [e0]
    refine gives_enter Try.call126 Try.func126 rfl rfl rfl (by kernel_rfl) ?_
    rcases (by omega : n < 1 ∨ (1 ≤ n ∧ 255 < n) ∨ (1 ≤ n ∧ n ≤ 255 ∧ l < 1) ∨ (1 ≤ n ∧ n ≤ 255 ∧ 1 ≤ l ∧ 8 < l)) with g | ⟨g, g2⟩ | ⟨g, g2, g3⟩ | ⟨g, g2, g3, g4⟩
    · refine v_seq ?_
      refine v_region ?_
      refine vl_val (os_assign rfl) ?_
      refine vl_nil ?_
      refine v_seq ?_
      refine v_seq ?_
      refine v_region ?_
      refine vl_val (os_move rfl) ?_
      refine vl_val (os_t (os_lss rfl rfl) (by omega)) ?_
      refine vl_val (os_move rfl) ?_
      refine vl_skip rfl rfl ?_
      refine vl_skip rfl rfl ?_
      refine vl_val (os_pick_t rfl rfl) ?_
      refine vl_val (os_move rfl) ?_
      refine vl_skip rfl rfl ?_
      refine vl_skip rfl rfl ?_
      refine vl_skip rfl rfl ?_
      refine vl_val (os_pick_t rfl rfl) ?_
      refine vl_val (os_move rfl) ?_
      refine vl_skip rfl rfl ?_
      refine vl_skip rfl rfl ?_
      refine vl_skip rfl rfl ?_
      refine vl_val (os_pick_t rfl rfl) ?_
      refine vl_nil ?_
      refine v_cond_t rfl ?_
      refine v_seq ?_
      refine v_region ?_
      refine vl_val (os_assign rfl) ?_
      refine vl_nil ?_
      refine v_ret ?_
      exact post_ret rfl rfl (⟨rfl, Below.refl _ _⟩)
    · refine v_seq ?_
      refine v_region ?_
      refine vl_val (os_assign rfl) ?_
      refine vl_nil ?_
      refine v_seq ?_
      refine v_seq ?_
      refine v_region ?_
      refine vl_val (os_move rfl) ?_
      refine vl_val (os_f (os_lss rfl rfl) (by omega)) ?_
      refine vl_val (os_move rfl) ?_
      refine vl_valg rfl (os_move rfl) ?_
      refine vl_valg rfl (os_t (os_gtr rfl rfl) (by omega)) ?_
      refine vl_val (os_pick_f rfl rfl) ?_
      refine vl_val (os_move rfl) ?_
      refine vl_skip rfl rfl ?_
      refine vl_skip rfl rfl ?_
      refine vl_skip rfl rfl ?_
      refine vl_val (os_pick_t rfl rfl) ?_
      refine vl_val (os_move rfl) ?_
      refine vl_skip rfl rfl ?_
      refine vl_skip rfl rfl ?_
      refine vl_skip rfl rfl ?_
      refine vl_val (os_pick_t rfl rfl) ?_
      refine vl_nil ?_
      refine v_cond_t rfl ?_
      refine v_seq ?_
      refine v_region ?_
      refine vl_val (os_assign rfl) ?_
      refine vl_nil ?_
      refine v_ret ?_
      exact post_ret rfl rfl (⟨rfl, Below.refl _ _⟩)
    · refine v_seq ?_
      refine v_region ?_
      refine vl_val (os_assign rfl) ?_
      refine vl_nil ?_
      refine v_seq ?_
      refine v_seq ?_
      refine v_region ?_
      refine vl_val (os_move rfl) ?_
      refine vl_val (os_f (os_lss rfl rfl) (by omega)) ?_
      refine vl_val (os_move rfl) ?_
      refine vl_valg rfl (os_move rfl) ?_
      refine vl_valg rfl (os_f (os_gtr rfl rfl) (by omega)) ?_
      refine vl_val (os_pick_f rfl rfl) ?_
      refine vl_val (os_move rfl) ?_
      refine vl_valg rfl (os_move rfl) ?_
      refine vl_valg rfl (os_len Try.underlying63 rfl) ?_
      refine vl_valg rfl (os_t (os_lss rfl rfl) (by omega)) ?_
      refine vl_val (os_pick_f rfl rfl) ?_
      refine vl_val (os_move rfl) ?_
      refine vl_skip rfl rfl ?_
      refine vl_skip rfl rfl ?_
      refine vl_skip rfl rfl ?_
      refine vl_val (os_pick_t rfl rfl) ?_
      refine vl_nil ?_
      refine v_cond_t rfl ?_
      refine v_seq ?_
      refine v_region ?_
      refine vl_val (os_assign rfl) ?_
      refine vl_nil ?_
      refine v_ret ?_
      exact post_ret rfl rfl (⟨rfl, Below.refl _ _⟩)
    · refine v_seq ?_
      refine v_region ?_
      refine vl_val (os_assign rfl) ?_
      refine vl_nil ?_
      refine v_seq ?_
      refine v_seq ?_
      refine v_region ?_
      refine vl_val (os_move rfl) ?_
      refine vl_val (os_f (os_lss rfl rfl) (by omega)) ?_
      refine vl_val (os_move rfl) ?_
      refine vl_valg rfl (os_move rfl) ?_
      refine vl_valg rfl (os_f (os_gtr rfl rfl) (by omega)) ?_
      refine vl_val (os_pick_f rfl rfl) ?_
      refine vl_val (os_move rfl) ?_
      refine vl_valg rfl (os_move rfl) ?_
      refine vl_valg rfl (os_len Try.underlying63 rfl) ?_
      refine vl_valg rfl (os_f (os_lss rfl rfl) (by omega)) ?_
      refine vl_val (os_pick_f rfl rfl) ?_
      refine vl_val (os_move rfl) ?_
      refine vl_valg rfl (os_move rfl) ?_
      refine vl_valg rfl (os_len Try.underlying63 rfl) ?_
      refine vl_valg rfl (os_gtr rfl rfl) ?_
      refine vl_val (os_pick_f rfl rfl) ?_
      refine vl_nil ?_
      refine v_cond_yes rfl (by omega) ?_
      refine v_seq ?_
      refine v_region ?_
      refine vl_val (os_assign rfl) ?_
      refine vl_nil ?_
      refine v_ret ?_
      exact post_ret rfl rfl (⟨rfl, Below.refl _ _⟩)

theorem lay_stripes (A : Option Addr) (l c : Nat) (w : World) : Gives Try.prog 146 #[.slice A l c] w fun v w' => v = .func (.func 167) #[] #[.pointer (some ⟨w.heap.size, 0, none⟩)] ∧ w' = w.alloc (.cells #[.slice A l c] 63) := by
  refine gives_enter Try.call146 Try.func146 rfl rfl rfl (by kernel_rfl) ?_
  refine v_seq ?_
  refine v_region ?_
  refine vl_val (os_box rfl) ?_
  refine vl_val (os_assign rfl) ?_
  refine vl_nil ?_
  refine v_seq ?_
  refine v_region ?_
  refine vl_val (os_makeFunc rfl) ?_
  refine vl_val (os_assign rfl) ?_
  refine vl_nil ?_
  refine v_ret ?_
  exact post_ret rfl rfl (⟨by simp, rfl⟩)
theorem lay_stripes_fn (y p : Nat) (A : Option Addr) (l c : Nat) (rows : List (Int × Int)) (J Jx : Nat → World → Prop) (W : World)
    (hJI : ∀ k W, J k W → W.cell? ⟨p, 0, none⟩ = some (.slice A l c) ∧ RdP W 2 A (rows.map rowC)) (hJ : ∀ k W W', J k W → LeG W W' → J k W')
    (hl : l = rows.length) (hl8 : l ≤ 8) (hin : ∀ i, i < rows.length → widthOk (rows.getD i (0, 0)).2 (rows.getD i (0, 0)).1 = true) (hR : Rounds Try.prog y (fun k => [.int .i64 (offS rows k), .int .i64 (offS rows (k + 1))]) l J Jx) (hJ0 : J 0 W) :
    Gives Try.prog 167 #[.func (.yield y) #[] #[], .pointer (some ⟨p, 0, none⟩)] W fun _ W' => J l W' ∨ ∃ k, Jx k W' := by
  refine gives_enter Try.call167 Try.func167 rfl rfl rfl (by kernel_rfl) ?_
  refine v_seq ?_
  refine v_region ?_
  refine vl_val (os_assign rfl) ?_
  refine vl_nil ?_
  refine v_seq ?_
  refine v_region ?_
  refine vl_val (os_load Try.isAgg63 rfl ((hJI 0 W hJ0).1)) ?_
  refine vl_val (os_len Try.underlying63 rfl) ?_
  refine vl_val (os_move rfl) ?_
  refine vl_nil ?_
  refine v_block ?_
  refine v_loop [(0, _), (8, _), (9, _)] (fun (i : Nat) => [(3, .int .i64 (offS rows i)), (10, .int .i64 i)]) (fun i w' => i ≤ l ∧ J i w') (fun i => l - i) (0) ⟨rfl, rfl, rfl, trivial⟩ ⟨rfl, rfl, trivial⟩ (⟨by omega, hJ0⟩) ?_
  rintro i w1 ⟨hi, hj⟩
  refine v_seq ?_
  refine v_region ?_
  refine vl_val (os_lss rfl rfl) ?_
  refine vl_nil ?_
  refine v_seq ?_
  refine v_cond_d rfl (fun h => ?_) (fun h => ?_)
  · obtain ⟨b, o, rfl, q1, q2, q3⟩ := (hJI i w1 hj).2.at2 (i := i) (by omega)
    have hok := hin i (by omega)
    have hbd := offS_bd (rows := rows) i
    have hbd2 := offS_bd (rows := rows) (i + 1)
    have hwd : 0 ≤ (rows.getD i (0, 0)).2 ∧ (rows.getD i (0, 0)).2 ≤ 65535 ∧ 1 ≤ (rows.getD i (0, 0)).1 ∧ (rows.getD i (0, 0)).1 ≤ 255 := by simpa [widthOk] using hok
    refine v_skip ?_
    refine v_seq ?_
    refine v_block ?_
    refine v_seq ?_
    refine v_region ?_
    refine vl_val (os_ixs Try.underlying63 Try.sizeOf62 rfl rfl (i := i) (by omega) (by omega)) ?_
    refine vl_val (os_loadP Try.underlying62 rfl (by kernel_rfl) rfl q3) ?_
    refine vl_val (os_allocB Try.zeroValue62 (zc := _) (cs := [.int .i64 0, .int .i64 0]) rfl) ?_
    have hB0 := bk_new w1 [.int .i64 0, .int .i64 0] 62
    have b2 : Below w1.heap.size w1 (w1.alloc (.cells [Value.int .i64 0, .int .i64 0].toArray 62)) := (Below.refl _ _).alloc (Nat.le_refl _) _
    refine vl_unit (ou_storeB (by kernel_rfl) rfl rfl hB0 rfl rfl) ?_
    have hB := setRow_bk hB0 (rowC (rows.getD i (0, 0)))
    have b3 := below_setRow b2 (Nat.le_refl _) (rowC (rows.getD i (0, 0))).toArray
    refine vl_nil ?_
    refine v_seq ?_
    refine v_region ?_
    refine vl_val (os_fa (o := 1) (k := 0) (by kernel_rfl) rfl) ?_
    refine vl_val (os_load Try.isAgg3 rfl (hB.cell rfl)) ?_
    refine vl_val (os_fa (o := 0) (k := 0) (by kernel_rfl) rfl) ?_
    refine vl_val (os_load Try.isAgg3 rfl (hB.cell rfl)) ?_
    refine vl_call (strip_Width (rows.getD i (0, 0)).2 (rows.getD i (0, 0)).1 _ ⟨by omega, by omega⟩ ⟨by omega, by omega⟩) rfl ?_
    rintro v2 w2 ⟨rfl, rfl⟩
    change 0 ≤ offS rows i + widthV (rows.getD i (0, 0)).2 (rows.getD i (0, 0)).1 ∧ offS rows i + widthV (rows.getD i (0, 0)).2 (rows.getD i (0, 0)).1 ≤ _ at hbd2
    refine vl_val (os_move rfl) ?_
    refine vl_val (os_extract rfl rfl) ?_
    refine vl_val (os_extract rfl rfl) ?_
    refine vl_val (os_assign rfl) ?_
    refine vl_val (os_assign rfl) ?_
    refine vl_nil ?_
    refine v_seq ?_
    refine v_seq ?_
    refine v_region ?_
    refine vl_val (os_move rfl) ?_
    refine vl_val (os_move rfl) ?_
    refine vl_val (os_move rfl) ?_
    refine vl_val (os_move rfl) ?_
    refine vl_val (os_addi rfl rfl (by omega)) ?_
    refine vl_yield rfl rfl (hR i _ (hJ i w1 _ hj b3) (by omega)) ?_
    rintro bo w4 ⟨hy, hn⟩
    refine vl_val (os_not rfl) ?_
    refine vl_nil ?_
    refine v_cond rfl (fun hbv => ?_) (fun hbv => ?_)
    · refine v_ret ?_
      exact post_ret0 rfl (.inr ⟨i, hn (by simpa using hbv)⟩)
    · refine v_skip ?_
      refine v_region ?_
      refine vl_val (os_move rfl) ?_
      refine vl_val (os_move rfl) ?_
      refine vl_val (os_addi rfl rfl (by omega)) ?_
      refine vl_val (os_assign rfl) ?_
      refine vl_nil ?_
      refine v_region ?_
      refine vl_val (os_addi rfl rfl (by omega)) ?_
      refine vl_val (os_move rfl) ?_
      refine vl_nil ?_
      exact ⟨i + 1, ⟨rfl, rfl, rfl, trivial⟩, ⟨rfl, rfl, trivial⟩, ⟨by omega, hy (by simpa using hbv)⟩, by dsimp only; omega⟩
  · obtain rfl : l = i := by omega
    refine v_exit ?_
    exact post_end0 rfl (.inl hj)

set_option maxHeartbeats 2000000 in
theorem lay_Long (n : Int) (A : Option Addr) (l c : Nat) (rows : List (Int × Int)) (w : World) (ha : RdP w 2 A (rows.map rowC)) (hl : l = rows.length) (hl' : l ≤ 9000000000000000) :
    Gives Try.prog 92 #[.int .i64 n, .slice A l c] w fun v w' => v = .tuple #[.int .i64 (longV n rows), .int .i64 (errE (layOk n rows))] ∧ Below w.heap.size w w' := by
  have hB0 := bk_new w [.int .i64 0] 3
  have hb0 : Below w.heap.size w (w.alloc (.cells [Value.int .i64 0].toArray 3)) := (Below.refl _ w).alloc (Nat.le_refl _) _
  cases hok : layOk n rows
  · skip
    refine gives_enter Try.call92 Try.func92 rfl rfl rfl (by kernel_rfl) ?_
    refine v_seq ?_
    refine v_region ?_
    refine vl_val (os_alloc1 Try.zeroValue3 rfl) ?_
    refine vl_val (os_assign rfl) ?_
    refine vl_nil ?_
    refine v_seq ?_
    refine v_seq ?_
    refine v_region ?_
    refine vl_val (os_move rfl) ?_
    refine vl_val (os_move rfl) ?_
    refine vl_call ((lay_Right n A l c rows _ (ha.keep hb0) hl hl').mono fun v w' hh => (⟨by rw [hh.1, hok], hh.2⟩ : v = .bool false ∧ Below _ _ w')) rfl ?_
    rintro v1 w1 ⟨rfl, b1⟩
    have hB1 := hB0.keep b1
    have b1' := hb0.trans (b1.mono hb0.size)
    refine vl_val (os_not rfl) ?_
    refine vl_nil ?_
    refine v_cond_t rfl ?_
    refine v_seq ?_
    refine v_region ?_
    refine vl_unit (ou_store Try.sizeOf3 rfl rfl rfl (hB1.cell (i := 0) rfl) (hB1.free _)) ?_
    refine vl_val (os_assign rfl) ?_
    refine vl_nil ?_
    refine v_ret ?_
    exact post_of (fun a ha => res_ct (t := 4) (t2 := 5) rfl rfl rfl Try.isAgg3 ((hB1.set 0 _).cell (i := 0) rfl) ha) (⟨by simp [longV, hok, errE], below_set b1' (Nat.le_refl _) _ _⟩)
  · obtain ⟨⟨p1, p2⟩, p3, p4, p5, p6⟩ := layOk_parts hok
    refine gives_enter Try.call92 Try.func92 rfl rfl rfl (by kernel_rfl) ?_
    refine v_seq ?_
    refine v_region ?_
    refine vl_val (os_alloc1 Try.zeroValue3 rfl) ?_
    refine vl_val (os_assign rfl) ?_
    refine vl_nil ?_
    refine v_seq ?_
    refine v_seq ?_
    refine v_region ?_
    refine vl_val (os_move rfl) ?_
    refine vl_val (os_move rfl) ?_
    refine vl_call ((lay_Right n A l c rows _ (ha.keep hb0) hl hl').mono fun v w' hh => (⟨by rw [hh.1, hok], hh.2⟩ : v = .bool true ∧ Below _ _ w')) rfl ?_
    rintro v1 w1 ⟨rfl, b1⟩
    have hB1 := hB0.keep b1
    have b1' := hb0.trans (b1.mono hb0.size)
    refine vl_val (os_not rfl) ?_
    refine vl_nil ?_
    refine v_cond_f rfl ?_
    refine v_skip ?_
    refine v_range_seq ?_
    refine v_region ?_
    refine vl_val (os_move rfl) ?_
    refine vl_call (lay_stripes A l c w1) rfl ?_
    rintro v2 w2 ⟨rfl, rfl⟩
    obtain ⟨p, hp⟩ : ∃ p, p = w1.heap.size := ⟨_, rfl⟩
    obtain ⟨w2, hw2⟩ : ∃ w2, w2 = w1.alloc (.cells [Value.slice A l c].toArray 63) := ⟨_, rfl⟩
    have P1 : Bk w2 p [.slice A l c] 63 := by rw [hw2, hp]; exact bk_new w1 _ _
    have hB2 : Bk w2 w.heap.size [.int .i64 0] 3 := by rw [hw2]; exact hB1.alloc _
    have b2 : Below w.heap.size w w2 := by rw [hw2]; exact b1'.alloc b1'.size _
    have hlt := hB1.lt
    have hw2' : w2 = w1.alloc (.cells #[.slice A l c] 63) := hw2
    rw [← hw2', ← hp]
    refine vl_nil ?_
    refine v_range (l) (fun k => [.int .i64 (offS rows k), .int .i64 (offS rows (k + 1))]) (fun k w' => Bk w' w.heap.size [.int .i64 (offS rows k)] 3 ∧ Bk w' p [.slice A l c] 63 ∧ Below w.heap.size w w') (fun e w' => False) (fun k => [(7, .int .i64 (offS rows (k + 1))), (4, .pointer (some ⟨w.heap.size, 0, none⟩))]) Try.call167 rfl (fun _ => rfl) (fun k W W' ⟨h1, h2, h3⟩ hn => ⟨hn.bk h1, hn.bk h2, hn.below h3 b2.size (Nat.le_refl _)⟩) (fun _ => Abd.no) (⟨hB2, P1, b2⟩) (fun l J Jx W hW hJI hJ hJx hR hJ0 => lay_stripes_fn l p A _ c rows J Jx W (fun k W h => by obtain ⟨h1, h2, h3⟩ := hJI k W h; exact ⟨h2.cell (i := 0) rfl, ha.keep h3⟩) hJ hl (by omega) p6 hR hJ0) ?_ ?_ ?_ (fun _ _ _ _ h => h.elim) (fun _ _ _ _ _ h => h.elim)
    · intro l k w'
      refine v_region ?_
      refine vl_val (os_assign rfl) ?_
      refine vl_nil ?_
      exact ⟨rfl, rfl, ⟨rfl, rfl, trivial⟩⟩
    · rintro l k w' hk ⟨h1, h2, h3⟩
      refine v_block ?_
      refine v_region ?_
      refine vl_val (os_move rfl) ?_
      refine vl_unit (ou_store Try.sizeOf3 rfl rfl rfl (h1.cell (i := 0) rfl) (h1.free _)) ?_
      refine vl_nil ?_
      exact ⟨Kn.set (h1.cell (i := 0) rfl) _, h1.set 0 _, Bk.setOther h2 (by omega) _ _, below_set h3 (Nat.le_refl _) _ _⟩
    · rintro D w' hD hK ⟨h1, h2, h3⟩
      refine v_seq ?_
      refine v_region ?_
      refine vl_val (os_load Try.isAgg3 rfl (h1.cell (i := 0) rfl)) ?_
      refine vl_unit (ou_store Try.sizeOf3 rfl rfl rfl (h1.cell (i := 0) rfl) (h1.free _)) ?_
      have hK' := (Kn.set (B := 0) (h1.cell (i := 0) rfl) (.int .i64 (offS rows l))).block D _ (Nat.zero_le _) hK rfl
      have hN := Nc.put (B := w2.heap.size) (.deferred none) hD hK' rfl
      refine vl_val (os_assign rfl) ?_
      refine vl_nil ?_
      refine v_ret ?_
      exact post_m (fn := Try.f92) (hK') (fun a ha => res_ct (t := 4) (t2 := 5) rfl rfl rfl Try.isAgg3 ((hN.bk (h1.set 0 _)).cell (i := 0) rfl) ha) (⟨by simp [longV, hok, errE, hl], hN.below (below_set h3 (Nat.le_refl _) (0 + 0) _) b2.size (Nat.le_refl _)⟩)
theorem size_Of (n : Int) (A : Option Addr) (l c : Nat) (rows : List (Int × Int)) (w : World) (ha : RdP w 2 A (rows.map rowC)) (hl : l = rows.length) (hl' : l ≤ 9000000000000000) :
    Gives Try.prog 49 #[.int .i64 n, .slice A l c] w fun v w' => v = .tuple #[.int .i64 (ofV n rows), .int .i64 (errE (layOk n rows))] ∧ Below w.heap.size w w' := by
  refine gives_enter Try.call49 Try.func49 rfl rfl rfl (by kernel_rfl) ?_
  refine v_seq ?_
  refine v_region ?_
  refine vl_val (os_assign rfl) ?_
  refine vl_val (os_assign rfl) ?_
  refine vl_nil ?_
  refine v_seq ?_
  refine v_region ?_
  refine vl_val (os_move rfl) ?_
  refine vl_val (os_move rfl) ?_
  refine vl_call (lay_Long n A l c rows w ha hl hl') rfl ?_
  rintro v1 w1 ⟨rfl, b1⟩
  refine vl_val (os_move rfl) ?_
  refine vl_val (os_extract rfl rfl) ?_
  refine vl_val (os_extract rfl rfl) ?_
  refine vl_val (os_assign rfl) ?_
  refine vl_val (os_assign rfl) ?_
  refine vl_nil ?_
  cases hok : layOk n rows
  · refine v_seq ?_
    refine v_seq ?_
    refine v_region ?_
    refine vl_val (os_move rfl) ?_
    refine vl_val (os_neq rfl rfl) ?_
    refine vl_nil ?_
    refine v_cond_yes rfl (by decide) ?_
    refine v_seq ?_
    refine v_region ?_
    refine vl_val (os_move rfl) ?_
    refine vl_val (os_assign rfl) ?_
    refine vl_val (os_assign rfl) ?_
    refine vl_nil ?_
    refine v_ret ?_
    exact post_ret2 rfl rfl rfl (⟨by simp [ofV, hok, errE], b1⟩)
  · have hb := offS_bd (rows := rows) rows.length
    obtain ⟨-, p3, p4, -, -⟩ := layOk_parts hok
    rw [show longV n rows = offS rows rows.length by simp [longV, hok]]
    refine v_seq ?_
    refine v_seq ?_
    refine v_region ?_
    refine vl_val (os_move rfl) ?_
    refine vl_val (os_neq rfl rfl) ?_
    refine vl_nil ?_
    refine v_cond_no rfl (by decide) ?_
    refine v_skip ?_
    refine v_seq ?_
    refine v_region ?_
    refine vl_val (os_move rfl) ?_
    refine vl_val (os_len Try.underlying63 rfl) ?_
    refine vl_val (os_muli rfl rfl (by omega)) ?_
    refine vl_val (os_addi rfl rfl (by omega)) ?_
    refine vl_val (os_move rfl) ?_
    refine vl_val (os_addi rfl rfl (by omega)) ?_
    refine vl_val (os_assign rfl) ?_
    refine vl_val (os_assign rfl) ?_
    refine vl_nil ?_
    refine v_ret ?_
    exact post_ret2 rfl rfl rfl (⟨by simp [ofV, hok, errE, hl], b1⟩)
end Go.Proofs.Ytpojijnjdlnokaa

/- Layer 14: the program's headers: whether one is right; a header's datagram. -/
namespace Go.Proofs.Ytpojijnjdlnokaa
open Go.RowKit
set_option linter.unusedVariables false

theorem hd_between (a b c : Int) (w : World) : Gives Try.prog 127 #[.int .i64 a, .int .i64 b, .int .i64 c] w fun v w' => v = .bool (betw a b c) ∧ w' = w := by
  refine gives_enter Try.call127 Try.func127 rfl rfl rfl (by kernel_rfl) ?_
  by_cases h : b ≤ a
  · refine v_seq ?_
    refine v_region ?_
    refine vl_val (os_assign rfl) ?_
    refine vl_nil ?_
    refine v_seq ?_
    refine v_region ?_
    refine vl_val (os_move rfl) ?_
    refine vl_val (os_move rfl) ?_
    refine vl_val (os_t (os_geq rfl rfl) (by omega)) ?_
    refine vl_val (os_move rfl) ?_
    refine vl_valg rfl (os_move rfl) ?_
    refine vl_valg rfl (os_move rfl) ?_
    refine vl_valg rfl (os_leq rfl rfl) ?_
    refine vl_val (os_pick_t rfl rfl) ?_
    refine vl_val (os_assign rfl) ?_
    refine vl_nil ?_
    refine v_ret ?_
    exact post_ret rfl rfl (⟨by simp [betw, h], rfl⟩)
  · refine v_seq ?_
    refine v_region ?_
    refine vl_val (os_assign rfl) ?_
    refine vl_nil ?_
    refine v_seq ?_
    refine v_region ?_
    refine vl_val (os_move rfl) ?_
    refine vl_val (os_move rfl) ?_
    refine vl_val (os_f (os_geq rfl rfl) (by omega)) ?_
    refine vl_val (os_move rfl) ?_
    refine vl_skip rfl rfl ?_
    refine vl_skip rfl rfl ?_
    refine vl_skip rfl rfl ?_
    refine vl_val (os_pick_f rfl rfl) ?_
    refine vl_val (os_assign rfl) ?_
    refine vl_nil ?_
    refine v_ret ?_
    exact post_ret rfl rfl (⟨by simp [betw, h], rfl⟩)
set_option maxHeartbeats 2000000 in
theorem hd_Right (d : HeadV) (w : World) (hd : HeadOk w d) : Gives Try.prog 78 #[.agg d.cells.toArray] w fun v w' => v = .bool (rightH d.q) ∧ Below w.heap.size w w' := by
  have hl := hd.2.1
  have hl9 := hd.2.2.1
  have hB0 := bk_new w d.cells 65
  have hb0 : Below w.heap.size w (w.alloc (.cells d.cells.toArray 65)) := (Below.refl _ w).alloc (Nat.le_refl _) _
  have hd0 := hd.keep hb0
  refine gives_enter Try.call78 Try.func78 rfl rfl rfl (by kernel_rfl) ?_
  cases c1 : layOk d.q.n d.q.rows
  · refine v_seq ?_
    refine v_region ?_
    refine vl_val (os_box rfl) ?_
    refine vl_val (os_assign rfl) ?_
    refine vl_nil ?_
    refine v_seq ?_
    refine v_block ?_
    refine v_seq ?_
    refine v_seq ?_
    refine v_region ?_
    refine vl_val (os_fa (o := 3) (k := 0) (by kernel_rfl) rfl) ?_
    refine vl_val (os_load Try.isAgg3 rfl (hB0.cell (i := 3) rfl)) ?_
    refine vl_val (os_fa (o := 5) (k := 0) (by kernel_rfl) rfl) ?_
    refine vl_val (os_load Try.isAgg63 rfl (hB0.cell (i := 5) rfl)) ?_
    refine vl_call (gives_boolb (lay_Right d.q.n d.A d.l d.c d.q.rows _ hd0.1 hl (by omega)) c1) rfl ?_
    rintro v1 w1 ⟨rfl, b1⟩
    refine vl_val (os_not rfl) ?_
    refine vl_val (os_assign rfl) ?_
    refine vl_nil ?_
    refine v_cond_t rfl ?_
    refine v_skip ?_
    refine v_cond_t rfl ?_
    refine v_seq ?_
    refine v_region ?_
    refine vl_val (os_assign rfl) ?_
    refine vl_nil ?_
    refine v_ret ?_
    exact post_ret rfl rfl (⟨by unfold rightH; rw [c1]; rfl, hb0.trans (b1.mono hb0.size)⟩)
  · obtain ⟨n1, -, -, -, -⟩ := layOk_parts c1
    refine v_seq ?_
    refine v_region ?_
    refine vl_val (os_box rfl) ?_
    refine vl_val (os_assign rfl) ?_
    refine vl_nil ?_
    refine v_seq ?_
    refine v_block ?_
    refine v_seq ?_
    refine v_seq ?_
    refine v_region ?_
    refine vl_val (os_fa (o := 3) (k := 0) (by kernel_rfl) rfl) ?_
    refine vl_val (os_load Try.isAgg3 rfl (hB0.cell (i := 3) rfl)) ?_
    refine vl_val (os_fa (o := 5) (k := 0) (by kernel_rfl) rfl) ?_
    refine vl_val (os_load Try.isAgg63 rfl (hB0.cell (i := 5) rfl)) ?_
    refine vl_call (gives_boolb (lay_Right d.q.n d.A d.l d.c d.q.rows _ hd0.1 hl (by omega)) c1) rfl ?_
    rintro v1 w1 ⟨rfl, b1⟩
    have hB1 := hB0.keep b1
    have b1w := hb0.trans (b1.mono hb0.size)
    refine vl_val (os_not rfl) ?_
    refine vl_val (os_assign rfl) ?_
    refine vl_nil ?_
    cases c2 : betw d.q.ix 0 (d.q.n - 1)
    · refine v_cond_f rfl ?_
      refine v_region ?_
      refine vl_val (os_fa (o := 2) (k := 0) (by kernel_rfl) rfl) ?_
      refine vl_val (os_load Try.isAgg3 rfl (hB1.cell (i := 2) rfl)) ?_
      refine vl_val (os_fa (o := 3) (k := 0) (by kernel_rfl) rfl) ?_
      refine vl_val (os_load Try.isAgg3 rfl (hB1.cell (i := 3) rfl)) ?_
      refine vl_val (os_subi rfl rfl (by omega)) ?_
      refine vl_call (gives_bool (hd_between d.q.ix 0 (d.q.n - 1) _) c2) rfl ?_
      rintro v2 w2 ⟨rfl, rfl⟩
      refine vl_val (os_not rfl) ?_
      refine vl_val (os_assign rfl) ?_
      refine vl_nil ?_
      refine v_cond_t rfl ?_
      refine v_seq ?_
      refine v_region ?_
      refine vl_val (os_assign rfl) ?_
      refine vl_nil ?_
      refine v_ret ?_
      exact post_ret rfl rfl (⟨by unfold rightH; rw [c1, c2]; rfl, b1w⟩)
    · refine v_cond_f rfl ?_
      refine v_region ?_
      refine vl_val (os_fa (o := 2) (k := 0) (by kernel_rfl) rfl) ?_
      refine vl_val (os_load Try.isAgg3 rfl (hB1.cell (i := 2) rfl)) ?_
      refine vl_val (os_fa (o := 3) (k := 0) (by kernel_rfl) rfl) ?_
      refine vl_val (os_load Try.isAgg3 rfl (hB1.cell (i := 3) rfl)) ?_
      refine vl_val (os_subi rfl rfl (by omega)) ?_
      refine vl_call (gives_bool (hd_between d.q.ix 0 (d.q.n - 1) _) c2) rfl ?_
      rintro v2 w2 ⟨rfl, rfl⟩
      refine vl_val (os_not rfl) ?_
      refine vl_val (os_assign rfl) ?_
      refine vl_nil ?_
      cases c3 : betw d.q.st 0 65535
      · refine v_cond_f rfl ?_
        refine v_skip ?_
        refine v_seq ?_
        refine v_region ?_
        refine vl_val (os_fa (o := 0) (k := 0) (by kernel_rfl) rfl) ?_
        refine vl_val (os_load Try.isAgg3 rfl (hB1.cell (i := 0) rfl)) ?_
        refine vl_call (gives_bool (hd_between d.q.st 0 65535 _) c3) rfl ?_
        rintro v3 w3 ⟨rfl, rfl⟩
        refine vl_val (os_move rfl) ?_
        refine vl_skip rfl rfl ?_
        refine vl_skip rfl rfl ?_
        refine vl_skip rfl rfl ?_
        refine vl_val (os_pick_f rfl rfl) ?_
        refine vl_val (os_move rfl) ?_
        refine vl_skip rfl rfl ?_
        refine vl_skip rfl rfl ?_
        refine vl_skip rfl rfl ?_
        refine vl_val (os_pick_f rfl rfl) ?_
        refine vl_val (os_assign rfl) ?_
        refine vl_nil ?_
        refine v_ret ?_
        exact post_ret rfl rfl (⟨by unfold rightH; rw [c1, c2, c3]; rfl, b1w⟩)
      · cases c4 : betw d.q.fr 1 2147483647
        · refine v_cond_f rfl ?_
          refine v_skip ?_
          refine v_seq ?_
          refine v_region ?_
          refine vl_val (os_fa (o := 0) (k := 0) (by kernel_rfl) rfl) ?_
          refine vl_val (os_load Try.isAgg3 rfl (hB1.cell (i := 0) rfl)) ?_
          refine vl_call (gives_bool (hd_between d.q.st 0 65535 _) c3) rfl ?_
          rintro v3 w3 ⟨rfl, rfl⟩
          refine vl_val (os_move rfl) ?_
          refine vl_valg rfl (os_fa (o := 1) (k := 0) (by kernel_rfl) rfl) ?_
          refine vl_valg rfl (os_load Try.isAgg3 rfl (hB1.cell (i := 1) rfl)) ?_
          refine vl_callg rfl (gives_bool (hd_between d.q.fr 1 2147483647 _) c4) rfl ?_
          rintro v4 w4 ⟨rfl, rfl⟩
          refine vl_val (os_pick_t rfl rfl) ?_
          refine vl_val (os_move rfl) ?_
          refine vl_skip rfl rfl ?_
          refine vl_skip rfl rfl ?_
          refine vl_skip rfl rfl ?_
          refine vl_val (os_pick_f rfl rfl) ?_
          refine vl_val (os_assign rfl) ?_
          refine vl_nil ?_
          refine v_ret ?_
          exact post_ret rfl rfl (⟨by unfold rightH; rw [c1, c2, c3, c4]; rfl, b1w⟩)
        · refine v_cond_f rfl ?_
          refine v_skip ?_
          refine v_seq ?_
          refine v_region ?_
          refine vl_val (os_fa (o := 0) (k := 0) (by kernel_rfl) rfl) ?_
          refine vl_val (os_load Try.isAgg3 rfl (hB1.cell (i := 0) rfl)) ?_
          refine vl_call (gives_bool (hd_between d.q.st 0 65535 _) c3) rfl ?_
          rintro v3 w3 ⟨rfl, rfl⟩
          refine vl_val (os_move rfl) ?_
          refine vl_valg rfl (os_fa (o := 1) (k := 0) (by kernel_rfl) rfl) ?_
          refine vl_valg rfl (os_load Try.isAgg3 rfl (hB1.cell (i := 1) rfl)) ?_
          refine vl_callg rfl (gives_bool (hd_between d.q.fr 1 2147483647 _) c4) rfl ?_
          rintro v4 w4 ⟨rfl, rfl⟩
          refine vl_val (os_pick_t rfl rfl) ?_
          refine vl_val (os_move rfl) ?_
          refine vl_valg rfl (os_fa (o := 4) (k := 0) (by kernel_rfl) rfl) ?_
          refine vl_valg rfl (os_load Try.isAgg3 rfl (hB1.cell (i := 4) rfl)) ?_
          refine vl_callg rfl (hd_between d.q.dl 0 2147483647 _) rfl ?_
          rintro v5 w5 ⟨rfl, rfl⟩
          refine vl_val (os_pick_t rfl rfl) ?_
          refine vl_val (os_assign rfl) ?_
          refine vl_nil ?_
          refine v_ret ?_
          exact post_ret rfl rfl (⟨by unfold rightH; rw [c1, c2, c3, c4]; rfl, b1w⟩)
def fldB (fs : List (Int × Int)) : List Int := fs.flatMap fun x => numBytes x.1 x.2.toNat
theorem fldB_succ {fs : List (Int × Int)} {i : Nat} (hi : i < fs.length) : fldB (fs.take (i + 1)) = fldB (fs.take i) ++ numBytes (fs.getD i (0, 0)).1 (fs.getD i (0, 0)).2.toNat := by
  have e : fs.getD i (0, 0) = fs[i] := by simp [hi]
  unfold fldB
  rw [List.take_succ_eq_append_getElem hi, List.flatMap_append, e]; simp
theorem fldB_len (fs : List (Int × Int)) (h : ∀ x ∈ fs, x.2 ≤ 4) : (fldB fs).length ≤ 4 * fs.length := by
  induction fs with
  | nil => simp [fldB]
  | cons x r ih =>
    have h1 := ih fun y hy => h y (by simp [hy])
    have h2 := h x (by simp)
    show (numBytes x.1 x.2.toNat ++ fldB r).length ≤ _
    rw [List.length_append, numBytes_len, List.length_cons]; omega
theorem WrS.low' {w B t g v bs e} (h : WrS w B t g v bs e) : ∀ k ∈ WrS.blocks g v, B ≤ k ∧ k < w.heap.size := by
  intro k hk
  rcases List.mem_cons.1 hk with rfl | hk
  · exact ⟨h.low, h.bk.lt⟩
  · exact World.ownsRow.lt h.own k (by simpa using hk)
theorem WrS.below' {w w' B t g v bs e} (h : WrS w B t g v bs e) (hk : Kb (WrS.blocks g v) w w') : Below B w w' :=
  ⟨hk.os, hk.tape, hk.output, hk.size, fun k hk2 => by
    have h1 := h.bk.lt
    have h2 := h.low
    exact hk.block k (by omega) fun hm => by have := (h.low' k hm).1; omega⟩
theorem WrS.other {w B t g v bs e} (h : WrS w B t g v bs e) {p : Nat} {cs : List Value} {t' : TypeId} (hp : Bk w p cs t') (h1 : t' ≠ t) (h2 : t' ≠ 5) : p ∉ WrS.blocks g v := by
  intro hm
  rcases List.mem_cons.1 hm with rfl | hk
  · have hb := h.bk
    unfold Bk at hb hp
    rw [hb] at hp
    injection hp with hp
    injection hp with _ hp
    exact h1 hp.symm
  · have hk : v.ownBlock = some p := by simpa using hk
    rcases h.own.2 with ⟨h1', _⟩ | ⟨g', cap, cur, h1', _, hg', _⟩
    · rw [h1'] at hk; cases hk
    · rw [h1'] at hk
      injection hk with hk
      simp only [] at hk
      subst hk
      unfold Bk at hp
      rw [hg'] at hp
      injection hp with hp
      injection hp with _ hp
      exact h2 hp.symm
set_option maxHeartbeats 2000000 in
theorem hd_all (B g : Nat) (v : Value) (bs : List Int) (L n c : Nat) (fs : List (Int × Int)) (w : World) (hw : WrS w B 216 g v bs 0) (ha : RdP w 2 (some ⟨L, 0, none⟩) (fs.map rowC)) (hn : n = fs.length) (hL : L ∉ WrS.blocks g v) (hL2 : L < w.heap.size)
    (hB : B ≤ w.heap.size) (hl : bs.length + 4 * n ≤ 10000000) (hf : ∀ x ∈ fs, nfitB x.1 x.2 = true ∧ x.2 ≤ 4) :
    Gives Try.prog 122 #[.agg #[.pointer (some ⟨g, 0, none⟩)], .slice (some ⟨L, 0, none⟩) n c] w fun u w' => ∃ v', WrS w' B 216 g v' (bs ++ fldB fs) 0 ∧ Kb (WrS.blocks g v) w w' := by
  have hR0 := bk_new w [.pointer (some ⟨g, 0, none⟩)] 163
  have b0 : Below w.heap.size w (w.alloc (.cells [Value.pointer (some ⟨g, 0, none⟩)].toArray 163)) := (Below.refl _ w).alloc (Nat.le_refl _) _
  have hlow := hw.low'
  refine gives_enter Try.call122 Try.func122 rfl rfl rfl (by kernel_rfl) ?_
  refine v_seq ?_
  refine v_region ?_
  refine vl_val (os_box rfl) ?_
  refine vl_nil ?_
  refine v_seq ?_
  refine v_region ?_
  refine vl_val (os_move rfl) ?_
  refine vl_val (os_len Try.underlying217 rfl) ?_
  refine vl_val (os_move rfl) ?_
  refine vl_nil ?_
  refine v_block ?_
  refine v_loop [(2, _), (6, _), (7, _)] (fun (i : Nat) => [(8, .int .i64 i)]) (fun i w' => i ≤ n ∧ Bk w' w.heap.size [.pointer (some ⟨g, 0, none⟩)] 163 ∧ ∃ v', WrS w' B 216 g v' (bs ++ fldB (fs.take i)) 0 ∧ Kb (WrS.blocks g v) w w' ∧ (v'.ownBlock = v.ownBlock ∨ ∃ h, v'.ownBlock = some h ∧ w.heap.size ≤ h)) (fun i => n - i) (0) ⟨rfl, rfl, rfl, trivial⟩ ⟨rfl, trivial⟩ (⟨by omega, hR0, v, by have h := hw.keep b0; simp only [List.take_zero, fldB, List.flatMap_nil, List.append_nil]; exact h, Kb.of_below b0, .inl rfl⟩) ?_
  rintro i w1 ⟨hi, hR1, v1, hw1, k1, r1⟩
  refine v_seq ?_
  refine v_region ?_
  refine vl_val (os_lss rfl rfl) ?_
  refine vl_nil ?_
  refine v_seq ?_
  refine v_cond_d rfl (fun h => ?_) (fun h => ?_)
  · have ha1 := ha.blk (w' := w1) fun a e => by cases e; exact k1.block L hL2 hL
    obtain ⟨b, o, eA, q1, q2, q3⟩ := ha1.at2 (i := i) (by omega)
    cases eA
    have hz := hf (fs.getD i (0, 0)) (by rw [List.getD_eq_getElem?_getD, List.getElem?_eq_getElem (by omega)]; exact List.getElem_mem _)
    have hlen : (bs ++ fldB (fs.take i)).length ≤ 10000000 := by rw [List.length_append]; have := fldB_len (fs.take i) (fun x hx => (hf x (List.mem_of_mem_take hx)).2); rw [List.length_take] at this; omega
    obtain ⟨X, hX⟩ : ∃ X, (fs.getD i (0, 0)).1 = X := ⟨_, rfl⟩
    obtain ⟨Y, hY⟩ : ∃ Y, (fs.getD i (0, 0)).2 = Y := ⟨_, rfl⟩
    have hsu := fldB_succ (fs := fs) (i := i) (by omega)
    unfold rowC at q3
    rw [hX, hY] at q3 hz hsu
    refine v_skip ?_
    refine v_seq ?_
    refine v_block ?_
    refine v_seq ?_
    refine v_region ?_
    refine vl_val (os_ixs Try.underlying217 Try.sizeOf166 rfl rfl (i := i) (by omega) (by omega)) ?_
    refine vl_val (os_loadP Try.underlying166 rfl (by kernel_rfl) rfl q3) ?_
    refine vl_val (os_allocB Try.zeroValue166 (zc := _) (cs := [.int .i64 0, .int .i64 0]) rfl) ?_
    have hC0 := bk_new w1 [.int .i64 0, .int .i64 0] 166
    have c1 : Below w1.heap.size w1 (w1.alloc (.cells [Value.int .i64 0, .int .i64 0].toArray 166)) := (Below.refl _ _).alloc (Nat.le_refl _) _
    refine vl_unit (ou_storeB (by kernel_rfl) rfl rfl hC0 rfl rfl) ?_
    have hC2 := setRow_bk hC0 [.int .i64 X, .int .i64 Y]
    have c2 := below_setRow c1 (Nat.le_refl _) [Value.int .i64 X, .int .i64 Y].toArray
    have s1 := k1.size
    have hw2 := hw1.keep c2
    have hR2 := hR1.keep c2
    refine vl_nil ?_
    refine v_region ?_
    refine vl_val (os_fa (o := 0) (k := 0) (by kernel_rfl) rfl) ?_
    refine vl_val (os_load Try.isAgg160 rfl (hR2.cell (i := 0) rfl)) ?_
    refine vl_val (os_fa (o := 0) (k := 0) (by kernel_rfl) rfl) ?_
    refine vl_val (os_load Try.isAgg3 rfl (hC2.cell (i := 0) rfl)) ?_
    refine vl_val (os_fa (o := 1) (k := 0) (by kernel_rfl) rfl) ?_
    refine vl_val (os_load Try.isAgg3 rfl (hC2.cell (i := 1) rfl)) ?_
    refine vl_call (pk_Number g v1 _ 0 X Y B _ hw2 (by have := c2.size; omega) (by omega)) rfl ?_
    rintro u3 w3 ⟨v3, hw3, k3, r3⟩
    have e2 : wrErr 0 X Y = 0 := by unfold wrErr; rw [hz.1]; rfl
    have e3 : wrBytes (bs ++ fldB (fs.take i)) 0 X Y = bs ++ fldB (fs.take (i + 1)) := by unfold wrBytes; rw [if_pos ⟨rfl, hz.1⟩, hsu, List.append_assoc]
    rw [e2, e3] at hw3
    have hR3 := hR2.kb k3 (hw2.other hR2 (by decide) (by decide))
    have hbo := blocks_ok (g := g) r1
    have hsz := c2.size
    refine vl_nil ?_
    refine v_region ?_
    refine vl_val (os_addi rfl rfl (by omega)) ?_
    refine vl_val (os_move rfl) ?_
    refine vl_nil ?_
    exact ⟨i + 1, ⟨rfl, rfl, rfl, trivial⟩, ⟨rfl, trivial⟩, ⟨by omega, hR3, v3, hw3, (k1.trans (Kb.of_below (S := WrS.blocks g v) c2) (fun k hk => .inl hk)).trans k3 hbo, by rcases r3 with e | ⟨x, e, hx⟩; (rw [e]; exact r1); (exact .inr ⟨x, e, by omega⟩)⟩, by dsimp only; omega⟩
  · obtain rfl : n = i := by omega
    rw [List.take_of_length_le (by omega)] at hw1
    refine v_exit ?_
    exact post_end0 rfl (⟨v1, hw1, k1⟩)
end Go.Proofs.Ytpojijnjdlnokaa
