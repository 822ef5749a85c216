/- Layers 10, 11: lay.Right, lay.Long over its iterator; size.Of. -/
import Derived.Test.YtpjmiafefammkaaLyP
import Derived.Test.YtpjmiafefammkaaTb
import Derived.Test.YtpjmiafefammkaaTy
import Derived.Test.YtpjmiafefammkaaSz
import Derived.Test.YtpjmiafefammkaaCrc
namespace Go.Proofs.Ytpjmiafefammkaa
open Go.RowKit
set_option linter.unusedVariables false

theorem lay_Right (n : Int) (A : Option Addr) (l c : Nat) (rows : List (Int × Int)) (w : World) (ha : RdP w 2 A (rows.map rowC)) (hl : l = rows.length) (hl' : l ≤ 9000000000000000) :
    Gives Try.prog 97 #[.int .i64 n, .slice A l c] w fun v w' => v = .bool (layOk n rows) ∧ Below w.heap.size w w' := by
  by_cases hin : 1 ≤ n ∧ n ≤ 255 ∧ 1 ≤ l ∧ l ≤ 8
  · obtain ⟨h1, h2, h3, h4⟩ := hin
    have e0 : layOk n rows = layGo n 1 rows := by simp only [layOk]; rw [decide_eq_true (by omega)]; simp
    rw [e0]
    refine gives_enter Try.call97 Try.func97 rfl rfl rfl (by kernel_rfl) ?_
    refine v_seq ?_
    refine v_region ?_
    refine vl_val (os_assign rfl) ?_
    refine vl_nil ?_
    refine v_seq ?_
    refine v_seq ?_
    refine v_region ?_
    refine vl_val (os_move rfl) ?_
    refine vl_val (os_f (os_lss rfl rfl) (by omega)) ?_
    refine vl_val (os_move rfl) ?_
    refine vl_valg rfl (os_move rfl) ?_
    refine vl_valg rfl (os_f (os_gtr rfl rfl) (by omega)) ?_
    refine vl_val (os_pick_f rfl rfl) ?_
    refine vl_val (os_move rfl) ?_
    refine vl_valg rfl (os_move rfl) ?_
    refine vl_valg rfl (os_len Try.underlying79 rfl) ?_
    refine vl_valg rfl (os_f (os_lss rfl rfl) (by omega)) ?_
    refine vl_val (os_pick_f rfl rfl) ?_
    refine vl_val (os_move rfl) ?_
    refine vl_valg rfl (os_move rfl) ?_
    refine vl_valg rfl (os_len Try.underlying79 rfl) ?_
    refine vl_valg rfl (os_gtr rfl rfl) ?_
    refine vl_val (os_pick_f rfl rfl) ?_
    refine vl_nil ?_
    refine v_cond_no rfl (by omega) ?_
    refine v_skip ?_
    refine v_seq ?_
    refine v_region ?_
    refine vl_val (os_assign rfl) ?_
    refine vl_nil ?_
    refine v_seq ?_
    refine v_seq ?_
    refine v_region ?_
    refine vl_val (os_move rfl) ?_
    refine vl_val (os_len Try.underlying79 rfl) ?_
    refine vl_val (os_move rfl) ?_
    refine vl_nil ?_
    refine v_block ?_
    refine v_loop [(0, _), (24, _), (25, _)] (fun (i : Nat) => [(5, .int .i64 (prevK rows i)), (26, .int .i64 i)]) (fun i w' => i ≤ l ∧ layGo n 1 rows = layGo n (prevK rows i) (rows.drop i) ∧ Below w.heap.size w w') (fun i => l - i) (0) ⟨rfl, rfl, rfl, trivial⟩ ⟨rfl, rfl, trivial⟩ (⟨by omega, rfl, Below.refl _ _⟩) ?_
    rintro i w1 ⟨hi, hg, b1⟩
    refine v_seq ?_
    refine v_region ?_
    refine vl_val (os_lss rfl rfl) ?_
    refine vl_nil ?_
    refine v_seq ?_
    refine v_cond_d rfl (fun h => ?_) (fun h => ?_)
    · obtain ⟨b, o, rfl, q1, q2, q3⟩ := (show RdP w1 2 A (rows.map rowC) from ha.keep b1).at2 (i := i) (by omega)
      have hst := layGo_step (n := n) (rows := rows) (i := i) (by omega)
      refine v_skip ?_
      refine v_seq ?_
      refine v_block ?_
      refine v_seq ?_
      refine v_region ?_
      refine vl_val (os_ixs Try.underlying79 Try.sizeOf78 rfl rfl (i := i) (by omega) (by omega)) ?_
      refine vl_val (os_loadP Try.underlying78 rfl (by kernel_rfl) rfl q3) ?_
      refine vl_val (os_allocB Try.zeroValue78 (zc := _) (cs := [.int .i64 0, .int .i64 0]) rfl) ?_
      have hB0 := bk_new w1 [.int .i64 0, .int .i64 0] 78
      have b2 := b1.alloc b1.size (.cells [Value.int .i64 0, .int .i64 0].toArray 78)
      refine vl_unit (ou_storeB (by kernel_rfl) rfl rfl hB0 rfl rfl) ?_
      have hB := setRow_bk hB0 (rowC (rows.getD i (0, 0)))
      have b3 := below_setRow b2 b1.size (rowC (rows.getD i (0, 0))).toArray
      refine vl_nil ?_
      rcases (by unfold rowGood; omega : (rows.getD i (0, 0)).1 < prevK rows i ∨ (prevK rows i ≤ (rows.getD i (0, 0)).1 ∧ n < (rows.getD i (0, 0)).1) ∨ (prevK rows i ≤ (rows.getD i (0, 0)).1 ∧ (rows.getD i (0, 0)).1 ≤ n ∧ (rows.getD i (0, 0)).2 < 0) ∨ (prevK rows i ≤ (rows.getD i (0, 0)).1 ∧ (rows.getD i (0, 0)).1 ≤ n ∧ 0 ≤ (rows.getD i (0, 0)).2 ∧ 65535 < (rows.getD i (0, 0)).2) ∨ rowGood n (prevK rows i) (rows.getD i (0, 0))) with g | ⟨g, g2⟩ | ⟨g, g2, g3⟩ | ⟨g, g2, g3, g4⟩ | g
      · refine v_seq ?_
        refine v_seq ?_
        refine v_region ?_
        refine vl_val (os_fa (o := 0) (k := 0) (by kernel_rfl) rfl) ?_
        refine vl_val (os_load Try.isAgg3 rfl (hB.cell rfl)) ?_
        refine vl_val (os_move rfl) ?_
        refine vl_val (os_t (os_lss rfl rfl) (by omega)) ?_
        refine vl_val (os_move rfl) ?_
        refine vl_skip rfl rfl ?_
        refine vl_skip rfl rfl ?_
        refine vl_skip rfl rfl ?_
        refine vl_skip rfl rfl ?_
        refine vl_val (os_pick_t rfl rfl) ?_
        refine vl_val (os_move rfl) ?_
        refine vl_skip rfl rfl ?_
        refine vl_skip rfl rfl ?_
        refine vl_skip rfl rfl ?_
        refine vl_val (os_pick_t rfl rfl) ?_
        refine vl_val (os_move rfl) ?_
        refine vl_skip rfl rfl ?_
        refine vl_skip rfl rfl ?_
        refine vl_skip rfl rfl ?_
        refine vl_val (os_pick_t rfl rfl) ?_
        refine vl_nil ?_
        refine v_cond_t rfl ?_
        refine v_seq ?_
        refine v_region ?_
        refine vl_val (os_assign rfl) ?_
        refine vl_nil ?_
        refine v_ret ?_
        exact post_ret rfl rfl (⟨by rw [hg, hst, decide_eq_false (by unfold rowGood; omega)]; rfl, b3⟩)
      · refine v_seq ?_
        refine v_seq ?_
        refine v_region ?_
        refine vl_val (os_fa (o := 0) (k := 0) (by kernel_rfl) rfl) ?_
        refine vl_val (os_load Try.isAgg3 rfl (hB.cell rfl)) ?_
        refine vl_val (os_move rfl) ?_
        refine vl_val (os_f (os_lss rfl rfl) (by omega)) ?_
        refine vl_val (os_move rfl) ?_
        refine vl_valg rfl (os_fa (o := 0) (k := 0) (by kernel_rfl) rfl) ?_
        refine vl_valg rfl (os_load Try.isAgg3 rfl (hB.cell rfl)) ?_
        refine vl_valg rfl (os_move rfl) ?_
        refine vl_valg rfl (os_t (os_gtr rfl rfl) (by omega)) ?_
        refine vl_val (os_pick_f rfl rfl) ?_
        refine vl_val (os_move rfl) ?_
        refine vl_skip rfl rfl ?_
        refine vl_skip rfl rfl ?_
        refine vl_skip rfl rfl ?_
        refine vl_val (os_pick_t rfl rfl) ?_
        refine vl_val (os_move rfl) ?_
        refine vl_skip rfl rfl ?_
        refine vl_skip rfl rfl ?_
        refine vl_skip rfl rfl ?_
        refine vl_val (os_pick_t rfl rfl) ?_
        refine vl_nil ?_
        refine v_cond_t rfl ?_
        refine v_seq ?_
        refine v_region ?_
        refine vl_val (os_assign rfl) ?_
        refine vl_nil ?_
        refine v_ret ?_
        exact post_ret rfl rfl (⟨by rw [hg, hst, decide_eq_false (by unfold rowGood; omega)]; rfl, b3⟩)
      · refine v_seq ?_
        refine v_seq ?_
        refine v_region ?_
        refine vl_val (os_fa (o := 0) (k := 0) (by kernel_rfl) rfl) ?_
        refine vl_val (os_load Try.isAgg3 rfl (hB.cell rfl)) ?_
        refine vl_val (os_move rfl) ?_
        refine vl_val (os_f (os_lss rfl rfl) (by omega)) ?_
        refine vl_val (os_move rfl) ?_
        refine vl_valg rfl (os_fa (o := 0) (k := 0) (by kernel_rfl) rfl) ?_
        refine vl_valg rfl (os_load Try.isAgg3 rfl (hB.cell rfl)) ?_
        refine vl_valg rfl (os_move rfl) ?_
        refine vl_valg rfl (os_f (os_gtr rfl rfl) (by omega)) ?_
        refine vl_val (os_pick_f rfl rfl) ?_
        refine vl_val (os_move rfl) ?_
        refine vl_valg rfl (os_fa (o := 1) (k := 0) (by kernel_rfl) rfl) ?_
        refine vl_valg rfl (os_load Try.isAgg3 rfl (hB.cell rfl)) ?_
        refine vl_valg rfl (os_t (os_lss rfl rfl) (by omega)) ?_
        refine vl_val (os_pick_f rfl rfl) ?_
        refine vl_val (os_move rfl) ?_
        refine vl_skip rfl rfl ?_
        refine vl_skip rfl rfl ?_
        refine vl_skip rfl rfl ?_
        refine vl_val (os_pick_t rfl rfl) ?_
        refine vl_nil ?_
        refine v_cond_t rfl ?_
        refine v_seq ?_
        refine v_region ?_
        refine vl_val (os_assign rfl) ?_
        refine vl_nil ?_
        refine v_ret ?_
        exact post_ret rfl rfl (⟨by rw [hg, hst, decide_eq_false (by unfold rowGood; omega)]; rfl, b3⟩)
      · refine v_seq ?_
        refine v_seq ?_
        refine v_region ?_
        refine vl_val (os_fa (o := 0) (k := 0) (by kernel_rfl) rfl) ?_
        refine vl_val (os_load Try.isAgg3 rfl (hB.cell rfl)) ?_
        refine vl_val (os_move rfl) ?_
        refine vl_val (os_f (os_lss rfl rfl) (by omega)) ?_
        refine vl_val (os_move rfl) ?_
        refine vl_valg rfl (os_fa (o := 0) (k := 0) (by kernel_rfl) rfl) ?_
        refine vl_valg rfl (os_load Try.isAgg3 rfl (hB.cell rfl)) ?_
        refine vl_valg rfl (os_move rfl) ?_
        refine vl_valg rfl (os_f (os_gtr rfl rfl) (by omega)) ?_
        refine vl_val (os_pick_f rfl rfl) ?_
        refine vl_val (os_move rfl) ?_
        refine vl_valg rfl (os_fa (o := 1) (k := 0) (by kernel_rfl) rfl) ?_
        refine vl_valg rfl (os_load Try.isAgg3 rfl (hB.cell rfl)) ?_
        refine vl_valg rfl (os_f (os_lss rfl rfl) (by omega)) ?_
        refine vl_val (os_pick_f rfl rfl) ?_
        refine vl_val (os_move rfl) ?_
        refine vl_valg rfl (os_fa (o := 1) (k := 0) (by kernel_rfl) rfl) ?_
        refine vl_valg rfl (os_load Try.isAgg3 rfl (hB.cell rfl)) ?_
        refine vl_valg rfl (os_gtr rfl rfl) ?_
        refine vl_val (os_pick_f rfl rfl) ?_
        refine vl_nil ?_
        refine v_cond_yes rfl (by omega) ?_
        refine v_seq ?_
        refine v_region ?_
        refine vl_val (os_assign rfl) ?_
        refine vl_nil ?_
        refine v_ret ?_
        exact post_ret rfl rfl (⟨by rw [hg, hst, decide_eq_false (by unfold rowGood; omega)]; rfl, b3⟩)
      · have g' := g
        unfold rowGood at g'
        refine v_seq ?_
        refine v_seq ?_
        refine v_region ?_
        refine vl_val (os_fa (o := 0) (k := 0) (by kernel_rfl) rfl) ?_
        refine vl_val (os_load Try.isAgg3 rfl (hB.cell rfl)) ?_
        refine vl_val (os_move rfl) ?_
        refine vl_val (os_f (os_lss rfl rfl) (by omega)) ?_
        refine vl_val (os_move rfl) ?_
        refine vl_valg rfl (os_fa (o := 0) (k := 0) (by kernel_rfl) rfl) ?_
        refine vl_valg rfl (os_load Try.isAgg3 rfl (hB.cell rfl)) ?_
        refine vl_valg rfl (os_move rfl) ?_
        refine vl_valg rfl (os_f (os_gtr rfl rfl) (by omega)) ?_
        refine vl_val (os_pick_f rfl rfl) ?_
        refine vl_val (os_move rfl) ?_
        refine vl_valg rfl (os_fa (o := 1) (k := 0) (by kernel_rfl) rfl) ?_
        refine vl_valg rfl (os_load Try.isAgg3 rfl (hB.cell rfl)) ?_
        refine vl_valg rfl (os_f (os_lss rfl rfl) (by omega)) ?_
        refine vl_val (os_pick_f rfl rfl) ?_
        refine vl_val (os_move rfl) ?_
        refine vl_valg rfl (os_fa (o := 1) (k := 0) (by kernel_rfl) rfl) ?_
        refine vl_valg rfl (os_load Try.isAgg3 rfl (hB.cell rfl)) ?_
        refine vl_valg rfl (os_gtr rfl rfl) ?_
        refine vl_val (os_pick_f rfl rfl) ?_
        refine vl_nil ?_
        refine v_cond_no rfl (by omega) ?_
        refine v_skip ?_
        refine v_region ?_
        refine vl_val (os_fa (o := 0) (k := 0) (by kernel_rfl) rfl) ?_
        refine vl_val (os_load Try.isAgg3 rfl (hB.cell rfl)) ?_
        refine vl_val (os_assign rfl) ?_
        refine vl_nil ?_
        refine v_region ?_
        refine vl_val (os_addi rfl rfl (by omega)) ?_
        refine vl_val (os_move rfl) ?_
        refine vl_nil ?_
        exact ⟨i + 1, ⟨rfl, rfl, rfl, trivial⟩, ⟨rfl, rfl, trivial⟩, ⟨by omega, by rw [hg, hst, decide_eq_true g]; rfl, b3⟩, by dsimp only; omega⟩
    · obtain rfl : l = i := by omega
      refine v_exit ?_
      refine v_seq ?_
      refine v_region ?_
      refine vl_val (os_assign rfl) ?_
      refine vl_nil ?_
      refine v_ret ?_
      exact post_ret rfl rfl (⟨by rw [hg, List.drop_of_length_le (by omega)]; rfl, b1⟩)
  · have e0 : layOk n rows = false := by simp only [layOk]; rw [decide_eq_false (by omega)]; simp
    rw [e0]
    refine gives_enter Try.call97 Try.func97 rfl rfl rfl (by kernel_rfl) ?_
    rcases (by omega : n < 1 ∨ (1 ≤ n ∧ 255 < n) ∨ (1 ≤ n ∧ n ≤ 255 ∧ l < 1) ∨ (1 ≤ n ∧ n ≤ 255 ∧ 1 ≤ l ∧ 8 < l)) with g | ⟨g, g2⟩ | ⟨g, g2, g3⟩ | ⟨g, g2, g3, g4⟩
    · refine v_seq ?_
      refine v_region ?_
      refine vl_val (os_assign rfl) ?_
      refine vl_nil ?_
      refine v_seq ?_
      refine v_seq ?_
      refine v_region ?_
      refine vl_val (os_move rfl) ?_
      refine vl_val (os_t (os_lss rfl rfl) (by omega)) ?_
      refine vl_val (os_move rfl) ?_
      refine vl_skip rfl rfl ?_
      refine vl_skip rfl rfl ?_
      refine vl_val (os_pick_t rfl rfl) ?_
      refine vl_val (os_move rfl) ?_
      refine vl_skip rfl rfl ?_
      refine vl_skip rfl rfl ?_
      refine vl_skip rfl rfl ?_
      refine vl_val (os_pick_t rfl rfl) ?_
      refine vl_val (os_move rfl) ?_
      refine vl_skip rfl rfl ?_
      refine vl_skip rfl rfl ?_
      refine vl_skip rfl rfl ?_
      refine vl_val (os_pick_t rfl rfl) ?_
      refine vl_nil ?_
      refine v_cond_t rfl ?_
      refine v_seq ?_
      refine v_region ?_
      refine vl_val (os_assign rfl) ?_
      refine vl_nil ?_
      refine v_ret ?_
      exact post_ret rfl rfl (⟨rfl, Below.refl _ _⟩)
    · refine v_seq ?_
      refine v_region ?_
      refine vl_val (os_assign rfl) ?_
      refine vl_nil ?_
      refine v_seq ?_
      refine v_seq ?_
      refine v_region ?_
      refine vl_val (os_move rfl) ?_
      refine vl_val (os_f (os_lss rfl rfl) (by omega)) ?_
      refine vl_val (os_move rfl) ?_
      refine vl_valg rfl (os_move rfl) ?_
      refine vl_valg rfl (os_t (os_gtr rfl rfl) (by omega)) ?_
      refine vl_val (os_pick_f rfl rfl) ?_
      refine vl_val (os_move rfl) ?_
      refine vl_skip rfl rfl ?_
      refine vl_skip rfl rfl ?_
      refine vl_skip rfl rfl ?_
      refine vl_val (os_pick_t rfl rfl) ?_
      refine vl_val (os_move rfl) ?_
      refine vl_skip rfl rfl ?_
      refine vl_skip rfl rfl ?_
      refine vl_skip rfl rfl ?_
      refine vl_val (os_pick_t rfl rfl) ?_
      refine vl_nil ?_
      refine v_cond_t rfl ?_
      refine v_seq ?_
      refine v_region ?_
      refine vl_val (os_assign rfl) ?_
      refine vl_nil ?_
      refine v_ret ?_
      exact post_ret rfl rfl (⟨rfl, Below.refl _ _⟩)
    · refine v_seq ?_
      refine v_region ?_
      refine vl_val (os_assign rfl) ?_
      refine vl_nil ?_
      refine v_seq ?_
      refine v_seq ?_
      refine v_region ?_
      refine vl_val (os_move rfl) ?_
      refine vl_val (os_f (os_lss rfl rfl) (by omega)) ?_
      refine vl_val (os_move rfl) ?_
      refine vl_valg rfl (os_move rfl) ?_
      refine vl_valg rfl (os_f (os_gtr rfl rfl) (by omega)) ?_
      refine vl_val (os_pick_f rfl rfl) ?_
      refine vl_val (os_move rfl) ?_
      refine vl_valg rfl (os_move rfl) ?_
      refine vl_valg rfl (os_len Try.underlying79 rfl) ?_
      refine vl_valg rfl (os_t (os_lss rfl rfl) (by omega)) ?_
      refine vl_val (os_pick_f rfl rfl) ?_
      refine vl_val (os_move rfl) ?_
      refine vl_skip rfl rfl ?_
      refine vl_skip rfl rfl ?_
      refine vl_skip rfl rfl ?_
      refine vl_val (os_pick_t rfl rfl) ?_
      refine vl_nil ?_
      refine v_cond_t rfl ?_
      refine v_seq ?_
      refine v_region ?_
      refine vl_val (os_assign rfl) ?_
      refine vl_nil ?_
      refine v_ret ?_
      exact post_ret rfl rfl (⟨rfl, Below.refl _ _⟩)
    · refine v_seq ?_
      refine v_region ?_
      refine vl_val (os_assign rfl) ?_
      refine vl_nil ?_
      refine v_seq ?_
      refine v_seq ?_
      refine v_region ?_
      refine vl_val (os_move rfl) ?_
      refine vl_val (os_f (os_lss rfl rfl) (by omega)) ?_
      refine vl_val (os_move rfl) ?_
      refine vl_valg rfl (os_move rfl) ?_
      refine vl_valg rfl (os_f (os_gtr rfl rfl) (by omega)) ?_
      refine vl_val (os_pick_f rfl rfl) ?_
      refine vl_val (os_move rfl) ?_
      refine vl_valg rfl (os_move rfl) ?_
      refine vl_valg rfl (os_len Try.underlying79 rfl) ?_
      refine vl_valg rfl (os_f (os_lss rfl rfl) (by omega)) ?_
      refine vl_val (os_pick_f rfl rfl) ?_
      refine vl_val (os_move rfl) ?_
      refine vl_valg rfl (os_move rfl) ?_
      refine vl_valg rfl (os_len Try.underlying79 rfl) ?_
      refine vl_valg rfl (os_gtr rfl rfl) ?_
      refine vl_val (os_pick_f rfl rfl) ?_
      refine vl_nil ?_
      refine v_cond_yes rfl (by omega) ?_
      refine v_seq ?_
      refine v_region ?_
      refine vl_val (os_assign rfl) ?_
      refine vl_nil ?_
      refine v_ret ?_
      exact post_ret rfl rfl (⟨rfl, Below.refl _ _⟩)

theorem lay_stripes (A : Option Addr) (l c : Nat) (w : World) : Gives Try.prog 98 #[.slice A l c] w fun v w' => v = .func (.func 136) #[] #[.pointer (some ⟨w.heap.size, 0, none⟩)] ∧ w' = w.alloc (.cells #[.slice A l c] 79) := by
  refine gives_enter Try.call98 Try.func98 rfl rfl rfl (by kernel_rfl) ?_
  refine v_seq ?_
  refine v_region ?_
  refine vl_val (os_box rfl) ?_
  refine vl_val (os_assign rfl) ?_
  refine vl_nil ?_
  refine v_seq ?_
  refine v_region ?_
  refine vl_val (os_makeFunc rfl) ?_
  refine vl_val (os_assign rfl) ?_
  refine vl_nil ?_
  refine v_ret ?_
  exact post_ret rfl rfl (⟨by simp, rfl⟩)
theorem lay_stripes_fn (y p : Nat) (A : Option Addr) (l c : Nat) (rows : List (Int × Int)) (J Jx : Nat → World → Prop) (W : World)
    (hJI : ∀ k W, J k W → W.cell? ⟨p, 0, none⟩ = some (.slice A l c) ∧ RdP W 2 A (rows.map rowC)) (hJ : ∀ k W W', J k W → LeG W W' → J k W')
    (hl : l = rows.length) (hl8 : l ≤ 8) (hin : ∀ i, i < rows.length → widthOk (rows.getD i (0, 0)).2 (rows.getD i (0, 0)).1 = true) (hR : Rounds Try.prog y (fun k => [.int .i64 (offS rows k), .int .i64 (offS rows (k + 1))]) l J Jx) (hJ0 : J 0 W) :
    Gives Try.prog 136 #[.func (.yield y) #[] #[], .pointer (some ⟨p, 0, none⟩)] W fun _ W' => J l W' ∨ ∃ k, Jx k W' := by
  refine gives_enter Try.call136 Try.func136 rfl rfl rfl (by kernel_rfl) ?_
  refine v_seq ?_
  refine v_region ?_
  refine vl_val (os_assign rfl) ?_
  refine vl_nil ?_
  refine v_seq ?_
  refine v_region ?_
  refine vl_val (os_load Try.isAgg79 rfl ((hJI 0 W hJ0).1)) ?_
  refine vl_val (os_len Try.underlying79 rfl) ?_
  refine vl_val (os_move rfl) ?_
  refine vl_nil ?_
  refine v_block ?_
  refine v_loop [(0, _), (8, _), (9, _)] (fun (i : Nat) => [(3, .int .i64 (offS rows i)), (10, .int .i64 i)]) (fun i w' => i ≤ l ∧ J i w') (fun i => l - i) (0) ⟨rfl, rfl, rfl, trivial⟩ ⟨rfl, rfl, trivial⟩ (⟨by omega, hJ0⟩) ?_
  rintro i w1 ⟨hi, hj⟩
  refine v_seq ?_
  refine v_region ?_
  refine vl_val (os_lss rfl rfl) ?_
  refine vl_nil ?_
  refine v_seq ?_
  refine v_cond_d rfl (fun h => ?_) (fun h => ?_)
  · obtain ⟨b, o, rfl, q1, q2, q3⟩ := (hJI i w1 hj).2.at2 (i := i) (by omega)
    have hok := hin i (by omega)
    have hbd := offS_bd (rows := rows) i
    have hbd2 := offS_bd (rows := rows) (i + 1)
    have hwd : 0 ≤ (rows.getD i (0, 0)).2 ∧ (rows.getD i (0, 0)).2 ≤ 65535 ∧ 1 ≤ (rows.getD i (0, 0)).1 ∧ (rows.getD i (0, 0)).1 ≤ 255 := by simpa [widthOk] using hok
    refine v_skip ?_
    refine v_seq ?_
    refine v_block ?_
    refine v_seq ?_
    refine v_region ?_
    refine vl_val (os_ixs Try.underlying79 Try.sizeOf78 rfl rfl (i := i) (by omega) (by omega)) ?_
    refine vl_val (os_loadP Try.underlying78 rfl (by kernel_rfl) rfl q3) ?_
    refine vl_val (os_allocB Try.zeroValue78 (zc := _) (cs := [.int .i64 0, .int .i64 0]) rfl) ?_
    have hB0 := bk_new w1 [.int .i64 0, .int .i64 0] 78
    have b2 : Below w1.heap.size w1 (w1.alloc (.cells [Value.int .i64 0, .int .i64 0].toArray 78)) := (Below.refl _ _).alloc (Nat.le_refl _) _
    refine vl_unit (ou_storeB (by kernel_rfl) rfl rfl hB0 rfl rfl) ?_
    have hB := setRow_bk hB0 (rowC (rows.getD i (0, 0)))
    have b3 := below_setRow b2 (Nat.le_refl _) (rowC (rows.getD i (0, 0))).toArray
    refine vl_nil ?_
    refine v_seq ?_
    refine v_region ?_
    refine vl_val (os_fa (o := 1) (k := 0) (by kernel_rfl) rfl) ?_
    refine vl_val (os_load Try.isAgg3 rfl (hB.cell rfl)) ?_
    refine vl_val (os_fa (o := 0) (k := 0) (by kernel_rfl) rfl) ?_
    refine vl_val (os_load Try.isAgg3 rfl (hB.cell rfl)) ?_
    refine vl_call (strip_Width (rows.getD i (0, 0)).2 (rows.getD i (0, 0)).1 _ ⟨by omega, by omega⟩ ⟨by omega, by omega⟩) rfl ?_
    rintro v2 w2 ⟨rfl, rfl⟩
    change 0 ≤ offS rows i + widthV (rows.getD i (0, 0)).2 (rows.getD i (0, 0)).1 ∧ offS rows i + widthV (rows.getD i (0, 0)).2 (rows.getD i (0, 0)).1 ≤ _ at hbd2
    refine vl_val (os_move rfl) ?_
    refine vl_val (os_extract rfl rfl) ?_
    refine vl_val (os_extract rfl rfl) ?_
    refine vl_val (os_assign rfl) ?_
    refine vl_val (os_assign rfl) ?_
    refine vl_nil ?_
    refine v_seq ?_
    refine v_seq ?_
    refine v_region ?_
    refine vl_val (os_move rfl) ?_
    refine vl_val (os_move rfl) ?_
    refine vl_val (os_move rfl) ?_
    refine vl_val (os_move rfl) ?_
    refine vl_val (os_addi rfl rfl (by omega)) ?_
    refine vl_yield rfl rfl (hR i _ (hJ i w1 _ hj b3) (by omega)) ?_
    rintro bo w4 ⟨hy, hn⟩
    refine vl_val (os_not rfl) ?_
    refine vl_nil ?_
    refine v_cond rfl (fun hbv => ?_) (fun hbv => ?_)
    · refine v_ret ?_
      exact post_ret0 rfl (.inr ⟨i, hn (by simpa using hbv)⟩)
    · refine v_skip ?_
      refine v_region ?_
      refine vl_val (os_move rfl) ?_
      refine vl_val (os_move rfl) ?_
      refine vl_val (os_addi rfl rfl (by omega)) ?_
      refine vl_val (os_assign rfl) ?_
      refine vl_nil ?_
      refine v_region ?_
      refine vl_val (os_addi rfl rfl (by omega)) ?_
      refine vl_val (os_move rfl) ?_
      refine vl_nil ?_
      exact ⟨i + 1, ⟨rfl, rfl, rfl, trivial⟩, ⟨rfl, rfl, trivial⟩, ⟨by omega, hy (by simpa using hbv)⟩, by dsimp only; omega⟩
  · obtain rfl : l = i := by omega
    refine v_exit ?_
    exact post_end0 rfl (.inl hj)

set_option maxHeartbeats 2000000 in
theorem lay_Long (n : Int) (A : Option Addr) (l c : Nat) (rows : List (Int × Int)) (w : World) (ha : RdP w 2 A (rows.map rowC)) (hl : l = rows.length) (hl' : l ≤ 9000000000000000) :
    Gives Try.prog 54 #[.int .i64 n, .slice A l c] w fun v w' => v = .tuple #[.int .i64 (longV n rows), .int .i64 (errE (layOk n rows))] ∧ Below w.heap.size w w' := by
  have hB0 := bk_new w [.int .i64 0] 3
  have hb0 : Below w.heap.size w (w.alloc (.cells [Value.int .i64 0].toArray 3)) := (Below.refl _ w).alloc (Nat.le_refl _) _
  cases hok : layOk n rows
  · skip
    refine gives_enter Try.call54 Try.func54 rfl rfl rfl (by kernel_rfl) ?_
    refine v_seq ?_
    refine v_region ?_
    refine vl_val (os_alloc1 Try.zeroValue3 rfl) ?_
    refine vl_val (os_assign rfl) ?_
    refine vl_nil ?_
    refine v_seq ?_
    refine v_seq ?_
    refine v_region ?_
    refine vl_val (os_move rfl) ?_
    refine vl_val (os_move rfl) ?_
    refine vl_call ((lay_Right n A l c rows _ (ha.keep hb0) hl hl').mono fun v w' hh => (⟨by rw [hh.1, hok], hh.2⟩ : v = .bool false ∧ Below _ _ w')) rfl ?_
    rintro v1 w1 ⟨rfl, b1⟩
    have hB1 := hB0.keep b1
    have b1' := hb0.trans (b1.mono hb0.size)
    refine vl_val (os_not rfl) ?_
    refine vl_nil ?_
    refine v_cond_t rfl ?_
    refine v_seq ?_
    refine v_region ?_
    refine vl_unit (ou_store Try.sizeOf3 rfl rfl rfl (hB1.cell (i := 0) rfl) (hB1.free _)) ?_
    refine vl_val (os_assign rfl) ?_
    refine vl_nil ?_
    refine v_ret ?_
    exact post_of (fun a ha => res_ct (t := 4) (t2 := 5) rfl rfl rfl Try.isAgg3 ((hB1.set 0 _).cell (i := 0) rfl) ha) (⟨by simp [longV, hok, errE], below_set b1' (Nat.le_refl _) _ _⟩)
  · obtain ⟨⟨p1, p2⟩, p3, p4, p5, p6⟩ := layOk_parts hok
    refine gives_enter Try.call54 Try.func54 rfl rfl rfl (by kernel_rfl) ?_
    refine v_seq ?_
    refine v_region ?_
    refine vl_val (os_alloc1 Try.zeroValue3 rfl) ?_
    refine vl_val (os_assign rfl) ?_
    refine vl_nil ?_
    refine v_seq ?_
    refine v_seq ?_
    refine v_region ?_
    refine vl_val (os_move rfl) ?_
    refine vl_val (os_move rfl) ?_
    refine vl_call ((lay_Right n A l c rows _ (ha.keep hb0) hl hl').mono fun v w' hh => (⟨by rw [hh.1, hok], hh.2⟩ : v = .bool true ∧ Below _ _ w')) rfl ?_
    rintro v1 w1 ⟨rfl, b1⟩
    have hB1 := hB0.keep b1
    have b1' := hb0.trans (b1.mono hb0.size)
    refine vl_val (os_not rfl) ?_
    refine vl_nil ?_
    refine v_cond_f rfl ?_
    refine v_skip ?_
    refine v_range_seq ?_
    refine v_region ?_
    refine vl_val (os_move rfl) ?_
    refine vl_call (lay_stripes A l c w1) rfl ?_
    rintro v2 w2 ⟨rfl, rfl⟩
    obtain ⟨p, hp⟩ : ∃ p, p = w1.heap.size := ⟨_, rfl⟩
    obtain ⟨w2, hw2⟩ : ∃ w2, w2 = w1.alloc (.cells [Value.slice A l c].toArray 79) := ⟨_, rfl⟩
    have P1 : Bk w2 p [.slice A l c] 79 := by rw [hw2, hp]; exact bk_new w1 _ _
    have hB2 : Bk w2 w.heap.size [.int .i64 0] 3 := by rw [hw2]; exact hB1.alloc _
    have b2 : Below w.heap.size w w2 := by rw [hw2]; exact b1'.alloc b1'.size _
    have hlt := hB1.lt
    have hw2' : w2 = w1.alloc (.cells #[.slice A l c] 79) := hw2
    rw [← hw2', ← hp]
    refine vl_nil ?_
    refine v_range (l) (fun k => [.int .i64 (offS rows k), .int .i64 (offS rows (k + 1))]) (fun k w' => Bk w' w.heap.size [.int .i64 (offS rows k)] 3 ∧ Bk w' p [.slice A l c] 79 ∧ Below w.heap.size w w') (fun e w' => False) (fun k => [(7, .int .i64 (offS rows (k + 1))), (4, .pointer (some ⟨w.heap.size, 0, none⟩))]) Try.call136 rfl (fun _ => rfl) (fun k W W' ⟨h1, h2, h3⟩ hn => ⟨hn.bk h1, hn.bk h2, hn.below h3 b2.size (Nat.le_refl _)⟩) (fun _ => Abd.no) (⟨hB2, P1, b2⟩) (fun l J Jx W hW hJI hJ hJx hR hJ0 => lay_stripes_fn l p A _ c rows J Jx W (fun k W h => by obtain ⟨h1, h2, h3⟩ := hJI k W h; exact ⟨h2.cell (i := 0) rfl, ha.keep h3⟩) hJ hl (by omega) p6 hR hJ0) ?_ ?_ ?_ (fun _ _ _ _ h => h.elim) (fun _ _ _ _ _ h => h.elim)
    · intro l k w'
      refine v_region ?_
      refine vl_val (os_assign rfl) ?_
      refine vl_nil ?_
      exact ⟨rfl, rfl, ⟨rfl, rfl, trivial⟩⟩
    · rintro l k w' hk ⟨h1, h2, h3⟩
      refine v_block ?_
      refine v_region ?_
      refine vl_val (os_move rfl) ?_
      refine vl_unit (ou_store Try.sizeOf3 rfl rfl rfl (h1.cell (i := 0) rfl) (h1.free _)) ?_
      refine vl_nil ?_
      exact ⟨Kn.set (h1.cell (i := 0) rfl) _, h1.set 0 _, Bk.setOther h2 (by omega) _ _, below_set h3 (Nat.le_refl _) _ _⟩
    · rintro D w' hD hK ⟨h1, h2, h3⟩
      refine v_seq ?_
      refine v_region ?_
      refine vl_val (os_load Try.isAgg3 rfl (h1.cell (i := 0) rfl)) ?_
      refine vl_unit (ou_store Try.sizeOf3 rfl rfl rfl (h1.cell (i := 0) rfl) (h1.free _)) ?_
      have hK' := (Kn.set (B := 0) (h1.cell (i := 0) rfl) (.int .i64 (offS rows l))).block D _ (Nat.zero_le _) hK rfl
      have hN := Nc.put (B := w2.heap.size) (.deferred none) hD hK' rfl
      refine vl_val (os_assign rfl) ?_
      refine vl_nil ?_
      refine v_ret ?_
      exact post_m (fn := Try.f54) (hK') (fun a ha => res_ct (t := 4) (t2 := 5) rfl rfl rfl Try.isAgg3 ((hN.bk (h1.set 0 _)).cell (i := 0) rfl) ha) (⟨by simp [longV, hok, errE, hl], hN.below (below_set h3 (Nat.le_refl _) (0 + 0) _) b2.size (Nat.le_refl _)⟩)
theorem size_Of (n : Int) (A : Option Addr) (l c : Nat) (rows : List (Int × Int)) (w : World) (ha : RdP w 2 A (rows.map rowC)) (hl : l = rows.length) (hl' : l ≤ 9000000000000000) :
    Gives Try.prog 55 #[.int .i64 n, .slice A l c] w fun v w' => v = .tuple #[.int .i64 (ofV n rows), .int .i64 (errE (layOk n rows))] ∧ Below w.heap.size w w' := by
  refine gives_enter Try.call55 Try.func55 rfl rfl rfl (by kernel_rfl) ?_
  refine v_seq ?_
  refine v_region ?_
  refine vl_val (os_assign rfl) ?_
  refine vl_val (os_assign rfl) ?_
  refine vl_nil ?_
  refine v_seq ?_
  refine v_region ?_
  refine vl_val (os_move rfl) ?_
  refine vl_val (os_move rfl) ?_
  refine vl_call (lay_Long n A l c rows w ha hl hl') rfl ?_
  rintro v1 w1 ⟨rfl, b1⟩
  refine vl_val (os_move rfl) ?_
  refine vl_val (os_extract rfl rfl) ?_
  refine vl_val (os_extract rfl rfl) ?_
  refine vl_val (os_assign rfl) ?_
  refine vl_val (os_assign rfl) ?_
  refine vl_nil ?_
  cases hok : layOk n rows
  · refine v_seq ?_
    refine v_seq ?_
    refine v_region ?_
    refine vl_val (os_move rfl) ?_
    refine vl_val (os_neq rfl rfl) ?_
    refine vl_nil ?_
    refine v_cond_yes rfl (by decide) ?_
    refine v_seq ?_
    refine v_region ?_
    refine vl_val (os_move rfl) ?_
    refine vl_val (os_assign rfl) ?_
    refine vl_val (os_assign rfl) ?_
    refine vl_nil ?_
    refine v_ret ?_
    exact post_ret2 rfl rfl rfl (⟨by simp [ofV, hok, errE], b1⟩)
  · have hb := offS_bd (rows := rows) rows.length
    obtain ⟨-, p3, p4, -, -⟩ := layOk_parts hok
    rw [show longV n rows = offS rows rows.length by simp [longV, hok]]
    refine v_seq ?_
    refine v_seq ?_
    refine v_region ?_
    refine vl_val (os_move rfl) ?_
    refine vl_val (os_neq rfl rfl) ?_
    refine vl_nil ?_
    refine v_cond_no rfl (by decide) ?_
    refine v_skip ?_
    refine v_seq ?_
    refine v_region ?_
    refine vl_val (os_move rfl) ?_
    refine vl_val (os_len Try.underlying79 rfl) ?_
    refine vl_val (os_muli rfl rfl (by omega)) ?_
    refine vl_val (os_addi rfl rfl (by omega)) ?_
    refine vl_val (os_move rfl) ?_
    refine vl_val (os_addi rfl rfl (by omega)) ?_
    refine vl_val (os_assign rfl) ?_
    refine vl_val (os_assign rfl) ?_
    refine vl_nil ?_
    refine v_ret ?_
    exact post_ret2 rfl rfl rfl (⟨by simp [ofV, hok, errE, hl], b1⟩)
end Go.Proofs.Ytpjmiafefammkaa
