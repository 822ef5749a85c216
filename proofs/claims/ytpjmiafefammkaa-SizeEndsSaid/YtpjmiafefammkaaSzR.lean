/- Layers 09, 10, 11: the document's answer: widths, tables, sizes, rooms, whether thresholds fit. -/
import Derived.Test.YtpjmiafefammkaaSzG
import Derived.Test.YtpjmiafefammkaaTw
namespace Go.Proofs.Ytpjmiafefammkaa
open Go.RowKit
set_option linter.unusedVariables false

theorem width_floor {long k : Int} (h : widthOk long k = true) : long / k ≤ widthW long k ∧ (∀ x, long / k ≤ x → x ≤ widthW long k → (x * k < long ↔ x < widthW long k)) ∧ 0 ≤ long / k := by
  simp only [widthOk, decide_eq_true_eq] at h
  have hk : 0 < k := by omega
  have h0 : 0 ≤ long / k := Int.ediv_nonneg (by omega) (by omega)
  unfold widthW
  refine ⟨Int.ediv_le_ediv hk (by omega), fun x h1 h2 => ?_, h0⟩
  rw [show (x < (long + k - 1) / k) ↔ (x + 1 ≤ (long + k - 1) / k) from Int.lt_iff_add_one_le, Int.le_ediv_iff_mul_le hk, Int.add_mul, Int.one_mul]
  omega
theorem width_mul {long k x : Int} (h : widthOk long k = true) (h0 : 0 ≤ x) (h1 : x ≤ widthW long k) : 0 ≤ x * k ∧ x * k ≤ 65535 * 255 := by
  have hb := width_bd h
  simp only [widthOk, decide_eq_true_eq] at h
  exact ⟨Int.mul_nonneg h0 (by omega), Int.mul_le_mul (by omega) (by omega) (by omega) (by omega)⟩
theorem ref09_Width (long k : Int) (w : World) : Gives Try.prog 156 #[.int .i64 long, .int .i64 k] w fun v w' => v = .tuple #[.int .i64 (widthV long k), .int .i64 (errE (widthOk long k))] ∧ w' = w := by
  refine gives_enter Try.call156 Try.func156 rfl rfl rfl (by kernel_rfl) ?_
  rcases (by omega : long < 0 ∨ (0 ≤ long ∧ 65535 < long) ∨ (0 ≤ long ∧ long ≤ 65535 ∧ k < 1) ∨ (0 ≤ long ∧ long ≤ 65535 ∧ 1 ≤ k ∧ 255 < k) ∨ (0 ≤ long ∧ long ≤ 65535 ∧ 1 ≤ k ∧ k ≤ 255)) with h | ⟨h, h3⟩ | ⟨h, h3, h4⟩ | ⟨h, h3, h4, h5⟩ | ⟨h, h3, h4, h5⟩
  · refine v_seq ?_
    refine v_region ?_
    refine vl_val (os_assign rfl) ?_
    refine vl_val (os_assign rfl) ?_
    refine vl_nil ?_
    refine v_seq ?_
    refine v_seq ?_
    refine v_region ?_
    refine vl_val (os_move rfl) ?_
    refine vl_val (os_t (os_lss rfl rfl) (by omega)) ?_
    refine vl_val (os_move rfl) ?_
    refine vl_skip rfl rfl ?_
    refine vl_skip rfl rfl ?_
    refine vl_val (os_pick_t rfl rfl) ?_
    refine vl_val (os_move rfl) ?_
    refine vl_skip rfl rfl ?_
    refine vl_skip rfl rfl ?_
    refine vl_val (os_pick_t rfl rfl) ?_
    refine vl_val (os_move rfl) ?_
    refine vl_skip rfl rfl ?_
    refine vl_skip rfl rfl ?_
    refine vl_val (os_pick_t rfl rfl) ?_
    refine vl_nil ?_
    refine v_cond_t rfl ?_
    refine v_seq ?_
    refine v_region ?_
    refine vl_val (os_assign rfl) ?_
    refine vl_val (os_assign rfl) ?_
    refine vl_nil ?_
    refine v_ret ?_
    exact post_ret2 rfl rfl rfl (⟨by simp [widthV, widthOk, errE]; omega, rfl⟩)
  · refine v_seq ?_
    refine v_region ?_
    refine vl_val (os_assign rfl) ?_
    refine vl_val (os_assign rfl) ?_
    refine vl_nil ?_
    refine v_seq ?_
    refine v_seq ?_
    refine v_region ?_
    refine vl_val (os_move rfl) ?_
    refine vl_val (os_f (os_lss rfl rfl) (by omega)) ?_
    refine vl_val (os_move rfl) ?_
    refine vl_valg rfl (os_move rfl) ?_
    refine vl_valg rfl (os_t (os_gtr rfl rfl) (by omega)) ?_
    refine vl_val (os_pick_f rfl rfl) ?_
    refine vl_val (os_move rfl) ?_
    refine vl_skip rfl rfl ?_
    refine vl_skip rfl rfl ?_
    refine vl_val (os_pick_t rfl rfl) ?_
    refine vl_val (os_move rfl) ?_
    refine vl_skip rfl rfl ?_
    refine vl_skip rfl rfl ?_
    refine vl_val (os_pick_t rfl rfl) ?_
    refine vl_nil ?_
    refine v_cond_t rfl ?_
    refine v_seq ?_
    refine v_region ?_
    refine vl_val (os_assign rfl) ?_
    refine vl_val (os_assign rfl) ?_
    refine vl_nil ?_
    refine v_ret ?_
    exact post_ret2 rfl rfl rfl (⟨by simp [widthV, widthOk, errE]; omega, rfl⟩)
  · refine v_seq ?_
    refine v_region ?_
    refine vl_val (os_assign rfl) ?_
    refine vl_val (os_assign rfl) ?_
    refine vl_nil ?_
    refine v_seq ?_
    refine v_seq ?_
    refine v_region ?_
    refine vl_val (os_move rfl) ?_
    refine vl_val (os_f (os_lss rfl rfl) (by omega)) ?_
    refine vl_val (os_move rfl) ?_
    refine vl_valg rfl (os_move rfl) ?_
    refine vl_valg rfl (os_f (os_gtr rfl rfl) (by omega)) ?_
    refine vl_val (os_pick_f rfl rfl) ?_
    refine vl_val (os_move rfl) ?_
    refine vl_valg rfl (os_move rfl) ?_
    refine vl_valg rfl (os_t (os_lss rfl rfl) (by omega)) ?_
    refine vl_val (os_pick_f rfl rfl) ?_
    refine vl_val (os_move rfl) ?_
    refine vl_skip rfl rfl ?_
    refine vl_skip rfl rfl ?_
    refine vl_val (os_pick_t rfl rfl) ?_
    refine vl_nil ?_
    refine v_cond_t rfl ?_
    refine v_seq ?_
    refine v_region ?_
    refine vl_val (os_assign rfl) ?_
    refine vl_val (os_assign rfl) ?_
    refine vl_nil ?_
    refine v_ret ?_
    exact post_ret2 rfl rfl rfl (⟨by simp [widthV, widthOk, errE]; omega, rfl⟩)
  · refine v_seq ?_
    refine v_region ?_
    refine vl_val (os_assign rfl) ?_
    refine vl_val (os_assign rfl) ?_
    refine vl_nil ?_
    refine v_seq ?_
    refine v_seq ?_
    refine v_region ?_
    refine vl_val (os_move rfl) ?_
    refine vl_val (os_f (os_lss rfl rfl) (by omega)) ?_
    refine vl_val (os_move rfl) ?_
    refine vl_valg rfl (os_move rfl) ?_
    refine vl_valg rfl (os_f (os_gtr rfl rfl) (by omega)) ?_
    refine vl_val (os_pick_f rfl rfl) ?_
    refine vl_val (os_move rfl) ?_
    refine vl_valg rfl (os_move rfl) ?_
    refine vl_valg rfl (os_f (os_lss rfl rfl) (by omega)) ?_
    refine vl_val (os_pick_f rfl rfl) ?_
    refine vl_val (os_move rfl) ?_
    refine vl_valg rfl (os_move rfl) ?_
    refine vl_valg rfl (os_gtr rfl rfl) ?_
    refine vl_val (os_pick_f rfl rfl) ?_
    refine vl_nil ?_
    refine v_cond_yes rfl (by omega) ?_
    refine v_seq ?_
    refine v_region ?_
    refine vl_val (os_assign rfl) ?_
    refine vl_val (os_assign rfl) ?_
    refine vl_nil ?_
    refine v_ret ?_
    exact post_ret2 rfl rfl rfl (⟨by simp [widthV, widthOk, errE]; omega, rfl⟩)
  · have hok : widthOk long k = true := by simp [widthOk]; omega
    obtain ⟨f1, f2, f3⟩ := width_floor hok
    refine v_seq ?_
    refine v_region ?_
    refine vl_val (os_assign rfl) ?_
    refine vl_val (os_assign rfl) ?_
    refine vl_nil ?_
    refine v_seq ?_
    refine v_seq ?_
    refine v_region ?_
    refine vl_val (os_move rfl) ?_
    refine vl_val (os_f (os_lss rfl rfl) (by omega)) ?_
    refine vl_val (os_move rfl) ?_
    refine vl_valg rfl (os_move rfl) ?_
    refine vl_valg rfl (os_f (os_gtr rfl rfl) (by omega)) ?_
    refine vl_val (os_pick_f rfl rfl) ?_
    refine vl_val (os_move rfl) ?_
    refine vl_valg rfl (os_move rfl) ?_
    refine vl_valg rfl (os_f (os_lss rfl rfl) (by omega)) ?_
    refine vl_val (os_pick_f rfl rfl) ?_
    refine vl_val (os_move rfl) ?_
    refine vl_valg rfl (os_move rfl) ?_
    refine vl_valg rfl (os_gtr rfl rfl) ?_
    refine vl_val (os_pick_f rfl rfl) ?_
    refine vl_nil ?_
    refine v_cond_no rfl (by omega) ?_
    refine v_skip ?_
    refine v_seq ?_
    refine v_region ?_
    refine vl_val (os_move rfl) ?_
    refine vl_val (os_move rfl) ?_
    refine vl_val (os_quoi rfl rfl (by omega)) ?_
    refine vl_val (os_assign rfl) ?_
    refine vl_nil ?_
    refine v_seq ?_
    refine v_block ?_
    refine v_loop [(0, _), (1, _)] (fun (x : Int) => [(6, .int .i64 x)]) (fun x w' => long / k ≤ x ∧ x ≤ widthW long k ∧ w' = w) (fun x => (widthW long k - x).toNat) (long / k) ⟨rfl, rfl, trivial⟩ ⟨rfl, trivial⟩ (⟨by omega, f1, rfl⟩) ?_
    rintro x w ⟨hx1, hx2, rfl⟩
    have hm := width_mul hok (by omega) hx2
    have hi := f2 x hx1 hx2
    refine v_seq ?_
    refine v_seq ?_
    refine v_region ?_
    refine vl_val (os_move rfl) ?_
    refine vl_val (os_move rfl) ?_
    refine vl_val (os_mul rfl rfl (i64_fit ⟨by omega, by omega⟩)) ?_
    have hwb := width_bd hok
    refine vl_val (os_move rfl) ?_
    refine vl_val (os_lss rfl rfl) ?_
    refine vl_nil ?_
    refine v_cond_d rfl (fun hlt => ?_) (fun hlt => ?_)
    · have hlt2 := hi.1 hlt
      refine v_skip ?_
      refine v_block ?_
      refine v_region ?_
      refine vl_val (os_move rfl) ?_
      refine vl_val (os_addi rfl rfl (by omega)) ?_
      refine vl_val (os_assign rfl) ?_
      refine vl_nil ?_
      exact ⟨x + 1, ⟨rfl, rfl, trivial⟩, ⟨rfl, trivial⟩, ⟨by omega, by omega, rfl⟩, by dsimp only; omega⟩
    · obtain rfl : widthW long k = x := by omega
      refine v_exit ?_
      refine v_seq ?_
      refine v_region ?_
      refine vl_val (os_move rfl) ?_
      refine vl_val (os_assign rfl) ?_
      refine vl_val (os_assign rfl) ?_
      refine vl_nil ?_
      refine v_ret ?_
      exact post_ret2 rfl rfl rfl (⟨by simp [widthV, hok, errE], rfl⟩)

theorem ref10_Right (n : Int) (A : Option Addr) (l c : Nat) (rows : List (Int × Int)) (w : World) (ha : RdP w 2 A (rows.map rowC)) (hl : l = rows.length) :
    Gives Try.prog 150 #[.int .i64 n, .slice A l c] w fun v w' => v = .bool (layOk n rows) ∧ LeD w w' := by
  by_cases hin : 1 ≤ n ∧ n ≤ 255 ∧ 1 ≤ l ∧ l ≤ 8
  · obtain ⟨h1, h2, h3, h4⟩ := hin
    have e0 : layOk n rows = layGo n 1 rows := by simp only [layOk]; rw [decide_eq_true (by omega)]; simp
    rw [e0]
    refine gives_enter Try.call150 Try.func150 rfl rfl rfl (by kernel_rfl) ?_
    refine v_seq ?_
    refine v_region ?_
    refine vl_val (os_assign rfl) ?_
    refine vl_nil ?_
    refine v_seq ?_
    refine v_seq ?_
    refine v_region ?_
    refine vl_val (os_move rfl) ?_
    refine vl_val (os_f (os_lss rfl rfl) (by omega)) ?_
    refine vl_val (os_move rfl) ?_
    refine vl_valg rfl (os_move rfl) ?_
    refine vl_valg rfl (os_f (os_gtr rfl rfl) (by omega)) ?_
    refine vl_val (os_pick_f rfl rfl) ?_
    refine vl_val (os_move rfl) ?_
    refine vl_valg rfl (os_move rfl) ?_
    refine vl_valg rfl (os_len Try.underlying79 rfl) ?_
    refine vl_valg rfl (os_f (os_lss rfl rfl) (by omega)) ?_
    refine vl_val (os_pick_f rfl rfl) ?_
    refine vl_val (os_move rfl) ?_
    refine vl_valg rfl (os_move rfl) ?_
    refine vl_valg rfl (os_len Try.underlying79 rfl) ?_
    refine vl_valg rfl (os_gtr rfl rfl) ?_
    refine vl_val (os_pick_f rfl rfl) ?_
    refine vl_nil ?_
    refine v_cond_no rfl (by omega) ?_
    refine v_skip ?_
    refine v_seq ?_
    refine v_seq ?_
    refine v_region ?_
    refine vl_val (os_assign rfl) ?_
    refine vl_nil ?_
    refine v_block ?_
    refine v_loop [(0, _), (1, _)] (fun (i : Nat) => [(5, .int .i64 i)]) (fun i w' => i ≤ l ∧ 1 ≤ prevK rows i ∧ layGo n 1 rows = layGo n (prevK rows i) (rows.drop i) ∧ LeD w w') (fun i => l - i) (0) ⟨rfl, rfl, trivial⟩ ⟨rfl, trivial⟩ (⟨by omega, by simp [prevK], rfl, lee_d.refl _⟩) ?_
    rintro i w1 ⟨hi, hp, hg, b1⟩
    refine v_seq ?_
    refine v_seq ?_
    refine v_region ?_
    refine vl_val (os_move rfl) ?_
    refine vl_val (os_move rfl) ?_
    refine vl_val (os_len Try.underlying79 rfl) ?_
    refine vl_val (os_lss rfl rfl) ?_
    refine vl_nil ?_
    refine v_cond_d rfl (fun h => ?_) (fun h => ?_)
    · obtain ⟨b, o, rfl, q1, q2, q3⟩ := (show RdP w1 2 A (rows.map rowC) from ha.led b1).at2 (i := i) (by omega)
      have hst := layGo_step (n := n) (rows := rows) (i := i) (by omega)
      rcases (by omega : (rows.getD i (0, 0)).1 < 1 ∨ (1 ≤ (rows.getD i (0, 0)).1 ∧ n < (rows.getD i (0, 0)).1) ∨ (1 ≤ (rows.getD i (0, 0)).1 ∧ (rows.getD i (0, 0)).1 ≤ n ∧ (rows.getD i (0, 0)).2 < 0) ∨ (1 ≤ (rows.getD i (0, 0)).1 ∧ (rows.getD i (0, 0)).1 ≤ n ∧ 0 ≤ (rows.getD i (0, 0)).2 ∧ 65535 < (rows.getD i (0, 0)).2) ∨ (1 ≤ (rows.getD i (0, 0)).1 ∧ (rows.getD i (0, 0)).1 ≤ n ∧ 0 ≤ (rows.getD i (0, 0)).2 ∧ (rows.getD i (0, 0)).2 ≤ 65535)) with g | ⟨g, g2⟩ | ⟨g, g2, g3⟩ | ⟨g, g2, g3, g4⟩ | ⟨g, g2, g3, g4⟩
      · refine v_skip ?_
        refine v_seq ?_
        refine v_block ?_
        refine v_seq ?_
        refine v_region_t LeD _ mixed (by kernel_rfl) lee_d (led_start _) ?_
        refine vt_val (fun w hw => os_move rfl) ?_
        refine vt_val (fun w hw => os_move rfl) ?_
        refine vt_val (fun w hw => os_ixs Try.underlying79 Try.sizeOf78 rfl rfl (i := i) (by omega) (by omega)) ?_
        refine vt_val (fun w hw => os_fa (o := 0) (k := 0) (by kernel_rfl) rfl) ?_
        refine vt_val (fun w hw => os_load Try.isAgg3 rfl (led_cell hw (q1))) ?_
        refine vt_val (fun w hw => os_t (os_lss rfl rfl) (by omega)) ?_
        refine vt_val (fun w hw => os_move rfl) ?_
        refine vt_skip rfl rfl ?_
        refine vt_skip rfl rfl ?_
        refine vt_skip rfl rfl ?_
        refine vt_skip rfl rfl ?_
        refine vt_skip rfl rfl ?_
        refine vt_skip rfl rfl ?_
        refine vt_skip rfl rfl ?_
        refine vt_val (fun w hw => os_pick_t rfl rfl) ?_
        refine vt_val (fun w hw => os_move rfl) ?_
        refine vt_skip rfl rfl ?_
        refine vt_skip rfl rfl ?_
        refine vt_skip rfl rfl ?_
        refine vt_skip rfl rfl ?_
        refine vt_skip rfl rfl ?_
        refine vt_skip rfl rfl ?_
        refine vt_val (fun w hw => os_pick_t rfl rfl) ?_
        refine vt_val (fun w hw => os_move rfl) ?_
        refine vt_skip rfl rfl ?_
        refine vt_skip rfl rfl ?_
        refine vt_skip rfl rfl ?_
        refine vt_skip rfl rfl ?_
        refine vt_skip rfl rfl ?_
        refine vt_skip rfl rfl ?_
        refine vt_val (fun w hw => os_pick_t rfl rfl) ?_
        refine vt_val (fun w hw => os_move rfl) ?_
        refine vt_skip rfl rfl ?_
        refine vt_skip rfl rfl ?_
        refine vt_skip rfl rfl ?_
        refine vt_skipu rfl ?_
        refine vt_skipu rfl ?_
        refine vt_skipu rfl ?_
        refine vt_skipu rfl ?_
        refine vt_skipu rfl ?_
        refine vt_skipu rfl ?_
        refine vt_skipu rfl ?_
        refine vt_skipu rfl ?_
        refine vt_skipu rfl ?_
        refine vt_skipu rfl ?_
        refine vt_skipu rfl ?_
        refine vt_skipu rfl ?_
        refine vt_skip rfl rfl ?_
        refine vt_val (fun w hw => os_pick_t rfl rfl) ?_
        refine vt_nil (fun w hw => ?_)
        obtain ⟨q, rfl⟩ := hw
        refine v_cond_t rfl ?_
        refine v_seq ?_
        refine v_region ?_
        refine vl_val (os_assign rfl) ?_
        refine vl_nil ?_
        refine v_ret ?_
        exact post_ret rfl rfl (⟨by rw [hg, hst, decide_eq_false (by unfold rowGood; omega)]; rfl, lee_d.trans b1 ⟨q, rfl⟩⟩)
      · refine v_skip ?_
        refine v_seq ?_
        refine v_block ?_
        refine v_seq ?_
        refine v_region_t LeD _ mixed (by kernel_rfl) lee_d (led_start _) ?_
        refine vt_val (fun w hw => os_move rfl) ?_
        refine vt_val (fun w hw => os_move rfl) ?_
        refine vt_val (fun w hw => os_ixs Try.underlying79 Try.sizeOf78 rfl rfl (i := i) (by omega) (by omega)) ?_
        refine vt_val (fun w hw => os_fa (o := 0) (k := 0) (by kernel_rfl) rfl) ?_
        refine vt_val (fun w hw => os_load Try.isAgg3 rfl (led_cell hw (q1))) ?_
        refine vt_val (fun w hw => os_f (os_lss rfl rfl) (by omega)) ?_
        refine vt_val (fun w hw => os_move rfl) ?_
        refine vt_valg rfl (fun w hw => os_move rfl) ?_
        refine vt_valg rfl (fun w hw => os_move rfl) ?_
        refine vt_valg rfl (fun w hw => os_ixs Try.underlying79 Try.sizeOf78 rfl rfl (i := i) (by omega) (by omega)) ?_
        refine vt_valg rfl (fun w hw => os_fa (o := 0) (k := 0) (by kernel_rfl) rfl) ?_
        refine vt_valg rfl (fun w hw => os_load Try.isAgg3 rfl (led_cell hw (q1))) ?_
        refine vt_valg rfl (fun w hw => os_move rfl) ?_
        refine vt_valg rfl (fun w hw => os_t (os_gtr rfl rfl) (by omega)) ?_
        refine vt_val (fun w hw => os_pick_f rfl rfl) ?_
        refine vt_val (fun w hw => os_move rfl) ?_
        refine vt_skip rfl rfl ?_
        refine vt_skip rfl rfl ?_
        refine vt_skip rfl rfl ?_
        refine vt_skip rfl rfl ?_
        refine vt_skip rfl rfl ?_
        refine vt_skip rfl rfl ?_
        refine vt_val (fun w hw => os_pick_t rfl rfl) ?_
        refine vt_val (fun w hw => os_move rfl) ?_
        refine vt_skip rfl rfl ?_
        refine vt_skip rfl rfl ?_
        refine vt_skip rfl rfl ?_
        refine vt_skip rfl rfl ?_
        refine vt_skip rfl rfl ?_
        refine vt_skip rfl rfl ?_
        refine vt_val (fun w hw => os_pick_t rfl rfl) ?_
        refine vt_val (fun w hw => os_move rfl) ?_
        refine vt_skip rfl rfl ?_
        refine vt_skip rfl rfl ?_
        refine vt_skip rfl rfl ?_
        refine vt_skipu rfl ?_
        refine vt_skipu rfl ?_
        refine vt_skipu rfl ?_
        refine vt_skipu rfl ?_
        refine vt_skipu rfl ?_
        refine vt_skipu rfl ?_
        refine vt_skipu rfl ?_
        refine vt_skipu rfl ?_
        refine vt_skipu rfl ?_
        refine vt_skipu rfl ?_
        refine vt_skipu rfl ?_
        refine vt_skipu rfl ?_
        refine vt_skip rfl rfl ?_
        refine vt_val (fun w hw => os_pick_t rfl rfl) ?_
        refine vt_nil (fun w hw => ?_)
        obtain ⟨q, rfl⟩ := hw
        refine v_cond_t rfl ?_
        refine v_seq ?_
        refine v_region ?_
        refine vl_val (os_assign rfl) ?_
        refine vl_nil ?_
        refine v_ret ?_
        exact post_ret rfl rfl (⟨by rw [hg, hst, decide_eq_false (by unfold rowGood; omega)]; rfl, lee_d.trans b1 ⟨q, rfl⟩⟩)
      · refine v_skip ?_
        refine v_seq ?_
        refine v_block ?_
        refine v_seq ?_
        refine v_region_t LeD _ mixed (by kernel_rfl) lee_d (led_start _) ?_
        refine vt_val (fun w hw => os_move rfl) ?_
        refine vt_val (fun w hw => os_move rfl) ?_
        refine vt_val (fun w hw => os_ixs Try.underlying79 Try.sizeOf78 rfl rfl (i := i) (by omega) (by omega)) ?_
        refine vt_val (fun w hw => os_fa (o := 0) (k := 0) (by kernel_rfl) rfl) ?_
        refine vt_val (fun w hw => os_load Try.isAgg3 rfl (led_cell hw (q1))) ?_
        refine vt_val (fun w hw => os_f (os_lss rfl rfl) (by omega)) ?_
        refine vt_val (fun w hw => os_move rfl) ?_
        refine vt_valg rfl (fun w hw => os_move rfl) ?_
        refine vt_valg rfl (fun w hw => os_move rfl) ?_
        refine vt_valg rfl (fun w hw => os_ixs Try.underlying79 Try.sizeOf78 rfl rfl (i := i) (by omega) (by omega)) ?_
        refine vt_valg rfl (fun w hw => os_fa (o := 0) (k := 0) (by kernel_rfl) rfl) ?_
        refine vt_valg rfl (fun w hw => os_load Try.isAgg3 rfl (led_cell hw (q1))) ?_
        refine vt_valg rfl (fun w hw => os_move rfl) ?_
        refine vt_valg rfl (fun w hw => os_f (os_gtr rfl rfl) (by omega)) ?_
        refine vt_val (fun w hw => os_pick_f rfl rfl) ?_
        refine vt_val (fun w hw => os_move rfl) ?_
        refine vt_valg rfl (fun w hw => os_move rfl) ?_
        refine vt_valg rfl (fun w hw => os_move rfl) ?_
        refine vt_valg rfl (fun w hw => os_ixs Try.underlying79 Try.sizeOf78 rfl rfl (i := i) (by omega) (by omega)) ?_
        refine vt_valg rfl (fun w hw => os_fa (o := 1) (k := 0) (by kernel_rfl) rfl) ?_
        refine vt_valg rfl (fun w hw => os_load Try.isAgg3 rfl (led_cell hw (q2))) ?_
        refine vt_valg rfl (fun w hw => os_t (os_lss rfl rfl) (by omega)) ?_
        refine vt_val (fun w hw => os_pick_f rfl rfl) ?_
        refine vt_val (fun w hw => os_move rfl) ?_
        refine vt_skip rfl rfl ?_
        refine vt_skip rfl rfl ?_
        refine vt_skip rfl rfl ?_
        refine vt_skip rfl rfl ?_
        refine vt_skip rfl rfl ?_
        refine vt_skip rfl rfl ?_
        refine vt_val (fun w hw => os_pick_t rfl rfl) ?_
        refine vt_val (fun w hw => os_move rfl) ?_
        refine vt_skip rfl rfl ?_
        refine vt_skip rfl rfl ?_
        refine vt_skip rfl rfl ?_
        refine vt_skipu rfl ?_
        refine vt_skipu rfl ?_
        refine vt_skipu rfl ?_
        refine vt_skipu rfl ?_
        refine vt_skipu rfl ?_
        refine vt_skipu rfl ?_
        refine vt_skipu rfl ?_
        refine vt_skipu rfl ?_
        refine vt_skipu rfl ?_
        refine vt_skipu rfl ?_
        refine vt_skipu rfl ?_
        refine vt_skipu rfl ?_
        refine vt_skip rfl rfl ?_
        refine vt_val (fun w hw => os_pick_t rfl rfl) ?_
        refine vt_nil (fun w hw => ?_)
        obtain ⟨q, rfl⟩ := hw
        refine v_cond_t rfl ?_
        refine v_seq ?_
        refine v_region ?_
        refine vl_val (os_assign rfl) ?_
        refine vl_nil ?_
        refine v_ret ?_
        exact post_ret rfl rfl (⟨by rw [hg, hst, decide_eq_false (by unfold rowGood; omega)]; rfl, lee_d.trans b1 ⟨q, rfl⟩⟩)
      · refine v_skip ?_
        refine v_seq ?_
        refine v_block ?_
        refine v_seq ?_
        refine v_region_t LeD _ mixed (by kernel_rfl) lee_d (led_start _) ?_
        refine vt_val (fun w hw => os_move rfl) ?_
        refine vt_val (fun w hw => os_move rfl) ?_
        refine vt_val (fun w hw => os_ixs Try.underlying79 Try.sizeOf78 rfl rfl (i := i) (by omega) (by omega)) ?_
        refine vt_val (fun w hw => os_fa (o := 0) (k := 0) (by kernel_rfl) rfl) ?_
        refine vt_val (fun w hw => os_load Try.isAgg3 rfl (led_cell hw (q1))) ?_
        refine vt_val (fun w hw => os_f (os_lss rfl rfl) (by omega)) ?_
        refine vt_val (fun w hw => os_move rfl) ?_
        refine vt_valg rfl (fun w hw => os_move rfl) ?_
        refine vt_valg rfl (fun w hw => os_move rfl) ?_
        refine vt_valg rfl (fun w hw => os_ixs Try.underlying79 Try.sizeOf78 rfl rfl (i := i) (by omega) (by omega)) ?_
        refine vt_valg rfl (fun w hw => os_fa (o := 0) (k := 0) (by kernel_rfl) rfl) ?_
        refine vt_valg rfl (fun w hw => os_load Try.isAgg3 rfl (led_cell hw (q1))) ?_
        refine vt_valg rfl (fun w hw => os_move rfl) ?_
        refine vt_valg rfl (fun w hw => os_f (os_gtr rfl rfl) (by omega)) ?_
        refine vt_val (fun w hw => os_pick_f rfl rfl) ?_
        refine vt_val (fun w hw => os_move rfl) ?_
        refine vt_valg rfl (fun w hw => os_move rfl) ?_
        refine vt_valg rfl (fun w hw => os_move rfl) ?_
        refine vt_valg rfl (fun w hw => os_ixs Try.underlying79 Try.sizeOf78 rfl rfl (i := i) (by omega) (by omega)) ?_
        refine vt_valg rfl (fun w hw => os_fa (o := 1) (k := 0) (by kernel_rfl) rfl) ?_
        refine vt_valg rfl (fun w hw => os_load Try.isAgg3 rfl (led_cell hw (q2))) ?_
        refine vt_valg rfl (fun w hw => os_f (os_lss rfl rfl) (by omega)) ?_
        refine vt_val (fun w hw => os_pick_f rfl rfl) ?_
        refine vt_val (fun w hw => os_move rfl) ?_
        refine vt_valg rfl (fun w hw => os_move rfl) ?_
        refine vt_valg rfl (fun w hw => os_move rfl) ?_
        refine vt_valg rfl (fun w hw => os_ixs Try.underlying79 Try.sizeOf78 rfl rfl (i := i) (by omega) (by omega)) ?_
        refine vt_valg rfl (fun w hw => os_fa (o := 1) (k := 0) (by kernel_rfl) rfl) ?_
        refine vt_valg rfl (fun w hw => os_load Try.isAgg3 rfl (led_cell hw (q2))) ?_
        refine vt_valg rfl (fun w hw => os_t (os_gtr rfl rfl) (by omega)) ?_
        refine vt_val (fun w hw => os_pick_f rfl rfl) ?_
        refine vt_val (fun w hw => os_move rfl) ?_
        refine vt_skip rfl rfl ?_
        refine vt_skip rfl rfl ?_
        refine vt_skip rfl rfl ?_
        refine vt_skipu rfl ?_
        refine vt_skipu rfl ?_
        refine vt_skipu rfl ?_
        refine vt_skipu rfl ?_
        refine vt_skipu rfl ?_
        refine vt_skipu rfl ?_
        refine vt_skipu rfl ?_
        refine vt_skipu rfl ?_
        refine vt_skipu rfl ?_
        refine vt_skipu rfl ?_
        refine vt_skipu rfl ?_
        refine vt_skipu rfl ?_
        refine vt_skip rfl rfl ?_
        refine vt_val (fun w hw => os_pick_t rfl rfl) ?_
        refine vt_nil (fun w hw => ?_)
        obtain ⟨q, rfl⟩ := hw
        refine v_cond_t rfl ?_
        refine v_seq ?_
        refine v_region ?_
        refine vl_val (os_assign rfl) ?_
        refine vl_nil ?_
        refine v_ret ?_
        exact post_ret rfl rfl (⟨by rw [hg, hst, decide_eq_false (by unfold rowGood; omega)]; rfl, lee_d.trans b1 ⟨q, rfl⟩⟩)
      · rcases Nat.eq_zero_or_pos i with hz | hz
        · subst hz
          have hp1 : prevK rows 0 = 1 := rfl
          refine v_skip ?_
          refine v_seq ?_
          refine v_block ?_
          refine v_seq ?_
          refine v_region_t LeD _ mixed (by kernel_rfl) lee_d (led_start _) ?_
          refine vt_val (fun w hw => os_move rfl) ?_
          refine vt_val (fun w hw => os_move rfl) ?_
          refine vt_val (fun w hw => os_ixs Try.underlying79 Try.sizeOf78 rfl rfl (i := 0) (by omega) (by omega)) ?_
          refine vt_val (fun w hw => os_fa (o := 0) (k := 0) (by kernel_rfl) rfl) ?_
          refine vt_val (fun w hw => os_load Try.isAgg3 rfl (led_cell hw (q1))) ?_
          refine vt_val (fun w hw => os_f (os_lss rfl rfl) (by omega)) ?_
          refine vt_val (fun w hw => os_move rfl) ?_
          refine vt_valg rfl (fun w hw => os_move rfl) ?_
          refine vt_valg rfl (fun w hw => os_move rfl) ?_
          refine vt_valg rfl (fun w hw => os_ixs Try.underlying79 Try.sizeOf78 rfl rfl (i := 0) (by omega) (by omega)) ?_
          refine vt_valg rfl (fun w hw => os_fa (o := 0) (k := 0) (by kernel_rfl) rfl) ?_
          refine vt_valg rfl (fun w hw => os_load Try.isAgg3 rfl (led_cell hw (q1))) ?_
          refine vt_valg rfl (fun w hw => os_move rfl) ?_
          refine vt_valg rfl (fun w hw => os_f (os_gtr rfl rfl) (by omega)) ?_
          refine vt_val (fun w hw => os_pick_f rfl rfl) ?_
          refine vt_val (fun w hw => os_move rfl) ?_
          refine vt_valg rfl (fun w hw => os_move rfl) ?_
          refine vt_valg rfl (fun w hw => os_move rfl) ?_
          refine vt_valg rfl (fun w hw => os_ixs Try.underlying79 Try.sizeOf78 rfl rfl (i := 0) (by omega) (by omega)) ?_
          refine vt_valg rfl (fun w hw => os_fa (o := 1) (k := 0) (by kernel_rfl) rfl) ?_
          refine vt_valg rfl (fun w hw => os_load Try.isAgg3 rfl (led_cell hw (q2))) ?_
          refine vt_valg rfl (fun w hw => os_f (os_lss rfl rfl) (by omega)) ?_
          refine vt_val (fun w hw => os_pick_f rfl rfl) ?_
          refine vt_val (fun w hw => os_move rfl) ?_
          refine vt_valg rfl (fun w hw => os_move rfl) ?_
          refine vt_valg rfl (fun w hw => os_move rfl) ?_
          refine vt_valg rfl (fun w hw => os_ixs Try.underlying79 Try.sizeOf78 rfl rfl (i := 0) (by omega) (by omega)) ?_
          refine vt_valg rfl (fun w hw => os_fa (o := 1) (k := 0) (by kernel_rfl) rfl) ?_
          refine vt_valg rfl (fun w hw => os_load Try.isAgg3 rfl (led_cell hw (q2))) ?_
          refine vt_valg rfl (fun w hw => os_f (os_gtr rfl rfl) (by omega)) ?_
          refine vt_val (fun w hw => os_pick_f rfl rfl) ?_
          refine vt_val (fun w hw => os_move rfl) ?_
          refine vt_valg rfl (fun w hw => os_move rfl) ?_
          refine vt_valg rfl (fun w hw => os_f (os_gtr rfl rfl) (by omega)) ?_
          refine vt_valg rfl (fun w hw => os_move rfl) ?_
          refine vt_skip rfl rfl ?_
          refine vt_skip rfl rfl ?_
          refine vt_skip rfl rfl ?_
          refine vt_skip rfl rfl ?_
          refine vt_skip rfl rfl ?_
          refine vt_skip rfl rfl ?_
          refine vt_skip rfl rfl ?_
          refine vt_skip rfl rfl ?_
          refine vt_skip rfl rfl ?_
          refine vt_skip rfl rfl ?_
          refine vt_skip rfl rfl ?_
          refine vt_skip rfl rfl ?_
          refine vt_valg rfl (fun w hw => os_pick_f rfl rfl) ?_
          refine vt_val (fun w hw => os_pick_f rfl rfl) ?_
          refine vt_nil (fun w hw => ?_)
          obtain ⟨q, rfl⟩ := hw
          refine v_cond_f rfl ?_
          refine v_skip ?_
          refine v_region ?_
          refine vl_val (os_move rfl) ?_
          refine vl_val (os_addi rfl rfl (by omega)) ?_
          refine vl_val (os_assign rfl) ?_
          refine vl_nil ?_
          exact ⟨0 + 1, ⟨rfl, rfl, trivial⟩, ⟨rfl, trivial⟩, ⟨by omega, by simp only [prevK]; omega, by rw [hg, hst, decide_eq_true (by unfold rowGood; omega)]; rfl, lee_d.trans b1 ⟨q, rfl⟩⟩, by dsimp only; omega⟩
        · obtain ⟨b', o', eb, q1', -, -⟩ := (show RdP w1 2 _ (rows.map rowC) from ha.led b1).at2 (i := i - 1) (by omega)
          cases eb
          have hp1 : prevK rows i = (rows.getD (i - 1) (0, 0)).1 := by obtain ⟨j, rfl⟩ : ∃ j, i = j + 1 := ⟨i - 1, by omega⟩; rfl
          by_cases hlt : (rows.getD i (0, 0)).1 < (rows.getD (i - 1) (0, 0)).1
          · refine v_skip ?_
            refine v_seq ?_
            refine v_block ?_
            refine v_seq ?_
            refine v_region_t LeD _ mixed (by kernel_rfl) lee_d (led_start _) ?_
            refine vt_val (fun w hw => os_move rfl) ?_
            refine vt_val (fun w hw => os_move rfl) ?_
            refine vt_val (fun w hw => os_ixs Try.underlying79 Try.sizeOf78 rfl rfl (i := i) (by omega) (by omega)) ?_
            refine vt_val (fun w hw => os_fa (o := 0) (k := 0) (by kernel_rfl) rfl) ?_
            refine vt_val (fun w hw => os_load Try.isAgg3 rfl (led_cell hw (q1))) ?_
            refine vt_val (fun w hw => os_f (os_lss rfl rfl) (by omega)) ?_
            refine vt_val (fun w hw => os_move rfl) ?_
            refine vt_valg rfl (fun w hw => os_move rfl) ?_
            refine vt_valg rfl (fun w hw => os_move rfl) ?_
            refine vt_valg rfl (fun w hw => os_ixs Try.underlying79 Try.sizeOf78 rfl rfl (i := i) (by omega) (by omega)) ?_
            refine vt_valg rfl (fun w hw => os_fa (o := 0) (k := 0) (by kernel_rfl) rfl) ?_
            refine vt_valg rfl (fun w hw => os_load Try.isAgg3 rfl (led_cell hw (q1))) ?_
            refine vt_valg rfl (fun w hw => os_move rfl) ?_
            refine vt_valg rfl (fun w hw => os_f (os_gtr rfl rfl) (by omega)) ?_
            refine vt_val (fun w hw => os_pick_f rfl rfl) ?_
            refine vt_val (fun w hw => os_move rfl) ?_
            refine vt_valg rfl (fun w hw => os_move rfl) ?_
            refine vt_valg rfl (fun w hw => os_move rfl) ?_
            refine vt_valg rfl (fun w hw => os_ixs Try.underlying79 Try.sizeOf78 rfl rfl (i := i) (by omega) (by omega)) ?_
            refine vt_valg rfl (fun w hw => os_fa (o := 1) (k := 0) (by kernel_rfl) rfl) ?_
            refine vt_valg rfl (fun w hw => os_load Try.isAgg3 rfl (led_cell hw (q2))) ?_
            refine vt_valg rfl (fun w hw => os_f (os_lss rfl rfl) (by omega)) ?_
            refine vt_val (fun w hw => os_pick_f rfl rfl) ?_
            refine vt_val (fun w hw => os_move rfl) ?_
            refine vt_valg rfl (fun w hw => os_move rfl) ?_
            refine vt_valg rfl (fun w hw => os_move rfl) ?_
            refine vt_valg rfl (fun w hw => os_ixs Try.underlying79 Try.sizeOf78 rfl rfl (i := i) (by omega) (by omega)) ?_
            refine vt_valg rfl (fun w hw => os_fa (o := 1) (k := 0) (by kernel_rfl) rfl) ?_
            refine vt_valg rfl (fun w hw => os_load Try.isAgg3 rfl (led_cell hw (q2))) ?_
            refine vt_valg rfl (fun w hw => os_f (os_gtr rfl rfl) (by omega)) ?_
            refine vt_val (fun w hw => os_pick_f rfl rfl) ?_
            refine vt_val (fun w hw => os_move rfl) ?_
            refine vt_valg rfl (fun w hw => os_move rfl) ?_
            refine vt_valg rfl (fun w hw => os_t (os_gtr rfl rfl) (by omega)) ?_
            refine vt_valg rfl (fun w hw => os_move rfl) ?_
            refine vt_valg rfl (fun w hw => os_move rfl) ?_
            refine vt_valg rfl (fun w hw => os_move rfl) ?_
            refine vt_valg rfl (fun w hw => os_ixs Try.underlying79 Try.sizeOf78 rfl rfl (i := i) (by omega) (by omega)) ?_
            refine vt_valg rfl (fun w hw => os_fa (o := 0) (k := 0) (by kernel_rfl) rfl) ?_
            refine vt_valg rfl (fun w hw => os_load Try.isAgg3 rfl (led_cell hw (q1))) ?_
            refine vt_valg rfl (fun w hw => os_move rfl) ?_
            refine vt_valg rfl (fun w hw => os_move rfl) ?_
            refine vt_valg rfl (fun w hw => os_subi rfl rfl (by omega)) ?_
            refine vt_valg rfl (fun w hw => os_ixs Try.underlying79 Try.sizeOf78 rfl rfl (i := i - 1) (by omega) (by omega)) ?_
            refine vt_valg rfl (fun w hw => os_fa (o := 0) (k := 0) (by kernel_rfl) rfl) ?_
            refine vt_valg rfl (fun w hw => os_load Try.isAgg3 rfl (led_cell hw (q1'))) ?_
            refine vt_valg rfl (fun w hw => os_t (os_lss rfl rfl) (by omega)) ?_
            refine vt_valg rfl (fun w hw => os_pick_t rfl rfl) ?_
            refine vt_val (fun w hw => os_pick_f rfl rfl) ?_
            refine vt_nil (fun w hw => ?_)
            obtain ⟨q, rfl⟩ := hw
            refine v_cond_t rfl ?_
            refine v_seq ?_
            refine v_region ?_
            refine vl_val (os_assign rfl) ?_
            refine vl_nil ?_
            refine v_ret ?_
            exact post_ret rfl rfl (⟨by rw [hg, hst, decide_eq_false (by unfold rowGood; omega)]; rfl, lee_d.trans b1 ⟨q, rfl⟩⟩)
          · refine v_skip ?_
            refine v_seq ?_
            refine v_block ?_
            refine v_seq ?_
            refine v_region_t LeD _ mixed (by kernel_rfl) lee_d (led_start _) ?_
            refine vt_val (fun w hw => os_move rfl) ?_
            refine vt_val (fun w hw => os_move rfl) ?_
            refine vt_val (fun w hw => os_ixs Try.underlying79 Try.sizeOf78 rfl rfl (i := i) (by omega) (by omega)) ?_
            refine vt_val (fun w hw => os_fa (o := 0) (k := 0) (by kernel_rfl) rfl) ?_
            refine vt_val (fun w hw => os_load Try.isAgg3 rfl (led_cell hw (q1))) ?_
            refine vt_val (fun w hw => os_f (os_lss rfl rfl) (by omega)) ?_
            refine vt_val (fun w hw => os_move rfl) ?_
            refine vt_valg rfl (fun w hw => os_move rfl) ?_
            refine vt_valg rfl (fun w hw => os_move rfl) ?_
            refine vt_valg rfl (fun w hw => os_ixs Try.underlying79 Try.sizeOf78 rfl rfl (i := i) (by omega) (by omega)) ?_
            refine vt_valg rfl (fun w hw => os_fa (o := 0) (k := 0) (by kernel_rfl) rfl) ?_
            refine vt_valg rfl (fun w hw => os_load Try.isAgg3 rfl (led_cell hw (q1))) ?_
            refine vt_valg rfl (fun w hw => os_move rfl) ?_
            refine vt_valg rfl (fun w hw => os_f (os_gtr rfl rfl) (by omega)) ?_
            refine vt_val (fun w hw => os_pick_f rfl rfl) ?_
            refine vt_val (fun w hw => os_move rfl) ?_
            refine vt_valg rfl (fun w hw => os_move rfl) ?_
            refine vt_valg rfl (fun w hw => os_move rfl) ?_
            refine vt_valg rfl (fun w hw => os_ixs Try.underlying79 Try.sizeOf78 rfl rfl (i := i) (by omega) (by omega)) ?_
            refine vt_valg rfl (fun w hw => os_fa (o := 1) (k := 0) (by kernel_rfl) rfl) ?_
            refine vt_valg rfl (fun w hw => os_load Try.isAgg3 rfl (led_cell hw (q2))) ?_
            refine vt_valg rfl (fun w hw => os_f (os_lss rfl rfl) (by omega)) ?_
            refine vt_val (fun w hw => os_pick_f rfl rfl) ?_
            refine vt_val (fun w hw => os_move rfl) ?_
            refine vt_valg rfl (fun w hw => os_move rfl) ?_
            refine vt_valg rfl (fun w hw => os_move rfl) ?_
            refine vt_valg rfl (fun w hw => os_ixs Try.underlying79 Try.sizeOf78 rfl rfl (i := i) (by omega) (by omega)) ?_
            refine vt_valg rfl (fun w hw => os_fa (o := 1) (k := 0) (by kernel_rfl) rfl) ?_
            refine vt_valg rfl (fun w hw => os_load Try.isAgg3 rfl (led_cell hw (q2))) ?_
            refine vt_valg rfl (fun w hw => os_f (os_gtr rfl rfl) (by omega)) ?_
            refine vt_val (fun w hw => os_pick_f rfl rfl) ?_
            refine vt_val (fun w hw => os_move rfl) ?_
            refine vt_valg rfl (fun w hw => os_move rfl) ?_
            refine vt_valg rfl (fun w hw => os_t (os_gtr rfl rfl) (by omega)) ?_
            refine vt_valg rfl (fun w hw => os_move rfl) ?_
            refine vt_valg rfl (fun w hw => os_move rfl) ?_
            refine vt_valg rfl (fun w hw => os_move rfl) ?_
            refine vt_valg rfl (fun w hw => os_ixs Try.underlying79 Try.sizeOf78 rfl rfl (i := i) (by omega) (by omega)) ?_
            refine vt_valg rfl (fun w hw => os_fa (o := 0) (k := 0) (by kernel_rfl) rfl) ?_
            refine vt_valg rfl (fun w hw => os_load Try.isAgg3 rfl (led_cell hw (q1))) ?_
            refine vt_valg rfl (fun w hw => os_move rfl) ?_
            refine vt_valg rfl (fun w hw => os_move rfl) ?_
            refine vt_valg rfl (fun w hw => os_subi rfl rfl (by omega)) ?_
            refine vt_valg rfl (fun w hw => os_ixs Try.underlying79 Try.sizeOf78 rfl rfl (i := i - 1) (by omega) (by omega)) ?_
            refine vt_valg rfl (fun w hw => os_fa (o := 0) (k := 0) (by kernel_rfl) rfl) ?_
            refine vt_valg rfl (fun w hw => os_load Try.isAgg3 rfl (led_cell hw (q1'))) ?_
            refine vt_valg rfl (fun w hw => os_f (os_lss rfl rfl) (by omega)) ?_
            refine vt_valg rfl (fun w hw => os_pick_t rfl rfl) ?_
            refine vt_val (fun w hw => os_pick_f rfl rfl) ?_
            refine vt_nil (fun w hw => ?_)
            obtain ⟨q, rfl⟩ := hw
            refine v_cond_f rfl ?_
            refine v_skip ?_
            refine v_region ?_
            refine vl_val (os_move rfl) ?_
            refine vl_val (os_addi rfl rfl (by omega)) ?_
            refine vl_val (os_assign rfl) ?_
            refine vl_nil ?_
            exact ⟨i + 1, ⟨rfl, rfl, trivial⟩, ⟨rfl, trivial⟩, ⟨by omega, by simp only [prevK]; omega, by rw [hg, hst, decide_eq_true (by unfold rowGood; omega)]; rfl, lee_d.trans b1 ⟨q, rfl⟩⟩, by dsimp only; omega⟩
    · obtain rfl : l = i := by omega
      refine v_exit ?_
      refine v_seq ?_
      refine v_region ?_
      refine vl_val (os_assign rfl) ?_
      refine vl_nil ?_
      refine v_ret ?_
      exact post_ret rfl rfl (⟨by rw [hg, List.drop_of_length_le (by omega)]; rfl, b1⟩)
  · have e0 : layOk n rows = false := by simp only [layOk]; rw [decide_eq_false (by omega)]; simp
    rw [e0]
    refine gives_enter Try.call150 Try.func150 rfl rfl rfl (by kernel_rfl) ?_
    rcases (by omega : n < 1 ∨ (1 ≤ n ∧ 255 < n) ∨ (1 ≤ n ∧ n ≤ 255 ∧ l < 1) ∨ (1 ≤ n ∧ n ≤ 255 ∧ 1 ≤ l ∧ 8 < l)) with g | ⟨g, g2⟩ | ⟨g, g2, g3⟩ | ⟨g, g2, g3, g4⟩
    · refine v_seq ?_
      refine v_region ?_
      refine vl_val (os_assign rfl) ?_
      refine vl_nil ?_
      refine v_seq ?_
      refine v_seq ?_
      refine v_region ?_
      refine vl_val (os_move rfl) ?_
      refine vl_val (os_t (os_lss rfl rfl) (by omega)) ?_
      refine vl_val (os_move rfl) ?_
      refine vl_skip rfl rfl ?_
      refine vl_skip rfl rfl ?_
      refine vl_val (os_pick_t rfl rfl) ?_
      refine vl_val (os_move rfl) ?_
      refine vl_skip rfl rfl ?_
      refine vl_skip rfl rfl ?_
      refine vl_skip rfl rfl ?_
      refine vl_val (os_pick_t rfl rfl) ?_
      refine vl_val (os_move rfl) ?_
      refine vl_skip rfl rfl ?_
      refine vl_skip rfl rfl ?_
      refine vl_skip rfl rfl ?_
      refine vl_val (os_pick_t rfl rfl) ?_
      refine vl_nil ?_
      refine v_cond_t rfl ?_
      refine v_seq ?_
      refine v_region ?_
      refine vl_val (os_assign rfl) ?_
      refine vl_nil ?_
      refine v_ret ?_
      exact post_ret rfl rfl (⟨rfl, lee_d.refl _⟩)
    · refine v_seq ?_
      refine v_region ?_
      refine vl_val (os_assign rfl) ?_
      refine vl_nil ?_
      refine v_seq ?_
      refine v_seq ?_
      refine v_region ?_
      refine vl_val (os_move rfl) ?_
      refine vl_val (os_f (os_lss rfl rfl) (by omega)) ?_
      refine vl_val (os_move rfl) ?_
      refine vl_valg rfl (os_move rfl) ?_
      refine vl_valg rfl (os_t (os_gtr rfl rfl) (by omega)) ?_
      refine vl_val (os_pick_f rfl rfl) ?_
      refine vl_val (os_move rfl) ?_
      refine vl_skip rfl rfl ?_
      refine vl_skip rfl rfl ?_
      refine vl_skip rfl rfl ?_
      refine vl_val (os_pick_t rfl rfl) ?_
      refine vl_val (os_move rfl) ?_
      refine vl_skip rfl rfl ?_
      refine vl_skip rfl rfl ?_
      refine vl_skip rfl rfl ?_
      refine vl_val (os_pick_t rfl rfl) ?_
      refine vl_nil ?_
      refine v_cond_t rfl ?_
      refine v_seq ?_
      refine v_region ?_
      refine vl_val (os_assign rfl) ?_
      refine vl_nil ?_
      refine v_ret ?_
      exact post_ret rfl rfl (⟨rfl, lee_d.refl _⟩)
    · refine v_seq ?_
      refine v_region ?_
      refine vl_val (os_assign rfl) ?_
      refine vl_nil ?_
      refine v_seq ?_
      refine v_seq ?_
      refine v_region ?_
      refine vl_val (os_move rfl) ?_
      refine vl_val (os_f (os_lss rfl rfl) (by omega)) ?_
      refine vl_val (os_move rfl) ?_
      refine vl_valg rfl (os_move rfl) ?_
      refine vl_valg rfl (os_f (os_gtr rfl rfl) (by omega)) ?_
      refine vl_val (os_pick_f rfl rfl) ?_
      refine vl_val (os_move rfl) ?_
      refine vl_valg rfl (os_move rfl) ?_
      refine vl_valg rfl (os_len Try.underlying79 rfl) ?_
      refine vl_valg rfl (os_t (os_lss rfl rfl) (by omega)) ?_
      refine vl_val (os_pick_f rfl rfl) ?_
      refine vl_val (os_move rfl) ?_
      refine vl_skip rfl rfl ?_
      refine vl_skip rfl rfl ?_
      refine vl_skip rfl rfl ?_
      refine vl_val (os_pick_t rfl rfl) ?_
      refine vl_nil ?_
      refine v_cond_t rfl ?_
      refine v_seq ?_
      refine v_region ?_
      refine vl_val (os_assign rfl) ?_
      refine vl_nil ?_
      refine v_ret ?_
      exact post_ret rfl rfl (⟨rfl, lee_d.refl _⟩)
    · refine v_seq ?_
      refine v_region ?_
      refine vl_val (os_assign rfl) ?_
      refine vl_nil ?_
      refine v_seq ?_
      refine v_seq ?_
      refine v_region ?_
      refine vl_val (os_move rfl) ?_
      refine vl_val (os_f (os_lss rfl rfl) (by omega)) ?_
      refine vl_val (os_move rfl) ?_
      refine vl_valg rfl (os_move rfl) ?_
      refine vl_valg rfl (os_f (os_gtr rfl rfl) (by omega)) ?_
      refine vl_val (os_pick_f rfl rfl) ?_
      refine vl_val (os_move rfl) ?_
      refine vl_valg rfl (os_move rfl) ?_
      refine vl_valg rfl (os_len Try.underlying79 rfl) ?_
      refine vl_valg rfl (os_f (os_lss rfl rfl) (by omega)) ?_
      refine vl_val (os_pick_f rfl rfl) ?_
      refine vl_val (os_move rfl) ?_
      refine vl_valg rfl (os_move rfl) ?_
      refine vl_valg rfl (os_len Try.underlying79 rfl) ?_
      refine vl_valg rfl (os_gtr rfl rfl) ?_
      refine vl_val (os_pick_f rfl rfl) ?_
      refine vl_nil ?_
      refine v_cond_yes rfl (by omega) ?_
      refine v_seq ?_
      refine v_region ?_
      refine vl_val (os_assign rfl) ?_
      refine vl_nil ?_
      refine v_ret ?_
      exact post_ret rfl rfl (⟨rfl, lee_d.refl _⟩)
theorem ref10_width (x : Int × Int) (w : World) : Gives Try.prog 151 #[.agg (rowC x).toArray] w fun v w' => v = .int .i64 (widthV x.2 x.1) ∧ Below w.heap.size w w' := by
  have hB := bk_new w (rowC x) 78
  have hb : Below w.heap.size w (w.alloc (.cells (rowC x).toArray 78)) := (Below.refl _ w).alloc (Nat.le_refl _) _
  refine gives_enter Try.call151 Try.func151 rfl rfl rfl (by kernel_rfl) ?_
  refine v_seq ?_
  refine v_region ?_
  refine vl_val (os_box rfl) ?_
  refine vl_val (os_assign rfl) ?_
  refine vl_nil ?_
  refine v_seq ?_
  refine v_region ?_
  refine vl_val (os_fa (o := 1) (k := 0) (by kernel_rfl) rfl) ?_
  refine vl_val (os_load Try.isAgg3 rfl (hB.cell rfl)) ?_
  refine vl_val (os_fa (o := 0) (k := 0) (by kernel_rfl) rfl) ?_
  refine vl_val (os_load Try.isAgg3 rfl (hB.cell rfl)) ?_
  refine vl_call (ref09_Width x.2 x.1 _) rfl ?_
  rintro v1 w1 ⟨rfl, rfl⟩
  refine vl_val (os_move rfl) ?_
  refine vl_val (os_extract rfl rfl) ?_
  refine vl_val (os_extract rfl rfl) ?_
  refine vl_val (os_assign rfl) ?_
  refine vl_val (os_assign rfl) ?_
  refine vl_nil ?_
  refine v_seq ?_
  refine v_region ?_
  refine vl_val (os_move rfl) ?_
  refine vl_val (os_assign rfl) ?_
  refine vl_nil ?_
  refine v_ret ?_
  exact post_ret rfl rfl (⟨rfl, hb⟩)
theorem ref10_Long (n : Int) (A : Option Addr) (l c : Nat) (rows : List (Int × Int)) (w : World) (ha : RdP w 2 A (rows.map rowC)) (hl : l = rows.length) :
    Gives Try.prog 130 #[.int .i64 n, .slice A l c] w fun v w' => v = .tuple #[.int .i64 (longV n rows), .int .i64 (errE (layOk n rows))] ∧ Below w.heap.size w w' := by
  cases hok : layOk n rows
  · skip
    refine gives_enter Try.call130 Try.func130 rfl rfl rfl (by kernel_rfl) ?_
    refine v_seq ?_
    refine v_region ?_
    refine vl_val (os_assign rfl) ?_
    refine vl_val (os_assign rfl) ?_
    refine vl_nil ?_
    refine v_seq ?_
    refine v_seq ?_
    refine v_region ?_
    refine vl_val (os_move rfl) ?_
    refine vl_val (os_move rfl) ?_
    refine vl_call (gives_boolb (ref10_Right n A l c rows w ha hl) hok) rfl ?_
    rintro v1 w1 ⟨rfl, b1⟩
    refine vl_val (os_not rfl) ?_
    refine vl_nil ?_
    refine v_cond_t rfl ?_
    refine v_seq ?_
    refine v_region ?_
    refine vl_val (os_assign rfl) ?_
    refine vl_val (os_assign rfl) ?_
    refine vl_nil ?_
    refine v_ret ?_
    exact post_ret2 rfl rfl rfl (⟨by simp [longV, hok, errE], led_below b1⟩)
  · obtain ⟨⟨p1, p2⟩, p3, p4, p5, p6⟩ := layOk_parts hok
    refine gives_enter Try.call130 Try.func130 rfl rfl rfl (by kernel_rfl) ?_
    refine v_seq ?_
    refine v_region ?_
    refine vl_val (os_assign rfl) ?_
    refine vl_val (os_assign rfl) ?_
    refine vl_nil ?_
    refine v_seq ?_
    refine v_seq ?_
    refine v_region ?_
    refine vl_val (os_move rfl) ?_
    refine vl_val (os_move rfl) ?_
    refine vl_call (gives_boolb (ref10_Right n A l c rows w ha hl) hok) rfl ?_
    rintro v1 w1 ⟨rfl, b1⟩
    have b1' : Below w.heap.size w w1 := led_below b1
    refine vl_val (os_not rfl) ?_
    refine vl_nil ?_
    refine v_cond_f rfl ?_
    refine v_skip ?_
    refine v_seq ?_
    refine v_region ?_
    refine vl_val (os_assign rfl) ?_
    refine vl_nil ?_
    refine v_seq ?_
    refine v_seq ?_
    refine v_region ?_
    refine vl_val (os_assign rfl) ?_
    refine vl_nil ?_
    refine v_block ?_
    refine v_loop [(1, _)] (fun (i : Nat) => [(6, .int .i64 (offS rows i)), (7, .int .i64 i)]) (fun i w' => i ≤ l ∧ Below w.heap.size w w') (fun i => l - i) (0) ⟨rfl, trivial⟩ ⟨rfl, rfl, trivial⟩ (⟨by omega, b1'⟩) ?_
    rintro i w2 ⟨hi, b2⟩
    refine v_seq ?_
    refine v_seq ?_
    refine v_region ?_
    refine vl_val (os_move rfl) ?_
    refine vl_val (os_move rfl) ?_
    refine vl_val (os_len Try.underlying79 rfl) ?_
    refine vl_val (os_lss rfl rfl) ?_
    refine vl_nil ?_
    refine v_cond_d rfl (fun h => ?_) (fun h => ?_)
    · obtain ⟨b, o, rfl, q1, q2, q3⟩ := (show RdP w2 2 A (rows.map rowC) from ha.keep b2).at2 (i := i) (by omega)
      have hb1 := offS_bd (rows := rows) (i + 1)
      have e1 : offS rows (i + 1) = offS rows i + widthV (rows.getD i (0, 0)).2 (rows.getD i (0, 0)).1 := rfl
      refine v_skip ?_
      refine v_seq ?_
      refine v_block ?_
      refine v_region ?_
      refine vl_val (os_move rfl) ?_
      refine vl_val (os_move rfl) ?_
      refine vl_val (os_move rfl) ?_
      refine vl_val (os_ixs Try.underlying79 Try.sizeOf78 rfl rfl (i := i) (by omega) (by omega)) ?_
      refine vl_val (os_loadP Try.underlying78 rfl (by kernel_rfl) rfl q3) ?_
      refine vl_call (ref10_width (rows.getD i (0, 0)) w2) rfl ?_
      rintro v3 w3 ⟨rfl, b3⟩
      refine vl_val (os_addi rfl rfl (by omega)) ?_
      refine vl_val (os_assign rfl) ?_
      refine vl_nil ?_
      refine v_region ?_
      refine vl_val (os_move rfl) ?_
      refine vl_val (os_addi rfl rfl (by omega)) ?_
      refine vl_val (os_assign rfl) ?_
      refine vl_nil ?_
      exact ⟨i + 1, ⟨rfl, trivial⟩, ⟨rfl, rfl, trivial⟩, ⟨by omega, b2.trans (b3.mono b2.size)⟩, by dsimp only; omega⟩
    · obtain rfl : l = i := by omega
      refine v_exit ?_
      refine v_seq ?_
      refine v_region ?_
      refine vl_val (os_move rfl) ?_
      refine vl_val (os_assign rfl) ?_
      refine vl_val (os_assign rfl) ?_
      refine vl_nil ?_
      refine v_ret ?_
      exact post_ret2 rfl rfl rfl (⟨by simp [longV, hok, errE, hl], b2⟩)
theorem ref11_Of (n : Int) (A : Option Addr) (l c : Nat) (rows : List (Int × Int)) (w : World) (ha : RdP w 2 A (rows.map rowC)) (hl : l = rows.length) :
    Gives Try.prog 85 #[.int .i64 n, .slice A l c] w fun v w' => v = .tuple #[.int .i64 (ofV n rows), .int .i64 (errE (layOk n rows))] ∧ Below w.heap.size w w' := by
  refine gives_enter Try.call85 Try.func85 rfl rfl rfl (by kernel_rfl) ?_
  refine v_seq ?_
  refine v_region ?_
  refine vl_val (os_assign rfl) ?_
  refine vl_val (os_assign rfl) ?_
  refine vl_nil ?_
  refine v_seq ?_
  refine v_region ?_
  refine vl_val (os_move rfl) ?_
  refine vl_val (os_move rfl) ?_
  refine vl_call (ref10_Long n A l c rows w ha hl) rfl ?_
  rintro v1 w1 ⟨rfl, b1⟩
  refine vl_val (os_move rfl) ?_
  refine vl_val (os_extract rfl rfl) ?_
  refine vl_val (os_extract rfl rfl) ?_
  refine vl_val (os_assign rfl) ?_
  refine vl_val (os_assign rfl) ?_
  refine vl_nil ?_
  cases hok : layOk n rows
  · refine v_seq ?_
    refine v_seq ?_
    refine v_region ?_
    refine vl_val (os_move rfl) ?_
    refine vl_val (os_neq rfl rfl) ?_
    refine vl_nil ?_
    refine v_cond_yes rfl (by decide) ?_
    refine v_seq ?_
    refine v_region ?_
    refine vl_val (os_move rfl) ?_
    refine vl_val (os_assign rfl) ?_
    refine vl_val (os_assign rfl) ?_
    refine vl_nil ?_
    refine v_ret ?_
    exact post_ret2 rfl rfl rfl (⟨by simp [ofV, hok, errE], b1⟩)
  · have hb := offS_bd (rows := rows) rows.length
    obtain ⟨-, p3, p4, -, -⟩ := layOk_parts hok
    rw [show longV n rows = offS rows rows.length by simp [longV, hok]]
    refine v_seq ?_
    refine v_seq ?_
    refine v_region ?_
    refine vl_val (os_move rfl) ?_
    refine vl_val (os_neq rfl rfl) ?_
    refine vl_nil ?_
    refine v_cond_no rfl (by decide) ?_
    refine v_skip ?_
    refine v_seq ?_
    refine v_region ?_
    refine vl_val (os_move rfl) ?_
    refine vl_val (os_len Try.underlying79 rfl) ?_
    refine vl_val (os_muli rfl rfl (by omega)) ?_
    refine vl_val (os_addi rfl rfl (by omega)) ?_
    refine vl_val (os_move rfl) ?_
    refine vl_val (os_addi rfl rfl (by omega)) ?_
    refine vl_val (os_assign rfl) ?_
    refine vl_val (os_assign rfl) ?_
    refine vl_nil ?_
    refine v_ret ?_
    exact post_ret2 rfl rfl rfl (⟨by simp [ofV, hok, errE, hl], b1⟩)

theorem ref11_Right (n m b : Int) (w : World) : Gives Try.prog 88 #[.agg #[.int .i64 n, .int .i64 m, .int .i64 b]] w fun v w' => v = .bool (rightB n m b) ∧ Below w.heap.size w w' := by
  have hbel : Below w.heap.size w (w.alloc (.cells #[.int .i64 n, .int .i64 m, .int .i64 b] 117)) := (Below.refl _ w).alloc (Nat.le_refl _) _
  have hB := bk_new w [.int .i64 n, .int .i64 m, .int .i64 b] 117
  refine gives_enter Try.call88 Try.func88 rfl rfl rfl (by kernel_rfl) ?_
  rcases (by omega : n < 1 ∨ (1 ≤ n ∧ 255 < n) ∨ (1 ≤ n ∧ n ≤ 255 ∧ m < 64) ∨ (1 ≤ n ∧ n ≤ 255 ∧ 64 ≤ m)) with g | ⟨g, g2⟩ | ⟨g, g2, g3⟩ | ⟨g, g2, g3⟩
  · refine v_seq ?_
    refine v_region ?_
    refine vl_val (os_box rfl) ?_
    refine vl_val (os_assign rfl) ?_
    refine vl_nil ?_
    refine v_seq ?_
    refine v_region ?_
    refine vl_val (os_fa (o := 0) (k := 0) (by kernel_rfl) rfl) ?_
    refine vl_val (os_load Try.isAgg3 rfl (hB.cell (i := 0) rfl)) ?_
    refine vl_val (os_f (os_geq rfl rfl) (by omega)) ?_
    refine vl_val (os_move rfl) ?_
    refine vl_skip rfl rfl ?_
    refine vl_skip rfl rfl ?_
    refine vl_skip rfl rfl ?_
    refine vl_val (os_pick_f rfl rfl) ?_
    refine vl_val (os_move rfl) ?_
    refine vl_skip rfl rfl ?_
    refine vl_skip rfl rfl ?_
    refine vl_skip rfl rfl ?_
    refine vl_val (os_pick_f rfl rfl) ?_
    refine vl_val (os_move rfl) ?_
    refine vl_skip rfl rfl ?_
    refine vl_skip rfl rfl ?_
    refine vl_skip rfl rfl ?_
    refine vl_val (os_pick_f rfl rfl) ?_
    refine vl_val (os_move rfl) ?_
    refine vl_skip rfl rfl ?_
    refine vl_skip rfl rfl ?_
    refine vl_skip rfl rfl ?_
    refine vl_val (os_pick_f rfl rfl) ?_
    refine vl_val (os_move rfl) ?_
    refine vl_skip rfl rfl ?_
    refine vl_skip rfl rfl ?_
    refine vl_skip rfl rfl ?_
    refine vl_val (os_pick_f rfl rfl) ?_
    refine vl_val (os_assign rfl) ?_
    refine vl_nil ?_
    refine v_ret ?_
    exact post_ret rfl rfl (⟨by simp [rightB]; omega, hbel⟩)
  · refine v_seq ?_
    refine v_region ?_
    refine vl_val (os_box rfl) ?_
    refine vl_val (os_assign rfl) ?_
    refine vl_nil ?_
    refine v_seq ?_
    refine v_region ?_
    refine vl_val (os_fa (o := 0) (k := 0) (by kernel_rfl) rfl) ?_
    refine vl_val (os_load Try.isAgg3 rfl (hB.cell (i := 0) rfl)) ?_
    refine vl_val (os_t (os_geq rfl rfl) (by omega)) ?_
    refine vl_val (os_move rfl) ?_
    refine vl_valg rfl (os_fa (o := 0) (k := 0) (by kernel_rfl) rfl) ?_
    refine vl_valg rfl (os_load Try.isAgg3 rfl (hB.cell (i := 0) rfl)) ?_
    refine vl_valg rfl (os_f (os_leq rfl rfl) (by omega)) ?_
    refine vl_val (os_pick_t rfl rfl) ?_
    refine vl_val (os_move rfl) ?_
    refine vl_skip rfl rfl ?_
    refine vl_skip rfl rfl ?_
    refine vl_skip rfl rfl ?_
    refine vl_val (os_pick_f rfl rfl) ?_
    refine vl_val (os_move rfl) ?_
    refine vl_skip rfl rfl ?_
    refine vl_skip rfl rfl ?_
    refine vl_skip rfl rfl ?_
    refine vl_val (os_pick_f rfl rfl) ?_
    refine vl_val (os_move rfl) ?_
    refine vl_skip rfl rfl ?_
    refine vl_skip rfl rfl ?_
    refine vl_skip rfl rfl ?_
    refine vl_val (os_pick_f rfl rfl) ?_
    refine vl_val (os_move rfl) ?_
    refine vl_skip rfl rfl ?_
    refine vl_skip rfl rfl ?_
    refine vl_skip rfl rfl ?_
    refine vl_val (os_pick_f rfl rfl) ?_
    refine vl_val (os_assign rfl) ?_
    refine vl_nil ?_
    refine v_ret ?_
    exact post_ret rfl rfl (⟨by simp [rightB]; omega, hbel⟩)
  · refine v_seq ?_
    refine v_region ?_
    refine vl_val (os_box rfl) ?_
    refine vl_val (os_assign rfl) ?_
    refine vl_nil ?_
    refine v_seq ?_
    refine v_region ?_
    refine vl_val (os_fa (o := 0) (k := 0) (by kernel_rfl) rfl) ?_
    refine vl_val (os_load Try.isAgg3 rfl (hB.cell (i := 0) rfl)) ?_
    refine vl_val (os_t (os_geq rfl rfl) (by omega)) ?_
    refine vl_val (os_move rfl) ?_
    refine vl_valg rfl (os_fa (o := 0) (k := 0) (by kernel_rfl) rfl) ?_
    refine vl_valg rfl (os_load Try.isAgg3 rfl (hB.cell (i := 0) rfl)) ?_
    refine vl_valg rfl (os_t (os_leq rfl rfl) (by omega)) ?_
    refine vl_val (os_pick_t rfl rfl) ?_
    refine vl_val (os_move rfl) ?_
    refine vl_valg rfl (os_fa (o := 1) (k := 0) (by kernel_rfl) rfl) ?_
    refine vl_valg rfl (os_load Try.isAgg3 rfl (hB.cell (i := 1) rfl)) ?_
    refine vl_valg rfl (os_f (os_geq rfl rfl) (by omega)) ?_
    refine vl_val (os_pick_t rfl rfl) ?_
    refine vl_val (os_move rfl) ?_
    refine vl_skip rfl rfl ?_
    refine vl_skip rfl rfl ?_
    refine vl_skip rfl rfl ?_
    refine vl_val (os_pick_f rfl rfl) ?_
    refine vl_val (os_move rfl) ?_
    refine vl_skip rfl rfl ?_
    refine vl_skip rfl rfl ?_
    refine vl_skip rfl rfl ?_
    refine vl_val (os_pick_f rfl rfl) ?_
    refine vl_val (os_move rfl) ?_
    refine vl_skip rfl rfl ?_
    refine vl_skip rfl rfl ?_
    refine vl_skip rfl rfl ?_
    refine vl_val (os_pick_f rfl rfl) ?_
    refine vl_val (os_assign rfl) ?_
    refine vl_nil ?_
    refine v_ret ?_
    exact post_ret rfl rfl (⟨by simp [rightB]; omega, hbel⟩)
  · rcases (by omega : 1500 < m ∨ (m ≤ 1500 ∧ b < 1) ∨ (m ≤ 1500 ∧ 1 ≤ b)) with g4 | ⟨g4, g5⟩ | ⟨g4, g5⟩
    · refine v_seq ?_
      refine v_region ?_
      refine vl_val (os_box rfl) ?_
      refine vl_val (os_assign rfl) ?_
      refine vl_nil ?_
      refine v_seq ?_
      refine v_region ?_
      refine vl_val (os_fa (o := 0) (k := 0) (by kernel_rfl) rfl) ?_
      refine vl_val (os_load Try.isAgg3 rfl (hB.cell (i := 0) rfl)) ?_
      refine vl_val (os_t (os_geq rfl rfl) (by omega)) ?_
      refine vl_val (os_move rfl) ?_
      refine vl_valg rfl (os_fa (o := 0) (k := 0) (by kernel_rfl) rfl) ?_
      refine vl_valg rfl (os_load Try.isAgg3 rfl (hB.cell (i := 0) rfl)) ?_
      refine vl_valg rfl (os_t (os_leq rfl rfl) (by omega)) ?_
      refine vl_val (os_pick_t rfl rfl) ?_
      refine vl_val (os_move rfl) ?_
      refine vl_valg rfl (os_fa (o := 1) (k := 0) (by kernel_rfl) rfl) ?_
      refine vl_valg rfl (os_load Try.isAgg3 rfl (hB.cell (i := 1) rfl)) ?_
      refine vl_valg rfl (os_t (os_geq rfl rfl) (by omega)) ?_
      refine vl_val (os_pick_t rfl rfl) ?_
      refine vl_val (os_move rfl) ?_
      refine vl_valg rfl (os_fa (o := 1) (k := 0) (by kernel_rfl) rfl) ?_
      refine vl_valg rfl (os_load Try.isAgg3 rfl (hB.cell (i := 1) rfl)) ?_
      refine vl_valg rfl (os_f (os_leq rfl rfl) (by omega)) ?_
      refine vl_val (os_pick_t rfl rfl) ?_
      refine vl_val (os_move rfl) ?_
      refine vl_skip rfl rfl ?_
      refine vl_skip rfl rfl ?_
      refine vl_skip rfl rfl ?_
      refine vl_val (os_pick_f rfl rfl) ?_
      refine vl_val (os_move rfl) ?_
      refine vl_skip rfl rfl ?_
      refine vl_skip rfl rfl ?_
      refine vl_skip rfl rfl ?_
      refine vl_val (os_pick_f rfl rfl) ?_
      refine vl_val (os_assign rfl) ?_
      refine vl_nil ?_
      refine v_ret ?_
      exact post_ret rfl rfl (⟨by simp [rightB]; omega, hbel⟩)
    · refine v_seq ?_
      refine v_region ?_
      refine vl_val (os_box rfl) ?_
      refine vl_val (os_assign rfl) ?_
      refine vl_nil ?_
      refine v_seq ?_
      refine v_region ?_
      refine vl_val (os_fa (o := 0) (k := 0) (by kernel_rfl) rfl) ?_
      refine vl_val (os_load Try.isAgg3 rfl (hB.cell (i := 0) rfl)) ?_
      refine vl_val (os_t (os_geq rfl rfl) (by omega)) ?_
      refine vl_val (os_move rfl) ?_
      refine vl_valg rfl (os_fa (o := 0) (k := 0) (by kernel_rfl) rfl) ?_
      refine vl_valg rfl (os_load Try.isAgg3 rfl (hB.cell (i := 0) rfl)) ?_
      refine vl_valg rfl (os_t (os_leq rfl rfl) (by omega)) ?_
      refine vl_val (os_pick_t rfl rfl) ?_
      refine vl_val (os_move rfl) ?_
      refine vl_valg rfl (os_fa (o := 1) (k := 0) (by kernel_rfl) rfl) ?_
      refine vl_valg rfl (os_load Try.isAgg3 rfl (hB.cell (i := 1) rfl)) ?_
      refine vl_valg rfl (os_t (os_geq rfl rfl) (by omega)) ?_
      refine vl_val (os_pick_t rfl rfl) ?_
      refine vl_val (os_move rfl) ?_
      refine vl_valg rfl (os_fa (o := 1) (k := 0) (by kernel_rfl) rfl) ?_
      refine vl_valg rfl (os_load Try.isAgg3 rfl (hB.cell (i := 1) rfl)) ?_
      refine vl_valg rfl (os_t (os_leq rfl rfl) (by omega)) ?_
      refine vl_val (os_pick_t rfl rfl) ?_
      refine vl_val (os_move rfl) ?_
      refine vl_valg rfl (os_fa (o := 2) (k := 0) (by kernel_rfl) rfl) ?_
      refine vl_valg rfl (os_load Try.isAgg3 rfl (hB.cell (i := 2) rfl)) ?_
      refine vl_valg rfl (os_f (os_geq rfl rfl) (by omega)) ?_
      refine vl_val (os_pick_t rfl rfl) ?_
      refine vl_val (os_move rfl) ?_
      refine vl_skip rfl rfl ?_
      refine vl_skip rfl rfl ?_
      refine vl_skip rfl rfl ?_
      refine vl_val (os_pick_f rfl rfl) ?_
      refine vl_val (os_assign rfl) ?_
      refine vl_nil ?_
      refine v_ret ?_
      exact post_ret rfl rfl (⟨by simp [rightB]; omega, hbel⟩)
    · refine v_seq ?_
      refine v_region ?_
      refine vl_val (os_box rfl) ?_
      refine vl_val (os_assign rfl) ?_
      refine vl_nil ?_
      refine v_seq ?_
      refine v_region ?_
      refine vl_val (os_fa (o := 0) (k := 0) (by kernel_rfl) rfl) ?_
      refine vl_val (os_load Try.isAgg3 rfl (hB.cell (i := 0) rfl)) ?_
      refine vl_val (os_t (os_geq rfl rfl) (by omega)) ?_
      refine vl_val (os_move rfl) ?_
      refine vl_valg rfl (os_fa (o := 0) (k := 0) (by kernel_rfl) rfl) ?_
      refine vl_valg rfl (os_load Try.isAgg3 rfl (hB.cell (i := 0) rfl)) ?_
      refine vl_valg rfl (os_t (os_leq rfl rfl) (by omega)) ?_
      refine vl_val (os_pick_t rfl rfl) ?_
      refine vl_val (os_move rfl) ?_
      refine vl_valg rfl (os_fa (o := 1) (k := 0) (by kernel_rfl) rfl) ?_
      refine vl_valg rfl (os_load Try.isAgg3 rfl (hB.cell (i := 1) rfl)) ?_
      refine vl_valg rfl (os_t (os_geq rfl rfl) (by omega)) ?_
      refine vl_val (os_pick_t rfl rfl) ?_
      refine vl_val (os_move rfl) ?_
      refine vl_valg rfl (os_fa (o := 1) (k := 0) (by kernel_rfl) rfl) ?_
      refine vl_valg rfl (os_load Try.isAgg3 rfl (hB.cell (i := 1) rfl)) ?_
      refine vl_valg rfl (os_t (os_leq rfl rfl) (by omega)) ?_
      refine vl_val (os_pick_t rfl rfl) ?_
      refine vl_val (os_move rfl) ?_
      refine vl_valg rfl (os_fa (o := 2) (k := 0) (by kernel_rfl) rfl) ?_
      refine vl_valg rfl (os_load Try.isAgg3 rfl (hB.cell (i := 2) rfl)) ?_
      refine vl_valg rfl (os_t (os_geq rfl rfl) (by omega)) ?_
      refine vl_val (os_pick_t rfl rfl) ?_
      refine vl_val (os_move rfl) ?_
      refine vl_valg rfl (os_fa (o := 2) (k := 0) (by kernel_rfl) rfl) ?_
      refine vl_valg rfl (os_load Try.isAgg3 rfl (hB.cell (i := 2) rfl)) ?_
      refine vl_valg rfl (os_leq rfl rfl) ?_
      refine vl_val (os_pick_t rfl rfl) ?_
      refine vl_val (os_assign rfl) ?_
      refine vl_nil ?_
      refine v_ret ?_
      exact post_ret rfl rfl (⟨by unfold rightB; congr 1; rw [decide_eq_decide]; omega, hbel⟩)

theorem ref11_Room (n m b l : Int) (w : World) : Gives Try.prog 86 #[.agg #[.int .i64 n, .int .i64 m, .int .i64 b], .int .i64 l] w fun v w' => v = .tuple #[.int .i64 (roomV n m b l), .int .i64 (errE (roomOk n m b l))] ∧ Below w.heap.size w w' := by
  have hbel : Below w.heap.size w (w.alloc (.cells #[.int .i64 n, .int .i64 m, .int .i64 b] 117)) := (Below.refl _ w).alloc (Nat.le_refl _) _
  have hB := bk_new w [.int .i64 n, .int .i64 m, .int .i64 b] 117
  refine gives_enter Try.call86 Try.func86 rfl rfl rfl (by kernel_rfl) ?_
  cases hr : rightB n m b
  · refine v_seq ?_
    refine v_region ?_
    refine vl_val (os_box rfl) ?_
    refine vl_val (os_assign rfl) ?_
    refine vl_val (os_assign rfl) ?_
    refine vl_nil ?_
    refine v_seq ?_
    refine v_seq ?_
    refine v_region ?_
    refine vl_val (os_loadB Try.underlying117 rfl (by kernel_rfl) rfl (hB)) ?_
    refine vl_call (gives_boolb (ref11_Right n m b _) hr) rfl ?_
    rintro v1 w1 ⟨rfl, b1⟩
    refine vl_val (os_not rfl) ?_
    refine vl_val (os_move rfl) ?_
    refine vl_skip rfl rfl ?_
    refine vl_skip rfl rfl ?_
    refine vl_val (os_pick_t rfl rfl) ?_
    refine vl_val (os_move rfl) ?_
    refine vl_skip rfl rfl ?_
    refine vl_skip rfl rfl ?_
    refine vl_val (os_pick_t rfl rfl) ?_
    refine vl_nil ?_
    refine v_cond_t rfl ?_
    refine v_seq ?_
    refine v_region ?_
    refine vl_val (os_assign rfl) ?_
    refine vl_val (os_assign rfl) ?_
    refine vl_nil ?_
    refine v_ret ?_
    exact post_ret2 rfl rfl rfl (⟨by simp [roomV, roomOk, hr, errE], hbel.trans (b1.mono hbel.size)⟩)
  · cases hl : betw l 1 8
    · have hl' : l < 1 ∨ (1 ≤ l ∧ 8 < l) := by simp [betw] at hl; omega
      rcases hl' with g | ⟨g, g2⟩
      · refine v_seq ?_
        refine v_region ?_
        refine vl_val (os_box rfl) ?_
        refine vl_val (os_assign rfl) ?_
        refine vl_val (os_assign rfl) ?_
        refine vl_nil ?_
        refine v_seq ?_
        refine v_seq ?_
        refine v_region ?_
        refine vl_val (os_loadB Try.underlying117 rfl (by kernel_rfl) rfl (hB)) ?_
        refine vl_call (gives_boolb (ref11_Right n m b _) hr) rfl ?_
        rintro v1 w1 ⟨rfl, b1⟩
        refine vl_val (os_not rfl) ?_
        refine vl_val (os_move rfl) ?_
        refine vl_valg rfl (os_move rfl) ?_
        refine vl_valg rfl (os_t (os_lss rfl rfl) (by omega)) ?_
        refine vl_val (os_pick_f rfl rfl) ?_
        refine vl_val (os_move rfl) ?_
        refine vl_skip rfl rfl ?_
        refine vl_skip rfl rfl ?_
        refine vl_val (os_pick_t rfl rfl) ?_
        refine vl_nil ?_
        refine v_cond_t rfl ?_
        refine v_seq ?_
        refine v_region ?_
        refine vl_val (os_assign rfl) ?_
        refine vl_val (os_assign rfl) ?_
        refine vl_nil ?_
        refine v_ret ?_
        exact post_ret2 rfl rfl rfl (⟨by simp [roomV, roomOk, hr, hl, errE], hbel.trans (b1.mono hbel.size)⟩)
      · refine v_seq ?_
        refine v_region ?_
        refine vl_val (os_box rfl) ?_
        refine vl_val (os_assign rfl) ?_
        refine vl_val (os_assign rfl) ?_
        refine vl_nil ?_
        refine v_seq ?_
        refine v_seq ?_
        refine v_region ?_
        refine vl_val (os_loadB Try.underlying117 rfl (by kernel_rfl) rfl (hB)) ?_
        refine vl_call (gives_boolb (ref11_Right n m b _) hr) rfl ?_
        rintro v1 w1 ⟨rfl, b1⟩
        refine vl_val (os_not rfl) ?_
        refine vl_val (os_move rfl) ?_
        refine vl_valg rfl (os_move rfl) ?_
        refine vl_valg rfl (os_f (os_lss rfl rfl) (by omega)) ?_
        refine vl_val (os_pick_f rfl rfl) ?_
        refine vl_val (os_move rfl) ?_
        refine vl_valg rfl (os_move rfl) ?_
        refine vl_valg rfl (os_gtr rfl rfl) ?_
        refine vl_val (os_pick_f rfl rfl) ?_
        refine vl_nil ?_
        refine v_cond_yes rfl (by omega) ?_
        refine v_seq ?_
        refine v_region ?_
        refine vl_val (os_assign rfl) ?_
        refine vl_val (os_assign rfl) ?_
        refine vl_nil ?_
        refine v_ret ?_
        exact post_ret2 rfl rfl rfl (⟨by simp [roomV, roomOk, hr, hl, errE], hbel.trans (b1.mono hbel.size)⟩)
    · have hl' : 1 ≤ l ∧ l ≤ 8 := by simpa [betw] using hl
      have hro : roomOk n m b l = true := by simp [roomOk, hr, hl]
      have hrb := room_bd hro
      have hrr := right_bd hr
      refine v_seq ?_
      refine v_region ?_
      refine vl_val (os_box rfl) ?_
      refine vl_val (os_assign rfl) ?_
      refine vl_val (os_assign rfl) ?_
      refine vl_nil ?_
      refine v_seq ?_
      refine v_seq ?_
      refine v_region ?_
      refine vl_val (os_loadB Try.underlying117 rfl (by kernel_rfl) rfl (hB)) ?_
      refine vl_call (gives_boolb (ref11_Right n m b _) hr) rfl ?_
      rintro v1 w1 ⟨rfl, b1⟩
      refine vl_val (os_not rfl) ?_
      refine vl_val (os_move rfl) ?_
      refine vl_valg rfl (os_move rfl) ?_
      refine vl_valg rfl (os_f (os_lss rfl rfl) (by omega)) ?_
      refine vl_val (os_pick_f rfl rfl) ?_
      refine vl_val (os_move rfl) ?_
      refine vl_valg rfl (os_move rfl) ?_
      refine vl_valg rfl (os_gtr rfl rfl) ?_
      refine vl_val (os_pick_f rfl rfl) ?_
      refine vl_nil ?_
      refine v_cond_no rfl (by omega) ?_
      have b1' := hbel.trans (b1.mono hbel.size)
      have hB1 := hB.keep b1
      refine v_skip ?_
      refine v_seq ?_
      refine v_region ?_
      refine vl_val (os_move rfl) ?_
      refine vl_val (os_muli rfl rfl (by omega)) ?_
      refine vl_val (os_addi rfl rfl (by omega)) ?_
      refine vl_val (os_assign rfl) ?_
      refine vl_nil ?_
      refine v_seq ?_
      refine v_region ?_
      refine vl_val (os_assign rfl) ?_
      refine vl_nil ?_
      refine v_seq ?_
      refine v_block ?_
      refine v_loop [(2, _), (6, _)] (fun (x : Int) => [(7, .int .i64 x)]) (fun x w' => -1 ≤ x ∧ x ≤ roomW n m b l ∧ w' = w1) (fun x => (roomW n m b l - x).toNat) (-1) ⟨rfl, rfl, trivial⟩ ⟨rfl, trivial⟩ (⟨by omega, hrb.1, rfl⟩) ?_
      rintro x w1 ⟨hx1, hx2, rfl⟩
      have hri := room_iff hro (show 0 ≤ x + 1 by omega)
      have hmul : 0 ≤ n * (18 + 3 * l + x + 1) ∧ n * (18 + 3 * l + x + 1) ≤ 255 * 2000 := ⟨Int.mul_nonneg (by omega) (by omega), Int.mul_le_mul (by omega) (by omega) (by omega) (by omega)⟩
      have hcm : (18 + 3 * l + (x + 1)) * n = n * (18 + 3 * l + x + 1) := by rw [Int.mul_comm]; congr 1; omega
      rw [hcm] at hri
      by_cases hle : 18 + 3 * l + x + 1 ≤ m
      · refine v_seq ?_
        refine v_seq ?_
        refine v_region ?_
        refine vl_val (os_move rfl) ?_
        refine vl_val (os_move rfl) ?_
        refine vl_val (os_addi rfl rfl (by omega)) ?_
        refine vl_val (os_addi rfl rfl (by omega)) ?_
        refine vl_val (os_fa (o := 1) (k := 0) (by kernel_rfl) rfl) ?_
        refine vl_val (os_load Try.isAgg3 rfl (hB1.cell (i := 1) rfl)) ?_
        refine vl_val (os_t (os_leq rfl rfl) (by omega)) ?_
        refine vl_val (os_move rfl) ?_
        refine vl_valg rfl (os_fa (o := 0) (k := 0) (by kernel_rfl) rfl) ?_
        refine vl_valg rfl (os_load Try.isAgg3 rfl (hB1.cell (i := 0) rfl)) ?_
        refine vl_valg rfl (os_move rfl) ?_
        refine vl_valg rfl (os_move rfl) ?_
        refine vl_valg rfl (os_addi rfl rfl (by omega)) ?_
        refine vl_valg rfl (os_addi rfl rfl (by omega)) ?_
        refine vl_valg rfl (os_mul rfl rfl (i64_fit ⟨by omega, by omega⟩)) ?_
        refine vl_valg rfl (os_fa (o := 2) (k := 0) (by kernel_rfl) rfl) ?_
        refine vl_valg rfl (os_load Try.isAgg3 rfl (hB1.cell (i := 2) rfl)) ?_
        refine vl_valg rfl (os_leq rfl rfl) ?_
        refine vl_val (os_pick_t rfl rfl) ?_
        refine vl_nil ?_
        refine v_cond_d rfl (fun hlt => ?_) (fun hlt => ?_)
        · refine v_skip ?_
          refine v_block ?_
          refine v_region ?_
          refine vl_val (os_move rfl) ?_
          refine vl_val (os_addi rfl rfl (by omega)) ?_
          refine vl_val (os_assign rfl) ?_
          refine vl_nil ?_
          exact ⟨x + 1, ⟨rfl, rfl, trivial⟩, ⟨rfl, trivial⟩, ⟨by omega, by omega, rfl⟩, by dsimp only; omega⟩
        · obtain rfl : roomW n m b l = x := by omega
          refine v_exit ?_
          refine v_seq ?_
          refine v_region ?_
          refine vl_val (os_move rfl) ?_
          refine vl_val (os_assign rfl) ?_
          refine vl_val (os_assign rfl) ?_
          refine vl_nil ?_
          refine v_ret ?_
          exact post_ret2 rfl rfl rfl (⟨by simp [roomV, hro, errE], b1'⟩)
      · refine v_seq ?_
        refine v_seq ?_
        refine v_region ?_
        refine vl_val (os_move rfl) ?_
        refine vl_val (os_move rfl) ?_
        refine vl_val (os_addi rfl rfl (by omega)) ?_
        refine vl_val (os_addi rfl rfl (by omega)) ?_
        refine vl_val (os_fa (o := 1) (k := 0) (by kernel_rfl) rfl) ?_
        refine vl_val (os_load Try.isAgg3 rfl (hB1.cell (i := 1) rfl)) ?_
        refine vl_val (os_f (os_leq rfl rfl) (by omega)) ?_
        obtain rfl : roomW n m b l = x := by omega
        refine vl_val (os_move rfl) ?_
        refine vl_skip rfl rfl ?_
        refine vl_skip rfl rfl ?_
        refine vl_skip rfl rfl ?_
        refine vl_skip rfl rfl ?_
        refine vl_skip rfl rfl ?_
        refine vl_skip rfl rfl ?_
        refine vl_skip rfl rfl ?_
        refine vl_skip rfl rfl ?_
        refine vl_skip rfl rfl ?_
        refine vl_skip rfl rfl ?_
        refine vl_val (os_pick_f rfl rfl) ?_
        refine vl_nil ?_
        refine v_cond_f rfl ?_
        refine v_exit ?_
        refine v_seq ?_
        refine v_region ?_
        refine vl_val (os_move rfl) ?_
        refine vl_val (os_assign rfl) ?_
        refine vl_val (os_assign rfl) ?_
        refine vl_nil ?_
        refine v_ret ?_
        exact post_ret2 rfl rfl rfl (⟨by simp [roomV, hro, errE], b1'⟩)
theorem lens_bad {ls : List Int} {i : Nat} (hi : i < ls.length) (h : ls.getD i 0 < 0 ∨ 65535 < ls.getD i 0) : lensB ls = false := by
  cases hb : lensB ls
  · rfl
  · have := (lens_bd hb).2.2 i hi; omega
theorem lens_good {ls : List Int} {l : Nat} (h : ∀ j, j < l → 0 ≤ ls.getD j 0 ∧ ls.getD j 0 ≤ 65535) (hl : l = ls.length) : lensB ls = decide (1 ≤ l ∧ l ≤ 8) := by
  subst hl
  have e : (ls.any fun z => !betw z 0 65535) = false := by
    rw [List.any_eq_false]
    intro z hz
    obtain ⟨i, hi, rfl⟩ := List.getElem_of_mem hz
    have := h i hi
    have e : ls.getD i 0 = ls[i] := by simp [hi]
    rw [e] at this
    simp [betw, this]
  unfold lensB
  rw [e]
  simp only [Bool.not_false, Bool.and_true, betw]
  rw [decide_eq_decide]; omega
theorem lens_step {ls : List Int} {i : Nat} (hb : ∀ j, j < i → 0 ≤ ls.getD j 0 ∧ ls.getD j 0 ≤ 65535) (h : 0 ≤ ls.getD i 0 ∧ ls.getD i 0 ≤ 65535) : ∀ j, j < i + 1 → 0 ≤ ls.getD j 0 ∧ ls.getD j 0 ≤ 65535 := fun j hj => by
  rcases Nat.lt_or_ge j i with h1 | h1
  · exact hb j h1
  · obtain rfl : j = i := by omega
    exact h
theorem ref11_lengths (A : Option Addr) (l c : Nat) (lens : List Int) (w : World) (ha : Rd w .i64 A lens) (hl : l = lens.length) (hl9 : l ≤ 100000) : Gives Try.prog 131 #[.slice A l c] w fun v w' => v = .bool (lensB lens) ∧ w' = w := by
  refine gives_enter Try.call131 Try.func131 rfl rfl rfl (by kernel_rfl) ?_
  refine v_seq ?_
  refine v_region ?_
  refine vl_val (os_assign rfl) ?_
  refine vl_nil ?_
  refine v_seq ?_
  refine v_seq ?_
  refine v_region ?_
  refine vl_val (os_assign rfl) ?_
  refine vl_nil ?_
  refine v_block ?_
  refine v_loop [(0, _)] (fun (i : Nat) => [(3, .int .i64 i)]) (fun i w' => i ≤ l ∧ (∀ j, j < i → 0 ≤ lens.getD j 0 ∧ lens.getD j 0 ≤ 65535) ∧ w' = w) (fun i => l - i) (0) ⟨rfl, trivial⟩ ⟨rfl, trivial⟩ (⟨by omega, fun j hj => absurd hj (by omega), rfl⟩) ?_
  rintro i w ⟨hi, hb, rfl⟩
  refine v_seq ?_
  refine v_seq ?_
  refine v_region ?_
  refine vl_val (os_move rfl) ?_
  refine vl_val (os_move rfl) ?_
  refine vl_val (os_len Try.underlying40 rfl) ?_
  refine vl_val (os_lss rfl rfl) ?_
  refine vl_nil ?_
  refine v_cond_d rfl (fun h => ?_) (fun h => ?_)
  · obtain ⟨b, o, rfl, hc⟩ := ha.at_ (i := i) (by omega)
    rcases (by omega : lens.getD i 0 < 0 ∨ (0 ≤ lens.getD i 0 ∧ 65535 < lens.getD i 0) ∨ (0 ≤ lens.getD i 0 ∧ lens.getD i 0 ≤ 65535)) with g | ⟨g, g2⟩ | ⟨g, g2⟩
    · refine v_skip ?_
      refine v_seq ?_
      refine v_block ?_
      refine v_seq ?_
      refine v_region ?_
      refine vl_val (os_move rfl) ?_
      refine vl_val (os_move rfl) ?_
      refine vl_val (os_ix Try.underlying40 Try.sizeOf3 rfl rfl (i := i) (by omega) (by omega)) ?_
      refine vl_val (os_load Try.isAgg3 rfl (hc)) ?_
      refine vl_val (os_t (os_lss rfl rfl) (by omega)) ?_
      refine vl_val (os_move rfl) ?_
      refine vl_skip rfl rfl ?_
      refine vl_skip rfl rfl ?_
      refine vl_skip rfl rfl ?_
      refine vl_skip rfl rfl ?_
      refine vl_skip rfl rfl ?_
      refine vl_val (os_pick_t rfl rfl) ?_
      refine vl_nil ?_
      refine v_cond_t rfl ?_
      refine v_seq ?_
      refine v_region ?_
      refine vl_val (os_assign rfl) ?_
      refine vl_nil ?_
      refine v_ret ?_
      exact post_ret rfl rfl (⟨by rw [lens_bad (i := i) (by omega) (by omega)], rfl⟩)
    · refine v_skip ?_
      refine v_seq ?_
      refine v_block ?_
      refine v_seq ?_
      refine v_region ?_
      refine vl_val (os_move rfl) ?_
      refine vl_val (os_move rfl) ?_
      refine vl_val (os_ix Try.underlying40 Try.sizeOf3 rfl rfl (i := i) (by omega) (by omega)) ?_
      refine vl_val (os_load Try.isAgg3 rfl (hc)) ?_
      refine vl_val (os_f (os_lss rfl rfl) (by omega)) ?_
      refine vl_val (os_move rfl) ?_
      refine vl_valg rfl (os_move rfl) ?_
      refine vl_valg rfl (os_move rfl) ?_
      refine vl_valg rfl (os_ix Try.underlying40 Try.sizeOf3 rfl rfl (i := i) (by omega) (by omega)) ?_
      refine vl_valg rfl (os_load Try.isAgg3 rfl (hc)) ?_
      refine vl_valg rfl (os_gtr rfl rfl) ?_
      refine vl_val (os_pick_f rfl rfl) ?_
      refine vl_nil ?_
      refine v_cond_yes rfl (by omega) ?_
      refine v_seq ?_
      refine v_region ?_
      refine vl_val (os_assign rfl) ?_
      refine vl_nil ?_
      refine v_ret ?_
      exact post_ret rfl rfl (⟨by rw [lens_bad (i := i) (by omega) (by omega)], rfl⟩)
    · refine v_skip ?_
      refine v_seq ?_
      refine v_block ?_
      refine v_seq ?_
      refine v_region ?_
      refine vl_val (os_move rfl) ?_
      refine vl_val (os_move rfl) ?_
      refine vl_val (os_ix Try.underlying40 Try.sizeOf3 rfl rfl (i := i) (by omega) (by omega)) ?_
      refine vl_val (os_load Try.isAgg3 rfl (hc)) ?_
      refine vl_val (os_f (os_lss rfl rfl) (by omega)) ?_
      refine vl_val (os_move rfl) ?_
      refine vl_valg rfl (os_move rfl) ?_
      refine vl_valg rfl (os_move rfl) ?_
      refine vl_valg rfl (os_ix Try.underlying40 Try.sizeOf3 rfl rfl (i := i) (by omega) (by omega)) ?_
      refine vl_valg rfl (os_load Try.isAgg3 rfl (hc)) ?_
      refine vl_valg rfl (os_gtr rfl rfl) ?_
      refine vl_val (os_pick_f rfl rfl) ?_
      refine vl_nil ?_
      refine v_cond_no rfl (by omega) ?_
      refine v_skip ?_
      refine v_region ?_
      refine vl_val (os_move rfl) ?_
      refine vl_val (os_addi rfl rfl (by omega)) ?_
      refine vl_val (os_assign rfl) ?_
      refine vl_nil ?_
      exact ⟨i + 1, ⟨rfl, trivial⟩, ⟨rfl, trivial⟩, ⟨by omega, lens_step hb ⟨g, g2⟩, rfl⟩, by dsimp only; omega⟩
  · obtain rfl : l = i := by omega
    have e := lens_good hb hl
    by_cases h1 : 1 ≤ l
    · refine v_exit ?_
      refine v_seq ?_
      refine v_region ?_
      refine vl_val (os_move rfl) ?_
      refine vl_val (os_len Try.underlying40 rfl) ?_
      refine vl_val (os_t (os_geq rfl rfl) (by omega)) ?_
      refine vl_val (os_move rfl) ?_
      refine vl_valg rfl (os_move rfl) ?_
      refine vl_valg rfl (os_len Try.underlying40 rfl) ?_
      refine vl_valg rfl (os_leq rfl rfl) ?_
      refine vl_val (os_pick_t rfl rfl) ?_
      refine vl_val (os_assign rfl) ?_
      refine vl_nil ?_
      refine v_ret ?_
      exact post_ret rfl rfl (⟨by rw [e]; congr 1; rw [decide_eq_decide]; omega, rfl⟩)
    · refine v_exit ?_
      refine v_seq ?_
      refine v_region ?_
      refine vl_val (os_move rfl) ?_
      refine vl_val (os_len Try.underlying40 rfl) ?_
      refine vl_val (os_f (os_geq rfl rfl) (by omega)) ?_
      refine vl_val (os_move rfl) ?_
      refine vl_skip rfl rfl ?_
      refine vl_skip rfl rfl ?_
      refine vl_skip rfl rfl ?_
      refine vl_val (os_pick_f rfl rfl) ?_
      refine vl_val (os_assign rfl) ?_
      refine vl_nil ?_
      refine v_ret ?_
      exact post_ret rfl rfl (⟨by rw [e, decide_eq_false (by omega)], rfl⟩)

theorem theirs (n m b : Int) (w : World) : Gives Try.prog 87 #[.agg #[.int .i64 n, .int .i64 m, .int .i64 b]] w fun v w' => v = .agg #[.int .i64 n, .int .i64 m, .int .i64 b] ∧ Below w.heap.size w w' := by
  have hB := bk_new w [.int .i64 n, .int .i64 m, .int .i64 b] 75
  have hb1 : Below w.heap.size w (w.alloc (.cells [Value.int .i64 n, .int .i64 m, .int .i64 b].toArray 75)) := (Below.refl _ w).alloc (Nat.le_refl _) _
  have hT := bk_new (w.alloc (.cells [Value.int .i64 n, .int .i64 m, .int .i64 b].toArray 75)) [.int .i64 0, .int .i64 0, .int .i64 0] 117
  have hb2 := hb1.alloc hb1.size (.cells [Value.int .i64 0, .int .i64 0, .int .i64 0].toArray 117)
  have hB2 := hB.alloc (.cells [Value.int .i64 0, .int .i64 0, .int .i64 0].toArray 117)
  refine gives_enter Try.call87 Try.func87 rfl rfl rfl (by kernel_rfl) ?_
  refine v_seq ?_
  refine v_region ?_
  refine vl_val (os_box rfl) ?_
  refine vl_val (os_allocB Try.zeroValue117 (zc := _) (cs := [.int .i64 0, .int .i64 0, .int .i64 0]) rfl) ?_
  refine vl_nil ?_
  refine v_seq ?_
  refine v_region ?_
  refine vl_val (os_fa (o := 0) (k := 0) (by kernel_rfl) rfl) ?_
  refine vl_val (os_load Try.isAgg3 rfl (hB2.cell (i := 0) rfl)) ?_
  refine vl_val (os_fa (o := 1) (k := 0) (by kernel_rfl) rfl) ?_
  refine vl_val (os_load Try.isAgg3 rfl (hB2.cell (i := 1) rfl)) ?_
  refine vl_val (os_fa (o := 2) (k := 0) (by kernel_rfl) rfl) ?_
  refine vl_val (os_load Try.isAgg3 rfl (hB2.cell (i := 2) rfl)) ?_
  refine vl_val (os_build (cs := [.int .i64 n, .int .i64 m, .int .i64 b]) rfl (by kernel_rfl)) ?_
  refine vl_unit (ou_storeB (by kernel_rfl) rfl rfl hT rfl rfl) ?_
  refine vl_nil ?_
  refine v_ret ?_
  exact post_cell rfl rfl Try.underlying117 rfl (by kernel_rfl) (setRow_bk hT [.int .i64 n, .int .i64 m, .int .i64 b]) ⟨rfl, below_setRow hb2 hb1.size _⟩

set_option maxHeartbeats 2000000 in
theorem ref11_Fits (n m b : Int) (A K : Option Addr) (l c lk ck : Nat) (lens ks : List Int) (w : World) (ha : Rd w .i64 A lens) (hk : Rd w .i64 K ks) (hl : l = lens.length) (hlk : lk = ks.length) (hl9 : l ≤ 100000) :
    Gives Try.prog 89 #[.agg #[.int .i64 n, .int .i64 m, .int .i64 b], .slice A l c, .slice K lk ck] w fun v w' => v = .bool (fitsB n m b lens ks) ∧ Below w.heap.size w w' := by
  have hb0 : Below w.heap.size w (w.alloc (.cells #[.int .i64 n, .int .i64 m, .int .i64 b] 117)) := (Below.refl _ w).alloc (Nat.le_refl _) _
  have hB0 := bk_new w [.int .i64 n, .int .i64 m, .int .i64 b] 117
  refine gives_enter Try.call89 Try.func89 rfl rfl rfl (by kernel_rfl) ?_
  cases hr : rightB n m b
  · refine v_seq ?_
    refine v_region ?_
    refine vl_val (os_box rfl) ?_
    refine vl_val (os_assign rfl) ?_
    refine vl_nil ?_
    refine v_seq ?_
    refine v_seq ?_
    refine v_region ?_
    refine vl_val (os_loadB Try.underlying117 rfl (by kernel_rfl) rfl (hB0)) ?_
    refine vl_call (gives_boolb (ref11_Right n m b _) hr) rfl ?_
    rintro v1 w1 ⟨rfl, b1⟩
    refine vl_val (os_not rfl) ?_
    refine vl_val (os_move rfl) ?_
    refine vl_skip rfl rfl ?_
    refine vl_skip rfl rfl ?_
    refine vl_skip rfl rfl ?_
    refine vl_val (os_pick_t rfl rfl) ?_
    refine vl_val (os_move rfl) ?_
    refine vl_skip rfl rfl ?_
    refine vl_skip rfl rfl ?_
    refine vl_skip rfl rfl ?_
    refine vl_skip rfl rfl ?_
    refine vl_skip rfl rfl ?_
    refine vl_val (os_pick_t rfl rfl) ?_
    refine vl_nil ?_
    refine v_cond_t rfl ?_
    refine v_seq ?_
    refine v_region ?_
    refine vl_val (os_assign rfl) ?_
    refine vl_nil ?_
    refine v_ret ?_
    exact post_ret rfl rfl (⟨by simp [fitsB, roomOk, hr], hb0.trans (b1.mono hb0.size)⟩)
  · cases hln : lensB lens
    · refine v_seq ?_
      refine v_region ?_
      refine vl_val (os_box rfl) ?_
      refine vl_val (os_assign rfl) ?_
      refine vl_nil ?_
      refine v_seq ?_
      refine v_seq ?_
      refine v_region ?_
      refine vl_val (os_loadB Try.underlying117 rfl (by kernel_rfl) rfl (hB0)) ?_
      refine vl_call (gives_boolb (ref11_Right n m b _) hr) rfl ?_
      rintro v1 w1 ⟨rfl, b1⟩
      refine vl_val (os_not rfl) ?_
      refine vl_val (os_move rfl) ?_
      refine vl_valg rfl (os_move rfl) ?_
      refine vl_callg rfl (gives_boolb (ref11_lengths A l c lens w1 ((ha.keep hb0).keep b1) hl hl9) hln) rfl ?_
      rintro v2 w1 ⟨rfl, rfl⟩
      refine vl_valg rfl (os_not rfl) ?_
      refine vl_val (os_pick_f rfl rfl) ?_
      refine vl_val (os_move rfl) ?_
      refine vl_skip rfl rfl ?_
      refine vl_skip rfl rfl ?_
      refine vl_skip rfl rfl ?_
      refine vl_skip rfl rfl ?_
      refine vl_skip rfl rfl ?_
      refine vl_val (os_pick_t rfl rfl) ?_
      refine vl_nil ?_
      refine v_cond_t rfl ?_
      refine v_seq ?_
      refine v_region ?_
      refine vl_val (os_assign rfl) ?_
      refine vl_nil ?_
      refine v_ret ?_
      exact post_ret rfl rfl (⟨by simp [fitsB, hln], hb0.trans (b1.mono hb0.size)⟩)
    · refine v_seq ?_
      refine v_region ?_
      refine vl_val (os_box rfl) ?_
      refine vl_val (os_assign rfl) ?_
      refine vl_nil ?_
      refine v_seq ?_
      refine v_seq ?_
      refine v_region ?_
      refine vl_val (os_loadB Try.underlying117 rfl (by kernel_rfl) rfl (hB0)) ?_
      refine vl_call (gives_boolb (ref11_Right n m b _) hr) rfl ?_
      rintro v1 w1 ⟨rfl, b1⟩
      have b1w := hb0.trans (b1.mono hb0.size)
      have hB1 := hB0.keep b1
      have ha1 := ha.keep b1w
      have hk1 := hk.keep b1w
      refine vl_val (os_not rfl) ?_
      refine vl_val (os_move rfl) ?_
      refine vl_valg rfl (os_move rfl) ?_
      refine vl_callg rfl (gives_boolb (ref11_lengths A l c lens w1 ha1 hl hl9) hln) rfl ?_
      rintro v2 w1 ⟨rfl, rfl⟩
      refine vl_valg rfl (os_not rfl) ?_
      refine vl_val (os_pick_f rfl rfl) ?_
      refine vl_val (os_move rfl) ?_
      refine vl_valg rfl (os_move rfl) ?_
      refine vl_valg rfl (os_len Try.underlying40 rfl) ?_
      refine vl_valg rfl (os_move rfl) ?_
      refine vl_valg rfl (os_len Try.underlying40 rfl) ?_
      refine vl_valg rfl (os_neq rfl rfl) ?_
      refine vl_val (os_pick_f rfl rfl) ?_
      refine vl_nil ?_
      refine v_cond_d rfl (fun hll => ?_) (fun hll => ?_)
      · refine v_seq ?_
        refine v_region ?_
        refine vl_val (os_assign rfl) ?_
        refine vl_nil ?_
        refine v_ret ?_
        exact post_ret rfl rfl (⟨by rw [show fitsB n m b lens ks = false by cases hf : fitsB n m b lens ks; rfl; exact absurd (fits_iff.1 hf).2.2.1 (by omega)], b1w⟩)
      · have h3 : ks.length = lens.length := by omega
        have hlr : (rowsZ ks lens).length = l := by simp [rowsZ]; omega
        have hlb := lens_bd hln
        have h1 : roomOk n m b l = true := by simp [roomOk, hr, betw]; omega
        refine v_skip ?_
        refine v_seq ?_
        refine v_region ?_
        refine vl_val (os_assign rfl) ?_
        refine vl_nil ?_
        refine v_seq ?_
        refine v_seq ?_
        refine v_region ?_
        refine vl_val (os_assign rfl) ?_
        refine vl_nil ?_
        refine v_block ?_
        refine v_loop2 [(1, _), (2, _), (3, _)] (fun (i : Nat) (V : Value) => [(7, V), (8, .int .i64 i)]) (fun i V w' => i ≤ l ∧ OwnP w' w1.heap.size 78 2 V (((rowsZ ks lens).take i).map rowC) ∧ Below w1.heap.size w1 w') (fun i V => l - i) (0) (.slice none 0 0) ⟨rfl, rfl, rfl, trivial⟩ ⟨rfl, rfl, trivial⟩ (⟨by omega, by simpa using OwnP.nil, Below.refl _ _⟩) ?_
        rintro i V w11 ⟨hi, ho, b11⟩
        refine v_seq ?_
        refine v_seq ?_
        refine v_region ?_
        refine vl_val (os_move rfl) ?_
        refine vl_val (os_move rfl) ?_
        refine vl_val (os_len Try.underlying40 rfl) ?_
        refine vl_val (os_lss rfl rfl) ?_
        refine vl_nil ?_
        refine v_cond_d rfl (fun h => ?_) (fun h => ?_)
        · obtain ⟨bk, ok, rfl, dk⟩ := (hk1.keep b11).at_ (i := i) (by omega)
          obtain ⟨ba, oa, rfl, da⟩ := (ha1.keep b11).at_ (i := i) (by omega)
          have eln : (((rowsZ ks lens).take i).map rowC).length = i := by simp [hlr]; omega
          refine v_skip ?_
          refine v_seq ?_
          refine v_block ?_
          refine v_region_a mixed ?_
          refine va_pure 0 rfl (by kernel_rfl) (by kernel_rfl) (by kernel_rfl) (fun w => (os_move rfl)) ?_
          refine va_pure 1 rfl (by kernel_rfl) (by kernel_rfl) (by kernel_rfl) (fun w => (os_move rfl)) ?_
          refine va_pure 2 rfl (by kernel_rfl) (by kernel_rfl) (by kernel_rfl) (fun w => (os_move rfl)) ?_
          refine va_pure 3 rfl (by kernel_rfl) (by kernel_rfl) (by kernel_rfl) (fun w => (os_ix Try.underlying40 Try.sizeOf3 rfl rfl (i := i) (by omega) (by omega))) ?_
          refine va_pure 5 rfl (by kernel_rfl) (by kernel_rfl) (by kernel_rfl) (fun w => (os_move rfl)) ?_
          refine va_pure 6 rfl (by kernel_rfl) (by kernel_rfl) (by kernel_rfl) (fun w => (os_move rfl)) ?_
          refine va_pure 7 rfl (by kernel_rfl) (by kernel_rfl) (by kernel_rfl) (fun w => (os_ix Try.underlying40 Try.sizeOf3 rfl rfl (i := i) (by omega) (by omega))) ?_
          refine va_two 4 8 (by kernel_rfl) ?_ ?_
          · refine vn_val rfl (os_load Try.isAgg3 rfl (led_cell (⟨1, rfl⟩ : LeD w11 _) dk)) ?_
            refine va_one 8 (by kernel_rfl) ?_
            refine vn_val rfl (os_load Try.isAgg3 rfl (led_cell (⟨1, rfl⟩ : LeD w11 _) da)) ?_
            refine va_pure 9 rfl (by kernel_rfl) (by kernel_rfl) (by kernel_rfl) (fun w => (os_build (cs := [.int .i64 (ks.getD i 0), .int .i64 (lens.getD i 0)]) rfl (by kernel_rfl))) ?_
            refine va_one 10 (by kernel_rfl) ?_
            refine vn_val rfl (os_litS (css := [[.int .i64 (ks.getD i 0), .int .i64 (lens.getD i 0)]]) Try.underlying79 Try.sizeOf78 Try.zeroValue78 rfl rfl (by intro c hc; simp at hc; subst hc; rfl) (by decide) (by decide) (by decide)) ?_
            refine va_one 11 (by kernel_rfl) ?_
            refine vn_some rfl (ot_append_p Try.underlying79 ti_row rfl (by decide) rfl rfl (OwnP.alloc (OwnP.led ho ⟨1, rfl⟩) _) (rdp_alloc _ _ _ (by intro c hc; simp at hc; subst hc; rfl)) (by intro c hc; simp at hc; subst hc; rfl) rfl (by simp) (by intro c hc u hu; simp at hc; subst hc; simp at hu; rcases hu with rfl | rfl <;> rfl) (by rw [eln]; omega) (by rw [eln]; simp [maxLen]; omega) (by have := b11.size; simp; omega)) ?_
            rintro v12 w12 ⟨so, sg, _⟩
            have b11d : Below w1.heap.size w1 { w11 with drawn := w11.drawn + 1 } := b11.drew
            have b12 := OwnP.below (b11d.alloc b11d.size _) (OwnP.alloc (OwnP.led ho ⟨1, rfl⟩) _) sg (Nat.le_refl _) (b11d.alloc b11d.size _).size
            refine va_pure 12 rfl (by kernel_rfl) (by kernel_rfl) (by kernel_rfl) (fun w => (os_assign rfl)) ?_
            refine va_done (by kernel_rfl) ?_
            refine v_region ?_
            refine vl_val (os_move rfl) ?_
            refine vl_val (os_addi rfl rfl (by omega)) ?_
            refine vl_val (os_assign rfl) ?_
            refine vl_nil ?_
            exact ⟨⟨i + 1, v12⟩, ⟨rfl, rfl, rfl, trivial⟩, ⟨rfl, rfl, trivial⟩, ⟨by dsimp only; omega, by dsimp only; rw [rows_take (by omega) (by omega)]; exact so, b12⟩, by dsimp only; omega⟩
          · refine vn_val rfl (os_load Try.isAgg3 rfl (led_cell (⟨1, rfl⟩ : LeD w11 _) da)) ?_
            refine va_one 4 (by kernel_rfl) ?_
            refine vn_val rfl (os_load Try.isAgg3 rfl (led_cell (⟨1, rfl⟩ : LeD w11 _) dk)) ?_
            refine va_pure 9 rfl (by kernel_rfl) (by kernel_rfl) (by kernel_rfl) (fun w => (os_build (cs := [.int .i64 (ks.getD i 0), .int .i64 (lens.getD i 0)]) rfl (by kernel_rfl))) ?_
            refine va_one 10 (by kernel_rfl) ?_
            refine vn_val rfl (os_litS (css := [[.int .i64 (ks.getD i 0), .int .i64 (lens.getD i 0)]]) Try.underlying79 Try.sizeOf78 Try.zeroValue78 rfl rfl (by intro c hc; simp at hc; subst hc; rfl) (by decide) (by decide) (by decide)) ?_
            refine va_one 11 (by kernel_rfl) ?_
            refine vn_some rfl (ot_append_p Try.underlying79 ti_row rfl (by decide) rfl rfl (OwnP.alloc (OwnP.led ho ⟨1, rfl⟩) _) (rdp_alloc _ _ _ (by intro c hc; simp at hc; subst hc; rfl)) (by intro c hc; simp at hc; subst hc; rfl) rfl (by simp) (by intro c hc u hu; simp at hc; subst hc; simp at hu; rcases hu with rfl | rfl <;> rfl) (by rw [eln]; omega) (by rw [eln]; simp [maxLen]; omega) (by have := b11.size; simp; omega)) ?_
            rintro v12 w12 ⟨so, sg, _⟩
            have b11d : Below w1.heap.size w1 { w11 with drawn := w11.drawn + 1 } := b11.drew
            have b12 := OwnP.below (b11d.alloc b11d.size _) (OwnP.alloc (OwnP.led ho ⟨1, rfl⟩) _) sg (Nat.le_refl _) (b11d.alloc b11d.size _).size
            refine va_pure 12 rfl (by kernel_rfl) (by kernel_rfl) (by kernel_rfl) (fun w => (os_assign rfl)) ?_
            refine va_done (by kernel_rfl) ?_
            refine v_region ?_
            refine vl_val (os_move rfl) ?_
            refine vl_val (os_addi rfl rfl (by omega)) ?_
            refine vl_val (os_assign rfl) ?_
            refine vl_nil ?_
            exact ⟨⟨i + 1, v12⟩, ⟨rfl, rfl, rfl, trivial⟩, ⟨rfl, rfl, trivial⟩, ⟨by dsimp only; omega, by dsimp only; rw [rows_take (by omega) (by omega)]; exact so, b12⟩, by dsimp only; omega⟩
        · obtain rfl : l = i := by omega
          rw [List.take_of_length_le (Nat.le_of_eq hlr)] at ho
          obtain ⟨A12, c12, rfl, hc12, hc12', r12⟩ := OwnP.form ho
          have hb11 := hB1.keep b11
          have b11w := b1w.trans (b11.mono b1w.size)
          cases hL : layOk n (rowsZ ks lens)
          · refine v_exit ?_
            refine v_seq ?_
            refine v_region ?_
            refine vl_val (os_fa (o := 0) (k := 0) (by kernel_rfl) rfl) ?_
            refine vl_val (os_load Try.isAgg3 rfl (hb11.cell (i := 0) rfl)) ?_
            refine vl_val (os_move rfl) ?_
            refine vl_call (ref11_Of n A12 _ c12 (rowsZ ks lens) w11 r12 (by simp)) rfl ?_
            rintro v14 w14 ⟨rfl, b14⟩
            refine vl_val (os_move rfl) ?_
            refine vl_val (os_extract rfl rfl) ?_
            refine vl_val (os_extract rfl rfl) ?_
            refine vl_val (os_assign rfl) ?_
            refine vl_val (os_assign rfl) ?_
            refine vl_nil ?_
            refine v_seq ?_
            refine v_region ?_
            refine vl_val (os_move rfl) ?_
            refine vl_val (os_f (os_eql rfl rfl) (by simp [hL, errE])) ?_
            refine vl_val (os_move rfl) ?_
            refine vl_skip rfl rfl ?_
            refine vl_skip rfl rfl ?_
            refine vl_skip rfl rfl ?_
            refine vl_skip rfl rfl ?_
            refine vl_val (os_pick_f rfl rfl) ?_
            refine vl_val (os_move rfl) ?_
            refine vl_skip rfl rfl ?_
            refine vl_skip rfl rfl ?_
            refine vl_skip rfl rfl ?_
            refine vl_skip rfl rfl ?_
            refine vl_skip rfl rfl ?_
            refine vl_skip rfl rfl ?_
            refine vl_skip rfl rfl ?_
            refine vl_val (os_pick_f rfl rfl) ?_
            refine vl_val (os_assign rfl) ?_
            refine vl_nil ?_
            refine v_ret ?_
            exact post_ret rfl rfl (⟨by rw [show fitsB n m b lens ks = false by cases hf : fitsB n m b lens ks; rfl; have := fits_lay hf; simp [hL] at this], b11w.trans (b14.mono b11w.size)⟩)
          · have hlf := lay_fits h3 (by rw [← hl]; exact h1) hL
            have hob := offS_bd (rows := rowsZ ks lens) ks.length
            have hri := room_iff h1 hob.1
            have hof : ofV n (rowsZ ks lens) = 18 + 3 * (l : Int) + offS (rowsZ ks lens) ks.length := by simp [ofV, hL, hlr]; congr 1; omega
            have hrr := right_bd hr
            rw [← hl] at hlf
            by_cases hm : 18 + 3 * (l : Int) + offS (rowsZ ks lens) ks.length ≤ m
            · refine v_exit ?_
              refine v_seq ?_
              refine v_region ?_
              refine vl_val (os_fa (o := 0) (k := 0) (by kernel_rfl) rfl) ?_
              refine vl_val (os_load Try.isAgg3 rfl (hb11.cell (i := 0) rfl)) ?_
              refine vl_val (os_move rfl) ?_
              refine vl_call (ref11_Of n A12 _ c12 (rowsZ ks lens) w11 r12 (by simp)) rfl ?_
              rintro v14 w14 ⟨rfl, b14⟩
              have hb14 := hb11.keep b14
              rw [hof, hlf]
              generalize offS (rowsZ ks lens) ks.length = X at *
              refine vl_val (os_move rfl) ?_
              refine vl_val (os_extract rfl rfl) ?_
              refine vl_val (os_extract rfl rfl) ?_
              refine vl_val (os_assign rfl) ?_
              refine vl_val (os_assign rfl) ?_
              refine vl_nil ?_
              refine v_seq ?_
              refine v_region ?_
              refine vl_val (os_move rfl) ?_
              refine vl_val (os_t (os_eql rfl rfl) (by simp [hL, errE])) ?_
              refine vl_val (os_move rfl) ?_
              refine vl_valg rfl (os_move rfl) ?_
              refine vl_valg rfl (os_fa (o := 1) (k := 0) (by kernel_rfl) rfl) ?_
              refine vl_valg rfl (os_load Try.isAgg3 rfl (hb14.cell (i := 1) rfl)) ?_
              refine vl_valg rfl (os_t (os_leq rfl rfl) (by omega)) ?_
              refine vl_val (os_pick_t rfl rfl) ?_
              refine vl_val (os_move rfl) ?_
              refine vl_valg rfl (os_fa (o := 0) (k := 0) (by kernel_rfl) rfl) ?_
              refine vl_valg rfl (os_load Try.isAgg3 rfl (hb14.cell (i := 0) rfl)) ?_
              refine vl_valg rfl (os_move rfl) ?_
              refine vl_valg rfl (os_mul rfl rfl (i64_fit (by rw [Int.mul_comm]; exact fit_mul hr (by omega) (by omega)))) ?_
              refine vl_valg rfl (os_fa (o := 2) (k := 0) (by kernel_rfl) rfl) ?_
              refine vl_valg rfl (os_load Try.isAgg3 rfl (hb14.cell (i := 2) rfl)) ?_
              refine vl_valg rfl (os_leq rfl rfl) ?_
              refine vl_val (os_pick_t rfl rfl) ?_
              refine vl_val (os_assign rfl) ?_
              refine vl_nil ?_
              refine v_ret ?_
              exact post_ret rfl rfl (⟨by congr 1; rw [decide_eq_decide, hri, Int.mul_comm]; exact ⟨fun h => ⟨hm, h⟩, fun h => h.2⟩, b11w.trans (b14.mono b11w.size)⟩)
            · refine v_exit ?_
              refine v_seq ?_
              refine v_region ?_
              refine vl_val (os_fa (o := 0) (k := 0) (by kernel_rfl) rfl) ?_
              refine vl_val (os_load Try.isAgg3 rfl (hb11.cell (i := 0) rfl)) ?_
              refine vl_val (os_move rfl) ?_
              refine vl_call (ref11_Of n A12 _ c12 (rowsZ ks lens) w11 r12 (by simp)) rfl ?_
              rintro v14 w14 ⟨rfl, b14⟩
              have hb14 := hb11.keep b14
              rw [hof, hlf]
              generalize offS (rowsZ ks lens) ks.length = X at *
              refine vl_val (os_move rfl) ?_
              refine vl_val (os_extract rfl rfl) ?_
              refine vl_val (os_extract rfl rfl) ?_
              refine vl_val (os_assign rfl) ?_
              refine vl_val (os_assign rfl) ?_
              refine vl_nil ?_
              refine v_seq ?_
              refine v_region ?_
              refine vl_val (os_move rfl) ?_
              refine vl_val (os_t (os_eql rfl rfl) (by simp [hL, errE])) ?_
              refine vl_val (os_move rfl) ?_
              refine vl_valg rfl (os_move rfl) ?_
              refine vl_valg rfl (os_fa (o := 1) (k := 0) (by kernel_rfl) rfl) ?_
              refine vl_valg rfl (os_load Try.isAgg3 rfl (hb14.cell (i := 1) rfl)) ?_
              refine vl_valg rfl (os_f (os_leq rfl rfl) (by omega)) ?_
              refine vl_val (os_pick_t rfl rfl) ?_
              refine vl_val (os_move rfl) ?_
              refine vl_skip rfl rfl ?_
              refine vl_skip rfl rfl ?_
              refine vl_skip rfl rfl ?_
              refine vl_skip rfl rfl ?_
              refine vl_skip rfl rfl ?_
              refine vl_skip rfl rfl ?_
              refine vl_skip rfl rfl ?_
              refine vl_val (os_pick_f rfl rfl) ?_
              refine vl_val (os_assign rfl) ?_
              refine vl_nil ?_
              refine v_ret ?_
              exact post_ret rfl rfl (⟨by rw [decide_eq_false (by rw [hri]; omega)], b11w.trans (b14.mono b11w.size)⟩)
end Go.Proofs.Ytpjmiafefammkaa
