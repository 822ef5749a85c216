/- Texts joined: SzR. -/
import Derived.Test.YtpojijnjdlnokaaM16
/- Layers 09, 10, 11: the document's answer: widths, tables, sizes, rooms, whether thresholds fit. -/
namespace Go.Proofs.Ytpojijnjdlnokaa
open Go.RowKit
set_option linter.unusedVariables false

theorem width_floor {long k : Int} (h : widthOk long k = true) : long / k ≤ widthW long k ∧ (∀ x, long / k ≤ x → x ≤ widthW long k → (x * k < long ↔ x < widthW long k)) ∧ 0 ≤ long / k := by
  simp only [widthOk, decide_eq_true_eq] at h
  have hk : 0 < k := by omega
  have h0 : 0 ≤ long / k := Int.ediv_nonneg (by omega) (by omega)
  unfold widthW
  refine ⟨Int.ediv_le_ediv hk (by omega), fun x h1 h2 => ?_, h0⟩
  rw [show (x < (long + k - 1) / k) ↔ (x + 1 ≤ (long + k - 1) / k) from Int.lt_iff_add_one_le, Int.le_ediv_iff_mul_le hk, Int.add_mul, Int.one_mul]
  omega
theorem width_mul {long k x : Int} (h : widthOk long k = true) (h0 : 0 ≤ x) (h1 : x ≤ widthW long k) : 0 ≤ x * k ∧ x * k ≤ 65535 * 255 := by
  have hb := width_bd h
  simp only [widthOk, decide_eq_true_eq] at h
  exact ⟨Int.mul_nonneg h0 (by omega), Int.mul_le_mul (by omega) (by omega) (by omega) (by omega)⟩
theorem ref09_Width (long k : Int) (w : World) : Gives Try.prog 19 #[.int .i64 long, .int .i64 k] w fun v w' => v = .tuple #[.int .i64 (widthV long k), .int .i64 (errE (widthOk long k))] ∧ w' = w := by
  refine gives_enter Try.call19 Try.func19 rfl rfl rfl (by kernel_rfl) ?_
  rcases (by omega : long < 0 ∨ (0 ≤ long ∧ 65535 < long) ∨ (0 ≤ long ∧ long ≤ 65535 ∧ k < 1) ∨ (0 ≤ long ∧ long ≤ 65535 ∧ 1 ≤ k ∧ 255 < k) ∨ (0 ≤ long ∧ long ≤ 65535 ∧ 1 ≤ k ∧ k ≤ 255)) with h | ⟨h, h3⟩ | ⟨h, h3, h4⟩ | ⟨h, h3, h4, h5⟩ | ⟨h, h3, h4, h5⟩
  · refine v_seq ?_
    refine v_region ?_
    refine vl_val (os_assign rfl) ?_
    refine vl_val (os_assign rfl) ?_
    refine vl_nil ?_
    refine v_seq ?_
    refine v_seq ?_
    refine v_region ?_
    refine vl_val (os_move rfl) ?_
    refine vl_val (os_t (os_lss rfl rfl) (by omega)) ?_
    refine vl_val (os_move rfl) ?_
    refine vl_skip rfl rfl ?_
    refine vl_skip rfl rfl ?_
    refine vl_val (os_pick_t rfl rfl) ?_
    refine vl_val (os_move rfl) ?_
    refine vl_skip rfl rfl ?_
    refine vl_skip rfl rfl ?_
    refine vl_val (os_pick_t rfl rfl) ?_
    refine vl_val (os_move rfl) ?_
    refine vl_skip rfl rfl ?_
    refine vl_skip rfl rfl ?_
    refine vl_val (os_pick_t rfl rfl) ?_
    refine vl_nil ?_
    refine v_cond_t rfl ?_
    refine v_seq ?_
    refine v_region ?_
    refine vl_val (os_assign rfl) ?_
    refine vl_val (os_assign rfl) ?_
    refine vl_nil ?_
    refine v_ret ?_
    exact post_ret2 rfl rfl rfl (⟨by simp [widthV, widthOk, errE]; omega, rfl⟩)
  · refine v_seq ?_
    refine v_region ?_
    refine vl_val (os_assign rfl) ?_
    refine vl_val (os_assign rfl) ?_
    refine vl_nil ?_
    refine v_seq ?_
    refine v_seq ?_
    refine v_region ?_
    refine vl_val (os_move rfl) ?_
    refine vl_val (os_f (os_lss rfl rfl) (by omega)) ?_
    refine vl_val (os_move rfl) ?_
    refine vl_valg rfl (os_move rfl) ?_
    refine vl_valg rfl (os_t (os_gtr rfl rfl) (by omega)) ?_
    refine vl_val (os_pick_f rfl rfl) ?_
    refine vl_val (os_move rfl) ?_
    refine vl_skip rfl rfl ?_
    refine vl_skip rfl rfl ?_
    refine vl_val (os_pick_t rfl rfl) ?_
    refine vl_val (os_move rfl) ?_
    refine vl_skip rfl rfl ?_
    refine vl_skip rfl rfl ?_
    refine vl_val (os_pick_t rfl rfl) ?_
    refine vl_nil ?_
    refine v_cond_t rfl ?_
    refine v_seq ?_
    refine v_region ?_
    refine vl_val (os_assign rfl) ?_
    refine vl_val (os_assign rfl) ?_
    refine vl_nil ?_
    refine v_ret ?_
    exact post_ret2 rfl rfl rfl (⟨by simp [widthV, widthOk, errE]; omega, rfl⟩)
  · refine v_seq ?_
    refine v_region ?_
    refine vl_val (os_assign rfl) ?_
    refine vl_val (os_assign rfl) ?_
    refine vl_nil ?_
    refine v_seq ?_
    refine v_seq ?_
    refine v_region ?_
    refine vl_val (os_move rfl) ?_
    refine vl_val (os_f (os_lss rfl rfl) (by omega)) ?_
    refine vl_val (os_move rfl) ?_
    refine vl_valg rfl (os_move rfl) ?_
    refine vl_valg rfl (os_f (os_gtr rfl rfl) (by omega)) ?_
    refine vl_val (os_pick_f rfl rfl) ?_
    refine vl_val (os_move rfl) ?_
    refine vl_valg rfl (os_move rfl) ?_
    refine vl_valg rfl (os_t (os_lss rfl rfl) (by omega)) ?_
    refine vl_val (os_pick_f rfl rfl) ?_
    refine vl_val (os_move rfl) ?_
    refine vl_skip rfl rfl ?_
    refine vl_skip rfl rfl ?_
    refine vl_val (os_pick_t rfl rfl) ?_
    refine vl_nil ?_
    refine v_cond_t rfl ?_
    refine v_seq ?_
    refine v_region ?_
    refine vl_val (os_assign rfl) ?_
    refine vl_val (os_assign rfl) ?_
    refine vl_nil ?_
    refine v_ret ?_
    exact post_ret2 rfl rfl rfl (⟨by simp [widthV, widthOk, errE]; omega, rfl⟩)
  · refine v_seq ?_
    refine v_region ?_
    refine vl_val (os_assign rfl) ?_
    refine vl_val (os_assign rfl) ?_
    refine vl_nil ?_
    refine v_seq ?_
    refine v_seq ?_
    refine v_region ?_
    refine vl_val (os_move rfl) ?_
    refine vl_val (os_f (os_lss rfl rfl) (by omega)) ?_
    refine vl_val (os_move rfl) ?_
    refine vl_valg rfl (os_move rfl) ?_
    refine vl_valg rfl (os_f (os_gtr rfl rfl) (by omega)) ?_
    refine vl_val (os_pick_f rfl rfl) ?_
    refine vl_val (os_move rfl) ?_
    refine vl_valg rfl (os_move rfl) ?_
    refine vl_valg rfl (os_f (os_lss rfl rfl) (by omega)) ?_
    refine vl_val (os_pick_f rfl rfl) ?_
    refine vl_val (os_move rfl) ?_
    refine vl_valg rfl (os_move rfl) ?_
    refine vl_valg rfl (os_gtr rfl rfl) ?_
    refine vl_val (os_pick_f rfl rfl) ?_
    refine vl_nil ?_
    refine v_cond_yes rfl (by omega) ?_
    refine v_seq ?_
    refine v_region ?_
    refine vl_val (os_assign rfl) ?_
    refine vl_val (os_assign rfl) ?_
    refine vl_nil ?_
    refine v_ret ?_
    exact post_ret2 rfl rfl rfl (⟨by simp [widthV, widthOk, errE]; omega, rfl⟩)
  · have hok : widthOk long k = true := by simp [widthOk]; omega
    obtain ⟨f1, f2, f3⟩ := width_floor hok
    refine v_seq ?_
    refine v_region ?_
    refine vl_val (os_assign rfl) ?_
    refine vl_val (os_assign rfl) ?_
    refine vl_nil ?_
    refine v_seq ?_
    refine v_seq ?_
    refine v_region ?_
    refine vl_val (os_move rfl) ?_
    refine vl_val (os_f (os_lss rfl rfl) (by omega)) ?_
    refine vl_val (os_move rfl) ?_
    refine vl_valg rfl (os_move rfl) ?_
    refine vl_valg rfl (os_f (os_gtr rfl rfl) (by omega)) ?_
    refine vl_val (os_pick_f rfl rfl) ?_
    refine vl_val (os_move rfl) ?_
    refine vl_valg rfl (os_move rfl) ?_
    refine vl_valg rfl (os_f (os_lss rfl rfl) (by omega)) ?_
    refine vl_val (os_pick_f rfl rfl) ?_
    refine vl_val (os_move rfl) ?_
    refine vl_valg rfl (os_move rfl) ?_
    refine vl_valg rfl (os_gtr rfl rfl) ?_
    refine vl_val (os_pick_f rfl rfl) ?_
    refine vl_nil ?_
    refine v_cond_no rfl (by omega) ?_
    refine v_skip ?_
    refine v_seq ?_
    refine v_region ?_
    refine vl_val (os_move rfl) ?_
    refine vl_val (os_move rfl) ?_
    refine vl_val (os_quoi rfl rfl (by omega)) ?_
    refine vl_val (os_assign rfl) ?_
    refine vl_nil ?_
    refine v_seq ?_
    refine v_block ?_
    refine v_loop [(0, _), (1, _)] (fun (x : Int) => [(6, .int .i64 x)]) (fun x w' => long / k ≤ x ∧ x ≤ widthW long k ∧ w' = w) (fun x => (widthW long k - x).toNat) (long / k) ⟨rfl, rfl, trivial⟩ ⟨rfl, trivial⟩ (⟨by omega, f1, rfl⟩) ?_
    rintro x w ⟨hx1, hx2, rfl⟩
    have hm := width_mul hok (by omega) hx2
    have hi := f2 x hx1 hx2
    refine v_seq ?_
    refine v_seq ?_
    refine v_region ?_
    refine vl_val (os_move rfl) ?_
    refine vl_val (os_move rfl) ?_
    refine vl_val (os_mul rfl rfl (i64_fit ⟨by omega, by omega⟩)) ?_
    have hwb := width_bd hok
    refine vl_val (os_move rfl) ?_
    refine vl_val (os_lss rfl rfl) ?_
    refine vl_nil ?_
    refine v_cond_d rfl (fun hlt => ?_) (fun hlt => ?_)
    · have hlt2 := hi.1 hlt
      refine v_skip ?_
      refine v_block ?_
      refine v_region ?_
      refine vl_val (os_move rfl) ?_
      refine vl_val (os_addi rfl rfl (by omega)) ?_
      refine vl_val (os_assign rfl) ?_
      refine vl_nil ?_
      exact ⟨x + 1, ⟨rfl, rfl, trivial⟩, ⟨rfl, trivial⟩, ⟨by omega, by omega, rfl⟩, by dsimp only; omega⟩
    · obtain rfl : widthW long k = x := by omega
      refine v_exit ?_
      refine v_seq ?_
      refine v_region ?_
      refine vl_val (os_move rfl) ?_
      refine vl_val (os_assign rfl) ?_
      refine vl_val (os_assign rfl) ?_
      refine vl_nil ?_
      refine v_ret ?_
      exact post_ret2 rfl rfl rfl (⟨by simp [widthV, hok, errE], rfl⟩)

theorem ref10_Right (n : Int) (A : Option Addr) (l c : Nat) (rows : List (Int × Int)) (w : World) (ha : RdP w 2 A (rows.map rowC)) (hl : l = rows.length) :
    Gives Try.prog 128 #[.int .i64 n, .slice A l c] w fun v w' => v = .bool (layOk n rows) ∧ LeD w w' := by
  by_cases hin : 1 ≤ n ∧ n ≤ 255 ∧ 1 ≤ l ∧ l ≤ 8
  · obtain ⟨h1, h2, h3, h4⟩ := hin
    have e0 : layOk n rows = layGo n 1 rows := by simp only [layOk]; rw [decide_eq_true (by omega)]; simp
    rw [e0]
    refine gives_enter Try.call128 Try.func128 rfl rfl rfl (by kernel_rfl) ?_
    refine v_seq ?_
    refine v_region ?_
    refine vl_val (os_assign rfl) ?_
    refine vl_nil ?_
    refine v_seq ?_
    refine v_seq ?_
    refine v_region ?_
    refine vl_val (os_move rfl) ?_
    refine vl_val (os_f (os_lss rfl rfl) (by omega)) ?_
    refine vl_val (os_move rfl) ?_
    refine vl_valg rfl (os_move rfl) ?_
    refine vl_valg rfl (os_f (os_gtr rfl rfl) (by omega)) ?_
    refine vl_val (os_pick_f rfl rfl) ?_
    refine vl_val (os_move rfl) ?_
    refine vl_valg rfl (os_move rfl) ?_
    refine vl_valg rfl (os_len Try.underlying63 rfl) ?_
    refine vl_valg rfl (os_f (os_lss rfl rfl) (by omega)) ?_
    refine vl_val (os_pick_f rfl rfl) ?_
    refine vl_val (os_move rfl) ?_
    refine vl_valg rfl (os_move rfl) ?_
    refine vl_valg rfl (os_len Try.underlying63 rfl) ?_
    refine vl_valg rfl (os_gtr rfl rfl) ?_
    refine vl_val (os_pick_f rfl rfl) ?_
    refine vl_nil ?_
    refine v_cond_no rfl (by omega) ?_
    refine v_skip ?_
    refine v_seq ?_
    refine v_seq ?_
    refine v_region ?_
    refine vl_val (os_assign rfl) ?_
    refine vl_nil ?_
    refine v_block ?_
    refine v_loop [(0, _), (1, _)] (fun (i : Nat) => [(5, .int .i64 i)]) (fun i w' => i ≤ l ∧ 1 ≤ prevK rows i ∧ layGo n 1 rows = layGo n (prevK rows i) (rows.drop i) ∧ LeD w w') (fun i => l - i) (0) ⟨rfl, rfl, trivial⟩ ⟨rfl, trivial⟩ (⟨by omega, by simp [prevK], rfl, lee_d.refl _⟩) ?_
    rintro i w1 ⟨hi, hp, hg, b1⟩
    refine v_seq ?_
    refine v_seq ?_
    refine v_region ?_
    refine vl_val (os_move rfl) ?_
    refine vl_val (os_move rfl) ?_
    refine vl_val (os_len Try.underlying63 rfl) ?_
    refine vl_val (os_lss rfl rfl) ?_
    refine vl_nil ?_
    refine v_cond_d rfl (fun h => ?_) (fun h => ?_)
    · obtain ⟨b, o, rfl, q1, q2, q3⟩ := (show RdP w1 2 A (rows.map rowC) from ha.led b1).at2 (i := i) (by omega)
      have hst := layGo_step (n := n) (rows := rows) (i := i) (by omega)
      rcases (by omega : (rows.getD i (0, 0)).1 < 1 ∨ (1 ≤ (rows.getD i (0, 0)).1 ∧ n < (rows.getD i (0, 0)).1) ∨ (1 ≤ (rows.getD i (0, 0)).1 ∧ (rows.getD i (0, 0)).1 ≤ n ∧ (rows.getD i (0, 0)).2 < 0) ∨ (1 ≤ (rows.getD i (0, 0)).1 ∧ (rows.getD i (0, 0)).1 ≤ n ∧ 0 ≤ (rows.getD i (0, 0)).2 ∧ 65535 < (rows.getD i (0, 0)).2) ∨ (1 ≤ (rows.getD i (0, 0)).1 ∧ (rows.getD i (0, 0)).1 ≤ n ∧ 0 ≤ (rows.getD i (0, 0)).2 ∧ (rows.getD i (0, 0)).2 ≤ 65535)) with g | ⟨g, g2⟩ | ⟨g, g2, g3⟩ | ⟨g, g2, g3, g4⟩ | ⟨g, g2, g3, g4⟩
      · refine v_skip ?_
        refine v_seq ?_
        refine v_block ?_
        refine v_seq ?_
        refine v_region_t LeD _ mixed (by kernel_rfl) lee_d (led_start _) ?_
        refine vt_val (fun w hw => os_move rfl) ?_
        refine vt_val (fun w hw => os_move rfl) ?_
        refine vt_val (fun w hw => os_ixs Try.underlying63 Try.sizeOf62 rfl rfl (i := i) (by omega) (by omega)) ?_
        refine vt_val (fun w hw => os_fa (o := 0) (k := 0) (by kernel_rfl) rfl) ?_
        refine vt_val (fun w hw => os_load Try.isAgg3 rfl (led_cell hw (q1))) ?_
        refine vt_val (fun w hw => os_t (os_lss rfl rfl) (by omega)) ?_
        refine vt_val (fun w hw => os_move rfl) ?_
        refine vt_skip rfl rfl ?_
        refine vt_skip rfl rfl ?_
        refine vt_skip rfl rfl ?_
        refine vt_skip rfl rfl ?_
        refine vt_skip rfl rfl ?_
        refine vt_skip rfl rfl ?_
        refine vt_skip rfl rfl ?_
        refine vt_val (fun w hw => os_pick_t rfl rfl) ?_
        refine vt_val (fun w hw => os_move rfl) ?_
        refine vt_skip rfl rfl ?_
        refine vt_skip rfl rfl ?_
        refine vt_skip rfl rfl ?_
        refine vt_skip rfl rfl ?_
        refine vt_skip rfl rfl ?_
        refine vt_skip rfl rfl ?_
        refine vt_val (fun w hw => os_pick_t rfl rfl) ?_
        refine vt_val (fun w hw => os_move rfl) ?_
        refine vt_skip rfl rfl ?_
        refine vt_skip rfl rfl ?_
        refine vt_skip rfl rfl ?_
        refine vt_skip rfl rfl ?_
        refine vt_skip rfl rfl ?_
        refine vt_skip rfl rfl ?_
        refine vt_val (fun w hw => os_pick_t rfl rfl) ?_
        refine vt_val (fun w hw => os_move rfl) ?_
        refine vt_skip rfl rfl ?_
        refine vt_skip rfl rfl ?_
        refine vt_skip rfl rfl ?_
        refine vt_skipu rfl ?_
        refine vt_skipu rfl ?_
        refine vt_skipu rfl ?_
        refine vt_skipu rfl ?_
        refine vt_skipu rfl ?_
        refine vt_skipu rfl ?_
        refine vt_skipu rfl ?_
        refine vt_skipu rfl ?_
        refine vt_skipu rfl ?_
        refine vt_skipu rfl ?_
        refine vt_skipu rfl ?_
        refine vt_skipu rfl ?_
        refine vt_skip rfl rfl ?_
        refine vt_val (fun w hw => os_pick_t rfl rfl) ?_
        refine vt_nil (fun w hw => ?_)
        obtain ⟨q, rfl⟩ := hw
        refine v_cond_t rfl ?_
        refine v_seq ?_
        refine v_region ?_
        refine vl_val (os_assign rfl) ?_
        refine vl_nil ?_
        refine v_ret ?_
        exact post_ret rfl rfl (⟨by rw [hg, hst, decide_eq_false (by unfold rowGood; omega)]; rfl, lee_d.trans b1 ⟨q, rfl⟩⟩)
      · refine v_skip ?_
        refine v_seq ?_
        refine v_block ?_
        refine v_seq ?_
        refine v_region_t LeD _ mixed (by kernel_rfl) lee_d (led_start _) ?_
        refine vt_val (fun w hw => os_move rfl) ?_
        refine vt_val (fun w hw => os_move rfl) ?_
        refine vt_val (fun w hw => os_ixs Try.underlying63 Try.sizeOf62 rfl rfl (i := i) (by omega) (by omega)) ?_
        refine vt_val (fun w hw => os_fa (o := 0) (k := 0) (by kernel_rfl) rfl) ?_
        refine vt_val (fun w hw => os_load Try.isAgg3 rfl (led_cell hw (q1))) ?_
        refine vt_val (fun w hw => os_f (os_lss rfl rfl) (by omega)) ?_
        refine vt_val (fun w hw => os_move rfl) ?_
        refine vt_valg rfl (fun w hw => os_move rfl) ?_
        refine vt_valg rfl (fun w hw => os_move rfl) ?_
        refine vt_valg rfl (fun w hw => os_ixs Try.underlying63 Try.sizeOf62 rfl rfl (i := i) (by omega) (by omega)) ?_
        refine vt_valg rfl (fun w hw => os_fa (o := 0) (k := 0) (by kernel_rfl) rfl) ?_
        refine vt_valg rfl (fun w hw => os_load Try.isAgg3 rfl (led_cell hw (q1))) ?_
        refine vt_valg rfl (fun w hw => os_move rfl) ?_
        refine vt_valg rfl (fun w hw => os_t (os_gtr rfl rfl) (by omega)) ?_
        refine vt_val (fun w hw => os_pick_f rfl rfl) ?_
        refine vt_val (fun w hw => os_move rfl) ?_
        refine vt_skip rfl rfl ?_
        refine vt_skip rfl rfl ?_
        refine vt_skip rfl rfl ?_
        refine vt_skip rfl rfl ?_
        refine vt_skip rfl rfl ?_
        refine vt_skip rfl rfl ?_
        refine vt_val (fun w hw => os_pick_t rfl rfl) ?_
        refine vt_val (fun w hw => os_move rfl) ?_
        refine vt_skip rfl rfl ?_
        refine vt_skip rfl rfl ?_
        refine vt_skip rfl rfl ?_
        refine vt_skip rfl rfl ?_
        refine vt_skip rfl rfl ?_
        refine vt_skip rfl rfl ?_
        refine vt_val (fun w hw => os_pick_t rfl rfl) ?_
        refine vt_val (fun w hw => os_move rfl) ?_
        refine vt_skip rfl rfl ?_
        refine vt_skip rfl rfl ?_
        refine vt_skip rfl rfl ?_
        refine vt_skipu rfl ?_
        refine vt_skipu rfl ?_
        refine vt_skipu rfl ?_
        refine vt_skipu rfl ?_
        refine vt_skipu rfl ?_
        refine vt_skipu rfl ?_
        refine vt_skipu rfl ?_
        refine vt_skipu rfl ?_
        refine vt_skipu rfl ?_
        refine vt_skipu rfl ?_
        refine vt_skipu rfl ?_
        refine vt_skipu rfl ?_
        refine vt_skip rfl rfl ?_
        refine vt_val (fun w hw => os_pick_t rfl rfl) ?_
        refine vt_nil (fun w hw => ?_)
        obtain ⟨q, rfl⟩ := hw
        refine v_cond_t rfl ?_
        refine v_seq ?_
        refine v_region ?_
        refine vl_val (os_assign rfl) ?_
        refine vl_nil ?_
        refine v_ret ?_
        exact post_ret rfl rfl (⟨by rw [hg, hst, decide_eq_false (by unfold rowGood; omega)]; rfl, lee_d.trans b1 ⟨q, rfl⟩⟩)
      · refine v_skip ?_
        refine v_seq ?_
        refine v_block ?_
        refine v_seq ?_
        refine v_region_t LeD _ mixed (by kernel_rfl) lee_d (led_start _) ?_
        refine vt_val (fun w hw => os_move rfl) ?_
        refine vt_val (fun w hw => os_move rfl) ?_
        refine vt_val (fun w hw => os_ixs Try.underlying63 Try.sizeOf62 rfl rfl (i := i) (by omega) (by omega)) ?_
        refine vt_val (fun w hw => os_fa (o := 0) (k := 0) (by kernel_rfl) rfl) ?_
        refine vt_val (fun w hw => os_load Try.isAgg3 rfl (led_cell hw (q1))) ?_
        refine vt_val (fun w hw => os_f (os_lss rfl rfl) (by omega)) ?_
        refine vt_val (fun w hw => os_move rfl) ?_
        refine vt_valg rfl (fun w hw => os_move rfl) ?_
        refine vt_valg rfl (fun w hw => os_move rfl) ?_
        refine vt_valg rfl (fun w hw => os_ixs Try.underlying63 Try.sizeOf62 rfl rfl (i := i) (by omega) (by omega)) ?_
        refine vt_valg rfl (fun w hw => os_fa (o := 0) (k := 0) (by kernel_rfl) rfl) ?_
        refine vt_valg rfl (fun w hw => os_load Try.isAgg3 rfl (led_cell hw (q1))) ?_
        refine vt_valg rfl (fun w hw => os_move rfl) ?_
        refine vt_valg rfl (fun w hw => os_f (os_gtr rfl rfl) (by omega)) ?_
        refine vt_val (fun w hw => os_pick_f rfl rfl) ?_
        refine vt_val (fun w hw => os_move rfl) ?_
        refine vt_valg rfl (fun w hw => os_move rfl) ?_
        refine vt_valg rfl (fun w hw => os_move rfl) ?_
        refine vt_valg rfl (fun w hw => os_ixs Try.underlying63 Try.sizeOf62 rfl rfl (i := i) (by omega) (by omega)) ?_
        refine vt_valg rfl (fun w hw => os_fa (o := 1) (k := 0) (by kernel_rfl) rfl) ?_
        refine vt_valg rfl (fun w hw => os_load Try.isAgg3 rfl (led_cell hw (q2))) ?_
        refine vt_valg rfl (fun w hw => os_t (os_lss rfl rfl) (by omega)) ?_
        refine vt_val (fun w hw => os_pick_f rfl rfl) ?_
        refine vt_val (fun w hw => os_move rfl) ?_
        refine vt_skip rfl rfl ?_
        refine vt_skip rfl rfl ?_
        refine vt_skip rfl rfl ?_
        refine vt_skip rfl rfl ?_
        refine vt_skip rfl rfl ?_
        refine vt_skip rfl rfl ?_
        refine vt_val (fun w hw => os_pick_t rfl rfl) ?_
        refine vt_val (fun w hw => os_move rfl) ?_
        refine vt_skip rfl rfl ?_
        refine vt_skip rfl rfl ?_
        refine vt_skip rfl rfl ?_
        refine vt_skipu rfl ?_
        refine vt_skipu rfl ?_
        refine vt_skipu rfl ?_
        refine vt_skipu rfl ?_
        refine vt_skipu rfl ?_
        refine vt_skipu rfl ?_
        refine vt_skipu rfl ?_
        refine vt_skipu rfl ?_
        refine vt_skipu rfl ?_
        refine vt_skipu rfl ?_
        refine vt_skipu rfl ?_
        refine vt_skipu rfl ?_
        refine vt_skip rfl rfl ?_
        refine vt_val (fun w hw => os_pick_t rfl rfl) ?_
        refine vt_nil (fun w hw => ?_)
        obtain ⟨q, rfl⟩ := hw
        refine v_cond_t rfl ?_
        refine v_seq ?_
        refine v_region ?_
        refine vl_val (os_assign rfl) ?_
        refine vl_nil ?_
        refine v_ret ?_
        exact post_ret rfl rfl (⟨by rw [hg, hst, decide_eq_false (by unfold rowGood; omega)]; rfl, lee_d.trans b1 ⟨q, rfl⟩⟩)
      · refine v_skip ?_
        refine v_seq ?_
        refine v_block ?_
        refine v_seq ?_
        refine v_region_t LeD _ mixed (by kernel_rfl) lee_d (led_start _) ?_
        refine vt_val (fun w hw => os_move rfl) ?_
        refine vt_val (fun w hw => os_move rfl) ?_
        refine vt_val (fun w hw => os_ixs Try.underlying63 Try.sizeOf62 rfl rfl (i := i) (by omega) (by omega)) ?_
        refine vt_val (fun w hw => os_fa (o := 0) (k := 0) (by kernel_rfl) rfl) ?_
        refine vt_val (fun w hw => os_load Try.isAgg3 rfl (led_cell hw (q1))) ?_
        refine vt_val (fun w hw => os_f (os_lss rfl rfl) (by omega)) ?_
        refine vt_val (fun w hw => os_move rfl) ?_
        refine vt_valg rfl (fun w hw => os_move rfl) ?_
        refine vt_valg rfl (fun w hw => os_move rfl) ?_
        refine vt_valg rfl (fun w hw => os_ixs Try.underlying63 Try.sizeOf62 rfl rfl (i := i) (by omega) (by omega)) ?_
        refine vt_valg rfl (fun w hw => os_fa (o := 0) (k := 0) (by kernel_rfl) rfl) ?_
        refine vt_valg rfl (fun w hw => os_load Try.isAgg3 rfl (led_cell hw (q1))) ?_
        refine vt_valg rfl (fun w hw => os_move rfl) ?_
        refine vt_valg rfl (fun w hw => os_f (os_gtr rfl rfl) (by omega)) ?_
        refine vt_val (fun w hw => os_pick_f rfl rfl) ?_
        refine vt_val (fun w hw => os_move rfl) ?_
        refine vt_valg rfl (fun w hw => os_move rfl) ?_
        refine vt_valg rfl (fun w hw => os_move rfl) ?_
        refine vt_valg rfl (fun w hw => os_ixs Try.underlying63 Try.sizeOf62 rfl rfl (i := i) (by omega) (by omega)) ?_
        refine vt_valg rfl (fun w hw => os_fa (o := 1) (k := 0) (by kernel_rfl) rfl) ?_
        refine vt_valg rfl (fun w hw => os_load Try.isAgg3 rfl (led_cell hw (q2))) ?_
        refine vt_valg rfl (fun w hw => os_f (os_lss rfl rfl) (by omega)) ?_
        refine vt_val (fun w hw => os_pick_f rfl rfl) ?_
        refine vt_val (fun w hw => os_move rfl) ?_
        refine vt_valg rfl (fun w hw => os_move rfl) ?_
        refine vt_valg rfl (fun w hw => os_move rfl) ?_
        refine vt_valg rfl (fun w hw => os_ixs Try.underlying63 Try.sizeOf62 rfl rfl (i := i) (by omega) (by omega)) ?_
        refine vt_valg rfl (fun w hw => os_fa (o := 1) (k := 0) (by kernel_rfl) rfl) ?_
        refine vt_valg rfl (fun w hw => os_load Try.isAgg3 rfl (led_cell hw (q2))) ?_
        refine vt_valg rfl (fun w hw => os_t (os_gtr rfl rfl) (by omega)) ?_
        refine vt_val (fun w hw => os_pick_f rfl rfl) ?_
        refine vt_val (fun w hw => os_move rfl) ?_
        refine vt_skip rfl rfl ?_
        refine vt_skip rfl rfl ?_
        refine vt_skip rfl rfl ?_
        refine vt_skipu rfl ?_
        refine vt_skipu rfl ?_
        refine vt_skipu rfl ?_
        refine vt_skipu rfl ?_
        refine vt_skipu rfl ?_
        refine vt_skipu rfl ?_
        refine vt_skipu rfl ?_
        refine vt_skipu rfl ?_
        refine vt_skipu rfl ?_
        refine vt_skipu rfl ?_
        refine vt_skipu rfl ?_
        refine vt_skipu rfl ?_
        refine vt_skip rfl rfl ?_
        refine vt_val (fun w hw => os_pick_t rfl rfl) ?_
        refine vt_nil (fun w hw => ?_)
        obtain ⟨q, rfl⟩ := hw
        refine v_cond_t rfl ?_
        refine v_seq ?_
        refine v_region ?_
        refine vl_val (os_assign rfl) ?_
        refine vl_nil ?_
        refine v_ret ?_
        exact post_ret rfl rfl (⟨by rw [hg, hst, decide_eq_false (by unfold rowGood; omega)]; rfl, lee_d.trans b1 ⟨q, rfl⟩⟩)
      · rcases Nat.eq_zero_or_pos i with hz | hz
        · subst hz
          have hp1 : prevK rows 0 = 1 := rfl
          refine v_skip ?_
          refine v_seq ?_
          refine v_block ?_
          refine v_seq ?_
          refine v_region_t LeD _ mixed (by kernel_rfl) lee_d (led_start _) ?_
          refine vt_val (fun w hw => os_move rfl) ?_
          refine vt_val (fun w hw => os_move rfl) ?_
          refine vt_val (fun w hw => os_ixs Try.underlying63 Try.sizeOf62 rfl rfl (i := 0) (by omega) (by omega)) ?_
          refine vt_val (fun w hw => os_fa (o := 0) (k := 0) (by kernel_rfl) rfl) ?_
          refine vt_val (fun w hw => os_load Try.isAgg3 rfl (led_cell hw (q1))) ?_
          refine vt_val (fun w hw => os_f (os_lss rfl rfl) (by omega)) ?_
          refine vt_val (fun w hw => os_move rfl) ?_
          refine vt_valg rfl (fun w hw => os_move rfl) ?_
          refine vt_valg rfl (fun w hw => os_move rfl) ?_
          refine vt_valg rfl (fun w hw => os_ixs Try.underlying63 Try.sizeOf62 rfl rfl (i := 0) (by omega) (by omega)) ?_
          refine vt_valg rfl (fun w hw => os_fa (o := 0) (k := 0) (by kernel_rfl) rfl) ?_
          refine vt_valg rfl (fun w hw => os_load Try.isAgg3 rfl (led_cell hw (q1))) ?_
          refine vt_valg rfl (fun w hw => os_move rfl) ?_
          refine vt_valg rfl (fun w hw => os_f (os_gtr rfl rfl) (by omega)) ?_
          refine vt_val (fun w hw => os_pick_f rfl rfl) ?_
          refine vt_val (fun w hw => os_move rfl) ?_
          refine vt_valg rfl (fun w hw => os_move rfl) ?_
          refine vt_valg rfl (fun w hw => os_move rfl) ?_
          refine vt_valg rfl (fun w hw => os_ixs Try.underlying63 Try.sizeOf62 rfl rfl (i := 0) (by omega) (by omega)) ?_
          refine vt_valg rfl (fun w hw => os_fa (o := 1) (k := 0) (by kernel_rfl) rfl) ?_
          refine vt_valg rfl (fun w hw => os_load Try.isAgg3 rfl (led_cell hw (q2))) ?_
          refine vt_valg rfl (fun w hw => os_f (os_lss rfl rfl) (by omega)) ?_
          refine vt_val (fun w hw => os_pick_f rfl rfl) ?_
          refine vt_val (fun w hw => os_move rfl) ?_
          refine vt_valg rfl (fun w hw => os_move rfl) ?_
          refine vt_valg rfl (fun w hw => os_move rfl) ?_
          refine vt_valg rfl (fun w hw => os_ixs Try.underlying63 Try.sizeOf62 rfl rfl (i := 0) (by omega) (by omega)) ?_
          refine vt_valg rfl (fun w hw => os_fa (o := 1) (k := 0) (by kernel_rfl) rfl) ?_
          refine vt_valg rfl (fun w hw => os_load Try.isAgg3 rfl (led_cell hw (q2))) ?_
          refine vt_valg rfl (fun w hw => os_f (os_gtr rfl rfl) (by omega)) ?_
          refine vt_val (fun w hw => os_pick_f rfl rfl) ?_
          refine vt_val (fun w hw => os_move rfl) ?_
          refine vt_valg rfl (fun w hw => os_move rfl) ?_
          refine vt_valg rfl (fun w hw => os_f (os_gtr rfl rfl) (by omega)) ?_
          refine vt_valg rfl (fun w hw => os_move rfl) ?_
          refine vt_skip rfl rfl ?_
          refine vt_skip rfl rfl ?_
          refine vt_skip rfl rfl ?_
          refine vt_skip rfl rfl ?_
          refine vt_skip rfl rfl ?_
          refine vt_skip rfl rfl ?_
          refine vt_skip rfl rfl ?_
          refine vt_skip rfl rfl ?_
          refine vt_skip rfl rfl ?_
          refine vt_skip rfl rfl ?_
          refine vt_skip rfl rfl ?_
          refine vt_skip rfl rfl ?_
          refine vt_valg rfl (fun w hw => os_pick_f rfl rfl) ?_
          refine vt_val (fun w hw => os_pick_f rfl rfl) ?_
          refine vt_nil (fun w hw => ?_)
          obtain ⟨q, rfl⟩ := hw
          refine v_cond_f rfl ?_
          refine v_skip ?_
          refine v_region ?_
          refine vl_val (os_move rfl) ?_
          refine vl_val (os_addi rfl rfl (by omega)) ?_
          refine vl_val (os_assign rfl) ?_
          refine vl_nil ?_
          exact ⟨0 + 1, ⟨rfl, rfl, trivial⟩, ⟨rfl, trivial⟩, ⟨by omega, by simp only [prevK]; omega, by rw [hg, hst, decide_eq_true (by unfold rowGood; omega)]; rfl, lee_d.trans b1 ⟨q, rfl⟩⟩, by dsimp only; omega⟩
        · obtain ⟨b', o', eb, q1', -, -⟩ := (show RdP w1 2 _ (rows.map rowC) from ha.led b1).at2 (i := i - 1) (by omega)
          cases eb
          have hp1 : prevK rows i = (rows.getD (i - 1) (0, 0)).1 := by obtain ⟨j, rfl⟩ : ∃ j, i = j + 1 := ⟨i - 1, by omega⟩; rfl
          by_cases hlt : (rows.getD i (0, 0)).1 < (rows.getD (i - 1) (0, 0)).1
          · refine v_skip ?_
            refine v_seq ?_
            refine v_block ?_
            refine v_seq ?_
            refine v_region_t LeD _ mixed (by kernel_rfl) lee_d (led_start _) ?_
            refine vt_val (fun w hw => os_move rfl) ?_
            refine vt_val (fun w hw => os_move rfl) ?_
            refine vt_val (fun w hw => os_ixs Try.underlying63 Try.sizeOf62 rfl rfl (i := i) (by omega) (by omega)) ?_
            refine vt_val (fun w hw => os_fa (o := 0) (k := 0) (by kernel_rfl) rfl) ?_
            refine vt_val (fun w hw => os_load Try.isAgg3 rfl (led_cell hw (q1))) ?_
            refine vt_val (fun w hw => os_f (os_lss rfl rfl) (by omega)) ?_
            refine vt_val (fun w hw => os_move rfl) ?_
            refine vt_valg rfl (fun w hw => os_move rfl) ?_
            refine vt_valg rfl (fun w hw => os_move rfl) ?_
            refine vt_valg rfl (fun w hw => os_ixs Try.underlying63 Try.sizeOf62 rfl rfl (i := i) (by omega) (by omega)) ?_
            refine vt_valg rfl (fun w hw => os_fa (o := 0) (k := 0) (by kernel_rfl) rfl) ?_
            refine vt_valg rfl (fun w hw => os_load Try.isAgg3 rfl (led_cell hw (q1))) ?_
            refine vt_valg rfl (fun w hw => os_move rfl) ?_
            refine vt_valg rfl (fun w hw => os_f (os_gtr rfl rfl) (by omega)) ?_
            refine vt_val (fun w hw => os_pick_f rfl rfl) ?_
            refine vt_val (fun w hw => os_move rfl) ?_
            refine vt_valg rfl (fun w hw => os_move rfl) ?_
            refine vt_valg rfl (fun w hw => os_move rfl) ?_
            refine vt_valg rfl (fun w hw => os_ixs Try.underlying63 Try.sizeOf62 rfl rfl (i := i) (by omega) (by omega)) ?_
            refine vt_valg rfl (fun w hw => os_fa (o := 1) (k := 0) (by kernel_rfl) rfl) ?_
            refine vt_valg rfl (fun w hw => os_load Try.isAgg3 rfl (led_cell hw (q2))) ?_
            refine vt_valg rfl (fun w hw => os_f (os_lss rfl rfl) (by omega)) ?_
            refine vt_val (fun w hw => os_pick_f rfl rfl) ?_
            refine vt_val (fun w hw => os_move rfl) ?_
            refine vt_valg rfl (fun w hw => os_move rfl) ?_
            refine vt_valg rfl (fun w hw => os_move rfl) ?_
            refine vt_valg rfl (fun w hw => os_ixs Try.underlying63 Try.sizeOf62 rfl rfl (i := i) (by omega) (by omega)) ?_
            refine vt_valg rfl (fun w hw => os_fa (o := 1) (k := 0) (by kernel_rfl) rfl) ?_
            refine vt_valg rfl (fun w hw => os_load Try.isAgg3 rfl (led_cell hw (q2))) ?_
            refine vt_valg rfl (fun w hw => os_f (os_gtr rfl rfl) (by omega)) ?_
            refine vt_val (fun w hw => os_pick_f rfl rfl) ?_
            refine vt_val (fun w hw => os_move rfl) ?_
            refine vt_valg rfl (fun w hw => os_move rfl) ?_
            refine vt_valg rfl (fun w hw => os_t (os_gtr rfl rfl) (by omega)) ?_
            refine vt_valg rfl (fun w hw => os_move rfl) ?_
            refine vt_valg rfl (fun w hw => os_move rfl) ?_
            refine vt_valg rfl (fun w hw => os_move rfl) ?_
            refine vt_valg rfl (fun w hw => os_ixs Try.underlying63 Try.sizeOf62 rfl rfl (i := i) (by omega) (by omega)) ?_
            refine vt_valg rfl (fun w hw => os_fa (o := 0) (k := 0) (by kernel_rfl) rfl) ?_
            refine vt_valg rfl (fun w hw => os_load Try.isAgg3 rfl (led_cell hw (q1))) ?_
            refine vt_valg rfl (fun w hw => os_move rfl) ?_
            refine vt_valg rfl (fun w hw => os_move rfl) ?_
            refine vt_valg rfl (fun w hw => os_subi rfl rfl (by omega)) ?_
            refine vt_valg rfl (fun w hw => os_ixs Try.underlying63 Try.sizeOf62 rfl rfl (i := i - 1) (by omega) (by omega)) ?_
            refine vt_valg rfl (fun w hw => os_fa (o := 0) (k := 0) (by kernel_rfl) rfl) ?_
            refine vt_valg rfl (fun w hw => os_load Try.isAgg3 rfl (led_cell hw (q1'))) ?_
            refine vt_valg rfl (fun w hw => os_t (os_lss rfl rfl) (by omega)) ?_
            refine vt_valg rfl (fun w hw => os_pick_t rfl rfl) ?_
            refine vt_val (fun w hw => os_pick_f rfl rfl) ?_
            refine vt_nil (fun w hw => ?_)
            obtain ⟨q, rfl⟩ := hw
            refine v_cond_t rfl ?_
            refine v_seq ?_
            refine v_region ?_
            refine vl_val (os_assign rfl) ?_
            refine vl_nil ?_
            refine v_ret ?_
            exact post_ret rfl rfl (⟨by rw [hg, hst, decide_eq_false (by unfold rowGood; omega)]; rfl, lee_d.trans b1 ⟨q, rfl⟩⟩)
          · refine v_skip ?_
            refine v_seq ?_
            refine v_block ?_
            refine v_seq ?_
            refine v_region_t LeD _ mixed (by kernel_rfl) lee_d (led_start _) ?_
            refine vt_val (fun w hw => os_move rfl) ?_
            refine vt_val (fun w hw => os_move rfl) ?_
            refine vt_val (fun w hw => os_ixs Try.underlying63 Try.sizeOf62 rfl rfl (i := i) (by omega) (by omega)) ?_
            refine vt_val (fun w hw => os_fa (o := 0) (k := 0) (by kernel_rfl) rfl) ?_
            refine vt_val (fun w hw => os_load Try.isAgg3 rfl (led_cell hw (q1))) ?_
            refine vt_val (fun w hw => os_f (os_lss rfl rfl) (by omega)) ?_
            refine vt_val (fun w hw => os_move rfl) ?_
            refine vt_valg rfl (fun w hw => os_move rfl) ?_
            refine vt_valg rfl (fun w hw => os_move rfl) ?_
            refine vt_valg rfl (fun w hw => os_ixs Try.underlying63 Try.sizeOf62 rfl rfl (i := i) (by omega) (by omega)) ?_
            refine vt_valg rfl (fun w hw => os_fa (o := 0) (k := 0) (by kernel_rfl) rfl) ?_
            refine vt_valg rfl (fun w hw => os_load Try.isAgg3 rfl (led_cell hw (q1))) ?_
            refine vt_valg rfl (fun w hw => os_move rfl) ?_
            refine vt_valg rfl (fun w hw => os_f (os_gtr rfl rfl) (by omega)) ?_
            refine vt_val (fun w hw => os_pick_f rfl rfl) ?_
            refine vt_val (fun w hw => os_move rfl) ?_
            refine vt_valg rfl (fun w hw => os_move rfl) ?_
            refine vt_valg rfl (fun w hw => os_move rfl) ?_
            refine vt_valg rfl (fun w hw => os_ixs Try.underlying63 Try.sizeOf62 rfl rfl (i := i) (by omega) (by omega)) ?_
            refine vt_valg rfl (fun w hw => os_fa (o := 1) (k := 0) (by kernel_rfl) rfl) ?_
            refine vt_valg rfl (fun w hw => os_load Try.isAgg3 rfl (led_cell hw (q2))) ?_
            refine vt_valg rfl (fun w hw => os_f (os_lss rfl rfl) (by omega)) ?_
            refine vt_val (fun w hw => os_pick_f rfl rfl) ?_
            refine vt_val (fun w hw => os_move rfl) ?_
            refine vt_valg rfl (fun w hw => os_move rfl) ?_
            refine vt_valg rfl (fun w hw => os_move rfl) ?_
            refine vt_valg rfl (fun w hw => os_ixs Try.underlying63 Try.sizeOf62 rfl rfl (i := i) (by omega) (by omega)) ?_
            refine vt_valg rfl (fun w hw => os_fa (o := 1) (k := 0) (by kernel_rfl) rfl) ?_
            refine vt_valg rfl (fun w hw => os_load Try.isAgg3 rfl (led_cell hw (q2))) ?_
            refine vt_valg rfl (fun w hw => os_f (os_gtr rfl rfl) (by omega)) ?_
            refine vt_val (fun w hw => os_pick_f rfl rfl) ?_
            refine vt_val (fun w hw => os_move rfl) ?_
            refine vt_valg rfl (fun w hw => os_move rfl) ?_
            refine vt_valg rfl (fun w hw => os_t (os_gtr rfl rfl) (by omega)) ?_
            refine vt_valg rfl (fun w hw => os_move rfl) ?_
            refine vt_valg rfl (fun w hw => os_move rfl) ?_
            refine vt_valg rfl (fun w hw => os_move rfl) ?_
            refine vt_valg rfl (fun w hw => os_ixs Try.underlying63 Try.sizeOf62 rfl rfl (i := i) (by omega) (by omega)) ?_
            refine vt_valg rfl (fun w hw => os_fa (o := 0) (k := 0) (by kernel_rfl) rfl) ?_
            refine vt_valg rfl (fun w hw => os_load Try.isAgg3 rfl (led_cell hw (q1))) ?_
            refine vt_valg rfl (fun w hw => os_move rfl) ?_
            refine vt_valg rfl (fun w hw => os_move rfl) ?_
            refine vt_valg rfl (fun w hw => os_subi rfl rfl (by omega)) ?_
            refine vt_valg rfl (fun w hw => os_ixs Try.underlying63 Try.sizeOf62 rfl rfl (i := i - 1) (by omega) (by omega)) ?_
            refine vt_valg rfl (fun w hw => os_fa (o := 0) (k := 0) (by kernel_rfl) rfl) ?_
            refine vt_valg rfl (fun w hw => os_load Try.isAgg3 rfl (led_cell hw (q1'))) ?_
            refine vt_valg rfl (fun w hw => os_f (os_lss rfl rfl) (by omega)) ?_
            refine vt_valg rfl (fun w hw => os_pick_t rfl rfl) ?_
            refine vt_val (fun w hw => os_pick_f rfl rfl) ?_
            refine vt_nil (fun w hw => ?_)
            obtain ⟨q, rfl⟩ := hw
            refine v_cond_f rfl ?_
            refine v_skip ?_
            refine v_region ?_
            refine vl_val (os_move rfl) ?_
            refine vl_val (os_addi rfl rfl (by omega)) ?_
            refine vl_val (os_assign rfl) ?_
            refine vl_nil ?_
            exact ⟨i + 1, ⟨rfl, rfl, trivial⟩, ⟨rfl, trivial⟩, ⟨by omega, by simp only [prevK]; omega, by rw [hg, hst, decide_eq_true (by unfold rowGood; omega)]; rfl, lee_d.trans b1 ⟨q, rfl⟩⟩, by dsimp only; omega⟩
    · obtain rfl : l = i := by omega
      refine v_exit ?_
      refine v_seq ?_
      refine v_region ?_
      refine vl_val (os_assign rfl) ?_
      refine vl_nil ?_
      refine v_ret ?_
      exact post_ret rfl rfl (⟨by rw [hg, List.drop_of_length_le (by omega)]; rfl, b1⟩)
  · have e0 : layOk n rows = false := by simp only [layOk]; rw [decide_eq_false (by omega)]; simp
    rw [e0]
    refine gives_enter Try.call128 Try.func128 rfl rfl rfl (by kernel_rfl) ?_
    rcases (by omega : n < 1 ∨ (1 ≤ n ∧ 255 < n) ∨ (1 ≤ n ∧ n ≤ 255 ∧ l < 1) ∨ (1 ≤ n ∧ n ≤ 255 ∧ 1 ≤ l ∧ 8 < l)) with g | ⟨g, g2⟩ | ⟨g, g2, g3⟩ | ⟨g, g2, g3, g4⟩
    · refine v_seq ?_
      refine v_region ?_
      refine vl_val (os_assign rfl) ?_
      refine vl_nil ?_
      refine v_seq ?_
      refine v_seq ?_
      refine v_region ?_
      refine vl_val (os_move rfl) ?_
      refine vl_val (os_t (os_lss rfl rfl) (by omega)) ?_
      refine vl_val (os_move rfl) ?_
      refine vl_skip rfl rfl ?_
      refine vl_skip rfl rfl ?_
      refine vl_val (os_pick_t rfl rfl) ?_
      refine vl_val (os_move rfl) ?_
      refine vl_skip rfl rfl ?_
      refine vl_skip rfl rfl ?_
      refine vl_skip rfl rfl ?_
      refine vl_val (os_pick_t rfl rfl) ?_
      refine vl_val (os_move rfl) ?_
      refine vl_skip rfl rfl ?_
      refine vl_skip rfl rfl ?_
      refine vl_skip rfl rfl ?_
      refine vl_val (os_pick_t rfl rfl) ?_
      refine vl_nil ?_
      refine v_cond_t rfl ?_
      refine v_seq ?_
      refine v_region ?_
      refine vl_val (os_assign rfl) ?_
      refine vl_nil ?_
      refine v_ret ?_
      exact post_ret rfl rfl (⟨rfl, lee_d.refl _⟩)
    · refine v_seq ?_
      refine v_region ?_
      refine vl_val (os_assign rfl) ?_
      refine vl_nil ?_
      refine v_seq ?_
      refine v_seq ?_
      refine v_region ?_
      refine vl_val (os_move rfl) ?_
      refine vl_val (os_f (os_lss rfl rfl) (by omega)) ?_
      refine vl_val (os_move rfl) ?_
      refine vl_valg rfl (os_move rfl) ?_
      refine vl_valg rfl (os_t (os_gtr rfl rfl) (by omega)) ?_
      refine vl_val (os_pick_f rfl rfl) ?_
      refine vl_val (os_move rfl) ?_
      refine vl_skip rfl rfl ?_
      refine vl_skip rfl rfl ?_
      refine vl_skip rfl rfl ?_
      refine vl_val (os_pick_t rfl rfl) ?_
      refine vl_val (os_move rfl) ?_
      refine vl_skip rfl rfl ?_
      refine vl_skip rfl rfl ?_
      refine vl_skip rfl rfl ?_
      refine vl_val (os_pick_t rfl rfl) ?_
      refine vl_nil ?_
      refine v_cond_t rfl ?_
      refine v_seq ?_
      refine v_region ?_
      refine vl_val (os_assign rfl) ?_
      refine vl_nil ?_
      refine v_ret ?_
      exact post_ret rfl rfl (⟨rfl, lee_d.refl _⟩)
    · refine v_seq ?_
      refine v_region ?_
      refine vl_val (os_assign rfl) ?_
      refine vl_nil ?_
      refine v_seq ?_
      refine v_seq ?_
      refine v_region ?_
      refine vl_val (os_move rfl) ?_
      refine vl_val (os_f (os_lss rfl rfl) (by omega)) ?_
      refine vl_val (os_move rfl) ?_
      refine vl_valg rfl (os_move rfl) ?_
      refine vl_valg rfl (os_f (os_gtr rfl rfl) (by omega)) ?_
      refine vl_val (os_pick_f rfl rfl) ?_
      refine vl_val (os_move rfl) ?_
      refine vl_valg rfl (os_move rfl) ?_
      refine vl_valg rfl (os_len Try.underlying63 rfl) ?_
      refine vl_valg rfl (os_t (os_lss rfl rfl) (by omega)) ?_
      refine vl_val (os_pick_f rfl rfl) ?_
      refine vl_val (os_move rfl) ?_
      refine vl_skip rfl rfl ?_
      refine vl_skip rfl rfl ?_
      refine vl_skip rfl rfl ?_
      refine vl_val (os_pick_t rfl rfl) ?_
      refine vl_nil ?_
      refine v_cond_t rfl ?_
      refine v_seq ?_
      refine v_region ?_
      refine vl_val (os_assign rfl) ?_
      refine vl_nil ?_
      refine v_ret ?_
      exact post_ret rfl rfl (⟨rfl, lee_d.refl _⟩)
    · refine v_seq ?_
      refine v_region ?_
      refine vl_val (os_assign rfl) ?_
      refine vl_nil ?_
      refine v_seq ?_
      refine v_seq ?_
      refine v_region ?_
      refine vl_val (os_move rfl) ?_
      refine vl_val (os_f (os_lss rfl rfl) (by omega)) ?_
      refine vl_val (os_move rfl) ?_
      refine vl_valg rfl (os_move rfl) ?_
      refine vl_valg rfl (os_f (os_gtr rfl rfl) (by omega)) ?_
      refine vl_val (os_pick_f rfl rfl) ?_
      refine vl_val (os_move rfl) ?_
      refine vl_valg rfl (os_move rfl) ?_
      refine vl_valg rfl (os_len Try.underlying63 rfl) ?_
      refine vl_valg rfl (os_f (os_lss rfl rfl) (by omega)) ?_
      refine vl_val (os_pick_f rfl rfl) ?_
      refine vl_val (os_move rfl) ?_
      refine vl_valg rfl (os_move rfl) ?_
      refine vl_valg rfl (os_len Try.underlying63 rfl) ?_
      refine vl_valg rfl (os_gtr rfl rfl) ?_
      refine vl_val (os_pick_f rfl rfl) ?_
      refine vl_nil ?_
      refine v_cond_yes rfl (by omega) ?_
      refine v_seq ?_
      refine v_region ?_
      refine vl_val (os_assign rfl) ?_
      refine vl_nil ?_
      refine v_ret ?_
      exact post_ret rfl rfl (⟨rfl, lee_d.refl _⟩)
theorem ref10_width (x : Int × Int) (w : World) : Gives Try.prog 131 #[.agg (rowC x).toArray] w fun v w' => v = .int .i64 (widthV x.2 x.1) ∧ Below w.heap.size w w' := by
  have hB := bk_new w (rowC x) 62
  have hb : Below w.heap.size w (w.alloc (.cells (rowC x).toArray 62)) := (Below.refl _ w).alloc (Nat.le_refl _) _
  refine gives_enter Try.call131 Try.func131 rfl rfl rfl (by kernel_rfl) ?_
  refine v_seq ?_
  refine v_region ?_
  refine vl_val (os_box rfl) ?_
  refine vl_val (os_assign rfl) ?_
  refine vl_nil ?_
  refine v_seq ?_
  refine v_region ?_
  refine vl_val (os_fa (o := 1) (k := 0) (by kernel_rfl) rfl) ?_
  refine vl_val (os_load Try.isAgg3 rfl (hB.cell rfl)) ?_
  refine vl_val (os_fa (o := 0) (k := 0) (by kernel_rfl) rfl) ?_
  refine vl_val (os_load Try.isAgg3 rfl (hB.cell rfl)) ?_
  refine vl_call (ref09_Width x.2 x.1 _) rfl ?_
  rintro v1 w1 ⟨rfl, rfl⟩
  refine vl_val (os_move rfl) ?_
  refine vl_val (os_extract rfl rfl) ?_
  refine vl_val (os_extract rfl rfl) ?_
  refine vl_val (os_assign rfl) ?_
  refine vl_val (os_assign rfl) ?_
  refine vl_nil ?_
  refine v_seq ?_
  refine v_region ?_
  refine vl_val (os_move rfl) ?_
  refine vl_val (os_assign rfl) ?_
  refine vl_nil ?_
  refine v_ret ?_
  exact post_ret rfl rfl (⟨rfl, hb⟩)
theorem ref10_Long (n : Int) (A : Option Addr) (l c : Nat) (rows : List (Int × Int)) (w : World) (ha : RdP w 2 A (rows.map rowC)) (hl : l = rows.length) :
    Gives Try.prog 83 #[.int .i64 n, .slice A l c] w fun v w' => v = .tuple #[.int .i64 (longV n rows), .int .i64 (errE (layOk n rows))] ∧ Below w.heap.size w w' := by
  cases hok : layOk n rows
  · skip
    refine gives_enter Try.call83 Try.func83 rfl rfl rfl (by kernel_rfl) ?_
    refine v_seq ?_
    refine v_region ?_
    refine vl_val (os_assign rfl) ?_
    refine vl_val (os_assign rfl) ?_
    refine vl_nil ?_
    refine v_seq ?_
    refine v_seq ?_
    refine v_region ?_
    refine vl_val (os_move rfl) ?_
    refine vl_val (os_move rfl) ?_
    refine vl_call (gives_boolb (ref10_Right n A l c rows w ha hl) hok) rfl ?_
    rintro v1 w1 ⟨rfl, b1⟩
    refine vl_val (os_not rfl) ?_
    refine vl_nil ?_
    refine v_cond_t rfl ?_
    refine v_seq ?_
    refine v_region ?_
    refine vl_val (os_assign rfl) ?_
    refine vl_val (os_assign rfl) ?_
    refine vl_nil ?_
    refine v_ret ?_
    exact post_ret2 rfl rfl rfl (⟨by simp [longV, hok, errE], led_below b1⟩)
  · obtain ⟨⟨p1, p2⟩, p3, p4, p5, p6⟩ := layOk_parts hok
    refine gives_enter Try.call83 Try.func83 rfl rfl rfl (by kernel_rfl) ?_
    refine v_seq ?_
    refine v_region ?_
    refine vl_val (os_assign rfl) ?_
    refine vl_val (os_assign rfl) ?_
    refine vl_nil ?_
    refine v_seq ?_
    refine v_seq ?_
    refine v_region ?_
    refine vl_val (os_move rfl) ?_
    refine vl_val (os_move rfl) ?_
    refine vl_call (gives_boolb (ref10_Right n A l c rows w ha hl) hok) rfl ?_
    rintro v1 w1 ⟨rfl, b1⟩
    have b1' : Below w.heap.size w w1 := led_below b1
    refine vl_val (os_not rfl) ?_
    refine vl_nil ?_
    refine v_cond_f rfl ?_
    refine v_skip ?_
    refine v_seq ?_
    refine v_region ?_
    refine vl_val (os_assign rfl) ?_
    refine vl_nil ?_
    refine v_seq ?_
    refine v_seq ?_
    refine v_region ?_
    refine vl_val (os_assign rfl) ?_
    refine vl_nil ?_
    refine v_block ?_
    refine v_loop [(1, _)] (fun (i : Nat) => [(6, .int .i64 (offS rows i)), (7, .int .i64 i)]) (fun i w' => i ≤ l ∧ Below w.heap.size w w') (fun i => l - i) (0) ⟨rfl, trivial⟩ ⟨rfl, rfl, trivial⟩ (⟨by omega, b1'⟩) ?_
    rintro i w2 ⟨hi, b2⟩
    refine v_seq ?_
    refine v_seq ?_
    refine v_region ?_
    refine vl_val (os_move rfl) ?_
    refine vl_val (os_move rfl) ?_
    refine vl_val (os_len Try.underlying63 rfl) ?_
    refine vl_val (os_lss rfl rfl) ?_
    refine vl_nil ?_
    refine v_cond_d rfl (fun h => ?_) (fun h => ?_)
    · obtain ⟨b, o, rfl, q1, q2, q3⟩ := (show RdP w2 2 A (rows.map rowC) from ha.keep b2).at2 (i := i) (by omega)
      have hb1 := offS_bd (rows := rows) (i + 1)
      have e1 : offS rows (i + 1) = offS rows i + widthV (rows.getD i (0, 0)).2 (rows.getD i (0, 0)).1 := rfl
      refine v_skip ?_
      refine v_seq ?_
      refine v_block ?_
      refine v_region ?_
      refine vl_val (os_move rfl) ?_
      refine vl_val (os_move rfl) ?_
      refine vl_val (os_move rfl) ?_
      refine vl_val (os_ixs Try.underlying63 Try.sizeOf62 rfl rfl (i := i) (by omega) (by omega)) ?_
      refine vl_val (os_loadP Try.underlying62 rfl (by kernel_rfl) rfl q3) ?_
      refine vl_call (ref10_width (rows.getD i (0, 0)) w2) rfl ?_
      rintro v3 w3 ⟨rfl, b3⟩
      refine vl_val (os_addi rfl rfl (by omega)) ?_
      refine vl_val (os_assign rfl) ?_
      refine vl_nil ?_
      refine v_region ?_
      refine vl_val (os_move rfl) ?_
      refine vl_val (os_addi rfl rfl (by omega)) ?_
      refine vl_val (os_assign rfl) ?_
      refine vl_nil ?_
      exact ⟨i + 1, ⟨rfl, trivial⟩, ⟨rfl, rfl, trivial⟩, ⟨by omega, b2.trans (b3.mono b2.size)⟩, by dsimp only; omega⟩
    · obtain rfl : l = i := by omega
      refine v_exit ?_
      refine v_seq ?_
      refine v_region ?_
      refine vl_val (os_move rfl) ?_
      refine vl_val (os_assign rfl) ?_
      refine vl_val (os_assign rfl) ?_
      refine vl_nil ?_
      refine v_ret ?_
      exact post_ret2 rfl rfl rfl (⟨by simp [longV, hok, errE, hl], b2⟩)
theorem ref11_Right (n m b : Int) (w : World) : Gives Try.prog 71 #[.agg #[.int .i64 n, .int .i64 m, .int .i64 b]] w fun v w' => v = .bool (rightB n m b) ∧ Below w.heap.size w w' := by
  have hbel : Below w.heap.size w (w.alloc (.cells #[.int .i64 n, .int .i64 m, .int .i64 b] 49)) := (Below.refl _ w).alloc (Nat.le_refl _) _
  have hB := bk_new w [.int .i64 n, .int .i64 m, .int .i64 b] 49
  refine gives_enter Try.call71 Try.func71 rfl rfl rfl (by kernel_rfl) ?_
  rcases (by omega : n < 1 ∨ (1 ≤ n ∧ 255 < n) ∨ (1 ≤ n ∧ n ≤ 255 ∧ m < 64) ∨ (1 ≤ n ∧ n ≤ 255 ∧ 64 ≤ m)) with g | ⟨g, g2⟩ | ⟨g, g2, g3⟩ | ⟨g, g2, g3⟩
  · refine v_seq ?_
    refine v_region ?_
    refine vl_val (os_box rfl) ?_
    refine vl_val (os_assign rfl) ?_
    refine vl_nil ?_
    refine v_seq ?_
    refine v_region ?_
    refine vl_val (os_fa (o := 0) (k := 0) (by kernel_rfl) rfl) ?_
    refine vl_val (os_load Try.isAgg3 rfl (hB.cell (i := 0) rfl)) ?_
    refine vl_val (os_f (os_geq rfl rfl) (by omega)) ?_
    refine vl_val (os_move rfl) ?_
    refine vl_skip rfl rfl ?_
    refine vl_skip rfl rfl ?_
    refine vl_skip rfl rfl ?_
    refine vl_val (os_pick_f rfl rfl) ?_
    refine vl_val (os_move rfl) ?_
    refine vl_skip rfl rfl ?_
    refine vl_skip rfl rfl ?_
    refine vl_skip rfl rfl ?_
    refine vl_val (os_pick_f rfl rfl) ?_
    refine vl_val (os_move rfl) ?_
    refine vl_skip rfl rfl ?_
    refine vl_skip rfl rfl ?_
    refine vl_skip rfl rfl ?_
    refine vl_val (os_pick_f rfl rfl) ?_
    refine vl_val (os_move rfl) ?_
    refine vl_skip rfl rfl ?_
    refine vl_skip rfl rfl ?_
    refine vl_skip rfl rfl ?_
    refine vl_val (os_pick_f rfl rfl) ?_
    refine vl_val (os_move rfl) ?_
    refine vl_skip rfl rfl ?_
    refine vl_skip rfl rfl ?_
    refine vl_skip rfl rfl ?_
    refine vl_val (os_pick_f rfl rfl) ?_
    refine vl_val (os_assign rfl) ?_
    refine vl_nil ?_
    refine v_ret ?_
    exact post_ret rfl rfl (⟨by simp [rightB]; omega, hbel⟩)
  · refine v_seq ?_
    refine v_region ?_
    refine vl_val (os_box rfl) ?_
    refine vl_val (os_assign rfl) ?_
    refine vl_nil ?_
    refine v_seq ?_
    refine v_region ?_
    refine vl_val (os_fa (o := 0) (k := 0) (by kernel_rfl) rfl) ?_
    refine vl_val (os_load Try.isAgg3 rfl (hB.cell (i := 0) rfl)) ?_
    refine vl_val (os_t (os_geq rfl rfl) (by omega)) ?_
    refine vl_val (os_move rfl) ?_
    refine vl_valg rfl (os_fa (o := 0) (k := 0) (by kernel_rfl) rfl) ?_
    refine vl_valg rfl (os_load Try.isAgg3 rfl (hB.cell (i := 0) rfl)) ?_
    refine vl_valg rfl (os_f (os_leq rfl rfl) (by omega)) ?_
    refine vl_val (os_pick_t rfl rfl) ?_
    refine vl_val (os_move rfl) ?_
    refine vl_skip rfl rfl ?_
    refine vl_skip rfl rfl ?_
    refine vl_skip rfl rfl ?_
    refine vl_val (os_pick_f rfl rfl) ?_
    refine vl_val (os_move rfl) ?_
    refine vl_skip rfl rfl ?_
    refine vl_skip rfl rfl ?_
    refine vl_skip rfl rfl ?_
    refine vl_val (os_pick_f rfl rfl) ?_
    refine vl_val (os_move rfl) ?_
    refine vl_skip rfl rfl ?_
    refine vl_skip rfl rfl ?_
    refine vl_skip rfl rfl ?_
    refine vl_val (os_pick_f rfl rfl) ?_
    refine vl_val (os_move rfl) ?_
    refine vl_skip rfl rfl ?_
    refine vl_skip rfl rfl ?_
    refine vl_skip rfl rfl ?_
    refine vl_val (os_pick_f rfl rfl) ?_
    refine vl_val (os_assign rfl) ?_
    refine vl_nil ?_
    refine v_ret ?_
    exact post_ret rfl rfl (⟨by simp [rightB]; omega, hbel⟩)
  · refine v_seq ?_
    refine v_region ?_
    refine vl_val (os_box rfl) ?_
    refine vl_val (os_assign rfl) ?_
    refine vl_nil ?_
    refine v_seq ?_
    refine v_region ?_
    refine vl_val (os_fa (o := 0) (k := 0) (by kernel_rfl) rfl) ?_
    refine vl_val (os_load Try.isAgg3 rfl (hB.cell (i := 0) rfl)) ?_
    refine vl_val (os_t (os_geq rfl rfl) (by omega)) ?_
    refine vl_val (os_move rfl) ?_
    refine vl_valg rfl (os_fa (o := 0) (k := 0) (by kernel_rfl) rfl) ?_
    refine vl_valg rfl (os_load Try.isAgg3 rfl (hB.cell (i := 0) rfl)) ?_
    refine vl_valg rfl (os_t (os_leq rfl rfl) (by omega)) ?_
    refine vl_val (os_pick_t rfl rfl) ?_
    refine vl_val (os_move rfl) ?_
    refine vl_valg rfl (os_fa (o := 1) (k := 0) (by kernel_rfl) rfl) ?_
    refine vl_valg rfl (os_load Try.isAgg3 rfl (hB.cell (i := 1) rfl)) ?_
    refine vl_valg rfl (os_f (os_geq rfl rfl) (by omega)) ?_
    refine vl_val (os_pick_t rfl rfl) ?_
    refine vl_val (os_move rfl) ?_
    refine vl_skip rfl rfl ?_
    refine vl_skip rfl rfl ?_
    refine vl_skip rfl rfl ?_
    refine vl_val (os_pick_f rfl rfl) ?_
    refine vl_val (os_move rfl) ?_
    refine vl_skip rfl rfl ?_
    refine vl_skip rfl rfl ?_
    refine vl_skip rfl rfl ?_
    refine vl_val (os_pick_f rfl rfl) ?_
    refine vl_val (os_move rfl) ?_
    refine vl_skip rfl rfl ?_
    refine vl_skip rfl rfl ?_
    refine vl_skip rfl rfl ?_
    refine vl_val (os_pick_f rfl rfl) ?_
    refine vl_val (os_assign rfl) ?_
    refine vl_nil ?_
    refine v_ret ?_
    exact post_ret rfl rfl (⟨by simp [rightB]; omega, hbel⟩)
  · rcases (by omega : 1500 < m ∨ (m ≤ 1500 ∧ b < 1) ∨ (m ≤ 1500 ∧ 1 ≤ b)) with g4 | ⟨g4, g5⟩ | ⟨g4, g5⟩
    · refine v_seq ?_
      refine v_region ?_
      refine vl_val (os_box rfl) ?_
      refine vl_val (os_assign rfl) ?_
      refine vl_nil ?_
      refine v_seq ?_
      refine v_region ?_
      refine vl_val (os_fa (o := 0) (k := 0) (by kernel_rfl) rfl) ?_
      refine vl_val (os_load Try.isAgg3 rfl (hB.cell (i := 0) rfl)) ?_
      refine vl_val (os_t (os_geq rfl rfl) (by omega)) ?_
      refine vl_val (os_move rfl) ?_
      refine vl_valg rfl (os_fa (o := 0) (k := 0) (by kernel_rfl) rfl) ?_
      refine vl_valg rfl (os_load Try.isAgg3 rfl (hB.cell (i := 0) rfl)) ?_
      refine vl_valg rfl (os_t (os_leq rfl rfl) (by omega)) ?_
      refine vl_val (os_pick_t rfl rfl) ?_
      refine vl_val (os_move rfl) ?_
      refine vl_valg rfl (os_fa (o := 1) (k := 0) (by kernel_rfl) rfl) ?_
      refine vl_valg rfl (os_load Try.isAgg3 rfl (hB.cell (i := 1) rfl)) ?_
      refine vl_valg rfl (os_t (os_geq rfl rfl) (by omega)) ?_
      refine vl_val (os_pick_t rfl rfl) ?_
      refine vl_val (os_move rfl) ?_
      refine vl_valg rfl (os_fa (o := 1) (k := 0) (by kernel_rfl) rfl) ?_
      refine vl_valg rfl (os_load Try.isAgg3 rfl (hB.cell (i := 1) rfl)) ?_
      refine vl_valg rfl (os_f (os_leq rfl rfl) (by omega)) ?_
      refine vl_val (os_pick_t rfl rfl) ?_
      refine vl_val (os_move rfl) ?_
      refine vl_skip rfl rfl ?_
      refine vl_skip rfl rfl ?_
      refine vl_skip rfl rfl ?_
      refine vl_val (os_pick_f rfl rfl) ?_
      refine vl_val (os_move rfl) ?_
      refine vl_skip rfl rfl ?_
      refine vl_skip rfl rfl ?_
      refine vl_skip rfl rfl ?_
      refine vl_val (os_pick_f rfl rfl) ?_
      refine vl_val (os_assign rfl) ?_
      refine vl_nil ?_
      refine v_ret ?_
      exact post_ret rfl rfl (⟨by simp [rightB]; omega, hbel⟩)
    · refine v_seq ?_
      refine v_region ?_
      refine vl_val (os_box rfl) ?_
      refine vl_val (os_assign rfl) ?_
      refine vl_nil ?_
      refine v_seq ?_
      refine v_region ?_
      refine vl_val (os_fa (o := 0) (k := 0) (by kernel_rfl) rfl) ?_
      refine vl_val (os_load Try.isAgg3 rfl (hB.cell (i := 0) rfl)) ?_
      refine vl_val (os_t (os_geq rfl rfl) (by omega)) ?_
      refine vl_val (os_move rfl) ?_
      refine vl_valg rfl (os_fa (o := 0) (k := 0) (by kernel_rfl) rfl) ?_
      refine vl_valg rfl (os_load Try.isAgg3 rfl (hB.cell (i := 0) rfl)) ?_
      refine vl_valg rfl (os_t (os_leq rfl rfl) (by omega)) ?_
      refine vl_val (os_pick_t rfl rfl) ?_
      refine vl_val (os_move rfl) ?_
      refine vl_valg rfl (os_fa (o := 1) (k := 0) (by kernel_rfl) rfl) ?_
      refine vl_valg rfl (os_load Try.isAgg3 rfl (hB.cell (i := 1) rfl)) ?_
      refine vl_valg rfl (os_t (os_geq rfl rfl) (by omega)) ?_
      refine vl_val (os_pick_t rfl rfl) ?_
      refine vl_val (os_move rfl) ?_
      refine vl_valg rfl (os_fa (o := 1) (k := 0) (by kernel_rfl) rfl) ?_
      refine vl_valg rfl (os_load Try.isAgg3 rfl (hB.cell (i := 1) rfl)) ?_
      refine vl_valg rfl (os_t (os_leq rfl rfl) (by omega)) ?_
      refine vl_val (os_pick_t rfl rfl) ?_
      refine vl_val (os_move rfl) ?_
      refine vl_valg rfl (os_fa (o := 2) (k := 0) (by kernel_rfl) rfl) ?_
      refine vl_valg rfl (os_load Try.isAgg3 rfl (hB.cell (i := 2) rfl)) ?_
      refine vl_valg rfl (os_f (os_geq rfl rfl) (by omega)) ?_
      refine vl_val (os_pick_t rfl rfl) ?_
      refine vl_val (os_move rfl) ?_
      refine vl_skip rfl rfl ?_
      refine vl_skip rfl rfl ?_
      refine vl_skip rfl rfl ?_
      refine vl_val (os_pick_f rfl rfl) ?_
      refine vl_val (os_assign rfl) ?_
      refine vl_nil ?_
      refine v_ret ?_
      exact post_ret rfl rfl (⟨by simp [rightB]; omega, hbel⟩)
    · refine v_seq ?_
      refine v_region ?_
      refine vl_val (os_box rfl) ?_
      refine vl_val (os_assign rfl) ?_
      refine vl_nil ?_
      refine v_seq ?_
      refine v_region ?_
      refine vl_val (os_fa (o := 0) (k := 0) (by kernel_rfl) rfl) ?_
      refine vl_val (os_load Try.isAgg3 rfl (hB.cell (i := 0) rfl)) ?_
      refine vl_val (os_t (os_geq rfl rfl) (by omega)) ?_
      refine vl_val (os_move rfl) ?_
      refine vl_valg rfl (os_fa (o := 0) (k := 0) (by kernel_rfl) rfl) ?_
      refine vl_valg rfl (os_load Try.isAgg3 rfl (hB.cell (i := 0) rfl)) ?_
      refine vl_valg rfl (os_t (os_leq rfl rfl) (by omega)) ?_
      refine vl_val (os_pick_t rfl rfl) ?_
      refine vl_val (os_move rfl) ?_
      refine vl_valg rfl (os_fa (o := 1) (k := 0) (by kernel_rfl) rfl) ?_
      refine vl_valg rfl (os_load Try.isAgg3 rfl (hB.cell (i := 1) rfl)) ?_
      refine vl_valg rfl (os_t (os_geq rfl rfl) (by omega)) ?_
      refine vl_val (os_pick_t rfl rfl) ?_
      refine vl_val (os_move rfl) ?_
      refine vl_valg rfl (os_fa (o := 1) (k := 0) (by kernel_rfl) rfl) ?_
      refine vl_valg rfl (os_load Try.isAgg3 rfl (hB.cell (i := 1) rfl)) ?_
      refine vl_valg rfl (os_t (os_leq rfl rfl) (by omega)) ?_
      refine vl_val (os_pick_t rfl rfl) ?_
      refine vl_val (os_move rfl) ?_
      refine vl_valg rfl (os_fa (o := 2) (k := 0) (by kernel_rfl) rfl) ?_
      refine vl_valg rfl (os_load Try.isAgg3 rfl (hB.cell (i := 2) rfl)) ?_
      refine vl_valg rfl (os_t (os_geq rfl rfl) (by omega)) ?_
      refine vl_val (os_pick_t rfl rfl) ?_
      refine vl_val (os_move rfl) ?_
      refine vl_valg rfl (os_fa (o := 2) (k := 0) (by kernel_rfl) rfl) ?_
      refine vl_valg rfl (os_load Try.isAgg3 rfl (hB.cell (i := 2) rfl)) ?_
      refine vl_valg rfl (os_leq rfl rfl) ?_
      refine vl_val (os_pick_t rfl rfl) ?_
      refine vl_val (os_assign rfl) ?_
      refine vl_nil ?_
      refine v_ret ?_
      exact post_ret rfl rfl (⟨by unfold rightB; congr 1; rw [decide_eq_decide]; omega, hbel⟩)

theorem ref11_Room (n m b l : Int) (w : World) : Gives Try.prog 64 #[.agg #[.int .i64 n, .int .i64 m, .int .i64 b], .int .i64 l] w fun v w' => v = .tuple #[.int .i64 (roomV n m b l), .int .i64 (errE (roomOk n m b l))] ∧ Below w.heap.size w w' := by
  have hbel : Below w.heap.size w (w.alloc (.cells #[.int .i64 n, .int .i64 m, .int .i64 b] 49)) := (Below.refl _ w).alloc (Nat.le_refl _) _
  have hB := bk_new w [.int .i64 n, .int .i64 m, .int .i64 b] 49
  refine gives_enter Try.call64 Try.func64 rfl rfl rfl (by kernel_rfl) ?_
  cases hr : rightB n m b
  · refine v_seq ?_
    refine v_region ?_
    refine vl_val (os_box rfl) ?_
    refine vl_val (os_assign rfl) ?_
    refine vl_val (os_assign rfl) ?_
    refine vl_nil ?_
    refine v_seq ?_
    refine v_seq ?_
    refine v_region ?_
    refine vl_val (os_loadB Try.underlying49 rfl (by kernel_rfl) rfl (hB)) ?_
    refine vl_call (gives_boolb (ref11_Right n m b _) hr) rfl ?_
    rintro v1 w1 ⟨rfl, b1⟩
    refine vl_val (os_not rfl) ?_
    refine vl_val (os_move rfl) ?_
    refine vl_skip rfl rfl ?_
    refine vl_skip rfl rfl ?_
    refine vl_val (os_pick_t rfl rfl) ?_
    refine vl_val (os_move rfl) ?_
    refine vl_skip rfl rfl ?_
    refine vl_skip rfl rfl ?_
    refine vl_val (os_pick_t rfl rfl) ?_
    refine vl_nil ?_
    refine v_cond_t rfl ?_
    refine v_seq ?_
    refine v_region ?_
    refine vl_val (os_assign rfl) ?_
    refine vl_val (os_assign rfl) ?_
    refine vl_nil ?_
    refine v_ret ?_
    exact post_ret2 rfl rfl rfl (⟨by simp [roomV, roomOk, hr, errE], hbel.trans (b1.mono hbel.size)⟩)
  · cases hl : betw l 1 8
    · have hl' : l < 1 ∨ (1 ≤ l ∧ 8 < l) := by simp [betw] at hl; omega
      rcases hl' with g | ⟨g, g2⟩
      · refine v_seq ?_
        refine v_region ?_
        refine vl_val (os_box rfl) ?_
        refine vl_val (os_assign rfl) ?_
        refine vl_val (os_assign rfl) ?_
        refine vl_nil ?_
        refine v_seq ?_
        refine v_seq ?_
        refine v_region ?_
        refine vl_val (os_loadB Try.underlying49 rfl (by kernel_rfl) rfl (hB)) ?_
        refine vl_call (gives_boolb (ref11_Right n m b _) hr) rfl ?_
        rintro v1 w1 ⟨rfl, b1⟩
        refine vl_val (os_not rfl) ?_
        refine vl_val (os_move rfl) ?_
        refine vl_valg rfl (os_move rfl) ?_
        refine vl_valg rfl (os_t (os_lss rfl rfl) (by omega)) ?_
        refine vl_val (os_pick_f rfl rfl) ?_
        refine vl_val (os_move rfl) ?_
        refine vl_skip rfl rfl ?_
        refine vl_skip rfl rfl ?_
        refine vl_val (os_pick_t rfl rfl) ?_
        refine vl_nil ?_
        refine v_cond_t rfl ?_
        refine v_seq ?_
        refine v_region ?_
        refine vl_val (os_assign rfl) ?_
        refine vl_val (os_assign rfl) ?_
        refine vl_nil ?_
        refine v_ret ?_
        exact post_ret2 rfl rfl rfl (⟨by simp [roomV, roomOk, hr, hl, errE], hbel.trans (b1.mono hbel.size)⟩)
      · refine v_seq ?_
        refine v_region ?_
        refine vl_val (os_box rfl) ?_
        refine vl_val (os_assign rfl) ?_
        refine vl_val (os_assign rfl) ?_
        refine vl_nil ?_
        refine v_seq ?_
        refine v_seq ?_
        refine v_region ?_
        refine vl_val (os_loadB Try.underlying49 rfl (by kernel_rfl) rfl (hB)) ?_
        refine vl_call (gives_boolb (ref11_Right n m b _) hr) rfl ?_
        rintro v1 w1 ⟨rfl, b1⟩
        refine vl_val (os_not rfl) ?_
        refine vl_val (os_move rfl) ?_
        refine vl_valg rfl (os_move rfl) ?_
        refine vl_valg rfl (os_f (os_lss rfl rfl) (by omega)) ?_
        refine vl_val (os_pick_f rfl rfl) ?_
        refine vl_val (os_move rfl) ?_
        refine vl_valg rfl (os_move rfl) ?_
        refine vl_valg rfl (os_gtr rfl rfl) ?_
        refine vl_val (os_pick_f rfl rfl) ?_
        refine vl_nil ?_
        refine v_cond_yes rfl (by omega) ?_
        refine v_seq ?_
        refine v_region ?_
        refine vl_val (os_assign rfl) ?_
        refine vl_val (os_assign rfl) ?_
        refine vl_nil ?_
        refine v_ret ?_
        exact post_ret2 rfl rfl rfl (⟨by simp [roomV, roomOk, hr, hl, errE], hbel.trans (b1.mono hbel.size)⟩)
    · have hl' : 1 ≤ l ∧ l ≤ 8 := by simpa [betw] using hl
      have hro : roomOk n m b l = true := by simp [roomOk, hr, hl]
      have hrb := room_bd hro
      have hrr := right_bd hr
      refine v_seq ?_
      refine v_region ?_
      refine vl_val (os_box rfl) ?_
      refine vl_val (os_assign rfl) ?_
      refine vl_val (os_assign rfl) ?_
      refine vl_nil ?_
      refine v_seq ?_
      refine v_seq ?_
      refine v_region ?_
      refine vl_val (os_loadB Try.underlying49 rfl (by kernel_rfl) rfl (hB)) ?_
      refine vl_call (gives_boolb (ref11_Right n m b _) hr) rfl ?_
      rintro v1 w1 ⟨rfl, b1⟩
      refine vl_val (os_not rfl) ?_
      refine vl_val (os_move rfl) ?_
      refine vl_valg rfl (os_move rfl) ?_
      refine vl_valg rfl (os_f (os_lss rfl rfl) (by omega)) ?_
      refine vl_val (os_pick_f rfl rfl) ?_
      refine vl_val (os_move rfl) ?_
      refine vl_valg rfl (os_move rfl) ?_
      refine vl_valg rfl (os_gtr rfl rfl) ?_
      refine vl_val (os_pick_f rfl rfl) ?_
      refine vl_nil ?_
      refine v_cond_no rfl (by omega) ?_
      have b1' := hbel.trans (b1.mono hbel.size)
      have hB1 := hB.keep b1
      refine v_skip ?_
      refine v_seq ?_
      refine v_region ?_
      refine vl_val (os_move rfl) ?_
      refine vl_val (os_muli rfl rfl (by omega)) ?_
      refine vl_val (os_addi rfl rfl (by omega)) ?_
      refine vl_val (os_assign rfl) ?_
      refine vl_nil ?_
      refine v_seq ?_
      refine v_region ?_
      refine vl_val (os_assign rfl) ?_
      refine vl_nil ?_
      refine v_seq ?_
      refine v_block ?_
      refine v_loop [(2, _), (6, _)] (fun (x : Int) => [(7, .int .i64 x)]) (fun x w' => -1 ≤ x ∧ x ≤ roomW n m b l ∧ w' = w1) (fun x => (roomW n m b l - x).toNat) (-1) ⟨rfl, rfl, trivial⟩ ⟨rfl, trivial⟩ (⟨by omega, hrb.1, rfl⟩) ?_
      rintro x w1 ⟨hx1, hx2, rfl⟩
      have hri := room_iff hro (show 0 ≤ x + 1 by omega)
      have hmul : 0 ≤ n * (18 + 3 * l + x + 1) ∧ n * (18 + 3 * l + x + 1) ≤ 255 * 2000 := ⟨Int.mul_nonneg (by omega) (by omega), Int.mul_le_mul (by omega) (by omega) (by omega) (by omega)⟩
      have hcm : (18 + 3 * l + (x + 1)) * n = n * (18 + 3 * l + x + 1) := by rw [Int.mul_comm]; congr 1; omega
      rw [hcm] at hri
      by_cases hle : 18 + 3 * l + x + 1 ≤ m
      · refine v_seq ?_
        refine v_seq ?_
        refine v_region ?_
        refine vl_val (os_move rfl) ?_
        refine vl_val (os_move rfl) ?_
        refine vl_val (os_addi rfl rfl (by omega)) ?_
        refine vl_val (os_addi rfl rfl (by omega)) ?_
        refine vl_val (os_fa (o := 1) (k := 0) (by kernel_rfl) rfl) ?_
        refine vl_val (os_load Try.isAgg3 rfl (hB1.cell (i := 1) rfl)) ?_
        refine vl_val (os_t (os_leq rfl rfl) (by omega)) ?_
        refine vl_val (os_move rfl) ?_
        refine vl_valg rfl (os_fa (o := 0) (k := 0) (by kernel_rfl) rfl) ?_
        refine vl_valg rfl (os_load Try.isAgg3 rfl (hB1.cell (i := 0) rfl)) ?_
        refine vl_valg rfl (os_move rfl) ?_
        refine vl_valg rfl (os_move rfl) ?_
        refine vl_valg rfl (os_addi rfl rfl (by omega)) ?_
        refine vl_valg rfl (os_addi rfl rfl (by omega)) ?_
        refine vl_valg rfl (os_mul rfl rfl (i64_fit ⟨by omega, by omega⟩)) ?_
        refine vl_valg rfl (os_fa (o := 2) (k := 0) (by kernel_rfl) rfl) ?_
        refine vl_valg rfl (os_load Try.isAgg3 rfl (hB1.cell (i := 2) rfl)) ?_
        refine vl_valg rfl (os_leq rfl rfl) ?_
        refine vl_val (os_pick_t rfl rfl) ?_
        refine vl_nil ?_
        refine v_cond_d rfl (fun hlt => ?_) (fun hlt => ?_)
        · refine v_skip ?_
          refine v_block ?_
          refine v_region ?_
          refine vl_val (os_move rfl) ?_
          refine vl_val (os_addi rfl rfl (by omega)) ?_
          refine vl_val (os_assign rfl) ?_
          refine vl_nil ?_
          exact ⟨x + 1, ⟨rfl, rfl, trivial⟩, ⟨rfl, trivial⟩, ⟨by omega, by omega, rfl⟩, by dsimp only; omega⟩
        · obtain rfl : roomW n m b l = x := by omega
          refine v_exit ?_
          refine v_seq ?_
          refine v_region ?_
          refine vl_val (os_move rfl) ?_
          refine vl_val (os_assign rfl) ?_
          refine vl_val (os_assign rfl) ?_
          refine vl_nil ?_
          refine v_ret ?_
          exact post_ret2 rfl rfl rfl (⟨by simp [roomV, hro, errE], b1'⟩)
      · refine v_seq ?_
        refine v_seq ?_
        refine v_region ?_
        refine vl_val (os_move rfl) ?_
        refine vl_val (os_move rfl) ?_
        refine vl_val (os_addi rfl rfl (by omega)) ?_
        refine vl_val (os_addi rfl rfl (by omega)) ?_
        refine vl_val (os_fa (o := 1) (k := 0) (by kernel_rfl) rfl) ?_
        refine vl_val (os_load Try.isAgg3 rfl (hB1.cell (i := 1) rfl)) ?_
        refine vl_val (os_f (os_leq rfl rfl) (by omega)) ?_
        obtain rfl : roomW n m b l = x := by omega
        refine vl_val (os_move rfl) ?_
        refine vl_skip rfl rfl ?_
        refine vl_skip rfl rfl ?_
        refine vl_skip rfl rfl ?_
        refine vl_skip rfl rfl ?_
        refine vl_skip rfl rfl ?_
        refine vl_skip rfl rfl ?_
        refine vl_skip rfl rfl ?_
        refine vl_skip rfl rfl ?_
        refine vl_skip rfl rfl ?_
        refine vl_skip rfl rfl ?_
        refine vl_val (os_pick_f rfl rfl) ?_
        refine vl_nil ?_
        refine v_cond_f rfl ?_
        refine v_exit ?_
        refine v_seq ?_
        refine v_region ?_
        refine vl_val (os_move rfl) ?_
        refine vl_val (os_assign rfl) ?_
        refine vl_val (os_assign rfl) ?_
        refine vl_nil ?_
        refine v_ret ?_
        exact post_ret2 rfl rfl rfl (⟨by simp [roomV, hro, errE], b1'⟩)
theorem lens_bad {ls : List Int} {i : Nat} (hi : i < ls.length) (h : ls.getD i 0 < 0 ∨ 65535 < ls.getD i 0) : lensB ls = false := by
  cases hb : lensB ls
  · rfl
  · have := (lens_bd hb).2.2 i hi; omega
theorem lens_good {ls : List Int} {l : Nat} (h : ∀ j, j < l → 0 ≤ ls.getD j 0 ∧ ls.getD j 0 ≤ 65535) (hl : l = ls.length) : lensB ls = decide (1 ≤ l ∧ l ≤ 8) := by
  subst hl
  have e : (ls.any fun z => !betw z 0 65535) = false := by
    rw [List.any_eq_false]
    intro z hz
    obtain ⟨i, hi, rfl⟩ := List.getElem_of_mem hz
    have := h i hi
    have e : ls.getD i 0 = ls[i] := by simp [hi]
    rw [e] at this
    simp [betw, this]
  unfold lensB
  rw [e]
  simp only [Bool.not_false, Bool.and_true, betw]
  rw [decide_eq_decide]; omega
theorem lens_step {ls : List Int} {i : Nat} (hb : ∀ j, j < i → 0 ≤ ls.getD j 0 ∧ ls.getD j 0 ≤ 65535) (h : 0 ≤ ls.getD i 0 ∧ ls.getD i 0 ≤ 65535) : ∀ j, j < i + 1 → 0 ≤ ls.getD j 0 ∧ ls.getD j 0 ≤ 65535 := fun j hj => by
  rcases Nat.lt_or_ge j i with h1 | h1
  · exact hb j h1
  · obtain rfl : j = i := by omega
    exact h
end Go.Proofs.Ytpojijnjdlnokaa
