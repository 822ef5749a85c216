/- Layer 11: SizeCan; the walk of SizeEnds. -/
import Derived.Test.YtpjmiafefammkaaSzS
namespace Go.Proofs.Ytpjmiafefammkaa
open Go.RowKit
set_option linter.unusedVariables false

theorem ref11_Can (n m b : Int) (A : Option Addr) (l c : Nat) (lens : List Int) (w : World) (ha : Rd w .i64 A lens) (hl : l = lens.length) (hl9 : l ≤ 100000) : Gives Try.prog 91 #[.agg #[.int .i64 n, .int .i64 m, .int .i64 b], .slice A l c] w fun v w' => v = .bool (canB n m b lens) ∧ Below w.heap.size w w' := by
  have hb0 : Below w.heap.size w (w.alloc (.cells #[.int .i64 n, .int .i64 m, .int .i64 b] 117)) := (Below.refl _ w).alloc (Nat.le_refl _) _
  have hB0 := bk_new w [.int .i64 n, .int .i64 m, .int .i64 b] 117
  refine gives_enter Try.call91 Try.func91 rfl rfl rfl (by kernel_rfl) ?_
  cases hr : rightB n m b
  · refine v_seq ?_
    refine v_region ?_
    refine vl_val (os_box rfl) ?_
    refine vl_val (os_assign rfl) ?_
    refine vl_nil ?_
    refine v_seq ?_
    refine v_region ?_
    refine vl_val (os_loadB Try.underlying117 rfl (by kernel_rfl) rfl (hB0)) ?_
    refine vl_call (gives_boolb (ref11_Right n m b _) hr) rfl ?_
    rintro v1 w1 ⟨rfl, b1⟩
    refine vl_val (os_move rfl) ?_
    refine vl_skip rfl rfl ?_
    refine vl_skip rfl rfl ?_
    refine vl_val (os_pick_f rfl rfl) ?_
    refine vl_val (os_move rfl) ?_
    refine vl_skip rfl rfl ?_
    refine vl_skip rfl rfl ?_
    refine vl_skip rfl rfl ?_
    refine vl_val (os_pick_f rfl rfl) ?_
    refine vl_val (os_assign rfl) ?_
    refine vl_nil ?_
    refine v_ret ?_
    exact post_ret rfl rfl (⟨by simp [canB, hr], hb0.trans (b1.mono hb0.size)⟩)
  · cases hln : lensB lens
    · refine v_seq ?_
      refine v_region ?_
      refine vl_val (os_box rfl) ?_
      refine vl_val (os_assign rfl) ?_
      refine vl_nil ?_
      refine v_seq ?_
      refine v_region ?_
      refine vl_val (os_loadB Try.underlying117 rfl (by kernel_rfl) rfl (hB0)) ?_
      refine vl_call (gives_boolb (ref11_Right n m b _) hr) rfl ?_
      rintro v1 w1 ⟨rfl, b1⟩
      refine vl_val (os_move rfl) ?_
      refine vl_valg rfl (os_move rfl) ?_
      refine vl_callg rfl (gives_boolb (ref11_lengths A l c lens w1 ((ha.keep hb0).keep b1) hl hl9) hln) rfl ?_
      rintro v2 w1 ⟨rfl, rfl⟩
      refine vl_val (os_pick_t rfl rfl) ?_
      refine vl_val (os_move rfl) ?_
      refine vl_skip rfl rfl ?_
      refine vl_skip rfl rfl ?_
      refine vl_skip rfl rfl ?_
      refine vl_val (os_pick_f rfl rfl) ?_
      refine vl_val (os_assign rfl) ?_
      refine vl_nil ?_
      refine v_ret ?_
      exact post_ret rfl rfl (⟨by simp [canB, fitsB, hln], hb0.trans (b1.mono hb0.size)⟩)
    · have hrr := right_bd hr
      refine v_seq ?_
      refine v_region ?_
      refine vl_val (os_box rfl) ?_
      refine vl_val (os_assign rfl) ?_
      refine vl_nil ?_
      refine v_seq ?_
      refine v_region ?_
      refine vl_val (os_loadB Try.underlying117 rfl (by kernel_rfl) rfl (hB0)) ?_
      refine vl_call (gives_boolb (ref11_Right n m b _) hr) rfl ?_
      rintro v1 w1 ⟨rfl, b1⟩
      have b1w := hb0.trans (b1.mono hb0.size)
      refine vl_val (os_move rfl) ?_
      refine vl_valg rfl (os_move rfl) ?_
      refine vl_callg rfl (gives_boolb (ref11_lengths A l c lens w1 (ha.keep b1w) hl hl9) hln) rfl ?_
      rintro v2 w1 ⟨rfl, rfl⟩
      refine vl_val (os_pick_t rfl rfl) ?_
      refine vl_val (os_move rfl) ?_
      refine vl_valg rfl (os_loadB Try.underlying117 rfl (by kernel_rfl) rfl ((hB0.keep b1))) ?_
      refine vl_valg rfl (os_move rfl) ?_
      refine vl_callg rfl (ref11_some n m b A l c lens hl hl9 (by omega) l none 0 0 [] w1 (ha.keep b1w) (fun h => absurd h (by simp)) rfl (by omega) (by intro z hz; cases hz)) rfl ?_
      rintro v3 w3 ⟨⟨B, rfl, hB⟩, b3⟩
      have e : B = canB n m b lens := by rw [Bool.eq_iff_iff, hB, hl]; exact some_can
      refine vl_val (os_pick_t rfl rfl) ?_
      refine vl_val (os_assign rfl) ?_
      refine vl_nil ?_
      refine v_ret ?_
      exact post_ret rfl rfl (⟨by rw [e], b1w.trans (b3.mono b1w.size)⟩)

set_option maxHeartbeats 2000000 in
theorem law11_SizeCan (n m b : Int) (A : Option Addr) (l c : Nat) (lens : List Int) (w : World) (ha : Rd w .i64 A lens) (hl : l = lens.length) (hl' : l ≤ 17592186044416) (hn : I64 n) : Gives Try.prog 48 #[.agg #[.int .i64 n, .int .i64 m, .int .i64 b], .slice A l c] w fun v w' => v = .bool true ∧ Below w.heap.size w w' := by
  have hb0 : Below w.heap.size w (w.alloc (.cells #[.int .i64 n, .int .i64 m, .int .i64 b] 75)) := (Below.refl _ w).alloc (Nat.le_refl _) _
  have hB0 := bk_new w [.int .i64 n, .int .i64 m, .int .i64 b] 75
  refine gives_enter Try.call48 Try.func48 rfl rfl rfl (by kernel_rfl) ?_
  refine v_seq ?_
  refine v_region ?_
  refine vl_val (os_box rfl) ?_
  refine vl_val (os_assign rfl) ?_
  refine vl_nil ?_
  refine v_mid [(1, _)] (fun (x : Nat) => [(2, .pointer (some ⟨w.heap.size, 0, none⟩))]) (fun x w' => w' = (w.alloc (.cells #[.int .i64 n, .int .i64 m, .int .i64 b] 75)) ∧ l ≤ 300) ⟨rfl, trivial⟩ ?_ ?_
  · rcases (by omega : n ≤ 9 ∨ 255 < n ∨ (9 < n ∧ n ≤ 255)) with g | g | ⟨g, g2⟩
    · rcases (by omega : l ≤ 4 ∨ (4 < l ∧ l < 9) ∨ 9 ≤ l) with h | ⟨h, h2⟩ | h
      · refine v_seq ?_
        refine v_region ?_
        refine vl_val (os_fa (o := 0) (k := 0) (by kernel_rfl) rfl) ?_
        refine vl_val (os_load Try.isAgg3 rfl (hB0.cell (i := 0) rfl)) ?_
        refine vl_val (os_f (os_gtr rfl rfl) (by omega)) ?_
        refine vl_val (os_move rfl) ?_
        refine vl_skip rfl rfl ?_
        refine vl_skip rfl rfl ?_
        refine vl_skip rfl rfl ?_
        refine vl_val (os_pick_f rfl rfl) ?_
        refine vl_val (os_move rfl) ?_
        refine vl_valg rfl (os_move rfl) ?_
        refine vl_valg rfl (os_len Try.underlying40 rfl) ?_
        refine vl_valg rfl (os_f (os_gtr rfl rfl) (by omega)) ?_
        refine vl_valg rfl (os_move rfl) ?_
        refine vl_skip rfl rfl ?_
        refine vl_skip rfl rfl ?_
        refine vl_skip rfl rfl ?_
        refine vl_valg rfl (os_pick_f rfl rfl) ?_
        refine vl_val (os_pick_f rfl rfl) ?_
        refine vl_val (os_move rfl) ?_
        refine vl_valg rfl (os_move rfl) ?_
        refine vl_valg rfl (os_len Try.underlying40 rfl) ?_
        refine vl_valg rfl (os_gtr rfl rfl) ?_
        refine vl_val (os_pick_f rfl rfl) ?_
        refine vl_nil ?_
        refine v_cond_no rfl (by omega) ?_
        refine v_skip ?_
        exact ⟨0, ⟨rfl, trivial⟩, ⟨rfl, trivial⟩, ⟨rfl, by omega⟩⟩
      · refine v_seq ?_
        refine v_region ?_
        refine vl_val (os_fa (o := 0) (k := 0) (by kernel_rfl) rfl) ?_
        refine vl_val (os_load Try.isAgg3 rfl (hB0.cell (i := 0) rfl)) ?_
        refine vl_val (os_f (os_gtr rfl rfl) (by omega)) ?_
        refine vl_val (os_move rfl) ?_
        refine vl_skip rfl rfl ?_
        refine vl_skip rfl rfl ?_
        refine vl_skip rfl rfl ?_
        refine vl_val (os_pick_f rfl rfl) ?_
        refine vl_val (os_move rfl) ?_
        refine vl_valg rfl (os_move rfl) ?_
        refine vl_valg rfl (os_len Try.underlying40 rfl) ?_
        refine vl_valg rfl (os_t (os_gtr rfl rfl) (by omega)) ?_
        refine vl_valg rfl (os_move rfl) ?_
        refine vl_valg rfl (os_move rfl) ?_
        refine vl_valg rfl (os_len Try.underlying40 rfl) ?_
        refine vl_valg rfl (os_t (os_lss rfl rfl) (by omega)) ?_
        refine vl_valg rfl (os_pick_t rfl rfl) ?_
        refine vl_val (os_pick_f rfl rfl) ?_
        refine vl_val (os_move rfl) ?_
        refine vl_skip rfl rfl ?_
        refine vl_skip rfl rfl ?_
        refine vl_skip rfl rfl ?_
        refine vl_val (os_pick_t rfl rfl) ?_
        refine vl_nil ?_
        refine v_cond_t rfl ?_
        refine v_seq ?_
        refine v_region ?_
        refine vl_call (law11_awake _) rfl ?_
        rintro v1 w1 ⟨rfl, hb1⟩
        refine vl_val (os_assign rfl) ?_
        refine vl_nil ?_
        refine v_ret ?_
        exact post_ret rfl rfl (⟨rfl, hb0.trans (hb1.mono (by simp))⟩)
      · refine v_seq ?_
        refine v_region ?_
        refine vl_val (os_fa (o := 0) (k := 0) (by kernel_rfl) rfl) ?_
        refine vl_val (os_load Try.isAgg3 rfl (hB0.cell (i := 0) rfl)) ?_
        refine vl_val (os_f (os_gtr rfl rfl) (by omega)) ?_
        refine vl_val (os_move rfl) ?_
        refine vl_skip rfl rfl ?_
        refine vl_skip rfl rfl ?_
        refine vl_skip rfl rfl ?_
        refine vl_val (os_pick_f rfl rfl) ?_
        refine vl_val (os_move rfl) ?_
        refine vl_valg rfl (os_move rfl) ?_
        refine vl_valg rfl (os_len Try.underlying40 rfl) ?_
        refine vl_valg rfl (os_t (os_gtr rfl rfl) (by omega)) ?_
        refine vl_valg rfl (os_move rfl) ?_
        refine vl_valg rfl (os_move rfl) ?_
        refine vl_valg rfl (os_len Try.underlying40 rfl) ?_
        refine vl_valg rfl (os_f (os_lss rfl rfl) (by omega)) ?_
        refine vl_valg rfl (os_pick_t rfl rfl) ?_
        refine vl_val (os_pick_f rfl rfl) ?_
        refine vl_val (os_move rfl) ?_
        refine vl_valg rfl (os_move rfl) ?_
        refine vl_valg rfl (os_len Try.underlying40 rfl) ?_
        refine vl_valg rfl (os_gtr rfl rfl) ?_
        refine vl_val (os_pick_f rfl rfl) ?_
        refine vl_nil ?_
        refine v_cond_d rfl (fun h3 => ?_) (fun h3 => ?_)
        · refine v_seq ?_
          refine v_region ?_
          refine vl_call (law11_awake _) rfl ?_
          rintro v1 w1 ⟨rfl, hb1⟩
          refine vl_val (os_assign rfl) ?_
          refine vl_nil ?_
          refine v_ret ?_
          exact post_ret rfl rfl (⟨rfl, hb0.trans (hb1.mono (by simp))⟩)
        · refine v_skip ?_
          exact ⟨0, ⟨rfl, trivial⟩, ⟨rfl, trivial⟩, ⟨rfl, by omega⟩⟩
    · rcases (by omega : l ≤ 4 ∨ (4 < l ∧ l < 9) ∨ 9 ≤ l) with h | ⟨h, h2⟩ | h
      · refine v_seq ?_
        refine v_region ?_
        refine vl_val (os_fa (o := 0) (k := 0) (by kernel_rfl) rfl) ?_
        refine vl_val (os_load Try.isAgg3 rfl (hB0.cell (i := 0) rfl)) ?_
        refine vl_val (os_t (os_gtr rfl rfl) (by omega)) ?_
        refine vl_val (os_move rfl) ?_
        refine vl_valg rfl (os_fa (o := 0) (k := 0) (by kernel_rfl) rfl) ?_
        refine vl_valg rfl (os_load Try.isAgg3 rfl (hB0.cell (i := 0) rfl)) ?_
        refine vl_valg rfl (os_f (os_leq rfl rfl) (by omega)) ?_
        refine vl_val (os_pick_t rfl rfl) ?_
        refine vl_val (os_move rfl) ?_
        refine vl_valg rfl (os_move rfl) ?_
        refine vl_valg rfl (os_len Try.underlying40 rfl) ?_
        refine vl_valg rfl (os_f (os_gtr rfl rfl) (by omega)) ?_
        refine vl_valg rfl (os_move rfl) ?_
        refine vl_skip rfl rfl ?_
        refine vl_skip rfl rfl ?_
        refine vl_skip rfl rfl ?_
        refine vl_valg rfl (os_pick_f rfl rfl) ?_
        refine vl_val (os_pick_f rfl rfl) ?_
        refine vl_val (os_move rfl) ?_
        refine vl_valg rfl (os_move rfl) ?_
        refine vl_valg rfl (os_len Try.underlying40 rfl) ?_
        refine vl_valg rfl (os_gtr rfl rfl) ?_
        refine vl_val (os_pick_f rfl rfl) ?_
        refine vl_nil ?_
        refine v_cond_no rfl (by omega) ?_
        refine v_skip ?_
        exact ⟨0, ⟨rfl, trivial⟩, ⟨rfl, trivial⟩, ⟨rfl, by omega⟩⟩
      · refine v_seq ?_
        refine v_region ?_
        refine vl_val (os_fa (o := 0) (k := 0) (by kernel_rfl) rfl) ?_
        refine vl_val (os_load Try.isAgg3 rfl (hB0.cell (i := 0) rfl)) ?_
        refine vl_val (os_t (os_gtr rfl rfl) (by omega)) ?_
        refine vl_val (os_move rfl) ?_
        refine vl_valg rfl (os_fa (o := 0) (k := 0) (by kernel_rfl) rfl) ?_
        refine vl_valg rfl (os_load Try.isAgg3 rfl (hB0.cell (i := 0) rfl)) ?_
        refine vl_valg rfl (os_f (os_leq rfl rfl) (by omega)) ?_
        refine vl_val (os_pick_t rfl rfl) ?_
        refine vl_val (os_move rfl) ?_
        refine vl_valg rfl (os_move rfl) ?_
        refine vl_valg rfl (os_len Try.underlying40 rfl) ?_
        refine vl_valg rfl (os_t (os_gtr rfl rfl) (by omega)) ?_
        refine vl_valg rfl (os_move rfl) ?_
        refine vl_valg rfl (os_move rfl) ?_
        refine vl_valg rfl (os_len Try.underlying40 rfl) ?_
        refine vl_valg rfl (os_t (os_lss rfl rfl) (by omega)) ?_
        refine vl_valg rfl (os_pick_t rfl rfl) ?_
        refine vl_val (os_pick_f rfl rfl) ?_
        refine vl_val (os_move rfl) ?_
        refine vl_skip rfl rfl ?_
        refine vl_skip rfl rfl ?_
        refine vl_skip rfl rfl ?_
        refine vl_val (os_pick_t rfl rfl) ?_
        refine vl_nil ?_
        refine v_cond_t rfl ?_
        refine v_seq ?_
        refine v_region ?_
        refine vl_call (law11_awake _) rfl ?_
        rintro v1 w1 ⟨rfl, hb1⟩
        refine vl_val (os_assign rfl) ?_
        refine vl_nil ?_
        refine v_ret ?_
        exact post_ret rfl rfl (⟨rfl, hb0.trans (hb1.mono (by simp))⟩)
      · refine v_seq ?_
        refine v_region ?_
        refine vl_val (os_fa (o := 0) (k := 0) (by kernel_rfl) rfl) ?_
        refine vl_val (os_load Try.isAgg3 rfl (hB0.cell (i := 0) rfl)) ?_
        refine vl_val (os_t (os_gtr rfl rfl) (by omega)) ?_
        refine vl_val (os_move rfl) ?_
        refine vl_valg rfl (os_fa (o := 0) (k := 0) (by kernel_rfl) rfl) ?_
        refine vl_valg rfl (os_load Try.isAgg3 rfl (hB0.cell (i := 0) rfl)) ?_
        refine vl_valg rfl (os_f (os_leq rfl rfl) (by omega)) ?_
        refine vl_val (os_pick_t rfl rfl) ?_
        refine vl_val (os_move rfl) ?_
        refine vl_valg rfl (os_move rfl) ?_
        refine vl_valg rfl (os_len Try.underlying40 rfl) ?_
        refine vl_valg rfl (os_t (os_gtr rfl rfl) (by omega)) ?_
        refine vl_valg rfl (os_move rfl) ?_
        refine vl_valg rfl (os_move rfl) ?_
        refine vl_valg rfl (os_len Try.underlying40 rfl) ?_
        refine vl_valg rfl (os_f (os_lss rfl rfl) (by omega)) ?_
        refine vl_valg rfl (os_pick_t rfl rfl) ?_
        refine vl_val (os_pick_f rfl rfl) ?_
        refine vl_val (os_move rfl) ?_
        refine vl_valg rfl (os_move rfl) ?_
        refine vl_valg rfl (os_len Try.underlying40 rfl) ?_
        refine vl_valg rfl (os_gtr rfl rfl) ?_
        refine vl_val (os_pick_f rfl rfl) ?_
        refine vl_nil ?_
        refine v_cond_d rfl (fun h3 => ?_) (fun h3 => ?_)
        · refine v_seq ?_
          refine v_region ?_
          refine vl_call (law11_awake _) rfl ?_
          rintro v1 w1 ⟨rfl, hb1⟩
          refine vl_val (os_assign rfl) ?_
          refine vl_nil ?_
          refine v_ret ?_
          exact post_ret rfl rfl (⟨rfl, hb0.trans (hb1.mono (by simp))⟩)
        · refine v_skip ?_
          exact ⟨0, ⟨rfl, trivial⟩, ⟨rfl, trivial⟩, ⟨rfl, by omega⟩⟩
    · refine v_seq ?_
      refine v_region ?_
      refine vl_val (os_fa (o := 0) (k := 0) (by kernel_rfl) rfl) ?_
      refine vl_val (os_load Try.isAgg3 rfl (hB0.cell (i := 0) rfl)) ?_
      refine vl_val (os_t (os_gtr rfl rfl) (by omega)) ?_
      refine vl_val (os_move rfl) ?_
      refine vl_valg rfl (os_fa (o := 0) (k := 0) (by kernel_rfl) rfl) ?_
      refine vl_valg rfl (os_load Try.isAgg3 rfl (hB0.cell (i := 0) rfl)) ?_
      refine vl_valg rfl (os_t (os_leq rfl rfl) (by omega)) ?_
      refine vl_val (os_pick_t rfl rfl) ?_
      refine vl_val (os_move rfl) ?_
      refine vl_skip rfl rfl ?_
      refine vl_skip rfl rfl ?_
      refine vl_skip rfl rfl ?_
      refine vl_skip rfl rfl ?_
      refine vl_skipu rfl ?_
      refine vl_skipu rfl ?_
      refine vl_skipu rfl ?_
      refine vl_skip rfl rfl ?_
      refine vl_val (os_pick_t rfl rfl) ?_
      refine vl_val (os_move rfl) ?_
      refine vl_skip rfl rfl ?_
      refine vl_skip rfl rfl ?_
      refine vl_skip rfl rfl ?_
      refine vl_val (os_pick_t rfl rfl) ?_
      refine vl_nil ?_
      refine v_cond_t rfl ?_
      refine v_seq ?_
      refine v_region ?_
      refine vl_call (law11_awake _) rfl ?_
      rintro v1 w1 ⟨rfl, hb1⟩
      refine vl_val (os_assign rfl) ?_
      refine vl_nil ?_
      refine v_ret ?_
      exact post_ret rfl rfl (⟨rfl, hb0.trans (hb1.mono (by simp))⟩)
  · rintro x w0 ⟨rfl, hl3⟩
    refine v_seq ?_
    refine v_region ?_
    refine vl_val (os_move rfl) ?_
    refine vl_call (kit_LentInts A l c lens _ (ha.keep hb0) hl (by omega)) rfl ?_
    rintro vL w2 ⟨lL, b2⟩
    have b2w := hb0.trans (b2.mono hb0.size)
    have hB2 := hB0.keep b2
    have ha2 := ha.keep b2w
    obtain ⟨gL, CL, rfl, hL1, hL2, hL3, hL4, rL⟩ := lL.form
    refine vl_val (os_assign rfl) ?_
    refine vl_nil ?_
    refine v_seq ?_
    refine v_region_t LeG _ mixed (by kernel_rfl) lee_g (leg_start _) ?_
    refine vt_val (fun w hw => os_loadB Try.underlying75 rfl (by kernel_rfl) rfl ((hB2.keep hw))) ?_
    refine vt_val (fun w hw => os_move rfl) ?_
    refine vt_call (v := _) (fun w hw => size_Can n m b _ _ CL lens w (rL.keep hw) rfl (by omega) hn) rfl ?_
    refine vt_val (fun w hw => os_loadB Try.underlying75 rfl (by kernel_rfl) rfl ((hB2.keep hw))) ?_
    refine vt_call (v := _) (fun w hw => theirs n m b w) rfl ?_
    refine vt_val (fun w hw => os_move rfl) ?_
    refine vt_call (v := _) (fun w hw => ref11_Can n m b A l c lens w (ha2.keep hw) hl (by omega)) rfl ?_
    refine vt_val (fun w hw => os_is (os_eqlb Try.underlying4 rfl rfl) ((beq_self_eq_true (canB n m b lens)))) ?_
    refine vt_val (fun w hw => os_move rfl) ?_
    refine vt_valg rfl (fun w hw => os_move rfl) ?_
    refine vt_valg rfl (fun w hw => os_move rfl) ?_
    refine vt_callg rfl (v := .bool true) (fun w hw => (kit_KeptInts _ _ A l c lens w (lL.keep hw) (ha2.keep hw) hl (by omega)).mono fun v w' hh => ⟨hh.1, led_below hh.2⟩) rfl ?_
    refine vt_val (fun w hw => os_pick_t rfl rfl) ?_
    refine vt_val (fun w hw => os_move rfl) ?_
    refine vt_callg rfl (v := .bool true) (fun w hw => law11_awake w) rfl ?_
    refine vt_val (fun w hw => os_pick_t rfl rfl) ?_
    refine vt_val (fun w hw => os_assign rfl) ?_
    refine vt_nil (fun Hw H => ?_)
    refine v_ret ?_
    exact post_ret rfl rfl (⟨rfl, b2w.trans (H.mono b2w.size)⟩)

section
variable {P : Program} {n : Cx} {fr : Fr} {w : World} {ty : TypeId} {T : TypeId}
/-- new T, and what is known of its block -/
theorem ot_allocB {zc : Array Value} {cs : List Value} (hz : ∀ w, (zeroValue T).run P w = .ok (.agg zc) w) (he : zc = cs.toArray) : OT P n (.alloc T) ty fr w fun v w' => ∃ g, v = .pointer (some ⟨g, 0, none⟩) ∧ g = w.heap.size ∧ Bk w' g cs T ∧ LeG w w' :=
  (os_allocB hz he).ot ⟨_, rfl, rfl, bk_new w cs T, (Below.refl _ _).alloc (Nat.le_refl _) _⟩
end
theorem law11_SizeDoes0 (n m b q layers : Int) (A K : Option Addr) (l c lk ck : Nat) (lens ks : List Int) (w : World) (ha : Rd w .i64 A lens) (hk : Rd w .i64 K ks) (hl : l = lens.length) (hlk : lk = ks.length)
    (hl' : l ≤ 17592186044416) (hlk' : lk ≤ 17592186044416) (hks : AllI ks) : Gives Try.prog 47 #[.agg #[.int .i64 n, .int .i64 m, .int .i64 b], .int .i64 q, .int .i64 layers, .slice none 0 0, .slice A l c, .slice K lk ck] w fun v w' => v = .bool true ∧ Below w.heap.size w w' :=
  law11_SizeDoes n m b q layers none A K 0 0 l c lk ck [] lens ks w (fun i c h => by simp at h) ha hk rfl hl hlk (by omega) hl' hlk' hks
theorem all_two {a b : Int} (h : I64 a) (h2 : I64 b) : AllI [a, b] := by
  intro z hz
  simp only [List.mem_cons, List.not_mem_nil, or_false] at hz
  rcases hz with rfl | rfl
  · exact h
  · exact h2
theorem all_one {a : Int} (h : I64 a) : AllI [a] := by
  intro z hz
  rw [List.mem_singleton.1 hz]; exact h
def endN : List Int := [-1, 0, 1, 2, 255, 256]
def endM : List Int := [0, 63, 64, 65, 1500, 1501]
def endB : List Int := [0, 1, 20, 21, 64, 200, 524288, 524289]
theorem endN_bd (i : Nat) : I64 (endN.getD i 0) := by
  rw [List.getD_eq_getElem?_getD]
  by_cases hi : i < 6
  · rcases (by omega : i = 0 ∨ i = 1 ∨ i = 2 ∨ i = 3 ∨ i = 4 ∨ i = 5) with rfl | rfl | rfl | rfl | rfl | rfl <;> exact ⟨by decide, by decide⟩
  · rw [List.getElem?_eq_none (by simp [endN]; omega)]
    exact ⟨by decide, by decide⟩

theorem made_row {w w' : World} {v : Value} {l : Nat} (h : v = .slice (some ⟨w.heap.size, 0, none⟩) l l ∧ Own w' w.heap.size 3 v (List.replicate l (.int .i64 0)) ∧ w.grownBy w' none) : LeG w w' ∧ IsRow .i64 (List.replicate l 0) v w' := by
  obtain ⟨rfl, ho, hg⟩ := h
  refine ⟨(Below.refl _ w).grown hg (Nat.le_refl _) (fun k hk => by cases hk), some ⟨w.heap.size, 0, none⟩, l, by simp, ?_⟩
  have : OwnK w' w.heap.size 3 .i64 (.slice (some ⟨w.heap.size, 0, none⟩) l l) (List.replicate l 0) := by simpa [OwnK] using ho
  exact OwnK.rd this
set_option maxHeartbeats 8000000 in
theorem law11_SizeEnds (w : World) : Gives Try.prog 12 #[] w fun v w' => v = .bool true ∧ Below w.heap.size w w' := by
  refine gives_enter Try.call12 Try.func12 rfl rfl rfl (by kernel_rfl) ?_
  refine v_seq ?_
  refine v_region ?_
  refine vl_val (os_assign rfl) ?_
  refine vl_nil ?_
  refine v_seq ?_
  refine v_region ?_
  refine vl_some (ot_lit w.heap.size Try.underlying40 Try.sizeOf3 Try.zeroValue3 rfl rfl rfl rfl (by decide) (Nat.le_refl _)) ?_
  rintro vn wn ⟨gn, rfl, en, ln, On, Ln⟩
  have rN : Rd wn .i64 (some ⟨gn, 0, none⟩) endN := OwnK.rd (zs := endN) On
  refine vl_val (os_assign rfl) ?_
  refine vl_nil ?_
  refine v_seq ?_
  refine v_region ?_
  refine vl_some (ot_lit w.heap.size Try.underlying40 Try.sizeOf3 Try.zeroValue3 rfl rfl rfl rfl (by decide) Ln.size) ?_
  rintro vm wm ⟨gm, rfl, em, lm, Om, Lm⟩
  have rM : Rd wm .i64 (some ⟨gm, 0, none⟩) endM := OwnK.rd (zs := endM) Om
  have bm : Below w.heap.size w wm := Below.trans Ln (Lm.mono Ln.size)
  refine vl_val (os_assign rfl) ?_
  refine vl_nil ?_
  refine v_seq ?_
  refine v_region ?_
  refine vl_some (ot_lit w.heap.size Try.underlying40 Try.sizeOf3 Try.zeroValue3 rfl rfl rfl rfl (by decide) bm.size) ?_
  rintro vb w0 ⟨gb, rfl, eb, lb, Ob, Lb⟩
  have hBs : Rd w0 .i64 (some ⟨gb, 0, none⟩) endB := OwnK.rd (zs := endB) Ob
  have hNs := (rN.keep Lm).keep Lb
  have hMs := rM.keep Lb
  have h0 : Below w.heap.size w w0 := bm.trans (Lb.mono bm.size)
  refine vl_val (os_assign rfl) ?_
  refine vl_nil ?_
  refine v_seq ?_
  refine v_seq ?_
  refine v_region ?_
  refine vl_val (os_assign rfl) ?_
  refine vl_nil ?_
  refine v_block ?_
  refine v_loop [(1, _), (2, _), (3, _)] (fun (i : Nat) => [(4, .int .i64 i)]) (fun i w' => i ≤ 288 ∧ Below w0.heap.size w0 w') (fun i => 288 - i) (0) ⟨rfl, rfl, rfl, trivial⟩ ⟨rfl, trivial⟩ (⟨by omega, Below.refl _ _⟩) ?_
  rintro i w1 ⟨hi, b1⟩
  refine v_seq ?_
  refine v_seq ?_
  refine v_region ?_
  refine vl_val (os_move rfl) ?_
  refine vl_val (os_move rfl) ?_
  refine vl_val (os_len Try.underlying40 rfl) ?_
  refine vl_val (os_move rfl) ?_
  refine vl_val (os_len Try.underlying40 rfl) ?_
  refine vl_val (os_muli rfl rfl (by omega)) ?_
  refine vl_val (os_move rfl) ?_
  refine vl_val (os_len Try.underlying40 rfl) ?_
  refine vl_val (os_muli rfl rfl (by omega)) ?_
  refine vl_val (os_lss rfl rfl) ?_
  refine vl_nil ?_
  refine v_cond_d rfl (fun h => ?_) (fun h => ?_)
  · obtain ⟨bn, on, eN, cn⟩ := (hNs.keep b1).at_ (i := i % 6) (by simp [endN]; omega)
    obtain ⟨bm', om, eM, cm⟩ := (hMs.keep b1).at_ (i := i / 6 % 6) (by simp [endM]; omega)
    obtain ⟨bb, ob, eB, cb⟩ := (hBs.keep b1).at_ (i := i / 36) (by simp [endB]; omega)
    cases eN
    cases eM
    cases eB
    have hnI := endN_bd (i % 6)
    generalize endN.getD (i % 6) 0 = n at *
    generalize endM.getD (i / 6 % 6) 0 = m at *
    generalize endB.getD (i / 36) 0 = b at *
    have d1 : LeD w1 { w1 with drawn := w1.drawn + 1 } := ⟨1, rfl⟩
    have b0d : Below w1.heap.size w1 { w1 with drawn := w1.drawn + 1 } := led_below d1
    refine v_skip ?_
    refine v_seq ?_
    refine v_block ?_
    refine v_mid [(1, _), (2, _), (3, _), (4, _)] (fun (x : Nat) => [(5, .pointer (some ⟨x, 0, none⟩))]) (fun x w' => Bk w' x [.int .i64 n, .int .i64 m, .int .i64 b] 75 ∧ Below w1.heap.size w1 w') ⟨rfl, rfl, rfl, rfl, trivial⟩ ?_ ?_
    · refine v_region_a mixed ?_
      refine va_pure 0 rfl (by kernel_rfl) (by kernel_rfl) (by kernel_rfl) (fun w => (os_move rfl)) ?_
      refine va_pure 1 rfl (by kernel_rfl) (by kernel_rfl) (by kernel_rfl) (fun w => (os_move rfl)) ?_
      refine va_pure 2 rfl (by kernel_rfl) (by kernel_rfl) (by kernel_rfl) (fun w => (os_remi rfl rfl (by omega))) ?_
      refine va_pure 3 rfl (by kernel_rfl) (by kernel_rfl) (by kernel_rfl) (fun w => (os_ix Try.underlying40 Try.sizeOf3 rfl rfl (i := i % 6) (by omega) (by omega))) ?_
      refine va_pure 5 rfl (by kernel_rfl) (by kernel_rfl) (by kernel_rfl) (fun w => (os_move rfl)) ?_
      refine va_pure 6 rfl (by kernel_rfl) (by kernel_rfl) (by kernel_rfl) (fun w => (os_move rfl)) ?_
      refine va_pure 7 rfl (by kernel_rfl) (by kernel_rfl) (by kernel_rfl) (fun w => (os_quoi rfl rfl (by omega))) ?_
      refine va_pure 8 rfl (by kernel_rfl) (by kernel_rfl) (by kernel_rfl) (fun w => (os_remi rfl rfl (by omega))) ?_
      refine va_pure 9 rfl (by kernel_rfl) (by kernel_rfl) (by kernel_rfl) (fun w => (os_ix Try.underlying40 Try.sizeOf3 rfl rfl (i := i / 6 % 6) (by omega) (by omega))) ?_
      refine va_pure 11 rfl (by kernel_rfl) (by kernel_rfl) (by kernel_rfl) (fun w => (os_move rfl)) ?_
      refine va_pure 12 rfl (by kernel_rfl) (by kernel_rfl) (by kernel_rfl) (fun w => (os_move rfl)) ?_
      refine va_pure 13 rfl (by kernel_rfl) (by kernel_rfl) (by kernel_rfl) (fun w => (os_quoi rfl rfl (by omega))) ?_
      refine va_pure 14 rfl (by kernel_rfl) (by kernel_rfl) (by kernel_rfl) (fun w => (os_ix Try.underlying40 Try.sizeOf3 rfl rfl (i := i / 36) (by omega) (by omega))) ?_
      refine va_four 4 10 15 17 (by kernel_rfl) ?_ ?_ ?_ ?_
      · refine vn_val rfl (os_load Try.isAgg3 rfl ((by first | exact leg_cell L5 (led_cell d1 cn) | exact led_cell d1 cn))) ?_
        refine va_three 10 15 17 (by kernel_rfl) ?_ ?_ ?_
        · refine vn_val rfl (os_load Try.isAgg3 rfl ((by first | exact leg_cell L5 (led_cell d1 cm) | exact led_cell d1 cm))) ?_
          refine va_two 15 17 (by kernel_rfl) ?_ ?_
          · refine vn_val rfl (os_load Try.isAgg3 rfl ((by first | exact leg_cell L5 (led_cell d1 cb) | exact led_cell d1 cb))) ?_
            refine va_pure 16 rfl (by kernel_rfl) (by kernel_rfl) (by kernel_rfl) (fun w => (os_build (cs := [.int .i64 n, .int .i64 m, .int .i64 b]) rfl (by kernel_rfl))) ?_
            refine va_one 17 (by kernel_rfl) ?_
            refine vn_some rfl (ot_allocB Try.zeroValue75 (zc := _) (cs := [.int .i64 0, .int .i64 0, .int .i64 0]) rfl) ?_
            rintro v5 w5 ⟨g5, rfl, e5, B5, L5⟩
            refine va_one 18 (by kernel_rfl) ?_
            refine vn_unit rfl (ou_storeB (by kernel_rfl) rfl rfl B5 rfl rfl) ?_
            refine va_done (by kernel_rfl) ?_
            exact ⟨g5, ⟨rfl, rfl, rfl, rfl, trivial⟩, ⟨rfl, trivial⟩, ⟨setRow_bk B5 _, below_setRow (b0d.trans (L5.mono b0d.size)) (by rw [e5]; exact b0d.size) _⟩⟩
          · refine vn_some rfl (ot_allocB Try.zeroValue75 (zc := _) (cs := [.int .i64 0, .int .i64 0, .int .i64 0]) rfl) ?_
            rintro v5 w5 ⟨g5, rfl, e5, B5, L5⟩
            refine va_one 15 (by kernel_rfl) ?_
            refine vn_val rfl (os_load Try.isAgg3 rfl ((by first | exact leg_cell L5 (led_cell d1 cb) | exact led_cell d1 cb))) ?_
            refine va_pure 16 rfl (by kernel_rfl) (by kernel_rfl) (by kernel_rfl) (fun w => (os_build (cs := [.int .i64 n, .int .i64 m, .int .i64 b]) rfl (by kernel_rfl))) ?_
            refine va_one 18 (by kernel_rfl) ?_
            refine vn_unit rfl (ou_storeB (by kernel_rfl) rfl rfl B5 rfl rfl) ?_
            refine va_done (by kernel_rfl) ?_
            exact ⟨g5, ⟨rfl, rfl, rfl, rfl, trivial⟩, ⟨rfl, trivial⟩, ⟨setRow_bk B5 _, below_setRow (b0d.trans (L5.mono b0d.size)) (by rw [e5]; exact b0d.size) _⟩⟩
        · refine vn_val rfl (os_load Try.isAgg3 rfl ((by first | exact leg_cell L5 (led_cell d1 cb) | exact led_cell d1 cb))) ?_
          refine va_two 10 17 (by kernel_rfl) ?_ ?_
          · refine vn_val rfl (os_load Try.isAgg3 rfl ((by first | exact leg_cell L5 (led_cell d1 cm) | exact led_cell d1 cm))) ?_
            refine va_pure 16 rfl (by kernel_rfl) (by kernel_rfl) (by kernel_rfl) (fun w => (os_build (cs := [.int .i64 n, .int .i64 m, .int .i64 b]) rfl (by kernel_rfl))) ?_
            refine va_one 17 (by kernel_rfl) ?_
            refine vn_some rfl (ot_allocB Try.zeroValue75 (zc := _) (cs := [.int .i64 0, .int .i64 0, .int .i64 0]) rfl) ?_
            rintro v5 w5 ⟨g5, rfl, e5, B5, L5⟩
            refine va_one 18 (by kernel_rfl) ?_
            refine vn_unit rfl (ou_storeB (by kernel_rfl) rfl rfl B5 rfl rfl) ?_
            refine va_done (by kernel_rfl) ?_
            exact ⟨g5, ⟨rfl, rfl, rfl, rfl, trivial⟩, ⟨rfl, trivial⟩, ⟨setRow_bk B5 _, below_setRow (b0d.trans (L5.mono b0d.size)) (by rw [e5]; exact b0d.size) _⟩⟩
          · refine vn_some rfl (ot_allocB Try.zeroValue75 (zc := _) (cs := [.int .i64 0, .int .i64 0, .int .i64 0]) rfl) ?_
            rintro v5 w5 ⟨g5, rfl, e5, B5, L5⟩
            refine va_one 10 (by kernel_rfl) ?_
            refine vn_val rfl (os_load Try.isAgg3 rfl ((by first | exact leg_cell L5 (led_cell d1 cm) | exact led_cell d1 cm))) ?_
            refine va_pure 16 rfl (by kernel_rfl) (by kernel_rfl) (by kernel_rfl) (fun w => (os_build (cs := [.int .i64 n, .int .i64 m, .int .i64 b]) rfl (by kernel_rfl))) ?_
            refine va_one 18 (by kernel_rfl) ?_
            refine vn_unit rfl (ou_storeB (by kernel_rfl) rfl rfl B5 rfl rfl) ?_
            refine va_done (by kernel_rfl) ?_
            exact ⟨g5, ⟨rfl, rfl, rfl, rfl, trivial⟩, ⟨rfl, trivial⟩, ⟨setRow_bk B5 _, below_setRow (b0d.trans (L5.mono b0d.size)) (by rw [e5]; exact b0d.size) _⟩⟩
        · refine vn_some rfl (ot_allocB Try.zeroValue75 (zc := _) (cs := [.int .i64 0, .int .i64 0, .int .i64 0]) rfl) ?_
          rintro v5 w5 ⟨g5, rfl, e5, B5, L5⟩
          refine va_two 10 15 (by kernel_rfl) ?_ ?_
          · refine vn_val rfl (os_load Try.isAgg3 rfl ((by first | exact leg_cell L5 (led_cell d1 cm) | exact led_cell d1 cm))) ?_
            refine va_one 15 (by kernel_rfl) ?_
            refine vn_val rfl (os_load Try.isAgg3 rfl ((by first | exact leg_cell L5 (led_cell d1 cb) | exact led_cell d1 cb))) ?_
            refine va_pure 16 rfl (by kernel_rfl) (by kernel_rfl) (by kernel_rfl) (fun w => (os_build (cs := [.int .i64 n, .int .i64 m, .int .i64 b]) rfl (by kernel_rfl))) ?_
            refine va_one 18 (by kernel_rfl) ?_
            refine vn_unit rfl (ou_storeB (by kernel_rfl) rfl rfl B5 rfl rfl) ?_
            refine va_done (by kernel_rfl) ?_
            exact ⟨g5, ⟨rfl, rfl, rfl, rfl, trivial⟩, ⟨rfl, trivial⟩, ⟨setRow_bk B5 _, below_setRow (b0d.trans (L5.mono b0d.size)) (by rw [e5]; exact b0d.size) _⟩⟩
          · refine vn_val rfl (os_load Try.isAgg3 rfl ((by first | exact leg_cell L5 (led_cell d1 cb) | exact led_cell d1 cb))) ?_
            refine va_one 10 (by kernel_rfl) ?_
            refine vn_val rfl (os_load Try.isAgg3 rfl ((by first | exact leg_cell L5 (led_cell d1 cm) | exact led_cell d1 cm))) ?_
            refine va_pure 16 rfl (by kernel_rfl) (by kernel_rfl) (by kernel_rfl) (fun w => (os_build (cs := [.int .i64 n, .int .i64 m, .int .i64 b]) rfl (by kernel_rfl))) ?_
            refine va_one 18 (by kernel_rfl) ?_
            refine vn_unit rfl (ou_storeB (by kernel_rfl) rfl rfl B5 rfl rfl) ?_
            refine va_done (by kernel_rfl) ?_
            exact ⟨g5, ⟨rfl, rfl, rfl, rfl, trivial⟩, ⟨rfl, trivial⟩, ⟨setRow_bk B5 _, below_setRow (b0d.trans (L5.mono b0d.size)) (by rw [e5]; exact b0d.size) _⟩⟩
      · refine vn_val rfl (os_load Try.isAgg3 rfl ((by first | exact leg_cell L5 (led_cell d1 cm) | exact led_cell d1 cm))) ?_
        refine va_three 4 15 17 (by kernel_rfl) ?_ ?_ ?_
        · refine vn_val rfl (os_load Try.isAgg3 rfl ((by first | exact leg_cell L5 (led_cell d1 cn) | exact led_cell d1 cn))) ?_
          refine va_two 15 17 (by kernel_rfl) ?_ ?_
          · refine vn_val rfl (os_load Try.isAgg3 rfl ((by first | exact leg_cell L5 (led_cell d1 cb) | exact led_cell d1 cb))) ?_
            refine va_pure 16 rfl (by kernel_rfl) (by kernel_rfl) (by kernel_rfl) (fun w => (os_build (cs := [.int .i64 n, .int .i64 m, .int .i64 b]) rfl (by kernel_rfl))) ?_
            refine va_one 17 (by kernel_rfl) ?_
            refine vn_some rfl (ot_allocB Try.zeroValue75 (zc := _) (cs := [.int .i64 0, .int .i64 0, .int .i64 0]) rfl) ?_
            rintro v5 w5 ⟨g5, rfl, e5, B5, L5⟩
            refine va_one 18 (by kernel_rfl) ?_
            refine vn_unit rfl (ou_storeB (by kernel_rfl) rfl rfl B5 rfl rfl) ?_
            refine va_done (by kernel_rfl) ?_
            exact ⟨g5, ⟨rfl, rfl, rfl, rfl, trivial⟩, ⟨rfl, trivial⟩, ⟨setRow_bk B5 _, below_setRow (b0d.trans (L5.mono b0d.size)) (by rw [e5]; exact b0d.size) _⟩⟩
          · refine vn_some rfl (ot_allocB Try.zeroValue75 (zc := _) (cs := [.int .i64 0, .int .i64 0, .int .i64 0]) rfl) ?_
            rintro v5 w5 ⟨g5, rfl, e5, B5, L5⟩
            refine va_one 15 (by kernel_rfl) ?_
            refine vn_val rfl (os_load Try.isAgg3 rfl ((by first | exact leg_cell L5 (led_cell d1 cb) | exact led_cell d1 cb))) ?_
            refine va_pure 16 rfl (by kernel_rfl) (by kernel_rfl) (by kernel_rfl) (fun w => (os_build (cs := [.int .i64 n, .int .i64 m, .int .i64 b]) rfl (by kernel_rfl))) ?_
            refine va_one 18 (by kernel_rfl) ?_
            refine vn_unit rfl (ou_storeB (by kernel_rfl) rfl rfl B5 rfl rfl) ?_
            refine va_done (by kernel_rfl) ?_
            exact ⟨g5, ⟨rfl, rfl, rfl, rfl, trivial⟩, ⟨rfl, trivial⟩, ⟨setRow_bk B5 _, below_setRow (b0d.trans (L5.mono b0d.size)) (by rw [e5]; exact b0d.size) _⟩⟩
        · refine vn_val rfl (os_load Try.isAgg3 rfl ((by first | exact leg_cell L5 (led_cell d1 cb) | exact led_cell d1 cb))) ?_
          refine va_two 4 17 (by kernel_rfl) ?_ ?_
          · refine vn_val rfl (os_load Try.isAgg3 rfl ((by first | exact leg_cell L5 (led_cell d1 cn) | exact led_cell d1 cn))) ?_
            refine va_pure 16 rfl (by kernel_rfl) (by kernel_rfl) (by kernel_rfl) (fun w => (os_build (cs := [.int .i64 n, .int .i64 m, .int .i64 b]) rfl (by kernel_rfl))) ?_
            refine va_one 17 (by kernel_rfl) ?_
            refine vn_some rfl (ot_allocB Try.zeroValue75 (zc := _) (cs := [.int .i64 0, .int .i64 0, .int .i64 0]) rfl) ?_
            rintro v5 w5 ⟨g5, rfl, e5, B5, L5⟩
            refine va_one 18 (by kernel_rfl) ?_
            refine vn_unit rfl (ou_storeB (by kernel_rfl) rfl rfl B5 rfl rfl) ?_
            refine va_done (by kernel_rfl) ?_
            exact ⟨g5, ⟨rfl, rfl, rfl, rfl, trivial⟩, ⟨rfl, trivial⟩, ⟨setRow_bk B5 _, below_setRow (b0d.trans (L5.mono b0d.size)) (by rw [e5]; exact b0d.size) _⟩⟩
          · refine vn_some rfl (ot_allocB Try.zeroValue75 (zc := _) (cs := [.int .i64 0, .int .i64 0, .int .i64 0]) rfl) ?_
            rintro v5 w5 ⟨g5, rfl, e5, B5, L5⟩
            refine va_one 4 (by kernel_rfl) ?_
            refine vn_val rfl (os_load Try.isAgg3 rfl ((by first | exact leg_cell L5 (led_cell d1 cn) | exact led_cell d1 cn))) ?_
            refine va_pure 16 rfl (by kernel_rfl) (by kernel_rfl) (by kernel_rfl) (fun w => (os_build (cs := [.int .i64 n, .int .i64 m, .int .i64 b]) rfl (by kernel_rfl))) ?_
            refine va_one 18 (by kernel_rfl) ?_
            refine vn_unit rfl (ou_storeB (by kernel_rfl) rfl rfl B5 rfl rfl) ?_
            refine va_done (by kernel_rfl) ?_
            exact ⟨g5, ⟨rfl, rfl, rfl, rfl, trivial⟩, ⟨rfl, trivial⟩, ⟨setRow_bk B5 _, below_setRow (b0d.trans (L5.mono b0d.size)) (by rw [e5]; exact b0d.size) _⟩⟩
        · refine vn_some rfl (ot_allocB Try.zeroValue75 (zc := _) (cs := [.int .i64 0, .int .i64 0, .int .i64 0]) rfl) ?_
          rintro v5 w5 ⟨g5, rfl, e5, B5, L5⟩
          refine va_two 4 15 (by kernel_rfl) ?_ ?_
          · refine vn_val rfl (os_load Try.isAgg3 rfl ((by first | exact leg_cell L5 (led_cell d1 cn) | exact led_cell d1 cn))) ?_
            refine va_one 15 (by kernel_rfl) ?_
            refine vn_val rfl (os_load Try.isAgg3 rfl ((by first | exact leg_cell L5 (led_cell d1 cb) | exact led_cell d1 cb))) ?_
            refine va_pure 16 rfl (by kernel_rfl) (by kernel_rfl) (by kernel_rfl) (fun w => (os_build (cs := [.int .i64 n, .int .i64 m, .int .i64 b]) rfl (by kernel_rfl))) ?_
            refine va_one 18 (by kernel_rfl) ?_
            refine vn_unit rfl (ou_storeB (by kernel_rfl) rfl rfl B5 rfl rfl) ?_
            refine va_done (by kernel_rfl) ?_
            exact ⟨g5, ⟨rfl, rfl, rfl, rfl, trivial⟩, ⟨rfl, trivial⟩, ⟨setRow_bk B5 _, below_setRow (b0d.trans (L5.mono b0d.size)) (by rw [e5]; exact b0d.size) _⟩⟩
          · refine vn_val rfl (os_load Try.isAgg3 rfl ((by first | exact leg_cell L5 (led_cell d1 cb) | exact led_cell d1 cb))) ?_
            refine va_one 4 (by kernel_rfl) ?_
            refine vn_val rfl (os_load Try.isAgg3 rfl ((by first | exact leg_cell L5 (led_cell d1 cn) | exact led_cell d1 cn))) ?_
            refine va_pure 16 rfl (by kernel_rfl) (by kernel_rfl) (by kernel_rfl) (fun w => (os_build (cs := [.int .i64 n, .int .i64 m, .int .i64 b]) rfl (by kernel_rfl))) ?_
            refine va_one 18 (by kernel_rfl) ?_
            refine vn_unit rfl (ou_storeB (by kernel_rfl) rfl rfl B5 rfl rfl) ?_
            refine va_done (by kernel_rfl) ?_
            exact ⟨g5, ⟨rfl, rfl, rfl, rfl, trivial⟩, ⟨rfl, trivial⟩, ⟨setRow_bk B5 _, below_setRow (b0d.trans (L5.mono b0d.size)) (by rw [e5]; exact b0d.size) _⟩⟩
      · refine vn_val rfl (os_load Try.isAgg3 rfl ((by first | exact leg_cell L5 (led_cell d1 cb) | exact led_cell d1 cb))) ?_
        refine va_three 4 10 17 (by kernel_rfl) ?_ ?_ ?_
        · refine vn_val rfl (os_load Try.isAgg3 rfl ((by first | exact leg_cell L5 (led_cell d1 cn) | exact led_cell d1 cn))) ?_
          refine va_two 10 17 (by kernel_rfl) ?_ ?_
          · refine vn_val rfl (os_load Try.isAgg3 rfl ((by first | exact leg_cell L5 (led_cell d1 cm) | exact led_cell d1 cm))) ?_
            refine va_pure 16 rfl (by kernel_rfl) (by kernel_rfl) (by kernel_rfl) (fun w => (os_build (cs := [.int .i64 n, .int .i64 m, .int .i64 b]) rfl (by kernel_rfl))) ?_
            refine va_one 17 (by kernel_rfl) ?_
            refine vn_some rfl (ot_allocB Try.zeroValue75 (zc := _) (cs := [.int .i64 0, .int .i64 0, .int .i64 0]) rfl) ?_
            rintro v5 w5 ⟨g5, rfl, e5, B5, L5⟩
            refine va_one 18 (by kernel_rfl) ?_
            refine vn_unit rfl (ou_storeB (by kernel_rfl) rfl rfl B5 rfl rfl) ?_
            refine va_done (by kernel_rfl) ?_
            exact ⟨g5, ⟨rfl, rfl, rfl, rfl, trivial⟩, ⟨rfl, trivial⟩, ⟨setRow_bk B5 _, below_setRow (b0d.trans (L5.mono b0d.size)) (by rw [e5]; exact b0d.size) _⟩⟩
          · refine vn_some rfl (ot_allocB Try.zeroValue75 (zc := _) (cs := [.int .i64 0, .int .i64 0, .int .i64 0]) rfl) ?_
            rintro v5 w5 ⟨g5, rfl, e5, B5, L5⟩
            refine va_one 10 (by kernel_rfl) ?_
            refine vn_val rfl (os_load Try.isAgg3 rfl ((by first | exact leg_cell L5 (led_cell d1 cm) | exact led_cell d1 cm))) ?_
            refine va_pure 16 rfl (by kernel_rfl) (by kernel_rfl) (by kernel_rfl) (fun w => (os_build (cs := [.int .i64 n, .int .i64 m, .int .i64 b]) rfl (by kernel_rfl))) ?_
            refine va_one 18 (by kernel_rfl) ?_
            refine vn_unit rfl (ou_storeB (by kernel_rfl) rfl rfl B5 rfl rfl) ?_
            refine va_done (by kernel_rfl) ?_
            exact ⟨g5, ⟨rfl, rfl, rfl, rfl, trivial⟩, ⟨rfl, trivial⟩, ⟨setRow_bk B5 _, below_setRow (b0d.trans (L5.mono b0d.size)) (by rw [e5]; exact b0d.size) _⟩⟩
        · refine vn_val rfl (os_load Try.isAgg3 rfl ((by first | exact leg_cell L5 (led_cell d1 cm) | exact led_cell d1 cm))) ?_
          refine va_two 4 17 (by kernel_rfl) ?_ ?_
          · refine vn_val rfl (os_load Try.isAgg3 rfl ((by first | exact leg_cell L5 (led_cell d1 cn) | exact led_cell d1 cn))) ?_
            refine va_pure 16 rfl (by kernel_rfl) (by kernel_rfl) (by kernel_rfl) (fun w => (os_build (cs := [.int .i64 n, .int .i64 m, .int .i64 b]) rfl (by kernel_rfl))) ?_
            refine va_one 17 (by kernel_rfl) ?_
            refine vn_some rfl (ot_allocB Try.zeroValue75 (zc := _) (cs := [.int .i64 0, .int .i64 0, .int .i64 0]) rfl) ?_
            rintro v5 w5 ⟨g5, rfl, e5, B5, L5⟩
            refine va_one 18 (by kernel_rfl) ?_
            refine vn_unit rfl (ou_storeB (by kernel_rfl) rfl rfl B5 rfl rfl) ?_
            refine va_done (by kernel_rfl) ?_
            exact ⟨g5, ⟨rfl, rfl, rfl, rfl, trivial⟩, ⟨rfl, trivial⟩, ⟨setRow_bk B5 _, below_setRow (b0d.trans (L5.mono b0d.size)) (by rw [e5]; exact b0d.size) _⟩⟩
          · refine vn_some rfl (ot_allocB Try.zeroValue75 (zc := _) (cs := [.int .i64 0, .int .i64 0, .int .i64 0]) rfl) ?_
            rintro v5 w5 ⟨g5, rfl, e5, B5, L5⟩
            refine va_one 4 (by kernel_rfl) ?_
            refine vn_val rfl (os_load Try.isAgg3 rfl ((by first | exact leg_cell L5 (led_cell d1 cn) | exact led_cell d1 cn))) ?_
            refine va_pure 16 rfl (by kernel_rfl) (by kernel_rfl) (by kernel_rfl) (fun w => (os_build (cs := [.int .i64 n, .int .i64 m, .int .i64 b]) rfl (by kernel_rfl))) ?_
            refine va_one 18 (by kernel_rfl) ?_
            refine vn_unit rfl (ou_storeB (by kernel_rfl) rfl rfl B5 rfl rfl) ?_
            refine va_done (by kernel_rfl) ?_
            exact ⟨g5, ⟨rfl, rfl, rfl, rfl, trivial⟩, ⟨rfl, trivial⟩, ⟨setRow_bk B5 _, below_setRow (b0d.trans (L5.mono b0d.size)) (by rw [e5]; exact b0d.size) _⟩⟩
        · refine vn_some rfl (ot_allocB Try.zeroValue75 (zc := _) (cs := [.int .i64 0, .int .i64 0, .int .i64 0]) rfl) ?_
          rintro v5 w5 ⟨g5, rfl, e5, B5, L5⟩
          refine va_two 4 10 (by kernel_rfl) ?_ ?_
          · refine vn_val rfl (os_load Try.isAgg3 rfl ((by first | exact leg_cell L5 (led_cell d1 cn) | exact led_cell d1 cn))) ?_
            refine va_one 10 (by kernel_rfl) ?_
            refine vn_val rfl (os_load Try.isAgg3 rfl ((by first | exact leg_cell L5 (led_cell d1 cm) | exact led_cell d1 cm))) ?_
            refine va_pure 16 rfl (by kernel_rfl) (by kernel_rfl) (by kernel_rfl) (fun w => (os_build (cs := [.int .i64 n, .int .i64 m, .int .i64 b]) rfl (by kernel_rfl))) ?_
            refine va_one 18 (by kernel_rfl) ?_
            refine vn_unit rfl (ou_storeB (by kernel_rfl) rfl rfl B5 rfl rfl) ?_
            refine va_done (by kernel_rfl) ?_
            exact ⟨g5, ⟨rfl, rfl, rfl, rfl, trivial⟩, ⟨rfl, trivial⟩, ⟨setRow_bk B5 _, below_setRow (b0d.trans (L5.mono b0d.size)) (by rw [e5]; exact b0d.size) _⟩⟩
          · refine vn_val rfl (os_load Try.isAgg3 rfl ((by first | exact leg_cell L5 (led_cell d1 cm) | exact led_cell d1 cm))) ?_
            refine va_one 4 (by kernel_rfl) ?_
            refine vn_val rfl (os_load Try.isAgg3 rfl ((by first | exact leg_cell L5 (led_cell d1 cn) | exact led_cell d1 cn))) ?_
            refine va_pure 16 rfl (by kernel_rfl) (by kernel_rfl) (by kernel_rfl) (fun w => (os_build (cs := [.int .i64 n, .int .i64 m, .int .i64 b]) rfl (by kernel_rfl))) ?_
            refine va_one 18 (by kernel_rfl) ?_
            refine vn_unit rfl (ou_storeB (by kernel_rfl) rfl rfl B5 rfl rfl) ?_
            refine va_done (by kernel_rfl) ?_
            exact ⟨g5, ⟨rfl, rfl, rfl, rfl, trivial⟩, ⟨rfl, trivial⟩, ⟨setRow_bk B5 _, below_setRow (b0d.trans (L5.mono b0d.size)) (by rw [e5]; exact b0d.size) _⟩⟩
      · refine vn_some rfl (ot_allocB Try.zeroValue75 (zc := _) (cs := [.int .i64 0, .int .i64 0, .int .i64 0]) rfl) ?_
        rintro v5 w5 ⟨g5, rfl, e5, B5, L5⟩
        refine va_three 4 10 15 (by kernel_rfl) ?_ ?_ ?_
        · refine vn_val rfl (os_load Try.isAgg3 rfl ((by first | exact leg_cell L5 (led_cell d1 cn) | exact led_cell d1 cn))) ?_
          refine va_two 10 15 (by kernel_rfl) ?_ ?_
          · refine vn_val rfl (os_load Try.isAgg3 rfl ((by first | exact leg_cell L5 (led_cell d1 cm) | exact led_cell d1 cm))) ?_
            refine va_one 15 (by kernel_rfl) ?_
            refine vn_val rfl (os_load Try.isAgg3 rfl ((by first | exact leg_cell L5 (led_cell d1 cb) | exact led_cell d1 cb))) ?_
            refine va_pure 16 rfl (by kernel_rfl) (by kernel_rfl) (by kernel_rfl) (fun w => (os_build (cs := [.int .i64 n, .int .i64 m, .int .i64 b]) rfl (by kernel_rfl))) ?_
            refine va_one 18 (by kernel_rfl) ?_
            refine vn_unit rfl (ou_storeB (by kernel_rfl) rfl rfl B5 rfl rfl) ?_
            refine va_done (by kernel_rfl) ?_
            exact ⟨g5, ⟨rfl, rfl, rfl, rfl, trivial⟩, ⟨rfl, trivial⟩, ⟨setRow_bk B5 _, below_setRow (b0d.trans (L5.mono b0d.size)) (by rw [e5]; exact b0d.size) _⟩⟩
          · refine vn_val rfl (os_load Try.isAgg3 rfl ((by first | exact leg_cell L5 (led_cell d1 cb) | exact led_cell d1 cb))) ?_
            refine va_one 10 (by kernel_rfl) ?_
            refine vn_val rfl (os_load Try.isAgg3 rfl ((by first | exact leg_cell L5 (led_cell d1 cm) | exact led_cell d1 cm))) ?_
            refine va_pure 16 rfl (by kernel_rfl) (by kernel_rfl) (by kernel_rfl) (fun w => (os_build (cs := [.int .i64 n, .int .i64 m, .int .i64 b]) rfl (by kernel_rfl))) ?_
            refine va_one 18 (by kernel_rfl) ?_
            refine vn_unit rfl (ou_storeB (by kernel_rfl) rfl rfl B5 rfl rfl) ?_
            refine va_done (by kernel_rfl) ?_
            exact ⟨g5, ⟨rfl, rfl, rfl, rfl, trivial⟩, ⟨rfl, trivial⟩, ⟨setRow_bk B5 _, below_setRow (b0d.trans (L5.mono b0d.size)) (by rw [e5]; exact b0d.size) _⟩⟩
        · refine vn_val rfl (os_load Try.isAgg3 rfl ((by first | exact leg_cell L5 (led_cell d1 cm) | exact led_cell d1 cm))) ?_
          refine va_two 4 15 (by kernel_rfl) ?_ ?_
          · refine vn_val rfl (os_load Try.isAgg3 rfl ((by first | exact leg_cell L5 (led_cell d1 cn) | exact led_cell d1 cn))) ?_
            refine va_one 15 (by kernel_rfl) ?_
            refine vn_val rfl (os_load Try.isAgg3 rfl ((by first | exact leg_cell L5 (led_cell d1 cb) | exact led_cell d1 cb))) ?_
            refine va_pure 16 rfl (by kernel_rfl) (by kernel_rfl) (by kernel_rfl) (fun w => (os_build (cs := [.int .i64 n, .int .i64 m, .int .i64 b]) rfl (by kernel_rfl))) ?_
            refine va_one 18 (by kernel_rfl) ?_
            refine vn_unit rfl (ou_storeB (by kernel_rfl) rfl rfl B5 rfl rfl) ?_
            refine va_done (by kernel_rfl) ?_
            exact ⟨g5, ⟨rfl, rfl, rfl, rfl, trivial⟩, ⟨rfl, trivial⟩, ⟨setRow_bk B5 _, below_setRow (b0d.trans (L5.mono b0d.size)) (by rw [e5]; exact b0d.size) _⟩⟩
          · refine vn_val rfl (os_load Try.isAgg3 rfl ((by first | exact leg_cell L5 (led_cell d1 cb) | exact led_cell d1 cb))) ?_
            refine va_one 4 (by kernel_rfl) ?_
            refine vn_val rfl (os_load Try.isAgg3 rfl ((by first | exact leg_cell L5 (led_cell d1 cn) | exact led_cell d1 cn))) ?_
            refine va_pure 16 rfl (by kernel_rfl) (by kernel_rfl) (by kernel_rfl) (fun w => (os_build (cs := [.int .i64 n, .int .i64 m, .int .i64 b]) rfl (by kernel_rfl))) ?_
            refine va_one 18 (by kernel_rfl) ?_
            refine vn_unit rfl (ou_storeB (by kernel_rfl) rfl rfl B5 rfl rfl) ?_
            refine va_done (by kernel_rfl) ?_
            exact ⟨g5, ⟨rfl, rfl, rfl, rfl, trivial⟩, ⟨rfl, trivial⟩, ⟨setRow_bk B5 _, below_setRow (b0d.trans (L5.mono b0d.size)) (by rw [e5]; exact b0d.size) _⟩⟩
        · refine vn_val rfl (os_load Try.isAgg3 rfl ((by first | exact leg_cell L5 (led_cell d1 cb) | exact led_cell d1 cb))) ?_
          refine va_two 4 10 (by kernel_rfl) ?_ ?_
          · refine vn_val rfl (os_load Try.isAgg3 rfl ((by first | exact leg_cell L5 (led_cell d1 cn) | exact led_cell d1 cn))) ?_
            refine va_one 10 (by kernel_rfl) ?_
            refine vn_val rfl (os_load Try.isAgg3 rfl ((by first | exact leg_cell L5 (led_cell d1 cm) | exact led_cell d1 cm))) ?_
            refine va_pure 16 rfl (by kernel_rfl) (by kernel_rfl) (by kernel_rfl) (fun w => (os_build (cs := [.int .i64 n, .int .i64 m, .int .i64 b]) rfl (by kernel_rfl))) ?_
            refine va_one 18 (by kernel_rfl) ?_
            refine vn_unit rfl (ou_storeB (by kernel_rfl) rfl rfl B5 rfl rfl) ?_
            refine va_done (by kernel_rfl) ?_
            exact ⟨g5, ⟨rfl, rfl, rfl, rfl, trivial⟩, ⟨rfl, trivial⟩, ⟨setRow_bk B5 _, below_setRow (b0d.trans (L5.mono b0d.size)) (by rw [e5]; exact b0d.size) _⟩⟩
          · refine vn_val rfl (os_load Try.isAgg3 rfl ((by first | exact leg_cell L5 (led_cell d1 cm) | exact led_cell d1 cm))) ?_
            refine va_one 4 (by kernel_rfl) ?_
            refine vn_val rfl (os_load Try.isAgg3 rfl ((by first | exact leg_cell L5 (led_cell d1 cn) | exact led_cell d1 cn))) ?_
            refine va_pure 16 rfl (by kernel_rfl) (by kernel_rfl) (by kernel_rfl) (fun w => (os_build (cs := [.int .i64 n, .int .i64 m, .int .i64 b]) rfl (by kernel_rfl))) ?_
            refine va_one 18 (by kernel_rfl) ?_
            refine vn_unit rfl (ou_storeB (by kernel_rfl) rfl rfl B5 rfl rfl) ?_
            refine va_done (by kernel_rfl) ?_
            exact ⟨g5, ⟨rfl, rfl, rfl, rfl, trivial⟩, ⟨rfl, trivial⟩, ⟨setRow_bk B5 _, below_setRow (b0d.trans (L5.mono b0d.size)) (by rw [e5]; exact b0d.size) _⟩⟩
    · rintro x w2 ⟨hB2, b2⟩
      refine v_seq ?_
      refine v_seq ?_
      refine v_region ?_
      refine vl_val (os_loadB Try.underlying75 rfl (by kernel_rfl) rfl (hB2)) ?_
      refine vl_val (os_move rfl) ?_
      refine vl_val (os_remi rfl rfl (by omega)) ?_
      refine vl_val (os_move rfl) ?_
      refine vl_val (os_remi rfl rfl (by omega)) ?_
      refine vl_val (os_subi rfl rfl (by omega)) ?_
      refine vl_val (os_move rfl) ?_
      refine vl_val (os_remi rfl rfl (by omega)) ?_
      refine vl_val (os_addi rfl rfl (by omega)) ?_
      refine vl_val (os_move rfl) ?_
      refine vl_val (os_build (cs := [.int .i64 (1 + (i : Int) % 3), .int .i64 i]) rfl (by kernel_rfl)) ?_
      refine vl_val (os_litS (css := [[.int .i64 (1 + (i : Int) % 3), .int .i64 i]]) Try.underlying79 Try.sizeOf78 Try.zeroValue78 rfl rfl (by intro c hc; simp at hc; subst hc; rfl) (by decide) (by decide) (by decide)) ?_
      have rT := rdp_alloc (s := 2) w2 ([(1 + (i : Int) % 3, (i : Int))].map rowC) 78 (rowC_len _)
      have c1 : Below w2.heap.size w2 (w2.alloc (.cells (([(1 + (i : Int) % 3, (i : Int))].map rowC).flatten).toArray 78)) := (Below.refl _ _).alloc (Nat.le_refl _) _
      have rL := rd_alloc (w2.alloc (.cells (([(1 + (i : Int) % 3, (i : Int))].map rowC).flatten).toArray 78)) .i64 [(i : Int) % 50, (i : Int) % 7] 3
      have c2 : Below w2.heap.size w2 ((w2.alloc (.cells (([(1 + (i : Int) % 3, (i : Int))].map rowC).flatten).toArray 78)).alloc (.cells ([(i : Int) % 50, (i : Int) % 7].map (Value.int .i64)).toArray 3)) := c1.alloc c1.size _
      obtain ⟨w3, hw3⟩ : ∃ w3, w3 = (w2.alloc (.cells (([(1 + (i : Int) % 3, (i : Int))].map rowC).flatten).toArray 78)).alloc (.cells ([(i : Int) % 50, (i : Int) % 7].map (Value.int .i64)).toArray 3) := ⟨_, rfl⟩
      have rK := rd_alloc w3 .i64 [1 + (i : Int) % 2, 1 + (i : Int) % 3] 3
      rw [← hw3] at c2
      have c3 : Below w2.heap.size w2 (w3.alloc (.cells ([1 + (i : Int) % 2, 1 + (i : Int) % 3].map (Value.int .i64)).toArray 3)) := c2.alloc c2.size _
      have rL' : Rd (w3.alloc (.cells ([1 + (i : Int) % 2, 1 + (i : Int) % 3].map (Value.int .i64)).toArray 3)) .i64 (some ⟨(w2.alloc (.cells (([(1 + (i : Int) % 3, (i : Int))].map rowC).flatten).toArray 78)).heap.size, 0, none⟩) [(i : Int) % 50, (i : Int) % 7] := by rw [hw3]; exact rL.alloc _
      have rT' : RdP (w3.alloc (.cells ([1 + (i : Int) % 2, 1 + (i : Int) % 3].map (Value.int .i64)).toArray 3)) 2 (some ⟨w2.heap.size, 0, none⟩) ([(1 + (i : Int) % 3, (i : Int))].map rowC) := by rw [hw3]; exact (rT.keep ((Below.refl _ _).alloc (Nat.le_refl _) _)).keep ((Below.refl _ _).alloc (Nat.le_refl _) _)
      rw [hw3] at rL' rT' rK c3
      refine vl_val (os_move rfl) ?_
      refine vl_val (os_remi rfl rfl (by omega)) ?_
      refine vl_val (os_move rfl) ?_
      refine vl_val (os_remi rfl rfl (by omega)) ?_
      refine vl_val (os_lit Try.underlying40 Try.sizeOf3 Try.zeroValue3 rfl rfl rfl rfl (by decide)) ?_
      refine vl_val (os_move rfl) ?_
      refine vl_val (os_remi rfl rfl (by omega)) ?_
      refine vl_val (os_addi rfl rfl (by omega)) ?_
      refine vl_val (os_move rfl) ?_
      refine vl_val (os_remi rfl rfl (by omega)) ?_
      refine vl_val (os_addi rfl rfl (by omega)) ?_
      refine vl_val (os_lit Try.underlying40 Try.sizeOf3 Try.zeroValue3 rfl rfl rfl rfl (by decide)) ?_
      refine vl_call (law11_SizeDoes n m b ((i : Int) % 4) ((i : Int) % 11 - 1) _ _ _ 1 1 2 2 2 2 [(1 + (i : Int) % 3, (i : Int))] [(i : Int) % 50, (i : Int) % 7] [1 + (i : Int) % 2, 1 + (i : Int) % 3] _ rT' rL' rK rfl rfl rfl (by decide) (by decide) (by decide) (all_two ⟨by omega, by omega⟩ ⟨by omega, by omega⟩)) rfl ?_
      rintro v5 w5 ⟨rfl, c5⟩
      have c5' : Below w2.heap.size w2 w5 := Below.trans c3 (c5.mono c3.size)
      have b5 : Below w0.heap.size w0 w5 := b1.trans ((b2.trans (c5'.mono b2.size)).mono b1.size)
      have hB5 := hB2.keep c5'
      refine vl_val (os_not rfl) ?_
      refine vl_nil ?_
      by_cases h3 : (i : Int) % 3 = 0
      · refine v_cond_f rfl ?_
        refine v_skip ?_
        refine v_seq ?_
        refine v_region ?_
        refine vl_val (os_move rfl) ?_
        refine vl_val (os_remi rfl rfl (by omega)) ?_
        refine vl_val (os_t (os_eql rfl rfl) (by omega)) ?_
        refine vl_val (os_move rfl) ?_
        refine vl_valg rfl (os_loadB Try.underlying75 rfl (by kernel_rfl) rfl (hB5)) ?_
        have rC := rd_alloc w5 .i64 [(i : Int) % 70, (i : Int) % 9] 3
        refine vl_valg rfl (os_move rfl) ?_
        refine vl_valg rfl (os_remi rfl rfl (by omega)) ?_
        refine vl_valg rfl (os_move rfl) ?_
        refine vl_valg rfl (os_remi rfl rfl (by omega)) ?_
        refine vl_valg rfl (os_lit Try.underlying40 Try.sizeOf3 Try.zeroValue3 rfl rfl rfl rfl (by decide)) ?_
        refine vl_callg rfl (law11_SizeCan n m b _ 2 2 [(i : Int) % 70, (i : Int) % 9] _ rC rfl (by decide) hnI) rfl ?_
        rintro v6 w6 ⟨rfl, c6⟩
        have c5a : Below w5.heap.size w5 (w5.alloc (.cells ([(i : Int) % 70, (i : Int) % 9].map (Value.int .i64)).toArray 3)) := (Below.refl _ _).alloc (Nat.le_refl _) _
        refine vl_valg rfl (os_not rfl) ?_
        refine vl_val (os_pick_t rfl rfl) ?_
        refine vl_nil ?_
        refine v_cond_f rfl ?_
        refine v_skip ?_
        refine v_region ?_
        refine vl_val (os_move rfl) ?_
        refine vl_val (os_addi rfl rfl (by omega)) ?_
        refine vl_val (os_assign rfl) ?_
        refine vl_nil ?_
        exact ⟨i + 1, ⟨rfl, rfl, rfl, trivial⟩, ⟨rfl, trivial⟩, ⟨by omega, b5.trans ((c5a.trans (c6.mono c5a.size)).mono b5.size)⟩, by dsimp only; omega⟩
      · refine v_cond_f rfl ?_
        refine v_skip ?_
        refine v_seq ?_
        refine v_region ?_
        refine vl_val (os_move rfl) ?_
        refine vl_val (os_remi rfl rfl (by omega)) ?_
        refine vl_val (os_f (os_eql rfl rfl) (by omega)) ?_
        refine vl_val (os_move rfl) ?_
        refine vl_skip rfl rfl ?_
        refine vl_skip rfl rfl ?_
        refine vl_skip rfl rfl ?_
        refine vl_skip rfl rfl ?_
        refine vl_skip rfl rfl ?_
        refine vl_skip rfl rfl ?_
        refine vl_skip rfl rfl ?_
        refine vl_skip rfl rfl ?_
        refine vl_val (os_pick_f rfl rfl) ?_
        refine vl_nil ?_
        refine v_cond_f rfl ?_
        refine v_skip ?_
        refine v_region ?_
        refine vl_val (os_move rfl) ?_
        refine vl_val (os_addi rfl rfl (by omega)) ?_
        refine vl_val (os_assign rfl) ?_
        refine vl_nil ?_
        exact ⟨i + 1, ⟨rfl, rfl, rfl, trivial⟩, ⟨rfl, trivial⟩, ⟨by omega, b5⟩, by dsimp only; omega⟩
  · obtain ⟨wA, hA⟩ : ∃ wA, wA = w1 := ⟨_, rfl⟩
    rw [← hA] at b1 ⊢
    refine v_exit ?_
    refine v_seq ?_
    refine v_seq ?_
    refine v_region ?_
    refine vl_val (os_assign rfl) ?_
    refine vl_nil ?_
    refine v_block ?_
    refine v_loop [] (fun (r : Nat) => [(6, .int .i64 r)]) (fun r w' => r ≤ 6 ∧ Below w0.heap.size w0 w') (fun r => 6 - r) (0) trivial ⟨rfl, trivial⟩ (⟨by omega, b1⟩) ?_
    rintro r w2 ⟨hr, b2⟩
    refine v_seq ?_
    refine v_seq ?_
    refine v_region ?_
    refine vl_val (os_move rfl) ?_
    refine vl_val (os_lss rfl rfl) ?_
    refine vl_nil ?_
    refine v_cond_d rfl (fun hh => ?_) (fun hh => ?_)
    · refine v_skip ?_
      refine v_seq ?_
      refine v_block ?_
      refine v_seq ?_
      refine v_region ?_
      refine vl_val (os_move rfl) ?_
      refine vl_val (os_addi rfl rfl (by omega)) ?_
      refine vl_val (os_muli rfl rfl (by omega)) ?_
      refine vl_val (os_build (cs := [.int .i64 3, .int .i64 64, .int .i64 (3 * (24 + (r : Int)))]) rfl (by kernel_rfl)) ?_
      refine vl_some (ot_allocB Try.zeroValue75 (zc := _) (cs := [.int .i64 0, .int .i64 0, .int .i64 0]) rfl) ?_
      rintro v7 w7 ⟨g7, rfl, e7, B7, L7⟩
      refine vl_unit (ou_storeB (by kernel_rfl) rfl rfl B7 rfl rfl) ?_
      have B7' := setRow_bk B7 [.int .i64 3, .int .i64 64, .int .i64 (3 * (24 + (r : Int)))]
      have c7 : Below w2.heap.size w2 (w7.setRow g7 [Value.int .i64 3, .int .i64 64, .int .i64 (3 * (24 + (r : Int)))].toArray) := below_setRow L7 (by rw [e7]; exact Nat.le_refl _) _
      have l7 := B7'.lt
      refine vl_nil ?_
      refine v_seq ?_
      refine v_region ?_
      refine vl_val (os_move rfl) ?_
      refine vl_val (os_addi rfl rfl (by omega)) ?_
      refine vl_val (os_muli rfl rfl (by omega)) ?_
      refine vl_val (os_addi rfl rfl (by omega)) ?_
      refine vl_val (os_build (cs := [.int .i64 3, .int .i64 64, .int .i64 (3 * (24 + (r : Int)) + 2)]) rfl (by kernel_rfl)) ?_
      refine vl_some (ot_allocB Try.zeroValue75 (zc := _) (cs := [.int .i64 0, .int .i64 0, .int .i64 0]) rfl) ?_
      rintro v8 w8 ⟨g8, rfl, e8, B8, L8⟩
      refine vl_unit (ou_storeB (by kernel_rfl) rfl rfl B8 rfl rfl) ?_
      have B8' := setRow_bk B8 [.int .i64 3, .int .i64 64, .int .i64 (3 * (24 + (r : Int)) + 2)]
      have c8 : Below _ _ (w8.setRow g8 [Value.int .i64 3, .int .i64 64, .int .i64 (3 * (24 + (r : Int)) + 2)].toArray) := below_setRow L8 (by rw [e8]; exact Nat.le_refl _) _
      have B7'' := B7'.keep c8
      have b8 : Below w0.heap.size w0 (w8.setRow g8 [Value.int .i64 3, .int .i64 64, .int .i64 (3 * (24 + (r : Int)) + 2)].toArray) := b2.trans ((c7.trans (c8.mono c7.size)).mono b2.size)
      generalize hW8 : w8.setRow g8 [Value.int .i64 3, .int .i64 64, .int .i64 (3 * (24 + (r : Int)) + 2)].toArray = w9 at *
      refine vl_nil ?_
      refine v_seq ?_
      refine v_region ?_
      refine vl_val (os_assign rfl) ?_
      refine vl_nil ?_
      refine v_block ?_
      refine v_loop [(6, _), (7, _), (8, _)] (fun (k : Nat) => [(9, .int .i64 k)]) (fun k w' => k ≤ 27 ∧ Below w9.heap.size w9 w') (fun k => 27 - k) (0) ⟨rfl, rfl, rfl, trivial⟩ ⟨rfl, trivial⟩ (⟨by omega, Below.refl _ _⟩) ?_
      rintro k wk ⟨hk, bk⟩
      refine v_seq ?_
      refine v_seq ?_
      refine v_region ?_
      refine vl_val (os_move rfl) ?_
      refine vl_val (os_lss rfl rfl) ?_
      refine vl_nil ?_
      refine v_cond_d rfl (fun hkk => ?_) (fun hkk => ?_)
      · refine v_skip ?_
        refine v_seq ?_
        refine v_block ?_
        refine v_seq ?_
        refine v_region ?_
        refine vl_val (os_move rfl) ?_
        refine vl_val (os_remi rfl rfl (by omega)) ?_
        refine vl_val (os_addi rfl rfl (by omega)) ?_
        refine vl_val (os_move rfl) ?_
        refine vl_val (os_quoi rfl rfl (by omega)) ?_
        refine vl_val (os_remi rfl rfl (by omega)) ?_
        refine vl_val (os_addi rfl rfl (by omega)) ?_
        refine vl_some (ot_lit wk.heap.size Try.underlying40 Try.sizeOf3 Try.zeroValue3 rfl rfl rfl rfl (by decide) (Nat.le_refl _)) ?_
        rintro va wa ⟨ga, rfl, ea, la, Oa, La⟩
        refine vl_val (os_assign rfl) ?_
        refine vl_nil ?_
        refine v_seq ?_
        refine v_region ?_
        refine vl_val (os_move rfl) ?_
        refine vl_val (os_move rfl) ?_
        refine vl_val (os_quoi rfl rfl (by omega)) ?_
        refine vl_val (os_addi rfl rfl (by omega)) ?_
        refine vl_val (os_move rfl) ?_
        refine vl_val (os_muli rfl rfl (by omega)) ?_
        refine vl_val (os_move rfl) ?_
        refine vl_val (os_quoi rfl rfl (by omega)) ?_
        refine vl_val (os_subi rfl rfl (by omega)) ?_
        refine vl_some (ot_lit wk.heap.size Try.underlying40 Try.sizeOf3 Try.zeroValue3 rfl rfl rfl rfl (by decide) La.size) ?_
        rintro vc wc ⟨gc, rfl, ec, lc, Oc, Lc⟩
        have rKs : Rd wc .i64 (some ⟨ga, 0, none⟩) [1 + (k : Int) % 3, 1 + (k : Int) / 3 % 3] := Rd.keep (OwnK.rd (zs := [1 + (k : Int) % 3, 1 + (k : Int) / 3 % 3]) Oa) Lc
        have rLs : Rd wc .i64 (some ⟨gc, 0, none⟩) [(r : Int) + (k : Int) / 9, 2 * (r : Int) - (k : Int) / 9] := OwnK.rd (zs := [(r : Int) + (k : Int) / 9, 2 * (r : Int) - (k : Int) / 9]) Oc
        have bc : Below wk.heap.size wk wc := Below.trans La (Lc.mono La.size)
        have bc9 := bk.trans (bc.mono bk.size)
        have hks2 : AllI [1 + (k : Int) % 3, 1 + (k : Int) / 3 % 3] := all_two ⟨by omega, by omega⟩ ⟨by omega, by omega⟩
        refine vl_val (os_assign rfl) ?_
        refine vl_nil ?_
        refine v_seq ?_
        refine v_region ?_
        refine vl_val (os_loadB Try.underlying75 rfl (by kernel_rfl) rfl ((B7''.keep bc9))) ?_
        refine vl_val (os_move rfl) ?_
        refine vl_val (os_move rfl) ?_
        refine vl_call (law11_SizeDoes0 3 64 _ 3 2 _ _ 2 2 2 2 _ _ wc rLs rKs rfl rfl (by decide) (by decide) hks2) rfl ?_
        rintro vd wd ⟨rfl, bd⟩
        have bd9 := bc9.trans (bd.mono bc9.size)
        refine vl_val (os_not rfl) ?_
        refine vl_val (os_move rfl) ?_
        refine vl_valg rfl (os_loadB Try.underlying75 rfl (by kernel_rfl) rfl ((B8'.keep bd9))) ?_
        refine vl_valg rfl (os_move rfl) ?_
        refine vl_valg rfl (os_move rfl) ?_
        refine vl_callg rfl (law11_SizeDoes0 3 64 _ 3 2 _ _ 2 2 2 2 _ _ wd (rLs.keep bd) (rKs.keep bd) rfl rfl (by decide) (by decide) hks2) rfl ?_
        rintro ve we ⟨rfl, be⟩
        have be9 := bd9.trans (be.mono bd9.size)
        refine vl_valg rfl (os_not rfl) ?_
        refine vl_val (os_pick_f rfl rfl) ?_
        refine vl_val (os_move rfl) ?_
        refine vl_valg rfl (os_loadB Try.underlying75 rfl (by kernel_rfl) rfl ((B7''.keep be9))) ?_
        refine vl_valg rfl (os_move rfl) ?_
        refine vl_callg rfl (law11_SizeCan 3 64 _ _ 2 2 _ we ((rLs.keep bd).keep be) rfl (by decide) ⟨by decide, by decide⟩) rfl ?_
        rintro vf wf ⟨rfl, bf⟩
        refine vl_valg rfl (os_not rfl) ?_
        refine vl_val (os_pick_f rfl rfl) ?_
        refine vl_nil ?_
        refine v_cond_f rfl ?_
        refine v_skip ?_
        refine v_region ?_
        refine vl_val (os_move rfl) ?_
        refine vl_val (os_addi rfl rfl (by omega)) ?_
        refine vl_val (os_assign rfl) ?_
        refine vl_nil ?_
        exact ⟨k + 1, ⟨rfl, rfl, rfl, trivial⟩, ⟨rfl, trivial⟩, ⟨by omega, be9.trans (bf.mono be9.size)⟩, by dsimp only; omega⟩
      · refine v_exit ?_
        refine v_region ?_
        refine vl_val (os_move rfl) ?_
        refine vl_val (os_addi rfl rfl (by omega)) ?_
        refine vl_val (os_assign rfl) ?_
        refine vl_nil ?_
        exact ⟨r + 1, trivial, ⟨rfl, trivial⟩, ⟨by omega, b8.trans (bk.mono b8.size)⟩, by dsimp only; omega⟩
    · refine v_exit ?_
      refine v_seq ?_
      refine v_region ?_
      refine vl_val (os_build (cs := [.int .i64 255, .int .i64 1500, .int .i64 524288]) rfl (by kernel_rfl)) ?_
      refine vl_some (ot_allocB Try.zeroValue75 (zc := _) (cs := [.int .i64 0, .int .i64 0, .int .i64 0]) rfl) ?_
      rintro v7 w7 ⟨g7, rfl, e7, B7, L7⟩
      refine vl_unit (ou_storeB (by kernel_rfl) rfl rfl B7 rfl rfl) ?_
      have B7' := setRow_bk B7 [.int .i64 255, .int .i64 1500, .int .i64 524288]
      have c7 : Below w2.heap.size w2 (w7.setRow g7 [Value.int .i64 255, .int .i64 1500, .int .i64 524288].toArray) := below_setRow L7 (by rw [e7]; exact Nat.le_refl _) _
      refine vl_nil ?_
      refine v_seq ?_
      refine v_region_t LeG _ mixed (by kernel_rfl) lee_g (leg_start _) ?_
      refine vt_val (fun w hw => os_loadB Try.underlying75 rfl (by kernel_rfl) rfl ((B7'.keep hw))) ?_
      refine vt_new (IsRow .i64 [65535]) (isRow_stable _ _) (fun w hw => os_lit Try.underlying40 Try.sizeOf3 Try.zeroValue3 rfl rfl rfl rfl (by decide)) (fun w hw => isRow_lit .i64 w [65535] _) ?_
      refine vt_new (IsRow .i64 [255]) (isRow_stable _ _) (fun w hw => os_lit Try.underlying40 Try.sizeOf3 Try.zeroValue3 rfl rfl rfl rfl (by decide)) (fun w hw => isRow_lit .i64 w [255] _) ?_
      refine vt_calls [(139, _), (140, _)] (.bool true) ⟨⟨rfl, rfl⟩, ⟨rfl, rfl⟩, trivial⟩ (fun w hw => fun u0 ⟨A0, c0, e0, x0⟩ => fun u1 ⟨A1, c1, e1, x1⟩ => ⟨_, rfl, by subst e0; subst e1; exact law11_SizeDoes0 255 1500 524288 255 8 A0 A1 1 c0 1 c1 [65535] [255] w x0 x1 rfl rfl (by decide) (by decide) (all_one ⟨by decide, by decide⟩)⟩) ?_
      refine vt_val (fun w hw => os_move rfl) ?_
      refine vt_valg rfl (fun w hw => os_loadB Try.underlying75 rfl (by kernel_rfl) rfl ((B7'.keep hw))) ?_
      refine vt_new (IsRow .i64 [65536]) (isRow_stable _ _) (fun w hw => os_lit Try.underlying40 Try.sizeOf3 Try.zeroValue3 rfl rfl rfl rfl (by decide)) (fun w hw => isRow_lit .i64 w [65536] _) ?_
      refine vt_new (IsRow .i64 [1]) (isRow_stable _ _) (fun w hw => os_lit Try.underlying40 Try.sizeOf3 Try.zeroValue3 rfl rfl rfl rfl (by decide)) (fun w hw => isRow_lit .i64 w [1] _) ?_
      refine vt_calls [(144, _), (145, _)] (.bool true) ⟨⟨rfl, rfl⟩, ⟨rfl, rfl⟩, trivial⟩ (fun w hw => fun u0 ⟨A0, c0, e0, x0⟩ => fun u1 ⟨A1, c1, e1, x1⟩ => ⟨_, rfl, by subst e0; subst e1; exact law11_SizeDoes0 255 1500 524288 1 1 A0 A1 1 c0 1 c1 [65536] [1] w x0 x1 rfl rfl (by decide) (by decide) (all_one ⟨by decide, by decide⟩)⟩) ?_
      refine vt_val (fun w hw => os_pick_t rfl rfl) ?_
      refine vt_val (fun w hw => os_move rfl) ?_
      refine vt_valg rfl (fun w hw => os_loadB Try.underlying75 rfl (by kernel_rfl) rfl ((B7'.keep hw))) ?_
      refine vt_callg rfl (v := .bool true) (fun w hw => law11_SizeDoes0 255 1500 524288 1 1 none none 0 0 0 0 [] [] w Rd.nil Rd.nil rfl rfl (by decide) (by decide) (by intro z hz; cases hz)) rfl ?_
      refine vt_val (fun w hw => os_pick_t rfl rfl) ?_
      refine vt_val (fun w hw => os_move rfl) ?_
      refine vt_valg rfl (fun w hw => os_loadB Try.underlying75 rfl (by kernel_rfl) rfl ((B7'.keep hw))) ?_
      refine vt_fact (IsRow .i64 (List.replicate 9 0)) (isRow_stable _ _) (fun w hw => (ot_make (l := 9) Try.underlying40 ti_int rfl rfl rfl rfl rfl (by decide) (by decide) w.heap.size (Nat.le_refl _)).mono fun v w' h => made_row h) ?_
      refine vt_fact (IsRow .i64 (List.replicate 9 0)) (isRow_stable _ _) (fun w hw => (ot_make (l := 9) Try.underlying40 ti_int rfl rfl rfl rfl rfl (by decide) (by decide) w.heap.size (Nat.le_refl _)).mono fun v w' h => made_row h) ?_
      refine vt_calls [(154, _), (155, _)] (.bool true) ⟨⟨rfl, rfl⟩, ⟨rfl, rfl⟩, trivial⟩ (fun w hw => fun u0 ⟨A0, c0, e0, x0⟩ => fun u1 ⟨A1, c1, e1, x1⟩ => ⟨_, rfl, by subst e0; subst e1; exact law11_SizeDoes0 255 1500 524288 1 1 A0 A1 9 c0 9 c1 (List.replicate 9 0) (List.replicate 9 0) w x0 x1 rfl rfl (by decide) (by decide) (all_rep ⟨by decide, by decide⟩ 9)⟩) ?_
      refine vt_val (fun w hw => os_pick_t rfl rfl) ?_
      refine vt_val (fun w hw => os_move rfl) ?_
      refine vt_valg rfl (fun w hw => os_loadB Try.underlying75 rfl (by kernel_rfl) rfl ((B7'.keep hw))) ?_
      refine vt_new (IsRow .i64 [0, 0]) (isRow_stable _ _) (fun w hw => os_lit Try.underlying40 Try.sizeOf3 Try.zeroValue3 rfl rfl rfl rfl (by decide)) (fun w hw => isRow_lit .i64 w [0, 0] _) ?_
      refine vt_new (IsRow .i64 [1]) (isRow_stable _ _) (fun w hw => os_lit Try.underlying40 Try.sizeOf3 Try.zeroValue3 rfl rfl rfl rfl (by decide)) (fun w hw => isRow_lit .i64 w [1] _) ?_
      refine vt_calls [(160, _), (161, _)] (.bool true) ⟨⟨rfl, rfl⟩, ⟨rfl, rfl⟩, trivial⟩ (fun w hw => fun u0 ⟨A0, c0, e0, x0⟩ => fun u1 ⟨A1, c1, e1, x1⟩ => ⟨_, rfl, by subst e0; subst e1; exact law11_SizeDoes0 255 1500 524288 1 1 A0 A1 2 c0 1 c1 [0, 0] [1] w x0 x1 rfl rfl (by decide) (by decide) (all_one ⟨by decide, by decide⟩)⟩) ?_
      refine vt_val (fun w hw => os_pick_t rfl rfl) ?_
      refine vt_val (fun w hw => os_move rfl) ?_
      refine vt_callg rfl (v := .bool true) (fun w hw => law11_awake w) rfl ?_
      refine vt_val (fun w hw => os_pick_t rfl rfl) ?_
      refine vt_val (fun w hw => os_assign rfl) ?_
      refine vt_nil (fun Hw H => ?_)
      intro u8 hu8 u7 hu7 u6 hu6 u5 hu5 u4 hu4 u3 hu3 u2 hu2 u1 hu1
      have b2w := h0.trans (b2.mono h0.size)
      have b7w := b2w.trans (c7.mono b2w.size)
      refine v_ret ?_
      exact post_ret rfl rfl (⟨rfl, b7w.trans (H.mono b7w.size)⟩)
end Go.Proofs.Ytpjmiafefammkaa
