/- Layers 9, 11: the contracts of strip.Width, size.Right, Room, Fits. -/
import Derived.Test.YtpjmiafefammkaaTy
import Derived.Test.YtpjmiafefammkaaSzP
import Derived.Test.YtpjmiafefammkaaFixB
namespace Go.Proofs.Ytpjmiafefammkaa
open Go.RowKit
set_option linter.unusedVariables false

theorem strip_Width (long k : Int) (w : World) (h1 : I64 long) (h2 : I64 k) : Gives Try.prog 94 #[.int .i64 long, .int .i64 k] w fun v w' => v = .tuple #[.int .i64 (widthV long k), .int .i64 (errE (widthOk long k))] ∧ w' = w := by
  obtain ⟨a1, a2⟩ := h1
  obtain ⟨a3, a4⟩ := h2
  refine gives_enter Try.call94 Try.func94 rfl rfl rfl (by kernel_rfl) ?_
  rcases (by omega : long < 0 ∨ (0 ≤ long ∧ 65535 < long) ∨ (0 ≤ long ∧ long ≤ 65535 ∧ k < 1) ∨ (0 ≤ long ∧ long ≤ 65535 ∧ 1 ≤ k)) with h | ⟨h, h3⟩ | ⟨h, h3, h4⟩ | ⟨h, h3, h4⟩
  · refine v_seq ?_
    refine v_region ?_
    refine vl_val (os_assign rfl) ?_
    refine vl_val (os_assign rfl) ?_
    refine vl_nil ?_
    refine v_seq ?_
    refine v_seq ?_
    refine v_region ?_
    refine vl_val (os_move rfl) ?_
    refine vl_val (os_t (os_lss rfl rfl) (by omega)) ?_
    refine vl_val (os_move rfl) ?_
    refine vl_skip rfl rfl ?_
    refine vl_skip rfl rfl ?_
    refine vl_val (os_pick_t rfl rfl) ?_
    refine vl_val (os_move rfl) ?_
    refine vl_skip rfl rfl ?_
    refine vl_skip rfl rfl ?_
    refine vl_val (os_pick_t rfl rfl) ?_
    refine vl_val (os_move rfl) ?_
    refine vl_skip rfl rfl ?_
    refine vl_skip rfl rfl ?_
    refine vl_val (os_pick_t rfl rfl) ?_
    refine vl_nil ?_
    refine v_cond_t rfl ?_
    refine v_seq ?_
    refine v_region ?_
    refine vl_val (os_assign rfl) ?_
    refine vl_val (os_assign rfl) ?_
    refine vl_nil ?_
    refine v_ret ?_
    exact post_ret2 rfl rfl rfl (⟨by simp [widthV, widthOk, errE]; omega, rfl⟩)
  · refine v_seq ?_
    refine v_region ?_
    refine vl_val (os_assign rfl) ?_
    refine vl_val (os_assign rfl) ?_
    refine vl_nil ?_
    refine v_seq ?_
    refine v_seq ?_
    refine v_region ?_
    refine vl_val (os_move rfl) ?_
    refine vl_val (os_f (os_lss rfl rfl) (by omega)) ?_
    refine vl_val (os_move rfl) ?_
    refine vl_valg rfl (os_move rfl) ?_
    refine vl_valg rfl (os_t (os_gtr rfl rfl) (by omega)) ?_
    refine vl_val (os_pick_f rfl rfl) ?_
    refine vl_val (os_move rfl) ?_
    refine vl_skip rfl rfl ?_
    refine vl_skip rfl rfl ?_
    refine vl_val (os_pick_t rfl rfl) ?_
    refine vl_val (os_move rfl) ?_
    refine vl_skip rfl rfl ?_
    refine vl_skip rfl rfl ?_
    refine vl_val (os_pick_t rfl rfl) ?_
    refine vl_nil ?_
    refine v_cond_t rfl ?_
    refine v_seq ?_
    refine v_region ?_
    refine vl_val (os_assign rfl) ?_
    refine vl_val (os_assign rfl) ?_
    refine vl_nil ?_
    refine v_ret ?_
    exact post_ret2 rfl rfl rfl (⟨by simp [widthV, widthOk, errE]; omega, rfl⟩)
  · refine v_seq ?_
    refine v_region ?_
    refine vl_val (os_assign rfl) ?_
    refine vl_val (os_assign rfl) ?_
    refine vl_nil ?_
    refine v_seq ?_
    refine v_seq ?_
    refine v_region ?_
    refine vl_val (os_move rfl) ?_
    refine vl_val (os_f (os_lss rfl rfl) (by omega)) ?_
    refine vl_val (os_move rfl) ?_
    refine vl_valg rfl (os_move rfl) ?_
    refine vl_valg rfl (os_f (os_gtr rfl rfl) (by omega)) ?_
    refine vl_val (os_pick_f rfl rfl) ?_
    refine vl_val (os_move rfl) ?_
    refine vl_valg rfl (os_move rfl) ?_
    refine vl_valg rfl (os_t (os_lss rfl rfl) (by omega)) ?_
    refine vl_val (os_pick_f rfl rfl) ?_
    refine vl_val (os_move rfl) ?_
    refine vl_skip rfl rfl ?_
    refine vl_skip rfl rfl ?_
    refine vl_val (os_pick_t rfl rfl) ?_
    refine vl_nil ?_
    refine v_cond_t rfl ?_
    refine v_seq ?_
    refine v_region ?_
    refine vl_val (os_assign rfl) ?_
    refine vl_val (os_assign rfl) ?_
    refine vl_nil ?_
    refine v_ret ?_
    exact post_ret2 rfl rfl rfl (⟨by simp [widthV, widthOk, errE]; omega, rfl⟩)
  · refine v_seq ?_
    refine v_region ?_
    refine vl_val (os_assign rfl) ?_
    refine vl_val (os_assign rfl) ?_
    refine vl_nil ?_
    refine v_seq ?_
    refine v_seq ?_
    refine v_region ?_
    refine vl_val (os_move rfl) ?_
    refine vl_val (os_f (os_lss rfl rfl) (by omega)) ?_
    refine vl_val (os_move rfl) ?_
    refine vl_valg rfl (os_move rfl) ?_
    refine vl_valg rfl (os_f (os_gtr rfl rfl) (by omega)) ?_
    refine vl_val (os_pick_f rfl rfl) ?_
    refine vl_val (os_move rfl) ?_
    refine vl_valg rfl (os_move rfl) ?_
    refine vl_valg rfl (os_f (os_lss rfl rfl) (by omega)) ?_
    refine vl_val (os_pick_f rfl rfl) ?_
    refine vl_val (os_move rfl) ?_
    refine vl_valg rfl (os_move rfl) ?_
    refine vl_valg rfl (os_gtr rfl rfl) ?_
    refine vl_val (os_pick_f rfl rfl) ?_
    refine vl_nil ?_
    refine v_cond_d rfl (fun hk => ?_) (fun hk => ?_)
    · have hw : widthOk long k = false := by simp [widthOk]; omega
      refine v_seq ?_
      refine v_region ?_
      refine vl_val (os_assign rfl) ?_
      refine vl_val (os_assign rfl) ?_
      refine vl_nil ?_
      refine v_ret ?_
      exact post_ret2 rfl rfl rfl (⟨by simp [widthV, hw, errE], rfl⟩)
    · have hw : widthOk long k = true := by simp [widthOk]; omega
      refine v_skip ?_
      refine v_seq ?_
      refine v_region ?_
      refine vl_val (os_move rfl) ?_
      refine vl_val (os_move rfl) ?_
      refine vl_val (os_addi rfl rfl (by omega)) ?_
      refine vl_val (os_subi rfl rfl (by omega)) ?_
      refine vl_val (os_move rfl) ?_
      refine vl_val (os_quoi rfl rfl (by omega)) ?_
      refine vl_val (os_assign rfl) ?_
      refine vl_val (os_assign rfl) ?_
      refine vl_nil ?_
      refine v_ret ?_
      exact post_ret2 rfl rfl rfl (⟨by simp [widthV, hw, errE, widthW], rfl⟩)

theorem size_between (a b c : Int) (w : World) : Gives Try.prog 96 #[.int .i64 a, .int .i64 b, .int .i64 c] w fun v w' => v = .bool (betw a b c) ∧ w' = w := by
  refine gives_enter Try.call96 Try.func96 rfl rfl rfl (by kernel_rfl) ?_
  by_cases h : b ≤ a
  · refine v_seq ?_
    refine v_region ?_
    refine vl_val (os_assign rfl) ?_
    refine vl_nil ?_
    refine v_seq ?_
    refine v_region ?_
    refine vl_val (os_move rfl) ?_
    refine vl_val (os_move rfl) ?_
    refine vl_val (os_t (os_geq rfl rfl) (by omega)) ?_
    refine vl_val (os_move rfl) ?_
    refine vl_valg rfl (os_move rfl) ?_
    refine vl_valg rfl (os_move rfl) ?_
    refine vl_valg rfl (os_leq rfl rfl) ?_
    refine vl_val (os_pick_t rfl rfl) ?_
    refine vl_val (os_assign rfl) ?_
    refine vl_nil ?_
    refine v_ret ?_
    exact post_ret rfl rfl (⟨by simp [betw, h], rfl⟩)
  · refine v_seq ?_
    refine v_region ?_
    refine vl_val (os_assign rfl) ?_
    refine vl_nil ?_
    refine v_seq ?_
    refine v_region ?_
    refine vl_val (os_move rfl) ?_
    refine vl_val (os_move rfl) ?_
    refine vl_val (os_f (os_geq rfl rfl) (by omega)) ?_
    refine vl_val (os_move rfl) ?_
    refine vl_skip rfl rfl ?_
    refine vl_skip rfl rfl ?_
    refine vl_skip rfl rfl ?_
    refine vl_val (os_pick_f rfl rfl) ?_
    refine vl_val (os_assign rfl) ?_
    refine vl_nil ?_
    refine v_ret ?_
    exact post_ret rfl rfl (⟨by simp [betw, h], rfl⟩)

theorem size_Right (n m b : Int) (w : World) : Gives Try.prog 52 #[.agg #[.int .i64 n, .int .i64 m, .int .i64 b]] w fun v w' => v = .bool (rightB n m b) ∧ Below w.heap.size w w' := by
  have hbel : Below w.heap.size w (w.alloc (.cells #[.int .i64 n, .int .i64 m, .int .i64 b] 75)) := (Below.refl _ w).alloc (Nat.le_refl _) _
  have hB := bk_new w [.int .i64 n, .int .i64 m, .int .i64 b] 75
  refine gives_enter Try.call52 Try.func52 rfl rfl rfl (by kernel_rfl) ?_
  cases c1 : betw n 1 255
  · refine v_seq ?_
    refine v_region ?_
    refine vl_val (os_box rfl) ?_
    refine vl_val (os_assign rfl) ?_
    refine vl_nil ?_
    refine v_seq ?_
    refine v_region ?_
    refine vl_val (os_fa (o := 0) (k := 0) (by kernel_rfl) rfl) ?_
    refine vl_val (os_load Try.isAgg3 rfl (hB.cell rfl)) ?_
    refine vl_call (gives_bool (size_between n 1 255 _) c1) rfl ?_
    rintro v w' ⟨rfl, rfl⟩
    refine vl_val (os_move rfl) ?_
    refine vl_skip rfl rfl ?_
    refine vl_skip rfl rfl ?_
    refine vl_skip rfl rfl ?_
    refine vl_val (os_pick_f rfl rfl) ?_
    refine vl_val (os_move rfl) ?_
    refine vl_skip rfl rfl ?_
    refine vl_skip rfl rfl ?_
    refine vl_skip rfl rfl ?_
    refine vl_val (os_pick_f rfl rfl) ?_
    refine vl_val (os_assign rfl) ?_
    refine vl_nil ?_
    refine v_ret ?_
    exact post_ret rfl rfl (⟨by simp [rightB]; simp [betw] at c1; omega, hbel⟩)
  · cases c2 : betw m 64 1500
    · refine v_seq ?_
      refine v_region ?_
      refine vl_val (os_box rfl) ?_
      refine vl_val (os_assign rfl) ?_
      refine vl_nil ?_
      refine v_seq ?_
      refine v_region ?_
      refine vl_val (os_fa (o := 0) (k := 0) (by kernel_rfl) rfl) ?_
      refine vl_val (os_load Try.isAgg3 rfl (hB.cell rfl)) ?_
      refine vl_call (gives_bool (size_between n 1 255 _) c1) rfl ?_
      rintro v w' ⟨rfl, rfl⟩
      refine vl_val (os_move rfl) ?_
      refine vl_valg rfl (os_fa (o := 1) (k := 0) (by kernel_rfl) rfl) ?_
      refine vl_valg rfl (os_load Try.isAgg3 rfl (hB.cell rfl)) ?_
      refine vl_callg rfl (gives_bool (size_between m 64 1500 _) c2) rfl ?_
      rintro v w' ⟨rfl, rfl⟩
      refine vl_val (os_pick_t rfl rfl) ?_
      refine vl_val (os_move rfl) ?_
      refine vl_skip rfl rfl ?_
      refine vl_skip rfl rfl ?_
      refine vl_skip rfl rfl ?_
      refine vl_val (os_pick_f rfl rfl) ?_
      refine vl_val (os_assign rfl) ?_
      refine vl_nil ?_
      refine v_ret ?_
      exact post_ret rfl rfl (⟨by simp [rightB]; simp [betw] at c2; omega, hbel⟩)
    · refine v_seq ?_
      refine v_region ?_
      refine vl_val (os_box rfl) ?_
      refine vl_val (os_assign rfl) ?_
      refine vl_nil ?_
      refine v_seq ?_
      refine v_region ?_
      refine vl_val (os_fa (o := 0) (k := 0) (by kernel_rfl) rfl) ?_
      refine vl_val (os_load Try.isAgg3 rfl (hB.cell rfl)) ?_
      refine vl_call (gives_bool (size_between n 1 255 _) c1) rfl ?_
      rintro v w' ⟨rfl, rfl⟩
      refine vl_val (os_move rfl) ?_
      refine vl_valg rfl (os_fa (o := 1) (k := 0) (by kernel_rfl) rfl) ?_
      refine vl_valg rfl (os_load Try.isAgg3 rfl (hB.cell rfl)) ?_
      refine vl_callg rfl (gives_bool (size_between m 64 1500 _) c2) rfl ?_
      rintro v w' ⟨rfl, rfl⟩
      refine vl_val (os_pick_t rfl rfl) ?_
      refine vl_val (os_move rfl) ?_
      refine vl_valg rfl (os_fa (o := 2) (k := 0) (by kernel_rfl) rfl) ?_
      refine vl_valg rfl (os_load Try.isAgg3 rfl (hB.cell rfl)) ?_
      refine vl_callg rfl (size_between b 1 524288 _) rfl ?_
      rintro v w' ⟨rfl, rfl⟩
      refine vl_val (os_pick_t rfl rfl) ?_
      refine vl_val (os_assign rfl) ?_
      refine vl_nil ?_
      refine v_ret ?_
      exact post_ret rfl rfl (⟨by simp [betw] at c1 c2; simp [rightB, betw, c1, c2], hbel⟩)

theorem right_bd {n m b : Int} (h : rightB n m b = true) : 1 ≤ n ∧ n ≤ 255 ∧ 64 ≤ m ∧ m ≤ 1500 ∧ 1 ≤ b ∧ b ≤ 524288 := by simpa [rightB] using h

theorem size_Room (n m b l : Int) (w : World) : Gives Try.prog 53 #[.agg #[.int .i64 n, .int .i64 m, .int .i64 b], .int .i64 l] w fun v w' => v = .tuple #[.int .i64 (roomV n m b l), .int .i64 (errE (roomOk n m b l))] ∧ Below w.heap.size w w' := by
  have hbel : Below w.heap.size w (w.alloc (.cells #[.int .i64 n, .int .i64 m, .int .i64 b] 75)) := (Below.refl _ w).alloc (Nat.le_refl _) _
  have hB := bk_new w [.int .i64 n, .int .i64 m, .int .i64 b] 75
  refine gives_enter Try.call53 Try.func53 rfl rfl rfl (by kernel_rfl) ?_
  cases c1 : rightB n m b
  · refine v_seq ?_
    refine v_region ?_
    refine vl_val (os_box rfl) ?_
    refine vl_val (os_assign rfl) ?_
    refine vl_val (os_assign rfl) ?_
    refine vl_nil ?_
    refine v_seq ?_
    refine v_seq ?_
    refine v_region ?_
    refine vl_val (os_loadB Try.underlying75 rfl (by kernel_rfl) rfl (hB)) ?_
    refine vl_call (gives_boolb (size_Right n m b _) c1) rfl ?_
    rintro v w1 ⟨rfl, hb1⟩
    have hbel1 := hbel.trans (hb1.mono (by simp))
    refine vl_val (os_not rfl) ?_
    refine vl_val (os_move rfl) ?_
    refine vl_skip rfl rfl ?_
    refine vl_skip rfl rfl ?_
    refine vl_skip rfl rfl ?_
    refine vl_val (os_pick_t rfl rfl) ?_
    refine vl_nil ?_
    refine v_cond_t rfl ?_
    refine v_seq ?_
    refine v_region ?_
    refine vl_val (os_assign rfl) ?_
    refine vl_val (os_assign rfl) ?_
    refine vl_nil ?_
    refine v_ret ?_
    exact post_ret2 rfl rfl rfl (⟨by simp [roomV, roomOk, c1, errE], hbel1⟩)
  · cases c2 : betw l 1 8
    · refine v_seq ?_
      refine v_region ?_
      refine vl_val (os_box rfl) ?_
      refine vl_val (os_assign rfl) ?_
      refine vl_val (os_assign rfl) ?_
      refine vl_nil ?_
      refine v_seq ?_
      refine v_seq ?_
      refine v_region ?_
      refine vl_val (os_loadB Try.underlying75 rfl (by kernel_rfl) rfl (hB)) ?_
      refine vl_call (gives_boolb (size_Right n m b _) c1) rfl ?_
      rintro v w1 ⟨rfl, hb1⟩
      have hbel1 := hbel.trans (hb1.mono (by simp))
      refine vl_val (os_not rfl) ?_
      refine vl_val (os_move rfl) ?_
      refine vl_valg rfl (os_move rfl) ?_
      refine vl_callg rfl (gives_bool (size_between l 1 8 _) c2) rfl ?_
      rintro v w' ⟨rfl, rfl⟩
      refine vl_valg rfl (os_not rfl) ?_
      refine vl_val (os_pick_f rfl rfl) ?_
      refine vl_nil ?_
      refine v_cond_t rfl ?_
      refine v_seq ?_
      refine v_region ?_
      refine vl_val (os_assign rfl) ?_
      refine vl_val (os_assign rfl) ?_
      refine vl_nil ?_
      refine v_ret ?_
      exact post_ret2 rfl rfl rfl (⟨by simp [roomV, roomOk, c1, c2, errE], hbel1⟩)
    · refine v_seq ?_
      refine v_region ?_
      refine vl_val (os_box rfl) ?_
      refine vl_val (os_assign rfl) ?_
      refine vl_val (os_assign rfl) ?_
      refine vl_nil ?_
      refine v_seq ?_
      refine v_seq ?_
      refine v_region ?_
      refine vl_val (os_loadB Try.underlying75 rfl (by kernel_rfl) rfl (hB)) ?_
      refine vl_call (gives_boolb (size_Right n m b _) c1) rfl ?_
      rintro v w1 ⟨rfl, hb1⟩
      have hbel1 := hbel.trans (hb1.mono (by simp))
      refine vl_val (os_not rfl) ?_
      refine vl_val (os_move rfl) ?_
      refine vl_valg rfl (os_move rfl) ?_
      refine vl_callg rfl (gives_bool (size_between l 1 8 _) c2) rfl ?_
      rintro v w' ⟨rfl, rfl⟩
      have hB1 := hB.keep hb1
      have hr := right_bd c1
      have hl : 1 ≤ l ∧ l ≤ 8 := by simpa [betw] using c2
      have hd := Int.ediv_nonneg (show 0 ≤ b by omega) (show 0 ≤ n by omega)
      have hd2 := Int.ediv_le_self n (show 0 ≤ b by omega)
      refine vl_valg rfl (os_not rfl) ?_
      refine vl_val (os_pick_f rfl rfl) ?_
      refine vl_nil ?_
      refine v_cond_f rfl ?_
      refine v_skip ?_
      refine v_seq ?_
      refine v_region_t LeD _ mixed (by kernel_rfl) lee_d (led_start _) ?_
      refine vt_val (fun w hw => os_fa (o := 1) (k := 0) (by kernel_rfl) rfl) ?_
      refine vt_val (fun w hw => os_load Try.isAgg3 rfl (led_cell hw (hB1.cell rfl))) ?_
      refine vt_val (fun w hw => os_fa (o := 2) (k := 0) (by kernel_rfl) rfl) ?_
      refine vt_val (fun w hw => os_load Try.isAgg3 rfl (led_cell hw (hB1.cell rfl))) ?_
      refine vt_val (fun w hw => os_fa (o := 0) (k := 0) (by kernel_rfl) rfl) ?_
      refine vt_val (fun w hw => os_load Try.isAgg3 rfl (led_cell hw (hB1.cell rfl))) ?_
      refine vt_val (fun w hw => os_quoi rfl rfl (by omega)) ?_
      refine vt_val (fun w hw => os_min rfl rfl) ?_
      refine vt_val (fun w hw => os_subi rfl rfl (by omega)) ?_
      refine vt_val (fun w hw => os_move rfl) ?_
      refine vt_val (fun w hw => os_muli rfl rfl (by omega)) ?_
      refine vt_val (fun w hw => os_subi rfl rfl (by omega)) ?_
      refine vt_val (fun w hw => os_max rfl rfl) ?_
      refine vt_val (fun w hw => os_assign rfl) ?_
      refine vt_val (fun w hw => os_assign rfl) ?_
      refine vt_nil (fun w hw => ?_)
      obtain ⟨q, rfl⟩ := hw
      refine v_ret ?_
      exact post_ret2 rfl rfl rfl (⟨by simp [roomV, roomOk, c1, c2, errE, roomW], below_drewN_ hbel1 q⟩)

theorem size_lengths_fn (z : Int) (w : World) : Gives Try.prog 133 #[.int .i64 z] w fun v w' => v = .bool (!betw z 0 65535) ∧ w' = w := by
  refine gives_enter Try.call133 Try.func133 rfl rfl rfl (by kernel_rfl) ?_
  refine v_seq ?_
  refine v_region ?_
  refine vl_val (os_assign rfl) ?_
  refine vl_nil ?_
  refine v_seq ?_
  refine v_region ?_
  refine vl_val (os_move rfl) ?_
  refine vl_call (size_between z 0 65535 _) rfl ?_
  rintro v w' ⟨rfl, rfl⟩
  refine vl_val (os_not rfl) ?_
  refine vl_val (os_assign rfl) ?_
  refine vl_nil ?_
  refine v_ret ?_
  exact post_ret rfl rfl (⟨rfl, rfl⟩)

theorem g_ContainsFunc (A : Option Addr) (n c : Nat) (zs : List Int) (f : FuncId) (p : Int → Bool) (w : World) (ha : Rd w .i64 A zs) (hn : n = zs.length) (hn' : n ≤ 9223372036854775807)
    (hcall : ∀ k q, k < zs.length → Gives Try.prog f #[.int .i64 (zs.getD k 0)] (w.drewN q) fun v w' => v = .bool (p (zs.getD k 0)) ∧ w' = w.drewN q) (hent : Enters Try.prog f) :
    Gives Try.prog 110 #[.slice A n c, .func (.func f) #[] #[]] w fun v w' => v = .bool (zs.any p) ∧ LeD w w' :=
  gives_of Try.call110 (containsFunc_ints A n c zs f #[] p w hent ha hn hn' fun k q hk => (hcall k q hk).calls fun v w' ⟨h1, h2⟩ => ⟨by rw [h1], q, h2⟩) fun e w' ⟨h1, h2⟩ => ⟨_, h1, rfl, h2⟩

theorem size_lengths (A : Option Addr) (n c : Nat) (zs : List Int) (w : World) (ha : Rd w .i64 A zs) (hn : n = zs.length) (hn' : n ≤ 9223372036854775807) :
    Gives Try.prog 92 #[.slice A n c] w fun v w' => v = .bool (lensB zs) ∧ LeD w w' := by
  refine gives_enter Try.call92 Try.func92 rfl rfl rfl (by kernel_rfl) ?_
  cases c1 : betw n 1 8
  · refine v_seq ?_
    refine v_region ?_
    refine vl_val (os_assign rfl) ?_
    refine vl_nil ?_
    refine v_seq ?_
    refine v_region ?_
    refine vl_val (os_assign rfl) ?_
    refine vl_nil ?_
    refine v_seq ?_
    refine v_region ?_
    refine vl_val (os_move rfl) ?_
    refine vl_val (os_len Try.underlying40 rfl) ?_
    refine vl_call (gives_bool (size_between n 1 8 _) c1) rfl ?_
    rintro v w' ⟨rfl, rfl⟩
    refine vl_val (os_move rfl) ?_
    refine vl_skip rfl rfl ?_
    refine vl_skip rfl rfl ?_
    refine vl_skip rfl rfl ?_
    refine vl_skip rfl rfl ?_
    refine vl_val (os_pick_f rfl rfl) ?_
    refine vl_val (os_assign rfl) ?_
    refine vl_nil ?_
    refine v_ret ?_
    exact post_ret rfl rfl (⟨by simp [lensB, ← hn, c1], lee_d.refl _⟩)
  · refine v_seq ?_
    refine v_region ?_
    refine vl_val (os_assign rfl) ?_
    refine vl_nil ?_
    refine v_seq ?_
    refine v_region ?_
    refine vl_val (os_assign rfl) ?_
    refine vl_nil ?_
    refine v_seq ?_
    refine v_region ?_
    refine vl_val (os_move rfl) ?_
    refine vl_val (os_len Try.underlying40 rfl) ?_
    refine vl_call (gives_bool (size_between n 1 8 _) c1) rfl ?_
    rintro v w' ⟨rfl, rfl⟩
    refine vl_val (os_move rfl) ?_
    refine vl_valg rfl (os_move rfl) ?_
    refine vl_valg rfl (os_move rfl) ?_
    refine vl_callg rfl (g_ContainsFunc A n c zs _ (fun z => !betw z 0 65535) _ ha hn hn' (fun k q _ => size_lengths_fn _ _) Try.call133) rfl ?_
    rintro v w' ⟨rfl, hw⟩
    refine vl_valg rfl (os_not rfl) ?_
    refine vl_val (os_pick_t rfl rfl) ?_
    refine vl_val (os_assign rfl) ?_
    refine vl_nil ?_
    refine v_ret ?_
    exact post_ret rfl rfl (⟨by simp [lensB, ← hn, c1], hw⟩)

theorem cmp_isNaN (x : Int) (w : World) : Gives Try.prog 128 #[.int .i64 x] w fun v w' => v = .bool false ∧ w' = w := by
  refine gives_enter Try.call128 Try.func128 rfl rfl rfl (by kernel_rfl) ?_
  refine v_seq ?_
  refine v_region ?_
  refine vl_val (os_assign rfl) ?_
  refine vl_nil ?_
  refine v_seq ?_
  refine v_region ?_
  refine vl_val (os_move rfl) ?_
  refine vl_val (os_move rfl) ?_
  refine vl_val (os_f (os_neq rfl rfl) (by simp)) ?_
  refine vl_val (os_assign rfl) ?_
  refine vl_nil ?_
  refine v_ret ?_
  exact post_ret rfl rfl (⟨rfl, rfl⟩)
theorem cmp_Less (x y : Int) (w : World) : Gives Try.prog 134 #[.int .i64 x, .int .i64 y] w fun v w' => v = .bool (decide (x < y)) ∧ w' = w := by
  refine gives_enter Try.call134 Try.func134 rfl rfl rfl (by kernel_rfl) ?_
  refine v_seq ?_
  refine v_region ?_
  refine vl_val (os_assign rfl) ?_
  refine vl_nil ?_
  refine v_seq ?_
  refine v_region ?_
  refine vl_val (os_move rfl) ?_
  refine vl_call (cmp_isNaN x _) rfl ?_
  rintro v w' ⟨rfl, rfl⟩
  refine vl_val (os_move rfl) ?_
  refine vl_skip rfl rfl ?_
  refine vl_skip rfl rfl ?_
  refine vl_skip rfl rfl ?_
  refine vl_val (os_pick_f rfl rfl) ?_
  refine vl_val (os_move rfl) ?_
  refine vl_valg rfl (os_move rfl) ?_
  refine vl_valg rfl (os_move rfl) ?_
  refine vl_valg rfl (os_lss rfl rfl) ?_
  refine vl_val (os_pick_f rfl rfl) ?_
  refine vl_val (os_assign rfl) ?_
  refine vl_nil ?_
  refine v_ret ?_
  exact post_ret rfl rfl (⟨rfl, rfl⟩)

theorem slices_IsSorted (A : Option Addr) (n c : Nat) (zs : List Int) (w : World) (ha : Rd w .i64 A zs) (hn : n = zs.length) (hn' : n ≤ 9223372036854775807) :
    Gives Try.prog 93 #[.slice A n c] w fun v w' => v = .bool (sortedB zs) ∧ LeD w w' := by
  refine gives_enter Try.call93 Try.func93 rfl rfl rfl (by kernel_rfl) ?_
  refine v_seq ?_
  refine v_region ?_
  refine vl_val (os_assign rfl) ?_
  refine vl_nil ?_
  refine v_seq ?_
  refine v_seq ?_
  refine v_region ?_
  refine vl_val (os_move rfl) ?_
  refine vl_val (os_len Try.underlying40 rfl) ?_
  refine vl_val (os_subi rfl rfl (by omega)) ?_
  refine vl_val (os_assign rfl) ?_
  refine vl_nil ?_
  refine v_block ?_
  refine v_loop [(0, _)] (fun (k : Nat) => [(3, .int .i64 ((k : Int) - 1))]) (fun k w' => k ≤ n ∧ (∀ i, k ≤ i + 1 → i + 1 < zs.length → zs.getD i 0 ≤ zs.getD (i + 1) 0) ∧ LeD w w') (fun k => k) (n) ⟨rfl, trivial⟩ ⟨rfl, trivial⟩ (⟨by omega, fun i h1 h2 => by omega, lee_d.refl _⟩) ?_
  rintro k w' ⟨hk, hs, q, rfl⟩
  refine v_seq ?_
  refine v_seq ?_
  refine v_region ?_
  refine vl_val (os_move rfl) ?_
  refine vl_val (os_gtr rfl rfl) ?_
  refine vl_nil ?_
  refine v_cond_d rfl (fun hlt => ?_) (fun hlt => ?_)
  · obtain ⟨j, rfl⟩ : ∃ j, k = j + 2 := ⟨k - 2, by omega⟩
    obtain ⟨b1, o1, hA, c1⟩ := (ha.drewN q).at_ (i := j + 1) (by omega)
    obtain ⟨b2, o2, hA2, c2⟩ := (ha.drewN q).at_ (i := j) (by omega)
    subst hA
    cases hA2
    refine v_skip ?_
    refine v_seq ?_
    refine v_block ?_
    refine v_seq ?_
    refine v_region_t LeD _ mixed (by kernel_rfl) lee_d (led_start _) ?_
    refine vt_val (fun w hw => os_move rfl) ?_
    refine vt_val (fun w hw => os_move rfl) ?_
    refine vt_val (fun w hw => os_ix Try.underlying40 Try.sizeOf3 rfl rfl (i := j + 1) (by omega) (by omega)) ?_
    refine vt_val (fun w hw => os_load Try.isAgg3 rfl (led_cell hw (c1))) ?_
    refine vt_val (fun w hw => os_move rfl) ?_
    refine vt_val (fun w hw => os_move rfl) ?_
    refine vt_val (fun w hw => os_subi rfl rfl (by omega)) ?_
    refine vt_val (fun w hw => os_ix Try.underlying40 Try.sizeOf3 rfl rfl (i := j) (by omega) (by omega)) ?_
    refine vt_val (fun w hw => os_load Try.isAgg3 rfl (led_cell hw (c2))) ?_
    refine vt_call (v := _) (fun w hw => (cmp_Less (zs.getD (j + 1) 0) (zs.getD j 0) w).mono fun v w' h => ⟨h.1, by rw [h.2]; exact lee_d.refl _⟩) rfl ?_
    refine vt_nil (fun w hw => ?_)
    obtain ⟨q2, rfl⟩ := hw
    refine v_cond_d rfl (fun hlt2 => ?_) (fun hlt2 => ?_)
    · refine v_seq ?_
      refine v_region ?_
      refine vl_val (os_assign rfl) ?_
      refine vl_nil ?_
      refine v_ret ?_
      exact post_ret rfl rfl (⟨by rw [sortedB, decide_eq_false]; intro h; have := h j (by omega) (by omega); omega, _, World.drewN_drewN ..⟩)
    · refine v_skip ?_
      refine v_region ?_
      refine vl_val (os_move rfl) ?_
      refine vl_val (os_subi rfl rfl (by omega)) ?_
      refine vl_val (os_assign rfl) ?_
      refine vl_nil ?_
      exact ⟨j + 1, ⟨rfl, trivial⟩, ⟨get_int rfl (by omega), trivial⟩, ⟨by omega, fun i h1 h2 => if hi : i = j then (by subst hi; omega) else hs i (by omega) h2, _, World.drewN_drewN ..⟩, by dsimp only; omega⟩
  · refine v_exit ?_
    refine v_seq ?_
    refine v_region ?_
    refine vl_val (os_assign rfl) ?_
    refine vl_nil ?_
    refine v_ret ?_
    exact post_ret rfl rfl (⟨by rw [sortedB, decide_eq_true]; intro i h1 h2; exact hs i (by omega) h2, _, rfl⟩)
end Go.Proofs.Ytpjmiafefammkaa
