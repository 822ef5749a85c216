/- Texts joined: NtU V6. -/
import Derived.Test.YthaifamjgcfkaaaM12
import Derived.OrdersHeld
/- Layer 15: the document's reports: whether one is right; what bytes are as one. -/
namespace Go.Proofs.Ythaifamjgcfkaaa
open Go.RowKit
set_option linter.unusedVariables false

set_option maxHeartbeats 4000000 in
theorem ref15_Right (d : NoteV) (w : World) (hd : NoteOk w d) : Gives Try.prog 86 #[.agg d.cells.toArray] w fun v w' => v = .bool (rightN d) ∧ Below w.heap.size w w' := by
  have hl := hd.2.1
  have hl9 := hd.2.2.1
  have hB0 := bk_new w d.cells 28
  have hb0 : Below w.heap.size w (w.alloc (.cells d.cells.toArray 28)) := (Below.refl _ w).alloc (Nat.le_refl _) _
  refine gives_enter Try.call86 Try.func86 rfl rfl rfl (by kernel_rfl) ?_
  by_cases c0 : 0 ≤ d.st
  · by_cases c1 : d.st ≤ 65535
    · by_cases c2 : 1 ≤ d.sq
      · by_cases c3 : d.sq ≤ 2147483647
        · by_cases c4 : 1 ≤ d.n
          · by_cases c5 : d.n ≤ 255
            · refine v_seq ?_
              refine v_region ?_
              refine vl_val (os_box rfl) ?_
              refine vl_val (os_assign rfl) ?_
              refine vl_nil ?_
              refine v_seq ?_
              refine v_seq ?_
              refine v_region ?_
              refine vl_val (os_fa (o := 0) (k := 0) (by kernel_rfl) rfl) ?_
              refine vl_val (os_load Try.isAgg3 rfl (hB0.cell (i := 0) rfl)) ?_
              refine vl_val (os_f (os_lss rfl rfl) (by omega)) ?_
              refine vl_val (os_move rfl) ?_
              refine vl_valg rfl (os_fa (o := 0) (k := 0) (by kernel_rfl) rfl) ?_
              refine vl_valg rfl (os_load Try.isAgg3 rfl (hB0.cell (i := 0) rfl)) ?_
              refine vl_valg rfl (os_f (os_gtr rfl rfl) (by omega)) ?_
              refine vl_val (os_pick_f rfl rfl) ?_
              refine vl_val (os_move rfl) ?_
              refine vl_valg rfl (os_fa (o := 1) (k := 0) (by kernel_rfl) rfl) ?_
              refine vl_valg rfl (os_load Try.isAgg3 rfl (hB0.cell (i := 1) rfl)) ?_
              refine vl_valg rfl (os_f (os_lss rfl rfl) (by omega)) ?_
              refine vl_val (os_pick_f rfl rfl) ?_
              refine vl_val (os_move rfl) ?_
              refine vl_valg rfl (os_fa (o := 1) (k := 0) (by kernel_rfl) rfl) ?_
              refine vl_valg rfl (os_load Try.isAgg3 rfl (hB0.cell (i := 1) rfl)) ?_
              refine vl_valg rfl (os_f (os_gtr rfl rfl) (by omega)) ?_
              refine vl_val (os_pick_f rfl rfl) ?_
              refine vl_val (os_move rfl) ?_
              refine vl_valg rfl (os_fa (o := 2) (k := 0) (by kernel_rfl) rfl) ?_
              refine vl_valg rfl (os_load Try.isAgg3 rfl (hB0.cell (i := 2) rfl)) ?_
              refine vl_valg rfl (os_f (os_lss rfl rfl) (by omega)) ?_
              refine vl_val (os_pick_f rfl rfl) ?_
              refine vl_val (os_move rfl) ?_
              refine vl_valg rfl (os_fa (o := 2) (k := 0) (by kernel_rfl) rfl) ?_
              refine vl_valg rfl (os_load Try.isAgg3 rfl (hB0.cell (i := 2) rfl)) ?_
              refine vl_valg rfl (os_gtr rfl rfl) ?_
              refine vl_val (os_pick_f rfl rfl) ?_
              refine vl_nil ?_
              refine v_cond_no rfl (by omega) ?_
              refine v_skip ?_
              refine v_seq ?_
              refine v_seq ?_
              refine v_region ?_
              refine vl_val (os_assign rfl) ?_
              refine vl_nil ?_
              refine v_block ?_
              refine v_loop [(1, _)] (fun (i : Nat) => [(3, .int .i64 i)]) (fun i w' => i ≤ d.l ∧ 0 ≤ lastC d.cs i ∧ cntOk d.n 0 d.cs = cntOk d.n (lastC d.cs i) (d.cs.drop i) ∧ LeG (w.alloc (.cells d.cells.toArray 28)) w') (fun i => d.l - i) (0) ⟨rfl, trivial⟩ ⟨rfl, trivial⟩ (⟨by omega, by simp [lastC], rfl, lee_g.refl _⟩) ?_
              rintro i w1 ⟨hi, hz0, hg, b1⟩
              have hN1 := hB0.keep b1
              refine v_seq ?_
              refine v_seq ?_
              refine v_region ?_
              refine vl_val (os_move rfl) ?_
              refine vl_val (os_fa (o := 3) (k := 0) (by kernel_rfl) rfl) ?_
              refine vl_val (os_load Try.isAgg26 rfl (hN1.cell (i := 3) rfl)) ?_
              refine vl_val (os_len Try.underlying26 rfl) ?_
              refine vl_val (os_lss rfl rfl) ?_
              refine vl_nil ?_
              refine v_cond_d rfl (fun h => ?_) (fun h => ?_)
              · obtain ⟨b, o, eA, q1, q2, q3⟩ := (show RdP w1 2 d.A (d.cs.map rowC) from (hd.keep hb0).1.keep b1).at2 (i := i) (by omega)
                have hst := cnt_step (n := d.n) (cs := d.cs) (i := i) (last := lastC d.cs i) (by omega)
                refine v_skip ?_
                refine v_seq ?_
                refine v_block ?_
                refine v_seq ?_
                refine v_region ?_
                refine vl_val (os_fa (o := 3) (k := 0) (by kernel_rfl) rfl) ?_
                refine vl_val (os_load Try.isAgg26 rfl (hN1.cell (i := 3) rfl)) ?_
                refine vl_val (os_move rfl) ?_
                refine vl_val (os_ixs Try.underlying26 Try.sizeOf42 (by rw [eA]; rfl) rfl (i := i) (by omega) (by omega)) ?_
                refine vl_val (os_loadP Try.underlying42 rfl (by kernel_rfl) rfl q3) ?_
                refine vl_val (os_allocB Try.zeroValue42 (zc := _) (cs := [.int .i64 0, .int .i64 0]) rfl) ?_
                have hC0 := bk_new w1 [.int .i64 0, .int .i64 0] 42
                have b2 := Below.alloc b1 (Below.size b1) (.cells [Value.int .i64 0, .int .i64 0].toArray 42)
                refine vl_unit (ou_storeB (by kernel_rfl) rfl rfl hC0 rfl rfl) ?_
                have hC := setRow_bk hC0 (rowC (d.cs.getD i (0, 0)))
                have b3 := below_setRow b2 (Below.size b1) (rowC (d.cs.getD i (0, 0))).toArray
                have hD := hB0.keep b3
                generalize hW5 : (w1.alloc (.cells [Value.int .i64 0, .int .i64 0].toArray 42)).setRow w1.heap.size (rowC (d.cs.getD i (0, 0))).toArray = W5 at *
                obtain ⟨X, hX⟩ : ∃ X, (d.cs.getD i (0, 0)).1 = X := ⟨_, rfl⟩
                obtain ⟨Y, hY⟩ : ∃ Y, (d.cs.getD i (0, 0)).2 = Y := ⟨_, rfl⟩
                rw [hX, hY] at hst
                unfold rowC at hC
                rw [hX, hY] at hC
                refine vl_nil ?_
                rcases (by omega : X < 1 ∨ (1 ≤ X ∧ d.n < X) ∨ (1 ≤ X ∧ X ≤ d.n ∧ Y < 1) ∨ (1 ≤ X ∧ X ≤ d.n ∧ 1 ≤ Y ∧ 65535 < Y) ∨ (1 ≤ X ∧ X ≤ d.n ∧ 1 ≤ Y ∧ Y ≤ 65535)) with g | ⟨g, g2⟩ | ⟨g, g2, g3⟩ | ⟨g, g2, g3, g4⟩ | ⟨g, g2, g3, g4⟩
                · refine v_seq ?_
                  refine v_region_t LeD _ mixed (by kernel_rfl) lee_d (led_start _) ?_
                  refine vt_val (fun w hw => os_fa (o := 0) (k := 0) (by kernel_rfl) rfl) ?_
                  refine vt_val (fun w hw => os_load Try.isAgg3 rfl (led_cell hw (hC.cell (i := 0) rfl))) ?_
                  refine vt_val (fun w hw => os_t (os_lss rfl rfl) (by omega)) ?_
                  refine vt_val (fun w hw => os_move rfl) ?_
                  refine vt_skip rfl rfl ?_
                  refine vt_skip rfl rfl ?_
                  refine vt_skip rfl rfl ?_
                  refine vt_skip rfl rfl ?_
                  refine vt_skip rfl rfl ?_
                  refine vt_val (fun w hw => os_pick_t rfl rfl) ?_
                  refine vt_val (fun w hw => os_move rfl) ?_
                  refine vt_skip rfl rfl ?_
                  refine vt_skip rfl rfl ?_
                  refine vt_skip rfl rfl ?_
                  refine vt_val (fun w hw => os_pick_t rfl rfl) ?_
                  refine vt_val (fun w hw => os_move rfl) ?_
                  refine vt_skip rfl rfl ?_
                  refine vt_skip rfl rfl ?_
                  refine vt_skip rfl rfl ?_
                  refine vt_val (fun w hw => os_pick_t rfl rfl) ?_
                  refine vt_val (fun w hw => os_move rfl) ?_
                  refine vt_skip rfl rfl ?_
                  refine vt_skip rfl rfl ?_
                  refine vt_skip rfl rfl ?_
                  refine vt_skipu rfl ?_
                  refine vt_skipu rfl ?_
                  refine vt_skipu rfl ?_
                  refine vt_skipu rfl ?_
                  refine vt_skipu rfl ?_
                  refine vt_skipu rfl ?_
                  refine vt_skipu rfl ?_
                  refine vt_skipu rfl ?_
                  refine vt_skipu rfl ?_
                  refine vt_skipu rfl ?_
                  refine vt_skip rfl rfl ?_
                  refine vt_val (fun w hw => os_pick_t rfl rfl) ?_
                  refine vt_nil (fun w hw => ?_)
                  obtain ⟨q, rfl⟩ := hw
                  refine v_cond_t rfl ?_
                  refine v_seq ?_
                  refine v_region ?_
                  refine vl_val (os_assign rfl) ?_
                  refine vl_nil ?_
                  refine v_ret ?_
                  exact post_ret rfl rfl (⟨by rw [show rightN d = false by unfold rightN; rw [hg, hst, show inB X (lastC d.cs i + 1) d.n = false by simp [inB]; omega]; simp], hb0.trans (Below.mono (below_drewN_ b3 q) hb0.size)⟩)
                · refine v_seq ?_
                  refine v_region_t LeD _ mixed (by kernel_rfl) lee_d (led_start _) ?_
                  refine vt_val (fun w hw => os_fa (o := 0) (k := 0) (by kernel_rfl) rfl) ?_
                  refine vt_val (fun w hw => os_load Try.isAgg3 rfl (led_cell hw (hC.cell (i := 0) rfl))) ?_
                  refine vt_val (fun w hw => os_f (os_lss rfl rfl) (by omega)) ?_
                  refine vt_val (fun w hw => os_move rfl) ?_
                  refine vt_valg rfl (fun w hw => os_fa (o := 0) (k := 0) (by kernel_rfl) rfl) ?_
                  refine vt_valg rfl (fun w hw => os_load Try.isAgg3 rfl (led_cell hw (hC.cell (i := 0) rfl))) ?_
                  refine vt_valg rfl (fun w hw => os_fa (o := 2) (k := 0) (by kernel_rfl) rfl) ?_
                  refine vt_valg rfl (fun w hw => os_load Try.isAgg3 rfl (led_cell hw (hD.cell (i := 2) rfl))) ?_
                  refine vt_valg rfl (fun w hw => os_t (os_gtr rfl rfl) (by omega)) ?_
                  refine vt_val (fun w hw => os_pick_f rfl rfl) ?_
                  refine vt_val (fun w hw => os_move rfl) ?_
                  refine vt_skip rfl rfl ?_
                  refine vt_skip rfl rfl ?_
                  refine vt_skip rfl rfl ?_
                  refine vt_val (fun w hw => os_pick_t rfl rfl) ?_
                  refine vt_val (fun w hw => os_move rfl) ?_
                  refine vt_skip rfl rfl ?_
                  refine vt_skip rfl rfl ?_
                  refine vt_skip rfl rfl ?_
                  refine vt_val (fun w hw => os_pick_t rfl rfl) ?_
                  refine vt_val (fun w hw => os_move rfl) ?_
                  refine vt_skip rfl rfl ?_
                  refine vt_skip rfl rfl ?_
                  refine vt_skip rfl rfl ?_
                  refine vt_skipu rfl ?_
                  refine vt_skipu rfl ?_
                  refine vt_skipu rfl ?_
                  refine vt_skipu rfl ?_
                  refine vt_skipu rfl ?_
                  refine vt_skipu rfl ?_
                  refine vt_skipu rfl ?_
                  refine vt_skipu rfl ?_
                  refine vt_skipu rfl ?_
                  refine vt_skipu rfl ?_
                  refine vt_skip rfl rfl ?_
                  refine vt_val (fun w hw => os_pick_t rfl rfl) ?_
                  refine vt_nil (fun w hw => ?_)
                  obtain ⟨q, rfl⟩ := hw
                  refine v_cond_t rfl ?_
                  refine v_seq ?_
                  refine v_region ?_
                  refine vl_val (os_assign rfl) ?_
                  refine vl_nil ?_
                  refine v_ret ?_
                  exact post_ret rfl rfl (⟨by rw [show rightN d = false by unfold rightN; rw [hg, hst, show inB X (lastC d.cs i + 1) d.n = false by simp [inB]; omega]; simp], hb0.trans (Below.mono (below_drewN_ b3 q) hb0.size)⟩)
                · refine v_seq ?_
                  refine v_region_t LeD _ mixed (by kernel_rfl) lee_d (led_start _) ?_
                  refine vt_val (fun w hw => os_fa (o := 0) (k := 0) (by kernel_rfl) rfl) ?_
                  refine vt_val (fun w hw => os_load Try.isAgg3 rfl (led_cell hw (hC.cell (i := 0) rfl))) ?_
                  refine vt_val (fun w hw => os_f (os_lss rfl rfl) (by omega)) ?_
                  refine vt_val (fun w hw => os_move rfl) ?_
                  refine vt_valg rfl (fun w hw => os_fa (o := 0) (k := 0) (by kernel_rfl) rfl) ?_
                  refine vt_valg rfl (fun w hw => os_load Try.isAgg3 rfl (led_cell hw (hC.cell (i := 0) rfl))) ?_
                  refine vt_valg rfl (fun w hw => os_fa (o := 2) (k := 0) (by kernel_rfl) rfl) ?_
                  refine vt_valg rfl (fun w hw => os_load Try.isAgg3 rfl (led_cell hw (hD.cell (i := 2) rfl))) ?_
                  refine vt_valg rfl (fun w hw => os_f (os_gtr rfl rfl) (by omega)) ?_
                  refine vt_val (fun w hw => os_pick_f rfl rfl) ?_
                  refine vt_val (fun w hw => os_move rfl) ?_
                  refine vt_valg rfl (fun w hw => os_fa (o := 1) (k := 0) (by kernel_rfl) rfl) ?_
                  refine vt_valg rfl (fun w hw => os_load Try.isAgg3 rfl (led_cell hw (hC.cell (i := 1) rfl))) ?_
                  refine vt_valg rfl (fun w hw => os_t (os_lss rfl rfl) (by omega)) ?_
                  refine vt_val (fun w hw => os_pick_f rfl rfl) ?_
                  refine vt_val (fun w hw => os_move rfl) ?_
                  refine vt_skip rfl rfl ?_
                  refine vt_skip rfl rfl ?_
                  refine vt_skip rfl rfl ?_
                  refine vt_val (fun w hw => os_pick_t rfl rfl) ?_
                  refine vt_val (fun w hw => os_move rfl) ?_
                  refine vt_skip rfl rfl ?_
                  refine vt_skip rfl rfl ?_
                  refine vt_skip rfl rfl ?_
                  refine vt_skipu rfl ?_
                  refine vt_skipu rfl ?_
                  refine vt_skipu rfl ?_
                  refine vt_skipu rfl ?_
                  refine vt_skipu rfl ?_
                  refine vt_skipu rfl ?_
                  refine vt_skipu rfl ?_
                  refine vt_skipu rfl ?_
                  refine vt_skipu rfl ?_
                  refine vt_skipu rfl ?_
                  refine vt_skip rfl rfl ?_
                  refine vt_val (fun w hw => os_pick_t rfl rfl) ?_
                  refine vt_nil (fun w hw => ?_)
                  obtain ⟨q, rfl⟩ := hw
                  refine v_cond_t rfl ?_
                  refine v_seq ?_
                  refine v_region ?_
                  refine vl_val (os_assign rfl) ?_
                  refine vl_nil ?_
                  refine v_ret ?_
                  exact post_ret rfl rfl (⟨by rw [show rightN d = false by unfold rightN; rw [hg, hst, show inB Y 1 65535 = false by simp [inB]; omega]; simp], hb0.trans (Below.mono (below_drewN_ b3 q) hb0.size)⟩)
                · refine v_seq ?_
                  refine v_region_t LeD _ mixed (by kernel_rfl) lee_d (led_start _) ?_
                  refine vt_val (fun w hw => os_fa (o := 0) (k := 0) (by kernel_rfl) rfl) ?_
                  refine vt_val (fun w hw => os_load Try.isAgg3 rfl (led_cell hw (hC.cell (i := 0) rfl))) ?_
                  refine vt_val (fun w hw => os_f (os_lss rfl rfl) (by omega)) ?_
                  refine vt_val (fun w hw => os_move rfl) ?_
                  refine vt_valg rfl (fun w hw => os_fa (o := 0) (k := 0) (by kernel_rfl) rfl) ?_
                  refine vt_valg rfl (fun w hw => os_load Try.isAgg3 rfl (led_cell hw (hC.cell (i := 0) rfl))) ?_
                  refine vt_valg rfl (fun w hw => os_fa (o := 2) (k := 0) (by kernel_rfl) rfl) ?_
                  refine vt_valg rfl (fun w hw => os_load Try.isAgg3 rfl (led_cell hw (hD.cell (i := 2) rfl))) ?_
                  refine vt_valg rfl (fun w hw => os_f (os_gtr rfl rfl) (by omega)) ?_
                  refine vt_val (fun w hw => os_pick_f rfl rfl) ?_
                  refine vt_val (fun w hw => os_move rfl) ?_
                  refine vt_valg rfl (fun w hw => os_fa (o := 1) (k := 0) (by kernel_rfl) rfl) ?_
                  refine vt_valg rfl (fun w hw => os_load Try.isAgg3 rfl (led_cell hw (hC.cell (i := 1) rfl))) ?_
                  refine vt_valg rfl (fun w hw => os_f (os_lss rfl rfl) (by omega)) ?_
                  refine vt_val (fun w hw => os_pick_f rfl rfl) ?_
                  refine vt_val (fun w hw => os_move rfl) ?_
                  refine vt_valg rfl (fun w hw => os_fa (o := 1) (k := 0) (by kernel_rfl) rfl) ?_
                  refine vt_valg rfl (fun w hw => os_load Try.isAgg3 rfl (led_cell hw (hC.cell (i := 1) rfl))) ?_
                  refine vt_valg rfl (fun w hw => os_t (os_gtr rfl rfl) (by omega)) ?_
                  refine vt_val (fun w hw => os_pick_f rfl rfl) ?_
                  refine vt_val (fun w hw => os_move rfl) ?_
                  refine vt_skip rfl rfl ?_
                  refine vt_skip rfl rfl ?_
                  refine vt_skip rfl rfl ?_
                  refine vt_skipu rfl ?_
                  refine vt_skipu rfl ?_
                  refine vt_skipu rfl ?_
                  refine vt_skipu rfl ?_
                  refine vt_skipu rfl ?_
                  refine vt_skipu rfl ?_
                  refine vt_skipu rfl ?_
                  refine vt_skipu rfl ?_
                  refine vt_skipu rfl ?_
                  refine vt_skipu rfl ?_
                  refine vt_skip rfl rfl ?_
                  refine vt_val (fun w hw => os_pick_t rfl rfl) ?_
                  refine vt_nil (fun w hw => ?_)
                  obtain ⟨q, rfl⟩ := hw
                  refine v_cond_t rfl ?_
                  refine v_seq ?_
                  refine v_region ?_
                  refine vl_val (os_assign rfl) ?_
                  refine vl_nil ?_
                  refine v_ret ?_
                  exact post_ret rfl rfl (⟨by rw [show rightN d = false by unfold rightN; rw [hg, hst, show inB Y 1 65535 = false by simp [inB]; omega]; simp], hb0.trans (Below.mono (below_drewN_ b3 q) hb0.size)⟩)
                · rcases Nat.eq_zero_or_pos i with hz | hz
                  · have hlc : lastC d.cs i = 0 := by rw [hz]; rfl
                    refine v_seq ?_
                    refine v_region_t LeD _ mixed (by kernel_rfl) lee_d (led_start _) ?_
                    refine vt_val (fun w hw => os_fa (o := 0) (k := 0) (by kernel_rfl) rfl) ?_
                    refine vt_val (fun w hw => os_load Try.isAgg3 rfl (led_cell hw (hC.cell (i := 0) rfl))) ?_
                    refine vt_val (fun w hw => os_f (os_lss rfl rfl) (by omega)) ?_
                    refine vt_val (fun w hw => os_move rfl) ?_
                    refine vt_valg rfl (fun w hw => os_fa (o := 0) (k := 0) (by kernel_rfl) rfl) ?_
                    refine vt_valg rfl (fun w hw => os_load Try.isAgg3 rfl (led_cell hw (hC.cell (i := 0) rfl))) ?_
                    refine vt_valg rfl (fun w hw => os_fa (o := 2) (k := 0) (by kernel_rfl) rfl) ?_
                    refine vt_valg rfl (fun w hw => os_load Try.isAgg3 rfl (led_cell hw (hD.cell (i := 2) rfl))) ?_
                    refine vt_valg rfl (fun w hw => os_f (os_gtr rfl rfl) (by omega)) ?_
                    refine vt_val (fun w hw => os_pick_f rfl rfl) ?_
                    refine vt_val (fun w hw => os_move rfl) ?_
                    refine vt_valg rfl (fun w hw => os_fa (o := 1) (k := 0) (by kernel_rfl) rfl) ?_
                    refine vt_valg rfl (fun w hw => os_load Try.isAgg3 rfl (led_cell hw (hC.cell (i := 1) rfl))) ?_
                    refine vt_valg rfl (fun w hw => os_f (os_lss rfl rfl) (by omega)) ?_
                    refine vt_val (fun w hw => os_pick_f rfl rfl) ?_
                    refine vt_val (fun w hw => os_move rfl) ?_
                    refine vt_valg rfl (fun w hw => os_fa (o := 1) (k := 0) (by kernel_rfl) rfl) ?_
                    refine vt_valg rfl (fun w hw => os_load Try.isAgg3 rfl (led_cell hw (hC.cell (i := 1) rfl))) ?_
                    refine vt_valg rfl (fun w hw => os_f (os_gtr rfl rfl) (by omega)) ?_
                    refine vt_val (fun w hw => os_pick_f rfl rfl) ?_
                    refine vt_val (fun w hw => os_move rfl) ?_
                    refine vt_valg rfl (fun w hw => os_move rfl) ?_
                    refine vt_valg rfl (fun w hw => os_f (os_gtr rfl rfl) (by omega)) ?_
                    refine vt_valg rfl (fun w hw => os_move rfl) ?_
                    refine vt_skip rfl rfl ?_
                    refine vt_skip rfl rfl ?_
                    refine vt_skip rfl rfl ?_
                    refine vt_skip rfl rfl ?_
                    refine vt_skip rfl rfl ?_
                    refine vt_skip rfl rfl ?_
                    refine vt_skip rfl rfl ?_
                    refine vt_skip rfl rfl ?_
                    refine vt_skip rfl rfl ?_
                    refine vt_skip rfl rfl ?_
                    refine vt_valg rfl (fun w hw => os_pick_f rfl rfl) ?_
                    refine vt_val (fun w hw => os_pick_f rfl rfl) ?_
                    refine vt_nil (fun w hw => ?_)
                    obtain ⟨q, rfl⟩ := hw
                    refine v_cond_f rfl ?_
                    refine v_skip ?_
                    refine v_region ?_
                    refine vl_val (os_move rfl) ?_
                    refine vl_val (os_addi rfl rfl (by omega)) ?_
                    refine vl_val (os_assign rfl) ?_
                    refine vl_nil ?_
                    exact ⟨i + 1, ⟨rfl, trivial⟩, ⟨rfl, trivial⟩, ⟨by omega, by show 0 ≤ (d.cs.getD i (0, 0)).1; omega, by rw [hg, hst, show inB X (lastC d.cs i + 1) d.n = true by rw [inB_iff]; omega, show inB Y 1 65535 = true by rw [inB_iff]; omega]; show cntOk d.n X _ = cntOk d.n (d.cs.getD i (0, 0)).1 _; rw [hX], below_drewN_ b3 q⟩, by dsimp only; omega⟩
                  · obtain ⟨b', o', eA', p1, -, -⟩ := (show RdP W5 2 d.A (d.cs.map rowC) from ((hd.keep hb0).keep b3).1).at2 (i := i - 1) (by omega)
                    have hlc : lastC d.cs i = (d.cs.getD (i - 1) (0, 0)).1 := by obtain ⟨j, rfl⟩ : ∃ j, i = j + 1 := ⟨i - 1, by omega⟩; rfl
                    rw [eA] at eA'
                    cases eA'
                    rw [← hlc] at p1
                    by_cases hlt : X ≤ lastC d.cs i
                    · refine v_seq ?_
                      refine v_region_t LeD _ mixed (by kernel_rfl) lee_d (led_start _) ?_
                      refine vt_val (fun w hw => os_fa (o := 0) (k := 0) (by kernel_rfl) rfl) ?_
                      refine vt_val (fun w hw => os_load Try.isAgg3 rfl (led_cell hw (hC.cell (i := 0) rfl))) ?_
                      refine vt_val (fun w hw => os_f (os_lss rfl rfl) (by omega)) ?_
                      refine vt_val (fun w hw => os_move rfl) ?_
                      refine vt_valg rfl (fun w hw => os_fa (o := 0) (k := 0) (by kernel_rfl) rfl) ?_
                      refine vt_valg rfl (fun w hw => os_load Try.isAgg3 rfl (led_cell hw (hC.cell (i := 0) rfl))) ?_
                      refine vt_valg rfl (fun w hw => os_fa (o := 2) (k := 0) (by kernel_rfl) rfl) ?_
                      refine vt_valg rfl (fun w hw => os_load Try.isAgg3 rfl (led_cell hw (hD.cell (i := 2) rfl))) ?_
                      refine vt_valg rfl (fun w hw => os_f (os_gtr rfl rfl) (by omega)) ?_
                      refine vt_val (fun w hw => os_pick_f rfl rfl) ?_
                      refine vt_val (fun w hw => os_move rfl) ?_
                      refine vt_valg rfl (fun w hw => os_fa (o := 1) (k := 0) (by kernel_rfl) rfl) ?_
                      refine vt_valg rfl (fun w hw => os_load Try.isAgg3 rfl (led_cell hw (hC.cell (i := 1) rfl))) ?_
                      refine vt_valg rfl (fun w hw => os_f (os_lss rfl rfl) (by omega)) ?_
                      refine vt_val (fun w hw => os_pick_f rfl rfl) ?_
                      refine vt_val (fun w hw => os_move rfl) ?_
                      refine vt_valg rfl (fun w hw => os_fa (o := 1) (k := 0) (by kernel_rfl) rfl) ?_
                      refine vt_valg rfl (fun w hw => os_load Try.isAgg3 rfl (led_cell hw (hC.cell (i := 1) rfl))) ?_
                      refine vt_valg rfl (fun w hw => os_f (os_gtr rfl rfl) (by omega)) ?_
                      refine vt_val (fun w hw => os_pick_f rfl rfl) ?_
                      refine vt_val (fun w hw => os_move rfl) ?_
                      refine vt_valg rfl (fun w hw => os_move rfl) ?_
                      refine vt_valg rfl (fun w hw => os_t (os_gtr rfl rfl) (by omega)) ?_
                      refine vt_valg rfl (fun w hw => os_move rfl) ?_
                      refine vt_valg rfl (fun w hw => os_fa (o := 0) (k := 0) (by kernel_rfl) rfl) ?_
                      refine vt_valg rfl (fun w hw => os_load Try.isAgg3 rfl (led_cell hw (hC.cell (i := 0) rfl))) ?_
                      refine vt_valg rfl (fun w hw => os_fa (o := 3) (k := 0) (by kernel_rfl) rfl) ?_
                      refine vt_valg rfl (fun w hw => os_load Try.isAgg26 rfl (led_cell hw (hD.cell (i := 3) rfl))) ?_
                      refine vt_valg rfl (fun w hw => os_move rfl) ?_
                      refine vt_valg rfl (fun w hw => os_subi rfl rfl (by omega)) ?_
                      refine vt_valg rfl (fun w hw => os_ixs Try.underlying26 Try.sizeOf42 (by rw [eA]; rfl) rfl (i := i - 1) (by omega) (by omega)) ?_
                      refine vt_valg rfl (fun w hw => os_fa (o := 0) (k := 0) (by kernel_rfl) rfl) ?_
                      refine vt_valg rfl (fun w hw => os_load Try.isAgg3 rfl (led_cell hw (p1))) ?_
                      refine vt_valg rfl (fun w hw => os_leq rfl rfl) ?_
                      refine vt_valg rfl (fun w hw => os_pick_t rfl rfl) ?_
                      refine vt_val (fun w hw => os_pick_f rfl rfl) ?_
                      refine vt_nil (fun w hw => ?_)
                      obtain ⟨q, rfl⟩ := hw
                      refine v_cond_yes rfl (hlt) ?_
                      refine v_seq ?_
                      refine v_region ?_
                      refine vl_val (os_assign rfl) ?_
                      refine vl_nil ?_
                      refine v_ret ?_
                      exact post_ret rfl rfl (⟨by rw [show rightN d = false by unfold rightN; rw [hg, hst, show inB X (lastC d.cs i + 1) d.n = false by simp [inB]; omega]; simp], hb0.trans (Below.mono (below_drewN_ b3 q) hb0.size)⟩)
                    · refine v_seq ?_
                      refine v_region_t LeD _ mixed (by kernel_rfl) lee_d (led_start _) ?_
                      refine vt_val (fun w hw => os_fa (o := 0) (k := 0) (by kernel_rfl) rfl) ?_
                      refine vt_val (fun w hw => os_load Try.isAgg3 rfl (led_cell hw (hC.cell (i := 0) rfl))) ?_
                      refine vt_val (fun w hw => os_f (os_lss rfl rfl) (by omega)) ?_
                      refine vt_val (fun w hw => os_move rfl) ?_
                      refine vt_valg rfl (fun w hw => os_fa (o := 0) (k := 0) (by kernel_rfl) rfl) ?_
                      refine vt_valg rfl (fun w hw => os_load Try.isAgg3 rfl (led_cell hw (hC.cell (i := 0) rfl))) ?_
                      refine vt_valg rfl (fun w hw => os_fa (o := 2) (k := 0) (by kernel_rfl) rfl) ?_
                      refine vt_valg rfl (fun w hw => os_load Try.isAgg3 rfl (led_cell hw (hD.cell (i := 2) rfl))) ?_
                      refine vt_valg rfl (fun w hw => os_f (os_gtr rfl rfl) (by omega)) ?_
                      refine vt_val (fun w hw => os_pick_f rfl rfl) ?_
                      refine vt_val (fun w hw => os_move rfl) ?_
                      refine vt_valg rfl (fun w hw => os_fa (o := 1) (k := 0) (by kernel_rfl) rfl) ?_
                      refine vt_valg rfl (fun w hw => os_load Try.isAgg3 rfl (led_cell hw (hC.cell (i := 1) rfl))) ?_
                      refine vt_valg rfl (fun w hw => os_f (os_lss rfl rfl) (by omega)) ?_
                      refine vt_val (fun w hw => os_pick_f rfl rfl) ?_
                      refine vt_val (fun w hw => os_move rfl) ?_
                      refine vt_valg rfl (fun w hw => os_fa (o := 1) (k := 0) (by kernel_rfl) rfl) ?_
                      refine vt_valg rfl (fun w hw => os_load Try.isAgg3 rfl (led_cell hw (hC.cell (i := 1) rfl))) ?_
                      refine vt_valg rfl (fun w hw => os_f (os_gtr rfl rfl) (by omega)) ?_
                      refine vt_val (fun w hw => os_pick_f rfl rfl) ?_
                      refine vt_val (fun w hw => os_move rfl) ?_
                      refine vt_valg rfl (fun w hw => os_move rfl) ?_
                      refine vt_valg rfl (fun w hw => os_t (os_gtr rfl rfl) (by omega)) ?_
                      refine vt_valg rfl (fun w hw => os_move rfl) ?_
                      refine vt_valg rfl (fun w hw => os_fa (o := 0) (k := 0) (by kernel_rfl) rfl) ?_
                      refine vt_valg rfl (fun w hw => os_load Try.isAgg3 rfl (led_cell hw (hC.cell (i := 0) rfl))) ?_
                      refine vt_valg rfl (fun w hw => os_fa (o := 3) (k := 0) (by kernel_rfl) rfl) ?_
                      refine vt_valg rfl (fun w hw => os_load Try.isAgg26 rfl (led_cell hw (hD.cell (i := 3) rfl))) ?_
                      refine vt_valg rfl (fun w hw => os_move rfl) ?_
                      refine vt_valg rfl (fun w hw => os_subi rfl rfl (by omega)) ?_
                      refine vt_valg rfl (fun w hw => os_ixs Try.underlying26 Try.sizeOf42 (by rw [eA]; rfl) rfl (i := i - 1) (by omega) (by omega)) ?_
                      refine vt_valg rfl (fun w hw => os_fa (o := 0) (k := 0) (by kernel_rfl) rfl) ?_
                      refine vt_valg rfl (fun w hw => os_load Try.isAgg3 rfl (led_cell hw (p1))) ?_
                      refine vt_valg rfl (fun w hw => os_leq rfl rfl) ?_
                      refine vt_valg rfl (fun w hw => os_pick_t rfl rfl) ?_
                      refine vt_val (fun w hw => os_pick_f rfl rfl) ?_
                      refine vt_nil (fun w hw => ?_)
                      obtain ⟨q, rfl⟩ := hw
                      refine v_cond_no rfl (hlt) ?_
                      refine v_skip ?_
                      refine v_region ?_
                      refine vl_val (os_move rfl) ?_
                      refine vl_val (os_addi rfl rfl (by omega)) ?_
                      refine vl_val (os_assign rfl) ?_
                      refine vl_nil ?_
                      exact ⟨i + 1, ⟨rfl, trivial⟩, ⟨rfl, trivial⟩, ⟨by omega, by show 0 ≤ (d.cs.getD i (0, 0)).1; omega, by rw [hg, hst, show inB X (lastC d.cs i + 1) d.n = true by rw [inB_iff]; omega, show inB Y 1 65535 = true by rw [inB_iff]; omega]; show cntOk d.n X _ = cntOk d.n (d.cs.getD i (0, 0)).1 _; rw [hX], below_drewN_ b3 q⟩, by dsimp only; omega⟩
              · have hcn : cntOk d.n 0 d.cs = true := by rw [hg, List.drop_of_length_le (by omega)]; rfl
                refine v_exit ?_
                refine v_seq ?_
                refine v_region ?_
                refine vl_val (os_assign rfl) ?_
                refine vl_nil ?_
                refine v_ret ?_
                exact post_ret rfl rfl (⟨by rw [show rightN d = true by unfold rightN inB; rw [hcn]; simp; omega], hb0.trans (Below.mono b1 hb0.size)⟩)
            · refine v_seq ?_
              refine v_region ?_
              refine vl_val (os_box rfl) ?_
              refine vl_val (os_assign rfl) ?_
              refine vl_nil ?_
              refine v_seq ?_
              refine v_seq ?_
              refine v_region ?_
              refine vl_val (os_fa (o := 0) (k := 0) (by kernel_rfl) rfl) ?_
              refine vl_val (os_load Try.isAgg3 rfl (hB0.cell (i := 0) rfl)) ?_
              refine vl_val (os_f (os_lss rfl rfl) (by omega)) ?_
              refine vl_val (os_move rfl) ?_
              refine vl_valg rfl (os_fa (o := 0) (k := 0) (by kernel_rfl) rfl) ?_
              refine vl_valg rfl (os_load Try.isAgg3 rfl (hB0.cell (i := 0) rfl)) ?_
              refine vl_valg rfl (os_f (os_gtr rfl rfl) (by omega)) ?_
              refine vl_val (os_pick_f rfl rfl) ?_
              refine vl_val (os_move rfl) ?_
              refine vl_valg rfl (os_fa (o := 1) (k := 0) (by kernel_rfl) rfl) ?_
              refine vl_valg rfl (os_load Try.isAgg3 rfl (hB0.cell (i := 1) rfl)) ?_
              refine vl_valg rfl (os_f (os_lss rfl rfl) (by omega)) ?_
              refine vl_val (os_pick_f rfl rfl) ?_
              refine vl_val (os_move rfl) ?_
              refine vl_valg rfl (os_fa (o := 1) (k := 0) (by kernel_rfl) rfl) ?_
              refine vl_valg rfl (os_load Try.isAgg3 rfl (hB0.cell (i := 1) rfl)) ?_
              refine vl_valg rfl (os_f (os_gtr rfl rfl) (by omega)) ?_
              refine vl_val (os_pick_f rfl rfl) ?_
              refine vl_val (os_move rfl) ?_
              refine vl_valg rfl (os_fa (o := 2) (k := 0) (by kernel_rfl) rfl) ?_
              refine vl_valg rfl (os_load Try.isAgg3 rfl (hB0.cell (i := 2) rfl)) ?_
              refine vl_valg rfl (os_f (os_lss rfl rfl) (by omega)) ?_
              refine vl_val (os_pick_f rfl rfl) ?_
              refine vl_val (os_move rfl) ?_
              refine vl_valg rfl (os_fa (o := 2) (k := 0) (by kernel_rfl) rfl) ?_
              refine vl_valg rfl (os_load Try.isAgg3 rfl (hB0.cell (i := 2) rfl)) ?_
              refine vl_valg rfl (os_gtr rfl rfl) ?_
              refine vl_val (os_pick_f rfl rfl) ?_
              refine vl_nil ?_
              refine v_cond_yes rfl (by omega) ?_
              refine v_seq ?_
              refine v_region ?_
              refine vl_val (os_assign rfl) ?_
              refine vl_nil ?_
              refine v_ret ?_
              exact post_ret rfl rfl (⟨by rw [show rightN d = false by unfold rightN inB; simp; omega], hb0⟩)
          · refine v_seq ?_
            refine v_region ?_
            refine vl_val (os_box rfl) ?_
            refine vl_val (os_assign rfl) ?_
            refine vl_nil ?_
            refine v_seq ?_
            refine v_seq ?_
            refine v_region ?_
            refine vl_val (os_fa (o := 0) (k := 0) (by kernel_rfl) rfl) ?_
            refine vl_val (os_load Try.isAgg3 rfl (hB0.cell (i := 0) rfl)) ?_
            refine vl_val (os_f (os_lss rfl rfl) (by omega)) ?_
            refine vl_val (os_move rfl) ?_
            refine vl_valg rfl (os_fa (o := 0) (k := 0) (by kernel_rfl) rfl) ?_
            refine vl_valg rfl (os_load Try.isAgg3 rfl (hB0.cell (i := 0) rfl)) ?_
            refine vl_valg rfl (os_f (os_gtr rfl rfl) (by omega)) ?_
            refine vl_val (os_pick_f rfl rfl) ?_
            refine vl_val (os_move rfl) ?_
            refine vl_valg rfl (os_fa (o := 1) (k := 0) (by kernel_rfl) rfl) ?_
            refine vl_valg rfl (os_load Try.isAgg3 rfl (hB0.cell (i := 1) rfl)) ?_
            refine vl_valg rfl (os_f (os_lss rfl rfl) (by omega)) ?_
            refine vl_val (os_pick_f rfl rfl) ?_
            refine vl_val (os_move rfl) ?_
            refine vl_valg rfl (os_fa (o := 1) (k := 0) (by kernel_rfl) rfl) ?_
            refine vl_valg rfl (os_load Try.isAgg3 rfl (hB0.cell (i := 1) rfl)) ?_
            refine vl_valg rfl (os_f (os_gtr rfl rfl) (by omega)) ?_
            refine vl_val (os_pick_f rfl rfl) ?_
            refine vl_val (os_move rfl) ?_
            refine vl_valg rfl (os_fa (o := 2) (k := 0) (by kernel_rfl) rfl) ?_
            refine vl_valg rfl (os_load Try.isAgg3 rfl (hB0.cell (i := 2) rfl)) ?_
            refine vl_valg rfl (os_t (os_lss rfl rfl) (by omega)) ?_
            refine vl_val (os_pick_f rfl rfl) ?_
            refine vl_val (os_move rfl) ?_
            refine vl_skip rfl rfl ?_
            refine vl_skip rfl rfl ?_
            refine vl_skip rfl rfl ?_
            refine vl_val (os_pick_t rfl rfl) ?_
            refine vl_nil ?_
            refine v_cond_t rfl ?_
            refine v_seq ?_
            refine v_region ?_
            refine vl_val (os_assign rfl) ?_
            refine vl_nil ?_
            refine v_ret ?_
            exact post_ret rfl rfl (⟨by rw [show rightN d = false by unfold rightN inB; simp; omega], hb0⟩)
        · refine v_seq ?_
          refine v_region ?_
          refine vl_val (os_box rfl) ?_
          refine vl_val (os_assign rfl) ?_
          refine vl_nil ?_
          refine v_seq ?_
          refine v_seq ?_
          refine v_region ?_
          refine vl_val (os_fa (o := 0) (k := 0) (by kernel_rfl) rfl) ?_
          refine vl_val (os_load Try.isAgg3 rfl (hB0.cell (i := 0) rfl)) ?_
          refine vl_val (os_f (os_lss rfl rfl) (by omega)) ?_
          refine vl_val (os_move rfl) ?_
          refine vl_valg rfl (os_fa (o := 0) (k := 0) (by kernel_rfl) rfl) ?_
          refine vl_valg rfl (os_load Try.isAgg3 rfl (hB0.cell (i := 0) rfl)) ?_
          refine vl_valg rfl (os_f (os_gtr rfl rfl) (by omega)) ?_
          refine vl_val (os_pick_f rfl rfl) ?_
          refine vl_val (os_move rfl) ?_
          refine vl_valg rfl (os_fa (o := 1) (k := 0) (by kernel_rfl) rfl) ?_
          refine vl_valg rfl (os_load Try.isAgg3 rfl (hB0.cell (i := 1) rfl)) ?_
          refine vl_valg rfl (os_f (os_lss rfl rfl) (by omega)) ?_
          refine vl_val (os_pick_f rfl rfl) ?_
          refine vl_val (os_move rfl) ?_
          refine vl_valg rfl (os_fa (o := 1) (k := 0) (by kernel_rfl) rfl) ?_
          refine vl_valg rfl (os_load Try.isAgg3 rfl (hB0.cell (i := 1) rfl)) ?_
          refine vl_valg rfl (os_t (os_gtr rfl rfl) (by omega)) ?_
          refine vl_val (os_pick_f rfl rfl) ?_
          refine vl_val (os_move rfl) ?_
          refine vl_skip rfl rfl ?_
          refine vl_skip rfl rfl ?_
          refine vl_skip rfl rfl ?_
          refine vl_val (os_pick_t rfl rfl) ?_
          refine vl_val (os_move rfl) ?_
          refine vl_skip rfl rfl ?_
          refine vl_skip rfl rfl ?_
          refine vl_skip rfl rfl ?_
          refine vl_val (os_pick_t rfl rfl) ?_
          refine vl_nil ?_
          refine v_cond_t rfl ?_
          refine v_seq ?_
          refine v_region ?_
          refine vl_val (os_assign rfl) ?_
          refine vl_nil ?_
          refine v_ret ?_
          exact post_ret rfl rfl (⟨by rw [show rightN d = false by unfold rightN inB; simp; omega], hb0⟩)
      · refine v_seq ?_
        refine v_region ?_
        refine vl_val (os_box rfl) ?_
        refine vl_val (os_assign rfl) ?_
        refine vl_nil ?_
        refine v_seq ?_
        refine v_seq ?_
        refine v_region ?_
        refine vl_val (os_fa (o := 0) (k := 0) (by kernel_rfl) rfl) ?_
        refine vl_val (os_load Try.isAgg3 rfl (hB0.cell (i := 0) rfl)) ?_
        refine vl_val (os_f (os_lss rfl rfl) (by omega)) ?_
        refine vl_val (os_move rfl) ?_
        refine vl_valg rfl (os_fa (o := 0) (k := 0) (by kernel_rfl) rfl) ?_
        refine vl_valg rfl (os_load Try.isAgg3 rfl (hB0.cell (i := 0) rfl)) ?_
        refine vl_valg rfl (os_f (os_gtr rfl rfl) (by omega)) ?_
        refine vl_val (os_pick_f rfl rfl) ?_
        refine vl_val (os_move rfl) ?_
        refine vl_valg rfl (os_fa (o := 1) (k := 0) (by kernel_rfl) rfl) ?_
        refine vl_valg rfl (os_load Try.isAgg3 rfl (hB0.cell (i := 1) rfl)) ?_
        refine vl_valg rfl (os_t (os_lss rfl rfl) (by omega)) ?_
        refine vl_val (os_pick_f rfl rfl) ?_
        refine vl_val (os_move rfl) ?_
        refine vl_skip rfl rfl ?_
        refine vl_skip rfl rfl ?_
        refine vl_skip rfl rfl ?_
        refine vl_val (os_pick_t rfl rfl) ?_
        refine vl_val (os_move rfl) ?_
        refine vl_skip rfl rfl ?_
        refine vl_skip rfl rfl ?_
        refine vl_skip rfl rfl ?_
        refine vl_val (os_pick_t rfl rfl) ?_
        refine vl_val (os_move rfl) ?_
        refine vl_skip rfl rfl ?_
        refine vl_skip rfl rfl ?_
        refine vl_skip rfl rfl ?_
        refine vl_val (os_pick_t rfl rfl) ?_
        refine vl_nil ?_
        refine v_cond_t rfl ?_
        refine v_seq ?_
        refine v_region ?_
        refine vl_val (os_assign rfl) ?_
        refine vl_nil ?_
        refine v_ret ?_
        exact post_ret rfl rfl (⟨by rw [show rightN d = false by unfold rightN inB; simp; omega], hb0⟩)
    · refine v_seq ?_
      refine v_region ?_
      refine vl_val (os_box rfl) ?_
      refine vl_val (os_assign rfl) ?_
      refine vl_nil ?_
      refine v_seq ?_
      refine v_seq ?_
      refine v_region ?_
      refine vl_val (os_fa (o := 0) (k := 0) (by kernel_rfl) rfl) ?_
      refine vl_val (os_load Try.isAgg3 rfl (hB0.cell (i := 0) rfl)) ?_
      refine vl_val (os_f (os_lss rfl rfl) (by omega)) ?_
      refine vl_val (os_move rfl) ?_
      refine vl_valg rfl (os_fa (o := 0) (k := 0) (by kernel_rfl) rfl) ?_
      refine vl_valg rfl (os_load Try.isAgg3 rfl (hB0.cell (i := 0) rfl)) ?_
      refine vl_valg rfl (os_t (os_gtr rfl rfl) (by omega)) ?_
      refine vl_val (os_pick_f rfl rfl) ?_
      refine vl_val (os_move rfl) ?_
      refine vl_skip rfl rfl ?_
      refine vl_skip rfl rfl ?_
      refine vl_skip rfl rfl ?_
      refine vl_val (os_pick_t rfl rfl) ?_
      refine vl_val (os_move rfl) ?_
      refine vl_skip rfl rfl ?_
      refine vl_skip rfl rfl ?_
      refine vl_skip rfl rfl ?_
      refine vl_val (os_pick_t rfl rfl) ?_
      refine vl_val (os_move rfl) ?_
      refine vl_skip rfl rfl ?_
      refine vl_skip rfl rfl ?_
      refine vl_skip rfl rfl ?_
      refine vl_val (os_pick_t rfl rfl) ?_
      refine vl_val (os_move rfl) ?_
      refine vl_skip rfl rfl ?_
      refine vl_skip rfl rfl ?_
      refine vl_skip rfl rfl ?_
      refine vl_val (os_pick_t rfl rfl) ?_
      refine vl_nil ?_
      refine v_cond_t rfl ?_
      refine v_seq ?_
      refine v_region ?_
      refine vl_val (os_assign rfl) ?_
      refine vl_nil ?_
      refine v_ret ?_
      exact post_ret rfl rfl (⟨by rw [show rightN d = false by unfold rightN inB; simp; omega], hb0⟩)
  · refine v_seq ?_
    refine v_region ?_
    refine vl_val (os_box rfl) ?_
    refine vl_val (os_assign rfl) ?_
    refine vl_nil ?_
    refine v_seq ?_
    refine v_seq ?_
    refine v_region ?_
    refine vl_val (os_fa (o := 0) (k := 0) (by kernel_rfl) rfl) ?_
    refine vl_val (os_load Try.isAgg3 rfl (hB0.cell (i := 0) rfl)) ?_
    refine vl_val (os_t (os_lss rfl rfl) (by omega)) ?_
    refine vl_val (os_move rfl) ?_
    refine vl_skip rfl rfl ?_
    refine vl_skip rfl rfl ?_
    refine vl_skip rfl rfl ?_
    refine vl_val (os_pick_t rfl rfl) ?_
    refine vl_val (os_move rfl) ?_
    refine vl_skip rfl rfl ?_
    refine vl_skip rfl rfl ?_
    refine vl_skip rfl rfl ?_
    refine vl_val (os_pick_t rfl rfl) ?_
    refine vl_val (os_move rfl) ?_
    refine vl_skip rfl rfl ?_
    refine vl_skip rfl rfl ?_
    refine vl_skip rfl rfl ?_
    refine vl_val (os_pick_t rfl rfl) ?_
    refine vl_val (os_move rfl) ?_
    refine vl_skip rfl rfl ?_
    refine vl_skip rfl rfl ?_
    refine vl_skip rfl rfl ?_
    refine vl_val (os_pick_t rfl rfl) ?_
    refine vl_val (os_move rfl) ?_
    refine vl_skip rfl rfl ?_
    refine vl_skip rfl rfl ?_
    refine vl_skip rfl rfl ?_
    refine vl_val (os_pick_t rfl rfl) ?_
    refine vl_nil ?_
    refine v_cond_t rfl ?_
    refine v_seq ?_
    refine v_region ?_
    refine vl_val (os_assign rfl) ?_
    refine vl_nil ?_
    refine v_ret ?_
    exact post_ret rfl rfl (⟨by rw [show rightN d = false by unfold rightN inB; simp; omega], hb0⟩)
end Go.Proofs.Ythaifamjgcfkaaa

/- Regions that draw their order, order by order, under a condition on the world: what yields in every world that meets it may be taken first. No program in sight. -/
namespace Go.Proofs.Ythaifamjgcfkaaa
open Go.RowKit
set_option linter.unusedVariables false

/-- so many operations are left at most; which have come up, says 'listed'; the world meets S -/
def VH (P : Program) (n : Cx) (all : List Oper) (S : World → Prop) (fuel : Nat) (listed : List Bool) (fr : Fr) (w : World) (Q : Exit → Fr → World → Prop) : Prop :=
  all.all (dstOk n.sz) = true → S w → ∀ a, Ag n fr a → wpAnyH P .any all.toArray (nrm n Q) S fuel listed.toArray a w
def VHN (P : Program) (n : Cx) (all : List Oper) (S : World → Prop) (fuel : Nat) (listed : List Bool) (i : Nat) (fr : Fr) (w : World) (Q : Exit → Fr → World → Prop) : Prop :=
  all.all (dstOk n.sz) = true → S w → ∀ a, Ag n fr a → wpOp P all.toArray (nrm n Q) i (fun a' w' => S w' ∧ wpAnyH P .any all.toArray (nrm n Q) S fuel (setB listed i).toArray a' w') a w

section
variable {P : Program} {n : Cx} {all : List Oper} {S : World → Prop} {fuel : Nat} {listed : List Bool} {fr : Fr} {w w' : World} {Q : Exit → Fr → World → Prop} {d : Nat} {op : Op} {ty : TypeId} {pos : String} {aft : Array Edge} {v : Value}

theorem v_region_h (S : World → Prop) {id : Nat} {l : List Oper} (hm : P.follows .mixedOrders = true) (hS : S { w with drawn := w.drawn + 1 }) (h : VH P n l S l.length (List.replicate l.length false) fr { w with drawn := w.drawn + 1 } Q) (hro : n.ro = none := by rfl) : V P n (.region id l.toArray true) fr w Q := by
  unfold V
  intro hok a ha
  rw [fw_none hro]
  refine wpIn_wide.2 (Code.wp_mono (fun e a w hq => ?_) (wp_region_held (S := S) (Q := nrm n Q) hm ?_))
  · cases e with
    | normal => exact .inl hq
    | _ => exact hq.elim
  · have := h (by simpa [codeOk] using hok) hS a ha
    simpa using this
theorem vh_done (hr : Region.ready .any all.toArray listed.toArray = []) (h : S w → Q .normal fr w) : VH P n all S fuel listed fr w Q := by
  intro hok hS a ha
  exact wpAnyH_done hr ⟨fr, ha, h hS⟩ fuel
theorem vh_all (rs : List Nat) (hr : Region.ready .any all.toArray listed.toArray = rs) (hne : rs ≠ []) (h : ∀ i ∈ rs, VHN P n all S fuel listed i fr w Q) : VH P n all S (fuel + 1) listed fr w Q := by
  intro hok hS a ha
  refine wpAnyH_all hr hne fun i hi => ?_
  have := h i hi hok hS a ha
  rw [setB_eq] at this
  exact this
theorem vh_pure {g : Option (Nat × Bool)} (i : Nat) (hi : all[i]? = some ⟨some d, op, ty, pos, aft, g⟩) (hs : Region.noSelect all.toArray = true) (hf : Region.free .any all.toArray listed.toArray i = true) (hr : (Region.ready .any all.toArray listed.toArray).contains i = true)
    (h : ∀ w, S w → OS P n op ty fr w v w) (k : VH P n all S fuel (setB listed i) ((d, v) :: fr) w Q) (hg : GOk all fr g := by first | exact True.intro | rfl) : VH P n all S (fuel + 1) listed fr w Q := by
  intro hok hS a ha
  have h1 := dstOk_at hok hi rfl
  refine wpAnyH_take (oi := ⟨some d, op, ty, pos, aft, g⟩) (v := v) (by simpa using hi) hs hf hr (fun c a w hq => hq.elim) (.inl ⟨GOk.wanted ha hg, fun w hw => ?_⟩) hS ?_
  · have := h w hw
    unfold OS at this
    rw [execOp_bare]
    exact this a ha
  · have := k hok hS _ (ha.put h1 v)
    rw [setB_eq] at this
    exact this
theorem vh_skip {j : Nat} {b c : Bool} (i : Nat) (hi : all[i]? = some ⟨some d, op, ty, pos, aft, some (j, b)⟩) (hs : Region.noSelect all.toArray = true) (hf : Region.free .any all.toArray listed.toArray i = true) (hr : (Region.ready .any all.toArray listed.toArray).contains i = true)
    (hg : guardF all fr j = some (.bool c)) (hb : (c == b) = false) (k : VH P n all S fuel (setB listed i) ((d, undef) :: fr) w Q) : VH P n all S (fuel + 1) listed fr w Q := by
  intro hok hS a ha
  have h1 := dstOk_at hok hi rfl
  have hne : (some c == some b) = false := by simpa using hb
  refine wpAnyH_take (oi := ⟨some d, op, ty, pos, aft, some (j, b)⟩) (v := undef) (by simpa using hi) hs hf hr (fun c a w hq => hq.elim) (.inr ⟨?_, rfl⟩) hS ?_
  · simp only [Region.wanted, guardF_yields ha hg, hne]
  · have := k hok hS _ (ha.put h1 undef)
    rw [setB_eq] at this
    exact this
theorem vh_one (i : Nat) (hr : (Region.ready .any all.toArray listed.toArray == [i]) = true) (h : VHN P n all S fuel listed i fr w Q) : VH P n all S (fuel + 1) listed fr w Q :=
  vh_all [i] (by simpa using hr) (by simp) fun j hj => by
    simp only [List.mem_cons, List.not_mem_nil, or_false] at hj
    subst hj; exact h
theorem vh_two (i j : Nat) (hr : (Region.ready .any all.toArray listed.toArray == [i, j]) = true) (h : VHN P n all S fuel listed i fr w Q) (h2 : VHN P n all S fuel listed j fr w Q) : VH P n all S (fuel + 1) listed fr w Q :=
  vh_all [i, j] (by simpa using hr) (by simp) fun k hk => by
    simp only [List.mem_cons, List.not_mem_nil, or_false] at hk
    rcases hk with rfl | rfl
    · exact h
    · exact h2
theorem vh_three (i j l : Nat) (hr : (Region.ready .any all.toArray listed.toArray == [i, j, l]) = true) (h : VHN P n all S fuel listed i fr w Q) (h2 : VHN P n all S fuel listed j fr w Q) (h3 : VHN P n all S fuel listed l fr w Q) : VH P n all S (fuel + 1) listed fr w Q :=
  vh_all [i, j, l] (by simpa using hr) (by simp) fun k hk => by
    simp only [List.mem_cons, List.not_mem_nil, or_false] at hk
    rcases hk with rfl | rfl | rfl
    · exact h
    · exact h2
    · exact h3
theorem vhn_some {g : Option (Nat × Bool)} {i : Nat} {U : Value → World → Prop} (hi : all[i]? = some ⟨some d, op, ty, pos, aft, g⟩) (h : OT P n op ty fr w U) (hS : S w → ∀ v w', U v w' → S w') (k : ∀ v w', U v w' → VH P n all S fuel (setB listed i) ((d, v) :: fr) w' Q) (hg : GOk all fr g := by first | exact True.intro | rfl) : VHN P n all S fuel listed i fr w Q := by
  intro hok hw a ha
  have h1 := dstOk_at hok hi rfl
  unfold wpOp
  simp only [List.getElem?_toArray, hi, GOk.wanted ha hg, if_true]
  left
  unfold OT at h
  obtain ⟨v, w', hr, hu⟩ := h a ha
  unfold Oper.wp
  rw [execOp_bare, hr]
  exact ⟨hS hw v w' hu, k v w' hu hok (hS hw v w' hu) _ (ha.put h1 v)⟩
theorem vhn_val {g : Option (Nat × Bool)} {i : Nat} (hi : all[i]? = some ⟨some d, op, ty, pos, aft, g⟩) (h : OS P n op ty fr w v w') (hS : S w → S w') (k : VH P n all S fuel (setB listed i) ((d, v) :: fr) w' Q) (hg : GOk all fr g := by first | exact True.intro | rfl) : VHN P n all S fuel listed i fr w Q :=
  vhn_some (U := fun v1 w1 => v1 = v ∧ w1 = w') hi (h.ot' ⟨rfl, rfl⟩) (fun hw v1 w1 e => by obtain ⟨-, rfl⟩ := e; exact hS hw) (by rintro v1 w1 ⟨rfl, rfl⟩; exact k) hg
theorem vhn_unit {g : Option (Nat × Bool)} {i : Nat} (hi : all[i]? = some ⟨none, op, ty, pos, aft, g⟩) (h : OU P n op ty fr w w') (hS : S w → S w') (k : VH P n all S fuel (setB listed i) fr w' Q) (hg : GOk all fr g := by first | exact True.intro | rfl) : VHN P n all S fuel listed i fr w Q := by
  intro hok hw a ha
  unfold wpOp
  simp only [List.getElem?_toArray, hi, GOk.wanted ha hg, if_true]
  left
  unfold OU at h
  unfold Oper.wp
  rw [execOp_bare, h a ha]
  exact ⟨hS hw, k hok (hS hw) _ ha⟩
theorem vhn_call {g : Option (Nat × Bool)} {i : Nat} {f : FuncId} {xs : List Operand} {tt : Array TypeId} {args : List Value} {U : Value → World → Prop} (hi : all[i]? = some ⟨some d, .call ⟨.value (.func f), xs.toArray, tt⟩, ty, pos, aft, g⟩) (h : Gives P f args.toArray w U) (hx : evL fr xs = some args) (hS : S w → ∀ v w', U v w' → S w')
    (k : ∀ v w', U v w' → VH P n all S fuel (setB listed i) ((d, v) :: fr) w' Q) (hg : GOk all fr g := by first | exact True.intro | rfl) : VHN P n all S fuel listed i fr w Q := by
  intro hok hw a ha
  have h1 := dstOk_at hok hi rfl
  unfold wpOp
  simp only [List.getElem?_toArray, hi, GOk.wanted ha hg, if_true]
  left
  unfold Gives at h
  unfold Oper.wp
  rw [execOp_bare, run_callee (first := #[]) (cap := #[]) h.1 rfl hx ha]
  simp only [Array.append_empty, Array.empty_append]
  refine h.2.mono ?_
  rintro e w' ⟨v, rfl, h2⟩
  exact ⟨hS hw v w' h2, k v w' h2 hok (hS hw v w' h2) _ (ha.put h1 v)⟩
end
attribute [irreducible] VH VHN
end Go.Proofs.Ythaifamjgcfkaaa
