/- Texts joined: PrR PrB. -/
import Derived.Test.YtpojijnjdlnokaaM18
/- Layer 13: the document's Right. -/
namespace Go.Proofs.Ytpojijnjdlnokaa
open Go.RowKit
set_option linter.unusedVariables false

theorem any_false {most : Int} {zs : List Int} (h : ∀ j, j < zs.length → 0 ≤ zs.getD j 0 ∧ zs.getD j 0 ≤ most) : zs.any (outB most) = false := by
  refine List.any_eq_false.2 fun l hl => ?_
  obtain ⟨i, hi, rfl⟩ := List.getElem_of_mem hl
  have := h i hi
  have e : zs.getD i 0 = zs[i] := by simp [hi]
  rw [e] at this
  simp [outB]; omega
theorem any_true {most : Int} {zs : List Int} {j : Nat} (hj : j < zs.length) (h : zs.getD j 0 < 0 ∨ most < zs.getD j 0) : zs.any (outB most) = true := by
  refine List.any_eq_true.2 ⟨zs.getD j 0, by simp [hj], ?_⟩
  simp [outB] at *; omega
set_option maxHeartbeats 4000000 in
theorem r13_Right (d : TaskV) (q : TaskP) (w : World) (hd : TaskOk w d q) : Gives Try.prog 36 #[.agg d.cells.toArray] w fun v w' => v = .bool (taskB q) ∧ Below w.heap.size w w' := by
  have hB := bk_new w d.cells 51
  have hb0 : Below w.heap.size w (w.alloc (.cells d.cells.toArray 51)) := (Below.refl _ w).alloc (Nat.le_refl _) _
  have hll := hd.ll
  have hwl := hd.wl
  have hvl := hd.vl
  have hbl := hd.bl
  have hbv := hd.bv
  have en := hd.n
  have em := hd.m
  have eb := hd.b
  refine gives_enter Try.call36 Try.func36 rfl rfl rfl (by kernel_rfl) ?_
  rcases (by cases rightB d.n d.m d.b <;> simp <;> omega : rightB d.n d.m d.b = false ∨ (rightB d.n d.m d.b = true ∧ (d.ll : Int) < 1) ∨ (rightB d.n d.m d.b = true ∧ 8 < (d.ll : Int)) ∨ (rightB d.n d.m d.b = true ∧ 1 ≤ (d.ll : Int) ∧ (d.ll : Int) ≤ 8 ∧ (d.wl : Int) ≠ d.ll) ∨ (rightB d.n d.m d.b = true ∧ 1 ≤ (d.ll : Int) ∧ (d.ll : Int) ≤ 8 ∧ (d.wl : Int) = d.ll)) with c0 | ⟨c0, c1⟩ | ⟨c0, c1⟩ | ⟨c0, c1, c2, c3⟩ | ⟨c0, c1, c2, c3⟩
  · refine v_seq ?_
    refine v_region ?_
    refine vl_val (os_box rfl) ?_
    refine vl_val (os_assign rfl) ?_
    refine vl_nil ?_
    refine v_seq ?_
    refine v_seq ?_
    refine v_region ?_
    refine vl_val (os_fa (o := 0) (k := 2) (by kernel_rfl) rfl) ?_
    refine vl_val (os_loadP (cs := [.int .i64 d.n, .int .i64 d.m, .int .i64 d.b]) Try.underlying49 rfl (by kernel_rfl) rfl ((Bk.rdc hB).take 3)) ?_
    refine vl_call (gives_boolb (ref11_Right d.n d.m d.b _) c0) rfl ?_
    rintro v1 w1 ⟨rfl, b1⟩
    refine vl_val (os_not rfl) ?_
    refine vl_val (os_move rfl) ?_
    refine vl_skip rfl rfl ?_
    refine vl_skip rfl rfl ?_
    refine vl_skip rfl rfl ?_
    refine vl_skip rfl rfl ?_
    refine vl_val (os_pick_t rfl rfl) ?_
    refine vl_val (os_move rfl) ?_
    refine vl_skip rfl rfl ?_
    refine vl_skip rfl rfl ?_
    refine vl_skip rfl rfl ?_
    refine vl_skip rfl rfl ?_
    refine vl_val (os_pick_t rfl rfl) ?_
    refine vl_val (os_move rfl) ?_
    refine vl_skip rfl rfl ?_
    refine vl_skip rfl rfl ?_
    refine vl_skip rfl rfl ?_
    refine vl_skip rfl rfl ?_
    refine vl_skip rfl rfl ?_
    refine vl_skip rfl rfl ?_
    refine vl_skip rfl rfl ?_
    refine vl_val (os_pick_t rfl rfl) ?_
    refine vl_val (os_move rfl) ?_
    refine vl_skip rfl rfl ?_
    refine vl_skip rfl rfl ?_
    refine vl_skip rfl rfl ?_
    refine vl_skip rfl rfl ?_
    refine vl_skip rfl rfl ?_
    refine vl_skip rfl rfl ?_
    refine vl_skip rfl rfl ?_
    refine vl_val (os_pick_t rfl rfl) ?_
    refine vl_nil ?_
    refine v_cond_t rfl ?_
    refine v_seq ?_
    refine v_region ?_
    refine vl_val (os_assign rfl) ?_
    refine vl_nil ?_
    refine v_ret ?_
    exact post_ret rfl rfl (⟨by simp [taskB, ← en, ← em, ← eb, c0], hb0.trans (b1.mono hb0.size)⟩)
  · refine v_seq ?_
    refine v_region ?_
    refine vl_val (os_box rfl) ?_
    refine vl_val (os_assign rfl) ?_
    refine vl_nil ?_
    refine v_seq ?_
    refine v_seq ?_
    refine v_region ?_
    refine vl_val (os_fa (o := 0) (k := 2) (by kernel_rfl) rfl) ?_
    refine vl_val (os_loadP (cs := [.int .i64 d.n, .int .i64 d.m, .int .i64 d.b]) Try.underlying49 rfl (by kernel_rfl) rfl ((Bk.rdc hB).take 3)) ?_
    refine vl_call (gives_boolb (ref11_Right d.n d.m d.b _) c0) rfl ?_
    rintro v1 w1 ⟨rfl, b1⟩
    have hB1 := hB.keep b1
    refine vl_val (os_not rfl) ?_
    refine vl_val (os_move rfl) ?_
    refine vl_valg rfl (os_fa (o := 3) (k := 0) (by kernel_rfl) rfl) ?_
    refine vl_valg rfl (os_load Try.isAgg40 rfl (hB1.cell (i := 3) rfl)) ?_
    refine vl_valg rfl (os_len Try.underlying40 rfl) ?_
    refine vl_valg rfl (os_t (os_lss rfl rfl) (by omega)) ?_
    refine vl_val (os_pick_f rfl rfl) ?_
    refine vl_val (os_move rfl) ?_
    refine vl_skip rfl rfl ?_
    refine vl_skip rfl rfl ?_
    refine vl_skip rfl rfl ?_
    refine vl_skip rfl rfl ?_
    refine vl_val (os_pick_t rfl rfl) ?_
    refine vl_val (os_move rfl) ?_
    refine vl_skip rfl rfl ?_
    refine vl_skip rfl rfl ?_
    refine vl_skip rfl rfl ?_
    refine vl_skip rfl rfl ?_
    refine vl_skip rfl rfl ?_
    refine vl_skip rfl rfl ?_
    refine vl_skip rfl rfl ?_
    refine vl_val (os_pick_t rfl rfl) ?_
    refine vl_val (os_move rfl) ?_
    refine vl_skip rfl rfl ?_
    refine vl_skip rfl rfl ?_
    refine vl_skip rfl rfl ?_
    refine vl_skip rfl rfl ?_
    refine vl_skip rfl rfl ?_
    refine vl_skip rfl rfl ?_
    refine vl_skip rfl rfl ?_
    refine vl_val (os_pick_t rfl rfl) ?_
    refine vl_nil ?_
    refine v_cond_t rfl ?_
    refine v_seq ?_
    refine v_region ?_
    refine vl_val (os_assign rfl) ?_
    refine vl_nil ?_
    refine v_ret ?_
    exact post_ret rfl rfl (⟨by simp [taskB]; omega, hb0.trans (b1.mono hb0.size)⟩)
  · refine v_seq ?_
    refine v_region ?_
    refine vl_val (os_box rfl) ?_
    refine vl_val (os_assign rfl) ?_
    refine vl_nil ?_
    refine v_seq ?_
    refine v_seq ?_
    refine v_region ?_
    refine vl_val (os_fa (o := 0) (k := 2) (by kernel_rfl) rfl) ?_
    refine vl_val (os_loadP (cs := [.int .i64 d.n, .int .i64 d.m, .int .i64 d.b]) Try.underlying49 rfl (by kernel_rfl) rfl ((Bk.rdc hB).take 3)) ?_
    refine vl_call (gives_boolb (ref11_Right d.n d.m d.b _) c0) rfl ?_
    rintro v1 w1 ⟨rfl, b1⟩
    have hB1 := hB.keep b1
    refine vl_val (os_not rfl) ?_
    refine vl_val (os_move rfl) ?_
    refine vl_valg rfl (os_fa (o := 3) (k := 0) (by kernel_rfl) rfl) ?_
    refine vl_valg rfl (os_load Try.isAgg40 rfl (hB1.cell (i := 3) rfl)) ?_
    refine vl_valg rfl (os_len Try.underlying40 rfl) ?_
    refine vl_valg rfl (os_f (os_lss rfl rfl) (by omega)) ?_
    refine vl_val (os_pick_f rfl rfl) ?_
    refine vl_val (os_move rfl) ?_
    refine vl_valg rfl (os_fa (o := 3) (k := 0) (by kernel_rfl) rfl) ?_
    refine vl_valg rfl (os_load Try.isAgg40 rfl (hB1.cell (i := 3) rfl)) ?_
    refine vl_valg rfl (os_len Try.underlying40 rfl) ?_
    refine vl_valg rfl (os_t (os_gtr rfl rfl) (by omega)) ?_
    refine vl_val (os_pick_f rfl rfl) ?_
    refine vl_val (os_move rfl) ?_
    refine vl_skip rfl rfl ?_
    refine vl_skip rfl rfl ?_
    refine vl_skip rfl rfl ?_
    refine vl_skip rfl rfl ?_
    refine vl_skip rfl rfl ?_
    refine vl_skip rfl rfl ?_
    refine vl_skip rfl rfl ?_
    refine vl_val (os_pick_t rfl rfl) ?_
    refine vl_val (os_move rfl) ?_
    refine vl_skip rfl rfl ?_
    refine vl_skip rfl rfl ?_
    refine vl_skip rfl rfl ?_
    refine vl_skip rfl rfl ?_
    refine vl_skip rfl rfl ?_
    refine vl_skip rfl rfl ?_
    refine vl_skip rfl rfl ?_
    refine vl_val (os_pick_t rfl rfl) ?_
    refine vl_nil ?_
    refine v_cond_t rfl ?_
    refine v_seq ?_
    refine v_region ?_
    refine vl_val (os_assign rfl) ?_
    refine vl_nil ?_
    refine v_ret ?_
    exact post_ret rfl rfl (⟨by simp [taskB]; omega, hb0.trans (b1.mono hb0.size)⟩)
  · refine v_seq ?_
    refine v_region ?_
    refine vl_val (os_box rfl) ?_
    refine vl_val (os_assign rfl) ?_
    refine vl_nil ?_
    refine v_seq ?_
    refine v_seq ?_
    refine v_region ?_
    refine vl_val (os_fa (o := 0) (k := 2) (by kernel_rfl) rfl) ?_
    refine vl_val (os_loadP (cs := [.int .i64 d.n, .int .i64 d.m, .int .i64 d.b]) Try.underlying49 rfl (by kernel_rfl) rfl ((Bk.rdc hB).take 3)) ?_
    refine vl_call (gives_boolb (ref11_Right d.n d.m d.b _) c0) rfl ?_
    rintro v1 w1 ⟨rfl, b1⟩
    have hB1 := hB.keep b1
    refine vl_val (os_not rfl) ?_
    refine vl_val (os_move rfl) ?_
    refine vl_valg rfl (os_fa (o := 3) (k := 0) (by kernel_rfl) rfl) ?_
    refine vl_valg rfl (os_load Try.isAgg40 rfl (hB1.cell (i := 3) rfl)) ?_
    refine vl_valg rfl (os_len Try.underlying40 rfl) ?_
    refine vl_valg rfl (os_f (os_lss rfl rfl) (by omega)) ?_
    refine vl_val (os_pick_f rfl rfl) ?_
    refine vl_val (os_move rfl) ?_
    refine vl_valg rfl (os_fa (o := 3) (k := 0) (by kernel_rfl) rfl) ?_
    refine vl_valg rfl (os_load Try.isAgg40 rfl (hB1.cell (i := 3) rfl)) ?_
    refine vl_valg rfl (os_len Try.underlying40 rfl) ?_
    refine vl_valg rfl (os_f (os_gtr rfl rfl) (by omega)) ?_
    refine vl_val (os_pick_f rfl rfl) ?_
    refine vl_val (os_move rfl) ?_
    refine vl_valg rfl (os_fa (o := 4) (k := 0) (by kernel_rfl) rfl) ?_
    refine vl_valg rfl (os_load Try.isAgg40 rfl (hB1.cell (i := 4) rfl)) ?_
    refine vl_valg rfl (os_len Try.underlying40 rfl) ?_
    refine vl_valg rfl (os_fa (o := 3) (k := 0) (by kernel_rfl) rfl) ?_
    refine vl_valg rfl (os_load Try.isAgg40 rfl (hB1.cell (i := 3) rfl)) ?_
    refine vl_valg rfl (os_len Try.underlying40 rfl) ?_
    refine vl_valg rfl (os_t (os_neq rfl rfl) (by omega)) ?_
    refine vl_val (os_pick_f rfl rfl) ?_
    refine vl_val (os_move rfl) ?_
    refine vl_skip rfl rfl ?_
    refine vl_skip rfl rfl ?_
    refine vl_skip rfl rfl ?_
    refine vl_skip rfl rfl ?_
    refine vl_skip rfl rfl ?_
    refine vl_skip rfl rfl ?_
    refine vl_skip rfl rfl ?_
    refine vl_val (os_pick_t rfl rfl) ?_
    refine vl_nil ?_
    refine v_cond_t rfl ?_
    refine v_seq ?_
    refine v_region ?_
    refine vl_val (os_assign rfl) ?_
    refine vl_nil ?_
    refine v_ret ?_
    exact post_ret rfl rfl (⟨by simp [taskB]; omega, hb0.trans (b1.mono hb0.size)⟩)
  · refine v_seq ?_
    refine v_region ?_
    refine vl_val (os_box rfl) ?_
    refine vl_val (os_assign rfl) ?_
    refine vl_nil ?_
    refine v_seq ?_
    refine v_seq ?_
    refine v_region ?_
    refine vl_val (os_fa (o := 0) (k := 2) (by kernel_rfl) rfl) ?_
    refine vl_val (os_loadP (cs := [.int .i64 d.n, .int .i64 d.m, .int .i64 d.b]) Try.underlying49 rfl (by kernel_rfl) rfl ((Bk.rdc hB).take 3)) ?_
    refine vl_call (gives_boolb (ref11_Right d.n d.m d.b _) c0) rfl ?_
    rintro v1 w1 ⟨rfl, b1⟩
    have hB1 := hB.keep b1
    have hb1 := hb0.trans (b1.mono hb0.size)
    refine vl_val (os_not rfl) ?_
    refine vl_val (os_move rfl) ?_
    refine vl_valg rfl (os_fa (o := 3) (k := 0) (by kernel_rfl) rfl) ?_
    refine vl_valg rfl (os_load Try.isAgg40 rfl (hB1.cell (i := 3) rfl)) ?_
    refine vl_valg rfl (os_len Try.underlying40 rfl) ?_
    refine vl_valg rfl (os_f (os_lss rfl rfl) (by omega)) ?_
    refine vl_val (os_pick_f rfl rfl) ?_
    refine vl_val (os_move rfl) ?_
    refine vl_valg rfl (os_fa (o := 3) (k := 0) (by kernel_rfl) rfl) ?_
    refine vl_valg rfl (os_load Try.isAgg40 rfl (hB1.cell (i := 3) rfl)) ?_
    refine vl_valg rfl (os_len Try.underlying40 rfl) ?_
    refine vl_valg rfl (os_f (os_gtr rfl rfl) (by omega)) ?_
    refine vl_val (os_pick_f rfl rfl) ?_
    refine vl_val (os_move rfl) ?_
    refine vl_valg rfl (os_fa (o := 4) (k := 0) (by kernel_rfl) rfl) ?_
    refine vl_valg rfl (os_load Try.isAgg40 rfl (hB1.cell (i := 4) rfl)) ?_
    refine vl_valg rfl (os_len Try.underlying40 rfl) ?_
    refine vl_valg rfl (os_fa (o := 3) (k := 0) (by kernel_rfl) rfl) ?_
    refine vl_valg rfl (os_load Try.isAgg40 rfl (hB1.cell (i := 3) rfl)) ?_
    refine vl_valg rfl (os_len Try.underlying40 rfl) ?_
    refine vl_valg rfl (os_f (os_neq rfl rfl) (by omega)) ?_
    refine vl_val (os_pick_f rfl rfl) ?_
    refine vl_val (os_move rfl) ?_
    refine vl_valg rfl (os_fa (o := 0) (k := 2) (by kernel_rfl) rfl) ?_
    refine vl_valg rfl (os_fa (o := 0) (k := 0) (by kernel_rfl) rfl) ?_
    refine vl_valg rfl (os_load Try.isAgg3 rfl (hB1.cell (i := 0) rfl)) ?_
    refine vl_valg rfl (os_fa (o := 5) (k := 0) (by kernel_rfl) rfl) ?_
    refine vl_valg rfl (os_load Try.isAgg40 rfl (hB1.cell (i := 5) rfl)) ?_
    refine vl_callg rfl (ref_Right d.n d.AV d.vl d.vc q.ws w1 (hd.V.keep hb1) hvl (by omega) (by rw [en]; exact hd.iN.1)) rfl ?_
    rintro v2 w2 ⟨rfl, d2⟩
    have hb2 := hb1.trans ((led_below d2).mono hb1.size)
    have hB2 := hB1.led d2
    have hd2 := hd.keep hb2
    refine vl_valg rfl (os_not rfl) ?_
    refine vl_val (os_pick_f rfl rfl) ?_
    refine vl_nil ?_
    refine v_cond rfl (fun hW => ?_) (fun hW => ?_)
    · have hW' : wrightB q.n q.ws = false := by rw [← en]; simpa using hW
      refine v_seq ?_
      refine v_region ?_
      refine vl_val (os_assign rfl) ?_
      refine vl_nil ?_
      refine v_ret ?_
      exact post_ret rfl rfl (⟨by simp [taskB, hW'], hb2⟩)
    · have hW' : wrightB q.n q.ws = true := by rw [← en]; simpa using hW
      have c0' : rightB q.n q.m q.b = true := by rw [← en, ← em, ← eb]; exact c0
      have q1 : decide (1 ≤ q.lens.length ∧ q.lens.length ≤ 8) = true := by rw [decide_eq_true_eq]; omega
      have q2 : decide (q.worths.length = q.lens.length) = true := by rw [decide_eq_true_eq]; omega
      have e0 : taskB q = (!(q.lens.any (outB 65535)) && !(q.worths.any (outB 1048576))) := by unfold taskB; rw [c0', q1, q2, hW']; simp
      refine v_skip ?_
      refine v_seq ?_
      refine v_seq ?_
      refine v_region ?_
      refine vl_val (os_assign rfl) ?_
      refine vl_nil ?_
      refine v_block ?_
      refine v_loop [(1, _)] (fun (i : Nat) => [(3, .int .i64 i)]) (fun i w' => i ≤ d.ll ∧ (∀ j, j < i → (0 ≤ q.lens.getD j 0 ∧ q.lens.getD j 0 ≤ 65535) ∧ 0 ≤ q.worths.getD j 0 ∧ q.worths.getD j 0 ≤ 1048576) ∧ w' = w2) (fun i => d.ll - i) (0) ⟨rfl, trivial⟩ ⟨rfl, trivial⟩ (⟨by omega, fun j hj => absurd hj (by omega), rfl⟩) ?_
      rintro i w2 ⟨hi, hall, rfl⟩
      refine v_seq ?_
      refine v_seq ?_
      refine v_region ?_
      refine vl_val (os_move rfl) ?_
      refine vl_val (os_fa (o := 3) (k := 0) (by kernel_rfl) rfl) ?_
      refine vl_val (os_load Try.isAgg40 rfl (hB2.cell (i := 3) rfl)) ?_
      refine vl_val (os_len Try.underlying40 rfl) ?_
      refine vl_val (os_lss rfl rfl) ?_
      refine vl_nil ?_
      refine v_cond_d rfl (fun hlt => ?_) (fun hlt => ?_)
      · obtain ⟨bL, oL, eL, cL⟩ := hd2.L.at_ (i := i) (by omega)
        obtain ⟨bW, oW, eW, cW⟩ := hd2.W.at_ (i := i) (by omega)
        have cl3 := hB2.cell (i := 3) (v := .slice (some ⟨bL, oL, none⟩) d.ll d.lc) (by rw [← eL]; rfl)
        have cl4 := hB2.cell (i := 4) (v := .slice (some ⟨bW, oW, none⟩) d.wl d.wc) (by rw [← eW]; rfl)
        rcases (by omega : q.lens.getD i 0 < 0 ∨ (0 ≤ q.lens.getD i 0 ∧ 65535 < q.lens.getD i 0) ∨ ((0 ≤ q.lens.getD i 0 ∧ q.lens.getD i 0 ≤ 65535) ∧ q.worths.getD i 0 < 0) ∨ ((0 ≤ q.lens.getD i 0 ∧ q.lens.getD i 0 ≤ 65535) ∧ 0 ≤ q.worths.getD i 0 ∧ 1048576 < q.worths.getD i 0) ∨ ((0 ≤ q.lens.getD i 0 ∧ q.lens.getD i 0 ≤ 65535) ∧ 0 ≤ q.worths.getD i 0 ∧ q.worths.getD i 0 ≤ 1048576)) with g | ⟨g, g2⟩ | ⟨g, g2⟩ | ⟨g, g2, g3⟩ | ⟨g, g2, g3⟩
        · refine v_skip ?_
          refine v_seq ?_
          refine v_block ?_
          refine v_seq ?_
          refine v_region ?_
          refine vl_val (os_fa (o := 3) (k := 0) (by kernel_rfl) rfl) ?_
          refine vl_val (os_load Try.isAgg40 rfl (cl3)) ?_
          refine vl_val (os_move rfl) ?_
          refine vl_val (os_ix Try.underlying40 Try.sizeOf3 rfl rfl (i := i) (by omega) (by omega)) ?_
          refine vl_val (os_load Try.isAgg3 rfl (cL)) ?_
          refine vl_val (os_t (os_lss rfl rfl) (by omega)) ?_
          refine vl_val (os_move rfl) ?_
          refine vl_skip rfl rfl ?_
          refine vl_skip rfl rfl ?_
          refine vl_skip rfl rfl ?_
          refine vl_skip rfl rfl ?_
          refine vl_skip rfl rfl ?_
          refine vl_skip rfl rfl ?_
          refine vl_val (os_pick_t rfl rfl) ?_
          refine vl_val (os_move rfl) ?_
          refine vl_skip rfl rfl ?_
          refine vl_skip rfl rfl ?_
          refine vl_skip rfl rfl ?_
          refine vl_skip rfl rfl ?_
          refine vl_skip rfl rfl ?_
          refine vl_skip rfl rfl ?_
          refine vl_val (os_pick_t rfl rfl) ?_
          refine vl_val (os_move rfl) ?_
          refine vl_skip rfl rfl ?_
          refine vl_skip rfl rfl ?_
          refine vl_skip rfl rfl ?_
          refine vl_skip rfl rfl ?_
          refine vl_skip rfl rfl ?_
          refine vl_skip rfl rfl ?_
          refine vl_val (os_pick_t rfl rfl) ?_
          refine vl_nil ?_
          refine v_cond_t rfl ?_
          refine v_seq ?_
          refine v_region ?_
          refine vl_val (os_assign rfl) ?_
          refine vl_nil ?_
          refine v_ret ?_
          exact post_ret rfl rfl (⟨by rw [e0, any_true (j := i) (by omega) (.inl g)]; rfl, hb2⟩)
        · refine v_skip ?_
          refine v_seq ?_
          refine v_block ?_
          refine v_seq ?_
          refine v_region ?_
          refine vl_val (os_fa (o := 3) (k := 0) (by kernel_rfl) rfl) ?_
          refine vl_val (os_load Try.isAgg40 rfl (cl3)) ?_
          refine vl_val (os_move rfl) ?_
          refine vl_val (os_ix Try.underlying40 Try.sizeOf3 rfl rfl (i := i) (by omega) (by omega)) ?_
          refine vl_val (os_load Try.isAgg3 rfl (cL)) ?_
          refine vl_val (os_f (os_lss rfl rfl) (by omega)) ?_
          refine vl_val (os_move rfl) ?_
          refine vl_valg rfl (os_fa (o := 3) (k := 0) (by kernel_rfl) rfl) ?_
          refine vl_valg rfl (os_load Try.isAgg40 rfl (cl3)) ?_
          refine vl_valg rfl (os_move rfl) ?_
          refine vl_valg rfl (os_ix Try.underlying40 Try.sizeOf3 rfl rfl (i := i) (by omega) (by omega)) ?_
          refine vl_valg rfl (os_load Try.isAgg3 rfl (cL)) ?_
          refine vl_valg rfl (os_t (os_gtr rfl rfl) (by omega)) ?_
          refine vl_val (os_pick_f rfl rfl) ?_
          refine vl_val (os_move rfl) ?_
          refine vl_skip rfl rfl ?_
          refine vl_skip rfl rfl ?_
          refine vl_skip rfl rfl ?_
          refine vl_skip rfl rfl ?_
          refine vl_skip rfl rfl ?_
          refine vl_skip rfl rfl ?_
          refine vl_val (os_pick_t rfl rfl) ?_
          refine vl_val (os_move rfl) ?_
          refine vl_skip rfl rfl ?_
          refine vl_skip rfl rfl ?_
          refine vl_skip rfl rfl ?_
          refine vl_skip rfl rfl ?_
          refine vl_skip rfl rfl ?_
          refine vl_skip rfl rfl ?_
          refine vl_val (os_pick_t rfl rfl) ?_
          refine vl_nil ?_
          refine v_cond_t rfl ?_
          refine v_seq ?_
          refine v_region ?_
          refine vl_val (os_assign rfl) ?_
          refine vl_nil ?_
          refine v_ret ?_
          exact post_ret rfl rfl (⟨by rw [e0, any_true (j := i) (by omega) (.inr g2)]; rfl, hb2⟩)
        · refine v_skip ?_
          refine v_seq ?_
          refine v_block ?_
          refine v_seq ?_
          refine v_region ?_
          refine vl_val (os_fa (o := 3) (k := 0) (by kernel_rfl) rfl) ?_
          refine vl_val (os_load Try.isAgg40 rfl (cl3)) ?_
          refine vl_val (os_move rfl) ?_
          refine vl_val (os_ix Try.underlying40 Try.sizeOf3 rfl rfl (i := i) (by omega) (by omega)) ?_
          refine vl_val (os_load Try.isAgg3 rfl (cL)) ?_
          refine vl_val (os_f (os_lss rfl rfl) (by omega)) ?_
          refine vl_val (os_move rfl) ?_
          refine vl_valg rfl (os_fa (o := 3) (k := 0) (by kernel_rfl) rfl) ?_
          refine vl_valg rfl (os_load Try.isAgg40 rfl (cl3)) ?_
          refine vl_valg rfl (os_move rfl) ?_
          refine vl_valg rfl (os_ix Try.underlying40 Try.sizeOf3 rfl rfl (i := i) (by omega) (by omega)) ?_
          refine vl_valg rfl (os_load Try.isAgg3 rfl (cL)) ?_
          refine vl_valg rfl (os_f (os_gtr rfl rfl) (by omega)) ?_
          refine vl_val (os_pick_f rfl rfl) ?_
          refine vl_val (os_move rfl) ?_
          refine vl_valg rfl (os_fa (o := 4) (k := 0) (by kernel_rfl) rfl) ?_
          refine vl_valg rfl (os_load Try.isAgg40 rfl (cl4)) ?_
          refine vl_valg rfl (os_move rfl) ?_
          refine vl_valg rfl (os_ix Try.underlying40 Try.sizeOf3 rfl rfl (i := i) (by omega) (by omega)) ?_
          refine vl_valg rfl (os_load Try.isAgg3 rfl (cW)) ?_
          refine vl_valg rfl (os_t (os_lss rfl rfl) (by omega)) ?_
          refine vl_val (os_pick_f rfl rfl) ?_
          refine vl_val (os_move rfl) ?_
          refine vl_skip rfl rfl ?_
          refine vl_skip rfl rfl ?_
          refine vl_skip rfl rfl ?_
          refine vl_skip rfl rfl ?_
          refine vl_skip rfl rfl ?_
          refine vl_skip rfl rfl ?_
          refine vl_val (os_pick_t rfl rfl) ?_
          refine vl_nil ?_
          refine v_cond_t rfl ?_
          refine v_seq ?_
          refine v_region ?_
          refine vl_val (os_assign rfl) ?_
          refine vl_nil ?_
          refine v_ret ?_
          exact post_ret rfl rfl (⟨by rw [e0, any_true (zs := q.worths) (j := i) (by omega) (.inl g2)]; simp, hb2⟩)
        · refine v_skip ?_
          refine v_seq ?_
          refine v_block ?_
          refine v_seq ?_
          refine v_region ?_
          refine vl_val (os_fa (o := 3) (k := 0) (by kernel_rfl) rfl) ?_
          refine vl_val (os_load Try.isAgg40 rfl (cl3)) ?_
          refine vl_val (os_move rfl) ?_
          refine vl_val (os_ix Try.underlying40 Try.sizeOf3 rfl rfl (i := i) (by omega) (by omega)) ?_
          refine vl_val (os_load Try.isAgg3 rfl (cL)) ?_
          refine vl_val (os_f (os_lss rfl rfl) (by omega)) ?_
          refine vl_val (os_move rfl) ?_
          refine vl_valg rfl (os_fa (o := 3) (k := 0) (by kernel_rfl) rfl) ?_
          refine vl_valg rfl (os_load Try.isAgg40 rfl (cl3)) ?_
          refine vl_valg rfl (os_move rfl) ?_
          refine vl_valg rfl (os_ix Try.underlying40 Try.sizeOf3 rfl rfl (i := i) (by omega) (by omega)) ?_
          refine vl_valg rfl (os_load Try.isAgg3 rfl (cL)) ?_
          refine vl_valg rfl (os_f (os_gtr rfl rfl) (by omega)) ?_
          refine vl_val (os_pick_f rfl rfl) ?_
          refine vl_val (os_move rfl) ?_
          refine vl_valg rfl (os_fa (o := 4) (k := 0) (by kernel_rfl) rfl) ?_
          refine vl_valg rfl (os_load Try.isAgg40 rfl (cl4)) ?_
          refine vl_valg rfl (os_move rfl) ?_
          refine vl_valg rfl (os_ix Try.underlying40 Try.sizeOf3 rfl rfl (i := i) (by omega) (by omega)) ?_
          refine vl_valg rfl (os_load Try.isAgg3 rfl (cW)) ?_
          refine vl_valg rfl (os_f (os_lss rfl rfl) (by omega)) ?_
          refine vl_val (os_pick_f rfl rfl) ?_
          refine vl_val (os_move rfl) ?_
          refine vl_valg rfl (os_fa (o := 4) (k := 0) (by kernel_rfl) rfl) ?_
          refine vl_valg rfl (os_load Try.isAgg40 rfl (cl4)) ?_
          refine vl_valg rfl (os_move rfl) ?_
          refine vl_valg rfl (os_ix Try.underlying40 Try.sizeOf3 rfl rfl (i := i) (by omega) (by omega)) ?_
          refine vl_valg rfl (os_load Try.isAgg3 rfl (cW)) ?_
          refine vl_valg rfl (os_gtr rfl rfl) ?_
          refine vl_val (os_pick_f rfl rfl) ?_
          refine vl_nil ?_
          refine v_cond_yes rfl (by omega) ?_
          refine v_seq ?_
          refine v_region ?_
          refine vl_val (os_assign rfl) ?_
          refine vl_nil ?_
          refine v_ret ?_
          exact post_ret rfl rfl (⟨by rw [e0, any_true (zs := q.worths) (j := i) (by omega) (.inr g3)]; simp, hb2⟩)
        · refine v_skip ?_
          refine v_seq ?_
          refine v_block ?_
          refine v_seq ?_
          refine v_region ?_
          refine vl_val (os_fa (o := 3) (k := 0) (by kernel_rfl) rfl) ?_
          refine vl_val (os_load Try.isAgg40 rfl (cl3)) ?_
          refine vl_val (os_move rfl) ?_
          refine vl_val (os_ix Try.underlying40 Try.sizeOf3 rfl rfl (i := i) (by omega) (by omega)) ?_
          refine vl_val (os_load Try.isAgg3 rfl (cL)) ?_
          refine vl_val (os_f (os_lss rfl rfl) (by omega)) ?_
          refine vl_val (os_move rfl) ?_
          refine vl_valg rfl (os_fa (o := 3) (k := 0) (by kernel_rfl) rfl) ?_
          refine vl_valg rfl (os_load Try.isAgg40 rfl (cl3)) ?_
          refine vl_valg rfl (os_move rfl) ?_
          refine vl_valg rfl (os_ix Try.underlying40 Try.sizeOf3 rfl rfl (i := i) (by omega) (by omega)) ?_
          refine vl_valg rfl (os_load Try.isAgg3 rfl (cL)) ?_
          refine vl_valg rfl (os_f (os_gtr rfl rfl) (by omega)) ?_
          refine vl_val (os_pick_f rfl rfl) ?_
          refine vl_val (os_move rfl) ?_
          refine vl_valg rfl (os_fa (o := 4) (k := 0) (by kernel_rfl) rfl) ?_
          refine vl_valg rfl (os_load Try.isAgg40 rfl (cl4)) ?_
          refine vl_valg rfl (os_move rfl) ?_
          refine vl_valg rfl (os_ix Try.underlying40 Try.sizeOf3 rfl rfl (i := i) (by omega) (by omega)) ?_
          refine vl_valg rfl (os_load Try.isAgg3 rfl (cW)) ?_
          refine vl_valg rfl (os_f (os_lss rfl rfl) (by omega)) ?_
          refine vl_val (os_pick_f rfl rfl) ?_
          refine vl_val (os_move rfl) ?_
          refine vl_valg rfl (os_fa (o := 4) (k := 0) (by kernel_rfl) rfl) ?_
          refine vl_valg rfl (os_load Try.isAgg40 rfl (cl4)) ?_
          refine vl_valg rfl (os_move rfl) ?_
          refine vl_valg rfl (os_ix Try.underlying40 Try.sizeOf3 rfl rfl (i := i) (by omega) (by omega)) ?_
          refine vl_valg rfl (os_load Try.isAgg3 rfl (cW)) ?_
          refine vl_valg rfl (os_gtr rfl rfl) ?_
          refine vl_val (os_pick_f rfl rfl) ?_
          refine vl_nil ?_
          refine v_cond_no rfl (by omega) ?_
          refine v_skip ?_
          refine v_region ?_
          refine vl_val (os_move rfl) ?_
          refine vl_val (os_addi rfl rfl (by omega)) ?_
          refine vl_val (os_assign rfl) ?_
          refine vl_nil ?_
          exact ⟨i + 1, ⟨rfl, trivial⟩, ⟨rfl, trivial⟩, ⟨by omega, fun j hj => by by_cases e : j = i; (subst e; exact ⟨g, g2, g3⟩); (exact hall j (by omega)), rfl⟩, by dsimp only; omega⟩
      · obtain rfl : i = d.ll := by omega
        refine v_exit ?_
        refine v_seq ?_
        refine v_region ?_
        refine vl_val (os_assign rfl) ?_
        refine vl_nil ?_
        refine v_ret ?_
        exact post_ret rfl rfl (⟨by rw [e0, any_false (fun j hj => (hall j (by omega)).1), any_false (fun j hj => (hall j (by omega)).2)]; rfl, hb2⟩)
end Go.Proofs.Ytpojijnjdlnokaa

/- Layer 13: the document's Best and Score. -/
namespace Go.Proofs.Ytpojijnjdlnokaa
open Go.RowKit
set_option linter.unusedVariables false

theorem Tc.kb {w w' : World} {B Z : Nat} {v : Value} {us : List Value} {N r : Nat} {cc : Nat → List Value} (h : Tc w B Z v us N r cc) {S : List Nat} (hb : Kb S w w') (hS : ∀ b ∈ S, b < B) : Tc w' B Z v us N r cc :=
  ⟨Own.kb h.own hb fun g hg hm => by have := (World.ownsRow.lt h.own g hg).1; have := hS g hm; omega, h.ob, h.len, fun i h1 h2 => by
    obtain ⟨g, e, hg, hB, hZ, hn⟩ := h.each i h1 h2
    exact ⟨g, e, hg.kb hb (fun hm => by have := hS g hm; omega), hB, hZ, hn⟩⟩
/-- the tables of all layers from j on; none lies ahead of block G -/
def Alls (w : World) (G : Nat) (q : TaskP) (n r : Nat) (av : List Value) (j : Nat) : Prop := ∀ a, j ≤ a → a < q.lens.length → ∃ s u c B Z, av[a]? = some (.slice (some ⟨s, 0, none⟩) (n + 1) (n + 1)) ∧ Tc w B Z (.slice (some ⟨s, 0, none⟩) (n + 1) (n + 1)) u (n + 1) r c ∧ G ≤ B ∧ ∀ k, 1 ≤ k → k ≤ n → c k = rowV (puV (FQ q n (q.lens.length - (a + 1)) a) k (n + 1 - k)) (2 * r + 1)
theorem Alls.kb {w w' G q n r av j} (h : Alls w G q n r av j) {S : List Nat} (hb : Kb S w w') (hS : ∀ b ∈ S, b < G) : Alls w' G q n r av j := fun a h1 h2 => by
  obtain ⟨s, u, c, B, Z, e, hT, hG, hc⟩ := h a h1 h2
  exact ⟨s, u, c, B, Z, e, hT.kb hb (fun b hb => by have := hS b hb; omega), hG, hc⟩
theorem Alls.keep {w w' G q n r av j} (h : Alls w G q n r av j) (hb : Below w.heap.size w w') : Alls w' G q n r av j := fun a h1 h2 => by
  obtain ⟨s, u, c, B, Z, e, hT, hG, hc⟩ := h a h1 h2
  exact ⟨s, u, c, B, Z, e, hT.keep hb, hG, hc⟩
theorem up_sc {q : TaskP} {n m a k x : Nat} (hk : 1 ≤ k) (hkn : k ≤ n) : (upP (FQ q n m a x) k (n + 1 - k)).1 = scP n (lysF q (m + 1) a) k x := (upP_mx hk (by omega)).1

theorem rdc2 {w : World} {g o : Nat} {a b : Value} (h0 : w.cell? ⟨g, o, none⟩ = some a) (h1 : w.cell? ⟨g, o + 1, none⟩ = some b) : RdC w (some ⟨g, o, none⟩) [a, b] := fun _ => ⟨g, o, rfl, fun i hi => by
  rcases i with _ | _ | i
  · exact h0
  · exact h1
  · simp at hi; omega⟩
set_option maxHeartbeats 8000000 in
theorem r13_Best (d : TaskV) (q : TaskP) (w : World) (hd : TaskOk w d q) : Gives Try.prog 30 #[.agg d.cells.toArray] w fun v w' => ∃ s, v = .tuple #[s, .int .i64 (bestE q)] ∧ OwnK w' w.heap.size 3 .i64 s (bestL q) ∧ Below w.heap.size w w' := by
  have hB := bk_new w d.cells 51
  have hb0 : Below w.heap.size w (w.alloc (.cells d.cells.toArray 51)) := (Below.refl _ w).alloc (Nat.le_refl _) _
  cases hT : taskB q
  · have hE : bestE q = 2 := by simp [bestE, hT]
    refine gives_enter Try.call30 Try.func30 rfl rfl rfl (by kernel_rfl) ?_
    refine v_seq ?_
    refine v_region ?_
    refine vl_val (os_box rfl) ?_
    refine vl_val (os_assign rfl) ?_
    refine vl_val (os_assign rfl) ?_
    refine vl_nil ?_
    refine v_seq ?_
    refine v_seq ?_
    refine v_region ?_
    refine vl_val (os_loadB Try.underlying51 rfl (by kernel_rfl) rfl hB) ?_
    refine vl_call (gives_boolb (r13_Right d q _ (hd.keep hb0)) hT) rfl ?_
    rintro v1 w1 ⟨rfl, b1⟩
    refine vl_val (os_not rfl) ?_
    refine vl_nil ?_
    refine v_cond_t rfl ?_
    refine v_seq ?_
    refine v_region ?_
    refine vl_val (os_assign rfl) ?_
    refine vl_val (os_assign rfl) ?_
    refine vl_nil ?_
    refine v_ret ?_
    exact post_ret2 rfl rfl rfl (⟨_, by rw [hE], by rw [bestL, if_neg (by rw [hE]; decide)]; exact Own.nil _ _ _, hb0.trans (b1.mono hb0.size)⟩)
  have hR := taskR hT
  obtain ⟨n, hn⟩ : ∃ n, n = q.n.toNat := ⟨_, rfl⟩
  rw [← hn] at hR
  have hdn : d.n = (n : Int) := hd.n.trans hR.n_
  have hn1 := hR.n1
  have hn2 := hR.n2
  have hl1 := hR.l1
  have hl8 := hR.l2
  have hll := hd.ll
  have hro : roomOk q.n q.m q.b d.ll = true := by
    have := hR.n_; have := hR.m1; have := hR.b1
    simp only [roomOk, rightB, betw, Bool.and_eq_true, decide_eq_true_eq]; omega
  have hrv : roomV d.n d.m d.b d.ll = roomQ q := by rw [hd.n, hd.m, hd.b]; unfold roomV; rw [if_pos hro]; unfold roomQ; rw [hll]
  have hci := can_iff hR
  have cn : nthV d.cells 0 = some (.int .i64 (n : Int)) := by show some (Value.int .i64 d.n) = _; rw [hdn]
  refine gives_enter Try.call30 Try.func30 rfl rfl rfl (by kernel_rfl) ?_
  refine v_seq ?_
  refine v_region ?_
  refine vl_val (os_box rfl) ?_
  refine vl_val (os_assign rfl) ?_
  refine vl_val (os_assign rfl) ?_
  refine vl_nil ?_
  refine v_seq ?_
  refine v_seq ?_
  refine v_region ?_
  refine vl_val (os_loadB Try.underlying51 rfl (by kernel_rfl) rfl hB) ?_
  refine vl_call (gives_boolb (r13_Right d q _ (hd.keep hb0)) hT) rfl ?_
  rintro v1 w1 ⟨rfl, b1⟩
  have hb1 := hb0.trans (b1.mono hb0.size)
  have hB1 := hB.keep b1
  refine vl_val (os_not rfl) ?_
  refine vl_nil ?_
  refine v_cond_f rfl ?_
  refine v_skip ?_
  refine v_seq ?_
  refine v_region ?_
  refine vl_val (os_fa (o := 0) (k := 2) (by kernel_rfl) rfl) ?_
  refine vl_val (os_loadP (cs := [.int .i64 d.n, .int .i64 d.m, .int .i64 d.b]) Try.underlying49 rfl (by kernel_rfl) rfl ((Bk.rdc hB1).take 3)) ?_
  refine vl_val (os_fa (o := 3) (k := 0) (by kernel_rfl) rfl) ?_
  refine vl_val (os_load Try.isAgg40 rfl (hB1.cell (i := 3) rfl)) ?_
  refine vl_val (os_len Try.underlying40 rfl) ?_
  refine vl_call (ref11_Room d.n d.m d.b d.ll w1) rfl ?_
  rintro v2 w2 ⟨rfl, b2⟩
  have hb2 := hb1.trans (b2.mono hb1.size)
  have hB2 := hB1.keep b2
  rw [hrv]
  refine vl_val (os_move rfl) ?_
  refine vl_val (os_extract rfl rfl) ?_
  refine vl_val (os_extract rfl rfl) ?_
  refine vl_val (os_assign rfl) ?_
  refine vl_val (os_assign rfl) ?_
  refine vl_nil ?_
  refine v_seq ?_
  refine v_seq ?_
  refine v_region ?_
  refine vl_val (os_move rfl) ?_
  refine vl_val (os_lss rfl rfl) ?_
  refine vl_nil ?_
  refine v_cond_d rfl (fun hneg => ?_) (fun hneg => ?_)
  · have hC : canB q.n q.m q.b q.lens = false := by
      cases hh : canB q.n q.m q.b q.lens
      · rfl
      · have := (hci.1 hh).1; omega
    have hE : bestE q = 12 := by simp [bestE, hT, hC]
    refine v_seq ?_
    refine v_region ?_
    refine vl_val (os_assign rfl) ?_
    refine vl_val (os_assign rfl) ?_
    refine vl_nil ?_
    refine v_ret ?_
    exact post_ret2 rfl rfl rfl (⟨_, by rw [hE], by rw [bestL, if_neg (by rw [hE]; decide)]; exact Own.nil _ _ _, hb2⟩)
  · obtain ⟨r, hr⟩ : ∃ r : Nat, roomQ q = r := ⟨(roomQ q).toNat, by omega⟩
    have hr2 : r ≤ 2000 := by
      have : roomQ q ≤ 1500 := by unfold roomQ roomW; have := hR.m1; omega
      omega
    have hrn : (roomQ q).toNat = r := by omega
    rw [hrn] at hci
    have hbl : bestE q = 0 → bestL q = (toldP n (lysF q q.lens.length 0) 1 r).map fun (x : Nat) => (x : Int) := fun hE => by unfold bestL bestN; rw [if_pos hE, ← hn, hrn]
    obtain ⟨L, hL⟩ : ∃ L, L = q.lens.length := ⟨_, rfl⟩
    rw [hr]
    refine v_skip ?_
    refine v_seq ?_
    refine v_region ?_
    refine vl_val (os_fa (o := 0) (k := 2) (by kernel_rfl) rfl) ?_
    refine vl_val (os_fa (o := 0) (k := 0) (by kernel_rfl) rfl) ?_
    refine vl_val (os_load Try.isAgg3 rfl (hB2.cell (i := 0) cn)) ?_
    refine vl_val (os_addi rfl rfl (by omega)) ?_
    refine vl_some (ot_make (l := n + 1) Try.underlying97 ti_cells rfl rfl rfl (by omega) (by omega) (by omega) (by simp [maxLen]; omega) _ (Nat.le_refl _)) ?_
    rintro v3 w3 ⟨e3, o3, g3⟩
    have b3 := (Below.refl _ w2).grown g3 (Nat.le_refl _) (fun k hk => by cases hk)
    have hB3 := hB2.keep b3
    have hb3 := hb2.trans (b3.mono hb2.size)
    obtain ⟨sb, hsb, rfl⟩ : ∃ sb, sb = w2.heap.size ∧ v3 = .slice (some ⟨sb, 0, none⟩) (n + 1) (n + 1) := ⟨_, rfl, e3⟩
    have hsb3 : sb < w3.heap.size := (World.ownsRow.lt o3 sb rfl).2
    have hs2 := hb2.size
    refine vl_val (os_assign rfl) ?_
    refine vl_nil ?_
    refine v_seq ?_
    refine v_seq ?_
    refine v_region ?_
    refine vl_val (os_assign rfl) ?_
    refine vl_nil ?_
    refine v_block ?_
    refine v_loop [(1, _), (4, _), (6, _)] (fun (k : Nat) => [(7, .int .i64 k)]) (fun k w' => k ≤ n + 1 ∧ (∃ us cc, us.length = n + 1 ∧ Tc w' w.heap.size w'.heap.size (.slice (some ⟨sb, 0, none⟩) (n + 1) (n + 1)) us k r cc ∧ (∀ i, 1 ≤ i → i < k → cc i = List.replicate ((r + 1) * 2) (.int .i64 0))) ∧ Below w.heap.size w w' ∧ Bk w' w.heap.size d.cells 51) (fun k => n + 1 - k) (0) ⟨rfl, rfl, rfl, trivial⟩ ⟨rfl, trivial⟩ (⟨by omega, ⟨_, (fun _ => []), by simp, ⟨o3.mono hs2, fun g hg => by have e : sb = g := (by simpa [Value.ownBlock] using hg); omega, by simp, fun i h1 h2 => absurd h2 (by omega)⟩, fun i h1 h2 => absurd h2 (by omega)⟩, hb3, hB3⟩) ?_
    rintro k w4 ⟨hk, ⟨us, cc, hul, hT4, hcc⟩, hb4, hB4⟩
    refine v_seq ?_
    refine v_seq ?_
    refine v_region ?_
    refine vl_val (os_move rfl) ?_
    refine vl_val (os_fa (o := 0) (k := 2) (by kernel_rfl) rfl) ?_
    refine vl_val (os_fa (o := 0) (k := 0) (by kernel_rfl) rfl) ?_
    refine vl_val (os_load Try.isAgg3 rfl (hB4.cell (i := 0) cn)) ?_
    refine vl_val (os_leq rfl rfl) ?_
    refine vl_nil ?_
    refine v_cond_d rfl (fun hlt => ?_) (fun hlt => ?_)
    · refine v_skip ?_
      refine v_seq ?_
      refine v_block ?_
      refine v_region ?_
      refine vl_val (os_move rfl) ?_
      refine vl_val (os_move rfl) ?_
      refine vl_val (os_move rfl) ?_
      refine vl_val (os_addi rfl rfl (by omega)) ?_
      refine vl_some (ot_make2 (l := r + 1) Try.underlying98 ti_cell rfl rfl (by omega) (by omega) (by omega) (by simp [maxLen]; omega)) ?_
      rintro v5 w5 ⟨rfl, k5, g5⟩
      obtain ⟨gf, hgf⟩ : ∃ gf, gf = w4.heap.size := ⟨_, rfl⟩
      have b5 := (Below.refl _ w4).grown g5 (Nat.le_refl _) (fun k hk => by cases hk)
      have hT5 := hT4.keep b5
      rw [← hgf] at k5 hT5 ⊢
      refine vl_val (os_ix Try.underlying97 Try.sizeOf98 rfl rfl (i := k) (by omega) (by omega)) ?_
      refine vl_unit (ou_store Try.sizeOf98 rfl rfl rfl ((Own.get hT5.own (List.getElem?_eq_getElem (by omega)))) ((Own.free hT5.own _))) ?_
      have hT6 := hT5.hang (.slice (some ⟨gf, 0, none⟩) (r + 1) (r + 1))
      have hgof : sb < gf := by have := hT5.ob sb rfl; exact this
      have k6 := Bk.other (a := ⟨sb, 0 + k, none⟩) k5 (by simp; omega) (.slice (some ⟨gf, 0, none⟩) (r + 1) (r + 1))
      have hwlt := hB4.lt
      have hB6 := Bk.other (a := ⟨sb, 0 + k, none⟩) (hB4.keep b5) (by have := hB2.lt; simp; omega) (.slice (some ⟨gf, 0, none⟩) (r + 1) (r + 1))
      have hb6 : Below w.heap.size w (w5.setCell ⟨sb, 0 + k, none⟩ (.slice (some ⟨gf, 0, none⟩) (r + 1) (r + 1))) := below_set (hb4.trans (b5.mono hb4.size)) (by omega) _ _
      have hu4 : (us.set k (.slice (some ⟨gf, 0, none⟩) (r + 1) (r + 1)))[k]? = some (.slice (some ⟨gf, 0, none⟩) (r + 1) (r + 1)) := List.getElem?_set_self (by omega)
      have hs4 := hb4.size
      refine vl_nil ?_
      refine v_region ?_
      refine vl_val (os_move rfl) ?_
      refine vl_val (os_addi rfl rfl (by omega)) ?_
      refine vl_val (os_assign rfl) ?_
      refine vl_nil ?_
      exact ⟨k + 1, ⟨rfl, rfl, rfl, trivial⟩, ⟨rfl, trivial⟩, ⟨by omega, ⟨_, _, by rw [List.length_set]; exact hul, hT6.push hu4 k6 (by omega) (Nat.le_refl _) k6.lt, fun i h1 h2 => by by_cases e : i = k; (subst e; exact if_pos rfl); (exact (if_neg e).trans (hcc i h1 (by omega)))⟩, hb6, hB6⟩, by dsimp only; omega⟩
    · obtain rfl : k = n + 1 := by omega
      refine v_exit ?_
      refine v_seq ?_
      refine v_region ?_
      refine vl_val (os_fa (o := 3) (k := 0) (by kernel_rfl) rfl) ?_
      refine vl_val (os_load Try.isAgg40 rfl (hB4.cell (i := 3) rfl)) ?_
      refine vl_val (os_len Try.underlying40 rfl) ?_
      refine vl_some (ot_make (l := d.ll) Try.underlying99 ti_cellss rfl rfl rfl rfl rfl (by omega) (by simp [maxLen]; omega) _ (Nat.le_refl _)) ?_
      rintro v5 w5 ⟨e5, o5, g5⟩
      have b5 := (Below.refl _ w4).grown g5 (Nat.le_refl _) (fun k hk => by cases hk)
      have hB5 := hB4.keep b5
      have hb5 := hb4.trans (b5.mono hb4.size)
      have hT5 := hT4.keep b5
      obtain ⟨ga, hga, rfl⟩ : ∃ ga, ga = w4.heap.size ∧ v5 = .slice (some ⟨ga, 0, none⟩) d.ll d.ll := ⟨_, rfl, e5⟩
      have hga5 : ga < w5.heap.size := (World.ownsRow.lt o5 ga rfl).2
      have hs4 := hb4.size
      refine vl_val (os_assign rfl) ?_
      refine vl_nil ?_
      refine v_seq ?_
      refine v_seq ?_
      refine v_region ?_
      refine vl_val (os_fa (o := 3) (k := 0) (by kernel_rfl) rfl) ?_
      refine vl_val (os_load Try.isAgg40 rfl (hB5.cell (i := 3) rfl)) ?_
      refine vl_val (os_len Try.underlying40 rfl) ?_
      refine vl_val (os_subi rfl rfl (by omega)) ?_
      refine vl_val (os_assign rfl) ?_
      refine vl_nil ?_
      refine v_block ?_
      refine v_loop2 [(1, _), (4, _), (8, _)] (fun (s : Nat) (j : Nat) => [(6, .slice (some ⟨s, 0, none⟩) (n + 1) (n + 1)), (9, .int .i64 ((j : Int) - 1))]) (fun s j w' => j ≤ d.ll ∧ (∃ ub cb Bb Zb, Tc w' Bb Zb (.slice (some ⟨s, 0, none⟩) (n + 1) (n + 1)) ub (n + 1) r cb ∧ w.heap.size ≤ Bb ∧ ∀ k, 1 ≤ k → k ≤ n → ∀ x, x ≤ r → nthV (cb k) (2 * x) = some (.int .i64 (scP n (lysF q (L - j) j) k x))) ∧ (∃ av, av.length = L ∧ Own w' w.heap.size 97 (.slice (some ⟨ga, 0, none⟩) d.ll d.ll) av ∧ Alls w' w5.heap.size q n r av j) ∧ Below w.heap.size w w' ∧ Bk w' w.heap.size d.cells 51 ∧ w5.heap.size ≤ w'.heap.size) (fun s j => j) (sb) (d.ll) ⟨rfl, rfl, rfl, trivial⟩ ⟨rfl, rfl, trivial⟩ (⟨Nat.le_refl _, ⟨us, cc, _, _, hT5, Nat.le_refl _, fun k h1 h2 x hx => by rw [hcc k h1 (by omega), rowV_rep2, nthV_eq, rowV_at (by omega), show L - d.ll = 0 by omega]; rfl⟩, ⟨_, by simp; omega, o5.mono hs4, fun a h1 h2 => absurd h1 (by omega)⟩, hb5, hB5, Nat.le_refl _⟩) ?_
      rintro s j w6 ⟨hj, ⟨ub, cb, Bb, Zb, hT6, hBb, hcb⟩, ⟨av, hal, hoa, hA6⟩, hb6, hB6, hs56⟩
      refine v_seq ?_
      refine v_seq ?_
      refine v_region ?_
      refine vl_val (os_move rfl) ?_
      refine vl_val (os_geq rfl rfl) ?_
      refine vl_nil ?_
      refine v_cond_d rfl (fun hj0 => ?_) (fun hj0 => ?_)
      · refine v_skip ?_
        refine v_seq ?_
        refine v_block ?_
        refine v_seq ?_
        refine v_region ?_
        refine vl_val (os_loadB Try.underlying51 rfl (by kernel_rfl) rfl hB6) ?_
        obtain ⟨a, rfl⟩ : ∃ a, j = a + 1 := ⟨j - 1, by omega⟩
        rw [show (((a + 1 : Nat) : Int) - 1) = (a : Int) by omega]
        refine vl_val (os_move rfl) ?_
        refine vl_val (os_move rfl) ?_
        refine vl_val (os_move rfl) ?_
        refine vl_call (r13_layer d q n r a (L - (a + 1)) s Bb Zb ub cb w6 (hd.keep hb6) hR (by omega) hr2 hT6 hcb) rfl ?_
        rintro v7 w7 ⟨s2, u2, c2, rfl, hT7, hc7, b7⟩
        have hoa7 := Own.keepAll hoa b7
        have hs67 := b7.size
        have hA7 := hA6.keep b7
        have hs6 := hb6.size
        refine vl_val (os_assign rfl) ?_
        refine vl_nil ?_
        refine v_region ?_
        refine vl_val (os_move rfl) ?_
        refine vl_val (os_move rfl) ?_
        refine vl_val (os_move rfl) ?_
        refine vl_val (os_ix Try.underlying99 Try.sizeOf97 rfl rfl (i := a) (by omega) (by omega)) ?_
        refine vl_unit (ou_store Try.sizeOf97 rfl rfl rfl ((Own.get hoa7 (List.getElem?_eq_getElem (by omega)))) ((Own.free hoa7 _))) ?_
        have hB8 := Bk.other (a := ⟨ga, 0 + a, none⟩) (hB6.keep b7) (by have := hB4.lt; simp; omega) (.slice (some ⟨s2, 0, none⟩) (n + 1) (n + 1))
        have kset : Kb [ga] w7 (w7.setCell ⟨ga, 0 + a, none⟩ (.slice (some ⟨s2, 0, none⟩) (n + 1) (n + 1))) := Kb.set (by simp) _ _
        have hsz8 := kset.size
        have hla : L - a = (L - (a + 1)) + 1 := by omega
        have hT8 := hT7.kb kset (fun b hb => by have := List.mem_singleton.1 hb; omega)
        refine vl_nil ?_
        refine v_region ?_
        refine vl_val (os_move rfl) ?_
        refine vl_val (os_subi rfl rfl (by omega)) ?_
        refine vl_val (os_assign rfl) ?_
        refine vl_nil ?_
        exact ⟨⟨s2, a⟩, ⟨rfl, rfl, rfl, trivial⟩, ⟨rfl, rfl, trivial⟩, ⟨by dsimp only; omega, ⟨u2, c2, _, _, hT8, by omega, fun k h1 h2 x hx => by dsimp only; rw [hc7 k h1 h2, nthV_eq, rowV_at (by omega), puV_0, up_sc h1 h2, hla]⟩, ⟨av.set a (.slice (some ⟨s2, 0, none⟩) (n + 1) (n + 1)), by rw [List.length_set]; exact hal, by rw [Nat.zero_add]; exact Own.set hoa7 a _, fun a' h1 h2 => by by_cases e : a' = a; (subst e; exact ⟨s2, u2, c2, _, _, List.getElem?_set_self (by omega), hT8, hs56, fun k h1 h2 => by rw [hc7 k h1 h2, hL]⟩); (obtain ⟨s3, u3, c3, B3, Z3, e3, hT3, hG3, hc3⟩ := (hA7.kb kset (fun b hb => by have := List.mem_singleton.1 hb; omega)) a' (by dsimp only at h1; omega) h2; exact ⟨s3, u3, c3, B3, Z3, by rw [List.getElem?_set_ne (fun h => e h.symm)]; exact e3, hT3, hG3, hc3⟩)⟩, below_set (hb6.trans (b7.mono hb6.size)) (by omega) _ _, hB8, by omega⟩, by dsimp only; omega⟩
      · obtain rfl : j = 0 := by omega
        have hrep : ∃ f : Nat, f = 1 := ⟨_, rfl⟩
        refine v_exit ?_
        refine v_seq ?_
        refine v_region ?_
        refine vl_val (os_assign rfl) ?_
        refine vl_nil ?_
        refine v_seq ?_
        refine v_region ?_
        refine vl_val (os_assign rfl) ?_
        refine vl_nil ?_
        refine v_seq ?_
        refine v_seq ?_
        refine v_region ?_
        refine vl_val (os_assign rfl) ?_
        refine vl_nil ?_
        refine v_block ?_
        refine v_loop4 [(1, _), (8, _)] (fun (x : Nat) (v : Value) (f : Nat) (i : Nat) => [(4, .int .i64 x), (10, v), (11, .int .i64 f), (12, .int .i64 i)]) (fun x v f i w' => i ≤ L ∧ 1 ≤ f ∧ f ≤ n ∧ x ≤ r ∧ ((scP n (lysF q (L - i) i) f x ≠ -1 ∧ scP n (lysF q L 0) 1 r ≠ -1) ∨ (i = 0 ∧ f = 1 ∧ x = r)) ∧ (∃ out : List Nat, out.length = i ∧ OwnK w' w6.heap.size 3 .i64 v (out.map fun (x : Nat) => (x : Int)) ∧ out ++ toldP n (lysF q (L - i) i) f x = toldP n (lysF q L 0) 1 r) ∧ Below w6.heap.size w6 w') (fun x v f i => L - i) (r) (.slice none 0 0) (1) (0) ⟨rfl, rfl, trivial⟩ ⟨rfl, rfl, rfl, rfl, trivial⟩ (⟨by omega, by omega, by omega, by omega, .inr ⟨rfl, rfl, rfl⟩, ⟨[], rfl, Own.nil _ _ _, rfl⟩, Below.refl _ _⟩) ?_
        rintro x v f i w7 ⟨hi, hf1, hf2, hx, hsc, ⟨out, hol, ho, htl⟩, b67⟩
        have hb7 := hb6.trans (b67.mono hb6.size)
        have hB7 := hB6.keep b67
        have hd7 := hd.keep hb7
        refine v_seq ?_
        refine v_seq ?_
        refine v_region ?_
        refine vl_val (os_move rfl) ?_
        refine vl_val (os_fa (o := 3) (k := 0) (by kernel_rfl) rfl) ?_
        refine vl_val (os_load Try.isAgg40 rfl (hB7.cell (i := 3) rfl)) ?_
        refine vl_val (os_len Try.underlying40 rfl) ?_
        refine vl_val (os_lss rfl rfl) ?_
        refine vl_nil ?_
        refine v_cond_d rfl (fun hlt => ?_) (fun hlt => ?_)
        · obtain ⟨s3, u3, c3, B3, Z3, e3, hT3, hG3, hc3⟩ := (hA6.keep b67) i (by omega) (by omega)
          obtain ⟨gk, huk, hBk⟩ := hT3.get (i := f) (by omega) (by omega)
          have hcf := hc3 f hf1 hf2
          rw [← hL] at hcf
          have hlsc : lysF q (L - i) i = lyQ q i :: lysF q (L - (i + 1)) (i + 1) := lysF_cons (by omega)
          have csc := hBk.cell (i := 2 * x) (v := .int .i64 (scP n (lysF q (L - i) i) f x)) (by rw [hcf, nthV_eq, rowV_at (by omega), puV_0, up_sc hf1 hf2, show L - (i + 1) + 1 = L - i by omega])
          have ckk := hBk.cell (i := 2 * x + 1) (v := .int .i64 ((upP (FQ q n (L - (i + 1)) i x) f (n + 1 - f)).2 : Int)) (by rw [hcf, nthV_eq, rowV_at (by omega), puV_1])
          have hoa7 := Own.keepAll hoa b67
          refine v_skip ?_
          refine v_seq ?_
          refine v_block ?_
          refine v_seq ?_
          refine v_region ?_
          refine vl_val (os_move rfl) ?_
          refine vl_val (os_move rfl) ?_
          refine vl_val (os_ix Try.underlying99 Try.sizeOf97 rfl rfl (i := i) (by omega) (by omega)) ?_
          refine vl_val (os_load Try.isAgg97 rfl (Own.get hoa7 e3)) ?_
          refine vl_val (os_move rfl) ?_
          refine vl_val (os_ix Try.underlying97 Try.sizeOf98 rfl rfl (i := f) (by omega) (by omega)) ?_
          refine vl_val (os_load Try.isAgg98 rfl (Own.get hT3.own huk)) ?_
          refine vl_val (os_move rfl) ?_
          refine vl_val (os_ixs Try.underlying98 Try.sizeOf102 rfl rfl (i := x) (by omega) (by omega)) ?_
          refine vl_val (os_loadP (cs := [.int .i64 (scP n (lysF q (L - i) i) f x), .int .i64 ((upP (FQ q n (L - (i + 1)) i x) f (n + 1 - f)).2 : Int)]) Try.underlying102 rfl (by kernel_rfl) rfl (rdc2 (by rw [show 0 + x * 2 = 0 + 2 * x by omega]; exact csc) (by rw [show 0 + x * 2 + 1 = 0 + (2 * x + 1) by omega]; exact ckk))) ?_
          refine vl_val (os_allocB Try.zeroValue102 (zc := _) (cs := [.int .i64 0, .int .i64 0]) rfl) ?_
          have hM0 := bk_new w7 [.int .i64 0, .int .i64 0] 102
          refine vl_unit (ou_storeB (by kernel_rfl) rfl rfl hM0 rfl rfl) ?_
          have hM1 := setRow_bk hM0 [.int .i64 (scP n (lysF q (L - i) i) f x), .int .i64 ((upP (FQ q n (L - (i + 1)) i x) f (n + 1 - f)).2 : Int)]
          have b8 : Below w7.heap.size w7 _ := below_setRow ((Below.refl _ w7).alloc (Nat.le_refl _) (.cells [Value.int .i64 0, .int .i64 0].toArray 102)) (Nat.le_refl _) [Value.int .i64 (scP n (lysF q (L - i) i) f x), .int .i64 ((upP (FQ q n (L - (i + 1)) i x) f (n + 1 - f)).2 : Int)].toArray
          obtain ⟨M, hM⟩ : ∃ M, M = w7.heap.size := ⟨_, rfl⟩
          rw [← hM] at hM1 ⊢
          have b8 : Below w7.heap.size w7 ((w7.alloc (.cells [Value.int .i64 0, .int .i64 0].toArray 102)).setRow M [Value.int .i64 (scP n (lysF q (L - i) i) f x), .int .i64 ((upP (FQ q n (L - (i + 1)) i x) f (n + 1 - f)).2 : Int)].toArray) := by rw [hM]; exact b8
          generalize (w7.alloc (.cells [Value.int .i64 0, .int .i64 0].toArray 102)).setRow M [Value.int .i64 (scP n (lysF q (L - i) i) f x), .int .i64 ((upP (FQ q n (L - (i + 1)) i x) f (n + 1 - f)).2 : Int)].toArray = w8 at *
          have hb8 := hb7.trans (b8.mono hb7.size)
          have b68 := b67.trans (b8.mono b67.size)
          have hB8 := hB7.keep b8
          have hd8 := hd7.keep b8
          refine vl_nil ?_
          refine v_seq ?_
          refine v_seq ?_
          refine v_region ?_
          refine vl_val (os_fa (o := 0) (k := 0) (by kernel_rfl) rfl) ?_
          refine vl_val (os_load Try.isAgg3 rfl (hM1.cell (i := 0) rfl)) ?_
          refine vl_val (os_lss rfl rfl) ?_
          refine vl_nil ?_
          refine v_cond_d rfl (fun hneg2 => ?_) (fun hneg2 => ?_)
          · have hge := scP_ge (n := n) (ls := lysF q (L - i) i) (k := f) (room := x)
            obtain ⟨rfl, rfl, rfl⟩ : i = 0 ∧ f = 1 ∧ x = r := by rcases hsc with h | h; (have := h.1; omega); exact h
            have hC : canB q.n q.m q.b q.lens = false := by
              cases hh : canB q.n q.m q.b q.lens
              · rfl
              · have h9 := (hci.1 hh).2; rw [← hL] at h9; simp only [Nat.sub_zero] at hneg2 hge; omega
            have hE : bestE q = 12 := by simp [bestE, hT, hC]
            refine v_seq ?_
            refine v_region ?_
            refine vl_val (os_assign rfl) ?_
            refine vl_val (os_assign rfl) ?_
            refine vl_nil ?_
            refine v_ret ?_
            exact post_ret2 rfl rfl rfl (⟨_, by rw [hE], by rw [bestL, if_neg (by rw [hE]; decide)]; exact Own.nil _ _ _, hb8⟩)
          · have hsc2 : scP n (lysF q (L - i) i) f x ≠ -1 := by omega
            have hroot : scP n (lysF q L 0) 1 r ≠ -1 := by
              rcases hsc with h | ⟨h1, h2, h3⟩
              · exact h.2
              · subst h1; subst h2; subst h3; exact hsc2
            have hsc3 := hsc2
            rw [hlsc, scP] at hsc3
            obtain ⟨a1, a2, a3, a4⟩ := argP_spec hf1 hsc3
            have hJ2 := (upP_mx (f := FQ q n (L - (i + 1)) i x) hf1 (by omega : f ≤ n + 1)).2 hsc3
            rw [hJ2] at hM1
            have htl2 : out ++ (argP (valP (lyQ q i) (scP n (lysF q (L - (i + 1)) (i + 1))) x) n f :: toldP n (lysF q (L - (i + 1)) (i + 1)) (argP (valP (lyQ q i) (scP n (lysF q (L - (i + 1)) (i + 1))) x) n f) (x - (lyQ q i).wd (argP (valP (lyQ q i) (scP n (lysF q (L - (i + 1)) (i + 1))) x) n f))) = toldP n (lysF q L 0) 1 r := by rw [← htl, hlsc]; rfl
            obtain ⟨J, hJ⟩ : ∃ J, J = argP (valP (lyQ q i) (scP n (lysF q (L - (i + 1)) (i + 1))) x) n f := ⟨_, rfl⟩
            have hM1 : Bk w8 M [.int .i64 (scP n (lysF q (L - i) i) f x), .int .i64 (J : Int)] 102 := by rw [hJ]; exact hM1
            rw [← hJ] at a1 a2 a3 a4 htl2
            have hval : (lyQ q i).wd J ≤ x ∧ scP n (lysF q (L - (i + 1)) (i + 1)) J (x - (lyQ q i).wd J) ≠ -1 := by
              apply Classical.byContradiction
              intro hh
              have : valP (lyQ q i) (scP n (lysF q (L - (i + 1)) (i + 1))) x J = -1 := by unfold valP; rw [if_neg hh]
              omega
            have hlenq := hR.len i (by omega)
            have hok : widthOk (q.lens.getD i 0) J = true := by simp only [widthOk, decide_eq_true_eq]; omega
            have hwb := width_bd hok
            obtain ⟨wd, hwd⟩ : ∃ wd : Nat, wd = (lyQ q i).wd J := ⟨_, rfl⟩
            have hwd' : (wd : Int) = widthW (q.lens.getD i 0) J := by rw [hwd]; show ((widthW (q.lens.getD i 0) J).toNat : Int) = _; omega
            have hwv : widthV (q.lens.getD i 0) J = (wd : Int) := by unfold widthV; rw [if_pos hok]; exact hwd'.symm
            rw [← hwd] at hval htl2
            obtain ⟨bL, oL, eL, cL⟩ := hd8.L.at_ (i := i) (by omega)
            refine v_skip ?_
            refine v_seq ?_
            refine v_region_t LeD _ mixed (by kernel_rfl) lee_d (led_start _) ?_
            refine vt_val (fun w hw => os_fa (o := 3) (k := 0) (by kernel_rfl) rfl) ?_
            refine vt_val (fun w hw => os_load Try.isAgg40 rfl (led_cell hw ((hB8.cell (i := 3) (v := .slice (some ⟨bL, oL, none⟩) d.ll d.lc) (by rw [← eL]; rfl))))) ?_
            refine vt_val (fun w hw => os_move rfl) ?_
            refine vt_val (fun w hw => os_ix Try.underlying40 Try.sizeOf3 rfl rfl (i := i) (by omega) (by omega)) ?_
            refine vt_val (fun w hw => os_load Try.isAgg3 rfl (led_cell hw (cL))) ?_
            refine vt_val (fun w hw => os_fa (o := 1) (k := 0) (by kernel_rfl) rfl) ?_
            refine vt_val (fun w hw => os_load Try.isAgg3 rfl (led_cell hw (hM1.cell (i := 1) rfl))) ?_
            refine vt_call (v := _) (fun w hw => (ref09_Width (q.lens.getD i 0) J w).mono fun v w' hh => ⟨hh.1, by rw [hh.2]; exact lee_d.refl _⟩) rfl ?_
            refine vt_val (fun w hw => os_move rfl) ?_
            refine vt_val (fun w hw => os_extract rfl rfl) ?_
            refine vt_val (fun w hw => os_extract rfl rfl) ?_
            refine vt_val (fun w hw => os_assign rfl) ?_
            refine vt_val (fun w hw => os_assign rfl) ?_
            refine vt_nil (fun w hw => ?_)
            obtain ⟨q1, rfl⟩ := hw
            rw [hwv]
            have e9 : Below w8.heap.size w8 (w8.drewN q1) := led_below ⟨q1, rfl⟩
            have hM9 := hM1.led (⟨q1, rfl⟩ : LeD w8 _)
            have b69 := b68.trans (e9.mono b68.size)
            have hb9 := hb8.trans (e9.mono hb8.size)
            have ho9 := (Own.keepAll ho b8).led (⟨q1, rfl⟩ : LeD w8 _)
            generalize w8.drewN q1 = w9 at *
            have hol2 : (out.map fun (x : Nat) => (x : Int)).length = i := by rw [List.length_map, hol]
            refine v_seq ?_
            refine v_region ?_
            refine vl_val (os_move rfl) ?_
            refine vl_val (os_fa (o := 1) (k := 0) (by kernel_rfl) rfl) ?_
            refine vl_val (os_load Try.isAgg3 rfl (hM9.cell (i := 1) rfl)) ?_
            refine vl_val (os_lit Try.underlying40 Try.sizeOf3 Try.zeroValue3 rfl rfl rfl rfl (by decide)) ?_
            refine vl_some (ot_append Try.underlying40 ti_int rfl rfl rfl (Own.alloc ho9 (.cells [Value.int .i64 J].toArray 3)) (rdc_alloc w9 [Value.int .i64 J] _) rfl (by intro u hu; rw [List.mem_singleton.1 hu]; rfl) (by simp; omega) (by simp [maxLen]; omega) (by have := b69.size; simp; omega)) ?_
            rintro v10 w10 ⟨ho10, hg10⟩
            have hM10 := Bk.grown (Bk.alloc hM9 (.cells [Value.int .i64 J].toArray 3)) hg10 (fun e => by have := (World.ownsRow.lt ho M e.symm).2; omega)
            have b610 := Own.below (b69.alloc b69.size (.cells [Value.int .i64 J].toArray 3)) (Own.alloc ho9 _) hg10 (Nat.le_refl _) (by have := b69.size; simp; omega)
            refine vl_val (os_assign rfl) ?_
            refine vl_nil ?_
            refine v_seq ?_
            refine v_region ?_
            refine vl_val (os_fa (o := 1) (k := 0) (by kernel_rfl) rfl) ?_
            refine vl_val (os_load Try.isAgg3 rfl (hM10.cell (i := 1) rfl)) ?_
            refine vl_val (os_assign rfl) ?_
            refine vl_nil ?_
            refine v_region ?_
            refine vl_val (os_move rfl) ?_
            refine vl_val (os_move rfl) ?_
            refine vl_val (os_subi rfl rfl (by omega)) ?_
            refine vl_val (os_assign rfl) ?_
            refine vl_nil ?_
            refine v_region ?_
            refine vl_val (os_move rfl) ?_
            refine vl_val (os_addi rfl rfl (by omega)) ?_
            refine vl_val (os_assign rfl) ?_
            refine vl_nil ?_
            exact ⟨⟨x - wd, v10, J, i + 1⟩, ⟨rfl, rfl, trivial⟩, ⟨get_int rfl (by (try dsimp only); omega), rfl, rfl, rfl, trivial⟩, ⟨by (try dsimp only); omega, by (try dsimp only); omega, by (try dsimp only); omega, by (try dsimp only); omega, .inl ⟨hval.2, hroot⟩, ⟨out ++ [J], by simp [hol], by simpa [OwnK] using ho10, by rw [← htl2, List.append_assoc]; rfl⟩, b610⟩, by dsimp only; omega⟩
        · obtain rfl : L = i := by omega
          have hsc2 : scP n (lysF q L 0) 1 r ≠ -1 := by
            rcases hsc with h | h
            · exact h.2
            · omega
          rw [Nat.sub_self] at htl
          have e : out = toldP n (lysF q L 0) 1 r := by rw [← htl]; simp [lysF, toldP]
          have hC : canB q.n q.m q.b q.lens = true := hci.2 ⟨by omega, by rw [← hL]; exact hsc2⟩
          have hE : bestE q = 0 := by simp [bestE, hT, hC]
          refine v_exit ?_
          refine v_seq ?_
          refine v_region ?_
          refine vl_val (os_move rfl) ?_
          refine vl_val (os_assign rfl) ?_
          refine vl_val (os_assign rfl) ?_
          refine vl_nil ?_
          refine v_ret ?_
          exact post_ret2 rfl rfl rfl (⟨_, by rw [hE], by rw [hbl hE, ← hL, ← e]; exact Own.mono ho hb6.size, hb7⟩)
end Go.Proofs.Ytpojijnjdlnokaa
