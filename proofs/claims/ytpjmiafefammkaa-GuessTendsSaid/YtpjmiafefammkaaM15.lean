/- Texts joined: GsR. -/
import Derived.Test.YtpjmiafefammkaaM14
/- Layer 24: the document's guesser: new, whether a report is right, what it says, what it hears. -/
namespace Go.Proofs.Ytpjmiafefammkaa
open Go.RowKit
set_option linter.unusedVariables false

theorem r_Share (a b : Int) (w : World) (ha : I64 a) (hb : I64 b) : Gives Try.prog 106 #[.int .i64 a, .int .i64 b] w fun v w' => v = .tuple #[.int .i64 (shareV a b), .int .i64 (argE (shareOk a b))] ∧ w' = w :=
  gives_of Try.call106 (ref23_Share a b w ha hb) fun e w' ⟨h1, h2⟩ => ⟨_, h1, rfl, h2.symm⟩
set_option maxHeartbeats 4000000 in
theorem ref24_Says (d : NoteV) (w : World) (hd : NoteOk w d) (hr : RightD d) : Gives Try.prog 62 #[.agg d.cells.toArray] w fun v w' => OwnK w' w.heap.size 3 .i64 v (saysL d.n d.cs) ∧ Below w.heap.size w w' := by
  have hl := hd.2.1
  have hn := hr.n
  have hcnt := cnt_all hr.cnt
  have hlen := hcnt.2 (by omega)
  have htb := times_bd hr.cnt
  have hB0 := bk_new w d.cells 35
  have hb0 : Below w.heap.size w (w.alloc (.cells d.cells.toArray 35)) := (Below.refl _ w).alloc (Nat.le_refl _) _
  refine gives_enter Try.call62 Try.func62 rfl rfl rfl (by kernel_rfl) ?_
  refine v_seq ?_
  refine v_region ?_
  refine vl_val (os_box rfl) ?_
  refine vl_val (os_assign rfl) ?_
  refine vl_nil ?_
  refine v_seq ?_
  refine v_region ?_
  refine vl_val (os_assign rfl) ?_
  refine vl_nil ?_
  refine v_seq ?_
  refine v_seq ?_
  refine v_region ?_
  refine vl_val (os_assign rfl) ?_
  refine vl_nil ?_
  refine v_block ?_
  refine v_loop [(1, _)] (fun (i : Nat) => [(3, .int .i64 (timesL (d.cs.take i))), (4, .int .i64 i)]) (fun i w' => i ≤ d.l ∧ w' = w.alloc (.cells d.cells.toArray 35)) (fun i => d.l - i) (0) ⟨rfl, trivial⟩ ⟨rfl, rfl, trivial⟩ (⟨by omega, rfl⟩) ?_
  rintro i w1 ⟨hi, rfl⟩
  refine v_seq ?_
  refine v_seq ?_
  refine v_region ?_
  refine vl_val (os_move rfl) ?_
  refine vl_val (os_fa (o := 3) (k := 0) (by kernel_rfl) rfl) ?_
  refine vl_val (os_load Try.isAgg33 rfl (hB0.cell (i := 3) rfl)) ?_
  refine vl_val (os_len Try.underlying33 rfl) ?_
  refine vl_val (os_lss rfl rfl) ?_
  refine vl_nil ?_
  refine v_cond_d rfl (fun h => ?_) (fun h => ?_)
  · obtain ⟨b, o, eA, q1, q2, q3⟩ := ((hd.keep hb0).1).at2 (i := i) (by omega)
    have ht1 := times_take hr.cnt i
    have ht2 := times_take hr.cnt (i + 1)
    rw [times_succ (by omega)] at ht2
    refine v_skip ?_
    refine v_seq ?_
    refine v_block ?_
    refine v_region ?_
    refine vl_val (os_move rfl) ?_
    refine vl_val (os_fa (o := 3) (k := 0) (by kernel_rfl) rfl) ?_
    refine vl_val (os_load Try.isAgg33 rfl (hB0.cell (i := 3) rfl)) ?_
    rw [eA]
    refine vl_val (os_move rfl) ?_
    refine vl_val (os_ixs Try.underlying33 Try.sizeOf49 rfl rfl (i := i) (by omega) (by omega)) ?_
    refine vl_val (os_fa (o := 1) (k := 0) (by kernel_rfl) rfl) ?_
    refine vl_val (os_load Try.isAgg3 rfl (q2)) ?_
    refine vl_val (os_addi rfl rfl (by omega)) ?_
    refine vl_val (os_assign rfl) ?_
    refine vl_nil ?_
    refine v_region ?_
    refine vl_val (os_move rfl) ?_
    refine vl_val (os_addi rfl rfl (by omega)) ?_
    refine vl_val (os_assign rfl) ?_
    refine vl_nil ?_
    exact ⟨i + 1, ⟨rfl, trivial⟩, ⟨by rw [times_succ (by omega)]; rfl, rfl, trivial⟩, ⟨by omega, rfl⟩, by dsimp only; omega⟩
  · obtain hli : d.l = i := by omega
    have hT : timesL (d.cs.take i) = timesL d.cs := by rw [List.take_of_length_le (by omega)]
    rw [hT]
    obtain ⟨w1, hw1⟩ : ∃ w1, w1 = w.alloc (.cells d.cells.toArray 35) := ⟨_, rfl⟩
    have hd1 := hd.keep hb0
    rw [← hw1] at hB0 hb0 hd1
    have hw1' : w1 = w.alloc (.cells (Value.agg d.cells.toArray).cells 35) := hw1
    first | rw [← hw1'] | rw [← hw1]
    refine v_exit ?_
    refine v_seq ?_
    refine v_region ?_
    refine vl_val (os_fa (o := 2) (k := 0) (by kernel_rfl) rfl) ?_
    refine vl_val (os_load Try.isAgg3 rfl (hB0.cell (i := 2) rfl)) ?_
    refine vl_val (os_addi rfl rfl (by omega)) ?_
    refine vl_some (ot_make (l := d.n.toNat + 1) Try.underlying40 ti_int rfl rfl rfl (by omega) (by omega) (by omega) (by simp [maxLen]; omega) w1.heap.size (Nat.le_refl _)) ?_
    rintro v2 w2 ⟨rfl, ho, hg⟩
    have b2 : Below w1.heap.size w1 w2 := (Below.refl _ _).grown hg (Nat.le_refl _) (fun k hk => by cases hk)
    refine vl_val (os_assign rfl) ?_
    refine vl_nil ?_
    refine v_seq ?_
    refine v_seq ?_
    refine v_region ?_
    refine vl_val (os_assign rfl) ?_
    refine vl_nil ?_
    refine v_block ?_
    refine v_loop [(1, _), (3, _), (5, _)] (fun (i : Nat) => [(6, .int .i64 i)]) (fun i w' => i ≤ d.l ∧ Below w1.heap.size w1 w' ∧ ∃ out, saysL d.n d.cs = saysGo (timesL d.cs) (d.cs.drop i) out ∧ out.length = d.n.toNat + 1 ∧ OwnK w' w1.heap.size 3 .i64 (.slice (some ⟨w1.heap.size, 0, none⟩) (d.n.toNat + 1) (d.n.toNat + 1)) out) (fun i => d.l - i) (0) ⟨rfl, rfl, rfl, trivial⟩ ⟨rfl, trivial⟩ (⟨by omega, b2, List.replicate (d.n.toNat + 1) 0, rfl, by simp, by simpa [OwnK] using ho⟩) ?_
    rintro i w3 ⟨hi3, b3, out, hs3, ho3, hO3⟩
    have hB3 := hB0.keep b3
    refine v_seq ?_
    refine v_seq ?_
    refine v_region ?_
    refine vl_val (os_move rfl) ?_
    refine vl_val (os_fa (o := 3) (k := 0) (by kernel_rfl) rfl) ?_
    refine vl_val (os_load Try.isAgg33 rfl (hB3.cell (i := 3) rfl)) ?_
    refine vl_val (os_len Try.underlying33 rfl) ?_
    refine vl_val (os_lss rfl rfl) ?_
    refine vl_nil ?_
    refine v_cond_d rfl (fun h3 => ?_) (fun h3 => ?_)
    · obtain ⟨b, o, eA, q1, q2, q3⟩ := ((hd1.keep b3).1).at2 (i := i) (by omega)
      have hm : d.cs.getD i (0, 0) ∈ d.cs := by rw [List.getD_eq_getElem?_getD, List.getElem?_eq_getElem (by omega)]; exact List.getElem_mem _
      have hc1 := hcnt.1 (d.cs.getD i (0, 0)) hm
      have hra := rep_all hr (by omega)
      have hsv := share_val hra.1 hra.2.1 (hra.2.2 _ hm).1 (hra.2.2 _ hm).2
      have hst := saysGo_step (all := timesL d.cs) (cs := d.cs) (out := out) (i := i) (by omega)
      have hto := OwnK.cell hO3 (i := (d.cs.getD i (0, 0)).1.toNat) (by rw [ho3]; omega)
      refine v_skip ?_
      refine v_seq ?_
      refine v_block ?_
      refine v_seq ?_
      refine v_region ?_
      refine vl_val (os_fa (o := 3) (k := 0) (by kernel_rfl) rfl) ?_
      refine vl_val (os_load Try.isAgg33 rfl (hB3.cell (i := 3) rfl)) ?_
      rw [eA]
      refine vl_val (os_move rfl) ?_
      refine vl_val (os_ixs Try.underlying33 Try.sizeOf49 rfl rfl (i := i) (by omega) (by omega)) ?_
      refine vl_val (os_fa (o := 1) (k := 0) (by kernel_rfl) rfl) ?_
      refine vl_val (os_load Try.isAgg3 rfl (q2)) ?_
      refine vl_val (os_move rfl) ?_
      refine vl_call (r_Share (d.cs.getD i (0, 0)).2 (timesL d.cs) _ ⟨by omega, by omega⟩ ⟨by omega, by omega⟩) rfl ?_
      rintro v5 w3 ⟨rfl, rfl⟩
      refine vl_val (os_move rfl) ?_
      refine vl_val (os_extract rfl rfl) ?_
      refine vl_val (os_extract rfl rfl) ?_
      refine vl_val (os_assign rfl) ?_
      refine vl_val (os_assign rfl) ?_
      refine vl_nil ?_
      refine v_region ?_
      refine vl_val (os_move rfl) ?_
      refine vl_val (os_fa (o := 3) (k := 0) (by kernel_rfl) rfl) ?_
      refine vl_val (os_load Try.isAgg33 rfl (hB3.cell (i := 3) rfl)) ?_
      rw [eA]
      refine vl_val (os_move rfl) ?_
      refine vl_val (os_ixs Try.underlying33 Try.sizeOf49 rfl rfl (i := i) (by omega) (by omega)) ?_
      refine vl_val (os_fa (o := 0) (k := 0) (by kernel_rfl) rfl) ?_
      refine vl_val (os_load Try.isAgg3 rfl (q1)) ?_
      refine vl_val (os_move rfl) ?_
      refine vl_val (os_ix Try.underlying40 Try.sizeOf3 rfl rfl (i := (d.cs.getD i (0, 0)).1.toNat) (by omega) (by omega)) ?_
      refine vl_unit (ou_store Try.sizeOf3 rfl rfl rfl (by rw [Nat.zero_add]; exact hto) (Own.free hO3 _)) ?_
      have hO6 : OwnK (w3.setCell ⟨w1.heap.size, 0 + (d.cs.getD i (0, 0)).1.toNat, none⟩ (.int .i64 (shareV (d.cs.getD i (0, 0)).2 (timesL d.cs)))) w1.heap.size 3 .i64 (.slice (some ⟨w1.heap.size, 0, none⟩) (d.n.toNat + 1) (d.n.toNat + 1)) (out.set (d.cs.getD i (0, 0)).1.toNat (shareV (d.cs.getD i (0, 0)).2 (timesL d.cs))) := by
        rw [Nat.zero_add]
        exact OwnK.set hO3 (d.cs.getD i (0, 0)).1.toNat (shareV (d.cs.getD i (0, 0)).2 (timesL d.cs))
      refine vl_nil ?_
      refine v_region ?_
      refine vl_val (os_move rfl) ?_
      refine vl_val (os_addi rfl rfl (by omega)) ?_
      refine vl_val (os_assign rfl) ?_
      refine vl_nil ?_
      exact ⟨i + 1, ⟨rfl, rfl, rfl, trivial⟩, ⟨rfl, trivial⟩, ⟨by omega, below_set b3 (Nat.le_refl _) _ _, out.set (d.cs.getD i (0, 0)).1.toNat (shareV (d.cs.getD i (0, 0)).2 (timesL d.cs)), by rw [hs3, hst], by simp [ho3], hO6⟩, by dsimp only; omega⟩
    · obtain hli3 : d.l = i := by omega
      rw [List.drop_of_length_le (by omega)] at hs3
      refine v_exit ?_
      refine v_seq ?_
      refine v_region ?_
      refine vl_val (os_move rfl) ?_
      refine vl_val (os_assign rfl) ?_
      refine vl_nil ?_
      refine v_ret ?_
      exact post_ret rfl rfl (⟨by rw [hs3]; exact Own.mono hO3 hb0.size, hb0.trans (Below.mono b3 hb0.size)⟩)

set_option maxHeartbeats 4000000 in
theorem ref24_Right (d : NoteV) (w : World) (hd : NoteOk w d) : Gives Try.prog 19 #[.agg d.cells.toArray] w fun v w' => v = .bool (rightN d) ∧ Below w.heap.size w w' := by
  have hl := hd.2.1
  have hl9 := hd.2.2.1
  have hB0 := bk_new w d.cells 35
  have hb0 : Below w.heap.size w (w.alloc (.cells d.cells.toArray 35)) := (Below.refl _ w).alloc (Nat.le_refl _) _
  refine gives_enter Try.call19 Try.func19 rfl rfl rfl (by kernel_rfl) ?_
  refine v_seq ?_
  refine v_region ?_
  refine vl_val (os_box rfl) ?_
  refine vl_val (os_assign rfl) ?_
  refine vl_nil ?_
  refine v_seq ?_
  refine v_seq ?_
  refine v_region ?_
  refine vl_val (os_assign rfl) ?_
  refine vl_nil ?_
  refine v_block ?_
  refine v_loop [(1, _)] (fun (i : Nat) => [(3, .int .i64 i)]) (fun i w' => i ≤ d.l ∧ 0 ≤ lastC d.cs i ∧ cntOk d.n 0 d.cs = cntOk d.n (lastC d.cs i) (d.cs.drop i) ∧ LeG (w.alloc (.cells d.cells.toArray 35)) w') (fun i => d.l - i) (0) ⟨rfl, trivial⟩ ⟨rfl, trivial⟩ (⟨by omega, by simp [lastC], rfl, lee_g.refl _⟩) ?_
  rintro i w1 ⟨hi, hz0, hg, b1⟩
  have hN1 := hB0.keep b1
  refine v_seq ?_
  refine v_seq ?_
  refine v_region ?_
  refine vl_val (os_move rfl) ?_
  refine vl_val (os_fa (o := 3) (k := 0) (by kernel_rfl) rfl) ?_
  refine vl_val (os_load Try.isAgg33 rfl (hN1.cell (i := 3) rfl)) ?_
  refine vl_val (os_len Try.underlying33 rfl) ?_
  refine vl_val (os_lss rfl rfl) ?_
  refine vl_nil ?_
  refine v_cond_d rfl (fun h => ?_) (fun h => ?_)
  · obtain ⟨b, o, eA, q1, q2, q3⟩ := (show RdP w1 2 d.A (d.cs.map rowC) from (hd.keep hb0).1.keep b1).at2 (i := i) (by omega)
    have hst := cnt_step (n := d.n) (cs := d.cs) (i := i) (last := lastC d.cs i) (by omega)
    refine v_skip ?_
    refine v_seq ?_
    refine v_block ?_
    refine v_seq ?_
    refine v_region ?_
    refine vl_val (os_fa (o := 3) (k := 0) (by kernel_rfl) rfl) ?_
    refine vl_val (os_load Try.isAgg33 rfl (hN1.cell (i := 3) rfl)) ?_
    refine vl_val (os_move rfl) ?_
    refine vl_val (os_ixs Try.underlying33 Try.sizeOf49 (by rw [eA]; rfl) rfl (i := i) (by omega) (by omega)) ?_
    refine vl_val (os_loadP Try.underlying49 rfl (by kernel_rfl) rfl q3) ?_
    refine vl_val (os_allocB Try.zeroValue49 (zc := _) (cs := [.int .i64 0, .int .i64 0]) rfl) ?_
    have hC0 := bk_new w1 [.int .i64 0, .int .i64 0] 49
    have b2 := Below.alloc b1 (Below.size b1) (.cells [Value.int .i64 0, .int .i64 0].toArray 49)
    refine vl_unit (ou_storeB (by kernel_rfl) rfl rfl hC0 rfl rfl) ?_
    have hC := setRow_bk hC0 (rowC (d.cs.getD i (0, 0)))
    have b3 := below_setRow b2 (Below.size b1) (rowC (d.cs.getD i (0, 0))).toArray
    have hD := hB0.keep b3
    generalize hW5 : (w1.alloc (.cells [Value.int .i64 0, .int .i64 0].toArray 49)).setRow w1.heap.size (rowC (d.cs.getD i (0, 0))).toArray = W5 at *
    obtain ⟨X, hX⟩ : ∃ X, (d.cs.getD i (0, 0)).1 = X := ⟨_, rfl⟩
    obtain ⟨Y, hY⟩ : ∃ Y, (d.cs.getD i (0, 0)).2 = Y := ⟨_, rfl⟩
    rw [hX, hY] at hst
    unfold rowC at hC
    rw [hX, hY] at hC
    refine vl_nil ?_
    rcases (by omega : X < 1 ∨ (1 ≤ X ∧ d.n < X) ∨ (1 ≤ X ∧ X ≤ d.n ∧ Y < 1) ∨ (1 ≤ X ∧ X ≤ d.n ∧ 1 ≤ Y ∧ 65535 < Y) ∨ (1 ≤ X ∧ X ≤ d.n ∧ 1 ≤ Y ∧ Y ≤ 65535)) with g | ⟨g, g2⟩ | ⟨g, g2, g3⟩ | ⟨g, g2, g3, g4⟩ | ⟨g, g2, g3, g4⟩
    · refine v_seq ?_
      refine v_region_t LeD _ mixed (by kernel_rfl) lee_d (led_start _) ?_
      refine vt_val (fun w hw => os_fa (o := 0) (k := 0) (by kernel_rfl) rfl) ?_
      refine vt_val (fun w hw => os_load Try.isAgg3 rfl (led_cell hw (hC.cell (i := 0) rfl))) ?_
      refine vt_val (fun w hw => os_t (os_lss rfl rfl) (by omega)) ?_
      refine vt_val (fun w hw => os_move rfl) ?_
      refine vt_skip rfl rfl ?_
      refine vt_skip rfl rfl ?_
      refine vt_skip rfl rfl ?_
      refine vt_skip rfl rfl ?_
      refine vt_skip rfl rfl ?_
      refine vt_val (fun w hw => os_pick_t rfl rfl) ?_
      refine vt_val (fun w hw => os_move rfl) ?_
      refine vt_skip rfl rfl ?_
      refine vt_skip rfl rfl ?_
      refine vt_skip rfl rfl ?_
      refine vt_val (fun w hw => os_pick_t rfl rfl) ?_
      refine vt_val (fun w hw => os_move rfl) ?_
      refine vt_skip rfl rfl ?_
      refine vt_skip rfl rfl ?_
      refine vt_skip rfl rfl ?_
      refine vt_val (fun w hw => os_pick_t rfl rfl) ?_
      refine vt_val (fun w hw => os_move rfl) ?_
      refine vt_skip rfl rfl ?_
      refine vt_skip rfl rfl ?_
      refine vt_skip rfl rfl ?_
      refine vt_skipu rfl ?_
      refine vt_skipu rfl ?_
      refine vt_skipu rfl ?_
      refine vt_skipu rfl ?_
      refine vt_skipu rfl ?_
      refine vt_skipu rfl ?_
      refine vt_skipu rfl ?_
      refine vt_skipu rfl ?_
      refine vt_skipu rfl ?_
      refine vt_skipu rfl ?_
      refine vt_skip rfl rfl ?_
      refine vt_val (fun w hw => os_pick_t rfl rfl) ?_
      refine vt_nil (fun w hw => ?_)
      obtain ⟨q, rfl⟩ := hw
      refine v_cond_t rfl ?_
      refine v_seq ?_
      refine v_region ?_
      refine vl_val (os_assign rfl) ?_
      refine vl_nil ?_
      refine v_ret ?_
      exact post_ret rfl rfl (⟨by rw [show rightN d = false by unfold rightN; rw [hg, hst, show inB X (lastC d.cs i + 1) d.n = false by simp [inB]; omega]; simp], hb0.trans (Below.mono (below_drewN_ b3 q) hb0.size)⟩)
    · refine v_seq ?_
      refine v_region_t LeD _ mixed (by kernel_rfl) lee_d (led_start _) ?_
      refine vt_val (fun w hw => os_fa (o := 0) (k := 0) (by kernel_rfl) rfl) ?_
      refine vt_val (fun w hw => os_load Try.isAgg3 rfl (led_cell hw (hC.cell (i := 0) rfl))) ?_
      refine vt_val (fun w hw => os_f (os_lss rfl rfl) (by omega)) ?_
      refine vt_val (fun w hw => os_move rfl) ?_
      refine vt_valg rfl (fun w hw => os_fa (o := 0) (k := 0) (by kernel_rfl) rfl) ?_
      refine vt_valg rfl (fun w hw => os_load Try.isAgg3 rfl (led_cell hw (hC.cell (i := 0) rfl))) ?_
      refine vt_valg rfl (fun w hw => os_fa (o := 2) (k := 0) (by kernel_rfl) rfl) ?_
      refine vt_valg rfl (fun w hw => os_load Try.isAgg3 rfl (led_cell hw (hD.cell (i := 2) rfl))) ?_
      refine vt_valg rfl (fun w hw => os_t (os_gtr rfl rfl) (by omega)) ?_
      refine vt_val (fun w hw => os_pick_f rfl rfl) ?_
      refine vt_val (fun w hw => os_move rfl) ?_
      refine vt_skip rfl rfl ?_
      refine vt_skip rfl rfl ?_
      refine vt_skip rfl rfl ?_
      refine vt_val (fun w hw => os_pick_t rfl rfl) ?_
      refine vt_val (fun w hw => os_move rfl) ?_
      refine vt_skip rfl rfl ?_
      refine vt_skip rfl rfl ?_
      refine vt_skip rfl rfl ?_
      refine vt_val (fun w hw => os_pick_t rfl rfl) ?_
      refine vt_val (fun w hw => os_move rfl) ?_
      refine vt_skip rfl rfl ?_
      refine vt_skip rfl rfl ?_
      refine vt_skip rfl rfl ?_
      refine vt_skipu rfl ?_
      refine vt_skipu rfl ?_
      refine vt_skipu rfl ?_
      refine vt_skipu rfl ?_
      refine vt_skipu rfl ?_
      refine vt_skipu rfl ?_
      refine vt_skipu rfl ?_
      refine vt_skipu rfl ?_
      refine vt_skipu rfl ?_
      refine vt_skipu rfl ?_
      refine vt_skip rfl rfl ?_
      refine vt_val (fun w hw => os_pick_t rfl rfl) ?_
      refine vt_nil (fun w hw => ?_)
      obtain ⟨q, rfl⟩ := hw
      refine v_cond_t rfl ?_
      refine v_seq ?_
      refine v_region ?_
      refine vl_val (os_assign rfl) ?_
      refine vl_nil ?_
      refine v_ret ?_
      exact post_ret rfl rfl (⟨by rw [show rightN d = false by unfold rightN; rw [hg, hst, show inB X (lastC d.cs i + 1) d.n = false by simp [inB]; omega]; simp], hb0.trans (Below.mono (below_drewN_ b3 q) hb0.size)⟩)
    · refine v_seq ?_
      refine v_region_t LeD _ mixed (by kernel_rfl) lee_d (led_start _) ?_
      refine vt_val (fun w hw => os_fa (o := 0) (k := 0) (by kernel_rfl) rfl) ?_
      refine vt_val (fun w hw => os_load Try.isAgg3 rfl (led_cell hw (hC.cell (i := 0) rfl))) ?_
      refine vt_val (fun w hw => os_f (os_lss rfl rfl) (by omega)) ?_
      refine vt_val (fun w hw => os_move rfl) ?_
      refine vt_valg rfl (fun w hw => os_fa (o := 0) (k := 0) (by kernel_rfl) rfl) ?_
      refine vt_valg rfl (fun w hw => os_load Try.isAgg3 rfl (led_cell hw (hC.cell (i := 0) rfl))) ?_
      refine vt_valg rfl (fun w hw => os_fa (o := 2) (k := 0) (by kernel_rfl) rfl) ?_
      refine vt_valg rfl (fun w hw => os_load Try.isAgg3 rfl (led_cell hw (hD.cell (i := 2) rfl))) ?_
      refine vt_valg rfl (fun w hw => os_f (os_gtr rfl rfl) (by omega)) ?_
      refine vt_val (fun w hw => os_pick_f rfl rfl) ?_
      refine vt_val (fun w hw => os_move rfl) ?_
      refine vt_valg rfl (fun w hw => os_fa (o := 1) (k := 0) (by kernel_rfl) rfl) ?_
      refine vt_valg rfl (fun w hw => os_load Try.isAgg3 rfl (led_cell hw (hC.cell (i := 1) rfl))) ?_
      refine vt_valg rfl (fun w hw => os_t (os_lss rfl rfl) (by omega)) ?_
      refine vt_val (fun w hw => os_pick_f rfl rfl) ?_
      refine vt_val (fun w hw => os_move rfl) ?_
      refine vt_skip rfl rfl ?_
      refine vt_skip rfl rfl ?_
      refine vt_skip rfl rfl ?_
      refine vt_val (fun w hw => os_pick_t rfl rfl) ?_
      refine vt_val (fun w hw => os_move rfl) ?_
      refine vt_skip rfl rfl ?_
      refine vt_skip rfl rfl ?_
      refine vt_skip rfl rfl ?_
      refine vt_skipu rfl ?_
      refine vt_skipu rfl ?_
      refine vt_skipu rfl ?_
      refine vt_skipu rfl ?_
      refine vt_skipu rfl ?_
      refine vt_skipu rfl ?_
      refine vt_skipu rfl ?_
      refine vt_skipu rfl ?_
      refine vt_skipu rfl ?_
      refine vt_skipu rfl ?_
      refine vt_skip rfl rfl ?_
      refine vt_val (fun w hw => os_pick_t rfl rfl) ?_
      refine vt_nil (fun w hw => ?_)
      obtain ⟨q, rfl⟩ := hw
      refine v_cond_t rfl ?_
      refine v_seq ?_
      refine v_region ?_
      refine vl_val (os_assign rfl) ?_
      refine vl_nil ?_
      refine v_ret ?_
      exact post_ret rfl rfl (⟨by rw [show rightN d = false by unfold rightN; rw [hg, hst, show inB Y 1 65535 = false by simp [inB]; omega]; simp], hb0.trans (Below.mono (below_drewN_ b3 q) hb0.size)⟩)
    · refine v_seq ?_
      refine v_region_t LeD _ mixed (by kernel_rfl) lee_d (led_start _) ?_
      refine vt_val (fun w hw => os_fa (o := 0) (k := 0) (by kernel_rfl) rfl) ?_
      refine vt_val (fun w hw => os_load Try.isAgg3 rfl (led_cell hw (hC.cell (i := 0) rfl))) ?_
      refine vt_val (fun w hw => os_f (os_lss rfl rfl) (by omega)) ?_
      refine vt_val (fun w hw => os_move rfl) ?_
      refine vt_valg rfl (fun w hw => os_fa (o := 0) (k := 0) (by kernel_rfl) rfl) ?_
      refine vt_valg rfl (fun w hw => os_load Try.isAgg3 rfl (led_cell hw (hC.cell (i := 0) rfl))) ?_
      refine vt_valg rfl (fun w hw => os_fa (o := 2) (k := 0) (by kernel_rfl) rfl) ?_
      refine vt_valg rfl (fun w hw => os_load Try.isAgg3 rfl (led_cell hw (hD.cell (i := 2) rfl))) ?_
      refine vt_valg rfl (fun w hw => os_f (os_gtr rfl rfl) (by omega)) ?_
      refine vt_val (fun w hw => os_pick_f rfl rfl) ?_
      refine vt_val (fun w hw => os_move rfl) ?_
      refine vt_valg rfl (fun w hw => os_fa (o := 1) (k := 0) (by kernel_rfl) rfl) ?_
      refine vt_valg rfl (fun w hw => os_load Try.isAgg3 rfl (led_cell hw (hC.cell (i := 1) rfl))) ?_
      refine vt_valg rfl (fun w hw => os_f (os_lss rfl rfl) (by omega)) ?_
      refine vt_val (fun w hw => os_pick_f rfl rfl) ?_
      refine vt_val (fun w hw => os_move rfl) ?_
      refine vt_valg rfl (fun w hw => os_fa (o := 1) (k := 0) (by kernel_rfl) rfl) ?_
      refine vt_valg rfl (fun w hw => os_load Try.isAgg3 rfl (led_cell hw (hC.cell (i := 1) rfl))) ?_
      refine vt_valg rfl (fun w hw => os_t (os_gtr rfl rfl) (by omega)) ?_
      refine vt_val (fun w hw => os_pick_f rfl rfl) ?_
      refine vt_val (fun w hw => os_move rfl) ?_
      refine vt_skip rfl rfl ?_
      refine vt_skip rfl rfl ?_
      refine vt_skip rfl rfl ?_
      refine vt_skipu rfl ?_
      refine vt_skipu rfl ?_
      refine vt_skipu rfl ?_
      refine vt_skipu rfl ?_
      refine vt_skipu rfl ?_
      refine vt_skipu rfl ?_
      refine vt_skipu rfl ?_
      refine vt_skipu rfl ?_
      refine vt_skipu rfl ?_
      refine vt_skipu rfl ?_
      refine vt_skip rfl rfl ?_
      refine vt_val (fun w hw => os_pick_t rfl rfl) ?_
      refine vt_nil (fun w hw => ?_)
      obtain ⟨q, rfl⟩ := hw
      refine v_cond_t rfl ?_
      refine v_seq ?_
      refine v_region ?_
      refine vl_val (os_assign rfl) ?_
      refine vl_nil ?_
      refine v_ret ?_
      exact post_ret rfl rfl (⟨by rw [show rightN d = false by unfold rightN; rw [hg, hst, show inB Y 1 65535 = false by simp [inB]; omega]; simp], hb0.trans (Below.mono (below_drewN_ b3 q) hb0.size)⟩)
    · rcases Nat.eq_zero_or_pos i with hz | hz
      · have hlc : lastC d.cs i = 0 := by rw [hz]; rfl
        refine v_seq ?_
        refine v_region_t LeD _ mixed (by kernel_rfl) lee_d (led_start _) ?_
        refine vt_val (fun w hw => os_fa (o := 0) (k := 0) (by kernel_rfl) rfl) ?_
        refine vt_val (fun w hw => os_load Try.isAgg3 rfl (led_cell hw (hC.cell (i := 0) rfl))) ?_
        refine vt_val (fun w hw => os_f (os_lss rfl rfl) (by omega)) ?_
        refine vt_val (fun w hw => os_move rfl) ?_
        refine vt_valg rfl (fun w hw => os_fa (o := 0) (k := 0) (by kernel_rfl) rfl) ?_
        refine vt_valg rfl (fun w hw => os_load Try.isAgg3 rfl (led_cell hw (hC.cell (i := 0) rfl))) ?_
        refine vt_valg rfl (fun w hw => os_fa (o := 2) (k := 0) (by kernel_rfl) rfl) ?_
        refine vt_valg rfl (fun w hw => os_load Try.isAgg3 rfl (led_cell hw (hD.cell (i := 2) rfl))) ?_
        refine vt_valg rfl (fun w hw => os_f (os_gtr rfl rfl) (by omega)) ?_
        refine vt_val (fun w hw => os_pick_f rfl rfl) ?_
        refine vt_val (fun w hw => os_move rfl) ?_
        refine vt_valg rfl (fun w hw => os_fa (o := 1) (k := 0) (by kernel_rfl) rfl) ?_
        refine vt_valg rfl (fun w hw => os_load Try.isAgg3 rfl (led_cell hw (hC.cell (i := 1) rfl))) ?_
        refine vt_valg rfl (fun w hw => os_f (os_lss rfl rfl) (by omega)) ?_
        refine vt_val (fun w hw => os_pick_f rfl rfl) ?_
        refine vt_val (fun w hw => os_move rfl) ?_
        refine vt_valg rfl (fun w hw => os_fa (o := 1) (k := 0) (by kernel_rfl) rfl) ?_
        refine vt_valg rfl (fun w hw => os_load Try.isAgg3 rfl (led_cell hw (hC.cell (i := 1) rfl))) ?_
        refine vt_valg rfl (fun w hw => os_f (os_gtr rfl rfl) (by omega)) ?_
        refine vt_val (fun w hw => os_pick_f rfl rfl) ?_
        refine vt_val (fun w hw => os_move rfl) ?_
        refine vt_valg rfl (fun w hw => os_move rfl) ?_
        refine vt_valg rfl (fun w hw => os_f (os_gtr rfl rfl) (by omega)) ?_
        refine vt_valg rfl (fun w hw => os_move rfl) ?_
        refine vt_skip rfl rfl ?_
        refine vt_skip rfl rfl ?_
        refine vt_skip rfl rfl ?_
        refine vt_skip rfl rfl ?_
        refine vt_skip rfl rfl ?_
        refine vt_skip rfl rfl ?_
        refine vt_skip rfl rfl ?_
        refine vt_skip rfl rfl ?_
        refine vt_skip rfl rfl ?_
        refine vt_skip rfl rfl ?_
        refine vt_valg rfl (fun w hw => os_pick_f rfl rfl) ?_
        refine vt_val (fun w hw => os_pick_f rfl rfl) ?_
        refine vt_nil (fun w hw => ?_)
        obtain ⟨q, rfl⟩ := hw
        refine v_cond_f rfl ?_
        refine v_skip ?_
        refine v_region ?_
        refine vl_val (os_move rfl) ?_
        refine vl_val (os_addi rfl rfl (by omega)) ?_
        refine vl_val (os_assign rfl) ?_
        refine vl_nil ?_
        exact ⟨i + 1, ⟨rfl, trivial⟩, ⟨rfl, trivial⟩, ⟨by omega, by show 0 ≤ (d.cs.getD i (0, 0)).1; omega, by rw [hg, hst, show inB X (lastC d.cs i + 1) d.n = true by rw [inB_iff]; omega, show inB Y 1 65535 = true by rw [inB_iff]; omega]; show cntOk d.n X _ = cntOk d.n (d.cs.getD i (0, 0)).1 _; rw [hX], below_drewN_ b3 q⟩, by dsimp only; omega⟩
      · obtain ⟨b', o', eA', p1, -, -⟩ := (show RdP W5 2 d.A (d.cs.map rowC) from ((hd.keep hb0).keep b3).1).at2 (i := i - 1) (by omega)
        have hlc : lastC d.cs i = (d.cs.getD (i - 1) (0, 0)).1 := by obtain ⟨j, rfl⟩ : ∃ j, i = j + 1 := ⟨i - 1, by omega⟩; rfl
        rw [eA] at eA'
        cases eA'
        rw [← hlc] at p1
        by_cases hlt : X ≤ lastC d.cs i
        · refine v_seq ?_
          refine v_region_t LeD _ mixed (by kernel_rfl) lee_d (led_start _) ?_
          refine vt_val (fun w hw => os_fa (o := 0) (k := 0) (by kernel_rfl) rfl) ?_
          refine vt_val (fun w hw => os_load Try.isAgg3 rfl (led_cell hw (hC.cell (i := 0) rfl))) ?_
          refine vt_val (fun w hw => os_f (os_lss rfl rfl) (by omega)) ?_
          refine vt_val (fun w hw => os_move rfl) ?_
          refine vt_valg rfl (fun w hw => os_fa (o := 0) (k := 0) (by kernel_rfl) rfl) ?_
          refine vt_valg rfl (fun w hw => os_load Try.isAgg3 rfl (led_cell hw (hC.cell (i := 0) rfl))) ?_
          refine vt_valg rfl (fun w hw => os_fa (o := 2) (k := 0) (by kernel_rfl) rfl) ?_
          refine vt_valg rfl (fun w hw => os_load Try.isAgg3 rfl (led_cell hw (hD.cell (i := 2) rfl))) ?_
          refine vt_valg rfl (fun w hw => os_f (os_gtr rfl rfl) (by omega)) ?_
          refine vt_val (fun w hw => os_pick_f rfl rfl) ?_
          refine vt_val (fun w hw => os_move rfl) ?_
          refine vt_valg rfl (fun w hw => os_fa (o := 1) (k := 0) (by kernel_rfl) rfl) ?_
          refine vt_valg rfl (fun w hw => os_load Try.isAgg3 rfl (led_cell hw (hC.cell (i := 1) rfl))) ?_
          refine vt_valg rfl (fun w hw => os_f (os_lss rfl rfl) (by omega)) ?_
          refine vt_val (fun w hw => os_pick_f rfl rfl) ?_
          refine vt_val (fun w hw => os_move rfl) ?_
          refine vt_valg rfl (fun w hw => os_fa (o := 1) (k := 0) (by kernel_rfl) rfl) ?_
          refine vt_valg rfl (fun w hw => os_load Try.isAgg3 rfl (led_cell hw (hC.cell (i := 1) rfl))) ?_
          refine vt_valg rfl (fun w hw => os_f (os_gtr rfl rfl) (by omega)) ?_
          refine vt_val (fun w hw => os_pick_f rfl rfl) ?_
          refine vt_val (fun w hw => os_move rfl) ?_
          refine vt_valg rfl (fun w hw => os_move rfl) ?_
          refine vt_valg rfl (fun w hw => os_t (os_gtr rfl rfl) (by omega)) ?_
          refine vt_valg rfl (fun w hw => os_move rfl) ?_
          refine vt_valg rfl (fun w hw => os_fa (o := 3) (k := 0) (by kernel_rfl) rfl) ?_
          refine vt_valg rfl (fun w hw => os_load Try.isAgg33 rfl (led_cell hw (hD.cell (i := 3) rfl))) ?_
          refine vt_valg rfl (fun w hw => os_move rfl) ?_
          refine vt_valg rfl (fun w hw => os_subi rfl rfl (by omega)) ?_
          refine vt_valg rfl (fun w hw => os_ixs Try.underlying33 Try.sizeOf49 (by rw [eA]; rfl) rfl (i := i - 1) (by omega) (by omega)) ?_
          refine vt_valg rfl (fun w hw => os_fa (o := 0) (k := 0) (by kernel_rfl) rfl) ?_
          refine vt_valg rfl (fun w hw => os_load Try.isAgg3 rfl (led_cell hw (p1))) ?_
          refine vt_valg rfl (fun w hw => os_fa (o := 0) (k := 0) (by kernel_rfl) rfl) ?_
          refine vt_valg rfl (fun w hw => os_load Try.isAgg3 rfl (led_cell hw (hC.cell (i := 0) rfl))) ?_
          refine vt_valg rfl (fun w hw => os_t (os_geq rfl rfl) (by omega)) ?_
          refine vt_valg rfl (fun w hw => os_pick_t rfl rfl) ?_
          refine vt_val (fun w hw => os_pick_f rfl rfl) ?_
          refine vt_nil (fun w hw => ?_)
          obtain ⟨q, rfl⟩ := hw
          refine v_cond_t rfl ?_
          refine v_seq ?_
          refine v_region ?_
          refine vl_val (os_assign rfl) ?_
          refine vl_nil ?_
          refine v_ret ?_
          exact post_ret rfl rfl (⟨by rw [show rightN d = false by unfold rightN; rw [hg, hst, show inB X (lastC d.cs i + 1) d.n = false by simp [inB]; omega]; simp], hb0.trans (Below.mono (below_drewN_ b3 q) hb0.size)⟩)
        · refine v_seq ?_
          refine v_region_t LeD _ mixed (by kernel_rfl) lee_d (led_start _) ?_
          refine vt_val (fun w hw => os_fa (o := 0) (k := 0) (by kernel_rfl) rfl) ?_
          refine vt_val (fun w hw => os_load Try.isAgg3 rfl (led_cell hw (hC.cell (i := 0) rfl))) ?_
          refine vt_val (fun w hw => os_f (os_lss rfl rfl) (by omega)) ?_
          refine vt_val (fun w hw => os_move rfl) ?_
          refine vt_valg rfl (fun w hw => os_fa (o := 0) (k := 0) (by kernel_rfl) rfl) ?_
          refine vt_valg rfl (fun w hw => os_load Try.isAgg3 rfl (led_cell hw (hC.cell (i := 0) rfl))) ?_
          refine vt_valg rfl (fun w hw => os_fa (o := 2) (k := 0) (by kernel_rfl) rfl) ?_
          refine vt_valg rfl (fun w hw => os_load Try.isAgg3 rfl (led_cell hw (hD.cell (i := 2) rfl))) ?_
          refine vt_valg rfl (fun w hw => os_f (os_gtr rfl rfl) (by omega)) ?_
          refine vt_val (fun w hw => os_pick_f rfl rfl) ?_
          refine vt_val (fun w hw => os_move rfl) ?_
          refine vt_valg rfl (fun w hw => os_fa (o := 1) (k := 0) (by kernel_rfl) rfl) ?_
          refine vt_valg rfl (fun w hw => os_load Try.isAgg3 rfl (led_cell hw (hC.cell (i := 1) rfl))) ?_
          refine vt_valg rfl (fun w hw => os_f (os_lss rfl rfl) (by omega)) ?_
          refine vt_val (fun w hw => os_pick_f rfl rfl) ?_
          refine vt_val (fun w hw => os_move rfl) ?_
          refine vt_valg rfl (fun w hw => os_fa (o := 1) (k := 0) (by kernel_rfl) rfl) ?_
          refine vt_valg rfl (fun w hw => os_load Try.isAgg3 rfl (led_cell hw (hC.cell (i := 1) rfl))) ?_
          refine vt_valg rfl (fun w hw => os_f (os_gtr rfl rfl) (by omega)) ?_
          refine vt_val (fun w hw => os_pick_f rfl rfl) ?_
          refine vt_val (fun w hw => os_move rfl) ?_
          refine vt_valg rfl (fun w hw => os_move rfl) ?_
          refine vt_valg rfl (fun w hw => os_t (os_gtr rfl rfl) (by omega)) ?_
          refine vt_valg rfl (fun w hw => os_move rfl) ?_
          refine vt_valg rfl (fun w hw => os_fa (o := 3) (k := 0) (by kernel_rfl) rfl) ?_
          refine vt_valg rfl (fun w hw => os_load Try.isAgg33 rfl (led_cell hw (hD.cell (i := 3) rfl))) ?_
          refine vt_valg rfl (fun w hw => os_move rfl) ?_
          refine vt_valg rfl (fun w hw => os_subi rfl rfl (by omega)) ?_
          refine vt_valg rfl (fun w hw => os_ixs Try.underlying33 Try.sizeOf49 (by rw [eA]; rfl) rfl (i := i - 1) (by omega) (by omega)) ?_
          refine vt_valg rfl (fun w hw => os_fa (o := 0) (k := 0) (by kernel_rfl) rfl) ?_
          refine vt_valg rfl (fun w hw => os_load Try.isAgg3 rfl (led_cell hw (p1))) ?_
          refine vt_valg rfl (fun w hw => os_fa (o := 0) (k := 0) (by kernel_rfl) rfl) ?_
          refine vt_valg rfl (fun w hw => os_load Try.isAgg3 rfl (led_cell hw (hC.cell (i := 0) rfl))) ?_
          refine vt_valg rfl (fun w hw => os_f (os_geq rfl rfl) (by omega)) ?_
          refine vt_valg rfl (fun w hw => os_pick_t rfl rfl) ?_
          refine vt_val (fun w hw => os_pick_f rfl rfl) ?_
          refine vt_nil (fun w hw => ?_)
          obtain ⟨q, rfl⟩ := hw
          refine v_cond_f rfl ?_
          refine v_skip ?_
          refine v_region ?_
          refine vl_val (os_move rfl) ?_
          refine vl_val (os_addi rfl rfl (by omega)) ?_
          refine vl_val (os_assign rfl) ?_
          refine vl_nil ?_
          exact ⟨i + 1, ⟨rfl, trivial⟩, ⟨rfl, trivial⟩, ⟨by omega, by show 0 ≤ (d.cs.getD i (0, 0)).1; omega, by rw [hg, hst, show inB X (lastC d.cs i + 1) d.n = true by rw [inB_iff]; omega, show inB Y 1 65535 = true by rw [inB_iff]; omega]; show cntOk d.n X _ = cntOk d.n (d.cs.getD i (0, 0)).1 _; rw [hX], below_drewN_ b3 q⟩, by dsimp only; omega⟩
  · have hcn : cntOk d.n 0 d.cs = true := by rw [hg, List.drop_of_length_le (by omega)]; rfl
    by_cases c0 : 0 ≤ d.st
    · by_cases c1 : d.st ≤ 65535
      · by_cases c2 : 1 ≤ d.sq
        · by_cases c3 : d.sq ≤ 2147483647
          · by_cases c4 : 1 ≤ d.n
            · refine v_exit ?_
              refine v_seq ?_
              refine v_region ?_
              refine vl_val (os_fa (o := 0) (k := 0) (by kernel_rfl) rfl) ?_
              refine vl_val (os_load Try.isAgg3 rfl (hN1.cell (i := 0) rfl)) ?_
              refine vl_val (os_t (os_geq rfl rfl) (by omega)) ?_
              refine vl_val (os_move rfl) ?_
              refine vl_valg rfl (os_fa (o := 0) (k := 0) (by kernel_rfl) rfl) ?_
              refine vl_valg rfl (os_load Try.isAgg3 rfl (hN1.cell (i := 0) rfl)) ?_
              refine vl_valg rfl (os_t (os_leq rfl rfl) (by omega)) ?_
              refine vl_val (os_pick_t rfl rfl) ?_
              refine vl_val (os_move rfl) ?_
              refine vl_valg rfl (os_fa (o := 1) (k := 0) (by kernel_rfl) rfl) ?_
              refine vl_valg rfl (os_load Try.isAgg3 rfl (hN1.cell (i := 1) rfl)) ?_
              refine vl_valg rfl (os_t (os_geq rfl rfl) (by omega)) ?_
              refine vl_val (os_pick_t rfl rfl) ?_
              refine vl_val (os_move rfl) ?_
              refine vl_valg rfl (os_fa (o := 1) (k := 0) (by kernel_rfl) rfl) ?_
              refine vl_valg rfl (os_load Try.isAgg3 rfl (hN1.cell (i := 1) rfl)) ?_
              refine vl_valg rfl (os_t (os_leq rfl rfl) (by omega)) ?_
              refine vl_val (os_pick_t rfl rfl) ?_
              refine vl_val (os_move rfl) ?_
              refine vl_valg rfl (os_fa (o := 2) (k := 0) (by kernel_rfl) rfl) ?_
              refine vl_valg rfl (os_load Try.isAgg3 rfl (hN1.cell (i := 2) rfl)) ?_
              refine vl_valg rfl (os_t (os_geq rfl rfl) (by omega)) ?_
              refine vl_val (os_pick_t rfl rfl) ?_
              refine vl_val (os_move rfl) ?_
              refine vl_valg rfl (os_fa (o := 2) (k := 0) (by kernel_rfl) rfl) ?_
              refine vl_valg rfl (os_load Try.isAgg3 rfl (hN1.cell (i := 2) rfl)) ?_
              refine vl_valg rfl (os_leq rfl rfl) ?_
              refine vl_val (os_pick_t rfl rfl) ?_
              refine vl_val (os_assign rfl) ?_
              refine vl_nil ?_
              refine v_ret ?_
              exact post_ret rfl rfl (⟨by rw [show rightN d = decide (d.n ≤ 255) by unfold rightN inB; rw [hcn, decide_eq_true (show 0 ≤ d.st ∧ d.st ≤ 65535 from ⟨c0, c1⟩), decide_eq_true (show 1 ≤ d.sq ∧ d.sq ≤ 2147483647 from ⟨c2, c3⟩)]; simp [c4]], hb0.trans (Below.mono b1 hb0.size)⟩)
            · refine v_exit ?_
              refine v_seq ?_
              refine v_region ?_
              refine vl_val (os_fa (o := 0) (k := 0) (by kernel_rfl) rfl) ?_
              refine vl_val (os_load Try.isAgg3 rfl (hN1.cell (i := 0) rfl)) ?_
              refine vl_val (os_t (os_geq rfl rfl) (by omega)) ?_
              refine vl_val (os_move rfl) ?_
              refine vl_valg rfl (os_fa (o := 0) (k := 0) (by kernel_rfl) rfl) ?_
              refine vl_valg rfl (os_load Try.isAgg3 rfl (hN1.cell (i := 0) rfl)) ?_
              refine vl_valg rfl (os_t (os_leq rfl rfl) (by omega)) ?_
              refine vl_val (os_pick_t rfl rfl) ?_
              refine vl_val (os_move rfl) ?_
              refine vl_valg rfl (os_fa (o := 1) (k := 0) (by kernel_rfl) rfl) ?_
              refine vl_valg rfl (os_load Try.isAgg3 rfl (hN1.cell (i := 1) rfl)) ?_
              refine vl_valg rfl (os_t (os_geq rfl rfl) (by omega)) ?_
              refine vl_val (os_pick_t rfl rfl) ?_
              refine vl_val (os_move rfl) ?_
              refine vl_valg rfl (os_fa (o := 1) (k := 0) (by kernel_rfl) rfl) ?_
              refine vl_valg rfl (os_load Try.isAgg3 rfl (hN1.cell (i := 1) rfl)) ?_
              refine vl_valg rfl (os_t (os_leq rfl rfl) (by omega)) ?_
              refine vl_val (os_pick_t rfl rfl) ?_
              refine vl_val (os_move rfl) ?_
              refine vl_valg rfl (os_fa (o := 2) (k := 0) (by kernel_rfl) rfl) ?_
              refine vl_valg rfl (os_load Try.isAgg3 rfl (hN1.cell (i := 2) rfl)) ?_
              refine vl_valg rfl (os_f (os_geq rfl rfl) (by omega)) ?_
              refine vl_val (os_pick_t rfl rfl) ?_
              refine vl_val (os_move rfl) ?_
              refine vl_skip rfl rfl ?_
              refine vl_skip rfl rfl ?_
              refine vl_skip rfl rfl ?_
              refine vl_val (os_pick_f rfl rfl) ?_
              refine vl_val (os_assign rfl) ?_
              refine vl_nil ?_
              refine v_ret ?_
              exact post_ret rfl rfl (⟨by rw [show rightN d = false by unfold rightN inB; simp; omega], hb0.trans (Below.mono b1 hb0.size)⟩)
          · refine v_exit ?_
            refine v_seq ?_
            refine v_region ?_
            refine vl_val (os_fa (o := 0) (k := 0) (by kernel_rfl) rfl) ?_
            refine vl_val (os_load Try.isAgg3 rfl (hN1.cell (i := 0) rfl)) ?_
            refine vl_val (os_t (os_geq rfl rfl) (by omega)) ?_
            refine vl_val (os_move rfl) ?_
            refine vl_valg rfl (os_fa (o := 0) (k := 0) (by kernel_rfl) rfl) ?_
            refine vl_valg rfl (os_load Try.isAgg3 rfl (hN1.cell (i := 0) rfl)) ?_
            refine vl_valg rfl (os_t (os_leq rfl rfl) (by omega)) ?_
            refine vl_val (os_pick_t rfl rfl) ?_
            refine vl_val (os_move rfl) ?_
            refine vl_valg rfl (os_fa (o := 1) (k := 0) (by kernel_rfl) rfl) ?_
            refine vl_valg rfl (os_load Try.isAgg3 rfl (hN1.cell (i := 1) rfl)) ?_
            refine vl_valg rfl (os_t (os_geq rfl rfl) (by omega)) ?_
            refine vl_val (os_pick_t rfl rfl) ?_
            refine vl_val (os_move rfl) ?_
            refine vl_valg rfl (os_fa (o := 1) (k := 0) (by kernel_rfl) rfl) ?_
            refine vl_valg rfl (os_load Try.isAgg3 rfl (hN1.cell (i := 1) rfl)) ?_
            refine vl_valg rfl (os_f (os_leq rfl rfl) (by omega)) ?_
            refine vl_val (os_pick_t rfl rfl) ?_
            refine vl_val (os_move rfl) ?_
            refine vl_skip rfl rfl ?_
            refine vl_skip rfl rfl ?_
            refine vl_skip rfl rfl ?_
            refine vl_val (os_pick_f rfl rfl) ?_
            refine vl_val (os_move rfl) ?_
            refine vl_skip rfl rfl ?_
            refine vl_skip rfl rfl ?_
            refine vl_skip rfl rfl ?_
            refine vl_val (os_pick_f rfl rfl) ?_
            refine vl_val (os_assign rfl) ?_
            refine vl_nil ?_
            refine v_ret ?_
            exact post_ret rfl rfl (⟨by rw [show rightN d = false by unfold rightN inB; simp; omega], hb0.trans (Below.mono b1 hb0.size)⟩)
        · refine v_exit ?_
          refine v_seq ?_
          refine v_region ?_
          refine vl_val (os_fa (o := 0) (k := 0) (by kernel_rfl) rfl) ?_
          refine vl_val (os_load Try.isAgg3 rfl (hN1.cell (i := 0) rfl)) ?_
          refine vl_val (os_t (os_geq rfl rfl) (by omega)) ?_
          refine vl_val (os_move rfl) ?_
          refine vl_valg rfl (os_fa (o := 0) (k := 0) (by kernel_rfl) rfl) ?_
          refine vl_valg rfl (os_load Try.isAgg3 rfl (hN1.cell (i := 0) rfl)) ?_
          refine vl_valg rfl (os_t (os_leq rfl rfl) (by omega)) ?_
          refine vl_val (os_pick_t rfl rfl) ?_
          refine vl_val (os_move rfl) ?_
          refine vl_valg rfl (os_fa (o := 1) (k := 0) (by kernel_rfl) rfl) ?_
          refine vl_valg rfl (os_load Try.isAgg3 rfl (hN1.cell (i := 1) rfl)) ?_
          refine vl_valg rfl (os_f (os_geq rfl rfl) (by omega)) ?_
          refine vl_val (os_pick_t rfl rfl) ?_
          refine vl_val (os_move rfl) ?_
          refine vl_skip rfl rfl ?_
          refine vl_skip rfl rfl ?_
          refine vl_skip rfl rfl ?_
          refine vl_val (os_pick_f rfl rfl) ?_
          refine vl_val (os_move rfl) ?_
          refine vl_skip rfl rfl ?_
          refine vl_skip rfl rfl ?_
          refine vl_skip rfl rfl ?_
          refine vl_val (os_pick_f rfl rfl) ?_
          refine vl_val (os_move rfl) ?_
          refine vl_skip rfl rfl ?_
          refine vl_skip rfl rfl ?_
          refine vl_skip rfl rfl ?_
          refine vl_val (os_pick_f rfl rfl) ?_
          refine vl_val (os_assign rfl) ?_
          refine vl_nil ?_
          refine v_ret ?_
          exact post_ret rfl rfl (⟨by rw [show rightN d = false by unfold rightN inB; simp; omega], hb0.trans (Below.mono b1 hb0.size)⟩)
      · refine v_exit ?_
        refine v_seq ?_
        refine v_region ?_
        refine vl_val (os_fa (o := 0) (k := 0) (by kernel_rfl) rfl) ?_
        refine vl_val (os_load Try.isAgg3 rfl (hN1.cell (i := 0) rfl)) ?_
        refine vl_val (os_t (os_geq rfl rfl) (by omega)) ?_
        refine vl_val (os_move rfl) ?_
        refine vl_valg rfl (os_fa (o := 0) (k := 0) (by kernel_rfl) rfl) ?_
        refine vl_valg rfl (os_load Try.isAgg3 rfl (hN1.cell (i := 0) rfl)) ?_
        refine vl_valg rfl (os_f (os_leq rfl rfl) (by omega)) ?_
        refine vl_val (os_pick_t rfl rfl) ?_
        refine vl_val (os_move rfl) ?_
        refine vl_skip rfl rfl ?_
        refine vl_skip rfl rfl ?_
        refine vl_skip rfl rfl ?_
        refine vl_val (os_pick_f rfl rfl) ?_
        refine vl_val (os_move rfl) ?_
        refine vl_skip rfl rfl ?_
        refine vl_skip rfl rfl ?_
        refine vl_skip rfl rfl ?_
        refine vl_val (os_pick_f rfl rfl) ?_
        refine vl_val (os_move rfl) ?_
        refine vl_skip rfl rfl ?_
        refine vl_skip rfl rfl ?_
        refine vl_skip rfl rfl ?_
        refine vl_val (os_pick_f rfl rfl) ?_
        refine vl_val (os_move rfl) ?_
        refine vl_skip rfl rfl ?_
        refine vl_skip rfl rfl ?_
        refine vl_skip rfl rfl ?_
        refine vl_val (os_pick_f rfl rfl) ?_
        refine vl_val (os_assign rfl) ?_
        refine vl_nil ?_
        refine v_ret ?_
        exact post_ret rfl rfl (⟨by rw [show rightN d = false by unfold rightN inB; simp; omega], hb0.trans (Below.mono b1 hb0.size)⟩)
    · refine v_exit ?_
      refine v_seq ?_
      refine v_region ?_
      refine vl_val (os_fa (o := 0) (k := 0) (by kernel_rfl) rfl) ?_
      refine vl_val (os_load Try.isAgg3 rfl (hN1.cell (i := 0) rfl)) ?_
      refine vl_val (os_f (os_geq rfl rfl) (by omega)) ?_
      refine vl_val (os_move rfl) ?_
      refine vl_skip rfl rfl ?_
      refine vl_skip rfl rfl ?_
      refine vl_skip rfl rfl ?_
      refine vl_val (os_pick_f rfl rfl) ?_
      refine vl_val (os_move rfl) ?_
      refine vl_skip rfl rfl ?_
      refine vl_skip rfl rfl ?_
      refine vl_skip rfl rfl ?_
      refine vl_val (os_pick_f rfl rfl) ?_
      refine vl_val (os_move rfl) ?_
      refine vl_skip rfl rfl ?_
      refine vl_skip rfl rfl ?_
      refine vl_skip rfl rfl ?_
      refine vl_val (os_pick_f rfl rfl) ?_
      refine vl_val (os_move rfl) ?_
      refine vl_skip rfl rfl ?_
      refine vl_skip rfl rfl ?_
      refine vl_skip rfl rfl ?_
      refine vl_val (os_pick_f rfl rfl) ?_
      refine vl_val (os_move rfl) ?_
      refine vl_skip rfl rfl ?_
      refine vl_skip rfl rfl ?_
      refine vl_skip rfl rfl ?_
      refine vl_val (os_pick_f rfl rfl) ?_
      refine vl_val (os_assign rfl) ?_
      refine vl_nil ?_
      refine v_ret ?_
      exact post_ret rfl rfl (⟨by rw [show rightN d = false by unfold rightN inB; simp; omega], hb0.trans (Below.mono b1 hb0.size)⟩)
end Go.Proofs.Ytpjmiafefammkaa
