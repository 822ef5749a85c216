/- Texts joined: HdL. -/
import Derived.Test.YtlfkhnchceoinaaM21
/- Layer 14: whether two headers are of one frame; the program's answer and the document's. -/
namespace Go.Proofs.Ytlfkhnchceoinaa
open Go.RowKit
set_option linter.unusedVariables false

/-- of one frame: the same but for the index -/
def likeB (a b : HeadP) : Bool := decide (a.st = b.st ∧ a.fr = b.fr ∧ a.n = b.n ∧ a.dl = b.dl ∧ a.rows = b.rows)
theorem likeB_comm (a b : HeadP) : likeB a b = likeB b a := by
  unfold likeB
  exact decide_eq_decide.2 ⟨fun ⟨a, b, c, d, e⟩ => ⟨a.symm, b.symm, c.symm, d.symm, e.symm⟩, fun ⟨a, b, c, d, e⟩ => ⟨a.symm, b.symm, c.symm, d.symm, e.symm⟩⟩
theorem take_suc_eq {xs ys : List (Int × Int)} {k : Nat} (h : xs.take k = ys.take k) (hx : k < xs.length) (hy : k < ys.length) (e : xs.getD k (0, 0) = ys.getD k (0, 0)) : xs.take (k + 1) = ys.take (k + 1) := by
  have e1 : xs.getD k (0, 0) = xs[k] := by simp [hx]
  have e2 : ys.getD k (0, 0) = ys[k] := by simp [hy]
  rw [List.take_succ_eq_append_getElem hx, List.take_succ_eq_append_getElem hy, h, ← e1, ← e2, e]
set_option maxHeartbeats 1000000 in
theorem sl_EqualR (A B : Option Addr) (n m c d : Nat) (xs ys : List (Int × Int)) (w : World) (ha : RdP w 2 A (xs.map rowC)) (hb : RdP w 2 B (ys.map rowC)) (hn : n = xs.length) (hm : m = ys.length) (hn' : n ≤ 9000000000000000) :
    Gives Try.prog 43 #[.slice A n c, .slice B m d] w fun v w' => v = .bool (decide (xs = ys)) ∧ LeD w w' := by
  refine gives_enter Try.call43 Try.func43 rfl rfl rfl (by kernel_rfl) ?_
  by_cases hlen : n = m
  · refine v_seq ?_
    refine v_region ?_
    refine vl_val (os_assign rfl) ?_
    refine vl_nil ?_
    refine v_seq ?_
    refine v_seq ?_
    refine v_region ?_
    refine vl_val (os_move rfl) ?_
    refine vl_val (os_len Try.underlying26 rfl) ?_
    refine vl_val (os_move rfl) ?_
    refine vl_val (os_len Try.underlying26 rfl) ?_
    refine vl_val (os_neq rfl rfl) ?_
    refine vl_nil ?_
    refine v_cond_no rfl (by omega) ?_
    refine v_skip ?_
    refine v_seq ?_
    refine v_seq ?_
    refine v_region ?_
    refine vl_val (os_move rfl) ?_
    refine vl_val (os_len Try.underlying26 rfl) ?_
    refine vl_val (os_move rfl) ?_
    refine vl_nil ?_
    refine v_block ?_
    refine v_loop [(0, _), (1, _), (12, _)] (fun (k : Nat) => [(13, .int .i64 k)]) (fun k w' => k ≤ n ∧ xs.take k = ys.take k ∧ LeD w w') (fun k => n - k) (0) ⟨rfl, rfl, rfl, trivial⟩ ⟨rfl, trivial⟩ (⟨by omega, rfl, lee_d.refl _⟩) ?_
    rintro k w' ⟨hk, ht, q, rfl⟩
    refine v_seq ?_
    refine v_region ?_
    refine vl_val (os_lss rfl rfl) ?_
    refine vl_nil ?_
    refine v_seq ?_
    refine v_cond_d rfl (fun hlt => ?_) (fun hlt => ?_)
    · obtain ⟨b1, o1, rfl, -, -, c1⟩ := (ha.led ⟨q, rfl⟩).at2 (i := k) (by omega)
      obtain ⟨b2, o2, rfl, -, -, c2⟩ := (hb.led ⟨q, rfl⟩).at2 (i := k) (by omega)
      by_cases he : xs.getD k (0, 0) = ys.getD k (0, 0)
      · refine v_skip ?_
        refine v_seq ?_
        refine v_block ?_
        refine v_seq ?_
        refine v_region ?_
        refine vl_val (os_move rfl) ?_
        refine vl_val (os_assign rfl) ?_
        refine vl_nil ?_
        refine v_seq ?_
        refine v_region_t LeD _ mixed (by kernel_rfl) lee_d (led_start _) ?_
        refine vt_val (fun w hw => os_move rfl) ?_
        refine vt_val (fun w hw => os_move rfl) ?_
        refine vt_val (fun w hw => os_ixs Try.underlying26 Try.sizeOf41 rfl rfl (i := k) (by omega) (by omega)) ?_
        refine vt_val (fun w hw => os_loadP Try.underlying41 rfl (by kernel_rfl) rfl (c1.led hw)) ?_
        refine vt_val (fun w hw => os_move rfl) ?_
        refine vt_val (fun w hw => os_move rfl) ?_
        refine vt_val (fun w hw => os_ixs Try.underlying26 Try.sizeOf41 rfl rfl (i := k) (by omega) (by omega)) ?_
        refine vt_val (fun w hw => os_loadP Try.underlying41 rfl (by kernel_rfl) rfl (c2.led hw)) ?_
        refine vt_val (fun w hw => os_neqS2 Try.eqGuardType41 (by kernel_rfl) Try.stoodInHeld41 (by kernel_rfl) Try.underlying3 Try.isAgg3 rfl rfl) ?_
        refine vt_nil (fun w hw => ?_)
        obtain ⟨q2, rfl⟩ := hw
        refine v_cond_no rfl (by rw [he]; simp) ?_
        refine v_skip ?_
        refine v_region ?_
        refine vl_val (os_addi rfl rfl (by omega)) ?_
        refine vl_val (os_move rfl) ?_
        refine vl_nil ?_
        exact ⟨k + 1, ⟨rfl, rfl, rfl, trivial⟩, ⟨rfl, trivial⟩, ⟨by omega, take_suc_eq ht (by omega) (by omega) he, _, World.drewN_drewN ..⟩, by dsimp only; omega⟩
      · refine v_skip ?_
        refine v_seq ?_
        refine v_block ?_
        refine v_seq ?_
        refine v_region ?_
        refine vl_val (os_move rfl) ?_
        refine vl_val (os_assign rfl) ?_
        refine vl_nil ?_
        refine v_seq ?_
        refine v_region_t LeD _ mixed (by kernel_rfl) lee_d (led_start _) ?_
        refine vt_val (fun w hw => os_move rfl) ?_
        refine vt_val (fun w hw => os_move rfl) ?_
        refine vt_val (fun w hw => os_ixs Try.underlying26 Try.sizeOf41 rfl rfl (i := k) (by omega) (by omega)) ?_
        refine vt_val (fun w hw => os_loadP Try.underlying41 rfl (by kernel_rfl) rfl (c1.led hw)) ?_
        refine vt_val (fun w hw => os_move rfl) ?_
        refine vt_val (fun w hw => os_move rfl) ?_
        refine vt_val (fun w hw => os_ixs Try.underlying26 Try.sizeOf41 rfl rfl (i := k) (by omega) (by omega)) ?_
        refine vt_val (fun w hw => os_loadP Try.underlying41 rfl (by kernel_rfl) rfl (c2.led hw)) ?_
        refine vt_val (fun w hw => os_neqS2 Try.eqGuardType41 (by kernel_rfl) Try.stoodInHeld41 (by kernel_rfl) Try.underlying3 Try.isAgg3 rfl rfl) ?_
        refine vt_nil (fun w hw => ?_)
        obtain ⟨q2, rfl⟩ := hw
        refine v_cond_yes rfl (fun hh => he (Prod.ext hh.1 hh.2)) ?_
        refine v_seq ?_
        refine v_region ?_
        refine vl_val (os_assign rfl) ?_
        refine vl_nil ?_
        refine v_ret ?_
        exact post_ret rfl rfl (⟨by rw [decide_eq_false (fun e => he (by rw [e]))], _, World.drewN_drewN ..⟩)
    · obtain rfl : k = n := by omega
      rw [List.take_of_length_le (by omega), List.take_of_length_le (by omega)] at ht
      refine v_exit ?_
      refine v_seq ?_
      refine v_region ?_
      refine vl_val (os_assign rfl) ?_
      refine vl_nil ?_
      refine v_ret ?_
      exact post_ret rfl rfl (⟨by rw [decide_eq_true ht], _, rfl⟩)
  · refine v_seq ?_
    refine v_region ?_
    refine vl_val (os_assign rfl) ?_
    refine vl_nil ?_
    refine v_seq ?_
    refine v_seq ?_
    refine v_region ?_
    refine vl_val (os_move rfl) ?_
    refine vl_val (os_len Try.underlying26 rfl) ?_
    refine vl_val (os_move rfl) ?_
    refine vl_val (os_len Try.underlying26 rfl) ?_
    refine vl_val (os_neq rfl rfl) ?_
    refine vl_nil ?_
    refine v_cond_yes rfl (by omega) ?_
    refine v_seq ?_
    refine v_region ?_
    refine vl_val (os_assign rfl) ?_
    refine vl_nil ?_
    refine v_ret ?_
    exact post_ret rfl rfl (⟨by rw [decide_eq_false (fun e => hlen (by rw [hn, hm, e]))], lee_d.refl _⟩)
set_option maxHeartbeats 2000000 in
theorem hd_Like (d e : HeadV) (w : World) (hd : HeadOk w d) (he : HeadOk w e) : Gives Try.prog 18 #[.agg d.cells.toArray, .agg e.cells.toArray] w fun v w' => v = .bool (likeB d.q e.q) ∧ Below w.heap.size w w' := by
  have hA0 := bk_new w d.cells 28
  have hb0 : Below w.heap.size w (w.alloc (.cells d.cells.toArray 28)) := (Below.refl _ w).alloc (Nat.le_refl _) _
  have hA := hA0.alloc (.cells e.cells.toArray 28)
  have hB := bk_new (w.alloc (.cells d.cells.toArray 28)) e.cells 28
  have hb1 := hb0.alloc hb0.size (.cells e.cells.toArray 28)
  have hd1 := hd.keep hb1
  have he1 := he.keep hb1
  have l1 := hd.2.1
  have l2 := he.2.1
  have l3 := hd.2.2.1
  refine gives_enter Try.call18 Try.func18 rfl rfl rfl (by kernel_rfl) ?_
  by_cases h1 : d.q.st = e.q.st
  · by_cases h2 : d.q.fr = e.q.fr
    · by_cases h3 : d.q.n = e.q.n
      · by_cases h4 : d.q.dl = e.q.dl
        · refine v_seq ?_
          refine v_region ?_
          refine vl_val (os_box rfl) ?_
          refine vl_val (os_box rfl) ?_
          refine vl_val (os_assign rfl) ?_
          refine vl_nil ?_
          refine v_seq ?_
          refine v_region ?_
          refine vl_val (os_fa (o := 0) (k := 0) (by kernel_rfl) rfl) ?_
          refine vl_val (os_load Try.isAgg3 rfl (hA.cell (i := 0) rfl)) ?_
          refine vl_val (os_fa (o := 0) (k := 0) (by kernel_rfl) rfl) ?_
          refine vl_val (os_load Try.isAgg3 rfl (hB.cell (i := 0) rfl)) ?_
          refine vl_val (os_t (os_eql rfl rfl) (h1)) ?_
          refine vl_val (os_move rfl) ?_
          refine vl_valg rfl (os_fa (o := 1) (k := 0) (by kernel_rfl) rfl) ?_
          refine vl_valg rfl (os_load Try.isAgg3 rfl (hA.cell (i := 1) rfl)) ?_
          refine vl_valg rfl (os_fa (o := 1) (k := 0) (by kernel_rfl) rfl) ?_
          refine vl_valg rfl (os_load Try.isAgg3 rfl (hB.cell (i := 1) rfl)) ?_
          refine vl_valg rfl (os_t (os_eql rfl rfl) (h2)) ?_
          refine vl_val (os_pick_t rfl rfl) ?_
          refine vl_val (os_move rfl) ?_
          refine vl_valg rfl (os_fa (o := 3) (k := 0) (by kernel_rfl) rfl) ?_
          refine vl_valg rfl (os_load Try.isAgg3 rfl (hA.cell (i := 3) rfl)) ?_
          refine vl_valg rfl (os_fa (o := 3) (k := 0) (by kernel_rfl) rfl) ?_
          refine vl_valg rfl (os_load Try.isAgg3 rfl (hB.cell (i := 3) rfl)) ?_
          refine vl_valg rfl (os_t (os_eql rfl rfl) (h3)) ?_
          refine vl_val (os_pick_t rfl rfl) ?_
          refine vl_val (os_move rfl) ?_
          refine vl_valg rfl (os_fa (o := 4) (k := 0) (by kernel_rfl) rfl) ?_
          refine vl_valg rfl (os_load Try.isAgg3 rfl (hA.cell (i := 4) rfl)) ?_
          refine vl_valg rfl (os_fa (o := 4) (k := 0) (by kernel_rfl) rfl) ?_
          refine vl_valg rfl (os_load Try.isAgg3 rfl (hB.cell (i := 4) rfl)) ?_
          refine vl_valg rfl (os_t (os_eql rfl rfl) (h4)) ?_
          refine vl_val (os_pick_t rfl rfl) ?_
          refine vl_val (os_move rfl) ?_
          refine vl_valg rfl (os_fa (o := 5) (k := 0) (by kernel_rfl) rfl) ?_
          refine vl_valg rfl (os_load Try.isAgg26 rfl (hA.cell (i := 5) rfl)) ?_
          refine vl_valg rfl (os_fa (o := 5) (k := 0) (by kernel_rfl) rfl) ?_
          refine vl_valg rfl (os_load Try.isAgg26 rfl (hB.cell (i := 5) rfl)) ?_
          refine vl_callg rfl (sl_EqualR d.A e.A d.l e.l d.c e.c d.q.rows e.q.rows _ hd1.1 he1.1 l1 l2 (by omega)) rfl ?_
          rintro v1 w1 ⟨rfl, b1⟩
          refine vl_val (os_pick_t rfl rfl) ?_
          refine vl_val (os_assign rfl) ?_
          refine vl_nil ?_
          refine v_ret ?_
          exact post_ret rfl rfl (⟨by simp [likeB, h1, h2, h3, h4], hb1.trans ((led_below b1).mono hb1.size)⟩)
        · refine v_seq ?_
          refine v_region ?_
          refine vl_val (os_box rfl) ?_
          refine vl_val (os_box rfl) ?_
          refine vl_val (os_assign rfl) ?_
          refine vl_nil ?_
          refine v_seq ?_
          refine v_region ?_
          refine vl_val (os_fa (o := 0) (k := 0) (by kernel_rfl) rfl) ?_
          refine vl_val (os_load Try.isAgg3 rfl (hA.cell (i := 0) rfl)) ?_
          refine vl_val (os_fa (o := 0) (k := 0) (by kernel_rfl) rfl) ?_
          refine vl_val (os_load Try.isAgg3 rfl (hB.cell (i := 0) rfl)) ?_
          refine vl_val (os_t (os_eql rfl rfl) (h1)) ?_
          refine vl_val (os_move rfl) ?_
          refine vl_valg rfl (os_fa (o := 1) (k := 0) (by kernel_rfl) rfl) ?_
          refine vl_valg rfl (os_load Try.isAgg3 rfl (hA.cell (i := 1) rfl)) ?_
          refine vl_valg rfl (os_fa (o := 1) (k := 0) (by kernel_rfl) rfl) ?_
          refine vl_valg rfl (os_load Try.isAgg3 rfl (hB.cell (i := 1) rfl)) ?_
          refine vl_valg rfl (os_t (os_eql rfl rfl) (h2)) ?_
          refine vl_val (os_pick_t rfl rfl) ?_
          refine vl_val (os_move rfl) ?_
          refine vl_valg rfl (os_fa (o := 3) (k := 0) (by kernel_rfl) rfl) ?_
          refine vl_valg rfl (os_load Try.isAgg3 rfl (hA.cell (i := 3) rfl)) ?_
          refine vl_valg rfl (os_fa (o := 3) (k := 0) (by kernel_rfl) rfl) ?_
          refine vl_valg rfl (os_load Try.isAgg3 rfl (hB.cell (i := 3) rfl)) ?_
          refine vl_valg rfl (os_t (os_eql rfl rfl) (h3)) ?_
          refine vl_val (os_pick_t rfl rfl) ?_
          refine vl_val (os_move rfl) ?_
          refine vl_valg rfl (os_fa (o := 4) (k := 0) (by kernel_rfl) rfl) ?_
          refine vl_valg rfl (os_load Try.isAgg3 rfl (hA.cell (i := 4) rfl)) ?_
          refine vl_valg rfl (os_fa (o := 4) (k := 0) (by kernel_rfl) rfl) ?_
          refine vl_valg rfl (os_load Try.isAgg3 rfl (hB.cell (i := 4) rfl)) ?_
          refine vl_valg rfl (os_f (os_eql rfl rfl) (h4)) ?_
          refine vl_val (os_pick_t rfl rfl) ?_
          refine vl_val (os_move rfl) ?_
          refine vl_skip rfl rfl ?_
          refine vl_skip rfl rfl ?_
          refine vl_skip rfl rfl ?_
          refine vl_skip rfl rfl ?_
          refine vl_skip rfl rfl ?_
          refine vl_val (os_pick_f rfl rfl) ?_
          refine vl_val (os_assign rfl) ?_
          refine vl_nil ?_
          refine v_ret ?_
          exact post_ret rfl rfl (⟨by simp [likeB, h4], hb1⟩)
      · refine v_seq ?_
        refine v_region ?_
        refine vl_val (os_box rfl) ?_
        refine vl_val (os_box rfl) ?_
        refine vl_val (os_assign rfl) ?_
        refine vl_nil ?_
        refine v_seq ?_
        refine v_region ?_
        refine vl_val (os_fa (o := 0) (k := 0) (by kernel_rfl) rfl) ?_
        refine vl_val (os_load Try.isAgg3 rfl (hA.cell (i := 0) rfl)) ?_
        refine vl_val (os_fa (o := 0) (k := 0) (by kernel_rfl) rfl) ?_
        refine vl_val (os_load Try.isAgg3 rfl (hB.cell (i := 0) rfl)) ?_
        refine vl_val (os_t (os_eql rfl rfl) (h1)) ?_
        refine vl_val (os_move rfl) ?_
        refine vl_valg rfl (os_fa (o := 1) (k := 0) (by kernel_rfl) rfl) ?_
        refine vl_valg rfl (os_load Try.isAgg3 rfl (hA.cell (i := 1) rfl)) ?_
        refine vl_valg rfl (os_fa (o := 1) (k := 0) (by kernel_rfl) rfl) ?_
        refine vl_valg rfl (os_load Try.isAgg3 rfl (hB.cell (i := 1) rfl)) ?_
        refine vl_valg rfl (os_t (os_eql rfl rfl) (h2)) ?_
        refine vl_val (os_pick_t rfl rfl) ?_
        refine vl_val (os_move rfl) ?_
        refine vl_valg rfl (os_fa (o := 3) (k := 0) (by kernel_rfl) rfl) ?_
        refine vl_valg rfl (os_load Try.isAgg3 rfl (hA.cell (i := 3) rfl)) ?_
        refine vl_valg rfl (os_fa (o := 3) (k := 0) (by kernel_rfl) rfl) ?_
        refine vl_valg rfl (os_load Try.isAgg3 rfl (hB.cell (i := 3) rfl)) ?_
        refine vl_valg rfl (os_f (os_eql rfl rfl) (h3)) ?_
        refine vl_val (os_pick_t rfl rfl) ?_
        refine vl_val (os_move rfl) ?_
        refine vl_skip rfl rfl ?_
        refine vl_skip rfl rfl ?_
        refine vl_skip rfl rfl ?_
        refine vl_skip rfl rfl ?_
        refine vl_skip rfl rfl ?_
        refine vl_val (os_pick_f rfl rfl) ?_
        refine vl_val (os_move rfl) ?_
        refine vl_skip rfl rfl ?_
        refine vl_skip rfl rfl ?_
        refine vl_skip rfl rfl ?_
        refine vl_skip rfl rfl ?_
        refine vl_skip rfl rfl ?_
        refine vl_val (os_pick_f rfl rfl) ?_
        refine vl_val (os_assign rfl) ?_
        refine vl_nil ?_
        refine v_ret ?_
        exact post_ret rfl rfl (⟨by simp [likeB, h3], hb1⟩)
    · refine v_seq ?_
      refine v_region ?_
      refine vl_val (os_box rfl) ?_
      refine vl_val (os_box rfl) ?_
      refine vl_val (os_assign rfl) ?_
      refine vl_nil ?_
      refine v_seq ?_
      refine v_region ?_
      refine vl_val (os_fa (o := 0) (k := 0) (by kernel_rfl) rfl) ?_
      refine vl_val (os_load Try.isAgg3 rfl (hA.cell (i := 0) rfl)) ?_
      refine vl_val (os_fa (o := 0) (k := 0) (by kernel_rfl) rfl) ?_
      refine vl_val (os_load Try.isAgg3 rfl (hB.cell (i := 0) rfl)) ?_
      refine vl_val (os_t (os_eql rfl rfl) (h1)) ?_
      refine vl_val (os_move rfl) ?_
      refine vl_valg rfl (os_fa (o := 1) (k := 0) (by kernel_rfl) rfl) ?_
      refine vl_valg rfl (os_load Try.isAgg3 rfl (hA.cell (i := 1) rfl)) ?_
      refine vl_valg rfl (os_fa (o := 1) (k := 0) (by kernel_rfl) rfl) ?_
      refine vl_valg rfl (os_load Try.isAgg3 rfl (hB.cell (i := 1) rfl)) ?_
      refine vl_valg rfl (os_f (os_eql rfl rfl) (h2)) ?_
      refine vl_val (os_pick_t rfl rfl) ?_
      refine vl_val (os_move rfl) ?_
      refine vl_skip rfl rfl ?_
      refine vl_skip rfl rfl ?_
      refine vl_skip rfl rfl ?_
      refine vl_skip rfl rfl ?_
      refine vl_skip rfl rfl ?_
      refine vl_val (os_pick_f rfl rfl) ?_
      refine vl_val (os_move rfl) ?_
      refine vl_skip rfl rfl ?_
      refine vl_skip rfl rfl ?_
      refine vl_skip rfl rfl ?_
      refine vl_skip rfl rfl ?_
      refine vl_skip rfl rfl ?_
      refine vl_val (os_pick_f rfl rfl) ?_
      refine vl_val (os_move rfl) ?_
      refine vl_skip rfl rfl ?_
      refine vl_skip rfl rfl ?_
      refine vl_skip rfl rfl ?_
      refine vl_skip rfl rfl ?_
      refine vl_skip rfl rfl ?_
      refine vl_val (os_pick_f rfl rfl) ?_
      refine vl_val (os_assign rfl) ?_
      refine vl_nil ?_
      refine v_ret ?_
      exact post_ret rfl rfl (⟨by simp [likeB, h2], hb1⟩)
  · refine v_seq ?_
    refine v_region ?_
    refine vl_val (os_box rfl) ?_
    refine vl_val (os_box rfl) ?_
    refine vl_val (os_assign rfl) ?_
    refine vl_nil ?_
    refine v_seq ?_
    refine v_region ?_
    refine vl_val (os_fa (o := 0) (k := 0) (by kernel_rfl) rfl) ?_
    refine vl_val (os_load Try.isAgg3 rfl (hA.cell (i := 0) rfl)) ?_
    refine vl_val (os_fa (o := 0) (k := 0) (by kernel_rfl) rfl) ?_
    refine vl_val (os_load Try.isAgg3 rfl (hB.cell (i := 0) rfl)) ?_
    refine vl_val (os_f (os_eql rfl rfl) (h1)) ?_
    refine vl_val (os_move rfl) ?_
    refine vl_skip rfl rfl ?_
    refine vl_skip rfl rfl ?_
    refine vl_skip rfl rfl ?_
    refine vl_skip rfl rfl ?_
    refine vl_skip rfl rfl ?_
    refine vl_val (os_pick_f rfl rfl) ?_
    refine vl_val (os_move rfl) ?_
    refine vl_skip rfl rfl ?_
    refine vl_skip rfl rfl ?_
    refine vl_skip rfl rfl ?_
    refine vl_skip rfl rfl ?_
    refine vl_skip rfl rfl ?_
    refine vl_val (os_pick_f rfl rfl) ?_
    refine vl_val (os_move rfl) ?_
    refine vl_skip rfl rfl ?_
    refine vl_skip rfl rfl ?_
    refine vl_skip rfl rfl ?_
    refine vl_skip rfl rfl ?_
    refine vl_skip rfl rfl ?_
    refine vl_val (os_pick_f rfl rfl) ?_
    refine vl_val (os_move rfl) ?_
    refine vl_skip rfl rfl ?_
    refine vl_skip rfl rfl ?_
    refine vl_skip rfl rfl ?_
    refine vl_skip rfl rfl ?_
    refine vl_skip rfl rfl ?_
    refine vl_val (os_pick_f rfl rfl) ?_
    refine vl_val (os_assign rfl) ?_
    refine vl_nil ?_
    refine v_ret ?_
    exact post_ret rfl rfl (⟨by simp [likeB, h1], hb1⟩)
set_option maxHeartbeats 2000000 in
theorem ref14_Like (d e : HeadV) (w : World) (hd : HeadOk w d) (he : HeadOk w e) : Gives Try.prog 19 #[.agg d.cells.toArray, .agg e.cells.toArray] w fun v w' => v = .bool (likeB d.q e.q) ∧ Below w.heap.size w w' := by
  have hA0 := bk_new w d.cells 28
  have hb0 : Below w.heap.size w (w.alloc (.cells d.cells.toArray 28)) := (Below.refl _ w).alloc (Nat.le_refl _) _
  have hA := hA0.alloc (.cells e.cells.toArray 28)
  have hB := bk_new (w.alloc (.cells d.cells.toArray 28)) e.cells 28
  have hb1 := hb0.alloc hb0.size (.cells e.cells.toArray 28)
  have hd1 := hd.keep hb1
  have he1 := he.keep hb1
  have l1 := hd.2.1
  have l2 := he.2.1
  have l3 := hd.2.2.1
  obtain ⟨W, hW⟩ : ∃ W, W = (w.alloc (.cells d.cells.toArray 28)).alloc (.cells e.cells.toArray 28) := ⟨_, rfl⟩
  refine gives_enter Try.call19 Try.func19 rfl rfl rfl (by kernel_rfl) ?_
  by_cases h1 : d.q.st = e.q.st
  · by_cases h2 : d.q.fr = e.q.fr
    · by_cases h3 : d.q.n = e.q.n
      · by_cases h4 : d.q.dl = e.q.dl
        · by_cases h5 : d.l = e.l
          · refine v_seq ?_
            refine v_region ?_
            refine vl_val (os_box rfl) ?_
            refine vl_val (os_box rfl) ?_
            refine vl_val (os_assign rfl) ?_
            refine vl_nil ?_
            refine v_seq ?_
            refine v_seq ?_
            refine v_region ?_
            refine vl_val (os_fa (o := 0) (k := 0) (by kernel_rfl) rfl) ?_
            refine vl_val (os_load Try.isAgg3 rfl (hA.cell (i := 0) rfl)) ?_
            refine vl_val (os_fa (o := 0) (k := 0) (by kernel_rfl) rfl) ?_
            refine vl_val (os_load Try.isAgg3 rfl (hB.cell (i := 0) rfl)) ?_
            refine vl_val (os_f (os_neq rfl rfl) (by omega)) ?_
            refine vl_val (os_move rfl) ?_
            refine vl_valg rfl (os_fa (o := 1) (k := 0) (by kernel_rfl) rfl) ?_
            refine vl_valg rfl (os_load Try.isAgg3 rfl (hA.cell (i := 1) rfl)) ?_
            refine vl_valg rfl (os_fa (o := 1) (k := 0) (by kernel_rfl) rfl) ?_
            refine vl_valg rfl (os_load Try.isAgg3 rfl (hB.cell (i := 1) rfl)) ?_
            refine vl_valg rfl (os_f (os_neq rfl rfl) (by omega)) ?_
            refine vl_val (os_pick_f rfl rfl) ?_
            refine vl_val (os_move rfl) ?_
            refine vl_valg rfl (os_fa (o := 3) (k := 0) (by kernel_rfl) rfl) ?_
            refine vl_valg rfl (os_load Try.isAgg3 rfl (hA.cell (i := 3) rfl)) ?_
            refine vl_valg rfl (os_fa (o := 3) (k := 0) (by kernel_rfl) rfl) ?_
            refine vl_valg rfl (os_load Try.isAgg3 rfl (hB.cell (i := 3) rfl)) ?_
            refine vl_valg rfl (os_f (os_neq rfl rfl) (by omega)) ?_
            refine vl_val (os_pick_f rfl rfl) ?_
            refine vl_val (os_move rfl) ?_
            refine vl_valg rfl (os_fa (o := 4) (k := 0) (by kernel_rfl) rfl) ?_
            refine vl_valg rfl (os_load Try.isAgg3 rfl (hA.cell (i := 4) rfl)) ?_
            refine vl_valg rfl (os_fa (o := 4) (k := 0) (by kernel_rfl) rfl) ?_
            refine vl_valg rfl (os_load Try.isAgg3 rfl (hB.cell (i := 4) rfl)) ?_
            refine vl_valg rfl (os_f (os_neq rfl rfl) (by omega)) ?_
            refine vl_val (os_pick_f rfl rfl) ?_
            refine vl_val (os_move rfl) ?_
            refine vl_valg rfl (os_fa (o := 5) (k := 0) (by kernel_rfl) rfl) ?_
            refine vl_valg rfl (os_load Try.isAgg26 rfl (hA.cell (i := 5) rfl)) ?_
            refine vl_valg rfl (os_len Try.underlying26 rfl) ?_
            refine vl_valg rfl (os_fa (o := 5) (k := 0) (by kernel_rfl) rfl) ?_
            refine vl_valg rfl (os_load Try.isAgg26 rfl (hB.cell (i := 5) rfl)) ?_
            refine vl_valg rfl (os_len Try.underlying26 rfl) ?_
            refine vl_valg rfl (os_f (os_neq rfl rfl) (by omega)) ?_
            refine vl_val (os_pick_f rfl rfl) ?_
            refine vl_nil ?_
            refine v_cond_f rfl ?_
            refine v_skip ?_
            refine v_seq ?_
            refine v_seq ?_
            refine v_region ?_
            refine vl_val (os_assign rfl) ?_
            refine vl_nil ?_
            refine v_block ?_
            refine v_loop [(2, _), (3, _)] (fun (k : Nat) => [(5, .int .i64 k)]) (fun k w' => k ≤ d.l ∧ d.q.rows.take k = e.q.rows.take k ∧ LeD ((w.alloc (.cells d.cells.toArray 28)).alloc (.cells e.cells.toArray 28)) w') (fun k => d.l - k) (0) ⟨rfl, rfl, trivial⟩ ⟨rfl, trivial⟩ (⟨by omega, rfl, lee_d.refl _⟩) ?_
            rintro k w' ⟨hk, ht, q, rfl⟩
            refine v_seq ?_
            refine v_seq ?_
            refine v_region ?_
            refine vl_val (os_move rfl) ?_
            refine vl_val (os_fa (o := 5) (k := 0) (by kernel_rfl) rfl) ?_
            refine vl_val (os_load Try.isAgg26 rfl ((hA.led ⟨q, rfl⟩).cell (i := 5) rfl)) ?_
            refine vl_val (os_len Try.underlying26 rfl) ?_
            refine vl_val (os_lss rfl rfl) ?_
            refine vl_nil ?_
            refine v_cond_d rfl (fun hlt => ?_) (fun hlt => ?_)
            · obtain ⟨b1, o1, eA, -, -, c1⟩ := (hd1.1.led ⟨q, rfl⟩).at2 (i := k) (by omega)
              obtain ⟨b2, o2, eB, -, -, c2⟩ := (he1.1.led ⟨q, rfl⟩).at2 (i := k) (by omega)
              by_cases he : d.q.rows.getD k (0, 0) = e.q.rows.getD k (0, 0)
              · refine v_skip ?_
                refine v_seq ?_
                refine v_block ?_
                refine v_seq ?_
                refine v_region_t LeD _ mixed (by kernel_rfl) lee_d (led_start _) ?_
                refine vt_val (fun w hw => os_fa (o := 5) (k := 0) (by kernel_rfl) rfl) ?_
                refine vt_val (fun w hw => os_load Try.isAgg26 rfl (led_cell hw ((hA.led ⟨q, rfl⟩).cell (i := 5) (v := .slice (some ⟨b1, o1, none⟩) d.l d.c) (by rw [← eA]; rfl)))) ?_
                refine vt_val (fun w hw => os_move rfl) ?_
                refine vt_val (fun w hw => os_ixs Try.underlying26 Try.sizeOf41 rfl rfl (i := k) (by omega) (by omega)) ?_
                refine vt_val (fun w hw => os_loadP Try.underlying41 rfl (by kernel_rfl) rfl (c1.led hw)) ?_
                refine vt_val (fun w hw => os_fa (o := 5) (k := 0) (by kernel_rfl) rfl) ?_
                refine vt_val (fun w hw => os_load Try.isAgg26 rfl (led_cell hw ((hB.led ⟨q, rfl⟩).cell (i := 5) (v := .slice (some ⟨b2, o2, none⟩) e.l e.c) (by rw [← eB]; rfl)))) ?_
                refine vt_val (fun w hw => os_move rfl) ?_
                refine vt_val (fun w hw => os_ixs Try.underlying26 Try.sizeOf41 rfl rfl (i := k) (by omega) (by omega)) ?_
                refine vt_val (fun w hw => os_loadP Try.underlying41 rfl (by kernel_rfl) rfl (c2.led hw)) ?_
                refine vt_val (fun w hw => os_neqS2 Try.eqGuardType41 (by kernel_rfl) Try.stoodInHeld41 (by kernel_rfl) Try.underlying3 Try.isAgg3 rfl rfl) ?_
                refine vt_nil (fun w hw => ?_)
                obtain ⟨q2, rfl⟩ := hw
                refine v_cond_no rfl (by rw [he]; simp) ?_
                refine v_skip ?_
                refine v_region ?_
                refine vl_val (os_move rfl) ?_
                refine vl_val (os_addi rfl rfl (by omega)) ?_
                refine vl_val (os_assign rfl) ?_
                refine vl_nil ?_
                exact ⟨k + 1, ⟨rfl, rfl, trivial⟩, ⟨rfl, trivial⟩, ⟨by omega, take_suc_eq ht (by omega) (by omega) he, _, World.drewN_drewN ..⟩, by dsimp only; omega⟩
              · refine v_skip ?_
                refine v_seq ?_
                refine v_block ?_
                refine v_seq ?_
                refine v_region_t LeD _ mixed (by kernel_rfl) lee_d (led_start _) ?_
                refine vt_val (fun w hw => os_fa (o := 5) (k := 0) (by kernel_rfl) rfl) ?_
                refine vt_val (fun w hw => os_load Try.isAgg26 rfl (led_cell hw ((hA.led ⟨q, rfl⟩).cell (i := 5) (v := .slice (some ⟨b1, o1, none⟩) d.l d.c) (by rw [← eA]; rfl)))) ?_
                refine vt_val (fun w hw => os_move rfl) ?_
                refine vt_val (fun w hw => os_ixs Try.underlying26 Try.sizeOf41 rfl rfl (i := k) (by omega) (by omega)) ?_
                refine vt_val (fun w hw => os_loadP Try.underlying41 rfl (by kernel_rfl) rfl (c1.led hw)) ?_
                refine vt_val (fun w hw => os_fa (o := 5) (k := 0) (by kernel_rfl) rfl) ?_
                refine vt_val (fun w hw => os_load Try.isAgg26 rfl (led_cell hw ((hB.led ⟨q, rfl⟩).cell (i := 5) (v := .slice (some ⟨b2, o2, none⟩) e.l e.c) (by rw [← eB]; rfl)))) ?_
                refine vt_val (fun w hw => os_move rfl) ?_
                refine vt_val (fun w hw => os_ixs Try.underlying26 Try.sizeOf41 rfl rfl (i := k) (by omega) (by omega)) ?_
                refine vt_val (fun w hw => os_loadP Try.underlying41 rfl (by kernel_rfl) rfl (c2.led hw)) ?_
                refine vt_val (fun w hw => os_neqS2 Try.eqGuardType41 (by kernel_rfl) Try.stoodInHeld41 (by kernel_rfl) Try.underlying3 Try.isAgg3 rfl rfl) ?_
                refine vt_nil (fun w hw => ?_)
                obtain ⟨q2, rfl⟩ := hw
                refine v_cond_yes rfl (fun hh => he (Prod.ext hh.1 hh.2)) ?_
                refine v_seq ?_
                refine v_region ?_
                refine vl_val (os_assign rfl) ?_
                refine vl_nil ?_
                refine v_ret ?_
                exact post_ret rfl rfl (⟨by simp only [likeB]; rw [decide_eq_false (fun e => he (by rw [e.2.2.2.2]))], hb1.trans ((led_below ⟨_, World.drewN_drewN ..⟩).mono hb1.size)⟩)
            · rw [List.take_of_length_le (by omega), List.take_of_length_le (by omega)] at ht
              refine v_exit ?_
              refine v_seq ?_
              refine v_region ?_
              refine vl_val (os_assign rfl) ?_
              refine vl_nil ?_
              refine v_ret ?_
              exact post_ret rfl rfl (⟨by simp [likeB, h1, h2, h3, h4, ht], hb1.trans ((led_below ⟨_, rfl⟩).mono hb1.size)⟩)
          · refine v_seq ?_
            refine v_region ?_
            refine vl_val (os_box rfl) ?_
            refine vl_val (os_box rfl) ?_
            refine vl_val (os_assign rfl) ?_
            refine vl_nil ?_
            refine v_seq ?_
            refine v_seq ?_
            refine v_region ?_
            refine vl_val (os_fa (o := 0) (k := 0) (by kernel_rfl) rfl) ?_
            refine vl_val (os_load Try.isAgg3 rfl (hA.cell (i := 0) rfl)) ?_
            refine vl_val (os_fa (o := 0) (k := 0) (by kernel_rfl) rfl) ?_
            refine vl_val (os_load Try.isAgg3 rfl (hB.cell (i := 0) rfl)) ?_
            refine vl_val (os_f (os_neq rfl rfl) (by omega)) ?_
            refine vl_val (os_move rfl) ?_
            refine vl_valg rfl (os_fa (o := 1) (k := 0) (by kernel_rfl) rfl) ?_
            refine vl_valg rfl (os_load Try.isAgg3 rfl (hA.cell (i := 1) rfl)) ?_
            refine vl_valg rfl (os_fa (o := 1) (k := 0) (by kernel_rfl) rfl) ?_
            refine vl_valg rfl (os_load Try.isAgg3 rfl (hB.cell (i := 1) rfl)) ?_
            refine vl_valg rfl (os_f (os_neq rfl rfl) (by omega)) ?_
            refine vl_val (os_pick_f rfl rfl) ?_
            refine vl_val (os_move rfl) ?_
            refine vl_valg rfl (os_fa (o := 3) (k := 0) (by kernel_rfl) rfl) ?_
            refine vl_valg rfl (os_load Try.isAgg3 rfl (hA.cell (i := 3) rfl)) ?_
            refine vl_valg rfl (os_fa (o := 3) (k := 0) (by kernel_rfl) rfl) ?_
            refine vl_valg rfl (os_load Try.isAgg3 rfl (hB.cell (i := 3) rfl)) ?_
            refine vl_valg rfl (os_f (os_neq rfl rfl) (by omega)) ?_
            refine vl_val (os_pick_f rfl rfl) ?_
            refine vl_val (os_move rfl) ?_
            refine vl_valg rfl (os_fa (o := 4) (k := 0) (by kernel_rfl) rfl) ?_
            refine vl_valg rfl (os_load Try.isAgg3 rfl (hA.cell (i := 4) rfl)) ?_
            refine vl_valg rfl (os_fa (o := 4) (k := 0) (by kernel_rfl) rfl) ?_
            refine vl_valg rfl (os_load Try.isAgg3 rfl (hB.cell (i := 4) rfl)) ?_
            refine vl_valg rfl (os_f (os_neq rfl rfl) (by omega)) ?_
            refine vl_val (os_pick_f rfl rfl) ?_
            refine vl_val (os_move rfl) ?_
            refine vl_valg rfl (os_fa (o := 5) (k := 0) (by kernel_rfl) rfl) ?_
            refine vl_valg rfl (os_load Try.isAgg26 rfl (hA.cell (i := 5) rfl)) ?_
            refine vl_valg rfl (os_len Try.underlying26 rfl) ?_
            refine vl_valg rfl (os_fa (o := 5) (k := 0) (by kernel_rfl) rfl) ?_
            refine vl_valg rfl (os_load Try.isAgg26 rfl (hB.cell (i := 5) rfl)) ?_
            refine vl_valg rfl (os_len Try.underlying26 rfl) ?_
            refine vl_valg rfl (os_t (os_neq rfl rfl) (by omega)) ?_
            refine vl_val (os_pick_f rfl rfl) ?_
            refine vl_nil ?_
            refine v_cond_t rfl ?_
            refine v_seq ?_
            refine v_region ?_
            refine vl_val (os_assign rfl) ?_
            refine vl_nil ?_
            refine v_ret ?_
            exact post_ret rfl rfl (⟨by simp only [likeB]; rw [decide_eq_false (fun e => h5 (by rw [l1, l2, e.2.2.2.2]))], hb1⟩)
        · refine v_seq ?_
          refine v_region ?_
          refine vl_val (os_box rfl) ?_
          refine vl_val (os_box rfl) ?_
          refine vl_val (os_assign rfl) ?_
          refine vl_nil ?_
          refine v_seq ?_
          refine v_seq ?_
          refine v_region ?_
          refine vl_val (os_fa (o := 0) (k := 0) (by kernel_rfl) rfl) ?_
          refine vl_val (os_load Try.isAgg3 rfl (hA.cell (i := 0) rfl)) ?_
          refine vl_val (os_fa (o := 0) (k := 0) (by kernel_rfl) rfl) ?_
          refine vl_val (os_load Try.isAgg3 rfl (hB.cell (i := 0) rfl)) ?_
          refine vl_val (os_f (os_neq rfl rfl) (by omega)) ?_
          refine vl_val (os_move rfl) ?_
          refine vl_valg rfl (os_fa (o := 1) (k := 0) (by kernel_rfl) rfl) ?_
          refine vl_valg rfl (os_load Try.isAgg3 rfl (hA.cell (i := 1) rfl)) ?_
          refine vl_valg rfl (os_fa (o := 1) (k := 0) (by kernel_rfl) rfl) ?_
          refine vl_valg rfl (os_load Try.isAgg3 rfl (hB.cell (i := 1) rfl)) ?_
          refine vl_valg rfl (os_f (os_neq rfl rfl) (by omega)) ?_
          refine vl_val (os_pick_f rfl rfl) ?_
          refine vl_val (os_move rfl) ?_
          refine vl_valg rfl (os_fa (o := 3) (k := 0) (by kernel_rfl) rfl) ?_
          refine vl_valg rfl (os_load Try.isAgg3 rfl (hA.cell (i := 3) rfl)) ?_
          refine vl_valg rfl (os_fa (o := 3) (k := 0) (by kernel_rfl) rfl) ?_
          refine vl_valg rfl (os_load Try.isAgg3 rfl (hB.cell (i := 3) rfl)) ?_
          refine vl_valg rfl (os_f (os_neq rfl rfl) (by omega)) ?_
          refine vl_val (os_pick_f rfl rfl) ?_
          refine vl_val (os_move rfl) ?_
          refine vl_valg rfl (os_fa (o := 4) (k := 0) (by kernel_rfl) rfl) ?_
          refine vl_valg rfl (os_load Try.isAgg3 rfl (hA.cell (i := 4) rfl)) ?_
          refine vl_valg rfl (os_fa (o := 4) (k := 0) (by kernel_rfl) rfl) ?_
          refine vl_valg rfl (os_load Try.isAgg3 rfl (hB.cell (i := 4) rfl)) ?_
          refine vl_valg rfl (os_t (os_neq rfl rfl) (h4)) ?_
          refine vl_val (os_pick_f rfl rfl) ?_
          refine vl_val (os_move rfl) ?_
          refine vl_skip rfl rfl ?_
          refine vl_skip rfl rfl ?_
          refine vl_skip rfl rfl ?_
          refine vl_skip rfl rfl ?_
          refine vl_skip rfl rfl ?_
          refine vl_skip rfl rfl ?_
          refine vl_skip rfl rfl ?_
          refine vl_val (os_pick_t rfl rfl) ?_
          refine vl_nil ?_
          refine v_cond_t rfl ?_
          refine v_seq ?_
          refine v_region ?_
          refine vl_val (os_assign rfl) ?_
          refine vl_nil ?_
          refine v_ret ?_
          exact post_ret rfl rfl (⟨by simp [likeB, h4], hb1⟩)
      · refine v_seq ?_
        refine v_region ?_
        refine vl_val (os_box rfl) ?_
        refine vl_val (os_box rfl) ?_
        refine vl_val (os_assign rfl) ?_
        refine vl_nil ?_
        refine v_seq ?_
        refine v_seq ?_
        refine v_region ?_
        refine vl_val (os_fa (o := 0) (k := 0) (by kernel_rfl) rfl) ?_
        refine vl_val (os_load Try.isAgg3 rfl (hA.cell (i := 0) rfl)) ?_
        refine vl_val (os_fa (o := 0) (k := 0) (by kernel_rfl) rfl) ?_
        refine vl_val (os_load Try.isAgg3 rfl (hB.cell (i := 0) rfl)) ?_
        refine vl_val (os_f (os_neq rfl rfl) (by omega)) ?_
        refine vl_val (os_move rfl) ?_
        refine vl_valg rfl (os_fa (o := 1) (k := 0) (by kernel_rfl) rfl) ?_
        refine vl_valg rfl (os_load Try.isAgg3 rfl (hA.cell (i := 1) rfl)) ?_
        refine vl_valg rfl (os_fa (o := 1) (k := 0) (by kernel_rfl) rfl) ?_
        refine vl_valg rfl (os_load Try.isAgg3 rfl (hB.cell (i := 1) rfl)) ?_
        refine vl_valg rfl (os_f (os_neq rfl rfl) (by omega)) ?_
        refine vl_val (os_pick_f rfl rfl) ?_
        refine vl_val (os_move rfl) ?_
        refine vl_valg rfl (os_fa (o := 3) (k := 0) (by kernel_rfl) rfl) ?_
        refine vl_valg rfl (os_load Try.isAgg3 rfl (hA.cell (i := 3) rfl)) ?_
        refine vl_valg rfl (os_fa (o := 3) (k := 0) (by kernel_rfl) rfl) ?_
        refine vl_valg rfl (os_load Try.isAgg3 rfl (hB.cell (i := 3) rfl)) ?_
        refine vl_valg rfl (os_t (os_neq rfl rfl) (h3)) ?_
        refine vl_val (os_pick_f rfl rfl) ?_
        refine vl_val (os_move rfl) ?_
        refine vl_skip rfl rfl ?_
        refine vl_skip rfl rfl ?_
        refine vl_skip rfl rfl ?_
        refine vl_skip rfl rfl ?_
        refine vl_skip rfl rfl ?_
        refine vl_val (os_pick_t rfl rfl) ?_
        refine vl_val (os_move rfl) ?_
        refine vl_skip rfl rfl ?_
        refine vl_skip rfl rfl ?_
        refine vl_skip rfl rfl ?_
        refine vl_skip rfl rfl ?_
        refine vl_skip rfl rfl ?_
        refine vl_skip rfl rfl ?_
        refine vl_skip rfl rfl ?_
        refine vl_val (os_pick_t rfl rfl) ?_
        refine vl_nil ?_
        refine v_cond_t rfl ?_
        refine v_seq ?_
        refine v_region ?_
        refine vl_val (os_assign rfl) ?_
        refine vl_nil ?_
        refine v_ret ?_
        exact post_ret rfl rfl (⟨by simp [likeB, h3], hb1⟩)
    · refine v_seq ?_
      refine v_region ?_
      refine vl_val (os_box rfl) ?_
      refine vl_val (os_box rfl) ?_
      refine vl_val (os_assign rfl) ?_
      refine vl_nil ?_
      refine v_seq ?_
      refine v_seq ?_
      refine v_region ?_
      refine vl_val (os_fa (o := 0) (k := 0) (by kernel_rfl) rfl) ?_
      refine vl_val (os_load Try.isAgg3 rfl (hA.cell (i := 0) rfl)) ?_
      refine vl_val (os_fa (o := 0) (k := 0) (by kernel_rfl) rfl) ?_
      refine vl_val (os_load Try.isAgg3 rfl (hB.cell (i := 0) rfl)) ?_
      refine vl_val (os_f (os_neq rfl rfl) (by omega)) ?_
      refine vl_val (os_move rfl) ?_
      refine vl_valg rfl (os_fa (o := 1) (k := 0) (by kernel_rfl) rfl) ?_
      refine vl_valg rfl (os_load Try.isAgg3 rfl (hA.cell (i := 1) rfl)) ?_
      refine vl_valg rfl (os_fa (o := 1) (k := 0) (by kernel_rfl) rfl) ?_
      refine vl_valg rfl (os_load Try.isAgg3 rfl (hB.cell (i := 1) rfl)) ?_
      refine vl_valg rfl (os_t (os_neq rfl rfl) (h2)) ?_
      refine vl_val (os_pick_f rfl rfl) ?_
      refine vl_val (os_move rfl) ?_
      refine vl_skip rfl rfl ?_
      refine vl_skip rfl rfl ?_
      refine vl_skip rfl rfl ?_
      refine vl_skip rfl rfl ?_
      refine vl_skip rfl rfl ?_
      refine vl_val (os_pick_t rfl rfl) ?_
      refine vl_val (os_move rfl) ?_
      refine vl_skip rfl rfl ?_
      refine vl_skip rfl rfl ?_
      refine vl_skip rfl rfl ?_
      refine vl_skip rfl rfl ?_
      refine vl_skip rfl rfl ?_
      refine vl_val (os_pick_t rfl rfl) ?_
      refine vl_val (os_move rfl) ?_
      refine vl_skip rfl rfl ?_
      refine vl_skip rfl rfl ?_
      refine vl_skip rfl rfl ?_
      refine vl_skip rfl rfl ?_
      refine vl_skip rfl rfl ?_
      refine vl_skip rfl rfl ?_
      refine vl_skip rfl rfl ?_
      refine vl_val (os_pick_t rfl rfl) ?_
      refine vl_nil ?_
      refine v_cond_t rfl ?_
      refine v_seq ?_
      refine v_region ?_
      refine vl_val (os_assign rfl) ?_
      refine vl_nil ?_
      refine v_ret ?_
      exact post_ret rfl rfl (⟨by simp [likeB, h2], hb1⟩)
  · refine v_seq ?_
    refine v_region ?_
    refine vl_val (os_box rfl) ?_
    refine vl_val (os_box rfl) ?_
    refine vl_val (os_assign rfl) ?_
    refine vl_nil ?_
    refine v_seq ?_
    refine v_seq ?_
    refine v_region ?_
    refine vl_val (os_fa (o := 0) (k := 0) (by kernel_rfl) rfl) ?_
    refine vl_val (os_load Try.isAgg3 rfl (hA.cell (i := 0) rfl)) ?_
    refine vl_val (os_fa (o := 0) (k := 0) (by kernel_rfl) rfl) ?_
    refine vl_val (os_load Try.isAgg3 rfl (hB.cell (i := 0) rfl)) ?_
    refine vl_val (os_t (os_neq rfl rfl) (h1)) ?_
    refine vl_val (os_move rfl) ?_
    refine vl_skip rfl rfl ?_
    refine vl_skip rfl rfl ?_
    refine vl_skip rfl rfl ?_
    refine vl_skip rfl rfl ?_
    refine vl_skip rfl rfl ?_
    refine vl_val (os_pick_t rfl rfl) ?_
    refine vl_val (os_move rfl) ?_
    refine vl_skip rfl rfl ?_
    refine vl_skip rfl rfl ?_
    refine vl_skip rfl rfl ?_
    refine vl_skip rfl rfl ?_
    refine vl_skip rfl rfl ?_
    refine vl_val (os_pick_t rfl rfl) ?_
    refine vl_val (os_move rfl) ?_
    refine vl_skip rfl rfl ?_
    refine vl_skip rfl rfl ?_
    refine vl_skip rfl rfl ?_
    refine vl_skip rfl rfl ?_
    refine vl_skip rfl rfl ?_
    refine vl_val (os_pick_t rfl rfl) ?_
    refine vl_val (os_move rfl) ?_
    refine vl_skip rfl rfl ?_
    refine vl_skip rfl rfl ?_
    refine vl_skip rfl rfl ?_
    refine vl_skip rfl rfl ?_
    refine vl_skip rfl rfl ?_
    refine vl_skip rfl rfl ?_
    refine vl_skip rfl rfl ?_
    refine vl_val (os_pick_t rfl rfl) ?_
    refine vl_nil ?_
    refine v_cond_t rfl ?_
    refine v_seq ?_
    refine v_region ?_
    refine vl_val (os_assign rfl) ?_
    refine vl_nil ?_
    refine v_ret ?_
    exact post_ret rfl rfl (⟨by simp [likeB, h1], hb1⟩)
end Go.Proofs.Ytlfkhnchceoinaa
