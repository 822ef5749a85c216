/- Texts joined: HdL HdM. -/
import Derived.Test.YtpojijnjdlnokaaM23
/- Layer 14: whether two headers are of one frame; the program's answer and the document's. -/
namespace Go.Proofs.Ytpojijnjdlnokaa
open Go.RowKit
set_option linter.unusedVariables false

/-- of one frame: the same but for the index -/
def likeB (a b : HeadP) : Bool := decide (a.st = b.st ∧ a.fr = b.fr ∧ a.n = b.n ∧ a.dl = b.dl ∧ a.rows = b.rows)
theorem likeB_comm (a b : HeadP) : likeB a b = likeB b a := by
  unfold likeB
  exact decide_eq_decide.2 ⟨fun ⟨a, b, c, d, e⟩ => ⟨a.symm, b.symm, c.symm, d.symm, e.symm⟩, fun ⟨a, b, c, d, e⟩ => ⟨a.symm, b.symm, c.symm, d.symm, e.symm⟩⟩
theorem take_suc_eq {xs ys : List (Int × Int)} {k : Nat} (h : xs.take k = ys.take k) (hx : k < xs.length) (hy : k < ys.length) (e : xs.getD k (0, 0) = ys.getD k (0, 0)) : xs.take (k + 1) = ys.take (k + 1) := by
  have e1 : xs.getD k (0, 0) = xs[k] := by simp [hx]
  have e2 : ys.getD k (0, 0) = ys[k] := by simp [hy]
  rw [List.take_succ_eq_append_getElem hx, List.take_succ_eq_append_getElem hy, h, ← e1, ← e2, e]
set_option maxHeartbeats 1000000 in
theorem sl_EqualR (A B : Option Addr) (n m c d : Nat) (xs ys : List (Int × Int)) (w : World) (ha : RdP w 2 A (xs.map rowC)) (hb : RdP w 2 B (ys.map rowC)) (hn : n = xs.length) (hm : m = ys.length) (hn' : n ≤ 9000000000000000) :
    Gives Try.prog 129 #[.slice A n c, .slice B m d] w fun v w' => v = .bool (decide (xs = ys)) ∧ LeD w w' := by
  refine gives_enter Try.call129 Try.func129 rfl rfl rfl (by kernel_rfl) ?_
  by_cases hlen : n = m
  · refine v_seq ?_
    refine v_region ?_
    refine vl_val (os_assign rfl) ?_
    refine vl_nil ?_
    refine v_seq ?_
    refine v_seq ?_
    refine v_region ?_
    refine vl_val (os_move rfl) ?_
    refine vl_val (os_len Try.underlying63 rfl) ?_
    refine vl_val (os_move rfl) ?_
    refine vl_val (os_len Try.underlying63 rfl) ?_
    refine vl_val (os_neq rfl rfl) ?_
    refine vl_nil ?_
    refine v_cond_no rfl (by omega) ?_
    refine v_skip ?_
    refine v_seq ?_
    refine v_seq ?_
    refine v_region ?_
    refine vl_val (os_move rfl) ?_
    refine vl_val (os_len Try.underlying63 rfl) ?_
    refine vl_val (os_move rfl) ?_
    refine vl_nil ?_
    refine v_block ?_
    refine v_loop [(0, _), (1, _), (12, _)] (fun (k : Nat) => [(13, .int .i64 k)]) (fun k w' => k ≤ n ∧ xs.take k = ys.take k ∧ LeD w w') (fun k => n - k) (0) ⟨rfl, rfl, rfl, trivial⟩ ⟨rfl, trivial⟩ (⟨by omega, rfl, lee_d.refl _⟩) ?_
    rintro k w' ⟨hk, ht, q, rfl⟩
    refine v_seq ?_
    refine v_region ?_
    refine vl_val (os_lss rfl rfl) ?_
    refine vl_nil ?_
    refine v_seq ?_
    refine v_cond_d rfl (fun hlt => ?_) (fun hlt => ?_)
    · obtain ⟨b1, o1, rfl, -, -, c1⟩ := (ha.led ⟨q, rfl⟩).at2 (i := k) (by omega)
      obtain ⟨b2, o2, rfl, -, -, c2⟩ := (hb.led ⟨q, rfl⟩).at2 (i := k) (by omega)
      by_cases he : xs.getD k (0, 0) = ys.getD k (0, 0)
      · refine v_skip ?_
        refine v_seq ?_
        refine v_block ?_
        refine v_seq ?_
        refine v_region ?_
        refine vl_val (os_move rfl) ?_
        refine vl_val (os_assign rfl) ?_
        refine vl_nil ?_
        refine v_seq ?_
        refine v_region_t LeD _ mixed (by kernel_rfl) lee_d (led_start _) ?_
        refine vt_val (fun w hw => os_move rfl) ?_
        refine vt_val (fun w hw => os_move rfl) ?_
        refine vt_val (fun w hw => os_ixs Try.underlying63 Try.sizeOf62 rfl rfl (i := k) (by omega) (by omega)) ?_
        refine vt_val (fun w hw => os_loadP Try.underlying62 rfl (by kernel_rfl) rfl (c1.led hw)) ?_
        refine vt_val (fun w hw => os_move rfl) ?_
        refine vt_val (fun w hw => os_move rfl) ?_
        refine vt_val (fun w hw => os_ixs Try.underlying63 Try.sizeOf62 rfl rfl (i := k) (by omega) (by omega)) ?_
        refine vt_val (fun w hw => os_loadP Try.underlying62 rfl (by kernel_rfl) rfl (c2.led hw)) ?_
        refine vt_val (fun w hw => os_neqS2 Try.eqGuardType62 (by kernel_rfl) Try.stoodInHeld62 (by kernel_rfl) Try.underlying3 Try.isAgg3 rfl rfl) ?_
        refine vt_nil (fun w hw => ?_)
        obtain ⟨q2, rfl⟩ := hw
        refine v_cond_no rfl (by rw [he]; simp) ?_
        refine v_skip ?_
        refine v_region ?_
        refine vl_val (os_addi rfl rfl (by omega)) ?_
        refine vl_val (os_move rfl) ?_
        refine vl_nil ?_
        exact ⟨k + 1, ⟨rfl, rfl, rfl, trivial⟩, ⟨rfl, trivial⟩, ⟨by omega, take_suc_eq ht (by omega) (by omega) he, _, World.drewN_drewN ..⟩, by dsimp only; omega⟩
      · refine v_skip ?_
        refine v_seq ?_
        refine v_block ?_
        refine v_seq ?_
        refine v_region ?_
        refine vl_val (os_move rfl) ?_
        refine vl_val (os_assign rfl) ?_
        refine vl_nil ?_
        refine v_seq ?_
        refine v_region_t LeD _ mixed (by kernel_rfl) lee_d (led_start _) ?_
        refine vt_val (fun w hw => os_move rfl) ?_
        refine vt_val (fun w hw => os_move rfl) ?_
        refine vt_val (fun w hw => os_ixs Try.underlying63 Try.sizeOf62 rfl rfl (i := k) (by omega) (by omega)) ?_
        refine vt_val (fun w hw => os_loadP Try.underlying62 rfl (by kernel_rfl) rfl (c1.led hw)) ?_
        refine vt_val (fun w hw => os_move rfl) ?_
        refine vt_val (fun w hw => os_move rfl) ?_
        refine vt_val (fun w hw => os_ixs Try.underlying63 Try.sizeOf62 rfl rfl (i := k) (by omega) (by omega)) ?_
        refine vt_val (fun w hw => os_loadP Try.underlying62 rfl (by kernel_rfl) rfl (c2.led hw)) ?_
        refine vt_val (fun w hw => os_neqS2 Try.eqGuardType62 (by kernel_rfl) Try.stoodInHeld62 (by kernel_rfl) Try.underlying3 Try.isAgg3 rfl rfl) ?_
        refine vt_nil (fun w hw => ?_)
        obtain ⟨q2, rfl⟩ := hw
        refine v_cond_yes rfl (fun hh => he (Prod.ext hh.1 hh.2)) ?_
        refine v_seq ?_
        refine v_region ?_
        refine vl_val (os_assign rfl) ?_
        refine vl_nil ?_
        refine v_ret ?_
        exact post_ret rfl rfl (⟨by rw [decide_eq_false (fun e => he (by rw [e]))], _, World.drewN_drewN ..⟩)
    · obtain rfl : k = n := by omega
      rw [List.take_of_length_le (by omega), List.take_of_length_le (by omega)] at ht
      refine v_exit ?_
      refine v_seq ?_
      refine v_region ?_
      refine vl_val (os_assign rfl) ?_
      refine vl_nil ?_
      refine v_ret ?_
      exact post_ret rfl rfl (⟨by rw [decide_eq_true ht], _, rfl⟩)
  · refine v_seq ?_
    refine v_region ?_
    refine vl_val (os_assign rfl) ?_
    refine vl_nil ?_
    refine v_seq ?_
    refine v_seq ?_
    refine v_region ?_
    refine vl_val (os_move rfl) ?_
    refine vl_val (os_len Try.underlying63 rfl) ?_
    refine vl_val (os_move rfl) ?_
    refine vl_val (os_len Try.underlying63 rfl) ?_
    refine vl_val (os_neq rfl rfl) ?_
    refine vl_nil ?_
    refine v_cond_yes rfl (by omega) ?_
    refine v_seq ?_
    refine v_region ?_
    refine vl_val (os_assign rfl) ?_
    refine vl_nil ?_
    refine v_ret ?_
    exact post_ret rfl rfl (⟨by rw [decide_eq_false (fun e => hlen (by rw [hn, hm, e]))], lee_d.refl _⟩)
set_option maxHeartbeats 2000000 in
theorem hd_Like (d e : HeadV) (w : World) (hd : HeadOk w d) (he : HeadOk w e) : Gives Try.prog 80 #[.agg d.cells.toArray, .agg e.cells.toArray] w fun v w' => v = .bool (likeB d.q e.q) ∧ Below w.heap.size w w' := by
  have hA0 := bk_new w d.cells 65
  have hb0 : Below w.heap.size w (w.alloc (.cells d.cells.toArray 65)) := (Below.refl _ w).alloc (Nat.le_refl _) _
  have hA := hA0.alloc (.cells e.cells.toArray 65)
  have hB := bk_new (w.alloc (.cells d.cells.toArray 65)) e.cells 65
  have hb1 := hb0.alloc hb0.size (.cells e.cells.toArray 65)
  have hd1 := hd.keep hb1
  have he1 := he.keep hb1
  have l1 := hd.2.1
  have l2 := he.2.1
  have l3 := hd.2.2.1
  refine gives_enter Try.call80 Try.func80 rfl rfl rfl (by kernel_rfl) ?_
  by_cases h1 : d.q.st = e.q.st
  · by_cases h2 : d.q.fr = e.q.fr
    · by_cases h3 : d.q.n = e.q.n
      · by_cases h4 : d.q.dl = e.q.dl
        · refine v_seq ?_
          refine v_region ?_
          refine vl_val (os_box rfl) ?_
          refine vl_val (os_box rfl) ?_
          refine vl_val (os_assign rfl) ?_
          refine vl_nil ?_
          refine v_seq ?_
          refine v_region ?_
          refine vl_val (os_fa (o := 0) (k := 0) (by kernel_rfl) rfl) ?_
          refine vl_val (os_load Try.isAgg3 rfl (hA.cell (i := 0) rfl)) ?_
          refine vl_val (os_fa (o := 0) (k := 0) (by kernel_rfl) rfl) ?_
          refine vl_val (os_load Try.isAgg3 rfl (hB.cell (i := 0) rfl)) ?_
          refine vl_val (os_t (os_eql rfl rfl) (h1)) ?_
          refine vl_val (os_move rfl) ?_
          refine vl_valg rfl (os_fa (o := 1) (k := 0) (by kernel_rfl) rfl) ?_
          refine vl_valg rfl (os_load Try.isAgg3 rfl (hA.cell (i := 1) rfl)) ?_
          refine vl_valg rfl (os_fa (o := 1) (k := 0) (by kernel_rfl) rfl) ?_
          refine vl_valg rfl (os_load Try.isAgg3 rfl (hB.cell (i := 1) rfl)) ?_
          refine vl_valg rfl (os_t (os_eql rfl rfl) (h2)) ?_
          refine vl_val (os_pick_t rfl rfl) ?_
          refine vl_val (os_move rfl) ?_
          refine vl_valg rfl (os_fa (o := 3) (k := 0) (by kernel_rfl) rfl) ?_
          refine vl_valg rfl (os_load Try.isAgg3 rfl (hA.cell (i := 3) rfl)) ?_
          refine vl_valg rfl (os_fa (o := 3) (k := 0) (by kernel_rfl) rfl) ?_
          refine vl_valg rfl (os_load Try.isAgg3 rfl (hB.cell (i := 3) rfl)) ?_
          refine vl_valg rfl (os_t (os_eql rfl rfl) (h3)) ?_
          refine vl_val (os_pick_t rfl rfl) ?_
          refine vl_val (os_move rfl) ?_
          refine vl_valg rfl (os_fa (o := 4) (k := 0) (by kernel_rfl) rfl) ?_
          refine vl_valg rfl (os_load Try.isAgg3 rfl (hA.cell (i := 4) rfl)) ?_
          refine vl_valg rfl (os_fa (o := 4) (k := 0) (by kernel_rfl) rfl) ?_
          refine vl_valg rfl (os_load Try.isAgg3 rfl (hB.cell (i := 4) rfl)) ?_
          refine vl_valg rfl (os_t (os_eql rfl rfl) (h4)) ?_
          refine vl_val (os_pick_t rfl rfl) ?_
          refine vl_val (os_move rfl) ?_
          refine vl_valg rfl (os_fa (o := 5) (k := 0) (by kernel_rfl) rfl) ?_
          refine vl_valg rfl (os_load Try.isAgg63 rfl (hA.cell (i := 5) rfl)) ?_
          refine vl_valg rfl (os_fa (o := 5) (k := 0) (by kernel_rfl) rfl) ?_
          refine vl_valg rfl (os_load Try.isAgg63 rfl (hB.cell (i := 5) rfl)) ?_
          refine vl_callg rfl (sl_EqualR d.A e.A d.l e.l d.c e.c d.q.rows e.q.rows _ hd1.1 he1.1 l1 l2 (by omega)) rfl ?_
          rintro v1 w1 ⟨rfl, b1⟩
          refine vl_val (os_pick_t rfl rfl) ?_
          refine vl_val (os_assign rfl) ?_
          refine vl_nil ?_
          refine v_ret ?_
          exact post_ret rfl rfl (⟨by simp [likeB, h1, h2, h3, h4], hb1.trans ((led_below b1).mono hb1.size)⟩)
        · refine v_seq ?_
          refine v_region ?_
          refine vl_val (os_box rfl) ?_
          refine vl_val (os_box rfl) ?_
          refine vl_val (os_assign rfl) ?_
          refine vl_nil ?_
          refine v_seq ?_
          refine v_region ?_
          refine vl_val (os_fa (o := 0) (k := 0) (by kernel_rfl) rfl) ?_
          refine vl_val (os_load Try.isAgg3 rfl (hA.cell (i := 0) rfl)) ?_
          refine vl_val (os_fa (o := 0) (k := 0) (by kernel_rfl) rfl) ?_
          refine vl_val (os_load Try.isAgg3 rfl (hB.cell (i := 0) rfl)) ?_
          refine vl_val (os_t (os_eql rfl rfl) (h1)) ?_
          refine vl_val (os_move rfl) ?_
          refine vl_valg rfl (os_fa (o := 1) (k := 0) (by kernel_rfl) rfl) ?_
          refine vl_valg rfl (os_load Try.isAgg3 rfl (hA.cell (i := 1) rfl)) ?_
          refine vl_valg rfl (os_fa (o := 1) (k := 0) (by kernel_rfl) rfl) ?_
          refine vl_valg rfl (os_load Try.isAgg3 rfl (hB.cell (i := 1) rfl)) ?_
          refine vl_valg rfl (os_t (os_eql rfl rfl) (h2)) ?_
          refine vl_val (os_pick_t rfl rfl) ?_
          refine vl_val (os_move rfl) ?_
          refine vl_valg rfl (os_fa (o := 3) (k := 0) (by kernel_rfl) rfl) ?_
          refine vl_valg rfl (os_load Try.isAgg3 rfl (hA.cell (i := 3) rfl)) ?_
          refine vl_valg rfl (os_fa (o := 3) (k := 0) (by kernel_rfl) rfl) ?_
          refine vl_valg rfl (os_load Try.isAgg3 rfl (hB.cell (i := 3) rfl)) ?_
          refine vl_valg rfl (os_t (os_eql rfl rfl) (h3)) ?_
          refine vl_val (os_pick_t rfl rfl) ?_
          refine vl_val (os_move rfl) ?_
          refine vl_valg rfl (os_fa (o := 4) (k := 0) (by kernel_rfl) rfl) ?_
          refine vl_valg rfl (os_load Try.isAgg3 rfl (hA.cell (i := 4) rfl)) ?_
          refine vl_valg rfl (os_fa (o := 4) (k := 0) (by kernel_rfl) rfl) ?_
          refine vl_valg rfl (os_load Try.isAgg3 rfl (hB.cell (i := 4) rfl)) ?_
          refine vl_valg rfl (os_f (os_eql rfl rfl) (h4)) ?_
          refine vl_val (os_pick_t rfl rfl) ?_
          refine vl_val (os_move rfl) ?_
          refine vl_skip rfl rfl ?_
          refine vl_skip rfl rfl ?_
          refine vl_skip rfl rfl ?_
          refine vl_skip rfl rfl ?_
          refine vl_skip rfl rfl ?_
          refine vl_val (os_pick_f rfl rfl) ?_
          refine vl_val (os_assign rfl) ?_
          refine vl_nil ?_
          refine v_ret ?_
          exact post_ret rfl rfl (⟨by simp [likeB, h4], hb1⟩)
      · refine v_seq ?_
        refine v_region ?_
        refine vl_val (os_box rfl) ?_
        refine vl_val (os_box rfl) ?_
        refine vl_val (os_assign rfl) ?_
        refine vl_nil ?_
        refine v_seq ?_
        refine v_region ?_
        refine vl_val (os_fa (o := 0) (k := 0) (by kernel_rfl) rfl) ?_
        refine vl_val (os_load Try.isAgg3 rfl (hA.cell (i := 0) rfl)) ?_
        refine vl_val (os_fa (o := 0) (k := 0) (by kernel_rfl) rfl) ?_
        refine vl_val (os_load Try.isAgg3 rfl (hB.cell (i := 0) rfl)) ?_
        refine vl_val (os_t (os_eql rfl rfl) (h1)) ?_
        refine vl_val (os_move rfl) ?_
        refine vl_valg rfl (os_fa (o := 1) (k := 0) (by kernel_rfl) rfl) ?_
        refine vl_valg rfl (os_load Try.isAgg3 rfl (hA.cell (i := 1) rfl)) ?_
        refine vl_valg rfl (os_fa (o := 1) (k := 0) (by kernel_rfl) rfl) ?_
        refine vl_valg rfl (os_load Try.isAgg3 rfl (hB.cell (i := 1) rfl)) ?_
        refine vl_valg rfl (os_t (os_eql rfl rfl) (h2)) ?_
        refine vl_val (os_pick_t rfl rfl) ?_
        refine vl_val (os_move rfl) ?_
        refine vl_valg rfl (os_fa (o := 3) (k := 0) (by kernel_rfl) rfl) ?_
        refine vl_valg rfl (os_load Try.isAgg3 rfl (hA.cell (i := 3) rfl)) ?_
        refine vl_valg rfl (os_fa (o := 3) (k := 0) (by kernel_rfl) rfl) ?_
        refine vl_valg rfl (os_load Try.isAgg3 rfl (hB.cell (i := 3) rfl)) ?_
        refine vl_valg rfl (os_f (os_eql rfl rfl) (h3)) ?_
        refine vl_val (os_pick_t rfl rfl) ?_
        refine vl_val (os_move rfl) ?_
        refine vl_skip rfl rfl ?_
        refine vl_skip rfl rfl ?_
        refine vl_skip rfl rfl ?_
        refine vl_skip rfl rfl ?_
        refine vl_skip rfl rfl ?_
        refine vl_val (os_pick_f rfl rfl) ?_
        refine vl_val (os_move rfl) ?_
        refine vl_skip rfl rfl ?_
        refine vl_skip rfl rfl ?_
        refine vl_skip rfl rfl ?_
        refine vl_skip rfl rfl ?_
        refine vl_skip rfl rfl ?_
        refine vl_val (os_pick_f rfl rfl) ?_
        refine vl_val (os_assign rfl) ?_
        refine vl_nil ?_
        refine v_ret ?_
        exact post_ret rfl rfl (⟨by simp [likeB, h3], hb1⟩)
    · refine v_seq ?_
      refine v_region ?_
      refine vl_val (os_box rfl) ?_
      refine vl_val (os_box rfl) ?_
      refine vl_val (os_assign rfl) ?_
      refine vl_nil ?_
      refine v_seq ?_
      refine v_region ?_
      refine vl_val (os_fa (o := 0) (k := 0) (by kernel_rfl) rfl) ?_
      refine vl_val (os_load Try.isAgg3 rfl (hA.cell (i := 0) rfl)) ?_
      refine vl_val (os_fa (o := 0) (k := 0) (by kernel_rfl) rfl) ?_
      refine vl_val (os_load Try.isAgg3 rfl (hB.cell (i := 0) rfl)) ?_
      refine vl_val (os_t (os_eql rfl rfl) (h1)) ?_
      refine vl_val (os_move rfl) ?_
      refine vl_valg rfl (os_fa (o := 1) (k := 0) (by kernel_rfl) rfl) ?_
      refine vl_valg rfl (os_load Try.isAgg3 rfl (hA.cell (i := 1) rfl)) ?_
      refine vl_valg rfl (os_fa (o := 1) (k := 0) (by kernel_rfl) rfl) ?_
      refine vl_valg rfl (os_load Try.isAgg3 rfl (hB.cell (i := 1) rfl)) ?_
      refine vl_valg rfl (os_f (os_eql rfl rfl) (h2)) ?_
      refine vl_val (os_pick_t rfl rfl) ?_
      refine vl_val (os_move rfl) ?_
      refine vl_skip rfl rfl ?_
      refine vl_skip rfl rfl ?_
      refine vl_skip rfl rfl ?_
      refine vl_skip rfl rfl ?_
      refine vl_skip rfl rfl ?_
      refine vl_val (os_pick_f rfl rfl) ?_
      refine vl_val (os_move rfl) ?_
      refine vl_skip rfl rfl ?_
      refine vl_skip rfl rfl ?_
      refine vl_skip rfl rfl ?_
      refine vl_skip rfl rfl ?_
      refine vl_skip rfl rfl ?_
      refine vl_val (os_pick_f rfl rfl) ?_
      refine vl_val (os_move rfl) ?_
      refine vl_skip rfl rfl ?_
      refine vl_skip rfl rfl ?_
      refine vl_skip rfl rfl ?_
      refine vl_skip rfl rfl ?_
      refine vl_skip rfl rfl ?_
      refine vl_val (os_pick_f rfl rfl) ?_
      refine vl_val (os_assign rfl) ?_
      refine vl_nil ?_
      refine v_ret ?_
      exact post_ret rfl rfl (⟨by simp [likeB, h2], hb1⟩)
  · refine v_seq ?_
    refine v_region ?_
    refine vl_val (os_box rfl) ?_
    refine vl_val (os_box rfl) ?_
    refine vl_val (os_assign rfl) ?_
    refine vl_nil ?_
    refine v_seq ?_
    refine v_region ?_
    refine vl_val (os_fa (o := 0) (k := 0) (by kernel_rfl) rfl) ?_
    refine vl_val (os_load Try.isAgg3 rfl (hA.cell (i := 0) rfl)) ?_
    refine vl_val (os_fa (o := 0) (k := 0) (by kernel_rfl) rfl) ?_
    refine vl_val (os_load Try.isAgg3 rfl (hB.cell (i := 0) rfl)) ?_
    refine vl_val (os_f (os_eql rfl rfl) (h1)) ?_
    refine vl_val (os_move rfl) ?_
    refine vl_skip rfl rfl ?_
    refine vl_skip rfl rfl ?_
    refine vl_skip rfl rfl ?_
    refine vl_skip rfl rfl ?_
    refine vl_skip rfl rfl ?_
    refine vl_val (os_pick_f rfl rfl) ?_
    refine vl_val (os_move rfl) ?_
    refine vl_skip rfl rfl ?_
    refine vl_skip rfl rfl ?_
    refine vl_skip rfl rfl ?_
    refine vl_skip rfl rfl ?_
    refine vl_skip rfl rfl ?_
    refine vl_val (os_pick_f rfl rfl) ?_
    refine vl_val (os_move rfl) ?_
    refine vl_skip rfl rfl ?_
    refine vl_skip rfl rfl ?_
    refine vl_skip rfl rfl ?_
    refine vl_skip rfl rfl ?_
    refine vl_skip rfl rfl ?_
    refine vl_val (os_pick_f rfl rfl) ?_
    refine vl_val (os_move rfl) ?_
    refine vl_skip rfl rfl ?_
    refine vl_skip rfl rfl ?_
    refine vl_skip rfl rfl ?_
    refine vl_skip rfl rfl ?_
    refine vl_skip rfl rfl ?_
    refine vl_val (os_pick_f rfl rfl) ?_
    refine vl_val (os_assign rfl) ?_
    refine vl_nil ?_
    refine v_ret ?_
    exact post_ret rfl rfl (⟨by simp [likeB, h1], hb1⟩)
set_option maxHeartbeats 2000000 in
theorem ref14_Like (d e : HeadV) (w : World) (hd : HeadOk w d) (he : HeadOk w e) : Gives Try.prog 81 #[.agg d.cells.toArray, .agg e.cells.toArray] w fun v w' => v = .bool (likeB d.q e.q) ∧ Below w.heap.size w w' := by
  have hA0 := bk_new w d.cells 65
  have hb0 : Below w.heap.size w (w.alloc (.cells d.cells.toArray 65)) := (Below.refl _ w).alloc (Nat.le_refl _) _
  have hA := hA0.alloc (.cells e.cells.toArray 65)
  have hB := bk_new (w.alloc (.cells d.cells.toArray 65)) e.cells 65
  have hb1 := hb0.alloc hb0.size (.cells e.cells.toArray 65)
  have hd1 := hd.keep hb1
  have he1 := he.keep hb1
  have l1 := hd.2.1
  have l2 := he.2.1
  have l3 := hd.2.2.1
  obtain ⟨W, hW⟩ : ∃ W, W = (w.alloc (.cells d.cells.toArray 65)).alloc (.cells e.cells.toArray 65) := ⟨_, rfl⟩
  refine gives_enter Try.call81 Try.func81 rfl rfl rfl (by kernel_rfl) ?_
  by_cases h1 : d.q.st = e.q.st
  · by_cases h2 : d.q.fr = e.q.fr
    · by_cases h3 : d.q.n = e.q.n
      · by_cases h4 : d.q.dl = e.q.dl
        · by_cases h5 : d.l = e.l
          · refine v_seq ?_
            refine v_region ?_
            refine vl_val (os_box rfl) ?_
            refine vl_val (os_box rfl) ?_
            refine vl_val (os_assign rfl) ?_
            refine vl_nil ?_
            refine v_seq ?_
            refine v_seq ?_
            refine v_region ?_
            refine vl_val (os_fa (o := 0) (k := 0) (by kernel_rfl) rfl) ?_
            refine vl_val (os_load Try.isAgg3 rfl (hA.cell (i := 0) rfl)) ?_
            refine vl_val (os_fa (o := 0) (k := 0) (by kernel_rfl) rfl) ?_
            refine vl_val (os_load Try.isAgg3 rfl (hB.cell (i := 0) rfl)) ?_
            refine vl_val (os_f (os_neq rfl rfl) (by omega)) ?_
            refine vl_val (os_move rfl) ?_
            refine vl_valg rfl (os_fa (o := 1) (k := 0) (by kernel_rfl) rfl) ?_
            refine vl_valg rfl (os_load Try.isAgg3 rfl (hA.cell (i := 1) rfl)) ?_
            refine vl_valg rfl (os_fa (o := 1) (k := 0) (by kernel_rfl) rfl) ?_
            refine vl_valg rfl (os_load Try.isAgg3 rfl (hB.cell (i := 1) rfl)) ?_
            refine vl_valg rfl (os_f (os_neq rfl rfl) (by omega)) ?_
            refine vl_val (os_pick_f rfl rfl) ?_
            refine vl_val (os_move rfl) ?_
            refine vl_valg rfl (os_fa (o := 3) (k := 0) (by kernel_rfl) rfl) ?_
            refine vl_valg rfl (os_load Try.isAgg3 rfl (hA.cell (i := 3) rfl)) ?_
            refine vl_valg rfl (os_fa (o := 3) (k := 0) (by kernel_rfl) rfl) ?_
            refine vl_valg rfl (os_load Try.isAgg3 rfl (hB.cell (i := 3) rfl)) ?_
            refine vl_valg rfl (os_f (os_neq rfl rfl) (by omega)) ?_
            refine vl_val (os_pick_f rfl rfl) ?_
            refine vl_val (os_move rfl) ?_
            refine vl_valg rfl (os_fa (o := 4) (k := 0) (by kernel_rfl) rfl) ?_
            refine vl_valg rfl (os_load Try.isAgg3 rfl (hA.cell (i := 4) rfl)) ?_
            refine vl_valg rfl (os_fa (o := 4) (k := 0) (by kernel_rfl) rfl) ?_
            refine vl_valg rfl (os_load Try.isAgg3 rfl (hB.cell (i := 4) rfl)) ?_
            refine vl_valg rfl (os_f (os_neq rfl rfl) (by omega)) ?_
            refine vl_val (os_pick_f rfl rfl) ?_
            refine vl_val (os_move rfl) ?_
            refine vl_valg rfl (os_fa (o := 5) (k := 0) (by kernel_rfl) rfl) ?_
            refine vl_valg rfl (os_load Try.isAgg63 rfl (hA.cell (i := 5) rfl)) ?_
            refine vl_valg rfl (os_len Try.underlying63 rfl) ?_
            refine vl_valg rfl (os_fa (o := 5) (k := 0) (by kernel_rfl) rfl) ?_
            refine vl_valg rfl (os_load Try.isAgg63 rfl (hB.cell (i := 5) rfl)) ?_
            refine vl_valg rfl (os_len Try.underlying63 rfl) ?_
            refine vl_valg rfl (os_f (os_neq rfl rfl) (by omega)) ?_
            refine vl_val (os_pick_f rfl rfl) ?_
            refine vl_nil ?_
            refine v_cond_f rfl ?_
            refine v_skip ?_
            refine v_seq ?_
            refine v_seq ?_
            refine v_region ?_
            refine vl_val (os_assign rfl) ?_
            refine vl_nil ?_
            refine v_block ?_
            refine v_loop [(2, _), (3, _)] (fun (k : Nat) => [(5, .int .i64 k)]) (fun k w' => k ≤ d.l ∧ d.q.rows.take k = e.q.rows.take k ∧ LeD ((w.alloc (.cells d.cells.toArray 65)).alloc (.cells e.cells.toArray 65)) w') (fun k => d.l - k) (0) ⟨rfl, rfl, trivial⟩ ⟨rfl, trivial⟩ (⟨by omega, rfl, lee_d.refl _⟩) ?_
            rintro k w' ⟨hk, ht, q, rfl⟩
            refine v_seq ?_
            refine v_seq ?_
            refine v_region ?_
            refine vl_val (os_move rfl) ?_
            refine vl_val (os_fa (o := 5) (k := 0) (by kernel_rfl) rfl) ?_
            refine vl_val (os_load Try.isAgg63 rfl ((hA.led ⟨q, rfl⟩).cell (i := 5) rfl)) ?_
            refine vl_val (os_len Try.underlying63 rfl) ?_
            refine vl_val (os_lss rfl rfl) ?_
            refine vl_nil ?_
            refine v_cond_d rfl (fun hlt => ?_) (fun hlt => ?_)
            · obtain ⟨b1, o1, eA, -, -, c1⟩ := (hd1.1.led ⟨q, rfl⟩).at2 (i := k) (by omega)
              obtain ⟨b2, o2, eB, -, -, c2⟩ := (he1.1.led ⟨q, rfl⟩).at2 (i := k) (by omega)
              by_cases he : d.q.rows.getD k (0, 0) = e.q.rows.getD k (0, 0)
              · refine v_skip ?_
                refine v_seq ?_
                refine v_block ?_
                refine v_seq ?_
                refine v_region_t LeD _ mixed (by kernel_rfl) lee_d (led_start _) ?_
                refine vt_val (fun w hw => os_fa (o := 5) (k := 0) (by kernel_rfl) rfl) ?_
                refine vt_val (fun w hw => os_load Try.isAgg63 rfl (led_cell hw ((hA.led ⟨q, rfl⟩).cell (i := 5) (v := .slice (some ⟨b1, o1, none⟩) d.l d.c) (by rw [← eA]; rfl)))) ?_
                refine vt_val (fun w hw => os_move rfl) ?_
                refine vt_val (fun w hw => os_ixs Try.underlying63 Try.sizeOf62 rfl rfl (i := k) (by omega) (by omega)) ?_
                refine vt_val (fun w hw => os_loadP Try.underlying62 rfl (by kernel_rfl) rfl (c1.led hw)) ?_
                refine vt_val (fun w hw => os_fa (o := 5) (k := 0) (by kernel_rfl) rfl) ?_
                refine vt_val (fun w hw => os_load Try.isAgg63 rfl (led_cell hw ((hB.led ⟨q, rfl⟩).cell (i := 5) (v := .slice (some ⟨b2, o2, none⟩) e.l e.c) (by rw [← eB]; rfl)))) ?_
                refine vt_val (fun w hw => os_move rfl) ?_
                refine vt_val (fun w hw => os_ixs Try.underlying63 Try.sizeOf62 rfl rfl (i := k) (by omega) (by omega)) ?_
                refine vt_val (fun w hw => os_loadP Try.underlying62 rfl (by kernel_rfl) rfl (c2.led hw)) ?_
                refine vt_val (fun w hw => os_neqS2 Try.eqGuardType62 (by kernel_rfl) Try.stoodInHeld62 (by kernel_rfl) Try.underlying3 Try.isAgg3 rfl rfl) ?_
                refine vt_nil (fun w hw => ?_)
                obtain ⟨q2, rfl⟩ := hw
                refine v_cond_no rfl (by rw [he]; simp) ?_
                refine v_skip ?_
                refine v_region ?_
                refine vl_val (os_move rfl) ?_
                refine vl_val (os_addi rfl rfl (by omega)) ?_
                refine vl_val (os_assign rfl) ?_
                refine vl_nil ?_
                exact ⟨k + 1, ⟨rfl, rfl, trivial⟩, ⟨rfl, trivial⟩, ⟨by omega, take_suc_eq ht (by omega) (by omega) he, _, World.drewN_drewN ..⟩, by dsimp only; omega⟩
              · refine v_skip ?_
                refine v_seq ?_
                refine v_block ?_
                refine v_seq ?_
                refine v_region_t LeD _ mixed (by kernel_rfl) lee_d (led_start _) ?_
                refine vt_val (fun w hw => os_fa (o := 5) (k := 0) (by kernel_rfl) rfl) ?_
                refine vt_val (fun w hw => os_load Try.isAgg63 rfl (led_cell hw ((hA.led ⟨q, rfl⟩).cell (i := 5) (v := .slice (some ⟨b1, o1, none⟩) d.l d.c) (by rw [← eA]; rfl)))) ?_
                refine vt_val (fun w hw => os_move rfl) ?_
                refine vt_val (fun w hw => os_ixs Try.underlying63 Try.sizeOf62 rfl rfl (i := k) (by omega) (by omega)) ?_
                refine vt_val (fun w hw => os_loadP Try.underlying62 rfl (by kernel_rfl) rfl (c1.led hw)) ?_
                refine vt_val (fun w hw => os_fa (o := 5) (k := 0) (by kernel_rfl) rfl) ?_
                refine vt_val (fun w hw => os_load Try.isAgg63 rfl (led_cell hw ((hB.led ⟨q, rfl⟩).cell (i := 5) (v := .slice (some ⟨b2, o2, none⟩) e.l e.c) (by rw [← eB]; rfl)))) ?_
                refine vt_val (fun w hw => os_move rfl) ?_
                refine vt_val (fun w hw => os_ixs Try.underlying63 Try.sizeOf62 rfl rfl (i := k) (by omega) (by omega)) ?_
                refine vt_val (fun w hw => os_loadP Try.underlying62 rfl (by kernel_rfl) rfl (c2.led hw)) ?_
                refine vt_val (fun w hw => os_neqS2 Try.eqGuardType62 (by kernel_rfl) Try.stoodInHeld62 (by kernel_rfl) Try.underlying3 Try.isAgg3 rfl rfl) ?_
                refine vt_nil (fun w hw => ?_)
                obtain ⟨q2, rfl⟩ := hw
                refine v_cond_yes rfl (fun hh => he (Prod.ext hh.1 hh.2)) ?_
                refine v_seq ?_
                refine v_region ?_
                refine vl_val (os_assign rfl) ?_
                refine vl_nil ?_
                refine v_ret ?_
                exact post_ret rfl rfl (⟨by simp only [likeB]; rw [decide_eq_false (fun e => he (by rw [e.2.2.2.2]))], hb1.trans ((led_below ⟨_, World.drewN_drewN ..⟩).mono hb1.size)⟩)
            · rw [List.take_of_length_le (by omega), List.take_of_length_le (by omega)] at ht
              refine v_exit ?_
              refine v_seq ?_
              refine v_region ?_
              refine vl_val (os_assign rfl) ?_
              refine vl_nil ?_
              refine v_ret ?_
              exact post_ret rfl rfl (⟨by simp [likeB, h1, h2, h3, h4, ht], hb1.trans ((led_below ⟨_, rfl⟩).mono hb1.size)⟩)
          · refine v_seq ?_
            refine v_region ?_
            refine vl_val (os_box rfl) ?_
            refine vl_val (os_box rfl) ?_
            refine vl_val (os_assign rfl) ?_
            refine vl_nil ?_
            refine v_seq ?_
            refine v_seq ?_
            refine v_region ?_
            refine vl_val (os_fa (o := 0) (k := 0) (by kernel_rfl) rfl) ?_
            refine vl_val (os_load Try.isAgg3 rfl (hA.cell (i := 0) rfl)) ?_
            refine vl_val (os_fa (o := 0) (k := 0) (by kernel_rfl) rfl) ?_
            refine vl_val (os_load Try.isAgg3 rfl (hB.cell (i := 0) rfl)) ?_
            refine vl_val (os_f (os_neq rfl rfl) (by omega)) ?_
            refine vl_val (os_move rfl) ?_
            refine vl_valg rfl (os_fa (o := 1) (k := 0) (by kernel_rfl) rfl) ?_
            refine vl_valg rfl (os_load Try.isAgg3 rfl (hA.cell (i := 1) rfl)) ?_
            refine vl_valg rfl (os_fa (o := 1) (k := 0) (by kernel_rfl) rfl) ?_
            refine vl_valg rfl (os_load Try.isAgg3 rfl (hB.cell (i := 1) rfl)) ?_
            refine vl_valg rfl (os_f (os_neq rfl rfl) (by omega)) ?_
            refine vl_val (os_pick_f rfl rfl) ?_
            refine vl_val (os_move rfl) ?_
            refine vl_valg rfl (os_fa (o := 3) (k := 0) (by kernel_rfl) rfl) ?_
            refine vl_valg rfl (os_load Try.isAgg3 rfl (hA.cell (i := 3) rfl)) ?_
            refine vl_valg rfl (os_fa (o := 3) (k := 0) (by kernel_rfl) rfl) ?_
            refine vl_valg rfl (os_load Try.isAgg3 rfl (hB.cell (i := 3) rfl)) ?_
            refine vl_valg rfl (os_f (os_neq rfl rfl) (by omega)) ?_
            refine vl_val (os_pick_f rfl rfl) ?_
            refine vl_val (os_move rfl) ?_
            refine vl_valg rfl (os_fa (o := 4) (k := 0) (by kernel_rfl) rfl) ?_
            refine vl_valg rfl (os_load Try.isAgg3 rfl (hA.cell (i := 4) rfl)) ?_
            refine vl_valg rfl (os_fa (o := 4) (k := 0) (by kernel_rfl) rfl) ?_
            refine vl_valg rfl (os_load Try.isAgg3 rfl (hB.cell (i := 4) rfl)) ?_
            refine vl_valg rfl (os_f (os_neq rfl rfl) (by omega)) ?_
            refine vl_val (os_pick_f rfl rfl) ?_
            refine vl_val (os_move rfl) ?_
            refine vl_valg rfl (os_fa (o := 5) (k := 0) (by kernel_rfl) rfl) ?_
            refine vl_valg rfl (os_load Try.isAgg63 rfl (hA.cell (i := 5) rfl)) ?_
            refine vl_valg rfl (os_len Try.underlying63 rfl) ?_
            refine vl_valg rfl (os_fa (o := 5) (k := 0) (by kernel_rfl) rfl) ?_
            refine vl_valg rfl (os_load Try.isAgg63 rfl (hB.cell (i := 5) rfl)) ?_
            refine vl_valg rfl (os_len Try.underlying63 rfl) ?_
            refine vl_valg rfl (os_t (os_neq rfl rfl) (by omega)) ?_
            refine vl_val (os_pick_f rfl rfl) ?_
            refine vl_nil ?_
            refine v_cond_t rfl ?_
            refine v_seq ?_
            refine v_region ?_
            refine vl_val (os_assign rfl) ?_
            refine vl_nil ?_
            refine v_ret ?_
            exact post_ret rfl rfl (⟨by simp only [likeB]; rw [decide_eq_false (fun e => h5 (by rw [l1, l2, e.2.2.2.2]))], hb1⟩)
        · refine v_seq ?_
          refine v_region ?_
          refine vl_val (os_box rfl) ?_
          refine vl_val (os_box rfl) ?_
          refine vl_val (os_assign rfl) ?_
          refine vl_nil ?_
          refine v_seq ?_
          refine v_seq ?_
          refine v_region ?_
          refine vl_val (os_fa (o := 0) (k := 0) (by kernel_rfl) rfl) ?_
          refine vl_val (os_load Try.isAgg3 rfl (hA.cell (i := 0) rfl)) ?_
          refine vl_val (os_fa (o := 0) (k := 0) (by kernel_rfl) rfl) ?_
          refine vl_val (os_load Try.isAgg3 rfl (hB.cell (i := 0) rfl)) ?_
          refine vl_val (os_f (os_neq rfl rfl) (by omega)) ?_
          refine vl_val (os_move rfl) ?_
          refine vl_valg rfl (os_fa (o := 1) (k := 0) (by kernel_rfl) rfl) ?_
          refine vl_valg rfl (os_load Try.isAgg3 rfl (hA.cell (i := 1) rfl)) ?_
          refine vl_valg rfl (os_fa (o := 1) (k := 0) (by kernel_rfl) rfl) ?_
          refine vl_valg rfl (os_load Try.isAgg3 rfl (hB.cell (i := 1) rfl)) ?_
          refine vl_valg rfl (os_f (os_neq rfl rfl) (by omega)) ?_
          refine vl_val (os_pick_f rfl rfl) ?_
          refine vl_val (os_move rfl) ?_
          refine vl_valg rfl (os_fa (o := 3) (k := 0) (by kernel_rfl) rfl) ?_
          refine vl_valg rfl (os_load Try.isAgg3 rfl (hA.cell (i := 3) rfl)) ?_
          refine vl_valg rfl (os_fa (o := 3) (k := 0) (by kernel_rfl) rfl) ?_
          refine vl_valg rfl (os_load Try.isAgg3 rfl (hB.cell (i := 3) rfl)) ?_
          refine vl_valg rfl (os_f (os_neq rfl rfl) (by omega)) ?_
          refine vl_val (os_pick_f rfl rfl) ?_
          refine vl_val (os_move rfl) ?_
          refine vl_valg rfl (os_fa (o := 4) (k := 0) (by kernel_rfl) rfl) ?_
          refine vl_valg rfl (os_load Try.isAgg3 rfl (hA.cell (i := 4) rfl)) ?_
          refine vl_valg rfl (os_fa (o := 4) (k := 0) (by kernel_rfl) rfl) ?_
          refine vl_valg rfl (os_load Try.isAgg3 rfl (hB.cell (i := 4) rfl)) ?_
          refine vl_valg rfl (os_t (os_neq rfl rfl) (h4)) ?_
          refine vl_val (os_pick_f rfl rfl) ?_
          refine vl_val (os_move rfl) ?_
          refine vl_skip rfl rfl ?_
          refine vl_skip rfl rfl ?_
          refine vl_skip rfl rfl ?_
          refine vl_skip rfl rfl ?_
          refine vl_skip rfl rfl ?_
          refine vl_skip rfl rfl ?_
          refine vl_skip rfl rfl ?_
          refine vl_val (os_pick_t rfl rfl) ?_
          refine vl_nil ?_
          refine v_cond_t rfl ?_
          refine v_seq ?_
          refine v_region ?_
          refine vl_val (os_assign rfl) ?_
          refine vl_nil ?_
          refine v_ret ?_
          exact post_ret rfl rfl (⟨by simp [likeB, h4], hb1⟩)
      · refine v_seq ?_
        refine v_region ?_
        refine vl_val (os_box rfl) ?_
        refine vl_val (os_box rfl) ?_
        refine vl_val (os_assign rfl) ?_
        refine vl_nil ?_
        refine v_seq ?_
        refine v_seq ?_
        refine v_region ?_
        refine vl_val (os_fa (o := 0) (k := 0) (by kernel_rfl) rfl) ?_
        refine vl_val (os_load Try.isAgg3 rfl (hA.cell (i := 0) rfl)) ?_
        refine vl_val (os_fa (o := 0) (k := 0) (by kernel_rfl) rfl) ?_
        refine vl_val (os_load Try.isAgg3 rfl (hB.cell (i := 0) rfl)) ?_
        refine vl_val (os_f (os_neq rfl rfl) (by omega)) ?_
        refine vl_val (os_move rfl) ?_
        refine vl_valg rfl (os_fa (o := 1) (k := 0) (by kernel_rfl) rfl) ?_
        refine vl_valg rfl (os_load Try.isAgg3 rfl (hA.cell (i := 1) rfl)) ?_
        refine vl_valg rfl (os_fa (o := 1) (k := 0) (by kernel_rfl) rfl) ?_
        refine vl_valg rfl (os_load Try.isAgg3 rfl (hB.cell (i := 1) rfl)) ?_
        refine vl_valg rfl (os_f (os_neq rfl rfl) (by omega)) ?_
        refine vl_val (os_pick_f rfl rfl) ?_
        refine vl_val (os_move rfl) ?_
        refine vl_valg rfl (os_fa (o := 3) (k := 0) (by kernel_rfl) rfl) ?_
        refine vl_valg rfl (os_load Try.isAgg3 rfl (hA.cell (i := 3) rfl)) ?_
        refine vl_valg rfl (os_fa (o := 3) (k := 0) (by kernel_rfl) rfl) ?_
        refine vl_valg rfl (os_load Try.isAgg3 rfl (hB.cell (i := 3) rfl)) ?_
        refine vl_valg rfl (os_t (os_neq rfl rfl) (h3)) ?_
        refine vl_val (os_pick_f rfl rfl) ?_
        refine vl_val (os_move rfl) ?_
        refine vl_skip rfl rfl ?_
        refine vl_skip rfl rfl ?_
        refine vl_skip rfl rfl ?_
        refine vl_skip rfl rfl ?_
        refine vl_skip rfl rfl ?_
        refine vl_val (os_pick_t rfl rfl) ?_
        refine vl_val (os_move rfl) ?_
        refine vl_skip rfl rfl ?_
        refine vl_skip rfl rfl ?_
        refine vl_skip rfl rfl ?_
        refine vl_skip rfl rfl ?_
        refine vl_skip rfl rfl ?_
        refine vl_skip rfl rfl ?_
        refine vl_skip rfl rfl ?_
        refine vl_val (os_pick_t rfl rfl) ?_
        refine vl_nil ?_
        refine v_cond_t rfl ?_
        refine v_seq ?_
        refine v_region ?_
        refine vl_val (os_assign rfl) ?_
        refine vl_nil ?_
        refine v_ret ?_
        exact post_ret rfl rfl (⟨by simp [likeB, h3], hb1⟩)
    · refine v_seq ?_
      refine v_region ?_
      refine vl_val (os_box rfl) ?_
      refine vl_val (os_box rfl) ?_
      refine vl_val (os_assign rfl) ?_
      refine vl_nil ?_
      refine v_seq ?_
      refine v_seq ?_
      refine v_region ?_
      refine vl_val (os_fa (o := 0) (k := 0) (by kernel_rfl) rfl) ?_
      refine vl_val (os_load Try.isAgg3 rfl (hA.cell (i := 0) rfl)) ?_
      refine vl_val (os_fa (o := 0) (k := 0) (by kernel_rfl) rfl) ?_
      refine vl_val (os_load Try.isAgg3 rfl (hB.cell (i := 0) rfl)) ?_
      refine vl_val (os_f (os_neq rfl rfl) (by omega)) ?_
      refine vl_val (os_move rfl) ?_
      refine vl_valg rfl (os_fa (o := 1) (k := 0) (by kernel_rfl) rfl) ?_
      refine vl_valg rfl (os_load Try.isAgg3 rfl (hA.cell (i := 1) rfl)) ?_
      refine vl_valg rfl (os_fa (o := 1) (k := 0) (by kernel_rfl) rfl) ?_
      refine vl_valg rfl (os_load Try.isAgg3 rfl (hB.cell (i := 1) rfl)) ?_
      refine vl_valg rfl (os_t (os_neq rfl rfl) (h2)) ?_
      refine vl_val (os_pick_f rfl rfl) ?_
      refine vl_val (os_move rfl) ?_
      refine vl_skip rfl rfl ?_
      refine vl_skip rfl rfl ?_
      refine vl_skip rfl rfl ?_
      refine vl_skip rfl rfl ?_
      refine vl_skip rfl rfl ?_
      refine vl_val (os_pick_t rfl rfl) ?_
      refine vl_val (os_move rfl) ?_
      refine vl_skip rfl rfl ?_
      refine vl_skip rfl rfl ?_
      refine vl_skip rfl rfl ?_
      refine vl_skip rfl rfl ?_
      refine vl_skip rfl rfl ?_
      refine vl_val (os_pick_t rfl rfl) ?_
      refine vl_val (os_move rfl) ?_
      refine vl_skip rfl rfl ?_
      refine vl_skip rfl rfl ?_
      refine vl_skip rfl rfl ?_
      refine vl_skip rfl rfl ?_
      refine vl_skip rfl rfl ?_
      refine vl_skip rfl rfl ?_
      refine vl_skip rfl rfl ?_
      refine vl_val (os_pick_t rfl rfl) ?_
      refine vl_nil ?_
      refine v_cond_t rfl ?_
      refine v_seq ?_
      refine v_region ?_
      refine vl_val (os_assign rfl) ?_
      refine vl_nil ?_
      refine v_ret ?_
      exact post_ret rfl rfl (⟨by simp [likeB, h2], hb1⟩)
  · refine v_seq ?_
    refine v_region ?_
    refine vl_val (os_box rfl) ?_
    refine vl_val (os_box rfl) ?_
    refine vl_val (os_assign rfl) ?_
    refine vl_nil ?_
    refine v_seq ?_
    refine v_seq ?_
    refine v_region ?_
    refine vl_val (os_fa (o := 0) (k := 0) (by kernel_rfl) rfl) ?_
    refine vl_val (os_load Try.isAgg3 rfl (hA.cell (i := 0) rfl)) ?_
    refine vl_val (os_fa (o := 0) (k := 0) (by kernel_rfl) rfl) ?_
    refine vl_val (os_load Try.isAgg3 rfl (hB.cell (i := 0) rfl)) ?_
    refine vl_val (os_t (os_neq rfl rfl) (h1)) ?_
    refine vl_val (os_move rfl) ?_
    refine vl_skip rfl rfl ?_
    refine vl_skip rfl rfl ?_
    refine vl_skip rfl rfl ?_
    refine vl_skip rfl rfl ?_
    refine vl_skip rfl rfl ?_
    refine vl_val (os_pick_t rfl rfl) ?_
    refine vl_val (os_move rfl) ?_
    refine vl_skip rfl rfl ?_
    refine vl_skip rfl rfl ?_
    refine vl_skip rfl rfl ?_
    refine vl_skip rfl rfl ?_
    refine vl_skip rfl rfl ?_
    refine vl_val (os_pick_t rfl rfl) ?_
    refine vl_val (os_move rfl) ?_
    refine vl_skip rfl rfl ?_
    refine vl_skip rfl rfl ?_
    refine vl_skip rfl rfl ?_
    refine vl_skip rfl rfl ?_
    refine vl_skip rfl rfl ?_
    refine vl_val (os_pick_t rfl rfl) ?_
    refine vl_val (os_move rfl) ?_
    refine vl_skip rfl rfl ?_
    refine vl_skip rfl rfl ?_
    refine vl_skip rfl rfl ?_
    refine vl_skip rfl rfl ?_
    refine vl_skip rfl rfl ?_
    refine vl_skip rfl rfl ?_
    refine vl_skip rfl rfl ?_
    refine vl_val (os_pick_t rfl rfl) ?_
    refine vl_nil ?_
    refine v_cond_t rfl ?_
    refine v_seq ?_
    refine v_region ?_
    refine vl_val (os_assign rfl) ?_
    refine vl_nil ?_
    refine v_ret ?_
    exact post_ret rfl rfl (⟨by simp [likeB, h1], hb1⟩)
end Go.Proofs.Ytpojijnjdlnokaa

/- Layer 14: the walk of HeadLike. -/
namespace Go.Proofs.Ytpojijnjdlnokaa
open Go.RowKit
set_option linter.unusedVariables false

/-- the last bit turned -/
def xor1 (x : Int) : Int := IntKind.i64.wrap ((BitVec.ofInt 64 x ^^^ BitVec.ofInt 64 1).toNat : Nat)
theorem xor1_I64 (x : Int) : I64 (xor1 x) := by
  have h := (BitVec.ofInt 64 x ^^^ BitVec.ofInt 64 1).isLt
  unfold xor1 IntKind.wrap
  simp only [IntKind.bits, IntKind.signed, Bool.true_and, Nat.reduceSub]
  generalize (BitVec.ofInt 64 x ^^^ BitVec.ofInt 64 1).toNat = m at *
  split <;> rename_i hc <;> simp at hc <;> exact ⟨by omega, by omega⟩
theorem ofInt_wrap (m : Nat) (hm : m < 2 ^ 64) : (BitVec.ofInt 64 (IntKind.i64.wrap (m : Int))).toNat = m := by
  rw [BitVec.toNat_ofInt]
  unfold IntKind.wrap
  simp only [IntKind.bits, IntKind.signed, Bool.true_and, Nat.reduceSub]
  split <;> rename_i hc <;> simp at hc <;> omega
theorem xor1_ne (x : Int) : xor1 x ≠ x := by
  intro h
  have hm := (BitVec.ofInt 64 x ^^^ BitVec.ofInt 64 1).isLt
  have h1 := ofInt_wrap _ hm
  have h2 : BitVec.ofInt 64 x = BitVec.ofInt 64 x ^^^ BitVec.ofInt 64 1 := BitVec.eq_of_toNat_eq (by
    unfold xor1 at h
    rw [h] at h1
    exact h1)
  have h3 := congrArg (BitVec.ofInt 64 x ^^^ ·) h2
  simp only [← BitVec.xor_assoc, BitVec.xor_self, BitVec.zero_xor] at h3
  exact absurd h3 (by decide)
theorem flat_set1 (rows : List (Int × Int)) : ∀ (k : Nat) (a : Int), k < rows.length → ((rows.map rowC).flatten).set (k * 2 + 1) (.int .i64 a) = ((rows.set k ((rows.getD k (0, 0)).1, a)).map rowC).flatten := by
  induction rows with
  | nil => intro k a h; simp at h
  | cons x r ih =>
    intro k a h
    rcases k with _ | k
    · rfl
    · have h' := ih k a (by simpa using h)
      simp only [List.map_cons, List.flatten_cons, List.set_cons_succ, List.getD_cons_succ] at h' ⊢
      rw [← h']
      rw [List.set_append_right (h := by simp [rowC]; omega)]
      congr 2
      simp [rowC]; omega
theorem flat_set0 (rows : List (Int × Int)) : ∀ (k : Nat) (a : Int), k < rows.length → ((rows.map rowC).flatten).set (k * 2) (.int .i64 a) = ((rows.set k (a, (rows.getD k (0, 0)).2)).map rowC).flatten := by
  induction rows with
  | nil => intro k a h; simp at h
  | cons x r ih =>
    intro k a h
    rcases k with _ | k
    · rfl
    · have h' := ih k a (by simpa using h)
      simp only [List.map_cons, List.flatten_cons, List.set_cons_succ, List.getD_cons_succ] at h' ⊢
      rw [← h']
      rw [List.set_append_right (h := by simp [rowC]; omega)]
      congr 2
      simp [rowC]; omega
theorem OwnP.set1 {w : World} {B : Nat} {t : TypeId} {g n c : Nat} {rows : List (Int × Int)} (h : OwnP w B t 2 (.slice (some ⟨g, 0, none⟩) n c) (rows.map rowC)) {k : Nat} (hk : k < rows.length) (hn : n = rows.length) (a : Int) :
    OwnP (w.setCell ⟨g, k * 2 + 1, none⟩ (.int .i64 a)) B t 2 (.slice (some ⟨g, 0, none⟩) n c) ((rows.set k ((rows.getD k (0, 0)).1, a)).map rowC) := by
  have h2 := h.2
  subst hn
  rw [List.length_map] at h2
  refine ⟨rowC_len _, ?_⟩
  have := (World.ownsRow.stored h2 (k * 2 + 1) (.int .i64 a)).1
  rw [flat_set1 rows k a hk] at this
  rw [List.length_map, List.length_set]
  exact this
theorem OwnP.set0 {w : World} {B : Nat} {t : TypeId} {g n c : Nat} {rows : List (Int × Int)} (h : OwnP w B t 2 (.slice (some ⟨g, 0, none⟩) n c) (rows.map rowC)) {k : Nat} (hk : k < rows.length) (hn : n = rows.length) (a : Int) :
    OwnP (w.setCell ⟨g, k * 2, none⟩ (.int .i64 a)) B t 2 (.slice (some ⟨g, 0, none⟩) n c) ((rows.set k (a, (rows.getD k (0, 0)).2)).map rowC) := by
  have h2 := h.2
  subst hn
  rw [List.length_map] at h2
  refine ⟨rowC_len _, ?_⟩
  have := (World.ownsRow.stored h2 (k * 2) (.int .i64 a)).1
  rw [flat_set0 rows k a hk] at this
  rw [List.length_map, List.length_set]
  exact this
theorem set_ne1 {rows : List (Int × Int)} {k : Nat} (hk : k < rows.length) : rows ≠ rows.set k ((rows.getD k (0, 0)).1, xor1 (rows.getD k (0, 0)).2) := fun h => by
  have h1 := congrArg (fun l : List (Int × Int) => (l.getD k (0, 0)).2) h
  simp only [List.getD_eq_getElem?_getD, List.getElem?_set_self hk, Option.getD_some] at h1
  exact xor1_ne _ h1.symm
theorem app_ne {rows : List (Int × Int)} {x : Int × Int} : rows ≠ rows ++ [x] := fun h => by
  have := congrArg List.length h
  simp at this
theorem OwnP.free {w : World} {B : Nat} {t : TypeId} {s g n c : Nat} {ps : List (List Value)} (h : OwnP w B t s (.slice (some ⟨g, 0, none⟩) n c) ps) (j : Nat) : w.frozen? ⟨g, j, none⟩ = false := by
  rcases h.2.2 with ⟨h1, _⟩ | ⟨g', cap, cur, h1, _, hg, _⟩
  · cases h1
  · simp only [Value.slice.injEq, Option.some.injEq, Addr.mk.injEq, and_true] at h1
    obtain ⟨rfl, _⟩ := h1
    simp [World.frozen?, hg]
theorem OwnP.type_ne {w : World} {B : Nat} {t t' : TypeId} {s g n c M : Nat} {ps : List (List Value)} {cs : List Value} (h : OwnP w B t s (.slice (some ⟨g, 0, none⟩) n c) ps) (hM : Bk w M cs t') (ht : t ≠ t') : g ≠ M := by
  rintro rfl
  rcases h.2.2 with ⟨h1, _⟩ | ⟨g', cap, cur, h1, _, hg, _⟩
  · cases h1
  · simp only [Value.slice.injEq, Option.some.injEq, Addr.mk.injEq, and_true] at h1
    obtain ⟨rfl, _⟩ := h1
    unfold Bk at hM
    rw [hg] at hM
    injection hM with hM
    injection hM with _ hM
    exact ht hM
theorem getD_mem {rows : List (Int × Int)} {k : Nat} (h : k < rows.length) : rows.getD k (0, 0) ∈ rows := by
  rw [List.getD_eq_getElem?_getD, List.getElem?_eq_getElem h]; exact List.getElem_mem _
theorem HeadOk.ofOwn {w : World} {B : Nat} {t : TypeId} {q : HeadP} {A : Option Addr} {l c : Nat} (o : OwnP w B t 2 (.slice A l c) (q.rows.map rowC)) (hl : l = q.rows.length) (h9 : l ≤ 9000000000000) (hi : I64 q.st ∧ I64 q.fr ∧ I64 q.ix ∧ I64 q.n ∧ I64 q.dl) (hr : ∀ p ∈ q.rows, I64 p.1 ∧ I64 p.2) (hc : l ≤ c) : HeadOk w ⟨q, A, l, c⟩ :=
  ⟨OwnP.rdp o, hl, h9, hi, hr, hc⟩
/-- the copy is not like the header any more -/
def Unlike (w' : World) (M : Nat) (d : HeadV) : Prop := ∃ f : HeadV, Bk w' M f.cells 65 ∧ HeadOk w' f ∧ likeB d.q f.q = false
theorem mem_set_all {P : Int × Int → Prop} {rows : List (Int × Int)} (h : ∀ p ∈ rows, P p) {k : Nat} {x : Int × Int} (hx : P x) : ∀ p ∈ rows.set k x, P p := fun p hp => by
  rcases List.mem_or_eq_of_mem_set hp with h1 | h1
  · exact h p h1
  · rw [h1]; exact hx
end Go.Proofs.Ytpojijnjdlnokaa
