/- Layer 12: which thresholds are better; the chapter's example; the order. -/
import Derived.Test.YtmbcflanifoofaaWg
namespace Go.Proofs.Ytmbcflanifoofaa
open Go.RowKit
set_option linter.unusedVariables false

theorem drop_cons {xs : List Int} {k : Nat} (h : k < xs.length) : xs.drop k = xs.getD k 0 :: xs.drop (k + 1) := by
  rw [List.drop_eq_getElem_cons h]; simp [h]
theorem sl_Compare (A B : Option Addr) (n m c d : Nat) (xs ys : List Int) (w : World) (ha : Rd w .i64 A xs) (hb : Rd w .i64 B ys) (hn : n = xs.length) (hm : m = ys.length) (hn' : n ≤ 9000000000000000) (hm' : m ≤ 9000000000000000) :
    Gives Try.prog 93 #[.slice A n c, .slice B m d] w fun v w' => ∃ z, v = .int .i64 z ∧ (decide (z < 0)) = lessL xs ys ∧ w' = w := by
  refine gives_enter Try.call93 Try.func93 rfl rfl rfl (by kernel_rfl) ?_
  refine v_seq ?_
  refine v_region ?_
  refine vl_val (os_assign rfl) ?_
  refine vl_nil ?_
  refine v_seq ?_
  refine v_seq ?_
  refine v_region ?_
  refine vl_val (os_move rfl) ?_
  refine vl_val (os_len Try.underlying28 rfl) ?_
  refine vl_val (os_move rfl) ?_
  refine vl_nil ?_
  refine v_block ?_
  refine v_loop [(0, _), (1, _), (9, _), (10, _)] (fun (k : Nat) => [(11, .int .i64 k)]) (fun k w' => k ≤ n ∧ k ≤ m ∧ lessL xs ys = lessL (xs.drop k) (ys.drop k) ∧ w' = w) (fun k => n - k) (0) ⟨rfl, rfl, rfl, rfl, trivial⟩ ⟨rfl, trivial⟩ (⟨by omega, by omega, by simp, rfl⟩) ?_
  rintro k w ⟨hk, hk2, hgo, rfl⟩
  refine v_seq ?_
  refine v_region ?_
  refine vl_val (os_lss rfl rfl) ?_
  refine vl_nil ?_
  refine v_seq ?_
  refine v_cond_d rfl (fun hlt => ?_) (fun hlt => ?_)
  · obtain ⟨b1, o1, rfl, c1⟩ := ha.at_ (i := k) (by omega)
    refine v_skip ?_
    refine v_seq ?_
    refine v_block ?_
    refine v_seq ?_
    refine v_region ?_
    refine vl_val (os_move rfl) ?_
    refine vl_val (os_ix Try.underlying28 Try.sizeOf3 rfl rfl (i := k) (by omega) (by omega)) ?_
    refine vl_val (os_load Try.isAgg3 rfl (c1)) ?_
    refine vl_val (os_assign rfl) ?_
    refine vl_val (os_assign rfl) ?_
    refine vl_nil ?_
    refine v_seq ?_
    refine v_seq ?_
    refine v_region ?_
    refine vl_val (os_move rfl) ?_
    refine vl_val (os_move rfl) ?_
    refine vl_val (os_len Try.underlying28 rfl) ?_
    refine vl_val (os_geq rfl rfl) ?_
    refine vl_nil ?_
    refine v_cond_d rfl (fun h2 => ?_) (fun h2 => ?_)
    · refine v_seq ?_
      refine v_region ?_
      refine vl_val (os_assign rfl) ?_
      refine vl_nil ?_
      refine v_ret ?_
      exact post_ret rfl rfl (⟨_, rfl, by rw [hgo, List.drop_eq_nil_of_le (by omega : ys.length ≤ k)]; simp [lessL], rfl⟩)
    · obtain ⟨b2, o2, rfl, c2⟩ := hb.at_ (i := k) (by omega)
      refine v_skip ?_
      refine v_seq ?_
      refine v_region ?_
      refine vl_val (os_move rfl) ?_
      refine vl_val (os_move rfl) ?_
      refine vl_val (os_ix Try.underlying28 Try.sizeOf3 rfl rfl (i := k) (by omega) (by omega)) ?_
      refine vl_val (os_load Try.isAgg3 rfl (c2)) ?_
      rw [drop_cons (by omega : k < xs.length), drop_cons (by omega : k < ys.length)] at hgo
      refine vl_val (os_assign rfl) ?_
      refine vl_nil ?_
      refine v_seq ?_
      refine v_region ?_
      refine vl_val (os_move rfl) ?_
      refine vl_val (os_move rfl) ?_
      refine vl_call (cmp_Compare (xs.getD k 0) (ys.getD k 0) w) rfl ?_
      rintro v w ⟨rfl, rfl⟩
      refine vl_val (os_assign rfl) ?_
      refine vl_nil ?_
      refine v_seq ?_
      refine v_region ?_
      refine vl_val (os_move rfl) ?_
      refine vl_val (os_neq rfl rfl) ?_
      refine vl_nil ?_
      refine v_cond_d rfl (fun h3 => ?_) (fun h3 => ?_)
      · refine v_seq ?_
        refine v_region ?_
        refine vl_val (os_move rfl) ?_
        refine vl_val (os_assign rfl) ?_
        refine vl_nil ?_
        refine v_ret ?_
        exact post_ret rfl rfl (⟨_, rfl, by rw [hgo]; simp only [lessL, cmpV] at h3 ⊢; by_cases h4 : xs.getD k 0 < ys.getD k 0 <;> by_cases h5 : ys.getD k 0 < xs.getD k 0 <;> by_cases h6 : xs.getD k 0 = ys.getD k 0 <;> simp_all <;> omega, rfl⟩)
      · refine v_skip ?_
        refine v_region ?_
        refine vl_val (os_addi rfl rfl (by omega)) ?_
        refine vl_val (os_move rfl) ?_
        refine vl_nil ?_
        exact ⟨k + 1, ⟨rfl, rfl, rfl, rfl, trivial⟩, ⟨rfl, trivial⟩, ⟨by omega, by omega, by rw [hgo]; simp only [lessL, cmpV] at h3 ⊢; by_cases h4 : xs.getD k 0 < ys.getD k 0 <;> by_cases h5 : ys.getD k 0 < xs.getD k 0 <;> by_cases h6 : xs.getD k 0 = ys.getD k 0 <;> simp_all <;> omega, rfl⟩, by dsimp only; omega⟩
  · refine v_exit ?_
    refine v_seq ?_
    refine v_seq ?_
    refine v_region ?_
    refine vl_val (os_move rfl) ?_
    refine vl_val (os_len Try.underlying28 rfl) ?_
    refine vl_val (os_move rfl) ?_
    refine vl_val (os_len Try.underlying28 rfl) ?_
    refine vl_val (os_lss rfl rfl) ?_
    refine vl_nil ?_
    refine v_cond_d rfl (fun h2 => ?_) (fun h2 => ?_)
    · refine v_seq ?_
      refine v_region ?_
      refine vl_val (os_assign rfl) ?_
      refine vl_nil ?_
      refine v_ret ?_
      exact post_ret rfl rfl (⟨_, rfl, by rw [hgo, List.drop_eq_nil_of_le (by omega : xs.length ≤ k), drop_cons (by omega : k < ys.length)]; simp [lessL], rfl⟩)
    · refine v_skip ?_
      refine v_seq ?_
      refine v_region ?_
      refine vl_val (os_assign rfl) ?_
      refine vl_nil ?_
      refine v_ret ?_
      exact post_ret rfl rfl (⟨_, rfl, by rw [hgo, List.drop_eq_nil_of_le (by omega : xs.length ≤ k), List.drop_eq_nil_of_le (by omega : ys.length ≤ k)]; simp [lessL], rfl⟩)
theorem wg_less (A B : Option Addr) (n m c d : Nat) (xs ys : List Int) (w : World) (ha : Rd w .i64 A xs) (hb : Rd w .i64 B ys) (hn : n = xs.length) (hm : m = ys.length) (hn' : n ≤ 9000000000000000) (hm' : m ≤ 9000000000000000) :
    Gives Try.prog 68 #[.slice A n c, .slice B m d] w fun v w' => v = .bool (lessL xs ys) ∧ w' = w := by
  refine gives_enter Try.call68 Try.func68 rfl rfl rfl (by kernel_rfl) ?_
  refine v_seq ?_
  refine v_region ?_
  refine vl_val (os_assign rfl) ?_
  refine vl_nil ?_
  refine v_seq ?_
  refine v_region ?_
  refine vl_val (os_move rfl) ?_
  refine vl_val (os_move rfl) ?_
  refine vl_call (sl_Compare A B n m c d xs ys w ha hb hn hm hn' hm') rfl ?_
  rintro v w ⟨z, rfl, hz, rfl⟩
  refine vl_val (os_lss rfl rfl) ?_
  refine vl_val (os_assign rfl) ?_
  refine vl_nil ?_
  refine v_ret ?_
  exact post_ret rfl rfl (⟨by rw [hz], rfl⟩)

theorem wg_Better (A B C D : Option Addr) (l m o n c d e f : Nat) (worths ks other ws : List Int) (w : World) (ha : Rd w .i64 A worths) (hb : Rd w .i64 B ks) (hc : Rd w .i64 C other) (hd : Rd w .i64 D ws) (hl : l = worths.length) (hm : m = ks.length) (ho : o = other.length) (hn : n = ws.length) (hl' : l ≤ 9000000000000000) (hm' : m ≤ 9000000000000000) (ho' : o ≤ 9000000000000000) (hn' : n ≤ 9000000000000000) :
    Gives Try.prog 19 #[.slice A l c, .slice B m d, .slice C o e, .slice D n f] w fun v w' => v = .tuple #[.bool (betV worths ks other ws), .int .i64 (errA (betOk worths ks other ws))] ∧ LeD w w' := by
  refine gives_enter Try.call19 Try.func19 rfl rfl rfl (by kernel_rfl) ?_
  refine v_seq ?_
  refine v_region ?_
  refine vl_val (os_assign rfl) ?_
  refine vl_val (os_assign rfl) ?_
  refine vl_nil ?_
  refine v_seq ?_
  refine v_region ?_
  refine vl_val (os_move rfl) ?_
  refine vl_val (os_move rfl) ?_
  refine vl_val (os_move rfl) ?_
  refine vl_call (wg_Score A B D l m n c d f worths ks ws w ha hb hd hl hm hn hl' hm' hn') rfl ?_
  rintro v w ⟨rfl, q, rfl⟩
  refine vl_val (os_move rfl) ?_
  refine vl_val (os_extract rfl rfl) ?_
  refine vl_val (os_extract rfl rfl) ?_
  refine vl_val (os_assign rfl) ?_
  refine vl_val (os_assign rfl) ?_
  refine vl_nil ?_
  refine v_seq ?_
  refine v_seq ?_
  refine v_region ?_
  refine vl_val (os_move rfl) ?_
  refine vl_val (os_neq rfl rfl) ?_
  refine vl_nil ?_
  refine v_cond_d rfl (fun h1 => ?_) (fun h1 => ?_)
  · have h1 : scOk worths ks ws = false := by cases hh : scOk worths ks ws <;> simp_all [errA]
    refine v_seq ?_
    refine v_region ?_
    refine vl_val (os_move rfl) ?_
    refine vl_val (os_assign rfl) ?_
    refine vl_val (os_assign rfl) ?_
    refine vl_nil ?_
    refine v_ret ?_
    exact post_ret2 rfl rfl rfl (⟨by simp [betV, betOk, h1], q, rfl⟩)
  · have h1 : scOk worths ks ws = true := errA_zero.1 (by omega)
    refine v_skip ?_
    refine v_seq ?_
    refine v_region ?_
    refine vl_val (os_move rfl) ?_
    refine vl_val (os_move rfl) ?_
    refine vl_val (os_move rfl) ?_
    refine vl_call (wg_Score A C D l o n c e f worths other ws _ (ha.drewN q) (hc.drewN q) (hd.drewN q) hl ho hn hl' ho' hn') rfl ?_
    rintro v w' ⟨rfl, q2, rfl⟩
    refine vl_val (os_move rfl) ?_
    refine vl_val (os_extract rfl rfl) ?_
    refine vl_val (os_extract rfl rfl) ?_
    refine vl_val (os_assign rfl) ?_
    refine vl_val (os_assign rfl) ?_
    refine vl_nil ?_
    refine v_seq ?_
    refine v_seq ?_
    refine v_region ?_
    refine vl_val (os_move rfl) ?_
    refine vl_val (os_neq rfl rfl) ?_
    refine vl_nil ?_
    refine v_cond_d rfl (fun h2 => ?_) (fun h2 => ?_)
    · have h2 : scOk worths other ws = false := by cases hh : scOk worths other ws <;> simp_all [errA]
      refine v_seq ?_
      refine v_region ?_
      refine vl_val (os_move rfl) ?_
      refine vl_val (os_assign rfl) ?_
      refine vl_val (os_assign rfl) ?_
      refine vl_nil ?_
      refine v_ret ?_
      exact post_ret2 rfl rfl rfl (⟨by simp [betV, betOk, h1, h2], _, World.drewN_drewN ..⟩)
    · have h2 : scOk worths other ws = true := errA_zero.1 (by omega)
      have hok : betOk worths ks other ws = true := by simp [betOk, h1, h2]
      rcases (by omega : scV worths other ws < scV worths ks ws ∨ (scV worths ks ws < scV worths other ws) ∨ scV worths ks ws = scV worths other ws) with g | g | g
      · refine v_skip ?_
        refine v_seq ?_
        refine v_region ?_
        refine vl_val (os_move rfl) ?_
        refine vl_val (os_move rfl) ?_
        refine vl_val (os_t (os_gtr rfl rfl) (by omega)) ?_
        refine vl_val (os_move rfl) ?_
        refine vl_skip rfl rfl ?_
        refine vl_skip rfl rfl ?_
        refine vl_skip rfl rfl ?_
        refine vl_skip rfl rfl ?_
        refine vl_skipu rfl ?_
        refine vl_skipu rfl ?_
        refine vl_skipu rfl ?_
        refine vl_skip rfl rfl ?_
        refine vl_val (os_pick_t rfl rfl) ?_
        refine vl_val (os_assign rfl) ?_
        refine vl_val (os_assign rfl) ?_
        refine vl_nil ?_
        refine v_ret ?_
        exact post_ret2 rfl rfl rfl (⟨by rw [betV, hok, decide_eq_true g]; rfl, _, World.drewN_drewN ..⟩)
      · refine v_skip ?_
        refine v_seq ?_
        refine v_region ?_
        refine vl_val (os_move rfl) ?_
        refine vl_val (os_move rfl) ?_
        refine vl_val (os_f (os_gtr rfl rfl) (by omega)) ?_
        refine vl_val (os_move rfl) ?_
        refine vl_valg rfl (os_move rfl) ?_
        refine vl_valg rfl (os_move rfl) ?_
        refine vl_valg rfl (os_f (os_eql rfl rfl) (by omega)) ?_
        refine vl_valg rfl (os_move rfl) ?_
        refine vl_skip rfl rfl ?_
        refine vl_skip rfl rfl ?_
        refine vl_skip rfl rfl ?_
        refine vl_valg rfl (os_pick_f rfl rfl) ?_
        refine vl_val (os_pick_f rfl rfl) ?_
        refine vl_val (os_assign rfl) ?_
        refine vl_val (os_assign rfl) ?_
        refine vl_nil ?_
        refine v_ret ?_
        exact post_ret2 rfl rfl rfl (⟨by rw [betV, hok, decide_eq_false (by omega), decide_eq_false (by omega)]; rfl, _, World.drewN_drewN ..⟩)
      · refine v_skip ?_
        refine v_seq ?_
        refine v_region ?_
        refine vl_val (os_move rfl) ?_
        refine vl_val (os_move rfl) ?_
        refine vl_val (os_f (os_gtr rfl rfl) (by omega)) ?_
        refine vl_val (os_move rfl) ?_
        refine vl_valg rfl (os_move rfl) ?_
        refine vl_valg rfl (os_move rfl) ?_
        refine vl_valg rfl (os_t (os_eql rfl rfl) (by omega)) ?_
        refine vl_valg rfl (os_move rfl) ?_
        refine vl_valg rfl (os_move rfl) ?_
        refine vl_valg rfl (os_move rfl) ?_
        refine vl_callg rfl (wg_less B C m o d e ks other _ ((hb.drewN q).drewN q2) ((hc.drewN q).drewN q2) hm ho hm' ho') rfl ?_
        rintro v w' ⟨rfl, rfl⟩
        refine vl_valg rfl (os_pick_t rfl rfl) ?_
        refine vl_val (os_pick_f rfl rfl) ?_
        refine vl_val (os_assign rfl) ?_
        refine vl_val (os_assign rfl) ?_
        refine vl_nil ?_
        refine v_ret ?_
        exact post_ret2 rfl rfl rfl (⟨by rw [betV, hok, decide_eq_false (by omega), decide_eq_true g]; rfl, _, World.drewN_drewN ..⟩)

theorem law12_awake (w : World) : Gives Try.prog 18 #[] w fun v w' => v = .bool true ∧ Below w.heap.size w w' := by
  refine gives_enter Try.call18 Try.func18 rfl rfl rfl (by kernel_rfl) ?_
  have b1 : Below w.heap.size w (((w.alloc (.cells ([3, 5].map (Value.int .i64)).toArray 3)).alloc (.cells ([1, 2].map (Value.int .i64)).toArray 3)).alloc (.cells ([4, 4, 2].map (Value.int .i64)).toArray 3)) := (((Below.refl _ _).alloc (Nat.le_refl _) _).alloc (by simp) _).alloc (by simp; omega) _
  refine v_seq ?_
  refine v_region ?_
  refine vl_val (os_assign rfl) ?_
  refine vl_nil ?_
  refine v_seq ?_
  refine v_region ?_
  refine vl_val (os_lit Try.underlying28 Try.sizeOf3 Try.zeroValue3 rfl rfl rfl rfl (by decide)) ?_
  refine vl_val (os_lit Try.underlying28 Try.sizeOf3 Try.zeroValue3 rfl rfl rfl rfl (by decide)) ?_
  refine vl_val (os_lit Try.underlying28 Try.sizeOf3 Try.zeroValue3 rfl rfl rfl rfl (by decide)) ?_
  refine vl_call (wg_Score _ _ _ _ _ _ _ _ _ [3, 5] [1, 2] [4, 4, 2] _ (((rd_alloc w .i64 [3, 5] _).keep ((Below.refl _ _).alloc (Nat.le_refl _) _)).keep ((Below.refl _ _).alloc (Nat.le_refl _) _)) ((rd_alloc _ .i64 [1, 2] _).keep ((Below.refl _ _).alloc (Nat.le_refl _) _)) (rd_alloc _ .i64 [4, 4, 2] _) rfl rfl rfl (by decide) (by decide) (by decide)) rfl ?_
  rintro v w1 ⟨rfl, q, rfl⟩
  refine vl_val (os_move rfl) ?_
  refine vl_val (os_extract rfl rfl) ?_
  refine vl_val (os_extract rfl rfl) ?_
  refine vl_val (os_assign rfl) ?_
  refine vl_val (os_assign rfl) ?_
  refine vl_nil ?_
  refine v_seq ?_
  refine v_region ?_
  refine vl_val (os_move rfl) ?_
  refine vl_val (os_t (os_eql rfl rfl) (by decide)) ?_
  refine vl_val (os_move rfl) ?_
  refine vl_valg rfl (os_move rfl) ?_
  refine vl_valg rfl (os_eql rfl rfl) ?_
  refine vl_val (os_pick_t rfl rfl) ?_
  refine vl_val (os_assign rfl) ?_
  refine vl_nil ?_
  refine v_ret ?_
  exact post_ret rfl rfl (⟨by rw [decide_eq_true (by decide)], below_drewN_ b1 q⟩)

set_option maxHeartbeats 1000000 in
theorem law12_WeighOrder (W0 A B C D : Option Addr) (lw la lb lc ld cw ca cb cc cd : Nat) (worths xs ys zs ws : List Int) (w : World) (hw : Rd w .i64 W0 worths) (ha : Rd w .i64 A xs) (hb : Rd w .i64 B ys) (hc : Rd w .i64 C zs) (hd : Rd w .i64 D ws)
    (lw' : lw = worths.length) (la' : la = xs.length) (lb' : lb = ys.length) (lc' : lc = zs.length) (ld' : ld = ws.length) (bw : lw ≤ 140737488351232) (ba : la ≤ 140737488351232) (bb : lb ≤ 140737488351232) (bc : lc ≤ 140737488351232) (bd : ld ≤ 140737488351232) :
    Gives Try.prog 4 #[.slice W0 lw cw, .slice A la ca, .slice B lb cb, .slice C lc cc, .slice D ld cd] w fun v w' => v = .bool true ∧ Below w.heap.size w w' := by
  refine gives_enter Try.call4 Try.func4 rfl rfl rfl (by kernel_rfl) ?_
  refine v_seq ?_
  refine v_region ?_
  refine vl_val (os_assign rfl) ?_
  refine vl_nil ?_
  refine v_seq ?_
  refine v_seq ?_
  refine v_region ?_
  refine vl_call (law12_awake w) rfl ?_
  rintro v1 w1 ⟨rfl, hb1⟩
  refine vl_val (os_not rfl) ?_
  refine vl_nil ?_
  refine v_cond_f rfl ?_
  refine v_skip ?_
  refine v_seq ?_
  refine v_seq ?_
  refine v_region ?_
  refine vl_val (os_move rfl) ?_
  refine vl_val (os_len Try.underlying28 rfl) ?_
  refine vl_val (os_move rfl) ?_
  refine vl_val (os_len Try.underlying28 rfl) ?_
  refine vl_val (os_addi rfl rfl (by omega)) ?_
  refine vl_val (os_move rfl) ?_
  refine vl_val (os_len Try.underlying28 rfl) ?_
  refine vl_val (os_addi rfl rfl (by omega)) ?_
  refine vl_val (os_move rfl) ?_
  refine vl_val (os_len Try.underlying28 rfl) ?_
  refine vl_val (os_addi rfl rfl (by omega)) ?_
  refine vl_val (os_move rfl) ?_
  refine vl_val (os_len Try.underlying28 rfl) ?_
  refine vl_val (os_addi rfl rfl (by omega)) ?_
  refine vl_val (os_gtr rfl rfl) ?_
  refine vl_nil ?_
  refine v_cond_d rfl (fun hbig => ?_) (fun hbig => ?_)
  · refine v_seq ?_
    refine v_region ?_
    refine vl_val (os_assign rfl) ?_
    refine vl_nil ?_
    refine v_ret ?_
    exact post_ret rfl rfl (⟨rfl, hb1⟩)
  · have hw := hw.keep hb1
    have ha := ha.keep hb1
    have hb := hb.keep hb1
    have hc := hc.keep hb1
    have hd := hd.keep hb1
    refine v_skip ?_
    refine v_seq ?_
    refine v_region ?_
    refine vl_val (os_move rfl) ?_
    refine vl_val (os_move rfl) ?_
    refine vl_val (os_move rfl) ?_
    refine vl_val (os_move rfl) ?_
    refine vl_call (wg_Better _ _ _ _ _ _ _ _ cw ca cb cd worths xs ys ws _ hw ha hb hd lw' la' lb' ld' (by omega) (by omega) (by omega) (by omega)) rfl ?_
    rintro v2 w2 ⟨rfl, q, rfl⟩
    refine vl_val (os_move rfl) ?_
    refine vl_val (os_extract rfl rfl) ?_
    refine vl_val (os_extract rfl rfl) ?_
    refine vl_val (os_assign rfl) ?_
    refine vl_val (os_assign rfl) ?_
    refine vl_nil ?_
    refine v_seq ?_
    refine v_region ?_
    refine vl_val (os_move rfl) ?_
    refine vl_val (os_move rfl) ?_
    refine vl_val (os_move rfl) ?_
    refine vl_val (os_move rfl) ?_
    refine vl_call (wg_Better _ _ _ _ _ _ _ _ cw cb ca cd worths ys xs ws _ (hw.drewN _) (hb.drewN _) (ha.drewN _) (hd.drewN _) lw' lb' la' ld' (by omega) (by omega) (by omega) (by omega)) rfl ?_
    rintro v3 w3 ⟨rfl, q3, rfl⟩
    refine vl_val (os_move rfl) ?_
    refine vl_val (os_extract rfl rfl) ?_
    refine vl_val (os_extract rfl rfl) ?_
    refine vl_val (os_assign rfl) ?_
    refine vl_val (os_assign rfl) ?_
    refine vl_nil ?_
    refine v_seq ?_
    refine v_region ?_
    refine vl_val (os_move rfl) ?_
    refine vl_val (os_move rfl) ?_
    refine vl_val (os_move rfl) ?_
    refine vl_val (os_move rfl) ?_
    refine vl_call (wg_Better _ _ _ _ _ _ _ _ cw cb cc cd worths ys zs ws _ ((hw.drewN _).drewN _) ((hb.drewN _).drewN _) ((hc.drewN _).drewN _) ((hd.drewN _).drewN _) lw' lb' lc' ld' (by omega) (by omega) (by omega) (by omega)) rfl ?_
    rintro v4 w4 ⟨rfl, q4, rfl⟩
    refine vl_val (os_move rfl) ?_
    refine vl_val (os_extract rfl rfl) ?_
    refine vl_val (os_extract rfl rfl) ?_
    refine vl_val (os_assign rfl) ?_
    refine vl_val (os_assign rfl) ?_
    refine vl_nil ?_
    refine v_seq ?_
    refine v_region ?_
    refine vl_val (os_move rfl) ?_
    refine vl_val (os_move rfl) ?_
    refine vl_val (os_move rfl) ?_
    refine vl_val (os_move rfl) ?_
    refine vl_call (wg_Better _ _ _ _ _ _ _ _ cw ca cc cd worths xs zs ws _ (((hw.drewN _).drewN _).drewN _) (((ha.drewN _).drewN _).drewN _) (((hc.drewN _).drewN _).drewN _) (((hd.drewN _).drewN _).drewN _) lw' la' lc' ld' (by omega) (by omega) (by omega) (by omega)) rfl ?_
    rintro v5 w5 ⟨rfl, q5, rfl⟩
    have hbE := below_drewN_ (below_drewN_ (below_drewN_ (below_drewN_ hb1 q) q3) q4) q5
    have e1 : betOk worths ys xs ws = betOk worths xs ys ws := by simp [betOk, Bool.and_comm]
    rw [e1]
    refine vl_val (os_move rfl) ?_
    refine vl_val (os_extract rfl rfl) ?_
    refine vl_val (os_extract rfl rfl) ?_
    refine vl_val (os_assign rfl) ?_
    refine vl_val (os_assign rfl) ?_
    refine vl_nil ?_
    rcases (by cases betOk worths xs ys ws <;> cases betOk worths ys zs ws <;> simp : betOk worths xs ys ws = false ∨ (betOk worths xs ys ws = true ∧ betOk worths ys zs ws = false) ∨ (betOk worths xs ys ws = true ∧ betOk worths ys zs ws = true)) with h1 | ⟨h1, h2⟩ | ⟨h1, h2⟩
    · have f1 : betV worths xs ys ws = false := by rw [betV, h1]; rfl
      have f2 : betV worths ys xs ws = false := by rw [betV, e1, h1]; rfl
      rw [h1, f1, f2]
      refine v_seq ?_
      refine v_seq ?_
      refine v_region ?_
      refine vl_val (os_move rfl) ?_
      refine vl_val (os_t (os_neq rfl rfl) (by decide)) ?_
      refine vl_val (os_move rfl) ?_
      refine vl_skip rfl rfl ?_
      refine vl_skip rfl rfl ?_
      refine vl_val (os_pick_t rfl rfl) ?_
      refine vl_nil ?_
      refine v_cond_t rfl ?_
      refine v_seq ?_
      refine v_region ?_
      refine vl_val (os_move rfl) ?_
      refine vl_val (os_move rfl) ?_
      refine vl_val (os_t (os_eql rfl rfl) (by rfl)) ?_
      refine vl_val (os_move rfl) ?_
      refine vl_valg rfl (os_move rfl) ?_
      refine vl_valg rfl (os_f (os_eql rfl rfl) (by decide)) ?_
      refine vl_valg rfl (os_move rfl) ?_
      refine vl_valg rfl (os_move rfl) ?_
      refine vl_valg rfl (os_t (os_eql rfl rfl) (by decide)) ?_
      refine vl_valg rfl (os_move rfl) ?_
      refine vl_valg rfl (os_move rfl) ?_
      refine vl_valg rfl (os_not rfl) ?_
      refine vl_valg rfl (os_pick_t rfl rfl) ?_
      refine vl_valg rfl (os_move rfl) ?_
      refine vl_valg rfl (os_move rfl) ?_
      refine vl_valg rfl (os_not rfl) ?_
      refine vl_valg rfl (os_pick_t rfl rfl) ?_
      refine vl_valg rfl (os_pick_f rfl rfl) ?_
      refine vl_val (os_pick_t rfl rfl) ?_
      refine vl_val (os_assign rfl) ?_
      refine vl_nil ?_
      refine v_ret ?_
      exact post_ret rfl rfl (⟨rfl, hbE⟩)
    · rw [h1, h2]
      refine v_seq ?_
      refine v_seq ?_
      refine v_region ?_
      refine vl_val (os_move rfl) ?_
      refine vl_val (os_f (os_neq rfl rfl) (by decide)) ?_
      refine vl_val (os_move rfl) ?_
      refine vl_valg rfl (os_move rfl) ?_
      refine vl_valg rfl (os_t (os_neq rfl rfl) (by decide)) ?_
      refine vl_val (os_pick_f rfl rfl) ?_
      refine vl_nil ?_
      refine v_cond_t rfl ?_
      refine v_seq ?_
      refine v_region ?_
      refine vl_val (os_move rfl) ?_
      refine vl_val (os_move rfl) ?_
      refine vl_val (os_t (os_eql rfl rfl) (by rfl)) ?_
      refine vl_val (os_move rfl) ?_
      refine vl_valg rfl (os_move rfl) ?_
      refine vl_valg rfl (os_t (os_eql rfl rfl) (by decide)) ?_
      refine vl_valg rfl (os_move rfl) ?_
      refine vl_skip rfl rfl ?_
      refine vl_skip rfl rfl ?_
      refine vl_skip rfl rfl ?_
      refine vl_skipu rfl ?_
      refine vl_skipu rfl ?_
      refine vl_skip rfl rfl ?_
      refine vl_skip rfl rfl ?_
      refine vl_skipu rfl ?_
      refine vl_skipu rfl ?_
      refine vl_skip rfl rfl ?_
      refine vl_valg rfl (os_pick_t rfl rfl) ?_
      refine vl_val (os_pick_t rfl rfl) ?_
      refine vl_val (os_assign rfl) ?_
      refine vl_nil ?_
      refine v_ret ?_
      exact post_ret rfl rfl (⟨rfl, hbE⟩)
    · have h3 : betOk worths xs zs ws = true := by simp only [betOk, Bool.and_eq_true] at h1 h2 ⊢; exact ⟨h1.1, h2.2⟩
      have ht := bet_tri h1
      have hq := bet_trans (c := zs) h1 h2
      rw [h1, h2, h3]
      refine v_seq ?_
      refine v_seq ?_
      refine v_region ?_
      refine vl_val (os_move rfl) ?_
      refine vl_val (os_f (os_neq rfl rfl) (by decide)) ?_
      refine vl_val (os_move rfl) ?_
      refine vl_valg rfl (os_move rfl) ?_
      refine vl_valg rfl (os_f (os_neq rfl rfl) (by decide)) ?_
      refine vl_val (os_pick_f rfl rfl) ?_
      refine vl_nil ?_
      refine v_cond_f rfl ?_
      refine v_skip ?_
      refine v_seq ?_
      refine v_seq ?_
      refine v_region ?_
      refine vl_val (os_move rfl) ?_
      refine vl_val (os_f (os_neq rfl rfl) (by decide)) ?_
      refine vl_val (os_move rfl) ?_
      refine vl_valg rfl (os_move rfl) ?_
      refine vl_valg rfl (os_f (os_neq rfl rfl) (by decide)) ?_
      have hcases : (betV worths xs ys ws = true ∧ betV worths ys xs ws = false ∧ decide (xs = ys) = false ∧ betV worths ys zs ws = false) ∨ (betV worths xs ys ws = true ∧ betV worths ys xs ws = false ∧ decide (xs = ys) = false ∧ betV worths ys zs ws = true ∧ betV worths xs zs ws = true) ∨ (betV worths xs ys ws = false ∧ betV worths ys xs ws = true ∧ decide (xs = ys) = false) ∨ (betV worths xs ys ws = false ∧ betV worths ys xs ws = false ∧ decide (xs = ys) = true) := by
        generalize betV worths xs ys ws = p1 at *
        generalize betV worths ys xs ws = p2 at *
        generalize betV worths ys zs ws = p3 at *
        generalize betV worths xs zs ws = p4 at *
        generalize decide (xs = ys) = p5 at *
        cases p1 <;> cases p2 <;> cases p3 <;> cases p4 <;> cases p5 <;> simp_all
      refine vl_val (os_pick_f rfl rfl) ?_
      refine vl_nil ?_
      rcases hcases with ⟨g1, g2, hs, g3⟩ | ⟨g1, g2, hs, g3, g4⟩ | ⟨g1, g2, hs⟩ | ⟨g1, g2, hs⟩
      · rw [g1, g2, g3]
        refine v_cond_f rfl ?_
        refine v_skip ?_
        refine v_seq ?_
        refine v_region ?_
        refine vl_val (os_move rfl) ?_
        refine vl_val (os_move rfl) ?_
        refine vl_call ((kit_SameInts A B la lb ca cb xs ys _ ((((ha.drewN _).drewN _).drewN _).drewN _) ((((hb.drewN _).drewN _).drewN _).drewN _) la' lb' (by omega) (by omega)).mono fun v w' hh => (⟨by rw [hh.1, hs], hh.2⟩ : v = .bool false ∧ LeD _ w')) rfl ?_
        rintro v6 w6 ⟨rfl, q6, rfl⟩
        refine vl_val (os_assign rfl) ?_
        refine vl_nil ?_
        refine v_seq ?_
        refine v_region ?_
        refine vl_val (os_move rfl) ?_
        refine vl_val (os_move rfl) ?_
        refine vl_skip rfl rfl ?_
        refine vl_val (os_pick_t rfl rfl) ?_
        refine vl_val (os_move rfl) ?_
        refine vl_val (os_not rfl) ?_
        refine vl_val (os_is (os_eqlb Try.underlying4 rfl rfl) (rfl)) ?_
        refine vl_val (os_move rfl) ?_
        refine vl_valg rfl (os_move rfl) ?_
        refine vl_valg rfl (os_move rfl) ?_
        refine vl_valg rfl (os_move rfl) ?_
        refine vl_valg rfl (os_pick_t rfl rfl) ?_
        refine vl_valg rfl (os_not rfl) ?_
        refine vl_val (os_pick_t rfl rfl) ?_
        refine vl_val (os_move rfl) ?_
        refine vl_valg rfl (os_move rfl) ?_
        refine vl_valg rfl (os_not rfl) ?_
        refine vl_valg rfl (os_move rfl) ?_
        refine vl_valg rfl (os_move rfl) ?_
        refine vl_valg rfl (os_not rfl) ?_
        refine vl_valg rfl (os_pick_f rfl rfl) ?_
        refine vl_valg rfl (os_move rfl) ?_
        refine vl_skip rfl rfl ?_
        refine vl_valg rfl (os_pick_t rfl rfl) ?_
        refine vl_val (os_pick_t rfl rfl) ?_
        refine vl_val (os_assign rfl) ?_
        refine vl_nil ?_
        refine v_ret ?_
        exact post_ret rfl rfl (⟨rfl, below_drewN_ hbE q6⟩)
      · rw [g1, g2, g3, g4]
        refine v_cond_f rfl ?_
        refine v_skip ?_
        refine v_seq ?_
        refine v_region ?_
        refine vl_val (os_move rfl) ?_
        refine vl_val (os_move rfl) ?_
        refine vl_call ((kit_SameInts A B la lb ca cb xs ys _ ((((ha.drewN _).drewN _).drewN _).drewN _) ((((hb.drewN _).drewN _).drewN _).drewN _) la' lb' (by omega) (by omega)).mono fun v w' hh => (⟨by rw [hh.1, hs], hh.2⟩ : v = .bool false ∧ LeD _ w')) rfl ?_
        rintro v6 w6 ⟨rfl, q6, rfl⟩
        refine vl_val (os_assign rfl) ?_
        refine vl_nil ?_
        refine v_seq ?_
        refine v_region ?_
        refine vl_val (os_move rfl) ?_
        refine vl_val (os_move rfl) ?_
        refine vl_skip rfl rfl ?_
        refine vl_val (os_pick_t rfl rfl) ?_
        refine vl_val (os_move rfl) ?_
        refine vl_val (os_not rfl) ?_
        refine vl_val (os_is (os_eqlb Try.underlying4 rfl rfl) (rfl)) ?_
        refine vl_val (os_move rfl) ?_
        refine vl_valg rfl (os_move rfl) ?_
        refine vl_valg rfl (os_move rfl) ?_
        refine vl_valg rfl (os_move rfl) ?_
        refine vl_valg rfl (os_pick_t rfl rfl) ?_
        refine vl_valg rfl (os_not rfl) ?_
        refine vl_val (os_pick_t rfl rfl) ?_
        refine vl_val (os_move rfl) ?_
        refine vl_valg rfl (os_move rfl) ?_
        refine vl_valg rfl (os_not rfl) ?_
        refine vl_valg rfl (os_move rfl) ?_
        refine vl_valg rfl (os_move rfl) ?_
        refine vl_valg rfl (os_not rfl) ?_
        refine vl_valg rfl (os_pick_f rfl rfl) ?_
        refine vl_valg rfl (os_move rfl) ?_
        refine vl_valg rfl (os_move rfl) ?_
        refine vl_valg rfl (os_pick_f rfl rfl) ?_
        refine vl_val (os_pick_t rfl rfl) ?_
        refine vl_val (os_assign rfl) ?_
        refine vl_nil ?_
        refine v_ret ?_
        exact post_ret rfl rfl (⟨rfl, below_drewN_ hbE q6⟩)
      · rw [g1, g2]
        refine v_cond_f rfl ?_
        refine v_skip ?_
        refine v_seq ?_
        refine v_region ?_
        refine vl_val (os_move rfl) ?_
        refine vl_val (os_move rfl) ?_
        refine vl_call ((kit_SameInts A B la lb ca cb xs ys _ ((((ha.drewN _).drewN _).drewN _).drewN _) ((((hb.drewN _).drewN _).drewN _).drewN _) la' lb' (by omega) (by omega)).mono fun v w' hh => (⟨by rw [hh.1, hs], hh.2⟩ : v = .bool false ∧ LeD _ w')) rfl ?_
        rintro v6 w6 ⟨rfl, q6, rfl⟩
        refine vl_val (os_assign rfl) ?_
        refine vl_nil ?_
        refine v_seq ?_
        refine v_region ?_
        refine vl_val (os_move rfl) ?_
        refine vl_val (os_move rfl) ?_
        refine vl_valg rfl (os_move rfl) ?_
        refine vl_val (os_pick_f rfl rfl) ?_
        refine vl_val (os_move rfl) ?_
        refine vl_val (os_not rfl) ?_
        refine vl_val (os_is (os_eqlb Try.underlying4 rfl rfl) (rfl)) ?_
        refine vl_val (os_move rfl) ?_
        refine vl_valg rfl (os_move rfl) ?_
        refine vl_valg rfl (os_move rfl) ?_
        refine vl_skip rfl rfl ?_
        refine vl_valg rfl (os_pick_f rfl rfl) ?_
        refine vl_valg rfl (os_not rfl) ?_
        refine vl_val (os_pick_t rfl rfl) ?_
        refine vl_val (os_move rfl) ?_
        refine vl_valg rfl (os_move rfl) ?_
        refine vl_valg rfl (os_not rfl) ?_
        refine vl_valg rfl (os_move rfl) ?_
        refine vl_skip rfl rfl ?_
        refine vl_skip rfl rfl ?_
        refine vl_valg rfl (os_pick_t rfl rfl) ?_
        refine vl_valg rfl (os_move rfl) ?_
        refine vl_skip rfl rfl ?_
        refine vl_valg rfl (os_pick_t rfl rfl) ?_
        refine vl_val (os_pick_t rfl rfl) ?_
        refine vl_val (os_assign rfl) ?_
        refine vl_nil ?_
        refine v_ret ?_
        exact post_ret rfl rfl (⟨rfl, below_drewN_ hbE q6⟩)
      · rw [g1, g2]
        refine v_cond_f rfl ?_
        refine v_skip ?_
        refine v_seq ?_
        refine v_region ?_
        refine vl_val (os_move rfl) ?_
        refine vl_val (os_move rfl) ?_
        refine vl_call ((kit_SameInts A B la lb ca cb xs ys _ ((((ha.drewN _).drewN _).drewN _).drewN _) ((((hb.drewN _).drewN _).drewN _).drewN _) la' lb' (by omega) (by omega)).mono fun v w' hh => (⟨by rw [hh.1, hs], hh.2⟩ : v = .bool true ∧ LeD _ w')) rfl ?_
        rintro v6 w6 ⟨rfl, q6, rfl⟩
        refine vl_val (os_assign rfl) ?_
        refine vl_nil ?_
        refine v_seq ?_
        refine v_region ?_
        refine vl_val (os_move rfl) ?_
        refine vl_val (os_move rfl) ?_
        refine vl_valg rfl (os_move rfl) ?_
        refine vl_val (os_pick_f rfl rfl) ?_
        refine vl_val (os_move rfl) ?_
        refine vl_val (os_not rfl) ?_
        refine vl_val (os_is (os_eqlb Try.underlying4 rfl rfl) (rfl)) ?_
        refine vl_val (os_move rfl) ?_
        refine vl_valg rfl (os_move rfl) ?_
        refine vl_valg rfl (os_move rfl) ?_
        refine vl_skip rfl rfl ?_
        refine vl_valg rfl (os_pick_f rfl rfl) ?_
        refine vl_valg rfl (os_not rfl) ?_
        refine vl_val (os_pick_t rfl rfl) ?_
        refine vl_val (os_move rfl) ?_
        refine vl_valg rfl (os_move rfl) ?_
        refine vl_valg rfl (os_not rfl) ?_
        refine vl_valg rfl (os_move rfl) ?_
        refine vl_skip rfl rfl ?_
        refine vl_skip rfl rfl ?_
        refine vl_valg rfl (os_pick_t rfl rfl) ?_
        refine vl_valg rfl (os_move rfl) ?_
        refine vl_skip rfl rfl ?_
        refine vl_valg rfl (os_pick_t rfl rfl) ?_
        refine vl_val (os_pick_t rfl rfl) ?_
        refine vl_val (os_assign rfl) ?_
        refine vl_nil ?_
        refine v_ret ?_
        exact post_ret rfl rfl (⟨rfl, below_drewN_ hbE q6⟩)
end Go.Proofs.Ytmbcflanifoofaa
