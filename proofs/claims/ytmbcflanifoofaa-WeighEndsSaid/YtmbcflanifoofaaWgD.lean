/- Layer 12: the walk of WeighDoes. -/
import Derived.Test.YtmbcflanifoofaaWgE
namespace Go.Proofs.Ytmbcflanifoofaa
open Go.RowKit
set_option linter.unusedVariables false

set_option maxHeartbeats 2000000 in
theorem law12_WeighDoes (n : Int) (W0 A B D : Option Addr) (lw la lb ld cw ca cb cd : Nat) (worths ks other ws : List Int) (w : World) (hn : I64 n) (hw : Rd w .i64 W0 worths) (ha : Rd w .i64 A ks) (hb : Rd w .i64 B other) (hd : Rd w .i64 D ws)
    (lw' : lw = worths.length) (la' : la = ks.length) (lb' : lb = other.length) (ld' : ld = ws.length) (bw : lw ≤ 140737488351232) (ba : la ≤ 140737488351232) (bb : lb ≤ 140737488351232) (bd : ld ≤ 140737488351232) :
    Gives Try.prog 13 #[.int .i64 n, .slice W0 lw cw, .slice A la ca, .slice B lb cb, .slice D ld cd] w fun v w' => v = .bool true ∧ Below w.heap.size w w' := by
  refine gives_enter Try.call13 Try.func13 rfl rfl rfl (by kernel_rfl) ?_
  refine v_seq ?_
  refine v_region ?_
  refine vl_val (os_assign rfl) ?_
  refine vl_nil ?_
  refine v_seq ?_
  refine v_seq ?_
  refine v_region ?_
  refine vl_val (os_move rfl) ?_
  refine vl_val (os_len Try.underlying28 rfl) ?_
  refine vl_val (os_move rfl) ?_
  refine vl_val (os_len Try.underlying28 rfl) ?_
  refine vl_val (os_addi rfl rfl (by omega)) ?_
  refine vl_val (os_move rfl) ?_
  refine vl_val (os_len Try.underlying28 rfl) ?_
  refine vl_val (os_addi rfl rfl (by omega)) ?_
  refine vl_val (os_move rfl) ?_
  refine vl_val (os_len Try.underlying28 rfl) ?_
  refine vl_val (os_addi rfl rfl (by omega)) ?_
  refine vl_val (os_gtr rfl rfl) ?_
  refine vl_nil ?_
  refine v_cond_d rfl (fun hbig => ?_) (fun hbig => ?_)
  · refine v_seq ?_
    refine v_region ?_
    refine vl_call (law12_awake w) rfl ?_
    rintro v1 w1 ⟨rfl, hb1⟩
    refine vl_val (os_assign rfl) ?_
    refine vl_nil ?_
    refine v_ret ?_
    exact post_ret rfl rfl (⟨rfl, hb1⟩)
  · refine v_skip ?_
    refine v_seq ?_
    refine v_region ?_
    refine vl_val (os_move rfl) ?_
    refine vl_call (kit_LentInts W0 lw cw worths w hw lw' (by omega)) rfl ?_
    rintro v1 w1 ⟨L1, b1⟩
    refine vl_val (os_move rfl) ?_
    refine vl_call (kit_LentInts A la ca ks w1 (ha.keep b1) la' (by omega)) rfl ?_
    rintro v2 w2 ⟨L2, b2⟩
    have b2' : Below w.heap.size w w2 := b1.trans (b2.mono b1.size)
    refine vl_val (os_move rfl) ?_
    refine vl_call (kit_LentInts B lb cb other w2 (hb.keep b2') lb' (by omega)) rfl ?_
    rintro v3 w3 ⟨L3, b3⟩
    have b3' : Below w.heap.size w w3 := b2'.trans (b3.mono b2'.size)
    refine vl_val (os_move rfl) ?_
    refine vl_call (kit_LentInts D ld cd ws w3 (hd.keep b3') ld' (by omega)) rfl ?_
    rintro v4 w4 ⟨L4, b4⟩
    have b4' : Below w.heap.size w w4 := b3'.trans (b4.mono b3'.size)
    have L1 := ((L1.keep b2).keep b3).keep b4
    have L2 := (L2.keep b3).keep b4
    have L3 := L3.keep b4
    have hw := hw.keep b4'
    have ha := ha.keep b4'
    have hb := hb.keep b4'
    have hd := hd.keep b4'
    obtain ⟨g1, C1, rfl, hC1, hm1, hg1, hg1', R1⟩ := L1.form
    obtain ⟨g2, C2, rfl, hC2, hm2, hg2, hg2', R2⟩ := L2.form
    obtain ⟨g3, C3, rfl, hC3, hm3, hg3, hg3', R3⟩ := L3.form
    obtain ⟨g4, C4, rfl, hC4, hm4, hg4, hg4', R4⟩ := L4.form
    refine vl_val (os_assign rfl) ?_
    refine vl_val (os_assign rfl) ?_
    refine vl_val (os_assign rfl) ?_
    refine vl_val (os_assign rfl) ?_
    refine vl_nil ?_
    refine v_seq ?_
    refine v_region ?_
    refine vl_val (os_move rfl) ?_
    refine vl_val (os_move rfl) ?_
    refine vl_val (os_move rfl) ?_
    refine vl_call (wg_Score _ _ _ _ _ _ C1 C2 C4 worths ks ws w4 R1 R2 R4 rfl rfl rfl (by omega) (by omega) (by omega)) rfl ?_
    rintro v5 w5 ⟨rfl, q5⟩
    have b5 : Below w4.heap.size w4 w5 := led_below q5
    refine vl_val (os_move rfl) ?_
    refine vl_val (os_extract rfl rfl) ?_
    refine vl_val (os_extract rfl rfl) ?_
    refine vl_val (os_assign rfl) ?_
    refine vl_val (os_assign rfl) ?_
    refine vl_nil ?_
    refine v_seq ?_
    refine v_region ?_
    refine vl_val (os_move rfl) ?_
    refine vl_val (os_move rfl) ?_
    refine vl_val (os_move rfl) ?_
    refine vl_call (ref_Score W0 A D lw la ld cw ca cd worths ks ws w5 (hw.keep b5) (ha.keep b5) (hd.keep b5) lw' la' ld' (by omega) (by omega) (by omega)) rfl ?_
    rintro v6 w6 ⟨rfl, q6⟩
    have b6 : Below w4.heap.size w4 w6 := b5.trans (led_below q6)
    refine vl_val (os_move rfl) ?_
    refine vl_val (os_extract rfl rfl) ?_
    refine vl_val (os_extract rfl rfl) ?_
    refine vl_val (os_assign rfl) ?_
    refine vl_val (os_assign rfl) ?_
    refine vl_nil ?_
    refine v_seq ?_
    refine v_region ?_
    refine vl_val (os_move rfl) ?_
    refine vl_val (os_move rfl) ?_
    refine vl_val (os_move rfl) ?_
    refine vl_val (os_move rfl) ?_
    refine vl_call (wg_Better _ _ _ _ _ _ _ _ C1 C2 C3 C4 worths ks other ws w6 (R1.keep b6) (R2.keep b6) (R3.keep b6) (R4.keep b6) rfl rfl rfl rfl (by omega) (by omega) (by omega) (by omega)) rfl ?_
    rintro v7 w7 ⟨rfl, q7⟩
    have b7 : Below w4.heap.size w4 w7 := b6.trans (led_below q7)
    refine vl_val (os_move rfl) ?_
    refine vl_val (os_extract rfl rfl) ?_
    refine vl_val (os_extract rfl rfl) ?_
    refine vl_val (os_assign rfl) ?_
    refine vl_val (os_assign rfl) ?_
    refine vl_nil ?_
    refine v_seq ?_
    refine v_region ?_
    refine vl_val (os_move rfl) ?_
    refine vl_val (os_move rfl) ?_
    refine vl_val (os_move rfl) ?_
    refine vl_val (os_move rfl) ?_
    refine vl_call (ref_Better W0 A B D lw la lb ld cw ca cb cd worths ks other ws w7 (hw.keep b7) (ha.keep b7) (hb.keep b7) (hd.keep b7) lw' la' lb' ld' (by omega) (by omega) (by omega) (by omega)) rfl ?_
    rintro v8 w8 ⟨rfl, q8⟩
    have b8 : Below w4.heap.size w4 w8 := b7.trans (led_below q8)
    refine vl_val (os_move rfl) ?_
    refine vl_val (os_extract rfl rfl) ?_
    refine vl_val (os_extract rfl rfl) ?_
    refine vl_val (os_assign rfl) ?_
    refine vl_val (os_assign rfl) ?_
    refine vl_nil ?_
    refine v_seq ?_
    refine v_region ?_
    refine vl_val (os_move rfl) ?_
    refine vl_call (wg_Even n w8 hn) rfl ?_
    rintro v9 w9 ⟨s9, rfl, o9, b9⟩
    have b9' : Below w4.heap.size w4 w9 := b8.trans (b9.mono b8.size)
    refine vl_val (os_move rfl) ?_
    refine vl_val (os_extract rfl rfl) ?_
    refine vl_val (os_extract rfl rfl) ?_
    refine vl_val (os_assign rfl) ?_
    refine vl_val (os_assign rfl) ?_
    refine vl_nil ?_
    refine v_seq ?_
    refine v_region ?_
    refine vl_val (os_move rfl) ?_
    refine vl_call (ref_Even n w9 hn) rfl ?_
    rintro v10 w10 ⟨s10, rfl, o10, b10⟩
    have b10' : Below w4.heap.size w4 w10 := b9'.trans (b10.mono b9'.size)
    have o9 := Own.keepAll o9 b10
    obtain ⟨A9, c9, rfl, h9, h9', R9, _⟩ := OwnK.form o9
    obtain ⟨A10, c10, rfl, h10, h10', R10, _⟩ := o10.form
    have hel := evenL_len n
    refine vl_val (os_move rfl) ?_
    refine vl_val (os_extract rfl rfl) ?_
    refine vl_val (os_extract rfl rfl) ?_
    refine vl_val (os_assign rfl) ?_
    refine vl_val (os_assign rfl) ?_
    refine vl_nil ?_
    refine v_seq ?_
    refine v_region ?_
    refine vl_val (os_move rfl) ?_
    refine vl_val (os_move rfl) ?_
    refine vl_val (os_t (os_eql rfl rfl) (rfl)) ?_
    refine vl_val (os_move rfl) ?_
    refine vl_valg rfl (os_move rfl) ?_
    refine vl_valg rfl (os_move rfl) ?_
    refine vl_valg rfl (os_t (os_eql rfl rfl) (rfl)) ?_
    refine vl_val (os_pick_t rfl rfl) ?_
    refine vl_val (os_move rfl) ?_
    refine vl_valg rfl (os_move rfl) ?_
    refine vl_valg rfl (os_move rfl) ?_
    refine vl_valg rfl (os_is (os_eqlb Try.underlying4 rfl rfl) (beq_self_eq_true _)) ?_
    refine vl_val (os_pick_t rfl rfl) ?_
    refine vl_val (os_move rfl) ?_
    refine vl_valg rfl (os_move rfl) ?_
    refine vl_valg rfl (os_move rfl) ?_
    refine vl_valg rfl (os_t (os_eql rfl rfl) (rfl)) ?_
    refine vl_val (os_pick_t rfl rfl) ?_
    refine vl_val (os_move rfl) ?_
    refine vl_valg rfl (os_move rfl) ?_
    refine vl_valg rfl (os_move rfl) ?_
    refine vl_valg rfl (os_t (os_eql rfl rfl) (rfl)) ?_
    refine vl_val (os_pick_t rfl rfl) ?_
    refine vl_val (os_move rfl) ?_
    refine vl_valg rfl (os_move rfl) ?_
    refine vl_valg rfl (os_move rfl) ?_
    refine vl_callg rfl ((kit_SameInts A9 A10 _ _ c9 c10 (evenL n) (evenL n) w10 R9 R10 rfl rfl (by omega) (by omega)).mono fun v w' hh => (⟨by rw [hh.1, decide_eq_true rfl], hh.2⟩ : v = .bool true ∧ LeD _ w')) rfl ?_
    rintro v11 w11 ⟨rfl, q11⟩
    have b11 : Below w4.heap.size w4 w11 := b10'.trans (led_below q11)
    refine vl_val (os_pick_t rfl rfl) ?_
    refine vl_val (os_move rfl) ?_
    refine vl_valg rfl (os_move rfl) ?_
    refine vl_valg rfl (os_move rfl) ?_
    refine vl_callg rfl (wg_Right n _ _ C4 ws w11 (R4.keep b11) rfl (by omega) hn) rfl ?_
    rintro v12 w12 ⟨rfl, q12⟩
    have b12 : Below w4.heap.size w4 w12 := b11.trans (led_below q12)
    refine vl_valg rfl (os_move rfl) ?_
    refine vl_valg rfl (os_move rfl) ?_
    refine vl_callg rfl (ref_Right n D ld cd ws w12 (hd.keep b12) ld' (by omega) hn) rfl ?_
    rintro v13 w13 ⟨rfl, q13⟩
    have b13 : Below w4.heap.size w4 w13 := b12.trans (led_below q13)
    refine vl_valg rfl (os_is (os_eqlb Try.underlying4 rfl rfl) (beq_self_eq_true _)) ?_
    refine vl_val (os_pick_t rfl rfl) ?_
    refine vl_val (os_assign rfl) ?_
    refine vl_nil ?_
    refine v_seq ?_
    refine v_region ?_
    refine vl_val (os_move rfl) ?_
    refine vl_val (os_move rfl) ?_
    refine vl_valg rfl (os_move rfl) ?_
    refine vl_valg rfl (os_move rfl) ?_
    refine vl_callg rfl (kit_KeptInts _ _ W0 lw cw worths w13 (L1.keep b13) (hw.keep b13) lw' (by omega)) rfl ?_
    rintro v14 w14 ⟨rfl, q14⟩
    have b14 : Below w4.heap.size w4 w14 := b13.trans (led_below q14)
    refine vl_val (os_pick_t rfl rfl) ?_
    refine vl_val (os_move rfl) ?_
    refine vl_valg rfl (os_move rfl) ?_
    refine vl_valg rfl (os_move rfl) ?_
    refine vl_callg rfl (kit_KeptInts _ _ A la ca ks w14 (L2.keep b14) (ha.keep b14) la' (by omega)) rfl ?_
    rintro v15 w15 ⟨rfl, q15⟩
    have b15 : Below w4.heap.size w4 w15 := b14.trans (led_below q15)
    refine vl_val (os_pick_t rfl rfl) ?_
    refine vl_val (os_move rfl) ?_
    refine vl_valg rfl (os_move rfl) ?_
    refine vl_valg rfl (os_move rfl) ?_
    refine vl_callg rfl (kit_KeptInts _ _ B lb cb other w15 (L3.keep b15) (hb.keep b15) lb' (by omega)) rfl ?_
    rintro v16 w16 ⟨rfl, q16⟩
    have b16 : Below w4.heap.size w4 w16 := b15.trans (led_below q16)
    refine vl_val (os_pick_t rfl rfl) ?_
    refine vl_val (os_move rfl) ?_
    refine vl_valg rfl (os_move rfl) ?_
    refine vl_valg rfl (os_move rfl) ?_
    refine vl_callg rfl (kit_KeptInts _ _ D ld cd ws w16 (L4.keep b16) (hd.keep b16) ld' (by omega)) rfl ?_
    rintro v17 w17 ⟨rfl, q17⟩
    have b17 : Below w4.heap.size w4 w17 := b16.trans (led_below q17)
    refine vl_val (os_pick_t rfl rfl) ?_
    refine vl_val (os_move rfl) ?_
    refine vl_callg rfl (law12_awake w17) rfl ?_
    rintro v18 w18 ⟨rfl, b18⟩
    have b18' : Below w4.heap.size w4 w18 := b17.trans (b18.mono b17.size)
    refine vl_val (os_pick_t rfl rfl) ?_
    refine vl_val (os_assign rfl) ?_
    refine vl_nil ?_
    refine v_ret ?_
    exact post_ret rfl rfl (⟨rfl, b4'.trans (b18'.mono b4'.size)⟩)
end Go.Proofs.Ytmbcflanifoofaa
