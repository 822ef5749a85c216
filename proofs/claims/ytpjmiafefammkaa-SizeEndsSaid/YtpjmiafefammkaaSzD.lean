/- Layer 11: the walk of SizeDoes. -/
import Derived.Test.YtpjmiafefammkaaSzR
namespace Go.Proofs.Ytpjmiafefammkaa
open Go.RowKit
set_option linter.unusedVariables false

set_option maxHeartbeats 2000000 in
theorem law11_SizeDoes (n m b q layers : Int) (T A K : Option Addr) (lt ct l c lk ck : Nat) (rows : List (Int × Int)) (lens ks : List Int) (w : World) (hT : RdP w 2 T (rows.map rowC)) (ha : Rd w .i64 A lens) (hk : Rd w .i64 K ks) (hlt : lt = rows.length) (hl : l = lens.length) (hlk : lk = ks.length)
    (hlt' : lt ≤ 17592186044416) (hl' : l ≤ 17592186044416) (hlk' : lk ≤ 17592186044416) (hks : AllI ks) :
    Gives Try.prog 47 #[.agg #[.int .i64 n, .int .i64 m, .int .i64 b], .int .i64 q, .int .i64 layers, .slice T lt ct, .slice A l c, .slice K lk ck] w fun v w' => v = .bool true ∧ Below w.heap.size w w' := by
  have hb0 : Below w.heap.size w (w.alloc (.cells #[.int .i64 n, .int .i64 m, .int .i64 b] 75)) := (Below.refl _ w).alloc (Nat.le_refl _) _
  have hB0 := bk_new w [.int .i64 n, .int .i64 m, .int .i64 b] 75
  refine gives_enter Try.call47 Try.func47 rfl rfl rfl (by kernel_rfl) ?_
  refine v_seq ?_
  refine v_region ?_
  refine vl_val (os_box rfl) ?_
  refine vl_val (os_assign rfl) ?_
  refine vl_nil ?_
  refine v_seq ?_
  refine v_seq ?_
  refine v_region ?_
  refine vl_val (os_move rfl) ?_
  refine vl_val (os_len Try.underlying79 rfl) ?_
  refine vl_val (os_move rfl) ?_
  refine vl_val (os_len Try.underlying40 rfl) ?_
  refine vl_val (os_addi rfl rfl (by omega)) ?_
  refine vl_val (os_move rfl) ?_
  refine vl_val (os_len Try.underlying40 rfl) ?_
  refine vl_val (os_addi rfl rfl (by omega)) ?_
  refine vl_val (os_gtr rfl rfl) ?_
  refine vl_nil ?_
  refine v_cond_d rfl (fun hbig => ?_) (fun hbig => ?_)
  · refine v_seq ?_
    refine v_region ?_
    refine vl_call (law11_awake _) rfl ?_
    rintro v1 w1 ⟨rfl, hb1⟩
    refine vl_val (os_assign rfl) ?_
    refine vl_nil ?_
    refine v_ret ?_
    exact post_ret rfl rfl (⟨rfl, hb0.trans (hb1.mono (by simp))⟩)
  · refine v_skip ?_
    refine v_seq ?_
    refine v_region ?_
    refine vl_val (os_move rfl) ?_
    refine vl_call (kit_LentTable T lt ct rows _ (hT.keep hb0) hlt (by omega)) rfl ?_
    rintro vT w1 ⟨lT, b1⟩
    have b1w := hb0.trans (b1.mono hb0.size)
    refine vl_val (os_move rfl) ?_
    refine vl_call (kit_LentInts A l c lens w1 (ha.keep b1w) hl (by omega)) rfl ?_
    rintro vL w2 ⟨lL, b2⟩
    have b2w := b1w.trans (b2.mono b1w.size)
    refine vl_val (os_move rfl) ?_
    refine vl_call (kit_LentInts K lk ck ks w2 (hk.keep b2w) hlk (by omega)) rfl ?_
    rintro vK w3 ⟨lK, b3⟩
    have b3w := b2w.trans (b3.mono b2w.size)
    have lT3 := (lT.keep b2).keep b3
    have lL3 := lL.keep b3
    obtain ⟨gT, CT, rfl, hT1, hT2, hT3, rT⟩ := lT3.form
    obtain ⟨gL, CL, rfl, hL1, hL2, hL3, hL4, rL⟩ := lL3.form
    obtain ⟨gK, CK, rfl, hK1, hK2, hK3, hK4, rK⟩ := lK.form
    have hB3 := ((hB0.keep b1).keep b2).keep b3
    refine vl_val (os_assign rfl) ?_
    refine vl_val (os_assign rfl) ?_
    refine vl_val (os_assign rfl) ?_
    refine vl_nil ?_
    refine v_seq ?_
    refine v_region ?_
    refine vl_val (os_move rfl) ?_
    refine vl_val (os_move rfl) ?_
    refine vl_call (size_Of q _ _ CT rows w3 rT rfl (by omega)) rfl ?_
    rintro v4 w4 ⟨rfl, b4⟩
    have b4w := b3w.trans (b4.mono b3w.size)
    refine vl_val (os_move rfl) ?_
    refine vl_val (os_extract rfl rfl) ?_
    refine vl_val (os_extract rfl rfl) ?_
    refine vl_val (os_assign rfl) ?_
    refine vl_val (os_assign rfl) ?_
    refine vl_nil ?_
    refine v_seq ?_
    refine v_region ?_
    refine vl_val (os_move rfl) ?_
    refine vl_val (os_move rfl) ?_
    refine vl_call (ref11_Of q T lt ct rows w4 (hT.keep b4w) hlt) rfl ?_
    rintro v5 w5 ⟨rfl, b5⟩
    have b5w := b4w.trans (b5.mono b4w.size)
    have hB5 := (hB3.keep b4).keep b5
    refine vl_val (os_move rfl) ?_
    refine vl_val (os_extract rfl rfl) ?_
    refine vl_val (os_extract rfl rfl) ?_
    refine vl_val (os_assign rfl) ?_
    refine vl_val (os_assign rfl) ?_
    refine vl_nil ?_
    refine v_seq ?_
    refine v_region ?_
    refine vl_val (os_loadB Try.underlying75 rfl (by kernel_rfl) rfl (hB5)) ?_
    refine vl_val (os_move rfl) ?_
    refine vl_call (size_Room n m b layers w5) rfl ?_
    rintro v6 w6 ⟨rfl, b6⟩
    have b6w := b5w.trans (b6.mono b5w.size)
    have hB6 := hB5.keep b6
    refine vl_val (os_move rfl) ?_
    refine vl_val (os_extract rfl rfl) ?_
    refine vl_val (os_extract rfl rfl) ?_
    refine vl_val (os_assign rfl) ?_
    refine vl_val (os_assign rfl) ?_
    refine vl_nil ?_
    refine v_seq ?_
    refine v_region ?_
    refine vl_val (os_loadB Try.underlying75 rfl (by kernel_rfl) rfl (hB6)) ?_
    refine vl_call (theirs n m b w6) rfl ?_
    rintro v7 w7 ⟨rfl, b7⟩
    have b7w := b6w.trans (b7.mono b6w.size)
    refine vl_val (os_move rfl) ?_
    refine vl_call (ref11_Room n m b layers w7) rfl ?_
    rintro v8 w8 ⟨rfl, b8⟩
    have b8w := b7w.trans (b8.mono b7w.size)
    have hB8 := (hB6.keep b7).keep b8
    have b38 : Below w3.heap.size w3 w8 := b4.trans ((b5.trans ((b6.trans ((b7.trans (b8.mono b7.size)).mono b6.size)).mono b5.size)).mono b4.size)
    have rL8 := rL.keep b38
    have rK8 := rK.keep b38
    have ha8 := ha.keep b8w
    have hk8 := hk.keep b8w
    refine vl_val (os_move rfl) ?_
    refine vl_val (os_extract rfl rfl) ?_
    refine vl_val (os_extract rfl rfl) ?_
    refine vl_val (os_assign rfl) ?_
    refine vl_val (os_assign rfl) ?_
    refine vl_nil ?_
    refine v_seq ?_
    refine v_region_t LeG _ mixed (by kernel_rfl) lee_g (leg_start _) ?_
    refine vt_val (fun w hw => os_move rfl) ?_
    refine vt_val (fun w hw => os_move rfl) ?_
    refine vt_val (fun w hw => os_t (os_eql rfl rfl) (rfl)) ?_
    refine vt_val (fun w hw => os_move rfl) ?_
    refine vt_valg rfl (fun w hw => os_move rfl) ?_
    refine vt_valg rfl (fun w hw => os_move rfl) ?_
    refine vt_valg rfl (fun w hw => os_t (os_eql rfl rfl) (rfl)) ?_
    refine vt_val (fun w hw => os_pick_t rfl rfl) ?_
    refine vt_val (fun w hw => os_move rfl) ?_
    refine vt_valg rfl (fun w hw => os_move rfl) ?_
    refine vt_valg rfl (fun w hw => os_move rfl) ?_
    refine vt_valg rfl (fun w hw => os_t (os_eql rfl rfl) (rfl)) ?_
    refine vt_val (fun w hw => os_pick_t rfl rfl) ?_
    refine vt_val (fun w hw => os_move rfl) ?_
    refine vt_valg rfl (fun w hw => os_move rfl) ?_
    refine vt_valg rfl (fun w hw => os_move rfl) ?_
    refine vt_valg rfl (fun w hw => os_t (os_eql rfl rfl) (rfl)) ?_
    refine vt_val (fun w hw => os_pick_t rfl rfl) ?_
    refine vt_val (fun w hw => os_move rfl) ?_
    refine vt_valg rfl (fun w hw => os_loadB Try.underlying75 rfl (by kernel_rfl) rfl ((hB8.keep hw))) ?_
    refine vt_callg rfl (v := _) (fun w hw => size_Right n m b w) rfl ?_
    refine vt_valg rfl (fun w hw => os_loadB Try.underlying75 rfl (by kernel_rfl) rfl ((hB8.keep hw))) ?_
    refine vt_callg rfl (v := _) (fun w hw => theirs n m b w) rfl ?_
    refine vt_callg rfl (v := _) (fun w hw => ref11_Right n m b w) rfl ?_
    refine vt_valg rfl (fun w hw => os_is (os_eqlb Try.underlying4 rfl rfl) ((beq_self_eq_true (rightB n m b)))) ?_
    refine vt_val (fun w hw => os_pick_t rfl rfl) ?_
    refine vt_val (fun w hw => os_move rfl) ?_
    refine vt_valg rfl (fun w hw => os_loadB Try.underlying75 rfl (by kernel_rfl) rfl ((hB8.keep hw))) ?_
    refine vt_valg rfl (fun w hw => os_move rfl) ?_
    refine vt_valg rfl (fun w hw => os_move rfl) ?_
    refine vt_callg rfl (v := _) (fun w hw => size_Fits n m b _ _ _ CL _ CK lens ks w (rL8.keep hw) (rK8.keep hw) rfl rfl (by omega) (by omega) hks) rfl ?_
    refine vt_valg rfl (fun w hw => os_loadB Try.underlying75 rfl (by kernel_rfl) rfl ((hB8.keep hw))) ?_
    refine vt_callg rfl (v := _) (fun w hw => theirs n m b w) rfl ?_
    refine vt_valg rfl (fun w hw => os_move rfl) ?_
    refine vt_valg rfl (fun w hw => os_move rfl) ?_
    refine vt_callg rfl (v := _) (fun w hw => ref11_Fits n m b A K l c lk ck lens ks w (ha8.keep hw) (hk8.keep hw) hl hlk (by omega)) rfl ?_
    refine vt_valg rfl (fun w hw => os_is (os_eqlb Try.underlying4 rfl rfl) ((beq_self_eq_true (fitsB n m b lens ks)))) ?_
    refine vt_val (fun w hw => os_pick_t rfl rfl) ?_
    refine vt_val (fun w hw => os_assign rfl) ?_
    refine vt_nil (fun Hw H => ?_)
    have b9w := b8w.trans (H.mono b8w.size)
    have b39 := b38.trans (H.mono b38.size)
    refine v_seq ?_
    refine v_region ?_
    refine vl_val (os_move rfl) ?_
    refine vl_val (os_move rfl) ?_
    refine vl_valg rfl (os_move rfl) ?_
    refine vl_valg rfl (os_move rfl) ?_
    refine vl_callg rfl (kit_KeptTable _ _ T lt ct rows Hw ((lT.keep b2).keep b3 |>.keep b39) (hT.keep b9w) hlt (by omega)) rfl ?_
    rintro v10 w10 ⟨rfl, b10⟩
    have b10w := b9w.trans (b10.mono b9w.size)
    have b310 := b39.trans (b10.mono b39.size)
    refine vl_val (os_pick_t rfl rfl) ?_
    refine vl_val (os_move rfl) ?_
    refine vl_valg rfl (os_move rfl) ?_
    refine vl_valg rfl (os_move rfl) ?_
    refine vl_callg rfl (kit_KeptInts _ _ A l c lens w10 ((lL.keep b3).keep b310) (ha.keep b10w) hl (by omega)) rfl ?_
    rintro v11 w11 ⟨rfl, e11⟩
    have b11 : Below w10.heap.size w10 w11 := led_below e11
    have b11w := b10w.trans (b11.mono b10w.size)
    have b311 := b310.trans (b11.mono b310.size)
    refine vl_val (os_pick_t rfl rfl) ?_
    refine vl_val (os_move rfl) ?_
    refine vl_valg rfl (os_move rfl) ?_
    refine vl_valg rfl (os_move rfl) ?_
    refine vl_callg rfl (kit_KeptInts _ _ K lk ck ks w11 (lK.keep b311) (hk.keep b11w) hlk (by omega)) rfl ?_
    rintro v12 w12 ⟨rfl, e12⟩
    have b12 : Below w11.heap.size w11 w12 := led_below e12
    have b12w := b11w.trans (b12.mono b11w.size)
    refine vl_val (os_pick_t rfl rfl) ?_
    refine vl_val (os_move rfl) ?_
    refine vl_callg rfl (law11_awake _) rfl ?_
    rintro v13 w13 ⟨rfl, b13⟩
    refine vl_val (os_pick_t rfl rfl) ?_
    refine vl_val (os_assign rfl) ?_
    refine vl_nil ?_
    refine v_ret ?_
    exact post_ret rfl rfl (⟨rfl, b12w.trans (b13.mono b12w.size)⟩)
end Go.Proofs.Ytpjmiafefammkaa
