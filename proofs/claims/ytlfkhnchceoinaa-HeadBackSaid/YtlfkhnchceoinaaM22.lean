/- Texts joined: HdB OpR OpH. -/
import Derived.Test.YtlfkhnchceoinaaM21
import Derived.ChangeSame
/- Layer 14: the walk of HeadBack. -/
namespace Go.Proofs.Ytlfkhnchceoinaa
open Go.RowKit
set_option linter.unusedVariables false

/-- bytes that are a header and a body -/
theorem hd_forth {zs : List Int} (hz : AllB zs) (h : hdE (sealL zs) = 0) : putH (hdP (sealL zs)) (hdB (sealL zs)) = true ∧ headB (hdP (sealL zs)) ++ hdB (sealL zs) = zs := by
  have h1 := seal_open (bs := zs)
  have hE : parseHE zs = 0 := by unfold hdE at h; rw [if_neg (fun hh => hh h1.1), h1.2] at h; exact h
  have hP : hdP (sealL zs) = headP zs := by unfold hdP; rw [if_pos h, h1.2]
  have hB : hdB (sealL zs) = bodyP zs := by unfold hdB; rw [if_pos h, h1.2]
  unfold parseHE at hE
  split at hE
  · cases hE
  · split at hE
    · cases hE
    · rename_i hv
      have hv : numAt zs 0 1 = 1 := by simpa using hv
      split at hE
      · rename_i hg
        rw [Bool.and_eq_true] at hg
        rw [hP, hB]
        exact ⟨hg.2, headB_of hz hg.1 hv⟩
      · cases hE
theorem AllB.at1' {zs : List Int} (h : AllB zs) (k : Nat) : 0 ≤ zs.getD k 0 ∧ zs.getD k 0 ≤ 255 := AllY.at_ h k
theorem hdB_all {zs : List Int} (h : AllB zs) : AllB (hdB zs) := by
  intro z hz
  unfold hdB at hz
  split at hz
  · unfold bodyP at hz
    exact hd_openV_Y h z (List.mem_of_mem_drop hz)
  · cases hz
set_option maxHeartbeats 4000000 in
theorem law14_HeadBack (d : HeadV) (A0 : Option Addr) (n0 c0 : Nat) (ys : List Int) (A : Option Addr) (n c : Nat) (zs : List Int) (bit : Int) (w : World) (hd : HeadOk w d) (ha0 : Rd w .u8 A0 ys) (hn0 : n0 = ys.length) (hc0 : n0 ≤ c0) (hz0 : AllB ys) (hm0 : n0 ≤ 200000000000000)
    (ha : Rd w .u8 A zs) (hn : n = zs.length) (hc : n ≤ c) (hz : AllB zs) (hm9 : n ≤ 200000000000000) : Gives Try.prog 7 #[.agg d.cells.toArray, .slice A0 n0 c0, .slice A n c, .int .i64 bit] w fun v w' => v = .bool true ∧ Below w.heap.size w w' := by
  have hB0 := bk_new w d.cells 28
  have hb0 : Below w.heap.size w (w.alloc (.cells d.cells.toArray 28)) := (Below.refl _ w).alloc (Nat.le_refl _) _
  have hl := hd.2.1
  have hl9 := hd.2.2.1
  refine gives_enter Try.call7 Try.func7 rfl rfl rfl (by kernel_rfl) ?_
  refine v_seq ?_
  refine v_region ?_
  refine vl_val (os_box rfl) ?_
  refine vl_val (os_assign rfl) ?_
  refine vl_nil ?_
  refine v_seq ?_
  refine v_seq ?_
  refine v_region ?_
  refine vl_call (law14_awake _) rfl ?_
  rintro v1 w1 ⟨rfl, b1⟩
  have hB1 := hB0.keep b1
  have b1w := hb0.trans (b1.mono hb0.size)
  have hR0 := hB1.lt
  refine vl_val (os_not rfl) ?_
  refine vl_nil ?_
  refine v_cond_f rfl ?_
  refine v_skip ?_
  refine v_seq ?_
  refine v_seq ?_
  refine v_region ?_
  refine vl_val (os_fa (o := 5) (k := 0) (by kernel_rfl) rfl) ?_
  refine vl_val (os_load Try.isAgg26 rfl (hB1.cell (i := 5) rfl)) ?_
  refine vl_val (os_len Try.underlying26 rfl) ?_
  refine vl_val (os_move rfl) ?_
  refine vl_val (os_len Try.underlying22 rfl) ?_
  refine vl_val (os_addi rfl rfl (by omega)) ?_
  refine vl_val (os_move rfl) ?_
  refine vl_val (os_len Try.underlying22 rfl) ?_
  refine vl_val (os_addi rfl rfl (by omega)) ?_
  refine vl_val (os_gtr rfl rfl) ?_
  refine vl_nil ?_
  refine v_cond_d rfl (fun hbig => ?_) (fun hbig => ?_)
  · refine v_seq ?_
    refine v_region ?_
    refine vl_val (os_assign rfl) ?_
    refine vl_nil ?_
    refine v_ret ?_
    exact post_ret rfl rfl (⟨rfl, b1w⟩)
  · have hsl := sealL_len zs
    refine v_skip ?_
    refine v_seq ?_
    refine v_region ?_
    refine vl_val (os_move rfl) ?_
    refine vl_call (sum_Seal A n c zs w1 (ha.keep b1w) hn hc (by omega) hz) rfl ?_
    rintro v2 w2 ⟨o2, b2⟩
    obtain ⟨A2, c2, rfl, hc2, hm2, r2, -⟩ := OwnK.form o2
    have b2w := b1w.trans (b2.mono b1w.size)
    refine vl_call (hd_Parse A2 _ c2 (sealL zs) w2 r2 rfl hc2 (by omega) (sealL_B hz)) rfl ?_
    rintro v3 w3 ⟨A3, l3, c3, s3, rfl, hm, o3, b3⟩
    have b3w := b2w.trans (b3.mono b2w.size)
    obtain ⟨m, hmd⟩ : ∃ m : HeadV, m = ⟨hdP (sealL zs), A3, l3, c3⟩ := ⟨_, rfl⟩
    have hmq : m.q = hdP (sealL zs) := by rw [hmd]
    rw [← hmd] at hm
    rw [← hmd]
    refine vl_val (os_move rfl) ?_
    refine vl_val (os_extract rfl rfl) ?_
    refine vl_val (os_extract rfl rfl) ?_
    refine vl_val (os_extract rfl rfl) ?_
    refine vl_val (os_allocB Try.zeroValue28 (zc := _) (cs := zH) rfl) ?_
    have hM0 := bk_new w3 zH 28
    have c1 : Below w3.heap.size w3 (w3.alloc (.cells zH.toArray 28)) := (Below.refl _ _).alloc (Nat.le_refl _) _
    refine vl_unit (ou_storeB (by kernel_rfl) rfl rfl hM0 rfl rfl) ?_
    have hM4 := setRow_bk hM0 m.cells
    have c2' := below_setRow c1 (Nat.le_refl _) m.cells.toArray
    generalize hw4 : (w3.alloc (.cells zH.toArray 28)).setRow w3.heap.size m.cells.toArray = w4 at *
    have hm4 := hm.keep c2'
    have b4w := b3w.trans (c2'.mono b3w.size)
    have hB4 : Bk w4 w.heap.size d.cells 28 := hB1.keep (b2.trans ((b3.trans (c2'.mono b3.size)).mono b2.size))
    obtain ⟨A3b, c3b, rfl, hc3b, hm3b, r3b, -⟩ := OwnK.form (Own.keepAll o3 c2')
    have hbl : (hdB (sealL zs)).length ≤ 1000000 := by unfold hdB bodyP; split; (rw [List.length_drop]; have := hd_openV_len (sealL zs); omega); simp
    have hbB : AllB (hdB (sealL zs)) := hdB_all (sealL_B hz)
    refine vl_val (os_assign rfl) ?_
    refine vl_val (os_assign rfl) ?_
    refine vl_nil ?_
    refine v_mid [(1, _), (4, _)] (fun (x : Nat) => [(3, .int .i64 bit)]) (fun x w' => Below w4.heap.size w4 w') ⟨rfl, rfl, trivial⟩ ?_ ?_
    · by_cases he : hdE (sealL zs) = 0
      · obtain ⟨f1, f2⟩ := hd_forth hz he
        rw [← hmq] at f1 f2
        have hpV1 : hpV m.q (hdB (sealL zs)) = sealL zs := by unfold hpV; rw [f1, f2]; rfl
        have hpE1 : hpE m.q (hdB (sealL zs)) = 0 := by unfold hpE; rw [f1]; rfl
        have hmr : rightH m.q = true := by unfold putH at f1; rw [Bool.and_eq_true] at f1; exact f1.1
        refine v_seq ?_
        refine v_region ?_
        refine vl_val (os_move rfl) ?_
        refine vl_val (os_eql rfl rfl) ?_
        refine vl_nil ?_
        refine v_cond_yes rfl (he) ?_
        refine v_seq ?_
        refine v_region ?_
        refine vl_val (os_loadB Try.underlying28 rfl (by kernel_rfl) rfl (hM4)) ?_
        refine vl_val (os_move rfl) ?_
        refine vl_call (hd_Put m A3b _ c3b (hdB (sealL zs)) w4 hm4 r3b rfl hbB) rfl ?_
        rintro v5 w5 ⟨s5, rfl, o5, b5⟩
        rw [hpV1] at o5
        rw [hpE1]
        obtain ⟨A5, c5, rfl, hc5, hm5, r5, -⟩ := OwnK.form o5
        have b5w := b4w.trans (b5.mono b4w.size)
        refine vl_val (os_move rfl) ?_
        refine vl_val (os_extract rfl rfl) ?_
        refine vl_val (os_extract rfl rfl) ?_
        refine vl_val (os_assign rfl) ?_
        refine vl_val (os_assign rfl) ?_
        refine vl_nil ?_
        refine v_seq ?_
        refine v_region ?_
        refine vl_val (os_move rfl) ?_
        refine vl_val (os_f (os_neq rfl rfl) (by decide)) ?_
        refine vl_val (os_move rfl) ?_
        refine vl_valg rfl (os_move rfl) ?_
        refine vl_valg rfl (os_move rfl) ?_
        refine vl_callg rfl (sum_Seal A n c zs w5 (ha.keep b5w) hn hc (by omega) hz) rfl ?_
        rintro v6 w6 ⟨o6, b6⟩
        obtain ⟨A6, c6, rfl, hc6, hm6, r6, -⟩ := OwnK.form o6
        refine vl_callg rfl (gives_boolb (kit_SameBytes A5 A6 _ _ c5 c6 (sealL zs) (sealL zs) w6 (r5.keep b6) r6 rfl rfl (by omega) (by omega)) (decide_eq_true rfl)) rfl ?_
        rintro v7 w7 ⟨rfl, d7⟩
        have b57 : Below w5.heap.size w5 w7 := b6.trans ((led_below d7).mono b6.size)
        have b47 := b5.trans (b57.mono b5.size)
        refine vl_valg rfl (os_not rfl) ?_
        refine vl_val (os_pick_f rfl rfl) ?_
        refine vl_val (os_move rfl) ?_
        refine vl_valg rfl (os_loadB Try.underlying28 rfl (by kernel_rfl) rfl (hM4.keep b47)) ?_
        refine vl_callg rfl (gives_boolb (hd_Right m w7 (hm4.keep b47)) hmr) rfl ?_
        rintro v8 w8 ⟨rfl, b8⟩
        refine vl_valg rfl (os_not rfl) ?_
        refine vl_val (os_pick_f rfl rfl) ?_
        refine vl_nil ?_
        refine v_cond_f rfl ?_
        refine v_skip ?_
        exact ⟨0, ⟨rfl, rfl, trivial⟩, ⟨rfl, trivial⟩, b47.trans (b8.mono b47.size)⟩
      · refine v_seq ?_
        refine v_region ?_
        refine vl_val (os_move rfl) ?_
        refine vl_val (os_eql rfl rfl) ?_
        refine vl_nil ?_
        refine v_cond_no rfl (he) ?_
        refine v_skip ?_
        exact ⟨0, ⟨rfl, rfl, trivial⟩, ⟨rfl, trivial⟩, Below.refl _ _⟩
    · rintro x w9 b9
      have hB9 := hB4.keep b9
      have b9w := b4w.trans (b9.mono b4w.size)
      have hd9 := hd.keep b9w
      cases hr : putH d.q ys
      · have hpE2 : hpE d.q ys = 2 := by unfold hpE; rw [hr]; rfl
        have hpV2 : hpV d.q ys = [] := by unfold hpV; rw [hr]; rfl
        refine v_seq ?_
        refine v_region ?_
        refine vl_val (os_loadB Try.underlying28 rfl (by kernel_rfl) rfl (hB9)) ?_
        refine vl_val (os_move rfl) ?_
        refine vl_call (hd_Put d A0 n0 c0 ys w9 hd9 (ha0.keep b9w) hn0 hz0) rfl ?_
        rintro v10 w10 ⟨s10, rfl, o10, b10⟩
        rw [hpV2] at o10
        rw [hpE2]
        obtain ⟨A10, c10, rfl, -, -, -, -⟩ := OwnK.form o10
        refine vl_val (os_move rfl) ?_
        refine vl_val (os_extract rfl rfl) ?_
        refine vl_val (os_extract rfl rfl) ?_
        refine vl_val (os_assign rfl) ?_
        refine vl_val (os_assign rfl) ?_
        refine vl_nil ?_
        refine v_seq ?_
        refine v_seq ?_
        refine v_region ?_
        refine vl_val (os_move rfl) ?_
        refine vl_val (os_neq rfl rfl) ?_
        refine vl_nil ?_
        refine v_cond_yes rfl (by decide) ?_
        refine v_seq ?_
        refine v_region ?_
        refine vl_val (os_move rfl) ?_
        refine vl_val (os_t (os_eql rfl rfl) (by decide)) ?_
        have b10w := b9w.trans (b10.mono b9w.size)
        refine vl_val (os_move rfl) ?_
        refine vl_valg rfl (os_move rfl) ?_
        refine vl_valg rfl (os_len Try.underlying22 rfl) ?_
        refine vl_valg rfl (os_eql rfl rfl) ?_
        refine vl_val (os_pick_t rfl rfl) ?_
        refine vl_val (os_assign rfl) ?_
        refine vl_nil ?_
        refine v_ret ?_
        exact post_ret rfl rfl (⟨by simp, b10w⟩)
      · have hpE2 : hpE d.q ys = 0 := by unfold hpE; rw [hr]; rfl
        have hpV2 : hpV d.q ys = sealL (headB d.q ++ ys) := by unfold hpV; rw [hr]; rfl
        have hback := hd_back hr
        have hAB : AllB (headB d.q ++ ys) := headB_all hz0
        have hSl : (sealL (headB d.q ++ ys)).length = 18 + 3 * d.l + n0 := by rw [sealL_len, List.length_append, headB_len, hl, hn0]; omega
        obtain ⟨hlay, hlong⟩ : layOk d.q.n d.q.rows = true ∧ (ys.length : Int) = longV d.q.n d.q.rows := by unfold putH at hr; rw [Bool.and_eq_true, decide_eq_true_iff] at hr; exact ⟨(rightH_iff.1 hr.1).lay, hr.2⟩
        have hSB := sealL_B hAB
        refine v_seq ?_
        refine v_region ?_
        refine vl_val (os_loadB Try.underlying28 rfl (by kernel_rfl) rfl (hB9)) ?_
        refine vl_val (os_move rfl) ?_
        refine vl_call (hd_Put d A0 n0 c0 ys w9 hd9 (ha0.keep b9w) hn0 hz0) rfl ?_
        rintro v10 w10 ⟨s10, rfl, o10, b10⟩
        rw [hpV2] at o10
        rw [hpE2]
        obtain ⟨g, c10, rfl, hc10, hm10, hg10, hgl10⟩ := OwnK.row o10 (by omega)
        have r10 := OwnK.rd o10
        have hBS := Bent.zero hSB 1
        have hSl2 := hSl
        generalize hS : sealL (headB d.q ++ ys) = S at *
        have b10w := b9w.trans (b10.mono b9w.size)
        refine vl_val (os_move rfl) ?_
        refine vl_val (os_extract rfl rfl) ?_
        refine vl_val (os_extract rfl rfl) ?_
        refine vl_val (os_assign rfl) ?_
        refine vl_val (os_assign rfl) ?_
        refine vl_nil ?_
        refine v_seq ?_
        refine v_seq ?_
        refine v_region ?_
        refine vl_val (os_move rfl) ?_
        refine vl_val (os_neq rfl rfl) ?_
        refine vl_nil ?_
        refine v_cond_no rfl (by decide) ?_
        refine v_skip ?_
        refine v_seq ?_
        refine v_region ?_
        refine vl_val (os_move rfl) ?_
        refine vl_call (hd_Parse (some ⟨g, 0, none⟩) S.length c10 S w10 r10 rfl (by omega) (by omega) hSB) rfl ?_
        rintro v11 w11 ⟨A11, l11, c11, s11, rfl, hx, o11, b11⟩
        rw [hback.1]
        rw [hback.2.1] at hx
        rw [hback.2.1]
        rw [hback.2.2] at o11
        have b11w := b10w.trans (b11.mono b10w.size)
        refine vl_val (os_move rfl) ?_
        refine vl_val (os_extract rfl rfl) ?_
        refine vl_val (os_extract rfl rfl) ?_
        refine vl_val (os_extract rfl rfl) ?_
        refine vl_val (os_allocB Try.zeroValue28 (zc := _) (cs := zH) rfl) ?_
        have hX0 := bk_new w11 zH 28
        have e1 : Below w11.heap.size w11 (w11.alloc (.cells zH.toArray 28)) := (Below.refl _ _).alloc (Nat.le_refl _) _
        refine vl_unit (ou_storeB (by kernel_rfl) rfl rfl hX0 rfl rfl) ?_
        have hX12 := setRow_bk hX0 (HeadV.cells ⟨d.q, A11, l11, c11⟩)
        have e2 := below_setRow e1 (Nat.le_refl _) (HeadV.cells ⟨d.q, A11, l11, c11⟩).toArray
        generalize hw12 : (w11.alloc (.cells zH.toArray 28)).setRow w11.heap.size (HeadV.cells ⟨d.q, A11, l11, c11⟩).toArray = w12 at *
        have b12w := b11w.trans (e2.mono b11w.size)
        have b1012 := b11.trans (e2.mono b11.size)
        have hB12 := (hB9.keep b10).keep b1012
        refine vl_val (os_assign rfl) ?_
        refine vl_val (os_assign rfl) ?_
        refine vl_nil ?_
        refine v_seq ?_
        refine v_region ?_
        refine vl_val (os_fa (o := 3) (k := 0) (by kernel_rfl) rfl) ?_
        refine vl_val (os_load Try.isAgg3 rfl (hB12.cell (i := 3) rfl)) ?_
        refine vl_val (os_fa (o := 5) (k := 0) (by kernel_rfl) rfl) ?_
        refine vl_val (os_load Try.isAgg26 rfl (hB12.cell (i := 5) rfl)) ?_
        refine vl_call (size_Of d.q.n d.A d.l d.c d.q.rows w12 (hd.keep b12w).1 hl (by omega)) rfl ?_
        rintro u13 w13a ⟨rfl, b13a⟩
        have hlo : longV d.q.n d.q.rows = offS d.q.rows d.q.rows.length := by unfold longV; rw [hlay]; rfl
        have hof : ofV d.q.n d.q.rows = (S.length : Int) := by unfold ofV; rw [hlay]; simp only [if_true]; omega
        rw [hof, hlay]
        have b13aw := b12w.trans (b13a.mono b12w.size)
        have b1013a := b1012.trans (b13a.mono b1012.size)
        have hB13a := hB12.keep b13a
        refine vl_val (os_move rfl) ?_
        refine vl_val (os_extract rfl rfl) ?_
        refine vl_val (os_extract rfl rfl) ?_
        refine vl_val (os_assign rfl) ?_
        refine vl_val (os_assign rfl) ?_
        refine vl_nil ?_
        refine v_seq ?_
        refine v_seq ?_
        refine v_region ?_
        refine vl_val (os_move rfl) ?_
        refine vl_val (os_f (os_neq rfl rfl) (by decide)) ?_
        refine vl_val (os_move rfl) ?_
        refine vl_valg rfl (os_move rfl) ?_
        refine vl_valg rfl (os_f (os_neq rfl rfl) (by decide)) ?_
        refine vl_val (os_pick_f rfl rfl) ?_
        refine vl_val (os_move rfl) ?_
        refine vl_valg rfl (os_loadB Try.underlying28 rfl (by kernel_rfl) rfl (hX12.keep b13a)) ?_
        refine vl_valg rfl (os_loadB Try.underlying28 rfl (by kernel_rfl) rfl (hB13a)) ?_
        refine vl_callg rfl (kit_SameHead ⟨d.q, A11, l11, c11⟩ d w13a ((hx.keep e2).keep b13a) (hd.keep b13aw) rfl) rfl ?_
        rintro v13 w13b ⟨rfl, b13b⟩
        have b13bw := b13aw.trans (b13b.mono b13aw.size)
        have b1013b := b1013a.trans (b13b.mono b1013a.size)
        have o13b := Own.keepAll (Own.keepAll (Own.keepAll o11 e2) b13a) b13b
        obtain ⟨AX, cX, rfl, -, -, rX, -⟩ := OwnK.form o13b
        refine vl_valg rfl (os_not rfl) ?_
        refine vl_val (os_pick_f rfl rfl) ?_
        refine vl_val (os_move rfl) ?_
        refine vl_valg rfl (os_move rfl) ?_
        refine vl_valg rfl (os_move rfl) ?_
        refine vl_callg rfl (gives_boolb (kit_SameBytes AX A0 _ _ cX c0 ys ys w13b rX (ha0.keep b13bw) rfl hn0 (by omega) (by omega)) (decide_eq_true rfl)) rfl ?_
        rintro v13c w13 ⟨rfl, d13⟩
        have b13 : Below w13b.heap.size w13b w13 := led_below d13
        have b13w := b13bw.trans (b13.mono b13bw.size)
        have b1013 := b1013b.trans (b13.mono b1013b.size)
        refine vl_valg rfl (os_not rfl) ?_
        refine vl_val (os_pick_f rfl rfl) ?_
        refine vl_val (os_move rfl) ?_
        refine vl_valg rfl (os_move rfl) ?_
        refine vl_valg rfl (os_len Try.underlying22 rfl) ?_
        refine vl_valg rfl (os_move rfl) ?_
        refine vl_valg rfl (os_neq rfl rfl) ?_
        refine vl_val (os_pick_f rfl rfl) ?_
        refine vl_nil ?_
        refine v_cond_no rfl (by omega) ?_
        refine v_skip ?_
        refine v_seq ?_
        refine v_region ?_
        refine vl_val (os_move rfl) ?_
        refine vl_val (os_move rfl) ?_
        refine vl_val (os_len Try.underlying22 rfl) ?_
        refine vl_val (os_muli rfl rfl (by omega)) ?_
        refine vl_call (kit_Pick bit (8 * S.length) w13 (by omega)) rfl ?_
        rintro v14 w13 ⟨rfl, rfl⟩
        have p1 : 0 ≤ pickV bit (8 * S.length) ∧ pickV bit (8 * S.length) < 8 * S.length := by unfold pickV; rw [if_neg (by omega)]; have := Int.emod_nonneg bit (show (8 : Int) * S.length ≠ 0 by omega); have := Int.emod_lt_of_pos bit (show 0 < (8 : Int) * S.length by omega); omega
        obtain ⟨k, hk⟩ : ∃ k : Nat, pickV bit (8 * S.length) = k := ⟨(pickV bit (8 * S.length)).toNat, by omega⟩
        rw [hk]
        obtain ⟨q, r, hr8, hq⟩ : ∃ q r, r < 8 ∧ k = 8 * q + r := ⟨k / 8, k % 8, by omega, by omega⟩
        have hql : q < S.length := by omega
        have o13 : OwnK w13 w9.heap.size 5 .u8 (.slice (some ⟨g, 0, none⟩) S.length c10) S := Own.keepAll o10 b1013
        have hzq := hSB.at1' q
        have hglo := (World.ownsRow.lt o10 g rfl).1
        have hcell : World.cell? (w13.drewN 1) ⟨g, 0 + q, none⟩ = some (.int .u8 (S.getD q 0)) := by rw [Nat.zero_add]; exact OwnK.cell (Own.led o13 ⟨1, rfl⟩ : OwnK (w13.drewN 1) _ _ _ _ _) hql
        refine vl_val (os_assign rfl) ?_
        refine vl_nil ?_
        refine v_seq ?_
        refine v_region_a mixed ?_
        refine va_pure 0 rfl (by kernel_rfl) (by kernel_rfl) (by kernel_rfl) (fun w => (os_move rfl)) ?_
        refine va_pure 1 rfl (by kernel_rfl) (by kernel_rfl) (by kernel_rfl) (fun w => (os_move rfl)) ?_
        refine va_pure 2 rfl (by kernel_rfl) (by kernel_rfl) (by kernel_rfl) (fun w => (os_quoi rfl rfl (by omega))) ?_
        refine va_pure 3 rfl (by kernel_rfl) (by kernel_rfl) (by kernel_rfl) (fun w => (os_move rfl)) ?_
        refine va_pure 4 rfl (by kernel_rfl) (by kernel_rfl) (by kernel_rfl) (fun w => (os_move rfl)) ?_
        refine va_pure 5 rfl (by kernel_rfl) (by kernel_rfl) (by kernel_rfl) (fun w => (os_quoi rfl rfl (by omega))) ?_
        refine va_pure 6 rfl (by kernel_rfl) (by kernel_rfl) (by kernel_rfl) (fun w => (os_ix Try.underlying22 Try.sizeOf5 rfl rfl (i := q) (by omega) (by omega))) ?_
        refine va_pure 8 rfl (by kernel_rfl) (by kernel_rfl) (by kernel_rfl) (fun w => (os_move rfl)) ?_
        refine va_pure 9 rfl (by kernel_rfl) (by kernel_rfl) (by kernel_rfl) (fun w => (os_remi rfl rfl (by omega))) ?_
        refine va_pure 10 rfl (by kernel_rfl) (by kernel_rfl) (by kernel_rfl) (fun w => (os_shl rfl rfl (by omega) (bit8 r hr8 _ (by omega)))) ?_
        refine va_one 7 (by kernel_rfl) ?_
        refine vn_val rfl (os_load Try.isAgg5 rfl (hcell)) ?_
        refine va_pure 11 rfl (by kernel_rfl) (by kernel_rfl) (by kernel_rfl) (fun w => (os_xor8 (BitVec.ofInt 8 (S.getD q 0)) (1#8 <<< r) rfl (u8_int hzq.1 hzq.2).symm rfl rfl)) ?_
        refine va_pure 12 rfl (by kernel_rfl) (by kernel_rfl) (by kernel_rfl) (fun w => (os_ix Try.underlying22 Try.sizeOf5 rfl rfl (i := q) (by omega) (by omega))) ?_
        refine va_one 13 (by kernel_rfl) ?_
        refine vn_unit rfl (ou_store Try.sizeOf5 rfl rfl rfl (hcell) ((Own.free (Own.led o13 ⟨1, rfl⟩) _))) ?_
        have o15 : OwnK ((w13.drewN 1).setCell ⟨g, 0 + q, none⟩ (.int .u8 (flipZ (S.getD q 0) r))) w9.heap.size 5 .u8 (.slice (some ⟨g, 0, none⟩) S.length c10) (S.set q (flipZ (S.getD q 0) r)) := by rw [Nat.zero_add]; exact OwnK.set (Own.led o13 ⟨1, rfl⟩ : OwnK (w13.drewN 1) _ _ _ _ _) q _
        have b15w := below_set (b13w.trans ((led_below (⟨1, rfl⟩ : LeD w13 (w13.drewN 1))).mono b13w.size)) (show w.heap.size ≤ g by have := b9w.size; omega) (0 + q) (.int .u8 (flipZ (S.getD q 0) r))
        have hbt := (hBS k).flip (q := q) (r := r) (by decide) hql hr8 (by omega)
        have e10 : openE (S.set q (flipZ (S.getD q 0) r)) = 10 := by rw [← hS] at hbt ⊢; exact hbt.told hAB (by decide) (by rw [List.length_set, hS]; omega) (by decide)
        have hE10 : hdE (S.set q (flipZ (S.getD q 0) r)) = 10 := by unfold hdE; rw [e10, if_pos (by decide)]
        refine va_done (by kernel_rfl) ?_
        refine v_seq ?_
        refine v_region ?_
        refine vl_val (os_move rfl) ?_
        refine vl_call (hd_Parse (some ⟨g, 0, none⟩) S.length c10 (S.set q (flipZ (S.getD q 0) r)) _ (OwnK.rd o15) (by simp) (by omega) (by omega) hbt.all) rfl ?_
        rintro v16 w16 ⟨A16, l16, c16, s16, rfl, hy, o16, b16⟩
        rw [hE10]
        have b16w := b15w.trans (b16.mono b15w.size)
        refine vl_val (os_move rfl) ?_
        refine vl_val (os_extract rfl rfl) ?_
        refine vl_val (os_extract rfl rfl) ?_
        refine vl_val (os_extract rfl rfl) ?_
        refine vl_val (os_allocB Try.zeroValue28 (zc := _) (cs := zH) rfl) ?_
        have hY0 := bk_new w16 zH 28
        refine vl_unit (ou_storeB (by kernel_rfl) rfl rfl hY0 rfl rfl) ?_
        refine vl_val (os_assign rfl) ?_
        refine vl_val (os_assign rfl) ?_
        refine vl_nil ?_
        refine v_seq ?_
        refine v_region ?_
        refine vl_val (os_move rfl) ?_
        refine vl_val (os_eql rfl rfl) ?_
        refine vl_val (os_assign rfl) ?_
        refine vl_nil ?_
        refine v_ret ?_
        exact post_ret rfl rfl (⟨rfl, below_setRow (b16w.alloc b16w.size _) b16w.size _⟩)
end Go.Proofs.Ytlfkhnchceoinaa

/- How a list of structs of two numbers, an argument, opens. -/
namespace Go.Proofs.Ytlfkhnchceoinaa
open Go.ChangeShapes Go.WideShapes Go.ChangeAt Go.RowKit
set_option linter.unusedVariables false
section
variable {H : Type} {enc : TypeId × Value → H} {w : World} {base : Nat} {spare : Nat → Bool} {held : Bool} {fuel : Nat} {cs : List Value} {x : DataW H × List MemPlace}
theorem open_pairRow (h : DataW.trod enc Try.prog w base spare held fuel 41 cs = some x) : ∃ p : Int × Int, rowC p = cs ∧ I64 p.1 ∧ I64 p.2 := by
  obtain ⟨y0, y1, n, rfl, hl, h0, h1⟩ := trod_struct2 Try.underlying41 h
  have hcl : Try.prog.cellsOf 41 = 2 := by kernel_rfl
  have c1 : Try.prog.cellsOf 3 = 1 := by kernel_rfl
  rw [hcl] at hl
  dsimp only at h0 h1
  rw [c1] at h0 h1
  obtain ⟨z0, e0, _, w0⟩ := DataW.trod_int Try.underlying3 h0
  obtain ⟨z1, e1, _, w1⟩ := DataW.trod_int Try.underlying3 h1
  match cs, hl with
  | [v0, v1], _ =>
    simp at e0 e1
    subst e0 e1
    exact ⟨(z0, z1), rfl, i64_of_wf w0, i64_of_wf w1⟩
theorem open_listRow (h : DataW.trod enc Try.prog w base spare held fuel 26 cs = some x) (hw : ∀ m ∈ x.1.weights Try.prog 26, m ≤ reachBytes) :
    ∃ (A : Option Addr) (len cap : Nat) (ps : List (Int × Int)), cs = [.slice A len cap] ∧ RdP w 2 A (ps.map rowC) ∧ len = ps.length ∧ len ≤ cap ∧ len * 16 ≤ 140737488351232 ∧ ∀ p ∈ ps, I64 p.1 ∧ I64 p.2 := by
  obtain ⟨A, len, cap, ps, rfl, h1, h2, h3, h4, h5⟩ := open_parts Try.underlying26 (by kernel_rfl) (by decide : 0 < 2) h hw
  have hb : Try.prog.bytesOf 41 = 16 := by kernel_rfl
  obtain ⟨ds, rfl, hd⟩ := parts_map rowC (fun d => I64 d.1 ∧ I64 d.2) ps (fun c hc => by
    obtain ⟨_, n, y, hy, hyw⟩ := h5 c hc
    exact open_pairRow hy)
  exact ⟨A, len, cap, ds, rfl, h4, by rw [← h1, List.length_map], h2, by rw [hb] at h3; simp only [reachBytes] at h3; exact h3, hd⟩
theorem open_pairCount (h : DataW.trod enc Try.prog w base spare held fuel 143 cs = some x) : ∃ p : Int × Int, rowC p = cs ∧ I64 p.1 ∧ I64 p.2 := by
  obtain ⟨y0, y1, n, rfl, hl, h0, h1⟩ := trod_struct2 Try.underlying143 h
  have hcl : Try.prog.cellsOf 143 = 2 := by kernel_rfl
  have c1 : Try.prog.cellsOf 3 = 1 := by kernel_rfl
  rw [hcl] at hl
  dsimp only at h0 h1
  rw [c1] at h0 h1
  obtain ⟨z0, e0, _, w0⟩ := DataW.trod_int Try.underlying3 h0
  obtain ⟨z1, e1, _, w1⟩ := DataW.trod_int Try.underlying3 h1
  match cs, hl with
  | [v0, v1], _ =>
    simp at e0 e1
    subst e0 e1
    exact ⟨(z0, z1), rfl, i64_of_wf w0, i64_of_wf w1⟩
theorem open_listCount (h : DataW.trod enc Try.prog w base spare held fuel 141 cs = some x) (hw : ∀ m ∈ x.1.weights Try.prog 141, m ≤ reachBytes) :
    ∃ (A : Option Addr) (len cap : Nat) (ps : List (Int × Int)), cs = [.slice A len cap] ∧ RdP w 2 A (ps.map rowC) ∧ len = ps.length ∧ len ≤ cap ∧ len * 16 ≤ 140737488351232 ∧ ∀ p ∈ ps, I64 p.1 ∧ I64 p.2 := by
  obtain ⟨A, len, cap, ps, rfl, h1, h2, h3, h4, h5⟩ := open_parts Try.underlying141 (by kernel_rfl) (by decide : 0 < 2) h hw
  have hb : Try.prog.bytesOf 143 = 16 := by kernel_rfl
  obtain ⟨ds, rfl, hd⟩ := parts_map rowC (fun d => I64 d.1 ∧ I64 d.2) ps (fun c hc => by
    obtain ⟨_, n, y, hy, hyw⟩ := h5 c hc
    exact open_pairCount hy)
  exact ⟨A, len, cap, ds, rfl, h4, by rw [← h1, List.length_map], h2, by rw [hb] at h3; simp only [reachBytes] at h3; exact h3, hd⟩
end
end Go.Proofs.Ytlfkhnchceoinaa

/- How a header, an argument, opens. -/
namespace Go.Proofs.Ytlfkhnchceoinaa
open Go.ChangeShapes Go.WideShapes Go.ChangeAt Go.RowKit
set_option linter.unusedVariables false
section
variable {H : Type} {enc : TypeId × Value → H} {w : World} {base : Nat} {spare : Nat → Bool} {held : Bool} {fuel : Nat} {cs : List Value} {x : DataW H × List MemPlace}
theorem trod_struct6 {P : Program} {t : TypeId} {f0 f1 f2 f3 f4 f5 : Field} (ht : P.underlying t = some (.struct #[f0, f1, f2, f3, f4, f5])) (h : DataW.trod enc P w base spare held fuel t cs = some x) :
    ∃ y0 y1 y2 y3 y4 y5 n, x = (.agg [y0.1, y1.1, y2.1, y3.1, y4.1, y5.1], y0.2 ++ (y1.2 ++ (y2.2 ++ (y3.2 ++ (y4.2 ++ y5.2))))) ∧ cs.length = P.cellsOf t ∧ DataW.trod enc P w base spare held n f0.type ((cs.drop f0.offset).take (P.cellsOf f0.type)) = some y0 ∧
      DataW.trod enc P w base spare held n f1.type ((cs.drop f1.offset).take (P.cellsOf f1.type)) = some y1 ∧ DataW.trod enc P w base spare held n f2.type ((cs.drop f2.offset).take (P.cellsOf f2.type)) = some y2 ∧
      DataW.trod enc P w base spare held n f3.type ((cs.drop f3.offset).take (P.cellsOf f3.type)) = some y3 ∧ DataW.trod enc P w base spare held n f4.type ((cs.drop f4.offset).take (P.cellsOf f4.type)) = some y4 ∧ DataW.trod enc P w base spare held n f5.type ((cs.drop f5.offset).take (P.cellsOf f5.type)) = some y5 := by
  obtain ⟨xs, n, _, rfl, hl, hlen, hf⟩ := DataW.trod_struct ht h
  match xs, hlen with
  | [y0, y1, y2, y3, y4, y5], _ => exact ⟨y0, y1, y2, y3, y4, y5, n, by simp, hl, by simpa using hf 0 f0 rfl, by simpa using hf 1 f1 rfl, by simpa using hf 2 f2 rfl, by simpa using hf 3 f3 rfl, by simpa using hf 4 f4 rfl, by simpa using hf 5 f5 rfl⟩
theorem open_head (h : DataW.trod enc Try.prog w base spare held fuel 28 cs = some x) (hw : ∀ m ∈ x.1.weights Try.prog 28, m ≤ reachBytes) : ∃ d : HeadV, d.cells = cs ∧ HeadOk w d := by
  obtain ⟨y0, y1, y2, y3, y4, y5, n, rfl, hl, h0, h1, h2, h3, h4, h5⟩ := trod_struct6 Try.underlying28 h
  have hcl : Try.prog.cellsOf 28 = 6 := by kernel_rfl
  have c1 : Try.prog.cellsOf 3 = 1 := by kernel_rfl
  have c2 : Try.prog.cellsOf 26 = 1 := by kernel_rfl
  rw [hcl] at hl
  dsimp only at h0 h1 h2 h3 h4 h5
  rw [c1] at h0 h1 h2 h3 h4
  rw [c2] at h5
  obtain ⟨z0, e0, _, w0⟩ := DataW.trod_int Try.underlying3 h0
  obtain ⟨z1, e1, _, w1⟩ := DataW.trod_int Try.underlying3 h1
  obtain ⟨z2, e2, _, w2⟩ := DataW.trod_int Try.underlying3 h2
  obtain ⟨z3, e3, _, w3⟩ := DataW.trod_int Try.underlying3 h3
  obtain ⟨z4, e4, _, w4⟩ := DataW.trod_int Try.underlying3 h4
  have hw5 : ∀ m ∈ y5.1.weights Try.prog 26, m ≤ reachBytes := fun m hm => hw m (by
    simp only [DataW.weights, Try.underlying28, DataW.weightsEach, List.map_cons, List.map_nil, List.mem_append]
    exact .inr (.inr (.inr (.inr (.inr (.inl hm))))))
  obtain ⟨A, l, c, ps, e5, hr, hl2, hlc, hmx, hI⟩ := open_listRow h5 hw5
  match cs, hl with
  | [v0, v1, v2, v3, v4, v5], _ =>
    simp at e0 e1 e2 e3 e4 e5
    subst e0 e1 e2 e3 e4 e5
    exact ⟨⟨⟨z0, z1, z2, z3, z4, ps⟩, A, l, c⟩, rfl, hr, hl2, by simp only []; omega, ⟨i64_of_wf w0, i64_of_wf w1, i64_of_wf w2, i64_of_wf w3, i64_of_wf w4⟩, hI, hlc⟩
end
end Go.Proofs.Ytlfkhnchceoinaa
