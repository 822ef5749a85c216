/- Texts joined: PlW PlT PlB PlQ. -/
import Derived.Test.YtpojijnjdlnokaaM12
/- Layer 13: the walk of the solver's layer. -/
namespace Go.Proofs.Ytpojijnjdlnokaa
open Go.RowKit
set_option linter.unusedVariables false

/-- what stands where in a layer's walk -/
def FQ (q : TaskP) (n m a : Nat) (x : Nat) : Nat → Int := valP (lyQ q a) (scP n (lysF q m (a + 1))) x
theorem Tb.row_at {w : World} {B N : Nat} {tt e : TypeId} {v : Value} {us : List Value} {cc : Nat → List Value} (h : Tb w B tt e v us N cc) {k : Nat} (hk : k < N) (h0 : 0 < (cc k).length) : ∃ g c, us[k]? = some (.slice (some ⟨g, 0, none⟩) (cc k).length c) ∧ v.ownBlock ≠ some g := by
  have hk' : k < us.length := by have := h.len; omega
  obtain ⟨g, c, e1, -⟩ := Own.row (h.each k us[k] hk (List.getElem?_eq_getElem hk')) h0
  refine ⟨g, c, by rw [List.getElem?_eq_getElem hk', e1], h.ne k us[k] g hk (List.getElem?_eq_getElem hk') (by rw [e1]; rfl)⟩
theorem Own.rdc' {w : World} {B : Nat} {t : TypeId} {A : Option Addr} {n c : Nat} {cs : List Value} (h : Own w B t (.slice A n c) cs) : RdC w A cs := by
  obtain ⟨A', c', e, _, _, hr, _⟩ := Own.form h
  cases e; exact hr
structure LayR (w w' : World) (d : TaskV) (q : TaskP) (n r g tg a m B : Nat) (ts : List Value) (S2 : Nat) (us2 : List Value) (c2 : Nat → List Value) (T2 : Nat) (ub : List Value) (cb : Nat → List Value) : Prop where
  bk : Bk w' g (solC d r (.slice (some ⟨S2, 0, none⟩) (n + 2) (n + 2)) (.slice (some ⟨tg, 0, none⟩) d.ll d.ll)) 142
  tS : Tb w' w.heap.size 40 3 (.slice (some ⟨S2, 0, none⟩) (n + 2) (n + 2)) us2 (n + 2) c2
  cS : ∀ k, 1 ≤ k → k ≤ n → c2 k = rowV (fun x => .int .i64 (scP n (lysF q (m + 1) a) k x)) r
  own : Own w' B 144 (.slice (some ⟨tg, 0, none⟩) d.ll d.ll) (ts.set a (.slice (some ⟨T2, 0, none⟩) (n + 2) (n + 2)))
  tT : Tb w' w.heap.size 146 4 (.slice (some ⟨T2, 0, none⟩) (n + 2) (n + 2)) ub (n + 2) cb
  cT : ∀ k, 1 ≤ k → k ≤ n → cb k = rowV (fun x => .bool (takP (FQ q n m a x) n k)) r
  kb : Kb [g, tg] w w'

set_option maxHeartbeats 8000000 in
theorem pn_layer (d : TaskV) (q : TaskP) (n r g sg tg a m B : Nat) (us ts : List Value) (cc : Nat → List Value) (w : World) (hd : TaskOk w d q) (hR : TaskR q n) (hL : q.lens.length = a + 1 + m) (hr : r ≤ 2000)
    (hb : Bk w g (solC d r (.slice (some ⟨sg, 0, none⟩) (n + 2) (n + 2)) (.slice (some ⟨tg, 0, none⟩) d.ll d.ll)) 142) (hT : Tb w B 40 3 (.slice (some ⟨sg, 0, none⟩) (n + 2) (n + 2)) us (n + 2) cc)
    (hcc : ∀ k, 1 ≤ k → k ≤ n → cc k = rowV (fun x => .int .i64 (scP n (lysF q m (a + 1)) k x)) r) (hto : Own w B 144 (.slice (some ⟨tg, 0, none⟩) d.ll d.ll) ts) (hne : tg ≠ g) (hBg : B ≤ g) :
    Gives Try.prog 62 #[.pointer (some ⟨g, 0, none⟩), .int .i64 a] w fun _ w' => ∃ S2 us2 c2 T2 ub cb, LayR w w' d q n r g tg a m B ts S2 us2 c2 T2 ub cb := by
  have hdn : d.n = (n : Int) := hd.n.trans hR.n_
  have hn1 := hR.n1
  have hn2 := hR.n2
  have hl8 := hR.l2
  have hll := hd.ll
  have cn : nthV (solC d r (.slice (some ⟨sg, 0, none⟩) (n + 2) (n + 2)) (.slice (some ⟨tg, 0, none⟩) d.ll d.ll)) 0 = some (.int .i64 (n : Int)) := by show some (Value.int .i64 d.n) = _; rw [hdn]
  have hwl := hd.wl
  have hvl := hd.vl
  have hlw := hR.lw
  have hlv := hR.lv
  have hlen := hR.len a (by omega)
  have hlt := hb.lt
  refine gives_enter Try.call62 Try.func62 rfl rfl rfl (by kernel_rfl) ?_
  refine v_seq ?_
  refine v_region ?_
  refine vl_val (os_move rfl) ?_
  refine vl_val (os_nilCheck rfl) ?_
  refine vl_val (os_fa (o := 0) (k := 5) (by kernel_rfl) rfl) ?_
  refine vl_val (os_fa (o := 0) (k := 2) (by kernel_rfl) rfl) ?_
  refine vl_val (os_fa (o := 0) (k := 0) (by kernel_rfl) rfl) ?_
  refine vl_val (os_load Try.isAgg3 rfl (hb.cell (i := 0) cn)) ?_
  refine vl_val (os_assign rfl) ?_
  refine vl_nil ?_
  refine v_mid2 [(0, _), (1, _), (4, _)] (fun (S2 : Nat) (T2 : Nat) => [(5, .slice (some ⟨S2, 0, none⟩) (n + 2) (n + 2)), (6, .slice (some ⟨T2, 0, none⟩) (n + 2) (n + 2))]) (fun S2 T2 w' => ∃ us2 ub, Two w w' n S2 T2 us2 ub (fun _ => List.replicate (r + 1) (.int .i64 (-1))) (fun _ => List.replicate (r + 1) (.bool false))) ⟨rfl, rfl, rfl, trivial⟩ ?_ ?_
  · refine v_region_h (LeG w) mixed (leg_start _) ?_
    refine vh_pure 0 rfl (by kernel_rfl) (by kernel_rfl) (by kernel_rfl) (fun w hw => (os_move rfl)) ?_
    refine vh_pure 1 rfl (by kernel_rfl) (by kernel_rfl) (by kernel_rfl) (fun w hw => (os_addi rfl rfl (by omega))) ?_
    refine vh_pure 2 rfl (by kernel_rfl) (by kernel_rfl) (by kernel_rfl) (fun w hw => (os_move rfl)) ?_
    refine vh_pure 3 rfl (by kernel_rfl) (by kernel_rfl) (by kernel_rfl) (fun w hw => (os_nilCheck rfl)) ?_
    refine vh_pure 4 rfl (by kernel_rfl) (by kernel_rfl) (by kernel_rfl) (fun w hw => (os_fa (o := 6) (k := 0) (by kernel_rfl) rfl)) ?_
    refine vh_pure 5 rfl (by kernel_rfl) (by kernel_rfl) (by kernel_rfl) (fun w hw => (os_load Try.isAgg3 rfl (leg_cell hw (hb.cell (i := 6) rfl)))) ?_
    refine vh_pure 6 rfl (by kernel_rfl) (by kernel_rfl) (by kernel_rfl) (fun w hw => (os_addi rfl rfl (by omega))) ?_
    refine vh_pure 8 rfl (by kernel_rfl) (by kernel_rfl) (by kernel_rfl) (fun w hw => (os_move rfl)) ?_
    refine vh_pure 9 rfl (by kernel_rfl) (by kernel_rfl) (by kernel_rfl) (fun w hw => (os_addi rfl rfl (by omega))) ?_
    refine vh_pure 10 rfl (by kernel_rfl) (by kernel_rfl) (by kernel_rfl) (fun w hw => (os_move rfl)) ?_
    refine vh_pure 11 rfl (by kernel_rfl) (by kernel_rfl) (by kernel_rfl) (fun w hw => (os_nilCheck rfl)) ?_
    refine vh_pure 12 rfl (by kernel_rfl) (by kernel_rfl) (by kernel_rfl) (fun w hw => (os_fa (o := 6) (k := 0) (by kernel_rfl) rfl)) ?_
    refine vh_pure 13 rfl (by kernel_rfl) (by kernel_rfl) (by kernel_rfl) (fun w hw => (os_load Try.isAgg3 rfl (leg_cell hw (hb.cell (i := 6) rfl)))) ?_
    refine vh_pure 14 rfl (by kernel_rfl) (by kernel_rfl) (by kernel_rfl) (fun w hw => (os_addi rfl rfl (by omega))) ?_
    refine vh_one 7 (by kernel_rfl) ?_
    refine vhn_call rfl (pl_madesint (n + 2) (r + 1) (.int .i64 (-1)) _ (by omega) (by omega) rfl (by omega) (by omega)) rfl (fun hw v w' h => by obtain ⟨_, _, _, _, _, hb⟩ := h; exact hw.trans (hb.mono hw.size)) ?_
    rintro v5 w5 ⟨S2, us2, rfl, -, hT2, b5⟩
    refine vh_one 15 (by kernel_rfl) ?_
    refine vhn_call rfl (pl_madesbool (n + 2) (r + 1) (.bool false) _ (by omega) (by omega) rfl (by omega) (by omega)) rfl (fun hw v w' h => by obtain ⟨_, _, _, _, _, hb⟩ := h; exact hw.trans (hb.mono hw.size)) ?_
    rintro v6 w6 ⟨T2, ub, rfl, -, hU2, b6⟩
    refine vh_pure 16 rfl (by kernel_rfl) (by kernel_rfl) (by kernel_rfl) (fun w hw => (os_assign rfl)) ?_
    refine vh_pure 17 rfl (by kernel_rfl) (by kernel_rfl) (by kernel_rfl) (fun w hw => (os_assign rfl)) ?_
    refine vh_done (by kernel_rfl) (fun hS => ?_)
    exact ⟨⟨S2, T2⟩, ⟨rfl, rfl, rfl, trivial⟩, ⟨rfl, rfl, trivial⟩, ⟨us2, ub, by first | exact two_fin (Below.refl _ w).drew hT2 b5 hU2 b6 | exact two_fin2 (Below.refl _ w).drew hT2 b5 hU2 b6⟩⟩
  · rintro S2 T2 w1 ⟨us2, ub, hW⟩
    refine v_seq ?_
    refine v_seq ?_
    refine v_region ?_
    refine vl_val (os_move rfl) ?_
    refine vl_val (os_assign rfl) ?_
    refine vl_nil ?_
    refine v_block ?_
    refine v_loop [(0, _), (1, _), (5, _), (6, _)] (fun (k : Nat) => [(7, .int .i64 k)]) (fun k w' => k ≤ n ∧ ∃ cc cb, Two w w' n S2 T2 us2 ub cc cb ∧ (∀ j, k < j → j ≤ n + 1 → cc j = rowV (fun x => .int .i64 (mxP (FQ q n m a x) n (n + 1 - j))) r) ∧ (∀ j, j ≤ k → (cc j).length = r + 1) ∧ (∀ j, k < j → j ≤ n → cb j = rowV (fun x => .bool (takP (FQ q n m a x) n j)) r) ∧ (∀ j, j ≤ k → cb j = rowV (fun _ => .bool false) r)) (fun k => k) (n) ⟨rfl, rfl, rfl, rfl, trivial⟩ ⟨rfl, trivial⟩ (⟨by omega, _, _, hW, fun j h1 h2 => by obtain rfl : j = n + 1 := (by omega); rw [rowV_rep, Nat.sub_self]; rfl, fun j _ => by simp, fun j h1 h2 => absurd h1 (by omega), fun j _ => rowV_rep⟩) ?_
    rintro k w2 ⟨hk, cc2, cb2, hW2, hA, hB, hC, hD⟩
    refine v_seq ?_
    refine v_seq ?_
    refine v_region ?_
    refine vl_val (os_move rfl) ?_
    refine vl_val (os_geq rfl rfl) ?_
    refine vl_nil ?_
    refine v_cond_d rfl (fun h => ?_) (fun h => ?_)
    · have hb2 := hb.keep hW2.bel
      have hd2 := hd.keep hW2.bel
      obtain ⟨bL, oL, eL, cL⟩ := hd2.L.at_ (i := a) (by omega)
      obtain ⟨bW, oW, eW, cW⟩ := hd2.W.at_ (i := a) (by omega)
      obtain ⟨bV, oV, eV, cV⟩ := hd2.V.at_ (i := k) (by omega)
      have hok : widthOk (q.lens.getD a 0) k = true := by simp only [widthOk, decide_eq_true_eq]; omega
      have hwb := width_bd hok
      obtain ⟨wd, hwd⟩ : ∃ wd : Nat, wd = (lyQ q a).wd k := ⟨_, rfl⟩
      have hwd' : (wd : Int) = widthW (q.lens.getD a 0) k := by rw [hwd]; show ((widthW (q.lens.getD a 0) k).toNat : Int) = _; omega
      have hwv : widthV (q.lens.getD a 0) k = (wd : Int) := by unfold widthV; rw [if_pos hok]; exact hwd'.symm
      have ho := lyQ_o hR (i := a) (k := k) (by omega) hk
      have hoe : (lyQ q a).o k = q.worths.getD a 0 * q.ws.getD k 0 := rfl
      refine v_skip ?_
      refine v_seq ?_
      refine v_block ?_
      refine v_seq ?_
      refine v_region ?_
      refine vl_val (os_move rfl) ?_
      refine vl_val (os_nilCheck rfl) ?_
      refine vl_val (os_fa (o := 0) (k := 5) (by kernel_rfl) rfl) ?_
      refine vl_val (os_fa (o := 3) (k := 0) (by kernel_rfl) rfl) ?_
      refine vl_val (os_load Try.isAgg40 rfl ((hb2.cell (i := 3) (v := .slice (some ⟨bL, oL, none⟩) d.ll d.lc) (by rw [← eL]; rfl)))) ?_
      refine vl_val (os_move rfl) ?_
      refine vl_val (os_ix Try.underlying40 Try.sizeOf3 rfl rfl (i := a) (by omega) (by omega)) ?_
      refine vl_val (os_load Try.isAgg3 rfl (cL)) ?_
      refine vl_val (os_move rfl) ?_
      refine vl_call (strip_Width (q.lens.getD a 0) k w2 ⟨by omega, by omega⟩ ⟨by omega, by omega⟩) rfl ?_
      rintro v3 w2 ⟨rfl, rfl⟩
      rw [hwv]
      refine vl_val (os_move rfl) ?_
      refine vl_val (os_extract rfl rfl) ?_
      refine vl_val (os_extract rfl rfl) ?_
      refine vl_val (os_assign rfl) ?_
      refine vl_val (os_assign rfl) ?_
      refine vl_nil ?_
      refine v_seq ?_
      refine v_region_t LeD _ mixed (by kernel_rfl) lee_d (led_start _) ?_
      refine vt_val (fun w hw => os_move rfl) ?_
      refine vt_val (fun w hw => os_nilCheck rfl) ?_
      refine vt_val (fun w hw => os_fa (o := 0) (k := 5) (by kernel_rfl) rfl) ?_
      refine vt_val (fun w hw => os_fa (o := 4) (k := 0) (by kernel_rfl) rfl) ?_
      refine vt_val (fun w hw => os_load Try.isAgg40 rfl (led_cell hw ((hb2.cell (i := 4) (v := .slice (some ⟨bW, oW, none⟩) d.wl d.wc) (by rw [← eW]; rfl))))) ?_
      refine vt_val (fun w hw => os_move rfl) ?_
      refine vt_val (fun w hw => os_ix Try.underlying40 Try.sizeOf3 rfl rfl (i := a) (by omega) (by omega)) ?_
      refine vt_val (fun w hw => os_load Try.isAgg3 rfl (led_cell hw (cW))) ?_
      refine vt_val (fun w hw => os_move rfl) ?_
      refine vt_val (fun w hw => os_nilCheck rfl) ?_
      refine vt_val (fun w hw => os_fa (o := 0) (k := 5) (by kernel_rfl) rfl) ?_
      refine vt_val (fun w hw => os_fa (o := 5) (k := 0) (by kernel_rfl) rfl) ?_
      refine vt_val (fun w hw => os_load Try.isAgg40 rfl (led_cell hw ((hb2.cell (i := 5) (v := .slice (some ⟨bV, oV, none⟩) d.vl d.vc) (by rw [← eV]; rfl))))) ?_
      refine vt_val (fun w hw => os_move rfl) ?_
      refine vt_val (fun w hw => os_ix Try.underlying40 Try.sizeOf3 rfl rfl (i := k) (by omega) (by omega)) ?_
      refine vt_val (fun w hw => os_load Try.isAgg3 rfl (led_cell hw (cV))) ?_
      refine vt_val (fun w hw => os_mul rfl rfl ((show IntKind.i64.wrap (q.worths.getD a 0 * q.ws.getD k 0) = (lyQ q a).o k by rw [← hoe]; exact i64_fit ⟨by omega, by omega⟩))) ?_
      refine vt_val (fun w hw => os_assign rfl) ?_
      refine vt_nil (fun w hw => ?_)
      obtain ⟨q1, rfl⟩ := hw
      obtain ⟨ow, how⟩ : ∃ ow, ow = (lyQ q a).o k := ⟨_, rfl⟩
      rw [← how] at ho ⊢
      have hW3 := hW2.keep (led_below (⟨q1, rfl⟩ : LeD w2 _))
      have hA1 := hA (k + 1) (by omega) (by omega)
      have hl1 : (cc2 k).length = r + 1 := hB k (Nat.le_refl _)
      have hl2 : (cc2 (k + 1)).length = r + 1 := by rw [hA1, rowV_len]
      obtain ⟨g1, c1, hu1, gn1⟩ := hW3.tS.row_at (k := k) (by omega) (by omega)
      obtain ⟨g2, c2, hu2, gn2⟩ := hW3.tS.row_at (k := k + 1) (by omega) (by omega)
      rw [hl1] at hu1
      rw [hl2] at hu2
      have hS20 : RdC (w2.drewN q1) (some ⟨S2, 0, none⟩) us2 := hW3.tS.own.rdc'
      have gS1 : S2 ≠ g1 := fun e => gn1 (by rw [← e]; rfl)
      have hR2 := (hW3.tS.each (k + 1) _ (by omega) hu2)
      generalize w2.drewN q1 = w3 at *
      refine v_mid [(0, _), (1, _), (5, _), (6, _), (7, _), (8, _), (10, _)] (fun (u : Unit) => []) (fun u w' => ∃ cc3, Two w w' n S2 T2 us2 ub cc3 cb2 ∧ cc3 k = cc2 (k + 1) ∧ ∀ j, j ≠ k → cc3 j = cc2 j) ⟨rfl, rfl, rfl, rfl, rfl, rfl, rfl, trivial⟩ ?_ ?_
      · refine v_region_h (fun w' => RdC w' (some ⟨S2, 0, none⟩) us2) mixed (hS20) ?_
        refine vh_pure 0 rfl (by kernel_rfl) (by kernel_rfl) (by kernel_rfl) (fun w hw => (os_move rfl)) ?_
        refine vh_pure 1 rfl (by kernel_rfl) (by kernel_rfl) (by kernel_rfl) (fun w hw => (os_move rfl)) ?_
        refine vh_pure 2 rfl (by kernel_rfl) (by kernel_rfl) (by kernel_rfl) (fun w hw => (os_ix Try.underlying138 Try.sizeOf40 rfl rfl (i := k) (by omega) (by omega))) ?_
        refine vh_pure 3 rfl (by kernel_rfl) (by kernel_rfl) (by kernel_rfl) (fun w hw => (os_load Try.isAgg40 rfl (hw.get hu1))) ?_
        refine vh_pure 4 rfl (by kernel_rfl) (by kernel_rfl) (by kernel_rfl) (fun w hw => (os_move rfl)) ?_
        refine vh_pure 5 rfl (by kernel_rfl) (by kernel_rfl) (by kernel_rfl) (fun w hw => (os_move rfl)) ?_
        refine vh_pure 6 rfl (by kernel_rfl) (by kernel_rfl) (by kernel_rfl) (fun w hw => (os_addi rfl rfl (by omega))) ?_
        refine vh_pure 7 rfl (by kernel_rfl) (by kernel_rfl) (by kernel_rfl) (fun w hw => (os_ix Try.underlying138 Try.sizeOf40 rfl rfl (i := k + 1) (by omega) (by omega))) ?_
        refine vh_pure 8 rfl (by kernel_rfl) (by kernel_rfl) (by kernel_rfl) (fun w hw => (os_load Try.isAgg40 rfl (hw.get hu2))) ?_
        refine vh_one 9 (by kernel_rfl) ?_
        refine vhn_some rfl (ot_copy (q := r + 1) Try.underlying40 (by kernel_rfl) rfl rfl (Own.led (hW3.tS.each k _ (by omega) hu1) ⟨1, rfl⟩) (hR2.rdc'.led ⟨1, rfl⟩) (by omega) (by omega) (by intro u hu; rw [hA1] at hu; obtain ⟨x, _, rfl⟩ := List.mem_map.1 hu; rfl)) (fun hw v w' h => RdC.kb hw (Kb.grown (S := [g1]) h.2.2 (fun b e => by injection e with e; subst e; simp)) (fun b o e hm => by cases e; exact gS1 (by simpa using hm))) ?_
        rintro v5 w5 ⟨rfl, o5, g5⟩
        refine vh_done (by kernel_rfl) (fun hS => ?_)
        exact ⟨(), ⟨rfl, rfl, rfl, rfl, rfl, rfl, rfl, trivial⟩, trivial, ⟨_, (hW3.keep (led_below (⟨1, rfl⟩ : LeD w3 _))).setS (by omega) hu1 (Kb.grown (S := [g1]) g5 (fun b e => by injection e with e; subst e; simp)) (fun b hb => by simpa using hb) o5, by rw [if_pos rfl, List.drop_eq_nil_of_le (by omega), List.append_nil], fun j hj => if_neg hj⟩⟩
      · rintro u w4 ⟨cc3, hW4, e1, e2⟩
        have hF : ∀ y, -1 ≤ FQ q n m a y k := fun y => valP_bd (by rw [← how]; exact ho.1) (fun _ _ => scP_ge)
        have hneg : ∀ y, y < wd → FQ q n m a y k = -1 := fun y hy => by unfold FQ valP; rw [if_neg (by omega)]
        have hstep : ∀ y, mxP (FQ q n m a y) n (n + 1 - k) = (if FQ q n m a y k ≠ -1 ∧ mxP (FQ q n m a y) n (n - k) ≤ FQ q n m a y k then FQ q n m a y k else mxP (FQ q n m a y) n (n - k)) := fun y => mxP_step (by omega) hk (hF y)
        have hno : ∀ y, FQ q n m a y k = -1 → mxP (FQ q n m a y) n (n + 1 - k) = mxP (FQ q n m a y) n (n - k) ∧ takP (FQ q n m a y) n k = false := fun y hy => ⟨by rw [hstep, if_neg (fun h => h.1 hy)], by simp [takP, hy]⟩
        refine v_seq ?_
        refine v_region ?_
        refine vl_val (os_move rfl) ?_
        refine vl_val (os_assign rfl) ?_
        refine vl_nil ?_
        refine v_block ?_
        refine v_loop [(0, _), (1, _), (5, _), (6, _), (7, _), (8, _), (10, _)] (fun (x : Nat) => [(11, .int .i64 x)]) (fun x w' => wd ≤ x ∧ ∃ c4 b4, Two w w' n S2 T2 us2 ub c4 b4 ∧ (∀ j, j ≠ k → c4 j = cc2 j) ∧ (∀ j, j ≠ k → b4 j = cb2 j) ∧ c4 k = rowV (mixV (fun y => .int .i64 (mxP (FQ q n m a y) n (n + 1 - k))) (fun y => .int .i64 (mxP (FQ q n m a y) n (n - k))) x) r ∧ b4 k = rowV (mixV (fun y => .bool (takP (FQ q n m a y) n k)) (fun _ => .bool false) x) r) (fun x => r + 1 - x) (wd) ⟨rfl, rfl, rfl, rfl, rfl, rfl, rfl, trivial⟩ ⟨rfl, trivial⟩ (⟨Nat.le_refl _, cc3, cb2, hW4, e2, fun _ _ => rfl, by rw [e1, hA1, mixV_none (fun y hy => by rw [(hno y (hneg y hy)).1]), show n + 1 - (k + 1) = n - k by omega], by rw [hD k (Nat.le_refl _), mixV_none (fun y hy => by rw [(hno y (hneg y hy)).2])]⟩) ?_
        rintro x w5 ⟨hx, c4, b4, hW5, e3, e4, e5, e6⟩
        have hb5 := hb.keep hW5.bel
        refine v_seq ?_
        refine v_seq ?_
        refine v_region ?_
        refine vl_val (os_move rfl) ?_
        refine vl_val (os_move rfl) ?_
        refine vl_val (os_nilCheck rfl) ?_
        refine vl_val (os_fa (o := 6) (k := 0) (by kernel_rfl) rfl) ?_
        refine vl_val (os_load Try.isAgg3 rfl (hb5.cell (i := 6) rfl)) ?_
        refine vl_val (os_leq rfl rfl) ?_
        refine vl_nil ?_
        refine v_cond_d rfl (fun h2 => ?_) (fun h2 => ?_)
        · have hT5 := hT.keep hW5.bel
          have hck := hcc k (by omega) hk
          obtain ⟨g0, c0, hu0, -⟩ := hT5.row_at (k := k) (by omega) (by rw [hck, rowV_len]; omega)
          rw [hck, rowV_len] at hu0
          have crest := Own.get (hT5.each k _ (by omega) hu0) (show (cc k)[x - wd]? = _ by rw [hck]; exact rowV_at (by omega))
          obtain ⟨rest, hrest⟩ : ∃ rest, rest = scP n (lysF q m (a + 1)) k (x - wd) := ⟨_, rfl⟩
          rw [← hrest] at crest
          have hr1 : -1 ≤ rest := by rw [hrest]; exact scP_ge
          have hr2 : rest ≤ m * 68719476736 := by rw [hrest]; exact scP_bd hR (by omega) (by omega)
          have hFx : FQ q n m a x k = if rest ≠ -1 then ow + rest else -1 := by unfold FQ valP; rw [how, hrest, hwd]; by_cases e : scP n (lysF q m (a + 1)) k (x - (lyQ q a).wd k) ≠ -1; (rw [if_pos e, if_pos ⟨by omega, e⟩]); (rw [if_neg e, if_neg (fun h => e h.2)])
          refine v_skip ?_
          refine v_seq ?_
          refine v_block ?_
          refine v_seq ?_
          refine v_region ?_
          refine vl_val (os_move rfl) ?_
          refine vl_val (os_nilCheck rfl) ?_
          refine vl_val (os_fa (o := 7) (k := 0) (by kernel_rfl) rfl) ?_
          refine vl_val (os_load Try.isAgg138 rfl (hb5.cell (i := 7) rfl)) ?_
          refine vl_val (os_move rfl) ?_
          refine vl_val (os_ix Try.underlying138 Try.sizeOf40 rfl rfl (i := k) (by omega) (by omega)) ?_
          refine vl_val (os_load Try.isAgg40 rfl (Own.get hT5.own hu0)) ?_
          refine vl_val (os_move rfl) ?_
          refine vl_val (os_move rfl) ?_
          refine vl_val (os_subi rfl rfl (by omega)) ?_
          refine vl_val (os_ix Try.underlying40 Try.sizeOf3 rfl rfl (i := x - wd) (by omega) (by omega)) ?_
          refine vl_val (os_load Try.isAgg3 rfl (crest)) ?_
          have hl5 : (c4 k).length = r + 1 := by rw [e5, rowV_len]
          have hl6 : (b4 k).length = r + 1 := by rw [e6, rowV_len]
          obtain ⟨g5, c5, hu5, gn5⟩ := hW5.tS.row_at (k := k) (by omega) (by omega)
          obtain ⟨g6, c6, hu6, gn6⟩ := hW5.tT.row_at (k := k) (by omega) (by omega)
          rw [hl5] at hu5
          rw [hl6] at hu6
          have csc := Own.get (hW5.tS.each k _ (by omega) hu5) (show (c4 k)[x]? = some (.int .i64 (mxP (FQ q n m a x) n (n - k))) by rw [e5, rowV_at (by omega), mixV, if_neg (by omega)])
          refine vl_val (os_assign rfl) ?_
          refine vl_nil ?_
          rcases (by by_cases h1 : rest = -1; exact .inl h1; by_cases h2 : mxP (FQ q n m a x) n (n - k) ≤ ow + rest; exact .inr (.inl ⟨h1, h2⟩); exact .inr (.inr ⟨h1, h2⟩) : rest = -1 ∨ (rest ≠ -1 ∧ mxP (FQ q n m a x) n (n - k) ≤ ow + rest) ∨ (rest ≠ -1 ∧ ¬ mxP (FQ q n m a x) n (n - k) ≤ ow + rest)) with h3 | ⟨h3, h4⟩ | ⟨h3, h4⟩
          · refine v_seq ?_
            refine v_region ?_
            refine vl_val (os_move rfl) ?_
            refine vl_val (os_f (os_neq rfl rfl) (by omega)) ?_
            rw [if_neg (by omega)] at hFx
            refine vl_val (os_move rfl) ?_
            refine vl_skip rfl rfl ?_
            refine vl_skip rfl rfl ?_
            refine vl_skip rfl rfl ?_
            refine vl_skip rfl rfl ?_
            refine vl_skip rfl rfl ?_
            refine vl_skip rfl rfl ?_
            refine vl_skip rfl rfl ?_
            refine vl_skip rfl rfl ?_
            refine vl_skip rfl rfl ?_
            refine vl_skip rfl rfl ?_
            refine vl_skip rfl rfl ?_
            refine vl_val (os_pick_f rfl rfl) ?_
            refine vl_nil ?_
            refine v_cond_f rfl ?_
            refine v_skip ?_
            refine v_region ?_
            refine vl_val (os_move rfl) ?_
            refine vl_val (os_addi rfl rfl (by omega)) ?_
            refine vl_val (os_assign rfl) ?_
            refine vl_nil ?_
            exact ⟨x + 1, ⟨rfl, rfl, rfl, rfl, rfl, rfl, rfl, trivial⟩, ⟨rfl, trivial⟩, ⟨by omega, c4, b4, hW5, e3, e4, by rw [e5]; exact mixV_skip (by rw [(hno x hFx).1]), by rw [e6]; exact mixV_skip (by rw [(hno x hFx).2])⟩, by dsimp only; omega⟩
          · refine v_seq ?_
            refine v_region ?_
            refine vl_val (os_move rfl) ?_
            refine vl_val (os_t (os_neq rfl rfl) (by omega)) ?_
            refine vl_val (os_move rfl) ?_
            refine vl_valg rfl (os_move rfl) ?_
            refine vl_valg rfl (os_move rfl) ?_
            refine vl_valg rfl (os_addi rfl rfl (by omega)) ?_
            refine vl_valg rfl (os_move rfl) ?_
            refine vl_valg rfl (os_move rfl) ?_
            refine vl_valg rfl (os_ix Try.underlying138 Try.sizeOf40 rfl rfl (i := k) (by omega) (by omega)) ?_
            refine vl_valg rfl (os_load Try.isAgg40 rfl (Own.get hW5.tS.own hu5)) ?_
            refine vl_valg rfl (os_move rfl) ?_
            refine vl_valg rfl (os_ix Try.underlying40 Try.sizeOf3 rfl rfl (i := x) (by omega) (by omega)) ?_
            refine vl_valg rfl (os_load Try.isAgg3 rfl (csc)) ?_
            refine vl_valg rfl (os_t (os_geq rfl rfl) (by omega)) ?_
            rw [if_pos h3] at hFx
            have hs1 : mxP (FQ q n m a x) n (n + 1 - k) = ow + rest := by rw [hstep, hFx, if_pos ⟨by omega, h4⟩]
            have hs2 : takP (FQ q n m a x) n k = true := by simp only [takP, hFx, decide_eq_true_eq]; exact ⟨by omega, h4⟩
            have hW6 := hW5.keep (led_below (⟨1, rfl⟩ : LeD w5 _))
            have hdS : ∀ (g' : Nat), (∃ u : Value, ub[k]? = some u ∧ u.ownBlock = some g') → g' ≠ g5 := fun g' ⟨u, hu, hg⟩ e => by subst e; exact hW5.dis g' (.inr ⟨k, _, by omega, hu5, rfl⟩) (.inr ⟨k, u, by omega, hu, hg⟩)
            have hd65 : g6 ≠ g5 := hdS g6 ⟨_, hu6, rfl⟩
            have rS6 := hW6.tS.own.rdc'
            have rT6 := hW6.tT.own.rdc'
            have kS5 : ∀ b o, (some ⟨S2, 0, none⟩ : Option Addr) = some ⟨b, o, none⟩ → b ∉ [g5, g6] := fun b o e hm => by cases e; rcases List.mem_cons.1 hm with e | e; exact gn5 (by rw [e]; rfl); (have e := List.mem_singleton.1 e; exact hW5.dis S2 (.inl rfl) (.inr ⟨k, _, by omega, hu6, by rw [e]; rfl⟩))
            have kT5 : ∀ b o, (some ⟨T2, 0, none⟩ : Option Addr) = some ⟨b, o, none⟩ → b ∉ [g5, g6] := fun b o e hm => by cases e; rcases List.mem_cons.1 hm with e | e; exact hW5.dis T2 (.inr ⟨k, _, by omega, hu5, by rw [e]; rfl⟩) (.inl rfl); (have e := List.mem_singleton.1 e; exact gn6 (by rw [e]; rfl))
            refine vl_val (os_pick_t rfl rfl) ?_
            refine vl_nil ?_
            refine v_cond_t rfl ?_
            refine v_region_h (fun w' => RdC w' (some ⟨S2, 0, none⟩) us2 ∧ RdC w' (some ⟨T2, 0, none⟩) ub) mixed (⟨rS6, rT6⟩) ?_
            refine vh_pure 0 rfl (by kernel_rfl) (by kernel_rfl) (by kernel_rfl) (fun w hw => (os_move rfl)) ?_
            refine vh_pure 1 rfl (by kernel_rfl) (by kernel_rfl) (by kernel_rfl) (fun w hw => (os_move rfl)) ?_
            refine vh_pure 2 rfl (by kernel_rfl) (by kernel_rfl) (by kernel_rfl) (fun w hw => (os_ix Try.underlying138 Try.sizeOf40 rfl rfl (i := k) (by omega) (by omega))) ?_
            refine vh_pure 3 rfl (by kernel_rfl) (by kernel_rfl) (by kernel_rfl) (fun w hw => (os_load Try.isAgg40 rfl (hw.1.get hu5))) ?_
            refine vh_pure 4 rfl (by kernel_rfl) (by kernel_rfl) (by kernel_rfl) (fun w hw => (os_move rfl)) ?_
            refine vh_pure 5 rfl (by kernel_rfl) (by kernel_rfl) (by kernel_rfl) (fun w hw => (os_move rfl)) ?_
            refine vh_pure 6 rfl (by kernel_rfl) (by kernel_rfl) (by kernel_rfl) (fun w hw => (os_move rfl)) ?_
            refine vh_pure 7 rfl (by kernel_rfl) (by kernel_rfl) (by kernel_rfl) (fun w hw => (os_ix Try.underlying144 Try.sizeOf146 rfl rfl (i := k) (by omega) (by omega))) ?_
            refine vh_pure 8 rfl (by kernel_rfl) (by kernel_rfl) (by kernel_rfl) (fun w hw => (os_load Try.isAgg146 rfl (hw.2.get hu6))) ?_
            refine vh_pure 9 rfl (by kernel_rfl) (by kernel_rfl) (by kernel_rfl) (fun w hw => (os_move rfl)) ?_
            refine vh_pure 10 rfl (by kernel_rfl) (by kernel_rfl) (by kernel_rfl) (fun w hw => (os_move rfl)) ?_
            refine vh_pure 11 rfl (by kernel_rfl) (by kernel_rfl) (by kernel_rfl) (fun w hw => (os_move rfl)) ?_
            refine vh_pure 12 rfl (by kernel_rfl) (by kernel_rfl) (by kernel_rfl) (fun w hw => (os_addi rfl rfl (by omega))) ?_
            refine vh_pure 13 rfl (by kernel_rfl) (by kernel_rfl) (by kernel_rfl) (fun w hw => (os_ix Try.underlying40 Try.sizeOf3 rfl rfl (i := x) (by omega) (by omega))) ?_
            refine vh_one 14 (by kernel_rfl) ?_
            refine vhn_unit rfl (ou_store Try.sizeOf3 rfl rfl rfl ((by first | exact Own.get (hW6.tS.each k _ (by omega) hu5) (List.getElem?_eq_getElem (by omega)) | exact Own.get ((hW6.cellT (by omega) hu6 x _).tS.each k _ (by omega) hu5) (List.getElem?_eq_getElem (by omega)))) ((by first | exact Own.free (hW6.tS.each k _ (by omega) hu5) _ | exact Own.free ((hW6.cellT (by omega) hu6 x _).tS.each k _ (by omega) hu5) _))) (fun hw => ⟨RdC.kb hw.1 (Kb.set (S := [g5, g6]) (by simp) _ _) kS5, RdC.kb hw.2 (Kb.set (S := [g5, g6]) (by simp) _ _) kT5⟩) ?_
            refine vh_pure 15 rfl (by kernel_rfl) (by kernel_rfl) (by kernel_rfl) (fun w hw => (os_ix Try.underlying146 Try.sizeOf4 rfl rfl (i := x) (by omega) (by omega))) ?_
            refine vh_one 16 (by kernel_rfl) ?_
            refine vhn_unit rfl (ou_store Try.sizeOf4 rfl rfl rfl ((by first | exact Own.get (hW6.tT.each k _ (by omega) hu6) (List.getElem?_eq_getElem (by omega)) | exact Own.get ((hW6.cellS (by omega) hu5 x _).tT.each k _ (by omega) hu6) (List.getElem?_eq_getElem (by omega)))) ((by first | exact Own.free (hW6.tT.each k _ (by omega) hu6) _ | exact Own.free ((hW6.cellS (by omega) hu5 x _).tT.each k _ (by omega) hu6) _))) (fun hw => ⟨RdC.kb hw.1 (Kb.set (S := [g5, g6]) (by simp) _ _) kS5, RdC.kb hw.2 (Kb.set (S := [g5, g6]) (by simp) _ _) kT5⟩) ?_
            refine vh_done (by kernel_rfl) (fun hS => ?_)
            refine v_region ?_
            refine vl_val (os_move rfl) ?_
            refine vl_val (os_addi rfl rfl (by omega)) ?_
            refine vl_val (os_assign rfl) ?_
            refine vl_nil ?_
            exact ⟨x + 1, ⟨rfl, rfl, rfl, rfl, rfl, rfl, rfl, trivial⟩, ⟨rfl, trivial⟩, ⟨by omega, (fun j => if j = k then (c4 k).set x (.int .i64 (ow + rest)) else c4 j), (fun j => if j = k then (b4 k).set x (.bool true) else b4 j), (by first | exact (hW6.cellS (by omega) hu5 x _).cellT (by omega) hu6 x _ | exact (hW6.cellT (by omega) hu6 x _).cellS (by omega) hu5 x _), fun j hj => (if_neg hj).trans (e3 j hj), fun j hj => (if_neg hj).trans (e4 j hj), (if_pos rfl).trans (by rw [e5, ← hs1]; exact mixV_set (a := fun y => .int .i64 (mxP (FQ q n m a y) n (n + 1 - k))) (by omega)), (if_pos rfl).trans (by rw [e6, ← hs2]; exact mixV_set (a := fun y => .bool (takP (FQ q n m a y) n k)) (by omega))⟩, by dsimp only; omega⟩
          · refine v_seq ?_
            refine v_region ?_
            refine vl_val (os_move rfl) ?_
            refine vl_val (os_t (os_neq rfl rfl) (by omega)) ?_
            refine vl_val (os_move rfl) ?_
            refine vl_valg rfl (os_move rfl) ?_
            refine vl_valg rfl (os_move rfl) ?_
            refine vl_valg rfl (os_addi rfl rfl (by omega)) ?_
            refine vl_valg rfl (os_move rfl) ?_
            refine vl_valg rfl (os_move rfl) ?_
            refine vl_valg rfl (os_ix Try.underlying138 Try.sizeOf40 rfl rfl (i := k) (by omega) (by omega)) ?_
            refine vl_valg rfl (os_load Try.isAgg40 rfl (Own.get hW5.tS.own hu5)) ?_
            refine vl_valg rfl (os_move rfl) ?_
            refine vl_valg rfl (os_ix Try.underlying40 Try.sizeOf3 rfl rfl (i := x) (by omega) (by omega)) ?_
            refine vl_valg rfl (os_load Try.isAgg3 rfl (csc)) ?_
            refine vl_valg rfl (os_f (os_geq rfl rfl) (by omega)) ?_
            rw [if_pos h3] at hFx
            have hs1 : mxP (FQ q n m a x) n (n + 1 - k) = mxP (FQ q n m a x) n (n - k) := by rw [hstep, hFx, if_neg (fun h => h4 h.2)]
            have hs2 : takP (FQ q n m a x) n k = false := by simp only [takP, hFx, decide_eq_false_iff_not]; exact fun h => h4 h.2
            refine vl_val (os_pick_t rfl rfl) ?_
            refine vl_nil ?_
            refine v_cond_f rfl ?_
            refine v_skip ?_
            refine v_region ?_
            refine vl_val (os_move rfl) ?_
            refine vl_val (os_addi rfl rfl (by omega)) ?_
            refine vl_val (os_assign rfl) ?_
            refine vl_nil ?_
            exact ⟨x + 1, ⟨rfl, rfl, rfl, rfl, rfl, rfl, rfl, trivial⟩, ⟨rfl, trivial⟩, ⟨by omega, c4, b4, hW5, e3, e4, by rw [e5]; exact mixV_skip (by rw [hs1]), by rw [e6]; exact mixV_skip (by rw [hs2])⟩, by dsimp only; omega⟩
        · rw [mixV_all (by omega)] at e5 e6
          refine v_exit ?_
          refine v_region ?_
          refine vl_val (os_move rfl) ?_
          refine vl_val (os_subi rfl rfl (by omega)) ?_
          refine vl_val (os_assign rfl) ?_
          refine vl_nil ?_
          exact ⟨k - 1, ⟨rfl, rfl, rfl, rfl, trivial⟩, ⟨get_int rfl (by omega), trivial⟩, ⟨by omega, c4, b4, hW5, fun j h1 h2 => by by_cases e : j = k; (subst e; exact e5); (rw [e3 j e]; exact hA j (by omega) h2), fun j h1 => by rw [e3 j (by omega)]; exact hB j (by omega), fun j h1 h2 => by by_cases e : j = k; (subst e; exact e6); (rw [e4 j e]; exact hC j (by omega) h2), fun j h1 => by rw [e4 j (by omega)]; exact hD j (by omega)⟩, by dsimp only; omega⟩
    · obtain rfl : k = 0 := by omega
      have hb2 := hb.keep hW2.bel
      have hto2 := Own.keepAll hto hW2.bel
      refine v_exit ?_
      refine v_region ?_
      refine vl_val (os_move rfl) ?_
      refine vl_val (os_move rfl) ?_
      refine vl_val (os_nilCheck rfl) ?_
      refine vl_val (os_fa (o := 8) (k := 0) (by kernel_rfl) rfl) ?_
      refine vl_val (os_load Try.isAgg140 rfl (hb2.cell (i := 8) rfl)) ?_
      refine vl_val (os_move rfl) ?_
      refine vl_val (os_move rfl) ?_
      refine vl_val (os_move rfl) ?_
      refine vl_val (os_nilCheck rfl) ?_
      refine vl_val (os_fa (o := 7) (k := 0) (by kernel_rfl) rfl) ?_
      refine vl_unit (ou_store Try.sizeOf138 rfl rfl rfl ((hb2.cell (i := 7) rfl)) ((hb2.free _))) ?_
      have hb3 := hb2.set 7 (.slice (some ⟨S2, 0, none⟩) (n + 2) (n + 2))
      have hat : a < ts.length := by have := Own.len hto; omega
      have hto3 := Own.setOther hto2 (fun b e => by have e2 : tg = b := (by simpa [Value.ownBlock] using e); rw [← e2]; exact hne) (0 + 7) (.slice (some ⟨S2, 0, none⟩) (n + 2) (n + 2))
      refine vl_val (os_ix Try.underlying140 Try.sizeOf144 rfl rfl (i := a) (by omega) (by omega)) ?_
      refine vl_unit (ou_store Try.sizeOf144 rfl rfl rfl (Own.get hto3 (List.getElem?_eq_getElem hat)) ((Own.free hto3 _))) ?_
      have htg := (World.ownsRow.lt hto tg rfl)
      have hks : Kb [g, tg] w _ := (Kb.of_below hW2.bel).trans ((Kb.set (S := [g, tg]) (g := g) (by simp) (0 + 7) (.slice (some ⟨S2, 0, none⟩) (n + 2) (n + 2))).trans (Kb.set (S := [g, tg]) (g := tg) (by simp) (0 + a) (.slice (some ⟨T2, 0, none⟩) (n + 2) (n + 2))) (fun k hk => .inl hk)) (fun k hk => .inl hk)
      have hk2 : Kb [g, tg] w2 _ := (Kb.set (S := [g, tg]) (g := g) (by simp) (0 + 7) (.slice (some ⟨S2, 0, none⟩) (n + 2) (n + 2))).trans (Kb.set (S := [g, tg]) (g := tg) (by simp) (0 + a) (.slice (some ⟨T2, 0, none⟩) (n + 2) (n + 2))) (fun k hk => .inl hk)
      refine vl_nil ?_
      exact post_end0 rfl (⟨S2, us2, cc2, T2, ub, cb2, ⟨Bk.other hb3 hne _, hW2.tS.kb hk2 (fun b hb hx => by have := (hW2.tS.lt hx).1; simp at hb; rcases hb with rfl | rfl <;> omega), fun k h1 h2 => hA k (by omega) (by omega), (by have h9 := Own.set hto3 (0 + a) (.slice (some ⟨T2, 0, none⟩) (n + 2) (n + 2)); rw [show ts.set (0 + a) (.slice (some ⟨T2, 0, none⟩) (n + 2) (n + 2)) = ts.set a (.slice (some ⟨T2, 0, none⟩) (n + 2) (n + 2)) by rw [Nat.zero_add]] at h9; exact h9), hW2.tT.kb hk2 (fun b hb hx => by have := (hW2.tT.lt hx).1; simp at hb; rcases hb with rfl | rfl <;> omega), fun k h1 h2 => hC k (by omega) h2, hks⟩⟩)
end Go.Proofs.Ytpojijnjdlnokaa

/- Layer 13: what the solver tells. -/
namespace Go.Proofs.Ytpojijnjdlnokaa
open Go.RowKit
set_option linter.unusedVariables false

/-- the tables that tell what was taken, from layer a0 on -/
def Tabs (w : World) (H : Nat) (q : TaskP) (n r : Nat) (ts : List Value) (a0 : Nat) : Prop := ∀ a, a0 ≤ a → a < q.lens.length → ∃ T2 ub cb, ts[a]? = some (.slice (some ⟨T2, 0, none⟩) (n + 2) (n + 2)) ∧ Tb w H 146 4 (.slice (some ⟨T2, 0, none⟩) (n + 2) (n + 2)) ub (n + 2) cb ∧ ∀ k, 1 ≤ k → k ≤ n → cb k = rowV (fun x => .bool (takP (FQ q n (q.lens.length - (a + 1)) a x) n k)) r
theorem Tabs.kb {w w' H q n r ts a0} (h : Tabs w H q n r ts a0) {S : List Nat} (hb : Kb S w w') (hS : ∀ b ∈ S, b < H) : Tabs w' H q n r ts a0 := fun a h1 h2 => by
  obtain ⟨T2, ub, cb, e, hT, hc⟩ := h a h1 h2
  exact ⟨T2, ub, cb, e, hT.kb hb (fun b hb hx => by have := (hT.lt hx).1; have := hS b hb; omega), hc⟩
theorem Tabs.keep {w w' H q n r ts a0} (h : Tabs w H q n r ts a0) (hb : Below w.heap.size w w') : Tabs w' H q n r ts a0 := h.kb (S := []) (Kb.of_below hb) (fun b hb => by cases hb)
theorem lysF_cons {q : TaskP} {L i : Nat} (h : i < L) : lysF q (L - i) i = lyQ q i :: lysF q (L - (i + 1)) (i + 1) := by
  rw [show L - i = (L - (i + 1)) + 1 by omega]; rfl
theorem lysF_o {q : TaskP} {n : Nat} (h : TaskR q n) : ∀ {m i : Nat}, m + i ≤ q.lens.length → ∀ l ∈ lysF q m i, ∀ k, k ≤ n → 0 ≤ l.o k
  | 0, i, _, l, hl, _, _ => by cases hl
  | m + 1, i, hm, l, hl, k, hk => by
    rcases List.mem_cons.1 hl with rfl | hl
    · exact (lyQ_o h (by omega) hk).1
    · exact lysF_o h (by omega) l hl k hk

set_option maxHeartbeats 4000000 in
theorem pn_told (d : TaskV) (q : TaskP) (n r g tg H : Nat) (sv : Value) (ts : List Value) (w : World) (hd : TaskOk w d q) (hR : TaskR q n) (hr : r ≤ 2000)
    (hb : Bk w g (solC d r sv (.slice (some ⟨tg, 0, none⟩) d.ll d.ll)) 142) (hto : RdC w (some ⟨tg, 0, none⟩) ts) (hTs : Tabs w H q n r ts 0) (hf : scP n (lysF q q.lens.length 0) 1 r ≠ -1) :
    Gives Try.prog 63 #[.pointer (some ⟨g, 0, none⟩)] w fun v w' => OwnK w' w.heap.size 3 .i64 v ((toldP n (lysF q q.lens.length 0) 1 r).map fun (x : Nat) => (x : Int)) ∧ Below w.heap.size w w' := by
  have hn1 := hR.n1
  have hn2 := hR.n2
  have hl8 := hR.l2
  have hll := hd.ll
  obtain ⟨L, hL⟩ : ∃ L, L = q.lens.length := ⟨_, rfl⟩
  obtain ⟨bL, oL, eL, -⟩ := hd.L.at_ (i := 0) (by have := hR.l1; omega)
  rw [← hL] at hf
  refine gives_enter Try.call63 Try.func63 rfl rfl rfl (by kernel_rfl) ?_
  refine v_seq ?_
  refine v_region ?_
  refine vl_val (os_assign rfl) ?_
  refine vl_nil ?_
  refine v_seq ?_
  refine v_region_t LeD _ mixed (by kernel_rfl) lee_d (led_start _) ?_
  refine vt_val (fun w hw => os_move rfl) ?_
  refine vt_val (fun w hw => os_nilCheck rfl) ?_
  refine vt_val (fun w hw => os_fa (o := 6) (k := 0) (by kernel_rfl) rfl) ?_
  refine vt_val (fun w hw => os_load Try.isAgg3 rfl (led_cell hw (hb.cell (i := 6) rfl))) ?_
  refine vt_val (fun w hw => os_assign rfl) ?_
  refine vt_val (fun w hw => os_assign rfl) ?_
  refine vt_nil (fun w hw => ?_)
  obtain ⟨q1, rfl⟩ := hw
  refine v_seq ?_
  refine v_seq ?_
  refine v_region ?_
  refine vl_val (os_move rfl) ?_
  refine vl_val (os_nilCheck rfl) ?_
  refine vl_val (os_fa (o := 0) (k := 5) (by kernel_rfl) rfl) ?_
  refine vl_val (os_fa (o := 3) (k := 0) (by kernel_rfl) rfl) ?_
  refine vl_val (os_load Try.isAgg40 rfl ((hb.cell (i := 3) (v := .slice (some ⟨bL, oL, none⟩) d.ll d.lc) (by rw [← eL]; rfl)))) ?_
  refine vl_val (os_len Try.underlying40 rfl) ?_
  refine vl_val (os_move rfl) ?_
  refine vl_nil ?_
  refine v_block ?_
  refine v_loop4 [(0, _), (17, _), (18, _)] (fun (v : Value) (k : Nat) (x : Nat) (i : Nat) => [(2, v), (3, .int .i64 k), (4, .int .i64 x), (19, .int .i64 i)]) (fun v k x i w' => i ≤ L ∧ 1 ≤ k ∧ x ≤ r ∧ scP n (lysF q (L - i) i) k x ≠ -1 ∧ (∃ out : List Nat, out.length = i ∧ OwnK w' w.heap.size 3 .i64 v (out.map fun (x : Nat) => (x : Int)) ∧ out ++ toldP n (lysF q (L - i) i) k x = toldP n (lysF q L 0) 1 r) ∧ Below w.heap.size w w') (fun v k x i => L - i) (.slice none 0 0) (1) (r) (0) ⟨rfl, rfl, rfl, trivial⟩ ⟨rfl, rfl, rfl, rfl, trivial⟩ (⟨by omega, by omega, by omega, hf, ⟨[], rfl, Own.nil _ _ _, rfl⟩, below_drewN_ (Below.refl _ _) q1⟩) ?_
  rintro v k x i w2 ⟨hi, hk, hx, hsc, ⟨out, hol, ho, htl⟩, hb2⟩
  refine v_seq ?_
  refine v_region ?_
  refine vl_val (os_lss rfl rfl) ?_
  refine vl_nil ?_
  refine v_seq ?_
  refine v_cond_d rfl (fun h => ?_) (fun h => ?_)
  · have hd2 := hd.keep hb2
    obtain ⟨bL2, oL2, eL2, cL⟩ := hd2.L.at_ (i := i) (by omega)
    rw [eL2] at eL
    cases eL
    refine v_skip ?_
    refine v_seq ?_
    refine v_block ?_
    refine v_seq ?_
    refine v_region ?_
    refine vl_val (os_move rfl) ?_
    refine vl_val (os_ix Try.underlying40 Try.sizeOf3 rfl rfl (i := i) (by omega) (by omega)) ?_
    refine vl_val (os_load Try.isAgg3 rfl (cL)) ?_
    rw [lysF_cons (by omega), scP] at hsc
    obtain ⟨a1, a2, a3, a4⟩ := argP_spec hk hsc
    obtain ⟨t1, t2⟩ := takP_arg hk hsc
    have htl2 : out ++ (argP (valP (lyQ q i) (scP n (lysF q (L - (i + 1)) (i + 1))) x) n k :: toldP n (lysF q (L - (i + 1)) (i + 1)) (argP (valP (lyQ q i) (scP n (lysF q (L - (i + 1)) (i + 1))) x) n k) (x - (lyQ q i).wd (argP (valP (lyQ q i) (scP n (lysF q (L - (i + 1)) (i + 1))) x) n k))) = toldP n (lysF q L 0) 1 r := by rw [← htl, lysF_cons (q := q) (L := L) (i := i) (by omega)]; rfl
    obtain ⟨J, hJ⟩ : ∃ J, J = argP (valP (lyQ q i) (scP n (lysF q (L - (i + 1)) (i + 1))) x) n k := ⟨_, rfl⟩
    rw [← hJ] at a1 a2 a3 a4 t1 t2 htl2
    have hval : (lyQ q i).wd J ≤ x ∧ scP n (lysF q (L - (i + 1)) (i + 1)) J (x - (lyQ q i).wd J) ≠ -1 := by
      apply Classical.byContradiction
      intro hh
      have : valP (lyQ q i) (scP n (lysF q (L - (i + 1)) (i + 1))) x J = -1 := by unfold valP; rw [if_neg hh]
      omega
    obtain ⟨T2, ub, cb, hts, hT, hcb⟩ := hTs i (by omega) (by omega)
    have hT2 := hT.keep hb2
    have hto2 := hto.keep hb2
    have hbb2 := hb.keep hb2
    refine vl_val (os_assign rfl) ?_
    refine vl_val (os_assign rfl) ?_
    refine vl_nil ?_
    refine v_seq ?_
    refine v_block ?_
    refine v_loop [(0, _), (2, _), (4, _), (5, _), (6, _), (17, _), (18, _), (19, _)] (fun (j : Nat) => [(3, .int .i64 j)]) (fun j w' => k ≤ j ∧ j ≤ J ∧ w' = w2) (fun j => J - j) (k) ⟨rfl, rfl, rfl, rfl, rfl, rfl, rfl, rfl, trivial⟩ ⟨rfl, trivial⟩ (⟨Nat.le_refl _, a1, rfl⟩) ?_
    rintro j w2 ⟨hj1, hj2, rfl⟩
    have hcj := hcb j (by omega) (by omega)
    obtain ⟨gj, cj, huj, -⟩ := hT2.row_at (k := j) (by omega) (by rw [hcj, rowV_len]; omega)
    rw [hcj, rowV_len] at huj
    have ctk := Own.get (hT2.each j _ (by omega) huj) (show (cb j)[x]? = _ by rw [hcj]; exact rowV_at hx)
    rcases (by omega : j < J ∨ J = j) with hlt | heq
    · have htf : takP (FQ q n (q.lens.length - (i + 1)) i x) n j = false := by rw [← hL]; exact t2 j hj1 hlt
      rw [htf] at ctk
      refine v_seq ?_
      refine v_seq ?_
      refine v_region ?_
      refine vl_val (os_move rfl) ?_
      refine vl_val (os_nilCheck rfl) ?_
      refine vl_val (os_fa (o := 8) (k := 0) (by kernel_rfl) rfl) ?_
      refine vl_val (os_load Try.isAgg140 rfl (hbb2.cell (i := 8) rfl)) ?_
      refine vl_val (os_move rfl) ?_
      refine vl_val (os_ix Try.underlying140 Try.sizeOf144 rfl rfl (i := i) (by omega) (by omega)) ?_
      refine vl_val (os_load Try.isAgg144 rfl (hto2.get hts)) ?_
      refine vl_val (os_move rfl) ?_
      refine vl_val (os_ix Try.underlying144 Try.sizeOf146 rfl rfl (i := j) (by omega) (by omega)) ?_
      refine vl_val (os_load Try.isAgg146 rfl (Own.get hT2.own huj)) ?_
      refine vl_val (os_move rfl) ?_
      refine vl_val (os_ix Try.underlying146 Try.sizeOf4 rfl rfl (i := x) (by omega) (by omega)) ?_
      refine vl_val (os_load Try.isAgg4 rfl (ctk)) ?_
      refine vl_val (os_not rfl) ?_
      refine vl_nil ?_
      refine v_cond_t rfl ?_
      refine v_skip ?_
      refine v_block ?_
      refine v_region ?_
      refine vl_val (os_move rfl) ?_
      refine vl_val (os_addi rfl rfl (by omega)) ?_
      refine vl_val (os_assign rfl) ?_
      refine vl_nil ?_
      exact ⟨j + 1, ⟨rfl, rfl, rfl, rfl, rfl, rfl, rfl, rfl, trivial⟩, ⟨rfl, trivial⟩, ⟨by omega, by omega, rfl⟩, by dsimp only; omega⟩
    · subst heq
      have htt : takP (FQ q n (q.lens.length - (i + 1)) i x) n J = true := by rw [← hL]; exact t1
      rw [htt] at ctk
      refine v_seq ?_
      refine v_seq ?_
      refine v_region ?_
      refine vl_val (os_move rfl) ?_
      refine vl_val (os_nilCheck rfl) ?_
      refine vl_val (os_fa (o := 8) (k := 0) (by kernel_rfl) rfl) ?_
      refine vl_val (os_load Try.isAgg140 rfl (hbb2.cell (i := 8) rfl)) ?_
      refine vl_val (os_move rfl) ?_
      refine vl_val (os_ix Try.underlying140 Try.sizeOf144 rfl rfl (i := i) (by omega) (by omega)) ?_
      refine vl_val (os_load Try.isAgg144 rfl (hto2.get hts)) ?_
      refine vl_val (os_move rfl) ?_
      refine vl_val (os_ix Try.underlying144 Try.sizeOf146 rfl rfl (i := J) (by omega) (by omega)) ?_
      refine vl_val (os_load Try.isAgg146 rfl (Own.get hT2.own huj)) ?_
      refine vl_val (os_move rfl) ?_
      refine vl_val (os_ix Try.underlying146 Try.sizeOf4 rfl rfl (i := x) (by omega) (by omega)) ?_
      refine vl_val (os_load Try.isAgg4 rfl (ctk)) ?_
      have hol2 : (out.map fun (x : Nat) => (x : Int)).length = i := by rw [List.length_map, hol]
      have hlenq := hR.len i (by omega)
      have hok : widthOk (q.lens.getD i 0) J = true := by simp only [widthOk, decide_eq_true_eq]; omega
      have hwb := width_bd hok
      obtain ⟨wd, hwd⟩ : ∃ wd : Nat, wd = (lyQ q i).wd J := ⟨_, rfl⟩
      have hwd' : (wd : Int) = widthW (q.lens.getD i 0) J := by rw [hwd]; show ((widthW (q.lens.getD i 0) J).toNat : Int) = _; omega
      have hwv : widthV (q.lens.getD i 0) J = (wd : Int) := by unfold widthV; rw [if_pos hok]; exact hwd'.symm
      rw [← hwd] at hval htl2
      refine vl_val (os_not rfl) ?_
      refine vl_nil ?_
      refine v_cond_f rfl ?_
      refine v_exit ?_
      refine v_seq ?_
      refine v_region ?_
      refine vl_val (os_move rfl) ?_
      refine vl_val (os_move rfl) ?_
      refine vl_val (os_lit Try.underlying40 Try.sizeOf3 Try.zeroValue3 rfl rfl rfl rfl (by decide)) ?_
      refine vl_some (ot_append Try.underlying40 ti_int rfl rfl rfl (Own.alloc ho (.cells [Value.int .i64 J].toArray 3)) (rdc_alloc w2 [Value.int .i64 J] _) rfl (by intro u hu; rw [List.mem_singleton.1 hu]; rfl) (by simp; omega) (by simp [maxLen]; omega) (by have := hb2.size; simp; omega)) ?_
      rintro v5 w5 ⟨ho5, hg5⟩
      have b5 := Own.below (hb2.alloc hb2.size (.cells [Value.int .i64 J].toArray 3)) (Own.alloc ho _) hg5 (Nat.le_refl _) (by have := hb2.size; simp; omega)
      refine vl_val (os_assign rfl) ?_
      refine vl_nil ?_
      refine v_seq ?_
      refine v_region ?_
      refine vl_val (os_move rfl) ?_
      refine vl_val (os_move rfl) ?_
      refine vl_call (strip_Width (q.lens.getD i 0) J w5 ⟨by omega, by omega⟩ ⟨by omega, by omega⟩) rfl ?_
      rintro v6 w5 ⟨rfl, rfl⟩
      rw [hwv]
      refine vl_val (os_move rfl) ?_
      refine vl_val (os_extract rfl rfl) ?_
      refine vl_val (os_extract rfl rfl) ?_
      refine vl_val (os_assign rfl) ?_
      refine vl_val (os_assign rfl) ?_
      refine vl_nil ?_
      refine v_region ?_
      refine vl_val (os_move rfl) ?_
      refine vl_val (os_move rfl) ?_
      refine vl_val (os_subi rfl rfl (by omega)) ?_
      refine vl_val (os_assign rfl) ?_
      refine vl_nil ?_
      refine v_region ?_
      refine vl_val (os_addi rfl rfl (by omega)) ?_
      refine vl_val (os_move rfl) ?_
      refine vl_nil ?_
      exact ⟨⟨v5, J, x - wd, i + 1⟩, ⟨rfl, rfl, rfl, trivial⟩, ⟨rfl, rfl, get_int rfl (by (try dsimp only); omega), rfl, trivial⟩, ⟨by (try dsimp only); omega, by (try dsimp only); omega, by (try dsimp only); omega, hval.2, ⟨out ++ [J], by simp [hol], by simpa [OwnK] using ho5, by rw [← htl2, List.append_assoc]; rfl⟩, b5⟩, by dsimp only; omega⟩
  · obtain rfl : L = i := by omega
    rw [Nat.sub_self] at htl
    have e : out = toldP n (lysF q L 0) 1 r := by rw [← htl]; simp [lysF, toldP]
    refine v_exit ?_
    refine v_seq ?_
    refine v_region ?_
    refine vl_val (os_move rfl) ?_
    refine vl_val (os_assign rfl) ?_
    refine vl_nil ?_
    refine v_ret ?_
    exact post_ret rfl rfl (⟨by rw [← hL, ← e]; exact ho, hb2⟩)
end Go.Proofs.Ytpojijnjdlnokaa

/- Layer 13: plan.Best. -/
namespace Go.Proofs.Ytpojijnjdlnokaa
open Go.RowKit
set_option linter.unusedVariables false

theorem sl_Backward (A : Option Addr) (n c : Nat) (w : World) : Gives Try.prog 61 #[.slice A n c] w fun v w' => v = .func (.func 100) #[] #[.pointer (some ⟨w.heap.size, 0, none⟩)] ∧ w' = w.alloc (.cells #[.slice A n c] 40) := by
  refine gives_enter Try.call61 Try.func61 rfl rfl rfl (by kernel_rfl) ?_
  refine v_seq ?_
  refine v_region ?_
  refine vl_val (os_box rfl) ?_
  refine vl_val (os_assign rfl) ?_
  refine vl_nil ?_
  refine v_seq ?_
  refine v_region ?_
  refine vl_val (os_makeFunc rfl) ?_
  refine vl_val (os_assign rfl) ?_
  refine vl_nil ?_
  refine v_ret ?_
  exact post_ret rfl rfl (⟨rfl, rfl⟩)
theorem sl_Backward_fn (l p : Nat) (A : Option Addr) (n c : Nat) (zs : List Int) (J Jx : Nat → World → Prop) (W : World) (hJI : ∀ k W, J k W → W.cell? ⟨p, 0, none⟩ = some (.slice A n c) ∧ Rd W .i64 A zs) (hn : n = zs.length) (hn' : n ≤ 1000000)
    (hR : Rounds Try.prog l (fun r => [.int .i64 ((n - 1 - r : Nat) : Int), .int .i64 (zs.getD (n - 1 - r) 0)]) n J Jx) (hJ0 : J 0 W) :
    Gives Try.prog 100 #[.func (.yield l) #[] #[], .pointer (some ⟨p, 0, none⟩)] W fun _ W' => J n W' ∨ ∃ k, Jx k W' := by
  refine gives_enter Try.call100 Try.func100 rfl rfl rfl (by kernel_rfl) ?_
  refine v_seq ?_
  refine v_region ?_
  refine vl_val (os_load Try.isAgg40 rfl ((hJI 0 W hJ0).1)) ?_
  refine vl_val (os_len Try.underlying40 rfl) ?_
  refine vl_val (os_subi rfl rfl (by omega)) ?_
  refine vl_val (os_assign rfl) ?_
  refine vl_nil ?_
  refine v_block ?_
  refine v_loop [(0, _), (1, _)] (fun (j : Nat) => [(3, .int .i64 ((j : Int) - 1))]) (fun j w' => j ≤ n ∧ J (n - j) w') (fun j => j) (n) ⟨rfl, rfl, trivial⟩ ⟨rfl, trivial⟩ (⟨Nat.le_refl _, by rw [Nat.sub_self]; exact hJ0⟩) ?_
  rintro j w' ⟨hj, hJj⟩
  refine v_seq ?_
  refine v_seq ?_
  refine v_region ?_
  refine vl_val (os_move rfl) ?_
  refine vl_val (os_geq rfl rfl) ?_
  refine vl_nil ?_
  refine v_cond_d rfl (fun h => ?_) (fun h => ?_)
  · obtain ⟨r, hr⟩ : ∃ r, r = n - j := ⟨_, rfl⟩
    have ej : (j : Int) - 1 = ((n - 1 - r : Nat) : Int) := by omega
    rw [ej]
    rw [← hr] at hJj
    obtain ⟨b, o, rfl, hc⟩ := (hJI r w' hJj).2.at_ (i := n - 1 - r) (by omega)
    refine v_skip ?_
    refine v_seq ?_
    refine v_block ?_
    refine v_seq ?_
    refine v_region ?_
    refine vl_val (os_move rfl) ?_
    refine vl_val (os_move rfl) ?_
    refine vl_val (os_load Try.isAgg40 rfl ((hJI r w' hJj).1)) ?_
    refine vl_val (os_move rfl) ?_
    refine vl_val (os_ix Try.underlying40 Try.sizeOf3 rfl rfl (i := n - 1 - r) (by omega) (by omega)) ?_
    refine vl_val (os_load Try.isAgg3 rfl (hc)) ?_
    refine vl_yield rfl rfl (hR r w' hJj (by omega)) ?_
    rintro b w2 ⟨hy, hn2⟩
    refine vl_val (os_not rfl) ?_
    refine vl_nil ?_
    refine v_cond rfl (fun hbv => ?_) (fun hbv => ?_)
    · refine v_ret ?_
      exact post_ret0 rfl (.inr ⟨r, hn2 (by simpa using hbv)⟩)
    · refine v_skip ?_
      refine v_region ?_
      refine vl_val (os_move rfl) ?_
      refine vl_val (os_subi rfl rfl (by omega)) ?_
      refine vl_val (os_assign rfl) ?_
      refine vl_nil ?_
      exact ⟨j - 1, ⟨rfl, rfl, trivial⟩, ⟨get_int rfl (by omega), trivial⟩, ⟨by omega, by rw [show n - (j - 1) = r + 1 by omega]; exact hy (by simpa using hbv)⟩, by dsimp only; omega⟩
  · obtain rfl : j = 0 := by omega
    refine v_exit ?_
    exact post_end0 rfl (.inl (by simpa using hJj))
theorem Nc.tb {B B' : Nat} {W W' : World} (h : Nc B W W') {tt e : TypeId} {v : Value} {us : List Value} {N : Nat} {cc : Nat → List Value} (ht : Tb W B' tt e v us N cc) : Tb W' B' tt e v us N cc := ⟨h.own ht.own, ht.len, fun i u hi hu => h.own (ht.each i u hi hu), ht.ne, ht.pair⟩
theorem Nc.tabs {B : Nat} {W W' : World} (h : Nc B W W') {H q n r ts a0} (ht : Tabs W H q n r ts a0) : Tabs W' H q n r ts a0 := fun a h1 h2 => by
  obtain ⟨T2, ub, cb, e, hT, hc⟩ := ht a h1 h2
  exact ⟨T2, ub, cb, e, h.tb hT, hc⟩
theorem Kn.kb {B : Nat} {S : List Nat} {W W' : World} (h : Kb S W W') (hS : ∀ b ∈ S, ∃ o : Obj, W.heap[b]? = some o ∧ o.isCells = true) : Kn B W W' :=
  ⟨h.size, fun k o _ hk ho => (h.block k (Array.getElem?_eq_some_iff.1 hk).1 (fun hm => by
    obtain ⟨o', h1, h2⟩ := hS k hm
    rw [hk] at h1; cases h1; rw [ho] at h2; cases h2)).trans hk⟩
end Go.Proofs.Ytpojijnjdlnokaa

/- Layer 13: which thresholds fit a task, as the program's sizes have it and as the layers have it. -/
namespace Go.Proofs.Ytpojijnjdlnokaa
open Go.RowKit
set_option linter.unusedVariables false

def SortF : Nat → List Nat → Prop
  | _, [] => True
  | k, x :: xs => k ≤ x ∧ SortF x xs
theorem okP_iff {q : TaskP} {n : Nat} (hR : TaskR q n) : ∀ {m i : Nat} {ks : List Nat} {k R : Nat}, m + i = q.lens.length → 1 ≤ k → (OkP n (lysF q m i) k R ks ↔ ks.length = m ∧ SortF k ks ∧ fitGo n R ((q.lens.drop i).zip (ks.map fun (x : Nat) => (x : Int))) = true)
  | 0, i, ks, k, R, hm, hk => by
    rw [List.drop_eq_nil_of_le (by omega), List.zip_nil_left]
    constructor
    · intro h
      have : ks = [] := h
      subst this; exact ⟨rfl, trivial, rfl⟩
    · intro h
      exact List.eq_nil_of_length_eq_zero h.1
  | m + 1, i, ks, k, R, hm, hk => by
    have hi : i < q.lens.length := by omega
    have hlen := hR.len i hi
    have hn2 := hR.n2
    have hdrop : q.lens.drop i = q.lens.getD i 0 :: q.lens.drop (i + 1) := by rw [List.drop_eq_getElem_cons hi]; simp [hi]
    rw [hdrop]
    have hw : ∀ x : Nat, 1 ≤ x → x ≤ n → widthOk (q.lens.getD i 0) x = true ∧ (((lyQ q i).wd x : Nat) : Int) = widthW (q.lens.getD i 0) x := fun x h1 h2 => by
      have hok : widthOk (q.lens.getD i 0) x = true := by simp only [widthOk, decide_eq_true_eq]; omega
      have hb := width_bd hok
      exact ⟨hok, by show ((widthW (q.lens.getD i 0) x).toNat : Int) = _; omega⟩
    constructor
    · rintro ⟨x, xs, rfl, h1, h2, h3, h4⟩
      obtain ⟨hok, hwx⟩ := hw x (by omega) h2
      have ih := (okP_iff hR (m := m) (i := i + 1) (by omega) (by omega : 1 ≤ x)).1 h4
      refine ⟨by rw [List.length_cons, ih.1], ⟨h1, ih.2.1⟩, ?_⟩
      rw [List.map_cons, List.zip_cons_cons, fitGo]
      simp only [Bool.and_eq_true, decide_eq_true_eq]
      rw [show (R : Int) - widthW (q.lens.getD i 0) x = ((R - (lyQ q i).wd x : Nat) : Int) by omega]
      exact ⟨⟨⟨by omega, hok⟩, by omega⟩, ih.2.2⟩
    · rintro ⟨h1, h2, h3⟩
      cases ks with
      | nil => simp at h1
      | cons x xs =>
        rw [List.map_cons, List.zip_cons_cons, fitGo] at h3
        simp only [Bool.and_eq_true, decide_eq_true_eq] at h3
        obtain ⟨⟨⟨g1, g2⟩, g3⟩, g4⟩ := h3
        have hkx : k ≤ x := h2.1
        obtain ⟨hok, hwx⟩ := hw x (by omega) (by omega)
        rw [show (R : Int) - widthW (q.lens.getD i 0) x = ((R - (lyQ q i).wd x : Nat) : Int) by omega] at g4
        exact ⟨x, xs, rfl, hkx, by omega, by omega, (okP_iff hR (m := m) (i := i + 1) (by omega) (by omega : 1 ≤ x)).2 ⟨by simpa using h1, h2.2, g4⟩⟩
theorem lysF_o' {q : TaskP} {n : Nat} (h : TaskR q n) : ∀ {m i : Nat}, m + i ≤ q.lens.length → ∀ l ∈ lysF q m i, ∀ k, 0 ≤ l.o k
  | 0, i, _, l, hl, _ => by cases hl
  | m + 1, i, hm, l, hl, k => by
    rcases List.mem_cons.1 hl with rfl | hl
    · by_cases hk : k ≤ n
      · exact (lyQ_o h (by omega) hk).1
      · have := h.lv
        show 0 ≤ q.worths.getD i 0 * q.ws.getD k 0
        rw [show q.ws.getD k 0 = 0 by simp [List.getElem?_eq_none (by omega : q.ws.length ≤ k)]]
        simp
    · exact lysF_o' h (by omega) l hl k
theorem lysF_wd {q : TaskP} {n : Nat} (h : TaskR q n) : ∀ {m i : Nat}, m + i ≤ q.lens.length → ∀ l ∈ lysF q m i, ∀ a b, 1 ≤ a → a ≤ b → l.wd b ≤ l.wd a
  | 0, i, _, l, hl, _, _, _, _ => by cases hl
  | m + 1, i, hm, l, hl, a, b, ha, hab => by
    rcases List.mem_cons.1 hl with rfl | hl
    · have h1 := h.len i (by omega)
      have := width_anti (a := q.lens.getD i 0) (k := (a : Int)) (j := (b : Int)) h1.1 (by omega) (by omega)
      show (widthW (q.lens.getD i 0) b).toNat ≤ (widthW (q.lens.getD i 0) a).toNat
      omega
    · exact lysF_wd h (by omega) l hl a b ha hab
theorem lysF_len {q : TaskP} : ∀ {m i : Nat}, (lysF q m i).length = m
  | 0, _ => rfl
  | m + 1, i => by rw [lysF, List.length_cons, lysF_len]
theorem sortF_rep {n : Nat} : ∀ {m k : Nat}, k ≤ n → SortF k (List.replicate m n)
  | 0, _, _ => trivial
  | m + 1, k, h => ⟨h, sortF_rep (Nat.le_refl _)⟩

def roomQ (q : TaskP) : Int := roomW q.n q.m q.b q.lens.length
/-- the greatest thresholds fit just if the best score is told -/
theorem can_iff {q : TaskP} {n : Nat} (hR : TaskR q n) : canB q.n q.m q.b q.lens = true ↔ 0 ≤ roomQ q ∧ scP n (lysF q q.lens.length 0) 1 (roomQ q).toNat ≠ -1 := by
  have hn := hR.n_
  have hn1 := hR.n1
  have hn2 := hR.n2
  have hl1 := hR.l1
  have hl2 := hR.l2
  have hr : rightB q.n q.m q.b = true := by simp only [rightB, decide_eq_true_eq]; have := hR.m1; have := hR.b1; omega
  have hro : roomOk q.n q.m q.b q.lens.length = true := by simp only [roomOk, hr, betw, Bool.true_and, decide_eq_true_eq]; omega
  have hlb : lensB q.lens = true := by
    simp only [lensB, betw, Bool.and_eq_true, decide_eq_true_eq, Bool.not_eq_true']
    refine ⟨by omega, List.any_eq_false.2 fun l hl => ?_⟩
    obtain ⟨i, hi, rfl⟩ := List.getElem_of_mem hl
    have := hR.len i hi
    have e : q.lens.getD i 0 = q.lens[i] := by simp [hi]
    simp; omega
  have hsr : sortedB (List.replicate q.lens.length q.n) = true := by
    simp only [sortedB, decide_eq_true_eq]
    intro i h1 h2
    simp at h1 h2
    simp [h1, h2]
  have hrep : List.replicate q.lens.length q.n = (List.replicate q.lens.length n).map fun (x : Nat) => (x : Int) := by rw [List.map_replicate, hn]
  have e1 : canB q.n q.m q.b q.lens = fitGo q.n (roomQ q) (q.lens.zip (List.replicate q.lens.length q.n)) := by
    simp only [canB, fitsB, hr, hro, hlb, hsr, List.length_replicate, decide_true, Bool.true_and, Bool.and_true]
    rfl
  rw [e1]
  by_cases h0 : 0 ≤ roomQ q
  · obtain ⟨R, hRR⟩ : ∃ R : Nat, roomQ q = R := ⟨(roomQ q).toNat, by omega⟩
    rw [hRR, hn, show ((R : Int)).toNat = R by omega]
    have key := okP_iff hR (m := q.lens.length) (i := 0) (ks := List.replicate q.lens.length n) (k := 1) (R := R) (by omega) (by omega)
    rw [List.drop_zero] at key
    rw [hn] at hrep
    rw [hrep]
    constructor
    · intro h
      have h1 := key.2 ⟨by simp, sortF_rep hn1, h⟩
      have h2 := okP_le (lysF_o' hR (by omega)) (by omega) h1
      exact ⟨by omega, by omega⟩
    · rintro ⟨-, h⟩
      have h1 := toldP_ok (lysF_o' hR (by omega)) (by omega) h
      have h2 := okP_all (lysF_wd hR (by omega)) (by omega) h1.1 R (Nat.le_refl _) 1 hn1
      rw [lysF_len] at h2
      exact (key.1 h2).2.2
  · constructor
    · intro h
      cases hq : q.lens with
      | nil => rw [hq] at hl1; simp at hl1
      | cons x xs =>
        rw [hq] at h
        rw [List.length_cons, List.replicate_succ, List.zip_cons_cons, fitGo] at h
        simp only [Bool.and_eq_true, decide_eq_true_eq] at h
        have := width_bd h.1.1.2
        omega
    · intro h; exact absurd h.1 h0

/-- what the best thresholds are -/
def bestE (q : TaskP) : Int := if taskB q then (if canB q.n q.m q.b q.lens then 0 else 12) else 2
def bestN (q : TaskP) : List Nat := toldP q.n.toNat (lysF q q.lens.length 0) 1 (roomQ q).toNat
def bestL (q : TaskP) : List Int := if bestE q = 0 then (bestN q).map (fun (x : Nat) => (x : Int)) else []
end Go.Proofs.Ytpojijnjdlnokaa
