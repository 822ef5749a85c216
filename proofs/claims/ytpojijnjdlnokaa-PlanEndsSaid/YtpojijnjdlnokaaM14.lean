/- Texts joined: PlX Vs PlS PlN PmP. -/
import Derived.Test.YtpojijnjdlnokaaM13
/- Layer 13: the walk of plan.Best, plan.Score. -/
namespace Go.Proofs.Ytpojijnjdlnokaa
open Go.RowKit
set_option linter.unusedVariables false

/-- the solver between two layers: k layers are done -/
structure Sol (w W : World) (d : TaskV) (q : TaskP) (n r g tg H k : Nat) (S2 : Nat) (us ts : List Value) (cc : Nat → List Value) : Prop where
  bk : Bk W g (solC d r (.slice (some ⟨S2, 0, none⟩) (n + 2) (n + 2)) (.slice (some ⟨tg, 0, none⟩) d.ll d.ll)) 142
  tb : Tb W w.heap.size 40 3 (.slice (some ⟨S2, 0, none⟩) (n + 2) (n + 2)) us (n + 2) cc
  cc : ∀ j, 1 ≤ j → j ≤ n → cc j = rowV (fun x => .int .i64 (scP n (lysF q k (q.lens.length - k)) j x)) r
  own : Own W w.heap.size 144 (.slice (some ⟨tg, 0, none⟩) d.ll d.ll) ts
  tabs : Tabs W H q n r ts (q.lens.length - k)
  bel : Below w.heap.size w W
  hs : H ≤ W.heap.size
theorem Sol.nc {w W W' : World} {d q n r g tg H k S2 us ts cc} {B : Nat} (h : Sol w W d q n r g tg H k S2 us ts cc) (hn : Nc B W W') (hB : w.heap.size ≤ B) : Sol w W' d q n r g tg H k S2 us ts cc :=
  ⟨hn.bk h.bk, hn.tb h.tb, h.cc, hn.own h.own, hn.tabs h.tabs, hn.below h.bel hB (Nat.le_refl _), Nat.le_trans h.hs hn.size⟩
theorem Sol.keep {w W W' : World} {d q n r g tg H k S2 us ts cc} (h : Sol w W d q n r g tg H k S2 us ts cc) (hb : Below W.heap.size W W') : Sol w W' d q n r g tg H k S2 us ts cc :=
  ⟨h.bk.keep hb, h.tb.keep hb, h.cc, h.own.keepAll hb, h.tabs.keep hb, h.bel.trans (hb.mono h.bel.size), Nat.le_trans h.hs hb.size⟩
theorem Tabs.set {W W' : World} {H q n r ts a0 a T2} {ub : List Value} {cb : Nat → List Value} (h : Tabs W H q n r ts (a + 1)) {S : List Nat} (hb : Kb S W W') (hS : ∀ b ∈ S, b < H) (ha : a < ts.length) (hT : Tb W' H 146 4 (.slice (some ⟨T2, 0, none⟩) (n + 2) (n + 2)) ub (n + 2) cb)
    (hc : ∀ k, 1 ≤ k → k ≤ n → cb k = rowV (fun x => .bool (takP (FQ q n (q.lens.length - (a + 1)) a x) n k)) r) (e : a0 = a) : Tabs W' H q n r (ts.set a (.slice (some ⟨T2, 0, none⟩) (n + 2) (n + 2))) a0 := fun i h1 h2 => by
  subst e
  by_cases hi : i = a0
  · subst hi
    exact ⟨T2, ub, cb, List.getElem?_set_self ha, hT, hc⟩
  · obtain ⟨T3, ub3, cb3, e3, hT3, hc3⟩ := (h.kb hb hS) i (by omega) h2
    exact ⟨T3, ub3, cb3, by rw [List.getElem?_set_ne (fun h => hi h.symm)]; exact e3, hT3, hc3⟩
theorem Sol.next {w W W' : World} {d : TaskV} {q : TaskP} {n r g tg H k a m S2 S3 T3 : Nat} {us ts us3 ub : List Value} {cc c3 cb : Nat → List Value} (h : Sol w W d q n r g tg H k S2 us ts cc) (hL : LayR W W' d q n r g tg a m w.heap.size ts S3 us3 c3 T3 ub cb) (hm : m = k) (ha : a + 1 + k = q.lens.length) (hg : g < H ∧ tg < H) (hg2 : w.heap.size ≤ g ∧ w.heap.size ≤ tg) (hll : d.ll = q.lens.length) :
    Sol w W' d q n r g tg H (k + 1) S3 us3 (ts.set a (.slice (some ⟨T3, 0, none⟩) (n + 2) (n + 2))) c3 := by
  subst hm
  have e : q.lens.length - (m + 1) = a := by omega
  have e2 : q.lens.length - m = a + 1 := by omega
  have hl := Own.len h.own
  have hsz := hL.kb.size
  have hbs := h.bel.size
  refine ⟨hL.bk, hL.tS.mono hbs, fun j h1 h2 => by rw [e]; exact hL.cS j h1 h2, hL.own, ?_, hL.kb.below h.bel (fun b hb => by simp at hb; rcases hb with rfl | rfl <;> omega) hbs, Nat.le_trans h.hs hsz⟩
  have h3 := h.tabs
  rw [e2] at h3
  exact h3.set hL.kb (fun b hb => by simp at hb; rcases hb with rfl | rfl <;> omega) (by omega) (hL.tT.mono h.hs) (fun k h1 h2 => by rw [show q.lens.length - (a + 1) = m by omega]; exact hL.cT k h1 h2) e

set_option maxHeartbeats 8000000 in
theorem pn_Best (d : TaskV) (q : TaskP) (w : World) (hd : TaskOk w d q) : Gives Try.prog 29 #[.agg d.cells.toArray] w fun v w' => ∃ s, v = .tuple #[s, .int .i64 (bestE q)] ∧ OwnK w' w.heap.size 3 .i64 s (bestL q) ∧ Below w.heap.size w w' := by
  have hB := bk_new w d.cells 44
  have hb0 : Below w.heap.size w (w.alloc (.cells d.cells.toArray 44)) := (Below.refl _ w).alloc (Nat.le_refl _) _
  cases hT : taskB q
  · have hE : bestE q = 2 := by simp [bestE, hT]
    refine gives_enter Try.call29 Try.func29 rfl rfl rfl (by kernel_rfl) ?_
    refine v_seq ?_
    refine v_region ?_
    refine vl_val (os_box rfl) ?_
    refine vl_val (os_assign rfl) ?_
    refine vl_val (os_assign rfl) ?_
    refine vl_nil ?_
    refine v_seq ?_
    refine v_seq ?_
    refine v_region ?_
    refine vl_val (os_loadB Try.underlying44 rfl (by kernel_rfl) rfl hB) ?_
    refine vl_call (gives_boolb (pn_Right d q _ (hd.keep hb0)) hT) rfl ?_
    rintro v1 w1 ⟨rfl, b1⟩
    refine vl_val (os_not rfl) ?_
    refine vl_nil ?_
    refine v_cond_t rfl ?_
    refine v_seq ?_
    refine v_region ?_
    refine vl_val (os_assign rfl) ?_
    refine vl_val (os_assign rfl) ?_
    refine vl_nil ?_
    refine v_ret ?_
    exact post_ret2 rfl rfl rfl (⟨_, by rw [hE], by rw [bestL, if_neg (by rw [hE]; decide)]; exact Own.nil _ _ _, hb0.trans (b1.mono hb0.size)⟩)
  have hR := taskR hT
  obtain ⟨n, hn⟩ : ∃ n, n = q.n.toNat := ⟨_, rfl⟩
  rw [← hn] at hR
  have hdn : d.n = (n : Int) := hd.n.trans hR.n_
  have hn1 := hR.n1
  have hn2 := hR.n2
  have hl1 := hR.l1
  have hl8 := hR.l2
  have hll := hd.ll
  have hro : roomOk q.n q.m q.b d.ll = true := by
    have := hR.n_; have := hR.m1; have := hR.b1
    simp only [roomOk, rightB, betw, Bool.and_eq_true, decide_eq_true_eq]; omega
  have hrv : roomV d.n d.m d.b d.ll = roomQ q := by rw [hd.n, hd.m, hd.b]; unfold roomV; rw [if_pos hro]; unfold roomQ; rw [hll]
  have hci := can_iff hR
  cases hC : canB q.n q.m q.b q.lens
  · have hE : bestE q = 12 := by simp [bestE, hT, hC]
    refine gives_enter Try.call29 Try.func29 rfl rfl rfl (by kernel_rfl) ?_
    refine v_seq ?_
    refine v_region ?_
    refine vl_val (os_box rfl) ?_
    refine vl_val (os_assign rfl) ?_
    refine vl_val (os_assign rfl) ?_
    refine vl_nil ?_
    refine v_seq ?_
    refine v_seq ?_
    refine v_region ?_
    refine vl_val (os_loadB Try.underlying44 rfl (by kernel_rfl) rfl hB) ?_
    refine vl_call (gives_boolb (pn_Right d q _ (hd.keep hb0)) hT) rfl ?_
    rintro v1 w1 ⟨rfl, b1⟩
    have hb1 := hb0.trans (b1.mono hb0.size)
    have hB1 := hB.keep b1
    refine vl_val (os_not rfl) ?_
    refine vl_nil ?_
    refine v_cond_f rfl ?_
    refine v_skip ?_
    refine v_seq ?_
    refine v_region ?_
    refine vl_val (os_fa (o := 0) (k := 2) (by kernel_rfl) rfl) ?_
    refine vl_val (os_loadP (cs := [.int .i64 d.n, .int .i64 d.m, .int .i64 d.b]) Try.underlying42 rfl (by kernel_rfl) rfl ((Bk.rdc hB1).take 3)) ?_
    refine vl_val (os_fa (o := 3) (k := 0) (by kernel_rfl) rfl) ?_
    refine vl_val (os_load Try.isAgg40 rfl (hB1.cell (i := 3) rfl)) ?_
    refine vl_val (os_len Try.underlying40 rfl) ?_
    refine vl_call (size_Room d.n d.m d.b d.ll w1) rfl ?_
    rintro v2 w2 ⟨rfl, b2⟩
    have hb2 := hb1.trans (b2.mono hb1.size)
    have hB2 := hB1.keep b2
    refine vl_val (os_move rfl) ?_
    refine vl_val (os_extract rfl rfl) ?_
    refine vl_val (os_extract rfl rfl) ?_
    refine vl_val (os_assign rfl) ?_
    refine vl_val (os_assign rfl) ?_
    refine vl_nil ?_
    refine v_seq ?_
    refine v_seq ?_
    refine v_region ?_
    refine vl_val (os_fa (o := 0) (k := 2) (by kernel_rfl) rfl) ?_
    refine vl_val (os_loadP (cs := [.int .i64 d.n, .int .i64 d.m, .int .i64 d.b]) Try.underlying42 rfl (by kernel_rfl) rfl ((Bk.rdc hB2).take 3)) ?_
    refine vl_val (os_fa (o := 3) (k := 0) (by kernel_rfl) rfl) ?_
    refine vl_val (os_load Try.isAgg40 rfl (hB2.cell (i := 3) rfl)) ?_
    refine vl_call (gives_boolb (size_Can d.n d.m d.b d.AL d.ll d.lc q.lens w2 (hd.L.keep hb2) hll (by omega) (by rw [hd.n]; exact hd.iN.1)) (show canB d.n d.m d.b q.lens = false by rw [hd.n, hd.m, hd.b]; exact hC)) rfl ?_
    rintro v3 w3 ⟨rfl, b3⟩
    refine vl_val (os_not rfl) ?_
    refine vl_nil ?_
    refine v_cond_t rfl ?_
    refine v_seq ?_
    refine v_region ?_
    refine vl_val (os_assign rfl) ?_
    refine vl_val (os_assign rfl) ?_
    refine vl_nil ?_
    refine v_ret ?_
    exact post_ret2 rfl rfl rfl (⟨_, by rw [hE], by rw [bestL, if_neg (by rw [hE]; decide)]; exact Own.nil _ _ _, hb2.trans (b3.mono hb2.size)⟩)
  obtain ⟨hr0, hsc⟩ := hci.1 hC
  have hE : bestE q = 0 := by simp [bestE, hT, hC]
  obtain ⟨r, hr⟩ : ∃ r : Nat, roomQ q = r := ⟨(roomQ q).toNat, by omega⟩
  have hr2 : r ≤ 2000 := by
    have : roomQ q ≤ 1500 := by unfold roomQ roomW; have := hR.m1; omega
    omega
  have hrn : (roomQ q).toNat = r := by omega
  rw [hrn] at hsc
  have hbl : bestL q = (toldP n (lysF q q.lens.length 0) 1 r).map fun (x : Nat) => (x : Int) := by unfold bestL bestN; rw [if_pos hE, ← hn, hrn]
  refine gives_enter Try.call29 Try.func29 rfl rfl rfl (by kernel_rfl) ?_
  refine v_seq ?_
  refine v_region ?_
  refine vl_val (os_box rfl) ?_
  refine vl_val (os_assign rfl) ?_
  refine vl_val (os_assign rfl) ?_
  refine vl_nil ?_
  refine v_seq ?_
  refine v_seq ?_
  refine v_region ?_
  refine vl_val (os_loadB Try.underlying44 rfl (by kernel_rfl) rfl hB) ?_
  refine vl_call (gives_boolb (pn_Right d q _ (hd.keep hb0)) hT) rfl ?_
  rintro v1 w1 ⟨rfl, b1⟩
  have hb1 := hb0.trans (b1.mono hb0.size)
  have hB1 := hB.keep b1
  refine vl_val (os_not rfl) ?_
  refine vl_nil ?_
  refine v_cond_f rfl ?_
  refine v_skip ?_
  refine v_seq ?_
  refine v_region ?_
  refine vl_val (os_fa (o := 0) (k := 2) (by kernel_rfl) rfl) ?_
  refine vl_val (os_loadP (cs := [.int .i64 d.n, .int .i64 d.m, .int .i64 d.b]) Try.underlying42 rfl (by kernel_rfl) rfl ((Bk.rdc hB1).take 3)) ?_
  refine vl_val (os_fa (o := 3) (k := 0) (by kernel_rfl) rfl) ?_
  refine vl_val (os_load Try.isAgg40 rfl (hB1.cell (i := 3) rfl)) ?_
  refine vl_val (os_len Try.underlying40 rfl) ?_
  refine vl_call (size_Room d.n d.m d.b d.ll w1) rfl ?_
  rintro v2 w2 ⟨rfl, b2⟩
  have hb2 := hb1.trans (b2.mono hb1.size)
  have hB2 := hB1.keep b2
  rw [hrv, hr]
  refine vl_val (os_move rfl) ?_
  refine vl_val (os_extract rfl rfl) ?_
  refine vl_val (os_extract rfl rfl) ?_
  refine vl_val (os_assign rfl) ?_
  refine vl_val (os_assign rfl) ?_
  refine vl_nil ?_
  refine v_seq ?_
  refine v_seq ?_
  refine v_region ?_
  refine vl_val (os_fa (o := 0) (k := 2) (by kernel_rfl) rfl) ?_
  refine vl_val (os_loadP (cs := [.int .i64 d.n, .int .i64 d.m, .int .i64 d.b]) Try.underlying42 rfl (by kernel_rfl) rfl ((Bk.rdc hB2).take 3)) ?_
  refine vl_val (os_fa (o := 3) (k := 0) (by kernel_rfl) rfl) ?_
  refine vl_val (os_load Try.isAgg40 rfl (hB2.cell (i := 3) rfl)) ?_
  refine vl_call (gives_boolb (size_Can d.n d.m d.b d.AL d.ll d.lc q.lens w2 (hd.L.keep hb2) hll (by omega) (by rw [hd.n]; exact hd.iN.1)) (show canB d.n d.m d.b q.lens = true by rw [hd.n, hd.m, hd.b]; exact hC)) rfl ?_
  rintro v3 w3 ⟨rfl, b3⟩
  have hb3 := hb2.trans (b3.mono hb2.size)
  have hB3 := hB2.keep b3
  refine vl_val (os_not rfl) ?_
  refine vl_nil ?_
  refine v_cond_f rfl ?_
  refine v_skip ?_
  refine v_seq ?_
  refine v_region ?_
  refine vl_val (os_loadB Try.underlying44 rfl (by kernel_rfl) rfl hB3) ?_
  refine vl_val (os_move rfl) ?_
  refine vl_call (pn_over d n r w3 hdn hn2 hr2 (by omega)) rfl ?_
  rintro v4 w4 ⟨g, sg, tg, us, rfl, hO, b4⟩
  have hb4 := hb3.trans (b4.mono hb3.size)
  refine vl_val (os_alloc1 Try.zeroValue89 rfl) ?_
  have hP0 := bk_new w4 [.pointer none] 89
  have hb5a := hb4.alloc hb4.size (.cells [Value.pointer none].toArray 89)
  refine vl_unit (ou_store Try.sizeOf89 rfl rfl rfl (hP0.cell (i := 0) rfl) (hP0.free _)) ?_
  have hP1 := hP0.set 0 (.pointer (some ⟨g, 0, none⟩))
  have b5 : Below w4.heap.size w4 ((w4.alloc (.cells [Value.pointer none].toArray 89)).setCell ⟨w4.heap.size, 0 + 0, none⟩ (.pointer (some ⟨g, 0, none⟩))) := below_set ((Below.refl _ _).alloc (Nat.le_refl _) _) (Nat.le_refl _) _ _
  obtain ⟨p5, hp5⟩ : ∃ p5, p5 = w4.heap.size := ⟨_, rfl⟩
  rw [← hp5] at hP1 b5 ⊢
  rw [Nat.zero_add] at hP1 b5
  obtain ⟨w5, hw5⟩ : ∃ w5, w5 = (w4.alloc (.cells [Value.pointer none].toArray 89)).setCell ⟨p5, 0, none⟩ (.pointer (some ⟨g, 0, none⟩)) := ⟨_, rfl⟩
  rw [← hw5] at hP1 b5
  have hs5 : w5.heap.size = p5 + 1 := by rw [hw5, hp5]; simp [World.setCell]
  rw [← hw5]
  have hb5 := hb4.trans ((hp5 ▸ b5 : Below w4.heap.size w4 w5).mono hb4.size)
  have b35 := b4.trans ((hp5 ▸ b5 : Below w4.heap.size w4 w5).mono b4.size)
  have hB5 := hB3.keep b35
  refine vl_nil ?_
  refine v_range_seq ?_
  refine v_region ?_
  refine vl_val (os_fa (o := 3) (k := 0) (by kernel_rfl) rfl) ?_
  refine vl_val (os_load Try.isAgg40 rfl (hB5.cell (i := 3) rfl)) ?_
  refine vl_call (sl_Backward d.AL d.ll d.lc w5) rfl ?_
  rintro v6 w6 ⟨rfl, hw6⟩
  have P6 : Bk w6 (p5 + 1) [.slice d.AL d.ll d.lc] 40 := by rw [hw6, ← hs5]; exact bk_new w5 [.slice d.AL d.ll d.lc] 40
  have b6 : Below w5.heap.size w5 w6 := by rw [hw6]; exact (Below.refl _ _).alloc (Nat.le_refl _) _
  have hs6 : w6.heap.size = p5 + 2 := by rw [hw6]; simp [hs5]
  have P5 := hP1.keep b6
  have b46 : Below w4.heap.size w4 w6 := (hp5 ▸ b5 : Below w4.heap.size w4 w5).trans (b6.mono (hp5 ▸ b5 : Below w4.heap.size w4 w5).size)
  have hb6 := hb4.trans (b46.mono hb4.size)
  have hgl := hO.bk.lt
  have htl := (World.ownsRow.lt hO.own tg rfl)
  have hS0 : Sol w w6 d q n r g tg w4.heap.size 0 sg us (List.replicate d.ll (.slice none 0 0)) (fun _ => List.replicate (r + 1) (.int .i64 0)) := ⟨hO.bk.keep b46, (hO.tb.keep b46).mono hb3.size, fun j _ _ => by rw [rowV_rep]; rfl, (hO.own.keepAll b46).mono hb3.size, fun a h1 h2 => absurd h1 (by omega), hb6, b46.size⟩
  rw [hs5]
  refine vl_nil ?_
  refine v_range (d.ll) (fun k => [.int .i64 ((d.ll - 1 - k : Nat) : Int), .int .i64 (q.lens.getD (d.ll - 1 - k) 0)]) (fun k w' => (∃ S2 us ts cc, Sol w w' d q n r g tg w4.heap.size k S2 us ts cc) ∧ Bk w' p5 [.pointer (some ⟨g, 0, none⟩)] 89 ∧ Bk w' (p5 + 1) [.slice d.AL d.ll d.lc] 40) (fun e w' => False) (fun k => [(7, .int .i64 ((d.ll - 1 - k : Nat) : Int)), (6, .pointer (some ⟨p5, 0, none⟩))]) Try.call100 rfl (fun _ => rfl) (fun k W W' ⟨⟨S2, us, ts, cc, h1⟩, h2, h3⟩ hn => ⟨⟨S2, us, ts, cc, h1.nc hn hb6.size⟩, hn.bk h2, hn.bk h3⟩) (fun _ => Abd.no) (⟨⟨_, _, _, _, hS0⟩, P5, P6⟩) (fun l J Jx W hW hJI hJ hJx hR hJ0 => sl_Backward_fn l (p5 + 1) d.AL d.ll d.lc q.lens J Jx W (fun k W h => by obtain ⟨⟨S2, us, ts, cc, h1⟩, h2, h3⟩ := hJI k W h; exact ⟨h3.cell (i := 0) rfl, hd.L.keep h1.bel⟩) hll (by omega) hR hJ0) ?_ ?_ ?_ (fun _ _ _ _ h => h.elim) (fun _ _ _ _ _ h => h.elim)
  · intro l k w'
    refine v_region ?_
    refine vl_val (os_assign rfl) ?_
    refine vl_nil ?_
    exact ⟨rfl, rfl, ⟨rfl, rfl, trivial⟩⟩
  · rintro l k w' hk ⟨⟨S2, us2, ts, cc, h1⟩, h2, h3⟩
    refine v_block ?_
    refine v_region ?_
    refine vl_val (os_load Try.isAgg89 rfl (h2.cell (i := 0) rfl)) ?_
    have gn : tg ≠ g := hO.ne3
    have glo : w3.heap.size ≤ g := hO.lo
    have wlo := hb3.size
    refine vl_val (os_move rfl) ?_
    refine vl_call (pn_layer d q n r g S2 tg (d.ll - 1 - k) k w.heap.size us2 ts cc _ (hd.keep h1.bel) hR (by omega) hr2 h1.bk h1.tb (by have h9 := h1.cc; rw [show q.lens.length - k = (d.ll - 1 - k) + 1 by omega] at h9; exact h9) h1.own gn (by omega)) rfl ?_
    rintro v9 w9 ⟨S3, us3, c3, T3, ub, cb, hLy⟩
    refine vl_nil ?_
    exact ⟨Kn.kb hLy.kb (fun b hb => by simp at hb; rcases hb with rfl | rfl; exact ⟨_, h1.bk, rfl⟩; exact Own.row_cells h1.own _ rfl), ⟨S3, us3, _, c3, h1.next hLy rfl (by omega) ⟨by omega, by omega⟩ ⟨by omega, by omega⟩ hll⟩, Bk.kb h2 hLy.kb (by simp; omega), Bk.kb h3 hLy.kb (by simp; omega)⟩
  · rintro D w' hD hK ⟨⟨S2, us2, ts, cc, h1⟩, h2, h3⟩
    refine v_seq ?_
    refine v_region ?_
    refine vl_val (os_load Try.isAgg89 rfl (h2.cell (i := 0) rfl)) ?_
    have htab := h1.tabs
    rw [show q.lens.length - d.ll = 0 by omega] at htab
    refine vl_call (pn_told d q n r g tg w4.heap.size _ ts _ (hd.keep h1.bel) hR hr2 h1.bk h1.own.rdc' htab hsc) rfl ?_
    rintro v9 w9 ⟨ho9, b9⟩
    have hK' := (Kn.of_leg (B := 0) b9).block D _ (Nat.zero_le _) hK rfl
    have hN := Nc.put (B := w6.heap.size) (.deferred none) hD hK' rfl
    have hb9 := h1.bel.trans (b9.mono h1.bel.size)
    refine vl_val (os_assign rfl) ?_
    refine vl_val (os_assign rfl) ?_
    refine vl_nil ?_
    refine v_ret ?_
    exact post_m (fn := Try.f29) (hK') (fun a ha => res_tt (t := 2) (t2 := 3) rfl rfl rfl  ha) (⟨_, by rw [hE], by rw [hbl]; exact hN.own (Own.mono ho9 h1.bel.size), hN.below hb9 hb6.size (Nat.le_refl _)⟩)
end Go.Proofs.Ytpojijnjdlnokaa

/- A guarded operation of which a fact is told; literals of which a fact is told. No program in sight. -/
namespace Go.Proofs.Ytpojijnjdlnokaa
open Go.RowKit
set_option linter.unusedVariables false

section
variable {P : Program} {n : Cx} {all rest : List Oper} {fr : Fr} {w : World} {Q : Exit → Fr → World → Prop} {d : Nat} {op : Op} {ty : TypeId} {pos : String} {aft : Array Edge}
theorem vl_someg {T : Value → World → Prop} {j : Nat} {b : Bool} (hg : guardF all fr j = some (.bool b)) (h : OT P n op ty fr w T) (k : ∀ v w', T v w' → VL P n all rest ((d, v) :: fr) w' Q) : VL P n all (⟨some d, op, ty, pos, aft, some (j, b)⟩ :: rest) fr w Q := by
  unfold VL
  intro hok a ha
  obtain ⟨h1, h2⟩ := dst_lt hok rfl
  unfold OT at h
  obtain ⟨v, w', hr, ht⟩ := h a ha
  have k' := k v w' ht
  unfold VL at k'
  unfold wpListIn
  simp only [Region.wanted, guardF_yields ha hg, BEq.rfl, if_true]
  exact in_value (by rw [execOp_bare, hr]) (k' h2 _ (ha.put h1 v))
end
section
variable {P : Program} {n : Cx} {fr : Fr} {w : World} {ty T e : TypeId}
/-- a list of integers, written out -/
theorem ot_litZ {k : IntKind} (zs : List Int) {l : Nat} {ps : List (Nat × Operand)} {z0 : Value} (hT : P.underlying T = some (.slice e)) (hs : ∀ w, (sizeOf e).run P w = .ok 1 w) (hz : ∀ w, (zeroValue e).run P w = .ok z0 w) (hz1 : z0.cells.size = 1) (hx : evP fr ps 0 = some (zs.map (Value.int k))) (hone : oneCells (zs.map (Value.int k)) = true) (hl : l = zs.length) (h2 : l ≤ 16777216) :
    OT P n (.buildSlice T l ps.toArray) ty fr w fun v w' => ∃ g, v = .slice (some ⟨g, 0, none⟩) l l ∧ Rd w' k (some ⟨g, 0, none⟩) zs ∧ Below w.heap.size w w' := by
  subst hl
  exact (os_lit hT hs hz hz1 hx (by simp) hone h2).ot ⟨_, rfl, rd_alloc w k zs e, (Below.refl _ _).alloc (Nat.le_refl _) _⟩
/-- the same: it is one's own -/
theorem ot_litO {k : IntKind} (zs : List Int) {l : Nat} {ps : List (Nat × Operand)} {z0 : Value} (hT : P.underlying T = some (.slice e)) (hs : ∀ w, (sizeOf e).run P w = .ok 1 w) (hz : ∀ w, (zeroValue e).run P w = .ok z0 w) (hz1 : z0.cells.size = 1) (hx : evP fr ps 0 = some (zs.map (Value.int k))) (hone : oneCells (zs.map (Value.int k)) = true) (hl : l = zs.length) (h2 : l ≤ 16777216) :
    OT P n (.buildSlice T l ps.toArray) ty fr w fun v w' => ∃ g, v = .slice (some ⟨g, 0, none⟩) l l ∧ OwnK w' w.heap.size e k (.slice (some ⟨g, 0, none⟩) l l) zs ∧ Below w.heap.size w w' := by
  subst hl
  have := own_alloc (B := w.heap.size) w (zs.map (Value.int k)) e (Nat.le_refl _) (by simp [maxLen]; omega)
  rw [List.length_map] at this
  exact (os_lit hT hs hz hz1 hx (by simp) hone h2).ot ⟨_, rfl, this, (Below.refl _ _).alloc (Nat.le_refl _) _⟩
/-- a list of one-cell values, written out: a new row of one's own -/
theorem ot_litU (vs : List Value) {l : Nat} {ps : List (Nat × Operand)} {z0 : Value} (hT : P.underlying T = some (.slice e)) (hs : ∀ w, (sizeOf e).run P w = .ok 1 w) (hz : ∀ w, (zeroValue e).run P w = .ok z0 w) (hz1 : z0.cells.size = 1) (hx : evP fr ps 0 = some vs) (hone : oneCells vs = true) (hl : l = vs.length) (h2 : l ≤ 16777216) :
    OT P n (.buildSlice T l ps.toArray) ty fr w fun v w' => v = .slice (some ⟨w.heap.size, 0, none⟩) l l ∧ Own w' w.heap.size e v vs ∧ w'.heap.size = w.heap.size + 1 ∧ Below w.heap.size w w' := by
  subst hl
  exact (os_lit hT hs hz hz1 hx (by simp) hone h2).ot ⟨rfl, own_alloc (B := w.heap.size) w vs e (Nat.le_refl _) (by simp [maxLen]; omega), by simp, (Below.refl _ _).alloc (Nat.le_refl _) _⟩
end
end Go.Proofs.Ytpojijnjdlnokaa

/- Layer 13: plan.Score; what the best thresholds are worth; awake. -/
namespace Go.Proofs.Ytpojijnjdlnokaa
open Go.RowKit
set_option linter.unusedVariables false

/-! ### what the best are -/
theorem okP_mem {n : Nat} : ∀ {ls : List Ly} {k R : Nat} {ks : List Nat}, OkP n ls k R ks → ks.length = ls.length ∧ ∀ x ∈ ks, k ≤ x ∧ x ≤ n
  | [], k, R, ks, h => by
    have : ks = [] := h
    subst this; exact ⟨rfl, fun x hx => by cases hx⟩
  | l :: r, k, R, ks, h => by
    obtain ⟨x, xs, rfl, h1, h2, h3, h4⟩ := h
    obtain ⟨g1, g2⟩ := okP_mem h4
    refine ⟨by simp [g1], fun y hy => ?_⟩
    rcases List.mem_cons.1 hy with rfl | hy
    · exact ⟨h1, h2⟩
    · have := g2 y hy; omega
def natL (ks : List Nat) : List Int := ks.map fun (x : Nat) => (x : Int)
theorem natL_at {ks : List Nat} {i : Nat} (hi : i < ks.length) : (natL ks).getD i 0 = (ks[i] : Int) := by simp [natL, hi]
theorem natL_len {ks : List Nat} : (natL ks).length = ks.length := by simp [natL]
theorem ok_scOk {q : TaskP} {n : Nat} (hT : taskB q = true) (hR : TaskR q n) {ks : List Nat} (hl : ks.length = q.lens.length) (hk : ∀ x ∈ ks, 1 ≤ x ∧ x ≤ n) : scOk q.worths (natL ks) q.ws = true := by
  have hw : wrightB q.n q.ws = true := by
    simp only [taskB, Bool.and_eq_true] at hT
    exact hT.2.2.2.2.2
  have h1 := hR.n_
  have h2 := hR.lv
  have h3 := hR.lw
  have h4 := hR.l2
  simp only [scOk, Bool.and_eq_true, decide_eq_true_eq]
  refine ⟨by rw [show (q.ws.length : Int) - 1 = q.n by omega]; exact hw, by rw [natL_len]; omega, by rw [natL_len]; omega, fun i hi => ?_⟩
  rw [natL_len] at hi
  have h5 := hk ks[i] (List.getElem_mem _)
  have h6 := hR.wor i (by omega)
  unfold scGood
  rw [natL_at hi]
  omega
theorem sumP_sc {q : TaskP} {ks : List Nat} (hl : ks.length = q.lens.length) : ∀ {m i : Nat}, m + i = q.lens.length → sumP (lysF q m i) (ks.drop i) + scSum q.worths (natL ks) q.ws i = scSum q.worths (natL ks) q.ws ks.length
  | 0, i, h => by
    rw [List.drop_eq_nil_of_le (by omega), show i = ks.length by omega]
    simp [lysF, sumP]
  | m + 1, i, h => by
    have hi : i < ks.length := by omega
    have ih := sumP_sc hl (m := m) (i := i + 1) (by omega)
    rw [List.drop_eq_getElem_cons hi, lysF, sumP]
    have e : (lyQ q i).o ks[i] = scT q.worths (natL ks) q.ws i := by
      unfold scT
      rw [natL_at hi]
      simp [lyQ]
    rw [scSum] at ih
    omega
theorem sumP_scV {q : TaskP} {ks : List Nat} (hl : ks.length = q.lens.length) (hs : scOk q.worths (natL ks) q.ws = true) : scV q.worths (natL ks) q.ws = sumP (lysF q q.lens.length 0) ks := by
  have := sumP_sc hl (m := q.lens.length) (i := 0) (by omega)
  rw [List.drop_zero] at this
  unfold scV
  rw [if_pos hs, natL_len, ← this]
  simp [scSum]
/-- all that is known of the best -/
structure BestR (q : TaskP) (n R : Nat) : Prop where
  task : taskB q = true
  R_ : TaskR q n
  room : roomQ q = R
  can : canB q.n q.m q.b q.lens = true
  l : bestL q = natL (bestN q)
  ok : OkP n (lysF q q.lens.length 0) 1 R (bestN q)
  sum : sumP (lysF q q.lens.length 0) (bestN q) = scP n (lysF q q.lens.length 0) 1 R
  len : (bestN q).length = q.lens.length
  mem : ∀ x ∈ bestN q, 1 ≤ x ∧ x ≤ n
  sc : scOk q.worths (bestL q) q.ws = true
theorem bestR {q : TaskP} (h : bestE q = 0) : BestR q q.n.toNat (roomQ q).toNat := by
  have hT : taskB q = true := by
    cases hh : taskB q
    · simp [bestE, hh] at h
    · rfl
  have hC : canB q.n q.m q.b q.lens = true := by
    cases hh : canB q.n q.m q.b q.lens
    · simp [bestE, hT, hh] at h
    · rfl
  have hR := taskR hT
  obtain ⟨h0, hsc⟩ := (can_iff hR).1 hC
  have hl : bestL q = natL (bestN q) := by unfold bestL natL; rw [if_pos h]
  have hok := toldP_ok (lysF_o' hR (m := q.lens.length) (i := 0) (by omega)) (by omega) hsc
  have hmem := okP_mem hok.1
  rw [lysF_len] at hmem
  exact ⟨hT, hR, by omega, hC, hl, hok.1, hok.2, hmem.1, fun x hx => hmem.2 x hx, by rw [hl]; exact ok_scOk hT hR hmem.1 (fun x hx => hmem.2 x hx)⟩
def scoreV (q : TaskP) : Int := if bestE q = 0 then scV q.worths (bestL q) q.ws else 0
theorem bestL_len {q : TaskP} : (bestL q).length ≤ 8 := by
  by_cases h : bestE q = 0
  · have hb := bestR h
    rw [hb.l, natL_len, hb.len]; exact hb.R_.l2
  · unfold bestL; rw [if_neg h]; simp
theorem bestE_cases (q : TaskP) : bestE q = 0 ∨ bestE q = 2 ∨ bestE q = 12 := by
  unfold bestE; split
  · split
    · exact .inl rfl
    · exact .inr (.inr rfl)
  · exact .inr (.inl rfl)

theorem pn_Score (d : TaskV) (q : TaskP) (w : World) (hd : TaskOk w d q) : Gives Try.prog 32 #[.agg d.cells.toArray] w fun v w' => v = .tuple #[.int .i64 (scoreV q), .int .i64 (bestE q)] ∧ Below w.heap.size w w' := by
  have hB := bk_new w d.cells 44
  have hb0 : Below w.heap.size w (w.alloc (.cells d.cells.toArray 44)) := (Below.refl _ w).alloc (Nat.le_refl _) _
  refine gives_enter Try.call32 Try.func32 rfl rfl rfl (by kernel_rfl) ?_
  refine v_seq ?_
  refine v_region ?_
  refine vl_val (os_box rfl) ?_
  refine vl_val (os_assign rfl) ?_
  refine vl_val (os_assign rfl) ?_
  refine vl_nil ?_
  refine v_seq ?_
  refine v_region ?_
  refine vl_val (os_loadB Try.underlying44 rfl (by kernel_rfl) rfl hB) ?_
  refine vl_call (pn_Best d q _ (hd.keep hb0)) rfl ?_
  rintro v1 w1 ⟨s, rfl, ho, b1⟩
  have hb1 := hb0.trans (b1.mono hb0.size)
  have hB1 := hB.keep b1
  have hd1 := hd.keep hb1
  refine vl_val (os_move rfl) ?_
  refine vl_val (os_extract rfl rfl) ?_
  refine vl_val (os_extract rfl rfl) ?_
  refine vl_val (os_assign rfl) ?_
  refine vl_val (os_assign rfl) ?_
  refine vl_nil ?_
  refine v_seq ?_
  refine v_seq ?_
  refine v_region ?_
  refine vl_val (os_move rfl) ?_
  refine vl_val (os_neq rfl rfl) ?_
  refine vl_nil ?_
  refine v_cond_d rfl (fun hE => ?_) (fun hE => ?_)
  · refine v_seq ?_
    refine v_region ?_
    refine vl_val (os_move rfl) ?_
    refine vl_val (os_assign rfl) ?_
    refine vl_val (os_assign rfl) ?_
    refine vl_nil ?_
    refine v_ret ?_
    exact post_ret2 rfl rfl rfl (⟨by rw [scoreV, if_neg hE], hb1⟩)
  · have hE0 : bestE q = 0 := by omega
    have hb := bestR hE0
    have hll := bestL_len (q := q)
    obtain ⟨A1, c1, rfl, -, -, hr1, -⟩ := OwnK.form ho
    refine v_skip ?_
    refine v_seq ?_
    refine v_region ?_
    refine vl_val (os_fa (o := 4) (k := 0) (by kernel_rfl) rfl) ?_
    refine vl_val (os_load Try.isAgg40 rfl (hB1.cell (i := 4) rfl)) ?_
    refine vl_val (os_move rfl) ?_
    refine vl_val (os_fa (o := 5) (k := 0) (by kernel_rfl) rfl) ?_
    refine vl_val (os_load Try.isAgg40 rfl (hB1.cell (i := 5) rfl)) ?_
    refine vl_call (wg_Score d.AW A1 d.AV d.wl _ d.vl d.wc c1 d.vc q.worths (bestL q) q.ws w1 hd1.W hr1 hd1.V hd1.wl rfl hd1.vl (by have := hd1.bw; omega) (by omega) (by have := hd1.bv; omega)) rfl ?_
    rintro v2 w2 ⟨rfl, d2⟩
    refine vl_val (os_extract rfl rfl) ?_
    refine vl_val (os_extract rfl rfl) ?_
    refine vl_val (os_assign rfl) ?_
    refine vl_val (os_assign rfl) ?_
    refine vl_nil ?_
    refine v_ret ?_
    exact post_ret2 rfl rfl rfl (⟨by rw [scoreV, if_pos hE0, hb.sc, hE0]; rfl, hb1.trans ((led_below d2).mono hb1.size)⟩)

/-! ### awake -/
def awT (a b : Int) : TaskP := ⟨4, 64, 200, [a, b], [1, 1], [9, 9, 9, 9, 9]⟩
theorem aw1 : bestE (awT 40 60) = 0 ∧ bestL (awT 40 60) = [4, 4] := by decide +kernel
theorem aw2 : bestE (awT 5 20) = 0 ∧ bestL (awT 5 20) = [1, 1] := by decide +kernel
theorem aw3 : bestE (awT 45 60) = 12 := by decide +kernel
end Go.Proofs.Ytpojijnjdlnokaa

/- Layer 13: awake; the walk of PlanNone. -/
namespace Go.Proofs.Ytpojijnjdlnokaa
open Go.RowKit
set_option linter.unusedVariables false

theorem sortF_iff : ∀ {ks : List Nat} {k : Nat}, SortF k ks ↔ (∀ i, i + 1 < ks.length → ks.getD i 0 ≤ ks.getD (i + 1) 0) ∧ (0 < ks.length → k ≤ ks.getD 0 0)
  | [], k => by simp [SortF]
  | x :: xs, k => by
    have ih := sortF_iff (ks := xs) (k := x)
    rw [SortF, ih]
    constructor
    · rintro ⟨h1, h2, h3⟩
      refine ⟨fun i hi => ?_, fun _ => by simpa using h1⟩
      cases i with
      | zero => have := h3 (by simp at hi; omega); simpa using this
      | succ i => have := h2 i (by simp at hi; omega); simpa using this
    · rintro ⟨h1, h2⟩
      refine ⟨by simpa using h2, fun i hi => by have := h1 (i + 1) (by simp; omega); simpa using this, fun h0 => by have := h1 0 (by simp; omega); simpa using this⟩
theorem fitGo_pos {n : Int} : ∀ {room : Int} {lens zs : List Int}, zs.length = lens.length → fitGo n room (lens.zip zs) = true → ∀ z ∈ zs, 1 ≤ z
  | room, [], [], _, _, z, hz => by cases hz
  | room, [], y :: ys, h, _, _, _ => by simp at h
  | room, x :: xs, [], h, _, _, _ => by simp at h
  | room, x :: xs, y :: ys, h, hf, z, hz => by
    rw [List.zip_cons_cons, fitGo] at hf
    simp only [Bool.and_eq_true, decide_eq_true_eq, widthOk] at hf
    rcases List.mem_cons.1 hz with rfl | hz
    · omega
    · exact fitGo_pos (by simpa using h) hf.2 z hz
theorem natL_toNat {zs : List Int} (h : ∀ z ∈ zs, 1 ≤ z) : natL (zs.map Int.toNat) = zs := by
  unfold natL
  rw [List.map_map]
  apply List.ext_getElem
  · simp
  · intro i h1 h2
    have := h zs[i] (List.getElem_mem _)
    simp; omega
/-- thresholds that fit -/
theorem fits_ok {q : TaskP} {n : Nat} (hR : TaskR q n) {zs : List Int} (h : fitsB q.n q.m q.b q.lens zs = true) : ∃ ks : List Nat, zs = natL ks ∧ 0 ≤ roomQ q ∧ OkP n (lysF q q.lens.length 0) 1 (roomQ q).toNat ks := by
  simp only [fitsB, Bool.and_eq_true, decide_eq_true_eq] at h
  obtain ⟨⟨⟨⟨h1, h2⟩, h3⟩, h4⟩, h5⟩ := h
  have hl1 := hR.l1
  have hp := fitGo_pos h3 h5
  have e := natL_toNat hp
  have h0 : 0 ≤ roomQ q := by
    cases hq : q.lens with
    | nil => rw [hq] at hl1; simp at hl1
    | cons x xs =>
      cases hz : zs with
      | nil => rw [hz, hq] at h3; simp at h3
      | cons y ys =>
        have h5' := h5
        rw [hq, hz] at h5'
        rw [List.zip_cons_cons, fitGo] at h5'
        simp only [Bool.and_eq_true, decide_eq_true_eq] at h5'
        have := width_bd h5'.1.1.2
        unfold roomQ
        rw [hq]
        omega
  refine ⟨zs.map Int.toNat, e.symm, h0, (okP_iff hR (by omega) (by omega)).2 ⟨by simpa using h3, sortF_iff.2 ⟨fun i hi => ?_, fun hi => ?_⟩, ?_⟩⟩
  · have h4' := of_decide_eq_true h4 i (by simp at hi; omega) (by simpa using hi)
    simp at hi
    have q1 : (zs.map Int.toNat).getD i 0 = (zs.getD i 0).toNat := by simp [show i < zs.length by omega]
    have q2 : (zs.map Int.toNat).getD (i + 1) 0 = (zs.getD (i + 1) 0).toNat := by simp [hi]
    rw [q1, q2]; omega
  · simp at hi
    have q1 : (zs.map Int.toNat).getD 0 0 = (zs.getD 0 0).toNat := by simp [hi]
    have := hp (zs.getD 0 0) (by simp [hi])
    rw [q1]; omega
  · rw [List.drop_zero]
    rw [show (zs.map Int.toNat).map (fun (x : Nat) => (x : Int)) = zs from e, ← hR.n_, show ((roomQ q).toNat : Int) = roomQ q by omega]
    exact h5
theorem ok_fits {q : TaskP} {n : Nat} (hR : TaskR q n) {ks : List Nat} (h0 : 0 ≤ roomQ q) (h : OkP n (lysF q q.lens.length 0) 1 (roomQ q).toNat ks) : fitsB q.n q.m q.b q.lens (natL ks) = true := by
  have hn := hR.n_
  have hn1 := hR.n1
  have hn2 := hR.n2
  have hl1 := hR.l1
  have hl2 := hR.l2
  have hr : rightB q.n q.m q.b = true := by simp only [rightB, decide_eq_true_eq]; have := hR.m1; have := hR.b1; omega
  have hro : roomOk q.n q.m q.b q.lens.length = true := by simp only [roomOk, hr, betw, Bool.true_and, decide_eq_true_eq]; omega
  have hlb : lensB q.lens = true := by
    simp only [lensB, betw, Bool.and_eq_true, decide_eq_true_eq, Bool.not_eq_true']
    refine ⟨by omega, List.any_eq_false.2 fun l hl => ?_⟩
    obtain ⟨i, hi, rfl⟩ := List.getElem_of_mem hl
    have := hR.len i hi
    have e : q.lens.getD i 0 = q.lens[i] := by simp [hi]
    simp; omega
  obtain ⟨h1, h2, h3⟩ := (okP_iff hR (by omega) (by omega)).1 h
  have hs := (sortF_iff.1 h2).1
  simp only [fitsB, Bool.and_eq_true, decide_eq_true_eq]
  refine ⟨⟨⟨⟨hro, hlb⟩, by rw [natL_len]; exact h1⟩, ?_⟩, ?_⟩
  · simp only [sortedB, decide_eq_true_eq]
    intro i g1 g2
    rw [natL_len] at g1 g2
    have := hs i g2
    rw [natL_at g1, natL_at g2]
    simp [g1, g2] at this
    omega
  · rw [List.drop_zero, ← hn, show ((roomQ q).toNat : Int) = roomQ q by omega] at h3
    exact h3
/-- none is better than the best -/
theorem best_none {q : TaskP} (h : bestE q = 0) {zs : List Int} (hf : fitsB q.n q.m q.b q.lens zs = true) : betOk q.worths zs (bestL q) q.ws = true ∧ betV q.worths zs (bestL q) q.ws = false := by
  have hb := bestR h
  have hR := hb.R_
  obtain ⟨ks, rfl, h0, hok⟩ := fits_ok hR hf
  have hm := okP_mem hok
  rw [lysF_len] at hm
  have hsc := ok_scOk hb.task hR hm.1 hm.2
  have ho := lysF_o' hR (m := q.lens.length) (i := 0) (by omega)
  have hle := okP_le ho (by omega) hok
  have hok2 : betOk q.worths (natL ks) (bestL q) q.ws = true := by simp only [betOk, hsc, hb.sc, Bool.and_self]
  have e1 := sumP_scV hm.1 hsc
  have e2 : scV q.worths (bestL q) q.ws = scP q.n.toNat (lysF q q.lens.length 0) 1 (roomQ q).toNat := by
    have := hb.sc
    rw [hb.l] at this ⊢
    rw [sumP_scV hb.len this, hb.sum]
  refine ⟨hok2, ?_⟩
  unfold betV
  rw [hok2, e1, e2]
  by_cases heq : sumP (lysF q q.lens.length 0) ks = scP q.n.toNat (lysF q q.lens.length 0) 1 (roomQ q).toNat
  · have := toldP_least ho (by omega) hok heq
    have e3 : bestL q = (toldP q.n.toNat (lysF q q.lens.length 0) 1 (roomQ q).toNat).map fun (x : Nat) => (x : Int) := hb.l
    rw [heq, e3, show lessL (natL ks) _ = false from this]
    simp
  · have h1 : ¬ (scP q.n.toNat (lysF q q.lens.length 0) 1 (roomQ q).toNat < sumP (lysF q q.lens.length 0) ks) := by omega
    simp [heq, h1]
theorem best_fits {q : TaskP} (h : bestE q = 0) : fitsB q.n q.m q.b q.lens (bestL q) = true := by
  have hb := bestR h
  have hr := hb.room
  rw [hb.l]
  exact ok_fits hb.R_ (by omega) hb.ok
theorem pl_fits_can {q : TaskP} (hT : taskB q = true) {zs : List Int} (hf : fitsB q.n q.m q.b q.lens zs = true) : canB q.n q.m q.b q.lens = true := by
  have hR := taskR hT
  obtain ⟨ks, rfl, h0, hok⟩ := fits_ok hR hf
  have := okP_le (lysF_o' hR (m := q.lens.length) (i := 0) (by omega)) (by omega) hok
  exact (can_iff hR).2 ⟨h0, by omega⟩

/-! ### awake -/
theorem awOk {w : World} {a b : Int} {gL gW gV : Nat} (ha : I64 a ∧ I64 b) (hL : Rd w .i64 (some ⟨gL, 0, none⟩) [a, b]) (hW : Rd w .i64 (some ⟨gW, 0, none⟩) [1, 1]) (hV : Rd w .i64 (some ⟨gV, 0, none⟩) [9, 9, 9, 9, 9]) : TaskOk w ⟨4, 64, 200, some ⟨gL, 0, none⟩, 2, 2, some ⟨gW, 0, none⟩, 2, 2, some ⟨gV, 0, none⟩, 5, 5⟩ (awT a b) :=
  ⟨hL, hW, hV, rfl, rfl, rfl, (by decide : (2 : Nat) ≤ 20000000000000), (by decide : (2 : Nat) ≤ 20000000000000), (by decide : (5 : Nat) ≤ 20000000000000), rfl, rfl, rfl, ⟨(⟨by decide, by decide⟩ : I64 4), (⟨by decide, by decide⟩ : I64 64), (⟨by decide, by decide⟩ : I64 200)⟩, fun z hz => by simp [awT] at hz; rcases hz with rfl | rfl; exact ha.1; exact ha.2, fun z hz => by simp [awT] at hz; subst hz; unfold I64; decide, fun z hz => by simp [awT] at hz; subst hz; unfold I64; decide⟩
set_option maxHeartbeats 2000000 in
theorem law13_awake (w : World) : Gives Try.prog 27 #[] w fun v w' => v = .bool true ∧ Below w.heap.size w w' := by
  have hN0 := bk_new w [.int .i64 0, .int .i64 0, .int .i64 0] 42
  have hN := setRow_bk hN0 [.int .i64 4, .int .i64 64, .int .i64 200]
  have b0 := below_setRow ((Below.refl _ w).alloc (Nat.le_refl _) (.cells [Value.int .i64 0, .int .i64 0, .int .i64 0].toArray 42)) (Nat.le_refl w.heap.size) [Value.int .i64 4, .int .i64 64, .int .i64 200].toArray
  have i40 : I64 40 ∧ I64 60 := by unfold I64; decide
  have i5 : I64 5 ∧ I64 20 := by unfold I64; decide
  have i45 : I64 45 ∧ I64 60 := by unfold I64; decide
  refine gives_enter Try.call27 Try.func27 rfl rfl rfl (by kernel_rfl) ?_
  refine v_seq ?_
  refine v_region ?_
  refine vl_val (os_assign rfl) ?_
  refine vl_nil ?_
  refine v_seq ?_
  refine v_region ?_
  refine vl_val (os_build (cs := [.int .i64 4, .int .i64 64, .int .i64 200]) rfl (by kernel_rfl)) ?_
  refine vl_val (os_allocB Try.zeroValue42 (zc := _) (cs := [.int .i64 0, .int .i64 0, .int .i64 0]) rfl) ?_
  refine vl_unit (ou_storeB (by kernel_rfl) rfl rfl hN0 rfl rfl) ?_
  generalize (w.alloc (.cells [Value.int .i64 0, .int .i64 0, .int .i64 0].toArray 42)).setRow w.heap.size [Value.int .i64 4, .int .i64 64, .int .i64 200].toArray = w0 at *
  refine vl_nil ?_
  refine v_seq ?_
  refine v_region ?_
  refine vl_some (ot_litZ [9, 9, 9, 9, 9] Try.underlying40 Try.sizeOf3 Try.zeroValue3 rfl rfl rfl rfl (by decide)) ?_
  rintro v1 w1 ⟨gV, rfl, rV, b1⟩
  have hN1 := hN.keep b1
  have b1w := b0.trans (b1.mono b0.size)
  refine vl_val (os_assign rfl) ?_
  refine vl_nil ?_
  refine v_seq ?_
  refine v_region ?_
  refine vl_val (os_loadB Try.underlying42 rfl (by kernel_rfl) rfl (hN1)) ?_
  refine vl_some (ot_litZ [40, 60] Try.underlying40 Try.sizeOf3 Try.zeroValue3 rfl rfl rfl rfl (by decide)) ?_
  rintro v2 w2 ⟨gL, rfl, rL, b2⟩
  refine vl_some (ot_litZ [1, 1] Try.underlying40 Try.sizeOf3 Try.zeroValue3 rfl rfl rfl rfl (by decide)) ?_
  rintro v3 w3 ⟨gW, rfl, rW, b3⟩
  have b3w := (b1w.trans (b2.mono b1w.size)).trans (b3.mono (b1w.trans (b2.mono b1w.size)).size)
  have rV3 := (rV.keep b2).keep b3
  have hN3 := (hN1.keep b2).keep b3
  refine vl_val (os_move rfl) ?_
  refine vl_val (os_build (cs := [.int .i64 4, .int .i64 64, .int .i64 200, .slice (some ⟨gL, 0, none⟩) 2 2, .slice (some ⟨gW, 0, none⟩) 2 2, .slice (some ⟨gV, 0, none⟩) 5 5]) rfl (by kernel_rfl)) ?_
  refine vl_call (pn_Best _ (awT 40 60) w3 (awOk i40 (rL.keep b3) rW rV3)) rfl ?_
  rintro v4 w4 ⟨s4, rfl, o4, b4⟩
  rw [aw1.1]
  rw [aw1.2] at o4
  have rV4 := rV3.keep b4
  have b4w := b3w.trans (b4.mono b3w.size)
  refine vl_val (os_move rfl) ?_
  refine vl_val (os_extract rfl rfl) ?_
  refine vl_val (os_extract rfl rfl) ?_
  refine vl_val (os_assign rfl) ?_
  refine vl_val (os_assign rfl) ?_
  refine vl_nil ?_
  refine v_seq ?_
  refine v_region ?_
  refine vl_val (os_loadB Try.underlying42 rfl (by kernel_rfl) rfl (hN3.keep b4)) ?_
  refine vl_some (ot_litZ [5, 20] Try.underlying40 Try.sizeOf3 Try.zeroValue3 rfl rfl rfl rfl (by decide)) ?_
  rintro v5 w5 ⟨gL5, rfl, rL5, b5⟩
  refine vl_some (ot_litZ [1, 1] Try.underlying40 Try.sizeOf3 Try.zeroValue3 rfl rfl rfl rfl (by decide)) ?_
  rintro v6 w6 ⟨gW6, rfl, rW6, b6⟩
  have b46 := b5.trans (b6.mono b5.size)
  have b6w := b4w.trans (b46.mono b4w.size)
  have rV6 := rV4.keep b46
  refine vl_val (os_move rfl) ?_
  refine vl_val (os_build (cs := [.int .i64 4, .int .i64 64, .int .i64 200, .slice (some ⟨gL5, 0, none⟩) 2 2, .slice (some ⟨gW6, 0, none⟩) 2 2, .slice (some ⟨gV, 0, none⟩) 5 5]) rfl (by kernel_rfl)) ?_
  refine vl_call (pn_Best _ (awT 5 20) w6 (awOk i5 (rL5.keep b6) rW6 rV6)) rfl ?_
  rintro v7 w7 ⟨s7, rfl, o7, b7⟩
  rw [aw2.1]
  rw [aw2.2] at o7
  have rV7 := rV6.keep b7
  have b47 := b46.trans (b7.mono b46.size)
  have b7w := b4w.trans (b47.mono b4w.size)
  refine vl_val (os_move rfl) ?_
  refine vl_val (os_extract rfl rfl) ?_
  refine vl_val (os_extract rfl rfl) ?_
  refine vl_val (os_assign rfl) ?_
  refine vl_val (os_assign rfl) ?_
  refine vl_nil ?_
  refine v_seq ?_
  refine v_region ?_
  refine vl_val (os_loadB Try.underlying42 rfl (by kernel_rfl) rfl ((hN3.keep b4).keep b47)) ?_
  refine vl_some (ot_litZ [45, 60] Try.underlying40 Try.sizeOf3 Try.zeroValue3 rfl rfl rfl rfl (by decide)) ?_
  rintro v8 w8 ⟨gL8, rfl, rL8, b8⟩
  refine vl_some (ot_litZ [1, 1] Try.underlying40 Try.sizeOf3 Try.zeroValue3 rfl rfl rfl rfl (by decide)) ?_
  rintro v9 w9 ⟨gW9, rfl, rW9, b9⟩
  have b79 := b8.trans (b9.mono b8.size)
  have b9w := b7w.trans (b79.mono b7w.size)
  have rV9 := rV7.keep b79
  refine vl_val (os_move rfl) ?_
  refine vl_val (os_build (cs := [.int .i64 4, .int .i64 64, .int .i64 200, .slice (some ⟨gL8, 0, none⟩) 2 2, .slice (some ⟨gW9, 0, none⟩) 2 2, .slice (some ⟨gV, 0, none⟩) 5 5]) rfl (by kernel_rfl)) ?_
  refine vl_call (pn_Best _ (awT 45 60) w9 (awOk i45 (rL8.keep b9) rW9 rV9)) rfl ?_
  rintro v10 w10 ⟨s10, rfl, o10, b10⟩
  rw [aw3]
  have b410 := b47.trans ((b79.trans (b10.mono b79.size)).mono b47.size)
  have b710 := b79.trans (b10.mono b79.size)
  have b10w := b9w.trans (b10.mono b9w.size)
  obtain ⟨A4, c4, rfl, -, -, r4, -⟩ := OwnK.form (Own.keepAll o4 b410)
  obtain ⟨A7, c7, rfl, -, -, r7, -⟩ := OwnK.form (Own.keepAll o7 b710)
  refine vl_val (os_move rfl) ?_
  refine vl_val (os_extract rfl rfl) ?_
  refine vl_val (os_extract rfl rfl) ?_
  refine vl_val (os_assign rfl) ?_
  refine vl_val (os_assign rfl) ?_
  refine vl_nil ?_
  refine v_seq ?_
  refine v_region ?_
  refine vl_val (os_move rfl) ?_
  refine vl_val (os_t (os_eql rfl rfl) (rfl)) ?_
  refine vl_val (os_move rfl) ?_
  refine vl_valg rfl (os_move rfl) ?_
  refine vl_someg rfl (ot_litZ [4, 4] Try.underlying40 Try.sizeOf3 Try.zeroValue3 rfl rfl rfl rfl (by decide)) ?_
  rintro v11 w11 ⟨g11, rfl, r11, b11⟩
  refine vl_callg rfl ((kit_SameInts A4 _ 2 2 c4 2 [4, 4] [4, 4] w11 (r4.keep b11) r11 rfl rfl (by decide) (by decide)).mono fun v w' hh => (⟨by rw [hh.1, decide_eq_true rfl], hh.2⟩ : v = .bool true ∧ LeD w11 w')) rfl ?_
  rintro v12 w12 ⟨rfl, d12⟩
  have b1012 := b11.trans ((led_below d12).mono b11.size)
  refine vl_val (os_pick_t rfl rfl) ?_
  refine vl_val (os_move rfl) ?_
  refine vl_valg rfl (os_move rfl) ?_
  refine vl_valg rfl (os_t (os_eql rfl rfl) (rfl)) ?_
  refine vl_val (os_pick_t rfl rfl) ?_
  refine vl_val (os_move rfl) ?_
  refine vl_valg rfl (os_move rfl) ?_
  refine vl_someg rfl (ot_litZ [1, 1] Try.underlying40 Try.sizeOf3 Try.zeroValue3 rfl rfl rfl rfl (by decide)) ?_
  rintro v13 w13 ⟨g13, rfl, r13, b13⟩
  refine vl_callg rfl ((kit_SameInts A7 _ 2 2 c7 2 [1, 1] [1, 1] w13 ((r7.keep b1012).keep b13) r13 rfl rfl (by decide) (by decide)).mono fun v w' hh => (⟨by rw [hh.1, decide_eq_true rfl], hh.2⟩ : v = .bool true ∧ LeD w13 w')) rfl ?_
  rintro v14 w14 ⟨rfl, d14⟩
  have b1014 := b1012.trans ((b13.trans ((led_below d14).mono b13.size)).mono b1012.size)
  refine vl_val (os_pick_t rfl rfl) ?_
  refine vl_val (os_move rfl) ?_
  refine vl_valg rfl (os_move rfl) ?_
  refine vl_valg rfl (os_eql rfl rfl) ?_
  refine vl_val (os_pick_t rfl rfl) ?_
  refine vl_val (os_assign rfl) ?_
  refine vl_nil ?_
  refine v_ret ?_
  exact post_ret rfl rfl (⟨rfl, b10w.trans (b1014.mono b10w.size)⟩)
end Go.Proofs.Ytpojijnjdlnokaa

/- Layer 13, plain: wider bounds, tighter ones, weights that are all alike. -/
namespace Go.Proofs.Ytpojijnjdlnokaa
open Go.RowKit
set_option linter.unusedVariables false

theorem natL_inj : ∀ {a b : List Nat}, natL a = natL b → a = b
  | [], [], _ => rfl
  | [], _ :: _, h => by simp [natL] at h
  | _ :: _, [], h => by simp [natL] at h
  | x :: xs, y :: ys, h => by
    simp only [natL, List.map_cons, List.cons.injEq] at h
    rw [natL_inj (a := xs) (b := ys) (by simpa [natL] using h.2), show x = y by have := h.1; omega]
theorem lysF_same {q q' : TaskP} (h1 : q'.lens = q.lens) (h2 : q'.worths = q.worths) (h3 : q'.ws = q.ws) : ∀ {m i : Nat}, lysF q' m i = lysF q m i
  | 0, _ => rfl
  | m + 1, i => by rw [lysF, lysF, lysF_same h1 h2 h3]; unfold lyQ; rw [h1, h2, h3]
theorem room_le {q : TaskP} {n m b m' b' : Int} {l : Nat} (hn : 1 ≤ n) (hm : m ≤ m') (hb : b ≤ b') : roomW n m b l ≤ roomW n m' b' l := by
  unfold roomW
  have := Int.ediv_le_ediv (c := n) (by omega) hb
  omega
/-- wider bounds: the score is no less -/
def wideQ (q : TaskP) (m b : Int) : TaskP := { q with m := m, b := b }
theorem wide {q : TaskP} (hE : bestE q = 0) {m b : Int} (hm : q.m ≤ m ∧ m ≤ 1500) (hb : q.b ≤ b ∧ b ≤ 524288) : bestE (wideQ q m b) = 0 ∧ scoreV q ≤ scoreV (wideQ q m b) := by
  have hB := bestR hE
  have hR := hB.R_
  have hT' : taskB (wideQ q m b) = true := by
    have h1 := hB.task
    have h2 := hR.m1
    have h3 := hR.b1
    simp only [taskB, rightB, Bool.and_eq_true, decide_eq_true_eq] at h1 ⊢
    refine ⟨⟨h1.1.1, h1.1.2.1, ?_, hm.2, ?_, hb.2⟩, h1.2⟩
    · show 64 ≤ m; omega
    · show 1 ≤ b; omega
  have hR' := taskR hT'
  have hl : lysF (wideQ q m b) q.lens.length 0 = lysF q q.lens.length 0 := lysF_same (q := q) (q' := wideQ q m b) rfl rfl rfl
  have hroom : roomQ q ≤ roomQ (wideQ q m b) := room_le (q := q) (by have := hR.n_; have := hR.n1; omega) hm.1 hb.1
  have h0 := hB.room
  have hok : OkP q.n.toNat (lysF (wideQ q m b) q.lens.length 0) 1 (roomQ (wideQ q m b)).toNat (bestN q) := by rw [hl]; exact okP_mono hB.ok (Nat.le_refl _) (by omega)
  have hf : fitsB q.n m b q.lens (bestL q) = true := by
    rw [hB.l]
    exact ok_fits hR' (show 0 ≤ roomQ (wideQ q m b) by omega) hok
  have hC : canB q.n m b q.lens = true := pl_fits_can hT' hf
  have hE' : bestE (wideQ q m b) = 0 := by
    unfold bestE
    rw [if_pos hT', if_pos (show canB (wideQ q m b).n (wideQ q m b).m (wideQ q m b).b (wideQ q m b).lens = true from hC)]
  refine ⟨hE', ?_⟩
  have hB' := bestR hE'
  have hle := okP_le (lysF_o' hR' (m := q.lens.length) (i := 0) (by show _ ≤ q.lens.length; omega)) (by omega) hok
  unfold scoreV
  rw [if_pos hE, if_pos hE']
  have e1 : scV q.worths (bestL q) q.ws = sumP (lysF q q.lens.length 0) (bestN q) := by have := hB.sc; rw [hB.l] at this ⊢; exact sumP_scV hB.len this
  have e2 : scV (wideQ q m b).worths (bestL (wideQ q m b)) (wideQ q m b).ws = sumP (lysF (wideQ q m b) q.lens.length 0) (bestN (wideQ q m b)) := by have := hB'.sc; rw [hB'.l] at this ⊢; exact sumP_scV hB'.len this
  have e3 := hB'.sum
  rw [e1, e2, show sumP (lysF (wideQ q m b) q.lens.length 0) (bestN (wideQ q m b)) = _ from e3, ← hl]
  exact hle.2
/-- bounds that the best just fill: the same are the best -/
theorem tight {q : TaskP} (hE : bestE q = 0) : layOk q.n (rowsZ (bestL q) q.lens) = true ∧ ∃ N : Int, ofV q.n (rowsZ (bestL q) q.lens) = N ∧ 0 ≤ N ∧ N ≤ 1500 ∧ N * q.n ≤ 524288 ∧ bestE (wideQ q (max N 64) (N * q.n)) = 0 ∧ bestL (wideQ q (max N 64) (N * q.n)) = bestL q := by
  have hB := bestR hE
  have hR := hB.R_
  have hf := best_fits hE
  have hlay := fits_lay hf
  have hn : q.n = q.n.toNat := hR.n_
  have hn1 := hR.n1
  have hn2 := hR.n2
  have hl1 := hR.l1
  have hl2 := hR.l2
  have hm1 := hR.m1
  have hb1 := hR.b1
  have hlen : (bestL q).length = q.lens.length := by rw [hB.l, natL_len, hB.len]
  have hrl : (rowsZ (bestL q) q.lens).length = q.lens.length := by simp [rowsZ, hlen]
  have hri : rightB q.n q.m q.b = true := by simp only [rightB, decide_eq_true_eq]; omega
  have hro : roomOk q.n q.m q.b q.lens.length = true := by simp only [roomOk, hri, betw, Bool.true_and, decide_eq_true_eq]; omega
  obtain ⟨S, hS⟩ : ∃ S, S = offS (rowsZ (bestL q) q.lens) (bestL q).length := ⟨_, rfl⟩
  have hS0 := (offS_bd (rows := rowsZ (bestL q) q.lens) (bestL q).length).1
  rw [← hS] at hS0
  have hle : S ≤ roomW q.n q.m q.b q.lens.length := by
    have := lay_fits (m := q.m) (b := q.b) hlen hro hlay
    rw [hf] at this
    rw [hS]
    exact of_decide_eq_true this.symm
  have hof : ofV q.n (rowsZ (bestL q) q.lens) = 18 + 3 * (q.lens.length : Int) + S := by
    unfold ofV
    rw [if_pos hlay, hrl, hS, hlen]
  refine ⟨hlay, 18 + 3 * (q.lens.length : Int) + S, hof, by omega, ?_⟩
  obtain ⟨N, hN⟩ : ∃ N, N = 18 + 3 * (q.lens.length : Int) + S := ⟨_, rfl⟩
  rw [← hN]
  have hmin : N ≤ q.m ∧ N ≤ q.b / q.n := by unfold roomW at hle; omega
  have hNb : N * q.n ≤ q.b := by
    have := Int.mul_le_mul_of_nonneg_right hmin.2 (show 0 ≤ q.n by omega)
    have h2 := Int.ediv_mul_le q.b (b := q.n) (by omega)
    omega
  have hN1 : 1 ≤ N * q.n := by
    have := Int.mul_le_mul (show (1 : Int) ≤ N by omega) (show (1 : Int) ≤ q.n by omega) (by omega) (by omega)
    omega
  have hdiv : N * q.n / q.n = N := Int.mul_ediv_cancel _ (by omega)
  have hT' : taskB (wideQ q (max N 64) (N * q.n)) = true := by
    have h1 := hB.task
    simp only [taskB, rightB, Bool.and_eq_true, decide_eq_true_eq] at h1 ⊢
    refine ⟨⟨h1.1.1, h1.1.2.1, ?_, ?_, ?_, ?_⟩, h1.2⟩
    · show 64 ≤ max N 64; omega
    · show max N 64 ≤ 1500; omega
    · show 1 ≤ N * q.n; omega
    · show N * q.n ≤ 524288; omega
  have hR' := taskR hT'
  have hroom : roomQ (wideQ q (max N 64) (N * q.n)) = S := by
    show roomW q.n (max N 64) (N * q.n) q.lens.length = S
    unfold roomW
    rw [hdiv]
    omega
  have hro' : roomOk q.n (max N 64) (N * q.n) q.lens.length = true := by
    simp only [roomOk, rightB, betw, Bool.and_eq_true, decide_eq_true_eq]; omega
  have hf' : fitsB q.n (max N 64) (N * q.n) q.lens (bestL q) = true := by
    rw [lay_fits hlen hro' hlay, ← hS]
    have : roomW q.n (max N 64) (N * q.n) q.lens.length = S := hroom
    rw [this]
    exact decide_eq_true (Int.le_refl _)
  have hC : canB q.n (max N 64) (N * q.n) q.lens = true := pl_fits_can hT' hf'
  have hE' : bestE (wideQ q (max N 64) (N * q.n)) = 0 := by
    unfold bestE
    rw [if_pos hT', if_pos (show canB (wideQ q (max N 64) (N * q.n)).n (wideQ q (max N 64) (N * q.n)).m (wideQ q (max N 64) (N * q.n)).b (wideQ q (max N 64) (N * q.n)).lens = true from hC)]
  refine ⟨by omega, by omega, hE', ?_⟩
  have hB' := bestR hE'
  have hl : lysF (wideQ q (max N 64) (N * q.n)) q.lens.length 0 = lysF q q.lens.length 0 := lysF_same (q := q) (q' := wideQ q (max N 64) (N * q.n)) rfl rfl rfl
  have ho := lysF_o' hR (m := q.lens.length) (i := 0) (by omega)
  obtain ⟨ks, e1, _, hok1⟩ := fits_ok hR' hf'
  rw [hB.l] at e1
  obtain rfl := natL_inj e1
  have hok1 : OkP q.n.toNat (lysF q q.lens.length 0) 1 (roomQ (wideQ q (max N 64) (N * q.n))).toNat (bestN q) := by rw [← hl]; exact hok1
  have hok2 : OkP q.n.toNat (lysF q q.lens.length 0) 1 (roomQ (wideQ q (max N 64) (N * q.n))).toNat (bestN (wideQ q (max N 64) (N * q.n))) := by rw [← hl]; exact hB'.ok
  have hS2 : (roomQ (wideQ q (max N 64) (N * q.n))).toNat ≤ (roomQ q).toNat := by
    have : roomQ q = roomW q.n q.m q.b q.lens.length := rfl
    omega
  have hok3 := okP_mono hok2 (Nat.le_refl 1) hS2
  have s1 := okP_le ho (by omega) hok1
  have s3 := okP_le ho (by omega) hok3
  have t1 := hB.sum
  have t2 : sumP (lysF q q.lens.length 0) (bestN (wideQ q (max N 64) (N * q.n))) = scP q.n.toNat (lysF q q.lens.length 0) 1 (roomQ (wideQ q (max N 64) (N * q.n))).toNat := by rw [← hl]; exact hB'.sum
  have l1 := toldP_least ho (by omega) hok3 (by omega)
  have l2 := toldP_least ho (by omega) hok1 (by omega)
  have d1 : lessL (natL (bestN (wideQ q (max N 64) (N * q.n)))) (natL (bestN q)) = false := l1
  have d2 : lessL (natL (bestN q)) (natL (bestN (wideQ q (max N 64) (N * q.n)))) = false := by
    have e : bestN (wideQ q (max N 64) (N * q.n)) = toldP q.n.toNat (lysF q q.lens.length 0) 1 (roomQ (wideQ q (max N 64) (N * q.n))).toNat := by rw [← hl]; rfl
    rw [e]; exact l2
  have d3 := (lessL_tri (natL (bestN (wideQ q (max N 64) (N * q.n)))) (natL (bestN q))).1
  rw [d1, d2] at d3
  rw [hB'.l, hB.l]
  simpa using d3
/-- weights that are all alike -/
def flatQ (q : TaskP) : TaskP := { q with ws := evenL q.n }
theorem sum_alike {q : TaskP} {n : Nat} {c : Int} (h : ∀ k, k ≤ n → q.ws.getD k 0 = c) : ∀ {m i : Nat} {ks js : List Nat}, ks.length = m → js.length = m → (∀ x ∈ ks, x ≤ n) → (∀ x ∈ js, x ≤ n) → sumP (lysF q m i) ks = sumP (lysF q m i) js
  | 0, _, ks, js, _, _, _, _ => by simp [lysF, sumP]
  | m + 1, i, [], _, h1, _, _, _ => by simp at h1
  | m + 1, i, _ :: _, [], _, h2, _, _ => by simp at h2
  | m + 1, i, x :: xs, y :: ys, h1, h2, h3, h4 => by
    rw [lysF, sumP, sumP, sum_alike h (ks := xs) (js := ys) (by simpa using h1) (by simpa using h2) (fun z hz => h3 z (by simp [hz])) (fun z hz => h4 z (by simp [hz]))]
    have e1 := h x (h3 x (by simp))
    have e2 := h y (h4 y (by simp))
    simp only [lyQ]
    rw [e1, e2]
theorem ones_least : ∀ {ks : List Nat}, (∀ x ∈ ks, 1 ≤ x) → lessL (natL (List.replicate ks.length 1)) (natL ks) = false → ks = List.replicate ks.length 1
  | [], _, _ => rfl
  | x :: xs, h, hl => by
    have h1 := h x (by simp)
    simp only [List.length_cons, List.replicate_succ, natL, List.map_cons, lessL, Bool.or_eq_false_iff, decide_eq_false_iff_not] at hl
    obtain ⟨g1, g2⟩ := hl
    have hx : x = 1 := by omega
    subst hx
    simp at g2
    have ih := ones_least (ks := xs) (fun z hz => h z (by simp [hz])) (by simpa [natL] using g2)
    rw [List.length_cons, List.replicate_succ, ← ih]
theorem flat {q : TaskP} (hE : bestE q = 0) : evenOk q.n = true ∧ bestE (flatQ q) = 0 ∧ (fitsB q.n q.m q.b q.lens (List.replicate q.lens.length 1) = true → bestL (flatQ q) = List.replicate q.lens.length 1) := by
  have hB := bestR hE
  have hR := hB.R_
  have hn : q.n = q.n.toNat := hR.n_
  have hn1 := hR.n1
  have hn2 := hR.n2
  have hev : evenOk q.n = true := by simp only [evenOk, decide_eq_true_eq]; omega
  have hl : evenL q.n = List.replicate (q.n.toNat + 1) 65536 := by
    unfold evenL
    rw [if_pos hev]
    congr 1; omega
  have hat : ∀ k, k ≤ q.n.toNat → (evenL q.n).getD k 0 = 65536 := fun k hk => by rw [hl]; simp [show k < q.n.toNat + 1 by omega]
  have hw : wrightB q.n (evenL q.n) = true := by
    simp only [wrightB, fallsB, Bool.and_eq_true, decide_eq_true_eq]
    have hlen : (evenL q.n).length = q.n.toNat + 1 := by rw [hl]; simp
    refine ⟨⟨by omega, by omega, by omega⟩, by rw [hat 0 (by omega)]; omega, by rw [hat _ (Nat.le_refl _)]; omega, fun i h1 h2 => ?_⟩
    rw [hat i (by omega), hat (i + 1) (by omega)]; omega
  have hT' : taskB (flatQ q) = true := by
    have h1 := hB.task
    simp only [taskB, Bool.and_eq_true] at h1 ⊢
    exact ⟨h1.1, h1.2.1, h1.2.2.1, h1.2.2.2.1, h1.2.2.2.2.1, hw⟩
  have hE' : bestE (flatQ q) = 0 := by
    unfold bestE
    rw [if_pos hT', if_pos (show canB (flatQ q).n (flatQ q).m (flatQ q).b (flatQ q).lens = true from hB.can)]
  refine ⟨hev, hE', fun hf => ?_⟩
  have hB' := bestR hE'
  have hR' := hB'.R_
  obtain ⟨ks, e1, _, hok⟩ := fits_ok hR' (show fitsB (flatQ q).n (flatQ q).m (flatQ q).b (flatQ q).lens (List.replicate q.lens.length 1) = true from hf)
  have e2 : natL (List.replicate q.lens.length 1) = List.replicate q.lens.length (1 : Int) := by simp [natL]
  rw [← e2] at e1
  obtain rfl := natL_inj e1
  have hm := okP_mem hok
  have hsum : sumP (lysF (flatQ q) (flatQ q).lens.length 0) (List.replicate q.lens.length 1) = sumP (lysF (flatQ q) (flatQ q).lens.length 0) (bestN (flatQ q)) :=
    sum_alike (n := q.n.toNat) (c := 65536) hat (by simp [flatQ]) hB'.len (fun x hx => (hm.2 x hx).2) (fun x hx => (hB'.mem x hx).2)
  have hle := toldP_least (lysF_o' hR' (m := (flatQ q).lens.length) (i := 0) (by omega)) (by omega) hok (by rw [hsum]; exact hB'.sum)
  have hlen : (bestN (flatQ q)).length = q.lens.length := hB'.len
  have := ones_least (ks := bestN (flatQ q)) (fun x hx => (hB'.mem x hx).1) (by rw [hlen]; exact hle)
  rw [hB'.l, this, hlen, e2]
end Go.Proofs.Ytpojijnjdlnokaa
