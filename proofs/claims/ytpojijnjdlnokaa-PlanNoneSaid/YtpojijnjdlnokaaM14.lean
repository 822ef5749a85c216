/- Texts joined: PlX Vs PlS PlN PlO. -/
import Derived.Test.YtpojijnjdlnokaaM13
/- Layer 13: the walk of plan.Best, plan.Score. -/
namespace Go.Proofs.Ytpojijnjdlnokaa
open Go.RowKit
set_option linter.unusedVariables false

/-- the solver between two layers: k layers are done -/
structure Sol (w W : World) (d : TaskV) (q : TaskP) (n r g tg H k : Nat) (S2 : Nat) (us ts : List Value) (cc : Nat → List Value) : Prop where
  bk : Bk W g (solC d r (.slice (some ⟨S2, 0, none⟩) (n + 2) (n + 2)) (.slice (some ⟨tg, 0, none⟩) d.ll d.ll)) 142
  tb : Tb W w.heap.size 40 3 (.slice (some ⟨S2, 0, none⟩) (n + 2) (n + 2)) us (n + 2) cc
  cc : ∀ j, 1 ≤ j → j ≤ n → cc j = rowV (fun x => .int .i64 (scP n (lysF q k (q.lens.length - k)) j x)) r
  own : Own W w.heap.size 144 (.slice (some ⟨tg, 0, none⟩) d.ll d.ll) ts
  tabs : Tabs W H q n r ts (q.lens.length - k)
  bel : Below w.heap.size w W
  hs : H ≤ W.heap.size
theorem Sol.nc {w W W' : World} {d q n r g tg H k S2 us ts cc} {B : Nat} (h : Sol w W d q n r g tg H k S2 us ts cc) (hn : Nc B W W') (hB : w.heap.size ≤ B) : Sol w W' d q n r g tg H k S2 us ts cc :=
  ⟨hn.bk h.bk, hn.tb h.tb, h.cc, hn.own h.own, hn.tabs h.tabs, hn.below h.bel hB (Nat.le_refl _), Nat.le_trans h.hs hn.size⟩
theorem Sol.keep {w W W' : World} {d q n r g tg H k S2 us ts cc} (h : Sol w W d q n r g tg H k S2 us ts cc) (hb : Below W.heap.size W W') : Sol w W' d q n r g tg H k S2 us ts cc :=
  ⟨h.bk.keep hb, h.tb.keep hb, h.cc, h.own.keepAll hb, h.tabs.keep hb, h.bel.trans (hb.mono h.bel.size), Nat.le_trans h.hs hb.size⟩
theorem Tabs.set {W W' : World} {H q n r ts a0 a T2} {ub : List Value} {cb : Nat → List Value} (h : Tabs W H q n r ts (a + 1)) {S : List Nat} (hb : Kb S W W') (hS : ∀ b ∈ S, b < H) (ha : a < ts.length) (hT : Tb W' H 146 4 (.slice (some ⟨T2, 0, none⟩) (n + 2) (n + 2)) ub (n + 2) cb)
    (hc : ∀ k, 1 ≤ k → k ≤ n → cb k = rowV (fun x => .bool (takP (FQ q n (q.lens.length - (a + 1)) a x) n k)) r) (e : a0 = a) : Tabs W' H q n r (ts.set a (.slice (some ⟨T2, 0, none⟩) (n + 2) (n + 2))) a0 := fun i h1 h2 => by
  subst e
  by_cases hi : i = a0
  · subst hi
    exact ⟨T2, ub, cb, List.getElem?_set_self ha, hT, hc⟩
  · obtain ⟨T3, ub3, cb3, e3, hT3, hc3⟩ := (h.kb hb hS) i (by omega) h2
    exact ⟨T3, ub3, cb3, by rw [List.getElem?_set_ne (fun h => hi h.symm)]; exact e3, hT3, hc3⟩
theorem Sol.next {w W W' : World} {d : TaskV} {q : TaskP} {n r g tg H k a m S2 S3 T3 : Nat} {us ts us3 ub : List Value} {cc c3 cb : Nat → List Value} (h : Sol w W d q n r g tg H k S2 us ts cc) (hL : LayR W W' d q n r g tg a m w.heap.size ts S3 us3 c3 T3 ub cb) (hm : m = k) (ha : a + 1 + k = q.lens.length) (hg : g < H ∧ tg < H) (hg2 : w.heap.size ≤ g ∧ w.heap.size ≤ tg) (hll : d.ll = q.lens.length) :
    Sol w W' d q n r g tg H (k + 1) S3 us3 (ts.set a (.slice (some ⟨T3, 0, none⟩) (n + 2) (n + 2))) c3 := by
  subst hm
  have e : q.lens.length - (m + 1) = a := by omega
  have e2 : q.lens.length - m = a + 1 := by omega
  have hl := Own.len h.own
  have hsz := hL.kb.size
  have hbs := h.bel.size
  refine ⟨hL.bk, hL.tS.mono hbs, fun j h1 h2 => by rw [e]; exact hL.cS j h1 h2, hL.own, ?_, hL.kb.below h.bel (fun b hb => by simp at hb; rcases hb with rfl | rfl <;> omega) hbs, Nat.le_trans h.hs hsz⟩
  have h3 := h.tabs
  rw [e2] at h3
  exact h3.set hL.kb (fun b hb => by simp at hb; rcases hb with rfl | rfl <;> omega) (by omega) (hL.tT.mono h.hs) (fun k h1 h2 => by rw [show q.lens.length - (a + 1) = m by omega]; exact hL.cT k h1 h2) e

set_option maxHeartbeats 8000000 in
theorem pn_Best (d : TaskV) (q : TaskP) (w : World) (hd : TaskOk w d q) : Gives Try.prog 29 #[.agg d.cells.toArray] w fun v w' => ∃ s, v = .tuple #[s, .int .i64 (bestE q)] ∧ OwnK w' w.heap.size 3 .i64 s (bestL q) ∧ Below w.heap.size w w' := by
  have hB := bk_new w d.cells 44
  have hb0 : Below w.heap.size w (w.alloc (.cells d.cells.toArray 44)) := (Below.refl _ w).alloc (Nat.le_refl _) _
  cases hT : taskB q
  · have hE : bestE q = 2 := by simp [bestE, hT]
    refine gives_enter Try.call29 Try.func29 rfl rfl rfl (by kernel_rfl) ?_
    refine v_seq ?_
    refine v_region ?_
    refine vl_val (os_box rfl) ?_
    refine vl_val (os_assign rfl) ?_
    refine vl_val (os_assign rfl) ?_
    refine vl_nil ?_
    refine v_seq ?_
    refine v_seq ?_
    refine v_region ?_
    refine vl_val (os_loadB Try.underlying44 rfl (by kernel_rfl) rfl hB) ?_
    refine vl_call (gives_boolb (pn_Right d q _ (hd.keep hb0)) hT) rfl ?_
    rintro v1 w1 ⟨rfl, b1⟩
    refine vl_val (os_not rfl) ?_
    refine vl_nil ?_
    refine v_cond_t rfl ?_
    refine v_seq ?_
    refine v_region ?_
    refine vl_val (os_assign rfl) ?_
    refine vl_val (os_assign rfl) ?_
    refine vl_nil ?_
    refine v_ret ?_
    exact post_ret2 rfl rfl rfl (⟨_, by rw [hE], by rw [bestL, if_neg (by rw [hE]; decide)]; exact Own.nil _ _ _, hb0.trans (b1.mono hb0.size)⟩)
  have hR := taskR hT
  obtain ⟨n, hn⟩ : ∃ n, n = q.n.toNat := ⟨_, rfl⟩
  rw [← hn] at hR
  have hdn : d.n = (n : Int) := hd.n.trans hR.n_
  have hn1 := hR.n1
  have hn2 := hR.n2
  have hl1 := hR.l1
  have hl8 := hR.l2
  have hll := hd.ll
  have hro : roomOk q.n q.m q.b d.ll = true := by
    have := hR.n_; have := hR.m1; have := hR.b1
    simp only [roomOk, rightB, betw, Bool.and_eq_true, decide_eq_true_eq]; omega
  have hrv : roomV d.n d.m d.b d.ll = roomQ q := by rw [hd.n, hd.m, hd.b]; unfold roomV; rw [if_pos hro]; unfold roomQ; rw [hll]
  have hci := can_iff hR
  cases hC : canB q.n q.m q.b q.lens
  · have hE : bestE q = 12 := by simp [bestE, hT, hC]
    refine gives_enter Try.call29 Try.func29 rfl rfl rfl (by kernel_rfl) ?_
    refine v_seq ?_
    refine v_region ?_
    refine vl_val (os_box rfl) ?_
    refine vl_val (os_assign rfl) ?_
    refine vl_val (os_assign rfl) ?_
    refine vl_nil ?_
    refine v_seq ?_
    refine v_seq ?_
    refine v_region ?_
    refine vl_val (os_loadB Try.underlying44 rfl (by kernel_rfl) rfl hB) ?_
    refine vl_call (gives_boolb (pn_Right d q _ (hd.keep hb0)) hT) rfl ?_
    rintro v1 w1 ⟨rfl, b1⟩
    have hb1 := hb0.trans (b1.mono hb0.size)
    have hB1 := hB.keep b1
    refine vl_val (os_not rfl) ?_
    refine vl_nil ?_
    refine v_cond_f rfl ?_
    refine v_skip ?_
    refine v_seq ?_
    refine v_region ?_
    refine vl_val (os_fa (o := 0) (k := 2) (by kernel_rfl) rfl) ?_
    refine vl_val (os_loadP (cs := [.int .i64 d.n, .int .i64 d.m, .int .i64 d.b]) Try.underlying42 rfl (by kernel_rfl) rfl ((Bk.rdc hB1).take 3)) ?_
    refine vl_val (os_fa (o := 3) (k := 0) (by kernel_rfl) rfl) ?_
    refine vl_val (os_load Try.isAgg40 rfl (hB1.cell (i := 3) rfl)) ?_
    refine vl_val (os_len Try.underlying40 rfl) ?_
    refine vl_call (size_Room d.n d.m d.b d.ll w1) rfl ?_
    rintro v2 w2 ⟨rfl, b2⟩
    have hb2 := hb1.trans (b2.mono hb1.size)
    have hB2 := hB1.keep b2
    refine vl_val (os_move rfl) ?_
    refine vl_val (os_extract rfl rfl) ?_
    refine vl_val (os_extract rfl rfl) ?_
    refine vl_val (os_assign rfl) ?_
    refine vl_val (os_assign rfl) ?_
    refine vl_nil ?_
    refine v_seq ?_
    refine v_seq ?_
    refine v_region ?_
    refine vl_val (os_fa (o := 0) (k := 2) (by kernel_rfl) rfl) ?_
    refine vl_val (os_loadP (cs := [.int .i64 d.n, .int .i64 d.m, .int .i64 d.b]) Try.underlying42 rfl (by kernel_rfl) rfl ((Bk.rdc hB2).take 3)) ?_
    refine vl_val (os_fa (o := 3) (k := 0) (by kernel_rfl) rfl) ?_
    refine vl_val (os_load Try.isAgg40 rfl (hB2.cell (i := 3) rfl)) ?_
    refine vl_call (gives_boolb (size_Can d.n d.m d.b d.AL d.ll d.lc q.lens w2 (hd.L.keep hb2) hll (by omega) (by rw [hd.n]; exact hd.iN.1)) (show canB d.n d.m d.b q.lens = false by rw [hd.n, hd.m, hd.b]; exact hC)) rfl ?_
    rintro v3 w3 ⟨rfl, b3⟩
    refine vl_val (os_not rfl) ?_
    refine vl_nil ?_
    refine v_cond_t rfl ?_
    refine v_seq ?_
    refine v_region ?_
    refine vl_val (os_assign rfl) ?_
    refine vl_val (os_assign rfl) ?_
    refine vl_nil ?_
    refine v_ret ?_
    exact post_ret2 rfl rfl rfl (⟨_, by rw [hE], by rw [bestL, if_neg (by rw [hE]; decide)]; exact Own.nil _ _ _, hb2.trans (b3.mono hb2.size)⟩)
  obtain ⟨hr0, hsc⟩ := hci.1 hC
  have hE : bestE q = 0 := by simp [bestE, hT, hC]
  obtain ⟨r, hr⟩ : ∃ r : Nat, roomQ q = r := ⟨(roomQ q).toNat, by omega⟩
  have hr2 : r ≤ 2000 := by
    have : roomQ q ≤ 1500 := by unfold roomQ roomW; have := hR.m1; omega
    omega
  have hrn : (roomQ q).toNat = r := by omega
  rw [hrn] at hsc
  have hbl : bestL q = (toldP n (lysF q q.lens.length 0) 1 r).map fun (x : Nat) => (x : Int) := by unfold bestL bestN; rw [if_pos hE, ← hn, hrn]
  refine gives_enter Try.call29 Try.func29 rfl rfl rfl (by kernel_rfl) ?_
  refine v_seq ?_
  refine v_region ?_
  refine vl_val (os_box rfl) ?_
  refine vl_val (os_assign rfl) ?_
  refine vl_val (os_assign rfl) ?_
  refine vl_nil ?_
  refine v_seq ?_
  refine v_seq ?_
  refine v_region ?_
  refine vl_val (os_loadB Try.underlying44 rfl (by kernel_rfl) rfl hB) ?_
  refine vl_call (gives_boolb (pn_Right d q _ (hd.keep hb0)) hT) rfl ?_
  rintro v1 w1 ⟨rfl, b1⟩
  have hb1 := hb0.trans (b1.mono hb0.size)
  have hB1 := hB.keep b1
  refine vl_val (os_not rfl) ?_
  refine vl_nil ?_
  refine v_cond_f rfl ?_
  refine v_skip ?_
  refine v_seq ?_
  refine v_region ?_
  refine vl_val (os_fa (o := 0) (k := 2) (by kernel_rfl) rfl) ?_
  refine vl_val (os_loadP (cs := [.int .i64 d.n, .int .i64 d.m, .int .i64 d.b]) Try.underlying42 rfl (by kernel_rfl) rfl ((Bk.rdc hB1).take 3)) ?_
  refine vl_val (os_fa (o := 3) (k := 0) (by kernel_rfl) rfl) ?_
  refine vl_val (os_load Try.isAgg40 rfl (hB1.cell (i := 3) rfl)) ?_
  refine vl_val (os_len Try.underlying40 rfl) ?_
  refine vl_call (size_Room d.n d.m d.b d.ll w1) rfl ?_
  rintro v2 w2 ⟨rfl, b2⟩
  have hb2 := hb1.trans (b2.mono hb1.size)
  have hB2 := hB1.keep b2
  rw [hrv, hr]
  refine vl_val (os_move rfl) ?_
  refine vl_val (os_extract rfl rfl) ?_
  refine vl_val (os_extract rfl rfl) ?_
  refine vl_val (os_assign rfl) ?_
  refine vl_val (os_assign rfl) ?_
  refine vl_nil ?_
  refine v_seq ?_
  refine v_seq ?_
  refine v_region ?_
  refine vl_val (os_fa (o := 0) (k := 2) (by kernel_rfl) rfl) ?_
  refine vl_val (os_loadP (cs := [.int .i64 d.n, .int .i64 d.m, .int .i64 d.b]) Try.underlying42 rfl (by kernel_rfl) rfl ((Bk.rdc hB2).take 3)) ?_
  refine vl_val (os_fa (o := 3) (k := 0) (by kernel_rfl) rfl) ?_
  refine vl_val (os_load Try.isAgg40 rfl (hB2.cell (i := 3) rfl)) ?_
  refine vl_call (gives_boolb (size_Can d.n d.m d.b d.AL d.ll d.lc q.lens w2 (hd.L.keep hb2) hll (by omega) (by rw [hd.n]; exact hd.iN.1)) (show canB d.n d.m d.b q.lens = true by rw [hd.n, hd.m, hd.b]; exact hC)) rfl ?_
  rintro v3 w3 ⟨rfl, b3⟩
  have hb3 := hb2.trans (b3.mono hb2.size)
  have hB3 := hB2.keep b3
  refine vl_val (os_not rfl) ?_
  refine vl_nil ?_
  refine v_cond_f rfl ?_
  refine v_skip ?_
  refine v_seq ?_
  refine v_region ?_
  refine vl_val (os_loadB Try.underlying44 rfl (by kernel_rfl) rfl hB3) ?_
  refine vl_val (os_move rfl) ?_
  refine vl_call (pn_over d n r w3 hdn hn2 hr2 (by omega)) rfl ?_
  rintro v4 w4 ⟨g, sg, tg, us, rfl, hO, b4⟩
  have hb4 := hb3.trans (b4.mono hb3.size)
  refine vl_val (os_alloc1 Try.zeroValue89 rfl) ?_
  have hP0 := bk_new w4 [.pointer none] 89
  have hb5a := hb4.alloc hb4.size (.cells [Value.pointer none].toArray 89)
  refine vl_unit (ou_store Try.sizeOf89 rfl rfl rfl (hP0.cell (i := 0) rfl) (hP0.free _)) ?_
  have hP1 := hP0.set 0 (.pointer (some ⟨g, 0, none⟩))
  have b5 : Below w4.heap.size w4 ((w4.alloc (.cells [Value.pointer none].toArray 89)).setCell ⟨w4.heap.size, 0 + 0, none⟩ (.pointer (some ⟨g, 0, none⟩))) := below_set ((Below.refl _ _).alloc (Nat.le_refl _) _) (Nat.le_refl _) _ _
  obtain ⟨p5, hp5⟩ : ∃ p5, p5 = w4.heap.size := ⟨_, rfl⟩
  rw [← hp5] at hP1 b5 ⊢
  rw [Nat.zero_add] at hP1 b5
  obtain ⟨w5, hw5⟩ : ∃ w5, w5 = (w4.alloc (.cells [Value.pointer none].toArray 89)).setCell ⟨p5, 0, none⟩ (.pointer (some ⟨g, 0, none⟩)) := ⟨_, rfl⟩
  rw [← hw5] at hP1 b5
  have hs5 : w5.heap.size = p5 + 1 := by rw [hw5, hp5]; simp [World.setCell]
  rw [← hw5]
  have hb5 := hb4.trans ((hp5 ▸ b5 : Below w4.heap.size w4 w5).mono hb4.size)
  have b35 := b4.trans ((hp5 ▸ b5 : Below w4.heap.size w4 w5).mono b4.size)
  have hB5 := hB3.keep b35
  refine vl_nil ?_
  refine v_range_seq ?_
  refine v_region ?_
  refine vl_val (os_fa (o := 3) (k := 0) (by kernel_rfl) rfl) ?_
  refine vl_val (os_load Try.isAgg40 rfl (hB5.cell (i := 3) rfl)) ?_
  refine vl_call (sl_Backward d.AL d.ll d.lc w5) rfl ?_
  rintro v6 w6 ⟨rfl, hw6⟩
  have P6 : Bk w6 (p5 + 1) [.slice d.AL d.ll d.lc] 40 := by rw [hw6, ← hs5]; exact bk_new w5 [.slice d.AL d.ll d.lc] 40
  have b6 : Below w5.heap.size w5 w6 := by rw [hw6]; exact (Below.refl _ _).alloc (Nat.le_refl _) _
  have hs6 : w6.heap.size = p5 + 2 := by rw [hw6]; simp [hs5]
  have P5 := hP1.keep b6
  have b46 : Below w4.heap.size w4 w6 := (hp5 ▸ b5 : Below w4.heap.size w4 w5).trans (b6.mono (hp5 ▸ b5 : Below w4.heap.size w4 w5).size)
  have hb6 := hb4.trans (b46.mono hb4.size)
  have hgl := hO.bk.lt
  have htl := (World.ownsRow.lt hO.own tg rfl)
  have hS0 : Sol w w6 d q n r g tg w4.heap.size 0 sg us (List.replicate d.ll (.slice none 0 0)) (fun _ => List.replicate (r + 1) (.int .i64 0)) := ⟨hO.bk.keep b46, (hO.tb.keep b46).mono hb3.size, fun j _ _ => by rw [rowV_rep]; rfl, (hO.own.keepAll b46).mono hb3.size, fun a h1 h2 => absurd h1 (by omega), hb6, b46.size⟩
  rw [hs5]
  refine vl_nil ?_
  refine v_range (d.ll) (fun k => [.int .i64 ((d.ll - 1 - k : Nat) : Int), .int .i64 (q.lens.getD (d.ll - 1 - k) 0)]) (fun k w' => (∃ S2 us ts cc, Sol w w' d q n r g tg w4.heap.size k S2 us ts cc) ∧ Bk w' p5 [.pointer (some ⟨g, 0, none⟩)] 89 ∧ Bk w' (p5 + 1) [.slice d.AL d.ll d.lc] 40) (fun e w' => False) (fun k => [(7, .int .i64 ((d.ll - 1 - k : Nat) : Int)), (6, .pointer (some ⟨p5, 0, none⟩))]) Try.call100 rfl (fun _ => rfl) (fun k W W' ⟨⟨S2, us, ts, cc, h1⟩, h2, h3⟩ hn => ⟨⟨S2, us, ts, cc, h1.nc hn hb6.size⟩, hn.bk h2, hn.bk h3⟩) (fun _ => Abd.no) (⟨⟨_, _, _, _, hS0⟩, P5, P6⟩) (fun l J Jx W hW hJI hJ hJx hR hJ0 => sl_Backward_fn l (p5 + 1) d.AL d.ll d.lc q.lens J Jx W (fun k W h => by obtain ⟨⟨S2, us, ts, cc, h1⟩, h2, h3⟩ := hJI k W h; exact ⟨h3.cell (i := 0) rfl, hd.L.keep h1.bel⟩) hll (by omega) hR hJ0) ?_ ?_ ?_ (fun _ _ _ _ h => h.elim) (fun _ _ _ _ _ h => h.elim)
  · intro l k w'
    refine v_region ?_
    refine vl_val (os_assign rfl) ?_
    refine vl_nil ?_
    exact ⟨rfl, rfl, ⟨rfl, rfl, trivial⟩⟩
  · rintro l k w' hk ⟨⟨S2, us2, ts, cc, h1⟩, h2, h3⟩
    refine v_block ?_
    refine v_region ?_
    refine vl_val (os_load Try.isAgg89 rfl (h2.cell (i := 0) rfl)) ?_
    have gn : tg ≠ g := hO.ne3
    have glo : w3.heap.size ≤ g := hO.lo
    have wlo := hb3.size
    refine vl_val (os_move rfl) ?_
    refine vl_call (pn_layer d q n r g S2 tg (d.ll - 1 - k) k w.heap.size us2 ts cc _ (hd.keep h1.bel) hR (by omega) hr2 h1.bk h1.tb (by have h9 := h1.cc; rw [show q.lens.length - k = (d.ll - 1 - k) + 1 by omega] at h9; exact h9) h1.own gn (by omega)) rfl ?_
    rintro v9 w9 ⟨S3, us3, c3, T3, ub, cb, hLy⟩
    refine vl_nil ?_
    exact ⟨Kn.kb hLy.kb (fun b hb => by simp at hb; rcases hb with rfl | rfl; exact ⟨_, h1.bk, rfl⟩; exact Own.row_cells h1.own _ rfl), ⟨S3, us3, _, c3, h1.next hLy rfl (by omega) ⟨by omega, by omega⟩ ⟨by omega, by omega⟩ hll⟩, Bk.kb h2 hLy.kb (by simp; omega), Bk.kb h3 hLy.kb (by simp; omega)⟩
  · rintro D w' hD hK ⟨⟨S2, us2, ts, cc, h1⟩, h2, h3⟩
    refine v_seq ?_
    refine v_region ?_
    refine vl_val (os_load Try.isAgg89 rfl (h2.cell (i := 0) rfl)) ?_
    have htab := h1.tabs
    rw [show q.lens.length - d.ll = 0 by omega] at htab
    refine vl_call (pn_told d q n r g tg w4.heap.size _ ts _ (hd.keep h1.bel) hR hr2 h1.bk h1.own.rdc' htab hsc) rfl ?_
    rintro v9 w9 ⟨ho9, b9⟩
    have hK' := (Kn.of_leg (B := 0) b9).block D _ (Nat.zero_le _) hK rfl
    have hN := Nc.put (B := w6.heap.size) (.deferred none) hD hK' rfl
    have hb9 := h1.bel.trans (b9.mono h1.bel.size)
    refine vl_val (os_assign rfl) ?_
    refine vl_val (os_assign rfl) ?_
    refine vl_nil ?_
    refine v_ret ?_
    exact post_m (fn := Try.f29) (hK') (fun a ha => res_tt (t := 2) (t2 := 3) rfl rfl rfl  ha) (⟨_, by rw [hE], by rw [hbl]; exact hN.own (Own.mono ho9 h1.bel.size), hN.below hb9 hb6.size (Nat.le_refl _)⟩)
end Go.Proofs.Ytpojijnjdlnokaa

/- A guarded operation of which a fact is told; literals of which a fact is told. No program in sight. -/
namespace Go.Proofs.Ytpojijnjdlnokaa
open Go.RowKit
set_option linter.unusedVariables false

section
variable {P : Program} {n : Cx} {all rest : List Oper} {fr : Fr} {w : World} {Q : Exit → Fr → World → Prop} {d : Nat} {op : Op} {ty : TypeId} {pos : String} {aft : Array Edge}
theorem vl_someg {T : Value → World → Prop} {j : Nat} {b : Bool} (hg : guardF all fr j = some (.bool b)) (h : OT P n op ty fr w T) (k : ∀ v w', T v w' → VL P n all rest ((d, v) :: fr) w' Q) : VL P n all (⟨some d, op, ty, pos, aft, some (j, b)⟩ :: rest) fr w Q := by
  unfold VL
  intro hok a ha
  obtain ⟨h1, h2⟩ := dst_lt hok rfl
  unfold OT at h
  obtain ⟨v, w', hr, ht⟩ := h a ha
  have k' := k v w' ht
  unfold VL at k'
  unfold wpListIn
  simp only [Region.wanted, guardF_yields ha hg, BEq.rfl, if_true]
  exact in_value (by rw [execOp_bare, hr]) (k' h2 _ (ha.put h1 v))
end
section
variable {P : Program} {n : Cx} {fr : Fr} {w : World} {ty T e : TypeId}
/-- a list of integers, written out -/
theorem ot_litZ {k : IntKind} (zs : List Int) {l : Nat} {ps : List (Nat × Operand)} {z0 : Value} (hT : P.underlying T = some (.slice e)) (hs : ∀ w, (sizeOf e).run P w = .ok 1 w) (hz : ∀ w, (zeroValue e).run P w = .ok z0 w) (hz1 : z0.cells.size = 1) (hx : evP fr ps 0 = some (zs.map (Value.int k))) (hone : oneCells (zs.map (Value.int k)) = true) (hl : l = zs.length) (h2 : l ≤ 16777216) :
    OT P n (.buildSlice T l ps.toArray) ty fr w fun v w' => ∃ g, v = .slice (some ⟨g, 0, none⟩) l l ∧ Rd w' k (some ⟨g, 0, none⟩) zs ∧ Below w.heap.size w w' := by
  subst hl
  exact (os_lit hT hs hz hz1 hx (by simp) hone h2).ot ⟨_, rfl, rd_alloc w k zs e, (Below.refl _ _).alloc (Nat.le_refl _) _⟩
/-- the same: it is one's own -/
theorem ot_litO {k : IntKind} (zs : List Int) {l : Nat} {ps : List (Nat × Operand)} {z0 : Value} (hT : P.underlying T = some (.slice e)) (hs : ∀ w, (sizeOf e).run P w = .ok 1 w) (hz : ∀ w, (zeroValue e).run P w = .ok z0 w) (hz1 : z0.cells.size = 1) (hx : evP fr ps 0 = some (zs.map (Value.int k))) (hone : oneCells (zs.map (Value.int k)) = true) (hl : l = zs.length) (h2 : l ≤ 16777216) :
    OT P n (.buildSlice T l ps.toArray) ty fr w fun v w' => ∃ g, v = .slice (some ⟨g, 0, none⟩) l l ∧ OwnK w' w.heap.size e k (.slice (some ⟨g, 0, none⟩) l l) zs ∧ Below w.heap.size w w' := by
  subst hl
  have := own_alloc (B := w.heap.size) w (zs.map (Value.int k)) e (Nat.le_refl _) (by simp [maxLen]; omega)
  rw [List.length_map] at this
  exact (os_lit hT hs hz hz1 hx (by simp) hone h2).ot ⟨_, rfl, this, (Below.refl _ _).alloc (Nat.le_refl _) _⟩
end
end Go.Proofs.Ytpojijnjdlnokaa

/- Layer 13: plan.Score; what the best thresholds are worth; awake. -/
namespace Go.Proofs.Ytpojijnjdlnokaa
open Go.RowKit
set_option linter.unusedVariables false

/-! ### what the best are -/
theorem okP_mem {n : Nat} : ∀ {ls : List Ly} {k R : Nat} {ks : List Nat}, OkP n ls k R ks → ks.length = ls.length ∧ ∀ x ∈ ks, k ≤ x ∧ x ≤ n
  | [], k, R, ks, h => by
    have : ks = [] := h
    subst this; exact ⟨rfl, fun x hx => by cases hx⟩
  | l :: r, k, R, ks, h => by
    obtain ⟨x, xs, rfl, h1, h2, h3, h4⟩ := h
    obtain ⟨g1, g2⟩ := okP_mem h4
    refine ⟨by simp [g1], fun y hy => ?_⟩
    rcases List.mem_cons.1 hy with rfl | hy
    · exact ⟨h1, h2⟩
    · have := g2 y hy; omega
def natL (ks : List Nat) : List Int := ks.map fun (x : Nat) => (x : Int)
theorem natL_at {ks : List Nat} {i : Nat} (hi : i < ks.length) : (natL ks).getD i 0 = (ks[i] : Int) := by simp [natL, hi]
theorem natL_len {ks : List Nat} : (natL ks).length = ks.length := by simp [natL]
theorem ok_scOk {q : TaskP} {n : Nat} (hT : taskB q = true) (hR : TaskR q n) {ks : List Nat} (hl : ks.length = q.lens.length) (hk : ∀ x ∈ ks, 1 ≤ x ∧ x ≤ n) : scOk q.worths (natL ks) q.ws = true := by
  have hw : wrightB q.n q.ws = true := by
    simp only [taskB, Bool.and_eq_true] at hT
    exact hT.2.2.2.2.2
  have h1 := hR.n_
  have h2 := hR.lv
  have h3 := hR.lw
  have h4 := hR.l2
  simp only [scOk, Bool.and_eq_true, decide_eq_true_eq]
  refine ⟨by rw [show (q.ws.length : Int) - 1 = q.n by omega]; exact hw, by rw [natL_len]; omega, by rw [natL_len]; omega, fun i hi => ?_⟩
  rw [natL_len] at hi
  have h5 := hk ks[i] (List.getElem_mem _)
  have h6 := hR.wor i (by omega)
  unfold scGood
  rw [natL_at hi]
  omega
theorem sumP_sc {q : TaskP} {ks : List Nat} (hl : ks.length = q.lens.length) : ∀ {m i : Nat}, m + i = q.lens.length → sumP (lysF q m i) (ks.drop i) + scSum q.worths (natL ks) q.ws i = scSum q.worths (natL ks) q.ws ks.length
  | 0, i, h => by
    rw [List.drop_eq_nil_of_le (by omega), show i = ks.length by omega]
    simp [lysF, sumP]
  | m + 1, i, h => by
    have hi : i < ks.length := by omega
    have ih := sumP_sc hl (m := m) (i := i + 1) (by omega)
    rw [List.drop_eq_getElem_cons hi, lysF, sumP]
    have e : (lyQ q i).o ks[i] = scT q.worths (natL ks) q.ws i := by
      unfold scT
      rw [natL_at hi]
      simp [lyQ]
    rw [scSum] at ih
    omega
theorem sumP_scV {q : TaskP} {ks : List Nat} (hl : ks.length = q.lens.length) (hs : scOk q.worths (natL ks) q.ws = true) : scV q.worths (natL ks) q.ws = sumP (lysF q q.lens.length 0) ks := by
  have := sumP_sc hl (m := q.lens.length) (i := 0) (by omega)
  rw [List.drop_zero] at this
  unfold scV
  rw [if_pos hs, natL_len, ← this]
  simp [scSum]
/-- all that is known of the best -/
structure BestR (q : TaskP) (n R : Nat) : Prop where
  task : taskB q = true
  R_ : TaskR q n
  room : roomQ q = R
  can : canB q.n q.m q.b q.lens = true
  l : bestL q = natL (bestN q)
  ok : OkP n (lysF q q.lens.length 0) 1 R (bestN q)
  sum : sumP (lysF q q.lens.length 0) (bestN q) = scP n (lysF q q.lens.length 0) 1 R
  len : (bestN q).length = q.lens.length
  mem : ∀ x ∈ bestN q, 1 ≤ x ∧ x ≤ n
  sc : scOk q.worths (bestL q) q.ws = true
theorem bestR {q : TaskP} (h : bestE q = 0) : BestR q q.n.toNat (roomQ q).toNat := by
  have hT : taskB q = true := by
    cases hh : taskB q
    · simp [bestE, hh] at h
    · rfl
  have hC : canB q.n q.m q.b q.lens = true := by
    cases hh : canB q.n q.m q.b q.lens
    · simp [bestE, hT, hh] at h
    · rfl
  have hR := taskR hT
  obtain ⟨h0, hsc⟩ := (can_iff hR).1 hC
  have hl : bestL q = natL (bestN q) := by unfold bestL natL; rw [if_pos h]
  have hok := toldP_ok (lysF_o' hR (m := q.lens.length) (i := 0) (by omega)) (by omega) hsc
  have hmem := okP_mem hok.1
  rw [lysF_len] at hmem
  exact ⟨hT, hR, by omega, hC, hl, hok.1, hok.2, hmem.1, fun x hx => hmem.2 x hx, by rw [hl]; exact ok_scOk hT hR hmem.1 (fun x hx => hmem.2 x hx)⟩
def scoreV (q : TaskP) : Int := if bestE q = 0 then scV q.worths (bestL q) q.ws else 0
theorem bestL_len {q : TaskP} : (bestL q).length ≤ 8 := by
  by_cases h : bestE q = 0
  · have hb := bestR h
    rw [hb.l, natL_len, hb.len]; exact hb.R_.l2
  · unfold bestL; rw [if_neg h]; simp
theorem bestE_cases (q : TaskP) : bestE q = 0 ∨ bestE q = 2 ∨ bestE q = 12 := by
  unfold bestE; split
  · split
    · exact .inl rfl
    · exact .inr (.inr rfl)
  · exact .inr (.inl rfl)

theorem pn_Score (d : TaskV) (q : TaskP) (w : World) (hd : TaskOk w d q) : Gives Try.prog 32 #[.agg d.cells.toArray] w fun v w' => v = .tuple #[.int .i64 (scoreV q), .int .i64 (bestE q)] ∧ Below w.heap.size w w' := by
  have hB := bk_new w d.cells 44
  have hb0 : Below w.heap.size w (w.alloc (.cells d.cells.toArray 44)) := (Below.refl _ w).alloc (Nat.le_refl _) _
  refine gives_enter Try.call32 Try.func32 rfl rfl rfl (by kernel_rfl) ?_
  refine v_seq ?_
  refine v_region ?_
  refine vl_val (os_box rfl) ?_
  refine vl_val (os_assign rfl) ?_
  refine vl_val (os_assign rfl) ?_
  refine vl_nil ?_
  refine v_seq ?_
  refine v_region ?_
  refine vl_val (os_loadB Try.underlying44 rfl (by kernel_rfl) rfl hB) ?_
  refine vl_call (pn_Best d q _ (hd.keep hb0)) rfl ?_
  rintro v1 w1 ⟨s, rfl, ho, b1⟩
  have hb1 := hb0.trans (b1.mono hb0.size)
  have hB1 := hB.keep b1
  have hd1 := hd.keep hb1
  refine vl_val (os_move rfl) ?_
  refine vl_val (os_extract rfl rfl) ?_
  refine vl_val (os_extract rfl rfl) ?_
  refine vl_val (os_assign rfl) ?_
  refine vl_val (os_assign rfl) ?_
  refine vl_nil ?_
  refine v_seq ?_
  refine v_seq ?_
  refine v_region ?_
  refine vl_val (os_move rfl) ?_
  refine vl_val (os_neq rfl rfl) ?_
  refine vl_nil ?_
  refine v_cond_d rfl (fun hE => ?_) (fun hE => ?_)
  · refine v_seq ?_
    refine v_region ?_
    refine vl_val (os_move rfl) ?_
    refine vl_val (os_assign rfl) ?_
    refine vl_val (os_assign rfl) ?_
    refine vl_nil ?_
    refine v_ret ?_
    exact post_ret2 rfl rfl rfl (⟨by rw [scoreV, if_neg hE], hb1⟩)
  · have hE0 : bestE q = 0 := by omega
    have hb := bestR hE0
    have hll := bestL_len (q := q)
    obtain ⟨A1, c1, rfl, -, -, hr1, -⟩ := OwnK.form ho
    refine v_skip ?_
    refine v_seq ?_
    refine v_region ?_
    refine vl_val (os_fa (o := 4) (k := 0) (by kernel_rfl) rfl) ?_
    refine vl_val (os_load Try.isAgg40 rfl (hB1.cell (i := 4) rfl)) ?_
    refine vl_val (os_move rfl) ?_
    refine vl_val (os_fa (o := 5) (k := 0) (by kernel_rfl) rfl) ?_
    refine vl_val (os_load Try.isAgg40 rfl (hB1.cell (i := 5) rfl)) ?_
    refine vl_call (wg_Score d.AW A1 d.AV d.wl _ d.vl d.wc c1 d.vc q.worths (bestL q) q.ws w1 hd1.W hr1 hd1.V hd1.wl rfl hd1.vl (by have := hd1.bw; omega) (by omega) (by have := hd1.bv; omega)) rfl ?_
    rintro v2 w2 ⟨rfl, d2⟩
    refine vl_val (os_extract rfl rfl) ?_
    refine vl_val (os_extract rfl rfl) ?_
    refine vl_val (os_assign rfl) ?_
    refine vl_val (os_assign rfl) ?_
    refine vl_nil ?_
    refine v_ret ?_
    exact post_ret2 rfl rfl rfl (⟨by rw [scoreV, if_pos hE0, hb.sc, hE0]; rfl, hb1.trans ((led_below d2).mono hb1.size)⟩)

/-! ### awake -/
def awT (a b : Int) : TaskP := ⟨4, 64, 200, [a, b], [1, 1], [9, 9, 9, 9, 9]⟩
theorem aw1 : bestE (awT 40 60) = 0 ∧ bestL (awT 40 60) = [4, 4] := by decide +kernel
theorem aw2 : bestE (awT 5 20) = 0 ∧ bestL (awT 5 20) = [1, 1] := by decide +kernel
theorem aw3 : bestE (awT 45 60) = 12 := by decide +kernel
end Go.Proofs.Ytpojijnjdlnokaa

/- Layer 13: awake; the walk of PlanNone. -/
namespace Go.Proofs.Ytpojijnjdlnokaa
open Go.RowKit
set_option linter.unusedVariables false

theorem sortF_iff : ∀ {ks : List Nat} {k : Nat}, SortF k ks ↔ (∀ i, i + 1 < ks.length → ks.getD i 0 ≤ ks.getD (i + 1) 0) ∧ (0 < ks.length → k ≤ ks.getD 0 0)
  | [], k => by simp [SortF]
  | x :: xs, k => by
    have ih := sortF_iff (ks := xs) (k := x)
    rw [SortF, ih]
    constructor
    · rintro ⟨h1, h2, h3⟩
      refine ⟨fun i hi => ?_, fun _ => by simpa using h1⟩
      cases i with
      | zero => have := h3 (by simp at hi; omega); simpa using this
      | succ i => have := h2 i (by simp at hi; omega); simpa using this
    · rintro ⟨h1, h2⟩
      refine ⟨by simpa using h2, fun i hi => by have := h1 (i + 1) (by simp; omega); simpa using this, fun h0 => by have := h1 0 (by simp; omega); simpa using this⟩
theorem fitGo_pos {n : Int} : ∀ {room : Int} {lens zs : List Int}, zs.length = lens.length → fitGo n room (lens.zip zs) = true → ∀ z ∈ zs, 1 ≤ z
  | room, [], [], _, _, z, hz => by cases hz
  | room, [], y :: ys, h, _, _, _ => by simp at h
  | room, x :: xs, [], h, _, _, _ => by simp at h
  | room, x :: xs, y :: ys, h, hf, z, hz => by
    rw [List.zip_cons_cons, fitGo] at hf
    simp only [Bool.and_eq_true, decide_eq_true_eq, widthOk] at hf
    rcases List.mem_cons.1 hz with rfl | hz
    · omega
    · exact fitGo_pos (by simpa using h) hf.2 z hz
theorem natL_toNat {zs : List Int} (h : ∀ z ∈ zs, 1 ≤ z) : natL (zs.map Int.toNat) = zs := by
  unfold natL
  rw [List.map_map]
  apply List.ext_getElem
  · simp
  · intro i h1 h2
    have := h zs[i] (List.getElem_mem _)
    simp; omega
/-- thresholds that fit -/
theorem fits_ok {q : TaskP} {n : Nat} (hR : TaskR q n) {zs : List Int} (h : fitsB q.n q.m q.b q.lens zs = true) : ∃ ks : List Nat, zs = natL ks ∧ 0 ≤ roomQ q ∧ OkP n (lysF q q.lens.length 0) 1 (roomQ q).toNat ks := by
  simp only [fitsB, Bool.and_eq_true, decide_eq_true_eq] at h
  obtain ⟨⟨⟨⟨h1, h2⟩, h3⟩, h4⟩, h5⟩ := h
  have hl1 := hR.l1
  have hp := fitGo_pos h3 h5
  have e := natL_toNat hp
  have h0 : 0 ≤ roomQ q := by
    cases hq : q.lens with
    | nil => rw [hq] at hl1; simp at hl1
    | cons x xs =>
      cases hz : zs with
      | nil => rw [hz, hq] at h3; simp at h3
      | cons y ys =>
        have h5' := h5
        rw [hq, hz] at h5'
        rw [List.zip_cons_cons, fitGo] at h5'
        simp only [Bool.and_eq_true, decide_eq_true_eq] at h5'
        have := width_bd h5'.1.1.2
        unfold roomQ
        rw [hq]
        omega
  refine ⟨zs.map Int.toNat, e.symm, h0, (okP_iff hR (by omega) (by omega)).2 ⟨by simpa using h3, sortF_iff.2 ⟨fun i hi => ?_, fun hi => ?_⟩, ?_⟩⟩
  · have h4' := of_decide_eq_true h4 i (by simp at hi; omega) (by simpa using hi)
    simp at hi
    have q1 : (zs.map Int.toNat).getD i 0 = (zs.getD i 0).toNat := by simp [show i < zs.length by omega]
    have q2 : (zs.map Int.toNat).getD (i + 1) 0 = (zs.getD (i + 1) 0).toNat := by simp [hi]
    rw [q1, q2]; omega
  · simp at hi
    have q1 : (zs.map Int.toNat).getD 0 0 = (zs.getD 0 0).toNat := by simp [hi]
    have := hp (zs.getD 0 0) (by simp [hi])
    rw [q1]; omega
  · rw [List.drop_zero]
    rw [show (zs.map Int.toNat).map (fun (x : Nat) => (x : Int)) = zs from e, ← hR.n_, show ((roomQ q).toNat : Int) = roomQ q by omega]
    exact h5
theorem ok_fits {q : TaskP} {n : Nat} (hR : TaskR q n) {ks : List Nat} (h0 : 0 ≤ roomQ q) (h : OkP n (lysF q q.lens.length 0) 1 (roomQ q).toNat ks) : fitsB q.n q.m q.b q.lens (natL ks) = true := by
  have hn := hR.n_
  have hn1 := hR.n1
  have hn2 := hR.n2
  have hl1 := hR.l1
  have hl2 := hR.l2
  have hr : rightB q.n q.m q.b = true := by simp only [rightB, decide_eq_true_eq]; have := hR.m1; have := hR.b1; omega
  have hro : roomOk q.n q.m q.b q.lens.length = true := by simp only [roomOk, hr, betw, Bool.true_and, decide_eq_true_eq]; omega
  have hlb : lensB q.lens = true := by
    simp only [lensB, betw, Bool.and_eq_true, decide_eq_true_eq, Bool.not_eq_true']
    refine ⟨by omega, List.any_eq_false.2 fun l hl => ?_⟩
    obtain ⟨i, hi, rfl⟩ := List.getElem_of_mem hl
    have := hR.len i hi
    have e : q.lens.getD i 0 = q.lens[i] := by simp [hi]
    simp; omega
  obtain ⟨h1, h2, h3⟩ := (okP_iff hR (by omega) (by omega)).1 h
  have hs := (sortF_iff.1 h2).1
  simp only [fitsB, Bool.and_eq_true, decide_eq_true_eq]
  refine ⟨⟨⟨⟨hro, hlb⟩, by rw [natL_len]; exact h1⟩, ?_⟩, ?_⟩
  · simp only [sortedB, decide_eq_true_eq]
    intro i g1 g2
    rw [natL_len] at g1 g2
    have := hs i g2
    rw [natL_at g1, natL_at g2]
    simp [g1, g2] at this
    omega
  · rw [List.drop_zero, ← hn, show ((roomQ q).toNat : Int) = roomQ q by omega] at h3
    exact h3
/-- none is better than the best -/
theorem best_none {q : TaskP} (h : bestE q = 0) {zs : List Int} (hf : fitsB q.n q.m q.b q.lens zs = true) : betOk q.worths zs (bestL q) q.ws = true ∧ betV q.worths zs (bestL q) q.ws = false := by
  have hb := bestR h
  have hR := hb.R_
  obtain ⟨ks, rfl, h0, hok⟩ := fits_ok hR hf
  have hm := okP_mem hok
  rw [lysF_len] at hm
  have hsc := ok_scOk hb.task hR hm.1 hm.2
  have ho := lysF_o' hR (m := q.lens.length) (i := 0) (by omega)
  have hle := okP_le ho (by omega) hok
  have hok2 : betOk q.worths (natL ks) (bestL q) q.ws = true := by simp only [betOk, hsc, hb.sc, Bool.and_self]
  have e1 := sumP_scV hm.1 hsc
  have e2 : scV q.worths (bestL q) q.ws = scP q.n.toNat (lysF q q.lens.length 0) 1 (roomQ q).toNat := by
    have := hb.sc
    rw [hb.l] at this ⊢
    rw [sumP_scV hb.len this, hb.sum]
  refine ⟨hok2, ?_⟩
  unfold betV
  rw [hok2, e1, e2]
  by_cases heq : sumP (lysF q q.lens.length 0) ks = scP q.n.toNat (lysF q q.lens.length 0) 1 (roomQ q).toNat
  · have := toldP_least ho (by omega) hok heq
    have e3 : bestL q = (toldP q.n.toNat (lysF q q.lens.length 0) 1 (roomQ q).toNat).map fun (x : Nat) => (x : Int) := hb.l
    rw [heq, e3, show lessL (natL ks) _ = false from this]
    simp
  · have h1 : ¬ (scP q.n.toNat (lysF q q.lens.length 0) 1 (roomQ q).toNat < sumP (lysF q q.lens.length 0) ks) := by omega
    simp [heq, h1]
theorem best_fits {q : TaskP} (h : bestE q = 0) : fitsB q.n q.m q.b q.lens (bestL q) = true := by
  have hb := bestR h
  have hr := hb.room
  rw [hb.l]
  exact ok_fits hb.R_ (by omega) hb.ok
theorem pl_fits_can {q : TaskP} (hT : taskB q = true) {zs : List Int} (hf : fitsB q.n q.m q.b q.lens zs = true) : canB q.n q.m q.b q.lens = true := by
  have hR := taskR hT
  obtain ⟨ks, rfl, h0, hok⟩ := fits_ok hR hf
  have := okP_le (lysF_o' hR (m := q.lens.length) (i := 0) (by omega)) (by omega) hok
  exact (can_iff hR).2 ⟨h0, by omega⟩

/-! ### awake -/
theorem awOk {w : World} {a b : Int} {gL gW gV : Nat} (ha : I64 a ∧ I64 b) (hL : Rd w .i64 (some ⟨gL, 0, none⟩) [a, b]) (hW : Rd w .i64 (some ⟨gW, 0, none⟩) [1, 1]) (hV : Rd w .i64 (some ⟨gV, 0, none⟩) [9, 9, 9, 9, 9]) : TaskOk w ⟨4, 64, 200, some ⟨gL, 0, none⟩, 2, 2, some ⟨gW, 0, none⟩, 2, 2, some ⟨gV, 0, none⟩, 5, 5⟩ (awT a b) :=
  ⟨hL, hW, hV, rfl, rfl, rfl, (by decide : (2 : Nat) ≤ 20000000000000), (by decide : (2 : Nat) ≤ 20000000000000), (by decide : (5 : Nat) ≤ 20000000000000), rfl, rfl, rfl, ⟨(⟨by decide, by decide⟩ : I64 4), (⟨by decide, by decide⟩ : I64 64), (⟨by decide, by decide⟩ : I64 200)⟩, fun z hz => by simp [awT] at hz; rcases hz with rfl | rfl; exact ha.1; exact ha.2, fun z hz => by simp [awT] at hz; subst hz; unfold I64; decide, fun z hz => by simp [awT] at hz; subst hz; unfold I64; decide⟩
set_option maxHeartbeats 2000000 in
theorem law13_awake (w : World) : Gives Try.prog 27 #[] w fun v w' => v = .bool true ∧ Below w.heap.size w w' := by
  have hN0 := bk_new w [.int .i64 0, .int .i64 0, .int .i64 0] 42
  have hN := setRow_bk hN0 [.int .i64 4, .int .i64 64, .int .i64 200]
  have b0 := below_setRow ((Below.refl _ w).alloc (Nat.le_refl _) (.cells [Value.int .i64 0, .int .i64 0, .int .i64 0].toArray 42)) (Nat.le_refl w.heap.size) [Value.int .i64 4, .int .i64 64, .int .i64 200].toArray
  have i40 : I64 40 ∧ I64 60 := by unfold I64; decide
  have i5 : I64 5 ∧ I64 20 := by unfold I64; decide
  have i45 : I64 45 ∧ I64 60 := by unfold I64; decide
  refine gives_enter Try.call27 Try.func27 rfl rfl rfl (by kernel_rfl) ?_
  refine v_seq ?_
  refine v_region ?_
  refine vl_val (os_assign rfl) ?_
  refine vl_nil ?_
  refine v_seq ?_
  refine v_region ?_
  refine vl_val (os_build (cs := [.int .i64 4, .int .i64 64, .int .i64 200]) rfl (by kernel_rfl)) ?_
  refine vl_val (os_allocB Try.zeroValue42 (zc := _) (cs := [.int .i64 0, .int .i64 0, .int .i64 0]) rfl) ?_
  refine vl_unit (ou_storeB (by kernel_rfl) rfl rfl hN0 rfl rfl) ?_
  generalize (w.alloc (.cells [Value.int .i64 0, .int .i64 0, .int .i64 0].toArray 42)).setRow w.heap.size [Value.int .i64 4, .int .i64 64, .int .i64 200].toArray = w0 at *
  refine vl_nil ?_
  refine v_seq ?_
  refine v_region ?_
  refine vl_some (ot_litZ [9, 9, 9, 9, 9] Try.underlying40 Try.sizeOf3 Try.zeroValue3 rfl rfl rfl rfl (by decide)) ?_
  rintro v1 w1 ⟨gV, rfl, rV, b1⟩
  have hN1 := hN.keep b1
  have b1w := b0.trans (b1.mono b0.size)
  refine vl_val (os_assign rfl) ?_
  refine vl_nil ?_
  refine v_seq ?_
  refine v_region ?_
  refine vl_val (os_loadB Try.underlying42 rfl (by kernel_rfl) rfl (hN1)) ?_
  refine vl_some (ot_litZ [40, 60] Try.underlying40 Try.sizeOf3 Try.zeroValue3 rfl rfl rfl rfl (by decide)) ?_
  rintro v2 w2 ⟨gL, rfl, rL, b2⟩
  refine vl_some (ot_litZ [1, 1] Try.underlying40 Try.sizeOf3 Try.zeroValue3 rfl rfl rfl rfl (by decide)) ?_
  rintro v3 w3 ⟨gW, rfl, rW, b3⟩
  have b3w := (b1w.trans (b2.mono b1w.size)).trans (b3.mono (b1w.trans (b2.mono b1w.size)).size)
  have rV3 := (rV.keep b2).keep b3
  have hN3 := (hN1.keep b2).keep b3
  refine vl_val (os_move rfl) ?_
  refine vl_val (os_build (cs := [.int .i64 4, .int .i64 64, .int .i64 200, .slice (some ⟨gL, 0, none⟩) 2 2, .slice (some ⟨gW, 0, none⟩) 2 2, .slice (some ⟨gV, 0, none⟩) 5 5]) rfl (by kernel_rfl)) ?_
  refine vl_call (pn_Best _ (awT 40 60) w3 (awOk i40 (rL.keep b3) rW rV3)) rfl ?_
  rintro v4 w4 ⟨s4, rfl, o4, b4⟩
  rw [aw1.1]
  rw [aw1.2] at o4
  have rV4 := rV3.keep b4
  have b4w := b3w.trans (b4.mono b3w.size)
  refine vl_val (os_move rfl) ?_
  refine vl_val (os_extract rfl rfl) ?_
  refine vl_val (os_extract rfl rfl) ?_
  refine vl_val (os_assign rfl) ?_
  refine vl_val (os_assign rfl) ?_
  refine vl_nil ?_
  refine v_seq ?_
  refine v_region ?_
  refine vl_val (os_loadB Try.underlying42 rfl (by kernel_rfl) rfl (hN3.keep b4)) ?_
  refine vl_some (ot_litZ [5, 20] Try.underlying40 Try.sizeOf3 Try.zeroValue3 rfl rfl rfl rfl (by decide)) ?_
  rintro v5 w5 ⟨gL5, rfl, rL5, b5⟩
  refine vl_some (ot_litZ [1, 1] Try.underlying40 Try.sizeOf3 Try.zeroValue3 rfl rfl rfl rfl (by decide)) ?_
  rintro v6 w6 ⟨gW6, rfl, rW6, b6⟩
  have b46 := b5.trans (b6.mono b5.size)
  have b6w := b4w.trans (b46.mono b4w.size)
  have rV6 := rV4.keep b46
  refine vl_val (os_move rfl) ?_
  refine vl_val (os_build (cs := [.int .i64 4, .int .i64 64, .int .i64 200, .slice (some ⟨gL5, 0, none⟩) 2 2, .slice (some ⟨gW6, 0, none⟩) 2 2, .slice (some ⟨gV, 0, none⟩) 5 5]) rfl (by kernel_rfl)) ?_
  refine vl_call (pn_Best _ (awT 5 20) w6 (awOk i5 (rL5.keep b6) rW6 rV6)) rfl ?_
  rintro v7 w7 ⟨s7, rfl, o7, b7⟩
  rw [aw2.1]
  rw [aw2.2] at o7
  have rV7 := rV6.keep b7
  have b47 := b46.trans (b7.mono b46.size)
  have b7w := b4w.trans (b47.mono b4w.size)
  refine vl_val (os_move rfl) ?_
  refine vl_val (os_extract rfl rfl) ?_
  refine vl_val (os_extract rfl rfl) ?_
  refine vl_val (os_assign rfl) ?_
  refine vl_val (os_assign rfl) ?_
  refine vl_nil ?_
  refine v_seq ?_
  refine v_region ?_
  refine vl_val (os_loadB Try.underlying42 rfl (by kernel_rfl) rfl ((hN3.keep b4).keep b47)) ?_
  refine vl_some (ot_litZ [45, 60] Try.underlying40 Try.sizeOf3 Try.zeroValue3 rfl rfl rfl rfl (by decide)) ?_
  rintro v8 w8 ⟨gL8, rfl, rL8, b8⟩
  refine vl_some (ot_litZ [1, 1] Try.underlying40 Try.sizeOf3 Try.zeroValue3 rfl rfl rfl rfl (by decide)) ?_
  rintro v9 w9 ⟨gW9, rfl, rW9, b9⟩
  have b79 := b8.trans (b9.mono b8.size)
  have b9w := b7w.trans (b79.mono b7w.size)
  have rV9 := rV7.keep b79
  refine vl_val (os_move rfl) ?_
  refine vl_val (os_build (cs := [.int .i64 4, .int .i64 64, .int .i64 200, .slice (some ⟨gL8, 0, none⟩) 2 2, .slice (some ⟨gW9, 0, none⟩) 2 2, .slice (some ⟨gV, 0, none⟩) 5 5]) rfl (by kernel_rfl)) ?_
  refine vl_call (pn_Best _ (awT 45 60) w9 (awOk i45 (rL8.keep b9) rW9 rV9)) rfl ?_
  rintro v10 w10 ⟨s10, rfl, o10, b10⟩
  rw [aw3]
  have b410 := b47.trans ((b79.trans (b10.mono b79.size)).mono b47.size)
  have b710 := b79.trans (b10.mono b79.size)
  have b10w := b9w.trans (b10.mono b9w.size)
  obtain ⟨A4, c4, rfl, -, -, r4, -⟩ := OwnK.form (Own.keepAll o4 b410)
  obtain ⟨A7, c7, rfl, -, -, r7, -⟩ := OwnK.form (Own.keepAll o7 b710)
  refine vl_val (os_move rfl) ?_
  refine vl_val (os_extract rfl rfl) ?_
  refine vl_val (os_extract rfl rfl) ?_
  refine vl_val (os_assign rfl) ?_
  refine vl_val (os_assign rfl) ?_
  refine vl_nil ?_
  refine v_seq ?_
  refine v_region ?_
  refine vl_val (os_move rfl) ?_
  refine vl_val (os_t (os_eql rfl rfl) (rfl)) ?_
  refine vl_val (os_move rfl) ?_
  refine vl_valg rfl (os_move rfl) ?_
  refine vl_someg rfl (ot_litZ [4, 4] Try.underlying40 Try.sizeOf3 Try.zeroValue3 rfl rfl rfl rfl (by decide)) ?_
  rintro v11 w11 ⟨g11, rfl, r11, b11⟩
  refine vl_callg rfl ((kit_SameInts A4 _ 2 2 c4 2 [4, 4] [4, 4] w11 (r4.keep b11) r11 rfl rfl (by decide) (by decide)).mono fun v w' hh => (⟨by rw [hh.1, decide_eq_true rfl], hh.2⟩ : v = .bool true ∧ LeD w11 w')) rfl ?_
  rintro v12 w12 ⟨rfl, d12⟩
  have b1012 := b11.trans ((led_below d12).mono b11.size)
  refine vl_val (os_pick_t rfl rfl) ?_
  refine vl_val (os_move rfl) ?_
  refine vl_valg rfl (os_move rfl) ?_
  refine vl_valg rfl (os_t (os_eql rfl rfl) (rfl)) ?_
  refine vl_val (os_pick_t rfl rfl) ?_
  refine vl_val (os_move rfl) ?_
  refine vl_valg rfl (os_move rfl) ?_
  refine vl_someg rfl (ot_litZ [1, 1] Try.underlying40 Try.sizeOf3 Try.zeroValue3 rfl rfl rfl rfl (by decide)) ?_
  rintro v13 w13 ⟨g13, rfl, r13, b13⟩
  refine vl_callg rfl ((kit_SameInts A7 _ 2 2 c7 2 [1, 1] [1, 1] w13 ((r7.keep b1012).keep b13) r13 rfl rfl (by decide) (by decide)).mono fun v w' hh => (⟨by rw [hh.1, decide_eq_true rfl], hh.2⟩ : v = .bool true ∧ LeD w13 w')) rfl ?_
  rintro v14 w14 ⟨rfl, d14⟩
  have b1014 := b1012.trans ((b13.trans ((led_below d14).mono b13.size)).mono b1012.size)
  refine vl_val (os_pick_t rfl rfl) ?_
  refine vl_val (os_move rfl) ?_
  refine vl_valg rfl (os_move rfl) ?_
  refine vl_valg rfl (os_eql rfl rfl) ?_
  refine vl_val (os_pick_t rfl rfl) ?_
  refine vl_val (os_assign rfl) ?_
  refine vl_nil ?_
  refine v_ret ?_
  exact post_ret rfl rfl (⟨rfl, b10w.trans (b1014.mono b10w.size)⟩)
end Go.Proofs.Ytpojijnjdlnokaa

/- Layer 13: the walk of PlanNone. -/
namespace Go.Proofs.Ytpojijnjdlnokaa
open Go.RowKit
set_option linter.unusedVariables false

set_option maxHeartbeats 8000000 in
theorem law13_PlanNone (d : TaskV) (q : TaskP) (K : Option Addr) (lk ck : Nat) (ks : List Int) (w : World) (hd : TaskOk w d q) (hk : Rd w .i64 K ks) (hlk : lk = ks.length) (hlk' : lk ≤ 20000000000000) (hks : AllI ks) :
    Gives Try.prog 8 #[.agg d.cells.toArray, .slice K lk ck] w fun v w' => v = .bool true ∧ Below w.heap.size w w' := by
  have hB := bk_new w d.cells 44
  have hb0 : Below w.heap.size w (w.alloc (.cells d.cells.toArray 44)) := (Below.refl _ w).alloc (Nat.le_refl _) _
  have hll := hd.ll
  have hbl := hd.bl
  have hbw := hd.bw
  have hbv := hd.bv
  have hl8 := bestL_len (q := q)
  refine gives_enter Try.call8 Try.func8 rfl rfl rfl (by kernel_rfl) ?_
  refine v_seq ?_
  refine v_region ?_
  refine vl_val (os_box rfl) ?_
  refine vl_val (os_assign rfl) ?_
  refine vl_nil ?_
  refine v_seq ?_
  refine v_seq ?_
  refine v_region ?_
  refine vl_call (law13_awake _) rfl ?_
  rintro v1 w1 ⟨rfl, b1⟩
  have hb1 := hb0.trans (b1.mono hb0.size)
  have hB1 := hB.keep b1
  refine vl_val (os_not rfl) ?_
  refine vl_nil ?_
  refine v_cond_f rfl ?_
  refine v_skip ?_
  refine v_seq ?_
  refine v_seq ?_
  refine v_region ?_
  refine vl_val (os_fa (o := 3) (k := 0) (by kernel_rfl) rfl) ?_
  refine vl_val (os_load Try.isAgg40 rfl (hB1.cell (i := 3) rfl)) ?_
  refine vl_val (os_len Try.underlying40 rfl) ?_
  refine vl_val (os_fa (o := 4) (k := 0) (by kernel_rfl) rfl) ?_
  refine vl_val (os_load Try.isAgg40 rfl (hB1.cell (i := 4) rfl)) ?_
  refine vl_val (os_len Try.underlying40 rfl) ?_
  refine vl_val (os_addi rfl rfl (by omega)) ?_
  refine vl_val (os_fa (o := 5) (k := 0) (by kernel_rfl) rfl) ?_
  refine vl_val (os_load Try.isAgg40 rfl (hB1.cell (i := 5) rfl)) ?_
  refine vl_val (os_len Try.underlying40 rfl) ?_
  refine vl_val (os_addi rfl rfl (by omega)) ?_
  refine vl_val (os_move rfl) ?_
  refine vl_val (os_len Try.underlying40 rfl) ?_
  refine vl_val (os_addi rfl rfl (by omega)) ?_
  refine vl_val (os_gtr rfl rfl) ?_
  refine vl_nil ?_
  refine v_cond_d rfl (fun hbig => ?_) (fun hbig => ?_)
  · refine v_seq ?_
    refine v_region ?_
    refine vl_val (os_assign rfl) ?_
    refine vl_nil ?_
    refine v_ret ?_
    exact post_ret rfl rfl (⟨rfl, hb1⟩)
  · refine v_skip ?_
    refine v_seq ?_
    refine v_region ?_
    refine vl_val (os_loadB Try.underlying44 rfl (by kernel_rfl) rfl hB1) ?_
    refine vl_call (pn_Best d q w1 (hd.keep hb1)) rfl ?_
    rintro v2 w2 ⟨s, rfl, ho, b2⟩
    have hb2 := hb1.trans (b2.mono hb1.size)
    have hB2 := hB1.keep b2
    obtain ⟨A2, c2, rfl, -, -, hr2, -⟩ := OwnK.form ho
    refine vl_val (os_move rfl) ?_
    refine vl_val (os_extract rfl rfl) ?_
    refine vl_val (os_extract rfl rfl) ?_
    refine vl_val (os_assign rfl) ?_
    refine vl_val (os_assign rfl) ?_
    refine vl_nil ?_
    cases hT : taskB q
    · have hE : bestE q = 2 := by simp [bestE, hT]
      have hL : bestL q = [] := by unfold bestL; rw [if_neg (by rw [hE]; decide)]
      refine v_seq ?_
      refine v_seq ?_
      refine v_region ?_
      refine vl_val (os_loadB Try.underlying44 rfl (by kernel_rfl) rfl hB2) ?_
      refine vl_call (gives_boolb (pn_Right d q w2 (hd.keep hb2)) hT) rfl ?_
      rintro v3 w3 ⟨rfl, b3⟩
      refine vl_val (os_not rfl) ?_
      refine vl_nil ?_
      refine v_cond_t rfl ?_
      refine v_seq ?_
      refine v_region ?_
      refine vl_val (os_move rfl) ?_
      refine vl_val (os_t (os_eql rfl rfl) (by omega)) ?_
      refine vl_val (os_move rfl) ?_
      refine vl_valg rfl (os_move rfl) ?_
      refine vl_valg rfl (os_len Try.underlying40 rfl) ?_
      refine vl_valg rfl (os_eql rfl rfl) ?_
      refine vl_val (os_pick_t rfl rfl) ?_
      refine vl_val (os_assign rfl) ?_
      refine vl_nil ?_
      refine v_ret ?_
      exact post_ret rfl rfl (⟨by rw [hL]; rfl, hb2.trans (b3.mono hb2.size)⟩)
    · refine v_seq ?_
      refine v_seq ?_
      refine v_region ?_
      refine vl_val (os_loadB Try.underlying44 rfl (by kernel_rfl) rfl hB2) ?_
      refine vl_call (gives_boolb (pn_Right d q w2 (hd.keep hb2)) hT) rfl ?_
      rintro v3 w3 ⟨rfl, b3⟩
      have hb3 := hb2.trans (b3.mono hb2.size)
      have hB3 := hB2.keep b3
      have hd3 := hd.keep hb3
      have hr3 := hr2.keep b3
      refine vl_val (os_not rfl) ?_
      refine vl_nil ?_
      refine v_cond_f rfl ?_
      refine v_skip ?_
      refine v_seq ?_
      refine v_region ?_
      refine vl_val (os_fa (o := 0) (k := 2) (by kernel_rfl) rfl) ?_
      refine vl_val (os_loadP (cs := [.int .i64 d.n, .int .i64 d.m, .int .i64 d.b]) Try.underlying42 rfl (by kernel_rfl) rfl ((Bk.rdc hB3).take 3)) ?_
      refine vl_val (os_fa (o := 3) (k := 0) (by kernel_rfl) rfl) ?_
      refine vl_val (os_load Try.isAgg40 rfl (hB3.cell (i := 3) rfl)) ?_
      refine vl_val (os_move rfl) ?_
      refine vl_call (size_Fits d.n d.m d.b d.AL K d.ll d.lc lk ck q.lens ks w3 hd3.L (hk.keep hb3) hll hlk (by omega) (by omega) hks) rfl ?_
      rintro v4 w4 ⟨rfl, b4⟩
      obtain ⟨F, hF⟩ : ∃ F, F = fitsB d.n d.m d.b q.lens ks := ⟨_, rfl⟩
      rw [← hF]
      rw [hd.n, hd.m, hd.b] at hF
      have hb4 := hb3.trans (b4.mono hb3.size)
      have hB4 := hB3.keep b4
      have hR := taskR hT
      have hl8' := hR.l2
      refine vl_val (os_assign rfl) ?_
      refine vl_nil ?_
      refine v_seq ?_
      refine v_region ?_
      refine vl_val (os_assign rfl) ?_
      refine vl_nil ?_
      refine v_seq ?_
      refine v_seq ?_
      refine v_region ?_
      refine vl_val (os_assign rfl) ?_
      refine vl_nil ?_
      refine v_block ?_
      refine v_loop2 [(1, _), (2, _), (5, _), (6, _), (7, _)] (fun (v : Value) (i : Nat) => [(8, v), (9, .int .i64 i)]) (fun v i w' => i ≤ d.ll ∧ OwnK w' w4.heap.size 3 .i64 v (List.replicate i d.n) ∧ Below w4.heap.size w4 w') (fun v i => d.ll - i) (.slice none 0 0) (0) ⟨rfl, rfl, rfl, rfl, rfl, trivial⟩ ⟨rfl, rfl, trivial⟩ (⟨by omega, Own.nil _ _ _, Below.refl _ _⟩) ?_
      rintro v i w5 ⟨hi, ho5, hb5⟩
      have hB5 := hB4.keep hb5
      refine v_seq ?_
      refine v_seq ?_
      refine v_region ?_
      refine vl_val (os_move rfl) ?_
      refine vl_val (os_fa (o := 3) (k := 0) (by kernel_rfl) rfl) ?_
      refine vl_val (os_load Try.isAgg40 rfl (hB5.cell (i := 3) rfl)) ?_
      refine vl_val (os_len Try.underlying40 rfl) ?_
      refine vl_val (os_lss rfl rfl) ?_
      refine vl_nil ?_
      refine v_cond_d rfl (fun hlt => ?_) (fun hlt => ?_)
      · refine v_skip ?_
        refine v_seq ?_
        refine v_block ?_
        refine v_region ?_
        refine vl_val (os_move rfl) ?_
        refine vl_val (os_fa (o := 0) (k := 2) (by kernel_rfl) rfl) ?_
        refine vl_val (os_fa (o := 0) (k := 0) (by kernel_rfl) rfl) ?_
        refine vl_val (os_load Try.isAgg3 rfl (hB5.cell (i := 0) rfl)) ?_
        refine vl_val (os_lit Try.underlying40 Try.sizeOf3 Try.zeroValue3 rfl rfl rfl rfl (by decide)) ?_
        refine vl_some (ot_append Try.underlying40 ti_int rfl rfl rfl (Own.alloc ho5 (.cells [Value.int .i64 d.n].toArray 3)) (rdc_alloc w5 [Value.int .i64 d.n] _) rfl (by intro u hu; rw [List.mem_singleton.1 hu]; rfl) (by simp; omega) (by simp [maxLen]; omega) (by have := hb5.size; simp; omega)) ?_
        rintro v6 w6 ⟨o6, g6⟩
        refine vl_val (os_assign rfl) ?_
        refine vl_nil ?_
        refine v_region ?_
        refine vl_val (os_move rfl) ?_
        refine vl_val (os_addi rfl rfl (by omega)) ?_
        refine vl_val (os_assign rfl) ?_
        refine vl_nil ?_
        exact ⟨⟨v6, i + 1⟩, ⟨rfl, rfl, rfl, rfl, rfl, trivial⟩, ⟨rfl, rfl, trivial⟩, ⟨by omega, by unfold OwnK; rw [List.replicate_succ', List.map_append]; exact o6, Own.below (hb5.alloc hb5.size (.cells [Value.int .i64 d.n].toArray 3)) (Own.alloc ho5 _) g6 (Nat.le_refl _) (by have := hb5.size; simp; omega)⟩, by dsimp only; omega⟩
      · obtain rfl : i = d.ll := by omega
        obtain ⟨A5, c5, rfl, -, -, hr5, -⟩ := OwnK.form ho5
        have hb5w := hb4.trans (hb5.mono hb4.size)
        have b35 := b4.trans (hb5.mono b4.size)
        have hd5 := hd.keep hb5w
        have hr25 := hr3.keep b35
        rw [List.length_replicate]
        have hrep : AllI (List.replicate d.ll d.n) := fun z hz => by rw [(List.mem_replicate.1 hz).2, hd.n]; exact hd.iN.1
        refine v_exit ?_
        refine v_seq ?_
        refine v_seq ?_
        refine v_region ?_
        refine vl_val (os_move rfl) ?_
        refine vl_val (os_eql rfl rfl) ?_
        refine vl_val (os_fa (o := 0) (k := 2) (by kernel_rfl) rfl) ?_
        refine vl_val (os_loadP (cs := [.int .i64 d.n, .int .i64 d.m, .int .i64 d.b]) Try.underlying42 rfl (by kernel_rfl) rfl ((Bk.rdc hB5).take 3)) ?_
        refine vl_val (os_fa (o := 3) (k := 0) (by kernel_rfl) rfl) ?_
        refine vl_val (os_load Try.isAgg40 rfl (hB5.cell (i := 3) rfl)) ?_
        have hri : rightB q.n q.m q.b = true := by have h1 := hR.n_; have h2 := hR.n1; have h3 := hR.n2; have h4 := hR.m1; have h5 := hR.b1; simp only [rightB, decide_eq_true_eq]; omega
        have hfc : fitsB d.n d.m d.b q.lens (List.replicate d.ll d.n) = canB q.n q.m q.b q.lens := by rw [hd.n, hd.m, hd.b, hll]; unfold canB; rw [hri]; rfl
        refine vl_val (os_move rfl) ?_
        refine vl_call (size_Fits d.n d.m d.b d.AL A5 d.ll d.lc d.ll c5 q.lens (List.replicate d.ll d.n) w5 hd5.L hr5 hll (by simp) (by omega) (by omega) hrep) rfl ?_
        rintro v6 w6 ⟨rfl, b6⟩
        have hb6 := hb5w.trans (b6.mono hb5w.size)
        have hB6 := hB5.keep b6
        rw [hfc]
        refine vl_val (os_not rfl) ?_
        refine vl_val (os_neqb Try.underlying4 rfl rfl) ?_
        refine vl_nil ?_
        cases hC : canB q.n q.m q.b q.lens
        · have hE : bestE q = 12 := by simp [bestE, hT, hC]
          have hL : bestL q = [] := by unfold bestL; rw [if_neg (by rw [hE]; decide)]
          have hF0 : F = false := by
            cases hFF : F
            · rfl
            · rw [hF] at hFF
              have := pl_fits_can hT hFF
              rw [hC] at this; cases this
          rw [hE, hF0]
          refine v_cond_f rfl ?_
          refine v_skip ?_
          refine v_seq ?_
          refine v_seq ?_
          refine v_region ?_
          refine vl_val (os_move rfl) ?_
          refine vl_val (os_neq rfl rfl) ?_
          refine vl_nil ?_
          refine v_cond_yes rfl (by decide) ?_
          refine v_seq ?_
          refine v_region ?_
          refine vl_val (os_move rfl) ?_
          refine vl_val (os_t (os_eql rfl rfl) (by decide)) ?_
          refine vl_val (os_move rfl) ?_
          refine vl_valg rfl (os_move rfl) ?_
          refine vl_valg rfl (os_not rfl) ?_
          refine vl_val (os_pick_t rfl rfl) ?_
          refine vl_val (os_move rfl) ?_
          refine vl_valg rfl (os_move rfl) ?_
          refine vl_valg rfl (os_len Try.underlying40 rfl) ?_
          refine vl_valg rfl (os_eql rfl rfl) ?_
          refine vl_val (os_pick_t rfl rfl) ?_
          refine vl_val (os_assign rfl) ?_
          refine vl_nil ?_
          refine v_ret ?_
          exact post_ret rfl rfl (⟨by rw [hL]; rfl, hb6⟩)
        · have hE : bestE q = 0 := by simp [bestE, hT, hC]
          have hbn := best_none hE (zs := List.replicate d.ll d.n) (by rw [← hd.n, ← hd.m, ← hd.b, hfc]; exact hC)
          have hd6 := hd5.keep b6
          have hr26 := hr25.keep b6
          rw [hE]
          refine v_cond_f rfl ?_
          refine v_skip ?_
          refine v_seq ?_
          refine v_seq ?_
          refine v_region ?_
          refine vl_val (os_move rfl) ?_
          refine vl_val (os_neq rfl rfl) ?_
          refine vl_nil ?_
          refine v_cond_no rfl (by decide) ?_
          refine v_skip ?_
          refine v_seq ?_
          refine v_seq ?_
          refine v_region ?_
          refine vl_val (os_fa (o := 0) (k := 2) (by kernel_rfl) rfl) ?_
          refine vl_val (os_loadP (cs := [.int .i64 d.n, .int .i64 d.m, .int .i64 d.b]) Try.underlying42 rfl (by kernel_rfl) rfl ((Bk.rdc hB6).take 3)) ?_
          refine vl_val (os_fa (o := 3) (k := 0) (by kernel_rfl) rfl) ?_
          refine vl_val (os_load Try.isAgg40 rfl (hB6.cell (i := 3) rfl)) ?_
          refine vl_val (os_move rfl) ?_
          refine vl_call (gives_boolb (size_Fits d.n d.m d.b d.AL A2 d.ll d.lc (bestL q).length c2 q.lens (bestL q) w6 hd6.L hr26 hll rfl (by omega) (by omega) (fun z hz => by rw [(bestR hE).l] at hz; obtain ⟨x, hx, rfl⟩ := List.mem_map.1 hz; have := (bestR hE).mem x hx; have := hR.n2; exact ⟨by omega, by omega⟩)) (show _ = true by rw [hd.n, hd.m, hd.b]; exact best_fits hE)) rfl ?_
          rintro v7 w7 ⟨rfl, b7⟩
          have hb7 := hb6.trans (b7.mono hb6.size)
          have hB7 := hB6.keep b7
          have hd7 := hd6.keep b7
          have hr27 := hr26.keep b7
          have hr57 := (hr5.keep b6).keep b7
          refine vl_val (os_not rfl) ?_
          refine vl_nil ?_
          refine v_cond_f rfl ?_
          refine v_skip ?_
          refine v_seq ?_
          refine v_region ?_
          refine vl_val (os_fa (o := 4) (k := 0) (by kernel_rfl) rfl) ?_
          refine vl_val (os_load Try.isAgg40 rfl (hB7.cell (i := 4) rfl)) ?_
          refine vl_val (os_move rfl) ?_
          refine vl_val (os_move rfl) ?_
          refine vl_val (os_fa (o := 5) (k := 0) (by kernel_rfl) rfl) ?_
          refine vl_val (os_load Try.isAgg40 rfl (hB7.cell (i := 5) rfl)) ?_
          refine vl_call (wg_Better d.AW A5 A2 d.AV d.wl d.ll (bestL q).length d.vl d.wc c5 c2 d.vc q.worths (List.replicate d.ll d.n) (bestL q) q.ws w7 hd7.W hr57 hr27 hd7.V hd.wl (by simp) rfl hd.vl (by omega) (by omega) (by omega) (by omega)) rfl ?_
          rintro v8 w8 ⟨rfl, d8⟩
          rw [hbn.1, hbn.2]
          have hb8 := hb7.trans ((led_below d8).mono hb7.size)
          have hB8 := hB7.led d8
          refine vl_val (os_move rfl) ?_
          refine vl_val (os_extract rfl rfl) ?_
          refine vl_val (os_extract rfl rfl) ?_
          refine vl_val (os_assign rfl) ?_
          refine vl_val (os_assign rfl) ?_
          refine vl_nil ?_
          refine v_seq ?_
          refine v_seq ?_
          refine v_region ?_
          refine vl_val (os_move rfl) ?_
          refine vl_val (os_f (os_neq rfl rfl) (by decide)) ?_
          refine vl_val (os_move rfl) ?_
          refine vl_valg rfl (os_move rfl) ?_
          refine vl_val (os_pick_f rfl rfl) ?_
          refine vl_nil ?_
          cases F
          · refine v_cond_f rfl ?_
            refine v_skip ?_
            refine v_seq ?_
            refine v_seq ?_
            refine v_region ?_
            refine vl_val (os_move rfl) ?_
            refine vl_val (os_not rfl) ?_
            refine vl_nil ?_
            refine v_cond_t rfl ?_
            refine v_seq ?_
            refine v_region ?_
            refine vl_val (os_assign rfl) ?_
            refine vl_nil ?_
            refine v_ret ?_
            exact post_ret rfl rfl (⟨rfl, hb8⟩)
          · have hbk := best_none hE (zs := ks) hF.symm
            have hd8 := hd7.led d8
            refine v_cond_f rfl ?_
            refine v_skip ?_
            refine v_seq ?_
            refine v_seq ?_
            refine v_region ?_
            refine vl_val (os_move rfl) ?_
            refine vl_val (os_not rfl) ?_
            refine vl_nil ?_
            refine v_cond_f rfl ?_
            refine v_skip ?_
            refine v_seq ?_
            refine v_region ?_
            refine vl_val (os_fa (o := 4) (k := 0) (by kernel_rfl) rfl) ?_
            refine vl_val (os_load Try.isAgg40 rfl (hB8.cell (i := 4) rfl)) ?_
            refine vl_val (os_move rfl) ?_
            refine vl_val (os_move rfl) ?_
            refine vl_val (os_fa (o := 5) (k := 0) (by kernel_rfl) rfl) ?_
            refine vl_val (os_load Try.isAgg40 rfl (hB8.cell (i := 5) rfl)) ?_
            refine vl_call (wg_Better d.AW K A2 d.AV d.wl lk (bestL q).length d.vl d.wc ck c2 d.vc q.worths ks (bestL q) q.ws w8 hd8.W (hk.keep hb8) (hr27.led d8) hd8.V hd.wl hlk rfl hd.vl (by omega) (by omega) (by omega) (by omega)) rfl ?_
            rintro v9 w9 ⟨rfl, d9⟩
            rw [hbk.1, hbk.2]
            refine vl_val (os_move rfl) ?_
            refine vl_val (os_extract rfl rfl) ?_
            refine vl_val (os_extract rfl rfl) ?_
            refine vl_val (os_assign rfl) ?_
            refine vl_val (os_assign rfl) ?_
            refine vl_nil ?_
            refine v_seq ?_
            refine v_region ?_
            refine vl_val (os_move rfl) ?_
            refine vl_val (os_t (os_eql rfl rfl) (by decide)) ?_
            refine vl_val (os_move rfl) ?_
            refine vl_valg rfl (os_move rfl) ?_
            refine vl_valg rfl (os_not rfl) ?_
            refine vl_val (os_pick_t rfl rfl) ?_
            refine vl_val (os_assign rfl) ?_
            refine vl_nil ?_
            refine v_ret ?_
            exact post_ret rfl rfl (⟨rfl, hb8.trans ((led_below d9).mono hb8.size)⟩)
end Go.Proofs.Ytpojijnjdlnokaa
