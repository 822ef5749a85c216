/- Texts joined: GsH GsQ KitL. -/
import Derived.Test.YtpjmiafefammkaaM8
/- Layer 24: the program's guesser: why, says, Hear, Parts, Seq. -/
namespace Go.Proofs.Ytpjmiafefammkaa
open Go.RowKit
set_option linter.unusedVariables false

theorem why_none {st n sq : Int} {d : NoteV} (h : (errsW (whyB st n sq d) 4).length = 0) : whyN st n sq d = 0 := by
  rw [why_errs, List.eq_nil_of_length_eq_zero h]; rfl
set_option maxHeartbeats 4000000 in
theorem guess_why (g : Nat) (ps : List Int) (st n sq : Int) (d : NoteV) (w : World) (hG : GS w g ps st n sq) (hd : NoteOk w d) : Gives Try.prog 59 #[.pointer (some ⟨g, 0, none⟩), .agg d.cells.toArray] w fun v w' => v = .int .i64 (whyN st n sq d) ∧ Below w.heap.size w w' := by
  have p0 := bk_new w [.pointer (some ⟨g, 0, none⟩)] 25
  have c0 : Below w.heap.size w (w.alloc (.cells [Value.pointer (some ⟨g, 0, none⟩)].toArray 25)) := (Below.refl _ w).alloc (Nat.le_refl _) _
  have p1 := (p0.alloc (.cells d.cells.toArray 35)).alloc (.cells [Value.int .i64 0].toArray 26)
  have c1 := (c0.alloc c0.size (.cells d.cells.toArray 35)).alloc (c0.alloc c0.size _).size (.cells [Value.int .i64 0].toArray 26)
  have n1 := (bk_new (w.alloc (.cells [Value.pointer (some ⟨g, 0, none⟩)].toArray 25)) d.cells 35).alloc (.cells [Value.int .i64 0].toArray 26)
  have r1 := bk_new ((w.alloc (.cells [Value.pointer (some ⟨g, 0, none⟩)].toArray 25)).alloc (.cells d.cells.toArray 35)) [.int .i64 0] 26
  obtain ⟨w3, hw3⟩ : ∃ w3, w3 = ((w.alloc (.cells [Value.pointer (some ⟨g, 0, none⟩)].toArray 25)).alloc (.cells d.cells.toArray 35)).alloc (.cells [Value.int .i64 0].toArray 26) := ⟨_, rfl⟩
  rw [← hw3] at p1 c1 n1 r1
  have s3 : w3.heap.size = w.heap.size + 3 := by rw [hw3]; simp
  simp only [World.size_alloc] at n1 r1
  have hL := rdp_alloc w3 (reasC w.heap.size) 127 (reasC_len _)
  have c3 : LeG w3 (w3.alloc (.cells (reasC w.heap.size).flatten.toArray 127)) := (Below.refl _ w3).alloc (Nat.le_refl _) _
  refine gives_enter Try.call59 Try.func59 rfl rfl rfl (by kernel_rfl) ?_
  refine v_seq ?_
  refine v_region ?_
  refine vl_val (os_box rfl) ?_
  refine vl_val (os_box rfl) ?_
  refine vl_val (os_alloc1 Try.zeroValue26 rfl) ?_
  have hw3' : w3 = ((w.alloc (.cells (Value.pointer (some ⟨g, 0, none⟩)).cells 25)).alloc (.cells (Value.agg d.cells.toArray).cells 35)).alloc (.cells [Value.int .i64 0].toArray 26) := hw3
  rw [← hw3']
  simp only [World.size_alloc]
  refine vl_nil ?_
  refine v_seq ?_
  refine v_region ?_
  refine vl_val (os_build (cs := [.func (.func 99) #[] #[], .int .i64 2]) rfl (by kernel_rfl)) ?_
  refine vl_val (os_makeFunc rfl) ?_
  refine vl_val (os_build (cs := [.func (.func 100) #[] #[.pointer (some ⟨w.heap.size, 0, none⟩)], .int .i64 13]) rfl (by kernel_rfl)) ?_
  refine vl_val (os_makeFunc rfl) ?_
  refine vl_val (os_build (cs := [.func (.func 101) #[] #[.pointer (some ⟨w.heap.size, 0, none⟩)], .int .i64 14]) rfl (by kernel_rfl)) ?_
  refine vl_val (os_build (cs := [.func (.func 102) #[] #[], .int .i64 5]) rfl (by kernel_rfl)) ?_
  refine vl_val (os_litS (css := reasC w.heap.size) Try.underlying129 Try.sizeOf127 Try.zeroValue127 rfl rfl (reasC_len _) (by decide) (by decide) (by decide)) ?_
  refine vl_val (os_assign rfl) ?_
  refine vl_nil ?_
  refine v_range_seq ?_
  refine v_region ?_
  refine vl_val (os_move rfl) ?_
  refine vl_val (os_loadB Try.underlying35 rfl (by kernel_rfl) rfl ((n1.keep c3))) ?_
  refine vl_call (guess_of _ _ _ d _) rfl ?_
  rintro v4 w5 ⟨rfl, e5⟩
  have hL5 : RdP w5 2 (some ⟨w3.heap.size, 0, none⟩) (reasC w.heap.size) := by rw [e5]; exact (hL.keep ((Below.refl _ _).alloc (Nat.le_refl _) _)).keep ((Below.refl _ _).alloc (Nat.le_refl _) _)
  have q1 : Bk w5 (w3.alloc (.cells (reasC w.heap.size).flatten.toArray 127)).heap.size [.slice (some ⟨w3.heap.size, 0, none⟩) 4 4] 129 := by rw [e5]; exact (bk_new _ [.slice (some ⟨w3.heap.size, 0, none⟩) 4 4] _).alloc _
  have q2 : Bk w5 ((w3.alloc (.cells (reasC w.heap.size).flatten.toArray 127)).heap.size + 1) d.cells 35 := by rw [e5]; have := bk_new ((w3.alloc (.cells (reasC w.heap.size).flatten.toArray 127)).alloc (.cells #[.slice (some ⟨w3.heap.size, 0, none⟩) 4 4] 129)) d.cells 35; rw [World.size_alloc] at this; exact this
  have b35 : LeG w3 w5 := by rw [e5]; exact (Below.alloc c3 (Below.size c3) _).alloc (Below.alloc c3 (Below.size c3) _).size _
  have hb5 : Below w.heap.size w w5 := c1.trans (Below.mono b35 c1.size)
  have q3 := p1.keep b35
  have q4 := r1.keep b35
  have hG5 := hG.keep hb5
  have hd5 := hd.keep hb5
  refine vl_nil ?_
  refine v_range ((errsW (whyB st n sq d) 4).length) (fun k => [.int .i64 ((errsW (whyB st n sq d) 4).getD k 0)]) (fun k w' => k = 0 ∧ Below w5.heap.size w5 w') (fun e w' => e = .ret ∧ 0 < (errsW (whyB st n sq d) 4).length ∧ Bk w' (w.heap.size + 1 + 1) [.int .i64 ((errsW (whyB st n sq d) 4).getD 0 0)] 26 ∧ Below w.heap.size w w') (fun k => [(6, .int .i64 ((errsW (whyB st n sq d) 4).getD k 0)), (4, .pointer (some ⟨w.heap.size + 1 + 1, 0, none⟩))]) Try.call137 rfl (fun _ => rfl) (fun k W W' ⟨h1, h2⟩ hn => ⟨h1, hn.below h2 (Nat.le_refl _) (Nat.le_refl _)⟩) (fun e W W' ⟨h1, h2, h3, h4⟩ hn => ⟨h1, h2, hn.bk h3, hn.below h4 hb5.size (Nat.le_refl _)⟩) (⟨rfl, Below.refl _ _⟩) (fun l J Jx W hW hJI hJ hJx hR hJ0 => guess_of_fn l _ _ w.heap.size g _ 4 d ps st n sq J Jx W (fun k W h => by obtain ⟨h1, h2⟩ := hJI k W h; exact ⟨q1.keep h2, q2.keep h2, hL5.keep h2, q3.keep h2, hG5.keep h2, hd5.keep h2⟩) hJ hR hJ0) ?_ ?_ ?_ (fun D W hD hK ⟨_, h2, h3, h4⟩ => post_m (fn := Try.f59) hK (fun a hag => res_c (t := 4) rfl rfl Try.isAgg26 (((Nc.put (B := w5.heap.size) (.deferred none) hD hK rfl).bk h3).cell (i := 0) rfl) hag) ⟨by rw [why_errs], (Nc.put (B := w5.heap.size) (.deferred none) hD hK rfl).below h4 hb5.size (Nat.le_refl _)⟩) (fun _ _ _ _ _ h => by cases h.1)
  · intro l k w'
    refine v_region ?_
    refine vl_val (os_assign rfl) ?_
    refine vl_nil ?_
    exact ⟨rfl, rfl, ⟨rfl, rfl, trivial⟩⟩
  · rintro l k w' hk ⟨hk0, b6⟩
    subst hk0
    have r6 := q4.keep b6
    refine v_block ?_
    refine v_seq ?_
    refine v_region ?_
    refine vl_val (os_move rfl) ?_
    refine vl_unit (ou_store Try.sizeOf26 rfl rfl rfl (r6.cell (i := 0) rfl) (r6.free _)) ?_
    refine vl_nil ?_
    refine v_ret ?_
    exact ⟨Kn.set (r6.cell (i := 0) rfl) _, rfl, hk, r6.set 0 _, below_set (hb5.trans (b6.mono hb5.size)) (by omega) _ _⟩
  · rintro D w' hD hK ⟨hN, b6⟩
    have r6 := q4.keep b6
    refine v_seq ?_
    refine v_region ?_
    refine vl_unit (ou_store Try.sizeOf26 rfl rfl rfl (r6.cell (i := 0) rfl) (r6.free _)) ?_
    have hK' := (Kn.set (B := 0) (r6.cell (i := 0) rfl) (.int .i64 0)).block D _ (Nat.zero_le _) hK rfl
    have hN2 := Nc.put (B := w5.heap.size) (.deferred none) hD hK' rfl
    refine vl_nil ?_
    refine v_ret ?_
    exact post_m (fn := Try.f59) (hK') (fun a ha => res_c (t := 4) rfl rfl Try.isAgg26 ((hN2.bk (r6.set 0 _)).cell (i := 0) rfl) ha) (⟨by rw [why_none hN], hN2.below (below_set (hb5.trans (b6.mono hb5.size)) (by omega) (0 + 0) _) hb5.size (Nat.le_refl _)⟩)

theorem g_Share (a b : Int) (w : World) (ha : I64 a) (hb : I64 b) : Gives Try.prog 71 #[.int .i64 a, .int .i64 b] w fun v w' => v = .tuple #[.int .i64 (shareV a b), .int .i64 (argE (shareOk a b))] ∧ w' = w :=
  gives_of Try.call71 (fixed_Share a b w ha hb) fun e w' ⟨h1, h2⟩ => ⟨_, h1, rfl, h2.symm⟩

set_option maxHeartbeats 4000000 in
theorem guess_says (d : NoteV) (w : World) (hd : NoteOk w d) (hr : RightD d) : Gives Try.prog 60 #[.agg d.cells.toArray] w fun v w' => OwnK w' w.heap.size 3 .i64 v (saysL d.n d.cs) ∧ Below w.heap.size w w' := by
  have hl := hd.2.1
  have hn := hr.n
  have hcnt := cnt_all hr.cnt
  have hlen := hcnt.2 (by omega)
  have htb := times_bd hr.cnt
  have hB0 := bk_new w d.cells 35
  have hb0 : Below w.heap.size w (w.alloc (.cells d.cells.toArray 35)) := (Below.refl _ w).alloc (Nat.le_refl _) _
  refine gives_enter Try.call60 Try.func60 rfl rfl rfl (by kernel_rfl) ?_
  refine v_seq ?_
  refine v_region ?_
  refine vl_val (os_box rfl) ?_
  refine vl_val (os_assign rfl) ?_
  refine vl_nil ?_
  refine v_seq ?_
  refine v_region ?_
  refine vl_val (os_assign rfl) ?_
  refine vl_nil ?_
  refine v_seq ?_
  refine v_seq ?_
  refine v_region ?_
  refine vl_val (os_fa (o := 3) (k := 0) (by kernel_rfl) rfl) ?_
  refine vl_val (os_load Try.isAgg33 rfl (hB0.cell (i := 3) rfl)) ?_
  refine vl_val (os_len Try.underlying33 rfl) ?_
  refine vl_val (os_move rfl) ?_
  refine vl_nil ?_
  refine v_block ?_
  refine v_loop [(1, _), (10, _), (11, _)] (fun (i : Nat) => [(3, .int .i64 (timesL (d.cs.take i))), (12, .int .i64 i)]) (fun i w' => i ≤ d.l ∧ LeG (w.alloc (.cells d.cells.toArray 35)) w') (fun i => d.l - i) (0) ⟨rfl, rfl, rfl, trivial⟩ ⟨rfl, rfl, trivial⟩ (⟨by omega, lee_g.refl _⟩) ?_
  rintro i w1 ⟨hi, b1⟩
  refine v_seq ?_
  refine v_region ?_
  refine vl_val (os_lss rfl rfl) ?_
  refine vl_nil ?_
  refine v_seq ?_
  refine v_cond_d rfl (fun h => ?_) (fun h => ?_)
  · obtain ⟨b, o, eA, q1, q2, q3⟩ := (show RdP w1 2 d.A (d.cs.map rowC) from (hd.keep hb0).1.keep b1).at2 (i := i) (by omega)
    have ht1 := times_take hr.cnt i
    have ht2 := times_take hr.cnt (i + 1)
    rw [times_succ (by omega)] at ht2
    rw [eA]
    refine v_skip ?_
    refine v_seq ?_
    refine v_block ?_
    refine v_seq ?_
    refine v_region ?_
    refine vl_val (os_ixs Try.underlying33 Try.sizeOf49 rfl rfl (i := i) (by omega) (by omega)) ?_
    refine vl_val (os_loadP Try.underlying49 rfl (by kernel_rfl) rfl q3) ?_
    refine vl_val (os_allocB Try.zeroValue49 (zc := _) (cs := [.int .i64 0, .int .i64 0]) rfl) ?_
    have hC0 := bk_new w1 [.int .i64 0, .int .i64 0] 49
    have b2 := Below.alloc b1 (Below.size b1) (.cells [Value.int .i64 0, .int .i64 0].toArray 49)
    refine vl_unit (ou_storeB (by kernel_rfl) rfl rfl hC0 rfl rfl) ?_
    have hC := setRow_bk hC0 (rowC (d.cs.getD i (0, 0)))
    have b3 := below_setRow b2 (Below.size b1) (rowC (d.cs.getD i (0, 0))).toArray
    refine vl_nil ?_
    refine v_region ?_
    refine vl_val (os_move rfl) ?_
    refine vl_val (os_fa (o := 1) (k := 0) (by kernel_rfl) rfl) ?_
    refine vl_val (os_load Try.isAgg3 rfl (hC.cell rfl)) ?_
    refine vl_val (os_addi rfl rfl (by omega)) ?_
    refine vl_val (os_assign rfl) ?_
    refine vl_nil ?_
    refine v_region ?_
    refine vl_val (os_addi rfl rfl (by omega)) ?_
    refine vl_val (os_move rfl) ?_
    refine vl_nil ?_
    exact ⟨i + 1, ⟨rfl, rfl, rfl, trivial⟩, ⟨by rw [times_succ (by omega)]; rfl, rfl, trivial⟩, ⟨by omega, b3⟩, by dsimp only; omega⟩
  · obtain hli : d.l = i := by omega
    have hT : timesL (d.cs.take i) = timesL d.cs := by rw [List.take_of_length_le (by omega)]
    rw [hT]
    have hB1 := hB0.keep b1
    refine v_exit ?_
    refine v_seq ?_
    refine v_region ?_
    refine vl_val (os_fa (o := 2) (k := 0) (by kernel_rfl) rfl) ?_
    refine vl_val (os_load Try.isAgg3 rfl (hB1.cell (i := 2) rfl)) ?_
    refine vl_val (os_addi rfl rfl (by omega)) ?_
    refine vl_some (ot_make (l := d.n.toNat + 1) Try.underlying40 ti_int rfl rfl rfl (by omega) (by omega) (by omega) (by simp [maxLen]; omega) w1.heap.size (Nat.le_refl _)) ?_
    rintro v2 w2 ⟨rfl, ho, hg⟩
    have b2 : Below w1.heap.size w1 w2 := (Below.refl _ _).grown hg (Nat.le_refl _) (fun k hk => by cases hk)
    have hB2 := hB1.keep b2
    have hlt2 := hB1.lt
    have bW : Below (w.alloc (.cells d.cells.toArray 35)).heap.size (w.alloc (.cells d.cells.toArray 35)) w2 := Below.trans b1 (b2.mono (Below.size b1))
    have hd2 := (hd.keep hb0).keep bW
    have hsz := Below.size b1
    refine vl_val (os_assign rfl) ?_
    refine vl_nil ?_
    refine v_seq ?_
    refine v_seq ?_
    refine v_region ?_
    refine vl_val (os_fa (o := 3) (k := 0) (by kernel_rfl) rfl) ?_
    refine vl_val (os_load Try.isAgg33 rfl (hB2.cell (i := 3) rfl)) ?_
    refine vl_val (os_len Try.underlying33 rfl) ?_
    refine vl_val (os_move rfl) ?_
    refine vl_nil ?_
    refine v_block ?_
    refine v_loop [(3, _), (6, _), (26, _), (27, _)] (fun (i : Nat) => [(28, .int .i64 i)]) (fun i w' => i ≤ d.l ∧ Below w1.heap.size w1 w' ∧ ∃ out, saysL d.n d.cs = saysGo (timesL d.cs) (d.cs.drop i) out ∧ out.length = d.n.toNat + 1 ∧ OwnK w' w1.heap.size 3 .i64 (.slice (some ⟨w1.heap.size, 0, none⟩) (d.n.toNat + 1) (d.n.toNat + 1)) out) (fun i => d.l - i) (0) ⟨rfl, rfl, rfl, rfl, trivial⟩ ⟨rfl, trivial⟩ (⟨by omega, b2, List.replicate (d.n.toNat + 1) 0, rfl, by simp, by simpa [OwnK] using ho⟩) ?_
    rintro i w3 ⟨hi3, b3, out, hs3, ho3, hO3⟩
    refine v_seq ?_
    refine v_region ?_
    refine vl_val (os_lss rfl rfl) ?_
    refine vl_nil ?_
    refine v_seq ?_
    refine v_cond_d rfl (fun h3 => ?_) (fun h3 => ?_)
    · have b13 : Below (w.alloc (.cells d.cells.toArray 35)).heap.size (w.alloc (.cells d.cells.toArray 35)) w3 := Below.trans b1 (b3.mono (Below.size b1))
      obtain ⟨b, o, eA, q1, q2, q3⟩ := (show RdP w3 2 d.A (d.cs.map rowC) from ((hd.keep hb0).keep b13).1).at2 (i := i) (by omega)
      have hc1 := hcnt.1 (d.cs.getD i (0, 0)) (by rw [List.getD_eq_getElem?_getD, List.getElem?_eq_getElem (by omega)]; exact List.getElem_mem _)
      have hst := saysGo_step (all := timesL d.cs) (cs := d.cs) (out := out) (i := i) (by omega)
      rw [eA]
      refine v_skip ?_
      refine v_seq ?_
      refine v_block ?_
      refine v_seq ?_
      refine v_region ?_
      refine vl_val (os_ixs Try.underlying33 Try.sizeOf49 rfl rfl (i := i) (by omega) (by omega)) ?_
      refine vl_val (os_loadP Try.underlying49 rfl (by kernel_rfl) rfl q3) ?_
      refine vl_val (os_allocB Try.zeroValue49 (zc := _) (cs := [.int .i64 0, .int .i64 0]) rfl) ?_
      have hC0 := bk_new w3 [.int .i64 0, .int .i64 0] 49
      have b4 : LeG w3 (w3.alloc (.cells [Value.int .i64 0, .int .i64 0].toArray 49)) := (Below.refl _ _).alloc (Nat.le_refl _) _
      refine vl_unit (ou_storeB (by kernel_rfl) rfl rfl hC0 rfl rfl) ?_
      have hC := setRow_bk hC0 (rowC (d.cs.getD i (0, 0)))
      have b5 := below_setRow b4 (Nat.le_refl _) (rowC (d.cs.getD i (0, 0))).toArray
      have hO5 : OwnK _ w1.heap.size 3 .i64 (.slice (some ⟨w1.heap.size, 0, none⟩) (d.n.toNat + 1) (d.n.toNat + 1)) out := Own.keepAll hO3 b5
      have hlt3 : w1.heap.size < w3.heap.size := (World.ownsRow.lt hO3 _ rfl).2
      generalize hw5 : (w3.alloc (.cells [Value.int .i64 0, .int .i64 0].toArray 49)).setRow w3.heap.size (rowC (d.cs.getD i (0, 0))).toArray = w5 at *
      have hne : ∀ j k, (⟨w3.heap.size, j, none⟩ : Addr) ≠ ⟨w1.heap.size, k, none⟩ := fun j k he => by have h2 := congrArg Addr.block he; simp only [] at h2; omega
      have hto := OwnK.cell hO5 (i := (d.cs.getD i (0, 0)).1.toNat) (by rw [ho3]; omega)
      refine vl_nil ?_
      refine v_region_t (LeS (⟨w1.heap.size, 0 + (d.cs.getD i (0, 0)).1.toNat, none⟩) (.int .i64 (shareV (d.cs.getD i (0, 0)).2 (timesL d.cs)))) _ mixed (by kernel_rfl) (lee_s _ _) (les_start _ _ _) ?_
      refine vt_val (fun w hw => os_move rfl) ?_
      refine vt_val (fun w hw => os_fa (o := 0) (k := 0) (by kernel_rfl) rfl) ?_
      refine vt_val (fun w hw => os_load Try.isAgg3 rfl (les_cell hw (hne _ _) (hC.cell (i := 0) rfl))) ?_
      refine vt_val (fun w hw => os_fa (o := 1) (k := 0) (by kernel_rfl) rfl) ?_
      refine vt_val (fun w hw => os_load Try.isAgg3 rfl (les_cell hw (hne _ _) (hC.cell (i := 1) rfl))) ?_
      refine vt_val (fun w hw => os_move rfl) ?_
      refine vt_call (v := _) (fun w hw => (g_Share (d.cs.getD i (0, 0)).2 (timesL d.cs) _ ⟨by omega, by omega⟩ ⟨by omega, by omega⟩).mono fun v w' h => ⟨h.1, by rw [h.2]; exact (lee_s _ _).refl _⟩) rfl ?_
      refine vt_val (fun w hw => os_move rfl) ?_
      refine vt_val (fun w hw => os_extract rfl rfl) ?_
      refine vt_val (fun w hw => os_extract rfl rfl) ?_
      refine vt_val (fun w hw => os_ix Try.underlying40 Try.sizeOf3 rfl rfl (i := (d.cs.getD i (0, 0)).1.toNat) (by omega) (by omega)) ?_
      refine vt_store Try.sizeOf3 rfl rfl rfl (by rw [Nat.zero_add]; exact hto) (Own.free hO5 _) ?_
      refine vt_nilg (fun w hw hg => ?_)
      obtain ⟨-, -, q1, rfl⟩ := hg
      have hO6 : OwnK ((w5.setCell ⟨w1.heap.size, 0 + (d.cs.getD i (0, 0)).1.toNat, none⟩ (.int .i64 (shareV (d.cs.getD i (0, 0)).2 (timesL d.cs)))).drewN q1) w1.heap.size 3 .i64 (.slice (some ⟨w1.heap.size, 0, none⟩) (d.n.toNat + 1) (d.n.toNat + 1)) (out.set (d.cs.getD i (0, 0)).1.toNat (shareV (d.cs.getD i (0, 0)).2 (timesL d.cs))) := by
        rw [Nat.zero_add]
        exact Own.led (OwnK.set hO5 (d.cs.getD i (0, 0)).1.toNat (shareV (d.cs.getD i (0, 0)).2 (timesL d.cs))) ⟨q1, rfl⟩
      refine v_region ?_
      refine vl_val (os_addi rfl rfl (by omega)) ?_
      refine vl_val (os_move rfl) ?_
      refine vl_nil ?_
      exact ⟨i + 1, ⟨rfl, rfl, rfl, rfl, trivial⟩, ⟨rfl, trivial⟩, ⟨by omega, below_drewN_ (below_set (b3.trans (b5.mono b3.size)) (Nat.le_refl _) _ _) q1, out.set (d.cs.getD i (0, 0)).1.toNat (shareV (d.cs.getD i (0, 0)).2 (timesL d.cs)), by rw [hs3, hst], by simp [ho3], hO6⟩, by dsimp only; omega⟩
    · obtain hli3 : d.l = i := by omega
      rw [List.drop_of_length_le (by omega)] at hs3
      refine v_exit ?_
      refine v_seq ?_
      refine v_region ?_
      refine vl_val (os_move rfl) ?_
      refine vl_val (os_assign rfl) ?_
      refine vl_nil ?_
      refine v_ret ?_
      exact post_ret rfl rfl (⟨by rw [hs3]; exact Own.mono hO3 (by have := hb0.size; omega), hb0.trans (Below.mono (Below.trans b1 (b3.mono (Below.size b1))) hb0.size)⟩)

theorem intsG (zs : List Int) : ∀ u ∈ zs.map (Value.int .i64), u.oneCell' = true := by
  intro u hu
  obtain ⟨z, _, rfl⟩ := List.mem_map.1 hu
  rfl
theorem OwnI.k {w : World} {B : Nat} {v : Value} {zs : List Int} (h : OwnI w B v zs) : OwnK w B 3 .i64 v zs := by
  unfold OwnK Own
  rw [List.length_map]
  exact h
theorem rowB_all {zs : List Int} (h : rowB zs = true) : AllI zs := fun z hz => by have := rowB_mem h z hz; exact ⟨by omega, by omega⟩
theorem Bk.rowOther {w : World} {g g' : Nat} {cs : List Value} {t : TypeId} (h : Bk w g' cs t) (hne : g ≠ g') (ds : Array Value) : Bk (w.setRow g ds) g' cs t := by
  unfold Bk at *
  simp [World.setRow, Array.getElem?_modify, hne, h]
theorem Kb.setRow {S : List Nat} {w : World} {g : Nat} (hg : g ∈ S) (cs : Array Value) : Kb S w (w.setRow g cs) :=
  ⟨rfl, rfl, rfl, by simp [World.setRow], fun k hk hn => by
    have : g ≠ k := fun e => hn (e ▸ hg)
    simp [World.setRow, Array.getElem?_modify, this]⟩
theorem guess_Seq {g : Nat} {ps : List Int} {st n sq : Int} {w : World} (h : GS w g ps st n sq) : Gives Try.prog 27 #[.pointer (some ⟨g, 0, none⟩)] w fun v w' => v = .int .i64 sq ∧ w' = w := by
  refine gives_enter Try.call27 Try.func27 rfl rfl rfl (by kernel_rfl) ?_
  refine v_seq ?_
  refine v_region ?_
  refine vl_val (os_assign rfl) ?_
  refine vl_nil ?_
  refine v_seq ?_
  refine v_seq ?_
  refine v_region ?_
  refine vl_val (os_move rfl) ?_
  refine vl_call (guess_made h) rfl ?_
  rintro v1 w ⟨rfl, rfl⟩
  refine vl_val (os_not rfl) ?_
  refine vl_nil ?_
  refine v_cond_f rfl ?_
  refine v_skip ?_
  refine v_seq ?_
  refine v_region ?_
  refine vl_val (os_move rfl) ?_
  refine vl_val (os_nilCheck rfl) ?_
  refine vl_val (os_fa (o := 258) (k := 0) (by kernel_rfl) rfl) ?_
  refine vl_val (os_load Try.isAgg3 rfl (h.sq)) ?_
  refine vl_val (os_assign rfl) ?_
  refine vl_nil ?_
  refine v_ret ?_
  exact post_ret rfl rfl (⟨rfl, rfl⟩)
theorem guess_Parts {g : Nat} {ps : List Int} {st n sq : Int} {w : World} (h : GS w g ps st n sq) : Gives Try.prog 25 #[.pointer (some ⟨g, 0, none⟩)] w fun v w' => OwnK w' w.heap.size 3 .i64 v ps ∧ Below w.heap.size w w' := by
  have hle := h.le
  have hl := h.len
  have hn := h.n
  refine gives_enter Try.call25 Try.func25 rfl rfl rfl (by kernel_rfl) ?_
  refine v_seq ?_
  refine v_region ?_
  refine vl_val (os_assign rfl) ?_
  refine vl_nil ?_
  refine v_seq ?_
  refine v_seq ?_
  refine v_region ?_
  refine vl_val (os_move rfl) ?_
  refine vl_call (guess_made h) rfl ?_
  rintro v1 w ⟨rfl, rfl⟩
  refine vl_val (os_not rfl) ?_
  refine vl_nil ?_
  refine v_cond_f rfl ?_
  refine v_skip ?_
  refine v_seq ?_
  refine v_region ?_
  refine vl_val (os_move rfl) ?_
  refine vl_val (os_nilCheck rfl) ?_
  refine vl_val (os_fa (o := 257) (k := 0) (by kernel_rfl) rfl) ?_
  refine vl_val (os_load Try.isAgg3 rfl (h.cn)) ?_
  refine vl_val (os_addi rfl rfl (by omega)) ?_
  refine vl_some (ot_make (l := ps.length) Try.underlying40 ti_int rfl rfl rfl (by omega) (by omega) (by omega) (by simp [maxLen]; omega) w.heap.size (Nat.le_refl _)) ?_
  rintro v2 w2 ⟨rfl, ho, hg⟩
  have b2 : Below w.heap.size w w2 := (Below.refl _ _).grown hg (Nat.le_refl _) (fun k hk => by cases hk)
  have h2 := h.keep b2
  refine vl_val (os_assign rfl) ?_
  refine vl_nil ?_
  refine v_seq ?_
  refine v_region ?_
  refine vl_val (os_move rfl) ?_
  refine vl_val (os_move rfl) ?_
  refine vl_val (os_nilCheck rfl) ?_
  refine vl_val (os_fa (o := 0) (k := 255) (by kernel_rfl) rfl) ?_
  refine vl_val (os_sliceA_all Try.underlying52 Try.sizeOf3 rfl) ?_
  refine vl_some (ot_copy (q := ps.length) (ss := ps.map (Value.int .i64)) Try.underlying40 (by kernel_rfl) rfl rfl ho h2.rd.toC (by simp) (by omega) (intsG _)) ?_
  rintro v3 w3 ⟨rfl, o3, g3⟩
  have b3 : Below w.heap.size w w3 := b2.grown g3 b2.size (fun k hk => by cases hk; exact Nat.le_refl _)
  refine vl_nil ?_
  refine v_seq ?_
  refine v_region ?_
  refine vl_val (os_move rfl) ?_
  refine vl_val (os_assign rfl) ?_
  refine vl_nil ?_
  refine v_ret ?_
  exact post_ret rfl rfl (⟨by simpa [OwnK] using o3, b3⟩)
/-- what a guesser's parts are behind a report -/
def hearP (ps : List Int) (n : Int) (d : NoteV) : List Int := foldL ps (saysL n d.cs)
set_option maxHeartbeats 4000000 in
theorem guess_Hear (g : Nat) (ps : List Int) (st n sq : Int) (d : NoteV) (w : World) (hG : GS w g ps st n sq) (hd : NoteOk w d) (B : Nat) (hB : B ≤ g) (hBw : B ≤ w.heap.size) : Gives Try.prog 21 #[.pointer (some ⟨g, 0, none⟩), .agg d.cells.toArray] w fun v w' => v = .int .i64 (whyN st n sq d) ∧ Below B w w' ∧ Kb [g] w w' ∧ (whyN st n sq d ≠ 0 → GS w' g ps st n sq) ∧ (whyN st n sq d = 0 → GS w' g (hearP ps n d) st n d.sq) := by
  have hle := hG.le
  have hl := hG.len
  have hn := hG.n
  have hB0 := bk_new w d.cells 35
  have hb0 : Below w.heap.size w (w.alloc (.cells d.cells.toArray 35)) := (Below.refl _ w).alloc (Nat.le_refl _) _
  refine gives_enter Try.call21 Try.func21 rfl rfl rfl (by kernel_rfl) ?_
  refine v_seq ?_
  refine v_region ?_
  refine vl_val (os_box rfl) ?_
  refine vl_val (os_assign rfl) ?_
  refine vl_nil ?_
  refine v_seq ?_
  refine v_seq ?_
  refine v_region ?_
  refine vl_val (os_move rfl) ?_
  refine vl_call (guess_made (hG.keep hb0)) rfl ?_
  rintro v1 w1 ⟨rfl, e1⟩
  subst e1
  refine vl_val (os_not rfl) ?_
  refine vl_nil ?_
  refine v_cond_f rfl ?_
  refine v_skip ?_
  refine v_seq ?_
  refine v_seq ?_
  refine v_region ?_
  refine vl_val (os_move rfl) ?_
  refine vl_val (os_loadB Try.underlying35 rfl (by kernel_rfl) rfl (hB0)) ?_
  refine vl_call (guess_why g ps st n sq d _ (hG.keep hb0) (hd.keep hb0)) rfl ?_
  rintro v2 w2 ⟨rfl, b2⟩
  have b2w := hb0.trans (b2.mono hb0.size)
  have hG2 := hG.keep b2w
  refine vl_val (os_assign rfl) ?_
  refine vl_nil ?_
  refine v_seq ?_
  refine v_region ?_
  refine vl_val (os_move rfl) ?_
  refine vl_val (os_neq rfl rfl) ?_
  refine vl_nil ?_
  refine v_cond_d rfl (fun hne => ?_) (fun hne => ?_)
  · refine v_seq ?_
    refine v_region ?_
    refine vl_val (os_move rfl) ?_
    refine vl_val (os_assign rfl) ?_
    refine vl_nil ?_
    refine v_ret ?_
    exact post_ret rfl rfl (⟨rfl, b2w.mono hBw, Kb.of_below b2w, fun _ => hG2, fun h => absurd h hne⟩)
  · have hw0 : whyN st n sq d = 0 := by simpa using hne
    obtain ⟨hr, hst, hdn, hsq, hl0⟩ := why_ok.1 hw0
    have hrd := right_iff.1 hr
    have hB2 := hB0.keep b2
    have b0 : Below w2.heap.size w2 { w2 with drawn := w2.drawn + 1 } := (Below.refl _ _).drew
    refine v_skip ?_
    refine v_mid [(0, _), (3, _)] (fun (u : Value) => [(6, u)]) (fun u w' => Below w2.heap.size w2 w' ∧ OwnK w' w2.heap.size 3 .i64 u (hearP ps n d)) ⟨rfl, rfl, trivial⟩ ?_ ?_
    · refine v_region_a mixed ?_
      refine va_pure 0 rfl (by kernel_rfl) (by kernel_rfl) (by kernel_rfl) (fun w => (os_move rfl)) ?_
      refine va_pure 1 rfl (by kernel_rfl) (by kernel_rfl) (by kernel_rfl) (fun w => (os_nilCheck rfl)) ?_
      refine va_pure 2 rfl (by kernel_rfl) (by kernel_rfl) (by kernel_rfl) (fun w => (os_fa (o := 0) (k := 255) (by kernel_rfl) rfl)) ?_
      refine va_pure 3 rfl (by kernel_rfl) (by kernel_rfl) (by kernel_rfl) (fun w => (os_move rfl)) ?_
      refine va_pure 4 rfl (by kernel_rfl) (by kernel_rfl) (by kernel_rfl) (fun w => (os_nilCheck rfl)) ?_
      refine va_pure 5 rfl (by kernel_rfl) (by kernel_rfl) (by kernel_rfl) (fun w => (os_fa (o := 257) (k := 0) (by kernel_rfl) rfl)) ?_
      refine va_two 6 9 (by kernel_rfl) ?_ ?_
      · refine vn_val rfl (os_load Try.isAgg3 rfl ((by first | exact (hG2.keep b28).cn | exact (hG2.keep b0).cn))) ?_
        refine va_pure 7 rfl (by kernel_rfl) (by kernel_rfl) (by kernel_rfl) (fun w => (os_addi rfl rfl (by omega))) ?_
        refine va_pure 8 rfl (by kernel_rfl) (by kernel_rfl) (by kernel_rfl) (fun w => (os_sliceA_h (h := ps.length) Try.underlying52 Try.sizeOf3 rfl rfl (by omega) (by omega))) ?_
        refine va_one 9 (by kernel_rfl) ?_
        refine vn_val rfl (os_loadB Try.underlying35 rfl (by kernel_rfl) rfl ((hB2.keep b0))) ?_
        refine va_one 10 (by kernel_rfl) ?_
        refine vn_call rfl (guess_says d _ ((hd.keep b2w).keep b0) hrd) rfl ?_
        rintro v28 w28 ⟨o28, l28⟩
        have b28 : Below w2.heap.size w2 w28 := b0.trans (l28.mono b0.size)
        obtain ⟨A28, c28, rfl, -, -, r28, -⟩ := OwnK.form o28
        rw [hdn] at r28
        refine va_one 11 (by kernel_rfl) ?_
        refine vn_call rfl (g_Fold _ A28 ps.length _ 256 c28 ps (saysL n d.cs) w28 (hG2.keep b28).rd r28 rfl (by rw [hdn]) (by omega) (by rw [saysL_len]; omega) (rowB_all hG.row) (fun z hz => by have := saysL_bd z hz; exact ⟨by omega, by omega⟩)) rfl ?_
        rintro v29 w29 ⟨u, rfl, ou, l29⟩
        have b29 : Below w2.heap.size w2 w29 := b28.trans (l29.mono b28.size)
        have hfo := foldV_ok hG.row (saysL_row (cs := d.cs) (by omega : n ≤ 255)) (by rw [saysL_len]; omega)
        refine va_pure 12 rfl (by kernel_rfl) (by kernel_rfl) (by kernel_rfl) (fun w => (os_move rfl)) ?_
        refine va_pure 13 rfl (by kernel_rfl) (by kernel_rfl) (by kernel_rfl) (fun w => (os_extract rfl rfl)) ?_
        refine va_pure 14 rfl (by kernel_rfl) (by kernel_rfl) (by kernel_rfl) (fun w => (os_extract rfl rfl)) ?_
        refine va_pure 15 rfl (by kernel_rfl) (by kernel_rfl) (by kernel_rfl) (fun w => (os_assign rfl)) ?_
        refine va_pure 16 rfl (by kernel_rfl) (by kernel_rfl) (by kernel_rfl) (fun w => (os_assign rfl)) ?_
        refine va_done (by kernel_rfl) ?_
        exact ⟨u, ⟨rfl, rfl, trivial⟩, ⟨rfl, trivial⟩, ⟨b29, by rw [hfo.1] at ou; exact Own.mono (OwnI.k ou) b28.size⟩⟩
      · refine vn_val rfl (os_loadB Try.underlying35 rfl (by kernel_rfl) rfl ((hB2.keep b0))) ?_
        refine va_two 6 10 (by kernel_rfl) ?_ ?_
        · refine vn_val rfl (os_load Try.isAgg3 rfl ((by first | exact (hG2.keep b28).cn | exact (hG2.keep b0).cn))) ?_
          refine va_pure 7 rfl (by kernel_rfl) (by kernel_rfl) (by kernel_rfl) (fun w => (os_addi rfl rfl (by omega))) ?_
          refine va_pure 8 rfl (by kernel_rfl) (by kernel_rfl) (by kernel_rfl) (fun w => (os_sliceA_h (h := ps.length) Try.underlying52 Try.sizeOf3 rfl rfl (by omega) (by omega))) ?_
          refine va_one 10 (by kernel_rfl) ?_
          refine vn_call rfl (guess_says d _ ((hd.keep b2w).keep b0) hrd) rfl ?_
          rintro v28 w28 ⟨o28, l28⟩
          have b28 : Below w2.heap.size w2 w28 := b0.trans (l28.mono b0.size)
          obtain ⟨A28, c28, rfl, -, -, r28, -⟩ := OwnK.form o28
          rw [hdn] at r28
          refine va_one 11 (by kernel_rfl) ?_
          refine vn_call rfl (g_Fold _ A28 ps.length _ 256 c28 ps (saysL n d.cs) w28 (hG2.keep b28).rd r28 rfl (by rw [hdn]) (by omega) (by rw [saysL_len]; omega) (rowB_all hG.row) (fun z hz => by have := saysL_bd z hz; exact ⟨by omega, by omega⟩)) rfl ?_
          rintro v29 w29 ⟨u, rfl, ou, l29⟩
          have b29 : Below w2.heap.size w2 w29 := b28.trans (l29.mono b28.size)
          have hfo := foldV_ok hG.row (saysL_row (cs := d.cs) (by omega : n ≤ 255)) (by rw [saysL_len]; omega)
          refine va_pure 12 rfl (by kernel_rfl) (by kernel_rfl) (by kernel_rfl) (fun w => (os_move rfl)) ?_
          refine va_pure 13 rfl (by kernel_rfl) (by kernel_rfl) (by kernel_rfl) (fun w => (os_extract rfl rfl)) ?_
          refine va_pure 14 rfl (by kernel_rfl) (by kernel_rfl) (by kernel_rfl) (fun w => (os_extract rfl rfl)) ?_
          refine va_pure 15 rfl (by kernel_rfl) (by kernel_rfl) (by kernel_rfl) (fun w => (os_assign rfl)) ?_
          refine va_pure 16 rfl (by kernel_rfl) (by kernel_rfl) (by kernel_rfl) (fun w => (os_assign rfl)) ?_
          refine va_done (by kernel_rfl) ?_
          exact ⟨u, ⟨rfl, rfl, trivial⟩, ⟨rfl, trivial⟩, ⟨b29, by rw [hfo.1] at ou; exact Own.mono (OwnI.k ou) b28.size⟩⟩
        · refine vn_call rfl (guess_says d _ ((hd.keep b2w).keep b0) hrd) rfl ?_
          rintro v28 w28 ⟨o28, l28⟩
          have b28 : Below w2.heap.size w2 w28 := b0.trans (l28.mono b0.size)
          obtain ⟨A28, c28, rfl, -, -, r28, -⟩ := OwnK.form o28
          rw [hdn] at r28
          refine va_one 6 (by kernel_rfl) ?_
          refine vn_val rfl (os_load Try.isAgg3 rfl ((by first | exact (hG2.keep b28).cn | exact (hG2.keep b0).cn))) ?_
          refine va_pure 7 rfl (by kernel_rfl) (by kernel_rfl) (by kernel_rfl) (fun w => (os_addi rfl rfl (by omega))) ?_
          refine va_pure 8 rfl (by kernel_rfl) (by kernel_rfl) (by kernel_rfl) (fun w => (os_sliceA_h (h := ps.length) Try.underlying52 Try.sizeOf3 rfl rfl (by omega) (by omega))) ?_
          refine va_one 11 (by kernel_rfl) ?_
          refine vn_call rfl (g_Fold _ A28 ps.length _ 256 c28 ps (saysL n d.cs) w28 (hG2.keep b28).rd r28 rfl (by rw [hdn]) (by omega) (by rw [saysL_len]; omega) (rowB_all hG.row) (fun z hz => by have := saysL_bd z hz; exact ⟨by omega, by omega⟩)) rfl ?_
          rintro v29 w29 ⟨u, rfl, ou, l29⟩
          have b29 : Below w2.heap.size w2 w29 := b28.trans (l29.mono b28.size)
          have hfo := foldV_ok hG.row (saysL_row (cs := d.cs) (by omega : n ≤ 255)) (by rw [saysL_len]; omega)
          refine va_pure 12 rfl (by kernel_rfl) (by kernel_rfl) (by kernel_rfl) (fun w => (os_move rfl)) ?_
          refine va_pure 13 rfl (by kernel_rfl) (by kernel_rfl) (by kernel_rfl) (fun w => (os_extract rfl rfl)) ?_
          refine va_pure 14 rfl (by kernel_rfl) (by kernel_rfl) (by kernel_rfl) (fun w => (os_extract rfl rfl)) ?_
          refine va_pure 15 rfl (by kernel_rfl) (by kernel_rfl) (by kernel_rfl) (fun w => (os_assign rfl)) ?_
          refine va_pure 16 rfl (by kernel_rfl) (by kernel_rfl) (by kernel_rfl) (fun w => (os_assign rfl)) ?_
          refine va_done (by kernel_rfl) ?_
          exact ⟨u, ⟨rfl, rfl, trivial⟩, ⟨rfl, trivial⟩, ⟨b29, by rw [hfo.1] at ou; exact Own.mono (OwnI.k ou) b28.size⟩⟩
    · rintro u w3 ⟨b3, hO⟩
      have hhl : (hearP ps n d).length = ps.length := foldL_len _ _
      obtain ⟨g6, c6, rfl, hg6, hg6', -, -⟩ := OwnK.row hO (by omega)
      have r6 := OwnK.rd hO
      have hG3 := hG2.keep b3
      have hB3 := hB2.keep b3
      have hgl := hG.bk.lt
      have s2 := b2w.size
      refine v_seq ?_
      refine v_region ?_
      refine vl_val (os_move rfl) ?_
      refine vl_val (os_nilCheck rfl) ?_
      refine vl_val (os_fa (o := 0) (k := 255) (by kernel_rfl) rfl) ?_
      refine vl_val (os_sliceA_all Try.underlying52 Try.sizeOf3 rfl) ?_
      refine vl_val (os_move rfl) ?_
      refine vl_val (os_copyB Try.underlying40 (by kernel_rfl) rfl rfl hG3.bk r6.toC (q := ps.length) (by simp [hhl]) (by omega) (by rw [mkG_len hle]; omega) (intsG _)) ?_
      have e4 : (mkG ps st n sq).take 0 ++ (hearP ps n d).map (Value.int .i64) ++ (mkG ps st n sq).drop (0 + ps.length) = mkG (hearP ps n d) st n sq := by rw [← hhl]; exact mkG_copy hle hhl st n sq
      rw [e4]
      have hB4 := setRow_bk hG3.bk (mkG (hearP ps n d) st n sq)
      have hN4 := hB3.rowOther (show g ≠ w.heap.size by omega) (mkG (hearP ps n d) st n sq).toArray
      refine vl_nil ?_
      refine v_seq ?_
      refine v_region ?_
      refine vl_val (os_move rfl) ?_
      refine vl_val (os_fa (o := 1) (k := 0) (by kernel_rfl) rfl) ?_
      refine vl_val (os_load Try.isAgg3 rfl (hN4.cell (i := 1) rfl)) ?_
      refine vl_val (os_nilCheck rfl) ?_
      refine vl_val (os_fa (o := 258) (k := 0) (by kernel_rfl) rfl) ?_
      refine vl_unit (ou_store Try.sizeOf3 rfl rfl rfl (hB4.at_ (mkG_at (by omega) st n sq).2.2) (hB4.free _)) ?_
      have hB5 := hB4.set 258 (.int .i64 d.sq)
      rw [mkG_sq (by omega)] at hB5
      have b3B : Below B w w3 := (b2w.mono hBw).trans (b3.mono (by omega))
      refine vl_nil ?_
      refine v_seq ?_
      refine v_region ?_
      refine vl_val (os_assign rfl) ?_
      refine vl_nil ?_
      refine v_ret ?_
      exact post_ret rfl rfl (⟨by rw [hw0], below_set (below_setRow b3B hB _) hB _ _, ((Kb.of_below (S := [g]) b2w).trans (Kb.of_below (S := [g]) b3) (fun k hk => .inl hk)).trans ((Kb.setRow (S := [g]) (by simp) _).trans (Kb.set (S := [g]) (by simp) _ _) (fun k hk => .inl hk)) (fun k hk => .inl hk), fun h => absurd hw0 h, fun _ => ⟨hB5, by omega, hn, foldL_row hG.row (saysL_row (by omega)) (by rw [saysL_len]; omega)⟩⟩)
end Go.Proofs.Ytpjmiafefammkaa

/- Layer 24, plain: what all shares of a report are together. No program in sight. -/
namespace Go.Proofs.Ytpjmiafefammkaa
open Go.RowKit
set_option linter.unusedVariables false

def sharesL (all : Int) (cs : List (Int × Int)) : Int := (cs.map fun c => shareV c.2 all).sum
theorem sum_set (l : List Int) (i : Nat) (v : Int) (hi : i < l.length) : (l.set i v).sum = l.sum - l.getD i 0 + v := by
  induction l generalizing i with
  | nil => simp at hi
  | cons x r ih =>
    cases i with
    | zero => simp; omega
    | succ i =>
      have := ih i (by simpa using hi)
      simp only [List.set_cons_succ, List.sum_cons]
      rw [this]
      simp; omega
theorem saysGo_sum {n : Int} {all : Int} : ∀ (cs : List (Int × Int)) (last : Int) (out : List Int), cntOk n last cs = true → 0 ≤ last → (out.length : Int) = n + 1 → (∀ k : Nat, last < (k : Int) → out.getD k 0 = 0) → (saysGo all cs out).sum = out.sum + sharesL all cs
  | [], last, out, _, _, _, _ => by simp [saysGo, sharesL]
  | c :: r, last, out, h, h0, hl, hz => by
    have hc := (cnt_all h).1 c (by simp)
    simp only [cntOk, Bool.and_eq_true] at h
    have hi : c.1.toNat < out.length := by omega
    have hz' : ∀ k : Nat, c.1 < (k : Int) → (out.set c.1.toNat (shareV c.2 all)).getD k 0 = 0 := fun k hk => by
      have := hz k (by omega)
      simp only [List.getD_eq_getElem?_getD, List.getElem?_set] at this ⊢
      rw [if_neg (by omega)]
      exact this
    rw [saysGo, saysGo_sum r c.1 _ h.2 (by omega) (by simpa using hl) hz', sum_set _ _ _ hi, hz c.1.toNat (by omega)]
    simp only [sharesL, List.map_cons, List.sum_cons]
    omega
theorem saysGo_zero {n : Int} {all : Int} : ∀ (cs : List (Int × Int)) (last : Int) (out : List Int), cntOk n last cs = true → 0 ≤ last → (saysGo all cs out).getD 0 0 = out.getD 0 0
  | [], last, out, _, _ => rfl
  | c :: r, last, out, h, h0 => by
    have hc := (cnt_all h).1 c (by simp)
    simp only [cntOk, Bool.and_eq_true] at h
    rw [saysGo, saysGo_zero r c.1 _ h.2 (by omega)]
    simp only [List.getD_eq_getElem?_getD, List.getElem?_set]
    rw [if_neg (by omega)]
theorem zero_sum (m : Nat) : (List.replicate m (0 : Int)).sum = 0 := by induction m with
  | zero => rfl
  | succ m ih => simp [List.replicate_succ]
theorem zero_at (m k : Nat) : (List.replicate m (0 : Int)).getD k 0 = 0 := by
  rw [List.getD_eq_getElem?_getD, List.getElem?_replicate]
  split <;> rfl
theorem share_val {a b : Int} (h0 : 0 < b) (h1 : b ≤ 2147483647) (h2 : 0 ≤ a) (h3 : a ≤ b) : shareOk a b = true ∧ shareV a b = a * 65536 / b := by
  have h : shareOk a b = true := by simp [shareOk]; omega
  exact ⟨h, by rw [shareV, h]; rfl⟩
theorem sharesL_le {all : Int} (h0 : 0 < all) (h1 : all ≤ 2147483647) : ∀ (cs : List (Int × Int)), (∀ c ∈ cs, 0 ≤ c.2 ∧ c.2 ≤ all) → sharesL all cs * all ≤ timesL cs * 65536
  | [], _ => by simp [sharesL, timesL]
  | c :: r, h => by
    have hc := h c (by simp)
    have ih := sharesL_le h0 h1 r fun c hc => h c (by simp [hc])
    have hv := (share_val h0 h1 hc.1 hc.2).2
    have hm : c.2 * 65536 / all * all ≤ c.2 * 65536 := Int.ediv_mul_le _ (by omega)
    simp only [sharesL, timesL, List.map_cons, List.sum_cons] at ih ⊢
    rw [hv, Int.add_mul, Int.add_mul]
    omega
theorem rep_all {d : NoteV} (h : RightD d) (hl : 0 < d.cs.length) : 0 < timesL d.cs ∧ timesL d.cs ≤ 2147483647 ∧ ∀ c ∈ d.cs, 0 ≤ c.2 ∧ c.2 ≤ timesL d.cs := by
  have h1 := times_bd h.cnt
  have h2 := cnt_all h.cnt
  have hn := h.n
  have h3 := h2.2 (by omega)
  refine ⟨by omega, by omega, fun c hc => ?_⟩
  have := h1.2.2 c hc
  have := h2.1 c hc
  omega
theorem saysL_sum {d : NoteV} (h : RightD d) (hl : 0 < d.cs.length) : (saysL d.n d.cs).sum ≤ 65536 := by
  obtain ⟨h1, h2, h3⟩ := rep_all h hl
  have hn := h.n
  have e : (saysL d.n d.cs).sum = sharesL (timesL d.cs) d.cs := by
    unfold saysL
    rw [saysGo_sum d.cs 0 _ h.cnt (by omega) (by simp; omega) (fun k _ => zero_at _ k), zero_sum, Int.zero_add]
  rw [e]
  have h4 := sharesL_le h1 h2 d.cs h3
  exact Int.le_of_mul_le_mul_left (by rw [Int.mul_comm, Int.mul_comm _ 65536] ; rw [Int.mul_comm (timesL d.cs)] at h4; omega) h1
theorem saysL_zero {d : NoteV} (h : RightD d) : (saysL d.n d.cs).getD 0 0 = 0 := by
  unfold saysL
  rw [saysGo_zero d.cs 0 _ h.cnt (by omega), zero_at]
end Go.Proofs.Ytpjmiafefammkaa

/- The law's kit: lists that are lent, with marks behind their ends; whether they, and the marks, are still as they were. -/
namespace Go.Proofs.Ytpjmiafefammkaa
open Go.RowKit
set_option linter.unusedVariables false

def markZ (k i : Int) : Int := 1000003 * (k + 7) + i
def markB (k i : Int) : Int := IntKind.u8.wrap ((IntKind.u64.wrap (IntKind.u64.wrap (markZ k i) * 11400714819323198485)).fdiv (2 ^ min (56 : Int).toNat IntKind.u64.bits))

theorem kit_mark (k i : Int) (w : World) (hk : 0 ≤ k ∧ k ≤ 1000000000) (hi : 0 ≤ i ∧ i ≤ 1000000000000000) : Gives Try.prog 66 #[.int .i64 k, .int .i64 i] w fun v w' => v = .int .i64 (markZ k i) ∧ w' = w := by
  refine gives_enter Try.call66 Try.func66 rfl rfl rfl (by kernel_rfl) ?_
  refine v_seq ?_
  refine v_region ?_
  refine vl_val (os_assign rfl) ?_
  refine vl_nil ?_
  refine v_seq ?_
  refine v_region ?_
  refine vl_val (os_move rfl) ?_
  refine vl_val (os_addi rfl rfl (by omega)) ?_
  refine vl_val (os_muli rfl rfl (by omega)) ?_
  refine vl_val (os_move rfl) ?_
  refine vl_val (os_addi rfl rfl (by omega)) ?_
  refine vl_val (os_assign rfl) ?_
  refine vl_nil ?_
  refine v_ret ?_
  exact post_ret rfl rfl (⟨rfl, rfl⟩)
theorem kit_markByte (k i : Int) (w : World) (hk : 0 ≤ k ∧ k ≤ 1000000000) (hi : 0 ≤ i ∧ i ≤ 1000000000000000) : Gives Try.prog 143 #[.int .i64 k, .int .i64 i] w fun v w' => v = .int .u8 (markB k i) ∧ w' = w := by
  refine gives_enter Try.call143 Try.func143 rfl rfl rfl (by kernel_rfl) ?_
  refine v_seq ?_
  refine v_region ?_
  refine vl_val (os_assign rfl) ?_
  refine vl_nil ?_
  refine v_seq ?_
  refine v_region ?_
  refine vl_val (os_move rfl) ?_
  refine vl_val (os_move rfl) ?_
  refine vl_call (kit_mark k i w hk hi) rfl ?_
  rintro v w ⟨rfl, rfl⟩
  refine vl_val (os_conv Try.underlying3 Try.underlying157 rfl (rfl)) ?_
  refine vl_val (os_mul rfl rfl (rfl)) ?_
  refine vl_val (os_shr rfl rfl (by omega) (rfl)) ?_
  refine vl_val (os_conv Try.underlying157 Try.underlying5 rfl (rfl)) ?_
  refine vl_val (os_assign rfl) ?_
  refine vl_nil ?_
  refine v_ret ?_
  exact post_ret rfl rfl (⟨rfl, rfl⟩)

def marks (f : Int → Int → Int) (n : Nat) : List Int := (List.range n).map fun (i : Nat) => f 1 (i : Int)
theorem marks_len (f : Int → Int → Int) (n : Nat) : (marks f n).length = n := by simp [marks]
theorem marks_succ (f : Int → Int → Int) (n : Nat) : marks f (n + 1) = marks f n ++ [f 1 n] := by simp [marks, List.range_succ]
theorem marks_at (f : Int → Int → Int) {n i : Nat} (hi : i < n) : (marks f n).getD i 0 = f 1 i := by simp [marks, hi]
/-- v is a list that the kit has lent: a row of its own that holds zs, and the marks behind -/
def Lent (w : World) (B : Nat) (t : TypeId) (k : IntKind) (f : Int → Int → Int) (v : Value) (zs : List Int) : Prop :=
  ∃ g C, v = .slice (some ⟨g, 0, none⟩) zs.length C ∧ zs.length + 12 ≤ C ∧ OwnK w B t k (.slice (some ⟨g, 0, none⟩) (zs ++ marks f 12).length C) (zs ++ marks f 12)
theorem Lent.keep {w w' B t k f v zs} (h : Lent w B t k f v zs) (hb : Below w.heap.size w w') : Lent w' B t k f v zs := by
  obtain ⟨g, C, e, hc, ho⟩ := h
  exact ⟨g, C, e, hc, Own.keepAll ho hb⟩
theorem Lent.form {w B t k f v zs} (h : Lent w B t k f v zs) : ∃ g C, v = .slice (some ⟨g, 0, none⟩) zs.length C ∧ zs.length + 12 ≤ C ∧ C ≤ maxLen ∧ B ≤ g ∧ g < w.heap.size ∧ Rd w k (some ⟨g, 0, none⟩) zs := by
  obtain ⟨g, C, e, hc, ho⟩ := h
  have h1 := World.ownsRow.lt ho g rfl
  have h2 := (OwnK.rd ho).take zs.length
  rw [List.take_left] at h2
  obtain ⟨g', c', e', _, _, _, hm⟩ := ho.row (by rw [List.length_append, marks_len]; omega)
  cases e'
  exact ⟨g, C, e, hc, hm, h1.1, h1.2, h2⟩
theorem ints_one (k : IntKind) (zs : List Int) : ∀ u ∈ zs.map (Value.int k), u.oneCell' = true := by
  intro u hu
  obtain ⟨z, _, rfl⟩ := List.mem_map.1 hu
  rfl

set_option maxHeartbeats 1000000 in
theorem kit_LentInts (A : Option Addr) (n c : Nat) (zs : List Int) (w : World) (ha : Rd w .i64 A zs) (hn : n = zs.length) (hb : (n + 12) * 8 ≤ 140737488355328) : Gives Try.prog 35 #[.slice A n c] w fun v w' => Lent w' w.heap.size 3 .i64 markZ v zs ∧ Below w.heap.size w w' := by
  refine gives_enter Try.call35 Try.func35 rfl rfl rfl (by kernel_rfl) ?_
  refine v_seq ?_
  refine v_region ?_
  refine vl_val (os_assign rfl) ?_
  refine vl_nil ?_
  refine v_seq ?_
  refine v_region ?_
  refine vl_val (os_move rfl) ?_
  refine vl_val (os_len Try.underlying40 rfl) ?_
  refine vl_val (os_addi rfl rfl (by omega)) ?_
  refine vl_some (ot_make0 (l := n + 12) Try.underlying40 ti_int rfl rfl rfl rfl (by omega) (by simp [maxLen]; omega) w.heap.size (Nat.le_refl _)) ?_
  rintro v1 w1 ⟨rfl, ho, hg⟩
  have hb1 : Below w.heap.size w w1 := (Below.refl _ _).grown hg (Nat.le_refl _) (fun k hk => by cases hk)
  refine vl_val (os_assign rfl) ?_
  refine vl_nil ?_
  refine v_seq ?_
  refine v_region ?_
  refine vl_val (os_move rfl) ?_
  refine vl_val (os_move rfl) ?_
  refine vl_some (ot_append Try.underlying40 ti_int rfl rfl rfl ho (ha.keep hb1).toC (by simp [hn]) (ints_one _ _) (by simp; omega) (by simp [maxLen]; omega) hb1.size) ?_
  rintro v2 w2 ⟨ho2, hg2⟩
  have hb2 := Own.below hb1 ho hg2 (Nat.le_refl _) hb1.size
  refine vl_val (os_assign rfl) ?_
  refine vl_nil ?_
  refine v_seq ?_
  refine v_seq ?_
  refine v_region ?_
  refine vl_val (os_assign rfl) ?_
  refine vl_nil ?_
  refine v_block ?_
  refine v_loop2 [(0, _)] (fun (v : Value) (i : Nat) => [(3, v), (4, .int .i64 i)]) (fun v i w' => i ≤ 12 ∧ OwnK w' w.heap.size 3 .i64 v (zs ++ marks markZ i) ∧ Below w.heap.size w w') (fun v i => 12 - i) (v2) (0) ⟨rfl, trivial⟩ ⟨rfl, rfl, trivial⟩ (⟨by omega, by simpa [OwnK, marks] using ho2, hb2⟩) ?_
  rintro v i w' ⟨hi, ho3, hb3⟩
  refine v_seq ?_
  refine v_seq ?_
  refine v_region ?_
  refine vl_val (os_move rfl) ?_
  refine vl_val (os_lss rfl rfl) ?_
  refine vl_nil ?_
  refine v_cond_d rfl (fun h => ?_) (fun h => ?_)
  · refine v_skip ?_
    refine v_seq ?_
    refine v_block ?_
    refine v_region ?_
    refine vl_val (os_move rfl) ?_
    refine vl_val (os_move rfl) ?_
    refine vl_call (kit_mark 1 i w' (by omega) (by omega)) rfl ?_
    rintro v4 w' ⟨rfl, rfl⟩
    have ho4 := Own.alloc ho3 (.cells [Value.int .i64 (markZ 1 i)].toArray 3)
    have hb4 := hb3.alloc hb3.size (.cells [Value.int .i64 (markZ 1 i)].toArray 3)
    refine vl_val (os_lit Try.underlying40 Try.sizeOf3 Try.zeroValue3 rfl rfl rfl rfl (by decide)) ?_
    refine vl_some (ot_append Try.underlying40 ti_int rfl rfl rfl ho4 (rdc_alloc w' [Value.int .i64 (markZ 1 i)] _) rfl (by simp [Value.oneCell']) (by simp [marks_len]; omega) (by simp [maxLen, marks_len]; omega) hb4.size) ?_
    rintro v5 w5 ⟨ho5, hg5⟩
    refine vl_val (os_assign rfl) ?_
    refine vl_nil ?_
    refine v_region ?_
    refine vl_val (os_move rfl) ?_
    refine vl_val (os_addi rfl rfl (by omega)) ?_
    refine vl_val (os_assign rfl) ?_
    refine vl_nil ?_
    exact ⟨⟨v5, i + 1⟩, ⟨rfl, trivial⟩, ⟨rfl, rfl, trivial⟩, ⟨by omega, by rw [marks_succ, ← List.append_assoc]; simpa [OwnK] using ho5, Own.below hb4 ho4 hg5 (Nat.le_refl _) hb4.size⟩, by dsimp only; omega⟩
  · obtain rfl : i = 12 := by omega
    obtain ⟨g, C, rfl, h1, h2, h3, h4⟩ := ho3.row (by simp [marks_len])
    rw [List.length_append, marks_len] at h3
    refine v_exit ?_
    refine v_seq ?_
    refine v_region ?_
    refine vl_val (os_move rfl) ?_
    refine vl_val (os_move rfl) ?_
    refine vl_val (os_len Try.underlying40 rfl) ?_
    refine vl_val (os_slice_h Try.underlying40 Try.sizeOf3 rfl rfl (h := n) (by omega) (by omega)) ?_
    refine vl_val (os_assign rfl) ?_
    refine vl_nil ?_
    refine v_ret ?_
    exact post_ret rfl rfl (⟨⟨g, C, by rw [hn], h3, ho3⟩, hb3⟩)
set_option maxHeartbeats 1000000 in
theorem kit_KeptInts (v : Value) (B : Nat) (A : Option Addr) (n c : Nat) (zs : List Int) (w : World) (hv : Lent w B 3 .i64 markZ v zs) (ha : Rd w .i64 A zs) (hn : n = zs.length) (hb : (n + 12) * 8 ≤ 140737488355328) : Gives Try.prog 43 #[v, .slice A n c] w fun v w' => v = .bool true ∧ LeD w w' := by
  obtain ⟨g, C, rfl, hC, ho⟩ := hv
  refine gives_enter Try.call43 Try.func43 rfl rfl rfl (by kernel_rfl) ?_
  refine v_seq ?_
  refine v_region ?_
  refine vl_val (os_assign rfl) ?_
  refine vl_nil ?_
  refine v_seq ?_
  refine v_seq ?_
  refine v_region ?_
  refine vl_val (os_move rfl) ?_
  refine vl_val (os_len Try.underlying40 rfl) ?_
  refine vl_val (os_move rfl) ?_
  refine vl_val (os_len Try.underlying40 rfl) ?_
  refine vl_val (os_neq rfl rfl) ?_
  refine vl_nil ?_
  refine v_cond_no rfl (by omega) ?_
  refine v_skip ?_
  refine v_seq ?_
  refine v_region ?_
  refine vl_val (os_move rfl) ?_
  refine vl_val (os_move rfl) ?_
  refine vl_val (os_len Try.underlying40 rfl) ?_
  refine vl_val (os_addi rfl rfl (by omega)) ?_
  refine vl_val (os_slice_h Try.underlying40 Try.sizeOf3 rfl rfl (h := n + 12) (by omega) (by omega)) ?_
  refine vl_val (os_assign rfl) ?_
  refine vl_nil ?_
  refine v_seq ?_
  refine v_seq ?_
  refine v_region ?_
  refine vl_val (os_assign rfl) ?_
  refine vl_nil ?_
  refine v_block ?_
  refine v_loop [(1, _), (5, _)] (fun (i : Nat) => [(6, .int .i64 i)]) (fun i w' => i ≤ n + 12 ∧ LeD w w') (fun i => n + 12 - i) (0) ⟨rfl, rfl, trivial⟩ ⟨rfl, trivial⟩ (⟨by omega, lee_d.refl _⟩) ?_
  rintro i w' ⟨hi, hq⟩
  refine v_seq ?_
  refine v_seq ?_
  refine v_region ?_
  refine vl_val (os_move rfl) ?_
  refine vl_val (os_move rfl) ?_
  refine vl_val (os_len Try.underlying40 rfl) ?_
  refine vl_val (os_lss rfl rfl) ?_
  refine vl_nil ?_
  refine v_cond_d rfl (fun h => ?_) (fun h => ?_)
  · have hc := OwnK.cell (Own.led ho hq : OwnK w' B _ _ _ _) (i := i) (by rw [List.length_append, marks_len]; omega)
    rcases Nat.lt_or_ge i n with hlt | hge
    · obtain ⟨bA, oA, rfl, hcA⟩ := (ha.led hq) (by omega)
      have hcA := hcA i (by omega)
      rw [show (zs ++ marks markZ 12).getD i 0 = zs.getD i 0 by simp [List.getElem?_append, show i < zs.length by omega]] at hc
      refine v_skip ?_
      refine v_seq ?_
      refine v_block ?_
      refine v_seq ?_
      refine v_region_t LeD _ mixed (by kernel_rfl) lee_d (led_start _) ?_
      refine vt_val (fun w hw => os_move rfl) ?_
      refine vt_val (fun w hw => os_move rfl) ?_
      refine vt_val (fun w hw => os_len Try.underlying40 rfl) ?_
      refine vt_val (fun w hw => os_t (os_lss rfl rfl) (by omega)) ?_
      refine vt_val (fun w hw => os_move rfl) ?_
      refine vt_valg rfl (fun w hw => os_move rfl) ?_
      refine vt_valg rfl (fun w hw => os_move rfl) ?_
      refine vt_valg rfl (fun w hw => os_ix Try.underlying40 Try.sizeOf3 rfl rfl (i := i) (by omega) (by omega)) ?_
      refine vt_valg rfl (fun w hw => os_load Try.isAgg3 rfl (led_cell hw (by rw [Nat.zero_add]; exact hc))) ?_
      refine vt_valg rfl (fun w hw => os_move rfl) ?_
      refine vt_valg rfl (fun w hw => os_move rfl) ?_
      refine vt_valg rfl (fun w hw => os_ix Try.underlying40 Try.sizeOf3 rfl rfl (i := i) (by omega) (by omega)) ?_
      refine vt_valg rfl (fun w hw => os_load Try.isAgg3 rfl (led_cell hw (hcA))) ?_
      refine vt_valg rfl (fun w hw => os_t (os_eql rfl rfl) (rfl)) ?_
      refine vt_valg rfl (fun w hw => os_not rfl) ?_
      refine vt_val (fun w hw => os_pick_t rfl rfl) ?_
      refine vt_val (fun w hw => os_move rfl) ?_
      refine vt_valg rfl (fun w hw => os_move rfl) ?_
      refine vt_valg rfl (fun w hw => os_move rfl) ?_
      refine vt_valg rfl (fun w hw => os_len Try.underlying40 rfl) ?_
      refine vt_valg rfl (fun w hw => os_f (os_geq rfl rfl) (by omega)) ?_
      refine vt_valg rfl (fun w hw => os_move rfl) ?_
      refine vt_skip rfl rfl ?_
      refine vt_skip rfl rfl ?_
      refine vt_skip rfl rfl ?_
      refine vt_skip rfl rfl ?_
      refine vt_skip rfl rfl ?_
      refine vt_skip rfl rfl ?_
      refine vt_skip rfl rfl ?_
      refine vt_skip rfl rfl ?_
      refine vt_skip rfl rfl ?_
      refine vt_skip rfl rfl ?_
      refine vt_skip rfl rfl ?_
      refine vt_valg rfl (fun w hw => os_pick_f rfl rfl) ?_
      refine vt_val (fun w hw => os_pick_f rfl rfl) ?_
      refine vt_nil (fun w hw => ?_)
      obtain ⟨q, rfl⟩ := hw
      refine v_cond_f rfl ?_
      refine v_skip ?_
      refine v_region ?_
      refine vl_val (os_move rfl) ?_
      refine vl_val (os_addi rfl rfl (by omega)) ?_
      refine vl_val (os_assign rfl) ?_
      refine vl_nil ?_
      exact ⟨i + 1, ⟨rfl, rfl, trivial⟩, ⟨rfl, trivial⟩, ⟨by omega, lee_d.trans hq ⟨q, rfl⟩⟩, by dsimp only; omega⟩
    · rw [show (zs ++ marks markZ 12).getD i 0 = markZ 1 ((i : Int) - (n : Int)) by
        have e : (zs ++ marks markZ 12).getD i 0 = (marks markZ 12).getD (i - zs.length) 0 := by simp [List.getElem?_append, show ¬ i < zs.length by omega]
        rw [e, marks_at _ (by omega)]; congr 1; omega] at hc
      refine v_skip ?_
      refine v_seq ?_
      refine v_block ?_
      refine v_seq ?_
      refine v_region_t LeD _ mixed (by kernel_rfl) lee_d (led_start _) ?_
      refine vt_val (fun w hw => os_move rfl) ?_
      refine vt_val (fun w hw => os_move rfl) ?_
      refine vt_val (fun w hw => os_len Try.underlying40 rfl) ?_
      refine vt_val (fun w hw => os_f (os_lss rfl rfl) (by omega)) ?_
      refine vt_val (fun w hw => os_move rfl) ?_
      refine vt_skip rfl rfl ?_
      refine vt_skip rfl rfl ?_
      refine vt_skip rfl rfl ?_
      refine vt_skip rfl rfl ?_
      refine vt_skip rfl rfl ?_
      refine vt_skip rfl rfl ?_
      refine vt_skip rfl rfl ?_
      refine vt_skip rfl rfl ?_
      refine vt_skip rfl rfl ?_
      refine vt_skip rfl rfl ?_
      refine vt_val (fun w hw => os_pick_f rfl rfl) ?_
      refine vt_val (fun w hw => os_move rfl) ?_
      refine vt_valg rfl (fun w hw => os_move rfl) ?_
      refine vt_valg rfl (fun w hw => os_move rfl) ?_
      refine vt_valg rfl (fun w hw => os_len Try.underlying40 rfl) ?_
      refine vt_valg rfl (fun w hw => os_t (os_geq rfl rfl) (by omega)) ?_
      refine vt_valg rfl (fun w hw => os_move rfl) ?_
      refine vt_valg rfl (fun w hw => os_move rfl) ?_
      refine vt_valg rfl (fun w hw => os_move rfl) ?_
      refine vt_valg rfl (fun w hw => os_ix Try.underlying40 Try.sizeOf3 rfl rfl (i := i) (by omega) (by omega)) ?_
      refine vt_valg rfl (fun w hw => os_load Try.isAgg3 rfl (led_cell hw (by rw [Nat.zero_add]; exact hc))) ?_
      refine vt_valg rfl (fun w hw => os_move rfl) ?_
      refine vt_valg rfl (fun w hw => os_move rfl) ?_
      refine vt_valg rfl (fun w hw => os_len Try.underlying40 rfl) ?_
      refine vt_valg rfl (fun w hw => os_subi rfl rfl (by omega)) ?_
      refine vt_callg rfl (v := _) (fun w hw => (kit_mark 1 ((i : Int) - (n : Int)) w (by omega) (by omega)).mono fun v w' hh => ⟨hh.1, by rw [hh.2]; exact lee_d.refl _⟩) rfl ?_
      refine vt_valg rfl (fun w hw => os_t (os_eql rfl rfl) (rfl)) ?_
      refine vt_valg rfl (fun w hw => os_not rfl) ?_
      refine vt_valg rfl (fun w hw => os_pick_t rfl rfl) ?_
      refine vt_val (fun w hw => os_pick_f rfl rfl) ?_
      refine vt_nil (fun w hw => ?_)
      obtain ⟨q, rfl⟩ := hw
      refine v_cond_f rfl ?_
      refine v_skip ?_
      refine v_region ?_
      refine vl_val (os_move rfl) ?_
      refine vl_val (os_addi rfl rfl (by omega)) ?_
      refine vl_val (os_assign rfl) ?_
      refine vl_nil ?_
      exact ⟨i + 1, ⟨rfl, rfl, trivial⟩, ⟨rfl, trivial⟩, ⟨by omega, lee_d.trans hq ⟨q, rfl⟩⟩, by dsimp only; omega⟩
  · refine v_exit ?_
    refine v_seq ?_
    refine v_region ?_
    refine vl_val (os_assign rfl) ?_
    refine vl_nil ?_
    refine v_ret ?_
    exact post_ret rfl rfl (⟨rfl, hq⟩)
end Go.Proofs.Ytpjmiafefammkaa
