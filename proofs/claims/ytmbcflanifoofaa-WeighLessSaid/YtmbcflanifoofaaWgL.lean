/- Layer 12: the walk of WeighLess. -/
import Derived.Test.YtmbcflanifoofaaWgE
import Derived.Test.YtmbcflanifoofaaWgLP
import Derived.Test.YtmbcflanifoofaaAp
namespace Go.Proofs.Ytmbcflanifoofaa
open Go.RowKit
set_option linter.unusedVariables false

theorem take_map_succ (xs : List Int) (f : Int → Int) {j : Nat} (hj : j < xs.length) : (xs.take (j + 1)).map f = (xs.take j).map f ++ [f (xs.getD j 0)] := by
  rw [List.take_succ_eq_append_getElem hj, List.map_append]
  simp [hj]
theorem pick_in (x : Int) {n : Int} (h : 1 ≤ n) : 0 ≤ pickV x n ∧ pickV x n < n := by
  unfold pickV
  rw [if_neg (by omega)]
  exact ⟨Int.emod_nonneg x (by omega), Int.emod_lt_of_pos x (by omega)⟩

set_option maxHeartbeats 4000000 in
theorem law12_WeighLess (W0 A D : Option Addr) (lw la ld cw ca cd : Nat) (worths ks ws : List Int) (turn more : Int) (w : World) (hW : Rd w .i64 W0 worths) (ha : Rd w .i64 A ks) (hd : Rd w .i64 D ws)
    (lw' : lw = worths.length) (la' : la = ks.length) (ld' : ld = ws.length) (bw : lw ≤ 140737488351232) (ba : la ≤ 140737488351232) (bd : ld ≤ 140737488351232) :
    Gives Try.prog 12 #[.slice W0 lw cw, .slice A la ca, .slice D ld cd, .int .i64 turn, .int .i64 more] w fun v w' => v = .bool true ∧ Below w.heap.size w w' := by
  refine gives_enter Try.call12 Try.func12 rfl rfl rfl (by kernel_rfl) ?_
  refine v_seq ?_
  refine v_region ?_
  refine vl_val (os_assign rfl) ?_
  refine vl_nil ?_
  refine v_seq ?_
  refine v_seq ?_
  refine v_region ?_
  refine vl_call (law12_awake w) rfl ?_
  rintro v1 w1 ⟨rfl, hb1⟩
  refine vl_val (os_not rfl) ?_
  refine vl_nil ?_
  refine v_cond_f rfl ?_
  refine v_skip ?_
  refine v_seq ?_
  refine v_seq ?_
  refine v_region ?_
  refine vl_val (os_move rfl) ?_
  refine vl_val (os_len Try.underlying28 rfl) ?_
  refine vl_val (os_move rfl) ?_
  refine vl_val (os_len Try.underlying28 rfl) ?_
  refine vl_val (os_addi rfl rfl (by omega)) ?_
  refine vl_val (os_move rfl) ?_
  refine vl_val (os_len Try.underlying28 rfl) ?_
  refine vl_val (os_addi rfl rfl (by omega)) ?_
  refine vl_val (os_gtr rfl rfl) ?_
  refine vl_nil ?_
  refine v_cond_d rfl (fun hbig => ?_) (fun hbig => ?_)
  · refine v_seq ?_
    refine v_region ?_
    refine vl_val (os_assign rfl) ?_
    refine vl_nil ?_
    refine v_ret ?_
    exact post_ret rfl rfl (⟨rfl, hb1⟩)
  · have hW := hW.keep hb1
    have ha := ha.keep hb1
    have hd := hd.keep hb1
    refine v_skip ?_
    refine v_seq ?_
    refine v_region ?_
    refine vl_val (os_move rfl) ?_
    refine vl_val (os_move rfl) ?_
    refine vl_val (os_move rfl) ?_
    refine vl_call (wg_Score W0 A D lw la ld cw ca cd worths ks ws w1 hW ha hd lw' la' ld' (by omega) (by omega) (by omega)) rfl ?_
    rintro v2 w2 ⟨rfl, q2⟩
    have b2 : Below w1.heap.size w1 w2 := led_below q2
    refine vl_val (os_move rfl) ?_
    refine vl_val (os_extract rfl rfl) ?_
    refine vl_val (os_extract rfl rfl) ?_
    refine vl_val (os_assign rfl) ?_
    refine vl_val (os_assign rfl) ?_
    refine vl_nil ?_
    rcases (by cases hh : scOk worths ks ws; exact .inl rfl; exact .inr ((Nat.eq_zero_or_pos ks.length).imp (⟨rfl, ·⟩) (⟨rfl, ·⟩)) : scOk worths ks ws = false ∨ (scOk worths ks ws = true ∧ ks.length = 0) ∨ (scOk worths ks ws = true ∧ 0 < ks.length)) with h1 | ⟨h1, h2⟩ | ⟨hok, h2⟩
    · have hv : scV worths ks ws = 0 := by rw [scV, h1]; rfl
      rw [h1, hv]
      refine v_seq ?_
      refine v_seq ?_
      refine v_region ?_
      refine vl_val (os_move rfl) ?_
      refine vl_val (os_t (os_neq rfl rfl) (by decide)) ?_
      refine vl_val (os_move rfl) ?_
      refine vl_skip rfl rfl ?_
      refine vl_skip rfl rfl ?_
      refine vl_skip rfl rfl ?_
      refine vl_val (os_pick_t rfl rfl) ?_
      refine vl_nil ?_
      refine v_cond_t rfl ?_
      refine v_seq ?_
      refine v_region ?_
      refine vl_val (os_move rfl) ?_
      refine vl_val (os_t (os_eql rfl rfl) (by decide)) ?_
      refine vl_val (os_move rfl) ?_
      refine vl_valg rfl (os_move rfl) ?_
      refine vl_valg rfl (os_t (os_eql rfl rfl) (by decide)) ?_
      refine vl_val (os_pick_t rfl rfl) ?_
      refine vl_val (os_move rfl) ?_
      refine vl_skip rfl rfl ?_
      refine vl_skip rfl rfl ?_
      refine vl_skip rfl rfl ?_
      refine vl_skipu rfl ?_
      refine vl_skipu rfl ?_
      refine vl_skip rfl rfl ?_
      refine vl_val (os_pick_t rfl rfl) ?_
      refine vl_val (os_assign rfl) ?_
      refine vl_nil ?_
      refine v_ret ?_
      exact post_ret rfl rfl (⟨rfl, hb1.trans (b2.mono hb1.size)⟩)
    · have hv : scV worths ks ws = 0 := by rw [scV, h1, h2]; rfl
      rw [h1, hv]
      refine v_seq ?_
      refine v_seq ?_
      refine v_region ?_
      refine vl_val (os_move rfl) ?_
      refine vl_val (os_f (os_neq rfl rfl) (by decide)) ?_
      refine vl_val (os_move rfl) ?_
      refine vl_valg rfl (os_move rfl) ?_
      refine vl_valg rfl (os_len Try.underlying28 rfl) ?_
      refine vl_valg rfl (os_eql rfl rfl) ?_
      refine vl_val (os_pick_f rfl rfl) ?_
      refine vl_nil ?_
      refine v_cond_yes rfl (by omega) ?_
      refine v_seq ?_
      refine v_region ?_
      refine vl_val (os_move rfl) ?_
      refine vl_val (os_f (os_eql rfl rfl) (by decide)) ?_
      refine vl_val (os_move rfl) ?_
      refine vl_skip rfl rfl ?_
      refine vl_skip rfl rfl ?_
      refine vl_val (os_pick_f rfl rfl) ?_
      refine vl_val (os_move rfl) ?_
      refine vl_valg rfl (os_move rfl) ?_
      refine vl_valg rfl (os_t (os_eql rfl rfl) (by decide)) ?_
      refine vl_valg rfl (os_move rfl) ?_
      refine vl_valg rfl (os_move rfl) ?_
      refine vl_valg rfl (os_eql rfl rfl) ?_
      refine vl_valg rfl (os_pick_t rfl rfl) ?_
      refine vl_val (os_pick_f rfl rfl) ?_
      refine vl_val (os_assign rfl) ?_
      refine vl_nil ?_
      refine v_ret ?_
      exact post_ret rfl rfl (⟨rfl, hb1.trans (b2.mono hb1.size)⟩)
    · refine v_seq ?_
      refine v_seq ?_
      refine v_region ?_
      refine vl_val (os_move rfl) ?_
      refine vl_val (os_f (os_neq rfl rfl) (by rw [hok]; decide)) ?_
      refine vl_val (os_move rfl) ?_
      refine vl_valg rfl (os_move rfl) ?_
      refine vl_valg rfl (os_len Try.underlying28 rfl) ?_
      refine vl_valg rfl (os_eql rfl rfl) ?_
      refine vl_val (os_pick_f rfl rfl) ?_
      refine vl_nil ?_
      refine v_cond_no rfl (by omega) ?_
      obtain ⟨o1, o2, o3, o4⟩ := sc_parts.1 hok
      obtain ⟨n, hnn⟩ : ∃ n : Nat, ws.length = n + 1 := ⟨ws.length - 1, by simp only [rightB, Bool.and_eq_true, decide_eq_true_eq] at o1; omega⟩
      obtain ⟨⟨n1, n2⟩, ev1, ev2⟩ := sc_even hok hnn
      refine v_skip ?_
      refine v_seq ?_
      refine v_region ?_
      refine vl_val (os_move rfl) ?_
      refine vl_val (os_len Try.underlying28 rfl) ?_
      refine vl_val (os_subi rfl rfl (by omega)) ?_
      refine vl_val (os_assign rfl) ?_
      refine vl_nil ?_
      refine v_seq ?_
      refine v_region ?_
      refine vl_val (os_move rfl) ?_
      refine vl_val (os_move rfl) ?_
      refine vl_val (os_len Try.underlying28 rfl) ?_
      refine vl_call (kit_Pick turn la w2 (by omega)) rfl ?_
      rintro v3 w2 ⟨rfl, rfl⟩
      have pk := pick_in turn (show (1 : Int) ≤ la by omega)
      obtain ⟨k, hk⟩ : ∃ k : Nat, pickV turn la = k := ⟨(pickV turn la).toNat, by omega⟩
      rw [hk] at pk ⊢
      have s0 := own_alloc w2 [] 3 (Nat.le_refl w2.heap.size) (by simp [maxLen])
      have s0b : Below w2.heap.size w2 (w2.alloc (.cells #[] 3)) := (Below.refl _ w2).alloc (Nat.le_refl _) _
      refine vl_val (os_assign rfl) ?_
      refine vl_nil ?_
      refine v_seq ?_
      refine v_region ?_
      refine vl_val (os_lit Try.underlying28 Try.sizeOf3 Try.zeroValue3 rfl rfl rfl rfl (by decide)) ?_
      refine vl_val (os_move rfl) ?_
      refine vl_some (ot_append Try.underlying28 ti_int rfl rfl rfl s0 ((ha.keep b2).keep s0b).toC (by simp [la']) (ints_one' _) (by simp; omega) (by simp [maxLen]; omega) (by simp)) ?_
      rintro v6 w6 ⟨so, sg⟩
      simp only [List.nil_append] at so
      have so6 : OwnK w6 w2.heap.size 3 .i64 v6 ks := so
      have x6 : Below w2.heap.size w2 w6 := s0.below s0b sg (Nat.le_refl _) (by simp)
      have b6 : Below w1.heap.size w1 w6 := b2.trans (x6.mono b2.size)
      obtain ⟨g6, c6, rfl, hg6, hg6', hc6, _⟩ := so6.row (by omega)
      obtain ⟨bA, oA, eA, hcA⟩ := ha (by omega)
      have cA := hcA k (by omega)
      have hbA : bA < w1.heap.size := World.block_lt_of_cell? _ _ cA
      have hs2 := b2.size
      have hgk := o4 k (by omega)
      unfold scGood at hgk
      have pp := pick_in more (show (1 : Int) ≤ (ld : Int) - 1 - ks.getD k 0 + 1 by omega)
      subst eA
      refine vl_val (os_assign rfl) ?_
      refine vl_nil ?_
      refine v_seq ?_
      refine v_region_t (LeS (⟨g6, 0 + k, none⟩) (.int .i64 (ks.getD k 0 + pickV more ((ld : Int) - 1 - ks.getD k 0 + 1)))) _ mixed (by kernel_rfl) (lee_s _ _) (les_start _ _ _) ?_
      refine vt_val (fun w hw => os_move rfl) ?_
      refine vt_val (fun w hw => os_move rfl) ?_
      refine vt_val (fun w hw => os_move rfl) ?_
      refine vt_val (fun w hw => os_move rfl) ?_
      refine vt_val (fun w hw => os_ix Try.underlying28 Try.sizeOf3 rfl rfl (i := k) (by omega) (by omega)) ?_
      refine vt_val (fun w hw => os_load Try.isAgg3 rfl (les_cell hw (fun e => by have := congrArg Addr.block e; dsimp only at this; omega) (leb_cell b6 hbA cA))) ?_
      refine vt_val (fun w hw => os_move rfl) ?_
      refine vt_val (fun w hw => os_move rfl) ?_
      refine vt_val (fun w hw => os_move rfl) ?_
      refine vt_val (fun w hw => os_move rfl) ?_
      refine vt_val (fun w hw => os_ix Try.underlying28 Try.sizeOf3 rfl rfl (i := k) (by omega) (by omega)) ?_
      refine vt_val (fun w hw => os_load Try.isAgg3 rfl (les_cell hw (fun e => by have := congrArg Addr.block e; dsimp only at this; omega) (leb_cell b6 hbA cA))) ?_
      refine vt_val (fun w hw => os_subi rfl rfl (by omega)) ?_
      refine vt_val (fun w hw => os_addi rfl rfl (by omega)) ?_
      refine vt_call (v := _) (fun w hw => (kit_Pick more ((ld : Int) - 1 - ks.getD k 0 + 1) w (by omega)).mono fun v w' hh => ⟨hh.1, by rw [hh.2]; exact (lee_s _ _).refl _⟩) rfl ?_
      refine vt_val (fun w hw => os_addi rfl rfl (by omega)) ?_
      refine vt_val (fun w hw => os_ix Try.underlying28 Try.sizeOf3 rfl rfl (i := k) (by omega) (by omega)) ?_
      refine vt_store Try.sizeOf3 rfl rfl rfl ((OwnK.cell so6 (by omega))) ((Own.free so6 _)) ?_
      refine vt_nilg (fun w hw hg => ?_)
      obtain ⟨-, -, q7, rfl⟩ := hg
      obtain ⟨X, hX⟩ : ∃ X, X = ks.getD k 0 + pickV more ((ld : Int) - 1 - ks.getD k 0 + 1) := ⟨_, rfl⟩
      rw [← hX]
      obtain ⟨w7, hw7⟩ : ∃ w7, w7 = (w6.setCell ⟨g6, 0 + k, none⟩ (.int .i64 X)).drewN q7 := ⟨_, rfl⟩
      rw [← hw7]
      have so7 : OwnK w7 w2.heap.size 3 .i64 (.slice (some ⟨g6, 0, none⟩) ks.length c6) (ks.set k X) := by rw [hw7, Nat.zero_add]; exact Own.led (OwnK.set so6 k _) ⟨q7, rfl⟩
      have b7 : Below w1.heap.size w1 w7 := by rw [hw7]; exact (below_set b6 (by omega) _ _).trans (led_below ⟨q7, rfl⟩)
      obtain ⟨u1, u2⟩ := sc_up hok (k := k) (by omega) (x := X) (by omega) (by omega)
      refine v_seq ?_
      refine v_region ?_
      refine vl_val (os_move rfl) ?_
      refine vl_val (os_move rfl) ?_
      refine vl_val (os_move rfl) ?_
      refine vl_call (wg_Score W0 _ D lw ks.length ld cw c6 cd worths (ks.set k X) ws w7 (hW.keep b7) so7.rd (hd.keep b7) lw' (by simp) ld' (by omega) (by omega) (by omega)) rfl ?_
      rintro v8 w8 ⟨rfl, q8⟩
      have b8 : Below w1.heap.size w1 w8 := b7.trans (led_below q8)
      rw [u1]
      have t0 := own_alloc w8 [] 3 (Nat.le_refl w8.heap.size) (by simp [maxLen])
      have t0b : Below w8.heap.size w8 (w8.alloc (.cells #[] 3)) := (Below.refl _ w8).alloc (Nat.le_refl _) _
      refine vl_val (os_move rfl) ?_
      refine vl_val (os_extract rfl rfl) ?_
      refine vl_val (os_extract rfl rfl) ?_
      refine vl_val (os_assign rfl) ?_
      refine vl_val (os_assign rfl) ?_
      refine vl_nil ?_
      refine v_seq ?_
      refine v_region ?_
      refine vl_val (os_lit Try.underlying28 Try.sizeOf3 Try.zeroValue3 rfl rfl rfl rfl (by decide)) ?_
      refine vl_val (os_move rfl) ?_
      refine vl_some (ot_append Try.underlying28 ti_int rfl rfl rfl t0 ((hW.keep b8).keep t0b).toC (by simp [lw']) (ints_one' _) (by simp; omega) (by simp [maxLen]; omega) (by simp)) ?_
      rintro v9 w9 ⟨to, tg⟩
      simp only [List.nil_append] at to
      have to9 : OwnK w9 w8.heap.size 3 .i64 v9 worths := to
      have x9 : Below w8.heap.size w8 w9 := t0.below t0b tg (Nat.le_refl _) (by simp)
      have b9 : Below w1.heap.size w1 w9 := b8.trans (x9.mono b8.size)
      obtain ⟨g9, c9, rfl, hg9, hg9', hc9, _⟩ := to9.row (by omega)
      obtain ⟨bW, oW, eW, hcW⟩ := hW (by omega)
      have cW := hcW k (by omega)
      have hbW : bW < w1.heap.size := World.block_lt_of_cell? _ _ cW
      have hs8 := b8.size
      have pq := pick_in more (show (1 : Int) ≤ 1048577 - worths.getD k 0 by omega)
      subst eW
      refine vl_val (os_assign rfl) ?_
      refine vl_nil ?_
      refine v_seq ?_
      refine v_region_t (LeS (⟨g9, 0 + k, none⟩) (.int .i64 (worths.getD k 0 + pickV more (1048577 - worths.getD k 0)))) _ mixed (by kernel_rfl) (lee_s _ _) (les_start _ _ _) ?_
      refine vt_val (fun w hw => os_move rfl) ?_
      refine vt_val (fun w hw => os_move rfl) ?_
      refine vt_val (fun w hw => os_move rfl) ?_
      refine vt_val (fun w hw => os_move rfl) ?_
      refine vt_val (fun w hw => os_ix Try.underlying28 Try.sizeOf3 rfl rfl (i := k) (by omega) (by omega)) ?_
      refine vt_val (fun w hw => os_load Try.isAgg3 rfl (les_cell hw (fun e => by have := congrArg Addr.block e; dsimp only at this; omega) (leb_cell b9 hbW cW))) ?_
      refine vt_val (fun w hw => os_move rfl) ?_
      refine vt_val (fun w hw => os_move rfl) ?_
      refine vt_val (fun w hw => os_move rfl) ?_
      refine vt_val (fun w hw => os_ix Try.underlying28 Try.sizeOf3 rfl rfl (i := k) (by omega) (by omega)) ?_
      refine vt_val (fun w hw => os_load Try.isAgg3 rfl (les_cell hw (fun e => by have := congrArg Addr.block e; dsimp only at this; omega) (leb_cell b9 hbW cW))) ?_
      refine vt_val (fun w hw => os_subi rfl rfl (by omega)) ?_
      refine vt_call (v := _) (fun w hw => (kit_Pick more (1048577 - worths.getD k 0) w (by omega)).mono fun v w' hh => ⟨hh.1, by rw [hh.2]; exact (lee_s _ _).refl _⟩) rfl ?_
      refine vt_val (fun w hw => os_addi rfl rfl (by omega)) ?_
      refine vt_val (fun w hw => os_ix Try.underlying28 Try.sizeOf3 rfl rfl (i := k) (by omega) (by omega)) ?_
      refine vt_store Try.sizeOf3 rfl rfl rfl ((OwnK.cell to9 (by omega))) ((Own.free to9 _)) ?_
      refine vt_nilg (fun w hw hg => ?_)
      obtain ⟨-, -, q10, rfl⟩ := hg
      obtain ⟨Y, hY⟩ : ∃ Y, Y = worths.getD k 0 + pickV more (1048577 - worths.getD k 0) := ⟨_, rfl⟩
      rw [← hY]
      obtain ⟨w10, hw10⟩ : ∃ w10, w10 = (w9.setCell ⟨g9, 0 + k, none⟩ (.int .i64 Y)).drewN q10 := ⟨_, rfl⟩
      rw [← hw10]
      have to10 : OwnK w10 w8.heap.size 3 .i64 (.slice (some ⟨g9, 0, none⟩) worths.length c9) (worths.set k Y) := by rw [hw10, Nat.zero_add]; exact Own.led (OwnK.set to9 k _) ⟨q10, rfl⟩
      have b10 : Below w1.heap.size w1 w10 := by rw [hw10]; exact (below_set b9 (by omega) _ _).trans (led_below ⟨q10, rfl⟩)
      obtain ⟨r1, r2⟩ := sc_rich hok (k := k) (by omega) (y := Y) (by omega) (by omega)
      refine v_seq ?_
      refine v_region ?_
      refine vl_val (os_move rfl) ?_
      refine vl_val (os_move rfl) ?_
      refine vl_val (os_move rfl) ?_
      refine vl_call (wg_Score _ _ D worths.length la ld c9 ca cd (worths.set k Y) ks ws w10 to10.rd (ha.keep b10) (hd.keep b10) (by simp) la' ld' (by omega) (by omega) (by omega)) rfl ?_
      rintro v11 w11 ⟨rfl, q11⟩
      have b11 : Below w1.heap.size w1 w11 := b10.trans (led_below q11)
      rw [r1]
      refine vl_val (os_move rfl) ?_
      refine vl_val (os_extract rfl rfl) ?_
      refine vl_val (os_extract rfl rfl) ?_
      refine vl_val (os_assign rfl) ?_
      refine vl_val (os_assign rfl) ?_
      refine vl_nil ?_
      refine v_seq ?_
      refine v_region ?_
      refine vl_val (os_move rfl) ?_
      refine vl_call (wg_Even ((ld : Int) - 1) w11 ⟨by omega, by omega⟩) rfl ?_
      rintro v12 w12 ⟨s12, rfl, o12, b12⟩
      have b12' : Below w1.heap.size w1 w12 := b11.trans (b12.mono b11.size)
      have eo : evenOk ((ld : Int) - 1) = true := decide_eq_true (by omega)
      have el : evenL ((ld : Int) - 1) = List.replicate (n + 1) 65536 := by rw [evenL, eo, if_pos rfl, show ((ld : Int) - 1 + 1).toNat = n + 1 by omega]
      rw [el] at o12
      obtain ⟨A12, c12, rfl, h12, h12', R12, _⟩ := o12.form
      rw [eo]
      refine vl_val (os_move rfl) ?_
      refine vl_val (os_extract rfl rfl) ?_
      refine vl_val (os_extract rfl rfl) ?_
      refine vl_val (os_assign rfl) ?_
      refine vl_val (os_assign rfl) ?_
      refine vl_nil ?_
      refine v_seq ?_
      refine v_region ?_
      refine vl_val (os_move rfl) ?_
      refine vl_val (os_move rfl) ?_
      refine vl_val (os_move rfl) ?_
      refine vl_call (wg_Score _ _ _ lw la _ cw ca c12 worths ks (List.replicate (n + 1) 65536) w12 (hW.keep b12') (ha.keep b12') R12 lw' la' rfl (by omega) (by omega) (by simp; omega)) rfl ?_
      rintro v13 w13 ⟨rfl, q13⟩
      have b13 : Below w1.heap.size w1 w13 := b12'.trans (led_below q13)
      rw [ev1, ev2]
      have hsb := sumTo_bd hok
      refine vl_val (os_move rfl) ?_
      refine vl_val (os_extract rfl rfl) ?_
      refine vl_val (os_extract rfl rfl) ?_
      refine vl_val (os_assign rfl) ?_
      refine vl_val (os_assign rfl) ?_
      refine vl_nil ?_
      refine v_seq ?_
      refine v_region ?_
      refine vl_val (os_assign rfl) ?_
      refine vl_nil ?_
      refine v_seq ?_
      refine v_region ?_
      refine vl_val (os_assign rfl) ?_
      refine vl_val (os_assign rfl) ?_
      refine vl_nil ?_
      refine v_seq ?_
      refine v_seq ?_
      refine v_region ?_
      refine vl_val (os_assign rfl) ?_
      refine vl_nil ?_
      refine v_block ?_
      refine v_loop3 [(0, _), (1, _), (2, _), (11, _), (16, _), (17, _), (19, _), (20, _), (22, _), (23, _), (24, _)] (fun (h : Value) (r : Value) (j : Nat) => [(25, .int .i64 (sumTo worths j)), (26, h), (27, r), (28, .int .i64 j)]) (fun h r j w' => j ≤ lw ∧ OwnK w' w13.heap.size 3 .i64 h ((worths.take j).map (· / 2)) ∧ OwnK w' w13.heap.size 3 .i64 r ((worths.take j).map (fun x => x - x / 2)) ∧ sep h r ∧ Below w13.heap.size w13 w') (fun h r j => lw - j) (.slice none 0 0) (.slice none 0 0) (0) ⟨rfl, rfl, rfl, rfl, rfl, rfl, rfl, rfl, rfl, rfl, rfl, trivial⟩ ⟨rfl, rfl, rfl, rfl, trivial⟩ (⟨by omega, Own.nil _ _ _, Own.nil _ _ _, fun x hx => by simp [Value.ownBlock] at hx, Below.refl _ _⟩) ?_
      rintro h r j w' ⟨hj, oh, or, hsep, hbl⟩
      refine v_seq ?_
      refine v_seq ?_
      refine v_region ?_
      refine vl_val (os_move rfl) ?_
      refine vl_val (os_move rfl) ?_
      refine vl_val (os_len Try.underlying28 rfl) ?_
      refine vl_val (os_lss rfl rfl) ?_
      refine vl_nil ?_
      refine v_cond_d rfl (fun hlt => ?_) (fun hlt => ?_)
      · have hgj := o4 j (by omega)
        unfold scGood at hgj
        have hsj := hsb j (by omega)
        have bL : Below w1.heap.size w1 w' := b13.trans (hbl.mono b13.size)
        have cj := leb_cell bL hbW (hcW j (by omega))
        refine v_skip ?_
        refine v_seq ?_
        refine v_block ?_
        refine v_seq ?_
        refine v_region ?_
        refine vl_val (os_move rfl) ?_
        refine vl_val (os_move rfl) ?_
        refine vl_val (os_move rfl) ?_
        refine vl_val (os_ix Try.underlying28 Try.sizeOf3 rfl rfl (i := j) (by omega) (by omega)) ?_
        refine vl_val (os_load Try.isAgg3 rfl (cj)) ?_
        refine vl_val (os_addi rfl rfl (by omega)) ?_
        refine vl_val (os_assign rfl) ?_
        refine vl_nil ?_
        refine v_seq ?_
        refine v_region ?_
        refine vl_val (os_move rfl) ?_
        refine vl_val (os_move rfl) ?_
        refine vl_val (os_move rfl) ?_
        refine vl_val (os_ix Try.underlying28 Try.sizeOf3 rfl rfl (i := j) (by omega) (by omega)) ?_
        refine vl_val (os_load Try.isAgg3 rfl (cj)) ?_
        have oh4 := Own.alloc oh (.cells [Value.int .i64 (worths.getD j 0 / 2)].toArray 3)
        have or4 := Own.alloc or (.cells [Value.int .i64 (worths.getD j 0 / 2)].toArray 3)
        have hb4 := hbl.alloc hbl.size (.cells [Value.int .i64 (worths.getD j 0 / 2)].toArray 3)
        refine vl_val (os_quoi rfl rfl (by omega)) ?_
        refine vl_val (os_lit Try.underlying28 Try.sizeOf3 Try.zeroValue3 rfl rfl rfl rfl (by decide)) ?_
        refine vl_some (ot_append_at Try.underlying28 ti_int rfl rfl rfl oh4 (rdc_alloc w' [Value.int .i64 (worths.getD j 0 / 2)] _) rfl (by simp [Value.oneCell']) (by simp; omega) (by simp [maxLen]; omega) hb4.size) ?_
        rintro vh wh ⟨oh5, gh5, ah5⟩
        have or5 := Own.other or4 gh5 hsep.other
        have hsep5 : sep vh r := hsep.grow or4 ah5
        have hb5 := Own.below hb4 oh4 gh5 (Nat.le_refl _) hb4.size
        have c5 := leb_cell (b13.trans (hb5.mono b13.size)) hbW (hcW j (by omega))
        have hs5 := hb5.size
        refine vl_val (os_assign rfl) ?_
        refine vl_nil ?_
        refine v_region_a mixed ?_
        refine va_pure 0 rfl (by kernel_rfl) (by kernel_rfl) (by kernel_rfl) (fun w => (os_move rfl)) ?_
        refine va_pure 1 rfl (by kernel_rfl) (by kernel_rfl) (by kernel_rfl) (fun w => (os_move rfl)) ?_
        refine va_pure 2 rfl (by kernel_rfl) (by kernel_rfl) (by kernel_rfl) (fun w => (os_move rfl)) ?_
        refine va_pure 3 rfl (by kernel_rfl) (by kernel_rfl) (by kernel_rfl) (fun w => (os_ix Try.underlying28 Try.sizeOf3 rfl rfl (i := j) (by omega) (by omega))) ?_
        refine va_pure 5 rfl (by kernel_rfl) (by kernel_rfl) (by kernel_rfl) (fun w => (os_move rfl)) ?_
        refine va_pure 6 rfl (by kernel_rfl) (by kernel_rfl) (by kernel_rfl) (fun w => (os_move rfl)) ?_
        refine va_pure 7 rfl (by kernel_rfl) (by kernel_rfl) (by kernel_rfl) (fun w => (os_ix Try.underlying28 Try.sizeOf3 rfl rfl (i := j) (by omega) (by omega))) ?_
        refine va_two 4 8 (by kernel_rfl) ?_ ?_
        · refine vn_val rfl (os_load Try.isAgg3 rfl (led_cell (⟨1, rfl⟩ : LeD wh _) c5)) ?_
          refine va_one 8 (by kernel_rfl) ?_
          refine vn_val rfl (os_load Try.isAgg3 rfl (led_cell (⟨1, rfl⟩ : LeD wh _) c5)) ?_
          refine va_pure 9 rfl (by kernel_rfl) (by kernel_rfl) (by kernel_rfl) (fun w => (os_quoi rfl rfl (by omega))) ?_
          refine va_pure 10 rfl (by kernel_rfl) (by kernel_rfl) (by kernel_rfl) (fun w => (os_subi rfl rfl (by omega))) ?_
          refine va_one 11 (by kernel_rfl) ?_
          refine vn_val rfl (os_lit Try.underlying28 Try.sizeOf3 Try.zeroValue3 rfl rfl rfl rfl (by decide)) ?_
          refine va_one 12 (by kernel_rfl) ?_
          refine vn_some rfl (ot_append_at Try.underlying28 ti_int rfl rfl rfl (Own.alloc (Own.led or5 ⟨1, rfl⟩) _) (rdc_alloc _ [Value.int .i64 (worths.getD j 0 - worths.getD j 0 / 2)] _) rfl (by simp [Value.oneCell']) (by simp; omega) (by simp [maxLen]; omega) (by simp; omega)) ?_
          rintro vr wr ⟨or7, gr7, ar7⟩
          refine va_pure 13 rfl (by kernel_rfl) (by kernel_rfl) (by kernel_rfl) (fun w => (os_assign rfl)) ?_
          refine va_done (by kernel_rfl) ?_
          refine v_region ?_
          refine vl_val (os_move rfl) ?_
          refine vl_val (os_addi rfl rfl (by omega)) ?_
          refine vl_val (os_assign rfl) ?_
          refine vl_nil ?_
          exact ⟨⟨vh, vr, j + 1⟩, ⟨rfl, rfl, rfl, rfl, rfl, rfl, rfl, rfl, rfl, rfl, rfl, trivial⟩, ⟨rfl, rfl, rfl, rfl, trivial⟩, ⟨by (try dsimp only); omega, by (try dsimp only); rw [take_map_succ _ _ (by omega)]; have := Own.other (Own.alloc (Own.led oh5 (⟨1, rfl⟩ : LeD wh _)) _) gr7 hsep5.symm.other; simpa [OwnK] using this, by (try dsimp only); rw [take_map_succ _ _ (by omega)]; simpa [OwnK] using or7, (hsep5.symm.grow (Own.alloc (Own.led oh5 (⟨1, rfl⟩ : LeD wh _)) _) ar7).symm, Own.below ((hb5.trans (led_below (⟨1, rfl⟩ : LeD wh _))).alloc (by simp; omega) _) (Own.alloc (Own.led or5 (⟨1, rfl⟩ : LeD wh _)) _) gr7 (Nat.le_refl _) (by simp; omega)⟩, by dsimp only; omega⟩
        · refine vn_val rfl (os_load Try.isAgg3 rfl (led_cell (⟨1, rfl⟩ : LeD wh _) c5)) ?_
          refine va_pure 9 rfl (by kernel_rfl) (by kernel_rfl) (by kernel_rfl) (fun w => (os_quoi rfl rfl (by omega))) ?_
          refine va_one 4 (by kernel_rfl) ?_
          refine vn_val rfl (os_load Try.isAgg3 rfl (led_cell (⟨1, rfl⟩ : LeD wh _) c5)) ?_
          refine va_pure 10 rfl (by kernel_rfl) (by kernel_rfl) (by kernel_rfl) (fun w => (os_subi rfl rfl (by omega))) ?_
          refine va_one 11 (by kernel_rfl) ?_
          refine vn_val rfl (os_lit Try.underlying28 Try.sizeOf3 Try.zeroValue3 rfl rfl rfl rfl (by decide)) ?_
          refine va_one 12 (by kernel_rfl) ?_
          refine vn_some rfl (ot_append_at Try.underlying28 ti_int rfl rfl rfl (Own.alloc (Own.led or5 ⟨1, rfl⟩) _) (rdc_alloc _ [Value.int .i64 (worths.getD j 0 - worths.getD j 0 / 2)] _) rfl (by simp [Value.oneCell']) (by simp; omega) (by simp [maxLen]; omega) (by simp; omega)) ?_
          rintro vr wr ⟨or7, gr7, ar7⟩
          refine va_pure 13 rfl (by kernel_rfl) (by kernel_rfl) (by kernel_rfl) (fun w => (os_assign rfl)) ?_
          refine va_done (by kernel_rfl) ?_
          refine v_region ?_
          refine vl_val (os_move rfl) ?_
          refine vl_val (os_addi rfl rfl (by omega)) ?_
          refine vl_val (os_assign rfl) ?_
          refine vl_nil ?_
          exact ⟨⟨vh, vr, j + 1⟩, ⟨rfl, rfl, rfl, rfl, rfl, rfl, rfl, rfl, rfl, rfl, rfl, trivial⟩, ⟨rfl, rfl, rfl, rfl, trivial⟩, ⟨by (try dsimp only); omega, by (try dsimp only); rw [take_map_succ _ _ (by omega)]; have := Own.other (Own.alloc (Own.led oh5 (⟨1, rfl⟩ : LeD wh _)) _) gr7 hsep5.symm.other; simpa [OwnK] using this, by (try dsimp only); rw [take_map_succ _ _ (by omega)]; simpa [OwnK] using or7, (hsep5.symm.grow (Own.alloc (Own.led oh5 (⟨1, rfl⟩ : LeD wh _)) _) ar7).symm, Own.below ((hb5.trans (led_below (⟨1, rfl⟩ : LeD wh _))).alloc (by simp; omega) _) (Own.alloc (Own.led or5 (⟨1, rfl⟩ : LeD wh _)) _) gr7 (Nat.le_refl _) (by simp; omega)⟩, by dsimp only; omega⟩
      · obtain rfl : lw = j := by omega
        have hT : worths.take lw = worths := List.take_of_length_le (by omega)
        rw [hT] at oh or
        obtain ⟨hv1, hv2, hv3⟩ := sc_halves hok
        have bd1 := sc_bd hv1
        have bd2 := sc_bd hv2
        have hsj := hsb lw (by omega)
        have bL : Below w1.heap.size w1 w' := b13.trans (hbl.mono b13.size)
        obtain ⟨Ah, ch, rfl, hh, hh', Rh, _⟩ := OwnK.form oh
        obtain ⟨Ar, cr, rfl, hr, hr', Rr, _⟩ := OwnK.form or
        refine v_exit ?_
        refine v_seq ?_
        refine v_region ?_
        refine vl_val (os_move rfl) ?_
        refine vl_val (os_move rfl) ?_
        refine vl_val (os_move rfl) ?_
        refine vl_call (wg_Score Ah _ D _ la ld ch ca cd (worths.map (· / 2)) ks ws w' Rh (ha.keep bL) (hd.keep bL) rfl la' ld' (by simp; omega) (by omega) (by omega)) rfl ?_
        rintro v20 w20 ⟨rfl, q20⟩
        have b20 : Below w1.heap.size w1 w20 := bL.trans (led_below q20)
        refine vl_val (os_move rfl) ?_
        refine vl_val (os_extract rfl rfl) ?_
        refine vl_val (os_extract rfl rfl) ?_
        refine vl_val (os_assign rfl) ?_
        refine vl_val (os_assign rfl) ?_
        refine vl_nil ?_
        refine v_seq ?_
        refine v_region ?_
        refine vl_val (os_move rfl) ?_
        refine vl_val (os_move rfl) ?_
        refine vl_val (os_move rfl) ?_
        refine vl_call (wg_Score Ar _ D _ la ld cr ca cd (worths.map (fun x => x - x / 2)) ks ws w20 (Rr.keep (led_below q20)) (ha.keep b20) (hd.keep b20) rfl la' ld' (by simp; omega) (by omega) (by omega)) rfl ?_
        rintro v21 w21 ⟨rfl, q21⟩
        have b21 : Below w1.heap.size w1 w21 := b20.trans (led_below q21)
        refine vl_val (os_move rfl) ?_
        refine vl_val (os_extract rfl rfl) ?_
        refine vl_val (os_extract rfl rfl) ?_
        refine vl_val (os_assign rfl) ?_
        refine vl_val (os_assign rfl) ?_
        refine vl_nil ?_
        refine v_seq ?_
        refine v_region ?_
        refine vl_val (os_move rfl) ?_
        refine vl_val (os_t (os_eql rfl rfl) (rfl)) ?_
        refine vl_val (os_move rfl) ?_
        refine vl_valg rfl (os_move rfl) ?_
        refine vl_valg rfl (os_t (os_eql rfl rfl) (rfl)) ?_
        refine vl_val (os_pick_t rfl rfl) ?_
        refine vl_val (os_move rfl) ?_
        refine vl_valg rfl (os_move rfl) ?_
        refine vl_valg rfl (os_t (os_eql rfl rfl) (rfl)) ?_
        refine vl_val (os_pick_t rfl rfl) ?_
        refine vl_val (os_move rfl) ?_
        refine vl_valg rfl (os_move rfl) ?_
        refine vl_valg rfl (os_t (os_eql rfl rfl) (rfl)) ?_
        refine vl_val (os_pick_t rfl rfl) ?_
        refine vl_val (os_move rfl) ?_
        refine vl_valg rfl (os_move rfl) ?_
        refine vl_valg rfl (os_move rfl) ?_
        refine vl_valg rfl (os_t (os_leq rfl rfl) (u2)) ?_
        refine vl_val (os_pick_t rfl rfl) ?_
        refine vl_val (os_move rfl) ?_
        refine vl_valg rfl (os_move rfl) ?_
        refine vl_valg rfl (os_move rfl) ?_
        refine vl_valg rfl (os_t (os_geq rfl rfl) (r2)) ?_
        refine vl_val (os_pick_t rfl rfl) ?_
        refine vl_val (os_move rfl) ?_
        refine vl_valg rfl (os_move rfl) ?_
        refine vl_valg rfl (os_move rfl) ?_
        refine vl_valg rfl (os_muli rfl rfl (by omega)) ?_
        refine vl_valg rfl (os_t (os_eql rfl rfl) (by rw [lw'])) ?_
        refine vl_val (os_pick_t rfl rfl) ?_
        refine vl_val (os_move rfl) ?_
        refine vl_valg rfl (os_move rfl) ?_
        refine vl_valg rfl (os_move rfl) ?_
        refine vl_valg rfl (os_addi rfl rfl (by omega)) ?_
        refine vl_valg rfl (os_move rfl) ?_
        refine vl_valg rfl (os_eql rfl rfl) ?_
        refine vl_val (os_pick_t rfl rfl) ?_
        refine vl_val (os_assign rfl) ?_
        refine vl_nil ?_
        refine v_ret ?_
        exact post_ret rfl rfl (⟨by rw [decide_eq_true hv3], hb1.trans (b21.mono hb1.size)⟩)
end Go.Proofs.Ytmbcflanifoofaa
