/- Texts joined: FlEI PsL. -/
import Derived.Test.YtpojijnjdlnokaaM21
/- The law's kit: whether lists of int lie apart. -/
namespace Go.Proofs.Ytpojijnjdlnokaa
open Go.RowKit
set_option linter.unusedVariables false
/-- the bag's cells -/
def bagInts (v : Value) : List Value := [.slice none 0 0, .slice none 0 0, v, .slice none 0 0, .slice none 0 0, .slice none 0 0, .slice none 0 0, .slice none 0 0, .slice none 0 0, .slice none 0 0, .slice none 0 0, .slice none 0 0, .slice none 0 0]
set_option maxHeartbeats 1000000 in
theorem kit_putInts (g B : Nat) (v : Value) (Al : Option Addr) (nl cl : Nat) (ss : List Value) (w : World) (hB : Bk w g (bagInts v) 122) (ho : Own w B 40 v ss) (hg : v.ownBlock ≠ some g) (hn : ss.length ≤ 100000) (hz : B ≤ w.heap.size) (hgB : B ≤ g) :
    Gives Try.prog 73 #[.pointer (some ⟨g, 0, none⟩), .slice Al nl cl] w fun u w' => ∃ v', Bk w' g (bagInts v') 122 ∧ Own w' B 40 v' (ss ++ [.slice Al nl cl]) ∧ v'.ownBlock ≠ some g ∧ Below B w w' := by
  have hlt := hB.lt
  refine gives_enter Try.call73 Try.func73 rfl rfl rfl (by kernel_rfl) ?_
  refine v_region ?_
  refine vl_val (os_move rfl) ?_
  refine vl_val (os_move rfl) ?_
  refine vl_val (os_nilCheck rfl) ?_
  refine vl_val (os_fa (o := 2) (k := 0) (by kernel_rfl) rfl) ?_
  refine vl_val (os_load Try.isAgg59 rfl (Bk.cell (i := 2) hB rfl)) ?_
  refine vl_val (os_move rfl) ?_
  refine vl_val (os_lit Try.underlying59 Try.sizeOf40 Try.zeroValue40 rfl rfl rfl rfl (by decide)) ?_
  refine vl_some (ot_append_at Try.underlying59 ti_lInts rfl rfl rfl (Own.alloc ho _) (rdc_alloc w [.slice Al nl cl] _) rfl (by intro u hu; rw [List.mem_singleton.1 hu]; rfl) (by omega) (by simp [maxLen]; omega) (by simp; omega)) ?_
  rintro v1 w1 ⟨ho1, hg1, ha1⟩
  obtain ⟨A1, c1, rfl, -⟩ := Own.form ho1
  have hne1 : (Value.slice A1 _ c1).ownBlock ≠ some g := fun e => by
    rcases ha1 with h6 | h6
    · rw [h6] at e; exact hg e
    · rw [h6] at e; simp at e; omega
  have hB1 := Bk.grown (Bk.alloc hB _) hg1 (fun e => hg e.symm)
  refine vl_val (os_nilCheck rfl) ?_
  refine vl_val (os_fa (o := 2) (k := 0) (by kernel_rfl) rfl) ?_
  refine vl_unit (ou_store Try.sizeOf59 rfl rfl rfl (Bk.cell (i := 2) hB1 rfl) (Bk.free hB1 _)) ?_
  refine vl_nil ?_
  exact post_end0 rfl (⟨_, Bk.set hB1 2 _, Own.setOther ho1 (fun g' e e2 => hne1 (by rw [e, e2])) _ _, hne1, below_set ((((Below.refl w.heap.size w).alloc (Nat.le_refl _) _).mono hz).trans ((Below.refl _ _).grown hg1 (by simp; omega) (fun k hk => (World.ownsRow.lt ho k hk).1))) hgB _ _⟩)

set_option maxHeartbeats 2000000 in
theorem kit_apartInts (g : Nat) (A : Option Addr) (N cA B : Nat) (S : List Nat) (ss : List Value) (lab : Nat → Nat) (nn : Nat → Nat) (c0 d0 : Nat → List Value) (Hw : World) (hF : Fl Hw B 3 40 S A ss lab c0 (.slice none 0 0) [] 0 d0 Hw) (hN : ss.length = N) (hN1 : N ≤ 100000)
    (hn0 : ∀ j, j < N → (c0 j).length = nn j) (hn1 : ∀ j, j < N → nn j ≤ 1000000000) (hB : Bk Hw g (bagInts (.slice A N cA)) 122) (hS : g ∉ S) :
    Gives Try.prog 74 #[.pointer (some ⟨g, 0, none⟩)] Hw fun v w' => v = .bool true ∧ Kb S Hw w' := by
  have hb := Below.refl Hw.heap.size Hw
  have hBw := hB
  refine gives_enter Try.call74 Try.func74 rfl rfl rfl (by kernel_rfl) ?_
  refine v_seq ?_
  refine v_region ?_
  refine vl_val (os_assign rfl) ?_
  refine vl_nil ?_
  refine v_seq ?_
  refine v_region ?_
  refine vl_val (os_move rfl) ?_
  refine vl_val (os_nilCheck rfl) ?_
  refine vl_val (os_fa (o := 0) (k := 0) (by kernel_rfl) rfl) ?_
  refine vl_val (os_load Try.isAgg110 rfl (Bk.cell (i := 0) hB rfl)) ?_
  refine vl_call (kit_noneLimbs _) rfl ?_
  rintro v1 w1 ⟨rfl, hb1⟩
  have hb := hb.trans (hb1.mono hb.size)
  have hB := hB.keep hb1
  clear hb1
  refine vl_val (os_move rfl) ?_
  refine vl_valg rfl (os_move rfl) ?_
  refine vl_valg rfl (os_nilCheck rfl) ?_
  refine vl_valg rfl (os_fa (o := 1) (k := 0) (by kernel_rfl) rfl) ?_
  refine vl_valg rfl (os_load Try.isAgg111 rfl (Bk.cell (i := 1) hB rfl)) ?_
  refine vl_callg rfl (kit_noneWords _) rfl ?_
  rintro v1 w1 ⟨rfl, hb1⟩
  have hb := hb.trans (hb1.mono hb.size)
  have hB := hB.keep hb1
  clear hb1
  refine vl_val (os_pick_t rfl rfl) ?_
  refine vl_val (os_move rfl) ?_
  refine vl_valg rfl (os_move rfl) ?_
  refine vl_valg rfl (os_nilCheck rfl) ?_
  refine vl_valg rfl (os_fa (o := 2) (k := 0) (by kernel_rfl) rfl) ?_
  refine vl_valg rfl (os_load Try.isAgg59 rfl (Bk.cell (i := 2) hB rfl)) ?_
  refine vl_callg rfl (kit_flatInts A N cA B S ss lab nn c0 d0 Hw _ (hF.below hb) hN hN1 hn0 hn1) rfl ?_
  rintro v1 w1 ⟨rfl, hk1⟩
  have hkb : Kb S Hw w1 := hk1
  clear hb
  have hB := hBw.kb hk1 hS
  refine vl_val (os_pick_t rfl rfl) ?_
  refine vl_val (os_move rfl) ?_
  refine vl_valg rfl (os_move rfl) ?_
  refine vl_valg rfl (os_nilCheck rfl) ?_
  refine vl_valg rfl (os_fa (o := 3) (k := 0) (by kernel_rfl) rfl) ?_
  refine vl_valg rfl (os_load Try.isAgg112 rfl (Bk.cell (i := 3) hB rfl)) ?_
  refine vl_callg rfl (kit_noneLongs _) rfl ?_
  rintro v1 w1 ⟨rfl, hb1⟩
  have hkb := hkb.trans (Kb.of_below (S := []) hb1) (fun k hk => by cases hk)
  have hB := hB.keep hb1
  clear hb1
  refine vl_val (os_pick_t rfl rfl) ?_
  refine vl_val (os_move rfl) ?_
  refine vl_valg rfl (os_move rfl) ?_
  refine vl_valg rfl (os_nilCheck rfl) ?_
  refine vl_valg rfl (os_fa (o := 4) (k := 0) (by kernel_rfl) rfl) ?_
  refine vl_valg rfl (os_load Try.isAgg113 rfl (Bk.cell (i := 4) hB rfl)) ?_
  refine vl_callg rfl (kit_noneTexts _) rfl ?_
  rintro v1 w1 ⟨rfl, hb1⟩
  have hkb := hkb.trans (Kb.of_below (S := []) hb1) (fun k hk => by cases hk)
  have hB := hB.keep hb1
  clear hb1
  refine vl_val (os_pick_t rfl rfl) ?_
  refine vl_val (os_move rfl) ?_
  refine vl_valg rfl (os_move rfl) ?_
  refine vl_valg rfl (os_nilCheck rfl) ?_
  refine vl_valg rfl (os_fa (o := 5) (k := 0) (by kernel_rfl) rfl) ?_
  refine vl_valg rfl (os_load Try.isAgg23 rfl (Bk.cell (i := 5) hB rfl)) ?_
  refine vl_callg rfl (kit_noneBytes _) rfl ?_
  rintro v1 w1 ⟨rfl, hb1⟩
  have hkb := hkb.trans (Kb.of_below (S := []) hb1) (fun k hk => by cases hk)
  have hB := hB.keep hb1
  clear hb1
  refine vl_val (os_pick_t rfl rfl) ?_
  refine vl_val (os_move rfl) ?_
  refine vl_valg rfl (os_move rfl) ?_
  refine vl_valg rfl (os_nilCheck rfl) ?_
  refine vl_valg rfl (os_fa (o := 6) (k := 0) (by kernel_rfl) rfl) ?_
  refine vl_valg rfl (os_load Try.isAgg114 rfl (Bk.cell (i := 6) hB rfl)) ?_
  refine vl_callg rfl (kit_noneTruths _) rfl ?_
  rintro v1 w1 ⟨rfl, hb1⟩
  have hkb := hkb.trans (Kb.of_below (S := []) hb1) (fun k hk => by cases hk)
  have hB := hB.keep hb1
  clear hb1
  refine vl_val (os_pick_t rfl rfl) ?_
  refine vl_val (os_move rfl) ?_
  refine vl_valg rfl (os_move rfl) ?_
  refine vl_valg rfl (os_nilCheck rfl) ?_
  refine vl_valg rfl (os_fa (o := 7) (k := 0) (by kernel_rfl) rfl) ?_
  refine vl_valg rfl (os_load Try.isAgg115 rfl (Bk.cell (i := 7) hB rfl)) ?_
  refine vl_callg rfl (kit_noneLayers _) rfl ?_
  rintro v1 w1 ⟨rfl, hb1⟩
  have hkb := hkb.trans (Kb.of_below (S := []) hb1) (fun k hk => by cases hk)
  have hB := hB.keep hb1
  clear hb1
  refine vl_val (os_pick_t rfl rfl) ?_
  refine vl_val (os_move rfl) ?_
  refine vl_valg rfl (os_move rfl) ?_
  refine vl_valg rfl (os_nilCheck rfl) ?_
  refine vl_valg rfl (os_fa (o := 8) (k := 0) (by kernel_rfl) rfl) ?_
  refine vl_valg rfl (os_load Try.isAgg116 rfl (Bk.cell (i := 8) hB rfl)) ?_
  refine vl_callg rfl (kit_noneTable _) rfl ?_
  rintro v1 w1 ⟨rfl, hb1⟩
  have hkb := hkb.trans (Kb.of_below (S := []) hb1) (fun k hk => by cases hk)
  have hB := hB.keep hb1
  clear hb1
  refine vl_val (os_pick_t rfl rfl) ?_
  refine vl_val (os_move rfl) ?_
  refine vl_valg rfl (os_move rfl) ?_
  refine vl_valg rfl (os_nilCheck rfl) ?_
  refine vl_valg rfl (os_fa (o := 9) (k := 0) (by kernel_rfl) rfl) ?_
  refine vl_valg rfl (os_load Try.isAgg117 rfl (Bk.cell (i := 9) hB rfl)) ?_
  refine vl_callg rfl (kit_noneHeads _) rfl ?_
  rintro v1 w1 ⟨rfl, hb1⟩
  have hkb := hkb.trans (Kb.of_below (S := []) hb1) (fun k hk => by cases hk)
  have hB := hB.keep hb1
  clear hb1
  refine vl_val (os_pick_t rfl rfl) ?_
  refine vl_val (os_move rfl) ?_
  refine vl_valg rfl (os_move rfl) ?_
  refine vl_valg rfl (os_nilCheck rfl) ?_
  refine vl_valg rfl (os_fa (o := 10) (k := 0) (by kernel_rfl) rfl) ?_
  refine vl_valg rfl (os_load Try.isAgg118 rfl (Bk.cell (i := 10) hB rfl)) ?_
  refine vl_callg rfl (kit_noneCounts _) rfl ?_
  rintro v1 w1 ⟨rfl, hb1⟩
  have hkb := hkb.trans (Kb.of_below (S := []) hb1) (fun k hk => by cases hk)
  have hB := hB.keep hb1
  clear hb1
  refine vl_val (os_pick_t rfl rfl) ?_
  refine vl_val (os_move rfl) ?_
  refine vl_valg rfl (os_move rfl) ?_
  refine vl_valg rfl (os_nilCheck rfl) ?_
  refine vl_valg rfl (os_fa (o := 11) (k := 0) (by kernel_rfl) rfl) ?_
  refine vl_valg rfl (os_load Try.isAgg119 rfl (Bk.cell (i := 11) hB rfl)) ?_
  refine vl_callg rfl (kit_noneNotes _) rfl ?_
  rintro v1 w1 ⟨rfl, hb1⟩
  have hkb := hkb.trans (Kb.of_below (S := []) hb1) (fun k hk => by cases hk)
  have hB := hB.keep hb1
  clear hb1
  refine vl_val (os_pick_t rfl rfl) ?_
  refine vl_val (os_move rfl) ?_
  refine vl_valg rfl (os_move rfl) ?_
  refine vl_valg rfl (os_nilCheck rfl) ?_
  refine vl_valg rfl (os_fa (o := 12) (k := 0) (by kernel_rfl) rfl) ?_
  refine vl_valg rfl (os_load Try.isAgg120 rfl (Bk.cell (i := 12) hB rfl)) ?_
  refine vl_callg rfl (kit_noneFates _) rfl ?_
  rintro v1 w1 ⟨rfl, hb1⟩
  have hkb := hkb.trans (Kb.of_below (S := []) hb1) (fun k hk => by cases hk)
  have hB := hB.keep hb1
  clear hb1
  refine vl_val (os_pick_t rfl rfl) ?_
  refine vl_val (os_assign rfl) ?_
  refine vl_nil ?_
  refine v_ret ?_
  exact post_ret rfl rfl (⟨rfl, hkb⟩)

set_option maxHeartbeats 2000000 in
theorem kit_ApartInts (A : Option Addr) (N cA B : Nat) (ss : List Value) (nn : Nat → Nat) (cc : Nat → List Value) (w : World) (hr : RdC w A ss) (hN : ss.length = N) (hN1 : N ≤ 100000) (ho : ∀ (j : Nat) (v : Value), ss[j]? = some v → Own w B 3 v (cc j))
    (hs : ∀ (i j : Nat) (v u : Value), ss[i]? = some v → ss[j]? = some u → i < j → sep v u) (hn0 : ∀ j, j < N → (cc j).length = nn j) (hn1 : ∀ j, j < N → nn j ≤ 1000000000) (hB : B ≤ w.heap.size) :
    Gives Try.prog 38 #[.slice A N cA] w fun v w' => v = .bool true ∧ Kb (ss.filterMap Value.ownBlock) w w' := by
  refine gives_enter Try.call38 Try.func38 rfl rfl rfl (by kernel_rfl) ?_
  refine v_seq ?_
  refine v_region ?_
  refine vl_val (os_assign rfl) ?_
  refine vl_nil ?_
  refine v_seq ?_
  refine v_region ?_
  refine vl_val (os_build (cs := [.slice none 0 0, .slice none 0 0, .slice none 0 0, .slice none 0 0, .slice none 0 0, .slice none 0 0, .slice none 0 0, .slice none 0 0, .slice none 0 0, .slice none 0 0, .slice none 0 0, .slice none 0 0, .slice none 0 0]) rfl (by kernel_rfl)) ?_
  have hB0 := bk_new w (bagInts (.slice none 0 0)) 122
  refine vl_val (os_box rfl) ?_
  refine vl_val (os_assign rfl) ?_
  refine vl_nil ?_
  refine v_seq ?_
  refine v_seq ?_
  refine v_region ?_
  refine vl_val (os_assign rfl) ?_
  refine vl_nil ?_
  refine v_block ?_
  refine v_loop [(0, _), (3, _)] (fun (k : Nat) => [(4, .int .i64 k)]) (fun k w' => k ≤ N ∧ ∃ v, Bk w' w.heap.size (bagInts v) 122 ∧ Own w' w.heap.size 40 v (ss.take k) ∧ v.ownBlock ≠ some w.heap.size ∧ Below w.heap.size w w') (fun k => N - k) (0) ⟨rfl, rfl, trivial⟩ ⟨rfl, trivial⟩ (⟨by omega, .slice none 0 0, hB0, by rw [List.take_zero]; exact Own.nil _ _ _, by simp [Value.ownBlock], (Below.refl _ _).alloc (Nat.le_refl _) _⟩) ?_
  rintro k w' ⟨hk, v, hB1, ho1, hne, hb⟩
  refine v_seq ?_
  refine v_seq ?_
  refine v_region ?_
  refine vl_val (os_move rfl) ?_
  refine vl_val (os_move rfl) ?_
  refine vl_val (os_len Try.underlying59 rfl) ?_
  refine vl_val (os_lss rfl rfl) ?_
  refine vl_nil ?_
  refine v_cond_d rfl (fun h => ?_) (fun h => ?_)
  · obtain ⟨u, hu⟩ : ∃ u, ss[k]? = some u := ⟨ss[k]'(by omega), List.getElem?_eq_getElem (by omega)⟩
    obtain ⟨A1, c1, rfl, -⟩ := Own.form (ho k _ hu)
    obtain ⟨bA, oA, rfl, -⟩ := hr (by omega)
    refine v_skip ?_
    refine v_seq ?_
    refine v_block ?_
    refine v_region ?_
    refine vl_val (os_move rfl) ?_
    refine vl_val (os_move rfl) ?_
    refine vl_val (os_move rfl) ?_
    refine vl_val (os_ix Try.underlying59 Try.sizeOf40 rfl rfl (i := k) (by omega) (by omega)) ?_
    refine vl_val (os_load Try.isAgg40 rfl ((hr.keep hb).get hu)) ?_
    refine vl_call (kit_putInts _ w.heap.size v _ _ _ (ss.take k) w' hB1 ho1 hne (by rw [List.length_take]; omega) hb.size (Nat.le_refl _)) rfl ?_
    rintro u2 w2 ⟨v2, hB2, ho2, hne2, hb2⟩
    refine vl_nil ?_
    refine v_region ?_
    refine vl_val (os_move rfl) ?_
    refine vl_val (os_addi rfl rfl (by omega)) ?_
    refine vl_val (os_assign rfl) ?_
    refine vl_nil ?_
    exact ⟨k + 1, ⟨rfl, rfl, trivial⟩, ⟨rfl, trivial⟩, ⟨by omega, v2, hB2, by rw [List.take_add_one, hu]; exact ho2, hne2, hb.trans hb2⟩, by dsimp only; omega⟩
  · obtain rfl : N = k := by omega
    rw [List.take_of_length_le (by omega)] at ho1
    obtain ⟨A1, c1, rfl, -, -, hr1, hA1⟩ := Own.form ho1
    have hS : ∀ b ∈ ss.filterMap Value.ownBlock, b < w.heap.size := fun b hb => by
      obtain ⟨x, hx, hxb⟩ := List.mem_filterMap.1 hb
      obtain ⟨j, hj⟩ := List.mem_iff_getElem?.1 hx
      exact (World.ownsRow.lt (ho j x hj) b hxb).2
    have hlt : ∀ (j : Nat) (x : Value) (b : Nat), ss[j]? = some x → x.ownBlock = some b → b < w.heap.size := fun j x b hj hxb => (World.ownsRow.lt (ho j x hj) b hxb).2
    obtain ⟨lab, hF⟩ := Fl.init (tt := 40) (dd := fun _ => []) (Nat.le_trans hB hb.size) hr1 (fun j x hj => (ho j x hj).keepAll hb) hs (fun b o e => ⟨(hA1 b o e).2.2, fun j x hj hxb => by have h1 := hlt j x b hj hxb; have h2 := (hA1 b o e).1; omega⟩)
    subst hN
    refine v_exit ?_
    refine v_seq ?_
    refine v_region ?_
    refine vl_val (os_move rfl) ?_
    refine vl_call (kit_apartInts _ A1 _ c1 B _ ss lab nn cc (fun _ => []) w' hF rfl hN1 hn0 hn1 hB1 (fun hh => by have := hS _ hh; omega)) rfl ?_
    rintro u2 w2 ⟨rfl, hk2⟩
    refine vl_val (os_assign rfl) ?_
    refine vl_nil ?_
    refine v_ret ?_
    exact post_ret rfl rfl (⟨rfl, (Kb.of_below hb).trans hk2 (fun b hb => .inl hb)⟩)

end Go.Proofs.Ytpojijnjdlnokaa

/- Layer 13: the document's Score; a task as the document's. -/
namespace Go.Proofs.Ytpojijnjdlnokaa
open Go.RowKit
set_option linter.unusedVariables false

theorem r13_Score (d : TaskV) (q : TaskP) (w : World) (hd : TaskOk w d q) : Gives Try.prog 33 #[.agg d.cells.toArray] w fun v w' => v = .tuple #[.int .i64 (scoreV q), .int .i64 (bestE q)] ∧ Below w.heap.size w w' := by
  have hB := bk_new w d.cells 51
  have hb0 : Below w.heap.size w (w.alloc (.cells d.cells.toArray 51)) := (Below.refl _ w).alloc (Nat.le_refl _) _
  refine gives_enter Try.call33 Try.func33 rfl rfl rfl (by kernel_rfl) ?_
  refine v_seq ?_
  refine v_region ?_
  refine vl_val (os_box rfl) ?_
  refine vl_val (os_assign rfl) ?_
  refine vl_val (os_assign rfl) ?_
  refine vl_nil ?_
  refine v_seq ?_
  refine v_region ?_
  refine vl_val (os_loadB Try.underlying51 rfl (by kernel_rfl) rfl hB) ?_
  refine vl_call (r13_Best d q _ (hd.keep hb0)) rfl ?_
  rintro v1 w1 ⟨s, rfl, ho, b1⟩
  have hb1 := hb0.trans (b1.mono hb0.size)
  have hB1 := hB.keep b1
  have hd1 := hd.keep hb1
  refine vl_val (os_move rfl) ?_
  refine vl_val (os_extract rfl rfl) ?_
  refine vl_val (os_extract rfl rfl) ?_
  refine vl_val (os_assign rfl) ?_
  refine vl_val (os_assign rfl) ?_
  refine vl_nil ?_
  refine v_seq ?_
  refine v_seq ?_
  refine v_region ?_
  refine vl_val (os_move rfl) ?_
  refine vl_val (os_neq rfl rfl) ?_
  refine vl_nil ?_
  refine v_cond_d rfl (fun hE => ?_) (fun hE => ?_)
  · refine v_seq ?_
    refine v_region ?_
    refine vl_val (os_move rfl) ?_
    refine vl_val (os_assign rfl) ?_
    refine vl_val (os_assign rfl) ?_
    refine vl_nil ?_
    refine v_ret ?_
    exact post_ret2 rfl rfl rfl (⟨by rw [scoreV, if_neg hE], hb1⟩)
  · have hE0 : bestE q = 0 := by omega
    have hb := bestR hE0
    have hll := bestL_len (q := q)
    obtain ⟨A1, c1, rfl, -, -, hr1, -⟩ := OwnK.form ho
    refine v_skip ?_
    refine v_seq ?_
    refine v_region ?_
    refine vl_val (os_fa (o := 4) (k := 0) (by kernel_rfl) rfl) ?_
    refine vl_val (os_load Try.isAgg40 rfl (hB1.cell (i := 4) rfl)) ?_
    refine vl_val (os_move rfl) ?_
    refine vl_val (os_fa (o := 5) (k := 0) (by kernel_rfl) rfl) ?_
    refine vl_val (os_load Try.isAgg40 rfl (hB1.cell (i := 5) rfl)) ?_
    refine vl_call (ref_Score d.AW A1 d.AV d.wl _ d.vl d.wc c1 d.vc q.worths (bestL q) q.ws w1 hd1.W hr1 hd1.V hd1.wl rfl hd1.vl (by have := hd1.bw; omega) (by omega) (by have := hd1.bv; omega)) rfl ?_
    rintro v2 w2 ⟨rfl, d2⟩
    refine vl_val (os_move rfl) ?_
    refine vl_val (os_extract rfl rfl) ?_
    refine vl_val (os_extract rfl rfl) ?_
    refine vl_val (os_assign rfl) ?_
    refine vl_val (os_assign rfl) ?_
    refine vl_nil ?_
    refine v_seq ?_
    refine v_region ?_
    refine vl_val (os_move rfl) ?_
    refine vl_val (os_assign rfl) ?_
    refine vl_val (os_assign rfl) ?_
    refine vl_nil ?_
    refine v_ret ?_
    exact post_ret2 rfl rfl rfl (⟨by rw [scoreV, if_pos hE0, hE0], hb1.trans ((led_below d2).mono hb1.size)⟩)
def zT : List Value := [.int .i64 0, .int .i64 0, .int .i64 0, .slice none 0 0, .slice none 0 0, .slice none 0 0]
theorem law13_theirs (d : TaskV) (w : World) : Gives Try.prog 31 #[.agg d.cells.toArray] w fun v w' => v = .agg d.cells.toArray ∧ Below w.heap.size w w' := by
  have hB := bk_new w d.cells 44
  have hb0 : Below w.heap.size w (w.alloc (.cells d.cells.toArray 44)) := (Below.refl _ w).alloc (Nat.le_refl _) _
  have hT := bk_new (w.alloc (.cells d.cells.toArray 44)) zT 51
  have hb2 := hb0.alloc hb0.size (.cells zT.toArray 51)
  have hB2 := hB.alloc (.cells zT.toArray 51)
  refine gives_enter Try.call31 Try.func31 rfl rfl rfl (by kernel_rfl) ?_
  refine v_seq ?_
  refine v_region ?_
  refine vl_val (os_box rfl) ?_
  refine vl_val (os_allocB Try.zeroValue51 (zc := _) (cs := zT) rfl) ?_
  refine vl_nil ?_
  refine v_seq ?_
  refine v_region ?_
  refine vl_val (os_fa (o := 0) (k := 2) (by kernel_rfl) rfl) ?_
  refine vl_val (os_fa (o := 0) (k := 0) (by kernel_rfl) rfl) ?_
  refine vl_val (os_load Try.isAgg3 rfl (hB2.cell (i := 0) rfl)) ?_
  refine vl_val (os_fa (o := 0) (k := 2) (by kernel_rfl) rfl) ?_
  refine vl_val (os_fa (o := 1) (k := 0) (by kernel_rfl) rfl) ?_
  refine vl_val (os_load Try.isAgg3 rfl (hB2.cell (i := 1) rfl)) ?_
  refine vl_val (os_fa (o := 0) (k := 2) (by kernel_rfl) rfl) ?_
  refine vl_val (os_fa (o := 2) (k := 0) (by kernel_rfl) rfl) ?_
  refine vl_val (os_load Try.isAgg3 rfl (hB2.cell (i := 2) rfl)) ?_
  refine vl_val (os_build (cs := [.int .i64 d.n, .int .i64 d.m, .int .i64 d.b]) rfl (by kernel_rfl)) ?_
  refine vl_val (os_fa (o := 3) (k := 0) (by kernel_rfl) rfl) ?_
  refine vl_val (os_load Try.isAgg40 rfl (hB2.cell (i := 3) rfl)) ?_
  refine vl_val (os_fa (o := 4) (k := 0) (by kernel_rfl) rfl) ?_
  refine vl_val (os_load Try.isAgg40 rfl (hB2.cell (i := 4) rfl)) ?_
  refine vl_val (os_fa (o := 5) (k := 0) (by kernel_rfl) rfl) ?_
  refine vl_val (os_load Try.isAgg40 rfl (hB2.cell (i := 5) rfl)) ?_
  refine vl_val (os_build (cs := d.cells) rfl (by kernel_rfl)) ?_
  refine vl_unit (ou_storeB (by kernel_rfl) rfl rfl hT rfl rfl) ?_
  refine vl_nil ?_
  refine v_ret ?_
  exact post_cell rfl rfl Try.underlying51 rfl (by kernel_rfl) (setRow_bk hT d.cells) ⟨rfl, below_setRow hb2 hb0.size _⟩

theorem pl_all4 {P : Nat → Value → Prop} {a b c d : Value} (h0 : P 0 a) (h1 : P 1 b) (h2 : P 2 c) (h3 : P 3 d) : ∀ (j : Nat) (v : Value), [a, b, c, d][j]? = some v → P j v := by
  intro j v hj
  rcases j with _ | _ | _ | _ | j
  · cases hj; exact h0
  · cases hj; exact h1
  · cases hj; exact h2
  · cases hj; exact h3
  · simp at hj
theorem pl_sep4 {a b c d : Value} (h1 : sep a b) (h2 : sep a c) (h3 : sep a d) (h4 : sep b c) (h5 : sep b d) (h6 : sep c d) : ∀ (i j : Nat) (v u : Value), [a, b, c, d][i]? = some v → [a, b, c, d][j]? = some u → i < j → sep v u := by
  intro i j v u hi hj hij
  rcases i with _ | _ | _ | _ | i <;> rcases j with _ | _ | _ | _ | j <;> simp at hi hj <;> (try omega) <;> subst hi <;> subst hj <;> assumption
theorem pl_nat4 {Q : Nat → Prop} (h0 : Q 0) (h1 : Q 1) (h2 : Q 2) (h3 : Q 3) : ∀ j, j < 4 → Q j := by
  intro j hj
  rcases j with _ | _ | _ | _ | j
  · exact h0
  · exact h1
  · exact h2
  · exact h3
  · omega
theorem Own.partI {w : World} {B : Nat} {t : TypeId} {g n c m : Nat} {cs : List Value} (h : Own w B t (.slice (some ⟨g, 0, none⟩) n c) cs) (hm : m ≤ c) : ∃ ds, ds.length = m ∧ Own w B t (.slice (some ⟨g, 0, none⟩) m c) ds := by
  rcases h.2 with ⟨h1, _⟩ | ⟨g', cap, cur, h1, hB, hg, hnc, hcm, hs, ht⟩
  · cases h1
  · cases h1
    have hl : (cur.toList.take m).length = m := by rw [List.length_take, Array.length_toList, hs]; omega
    exact ⟨cur.toList.take m, hl, by simp, .inr ⟨g, c, cur, by rw [hl], hB, hg, by omega, hcm, hs, by rw [hl]; simp⟩⟩

def inV (d : TaskV) (q : TaskP) (g2 C2 g3 C3 g4 C4 : Nat) : TaskV := ⟨d.n, d.m, d.b, some ⟨g2, 0, none⟩, q.lens.length, C2, some ⟨g3, 0, none⟩, q.worths.length, C3, some ⟨g4, 0, none⟩, q.ws.length, C4⟩
structure InR (w1 w' : World) (d : TaskV) (q : TaskP) (M g2 C2 g3 C3 g4 C4 : Nat) : Prop where
  bk : Bk w' M (inV d q g2 C2 g3 C3 g4 C4).cells 44
  l : Lent w' w1.heap.size 3 .i64 markZ (.slice (some ⟨g2, 0, none⟩) q.lens.length C2) q.lens
  o : Lent w' w1.heap.size 3 .i64 markZ (.slice (some ⟨g3, 0, none⟩) q.worths.length C3) q.worths
  s : Lent w' w1.heap.size 3 .i64 markZ (.slice (some ⟨g4, 0, none⟩) q.ws.length C4) q.ws
  ne : g2 ≠ g3 ∧ g2 ≠ g4 ∧ g3 ≠ g4 ∧ M ≠ g2 ∧ M ≠ g3 ∧ M ≠ g4
  bel : Below w1.heap.size w1 w'
theorem Lent.blkI {w : World} {B g n C : Nat} {t : TypeId} {k : IntKind} {f : Int → Int → Int} {zs : List Int} (h : Lent w B t k f (.slice (some ⟨g, 0, none⟩) n C) zs) : B ≤ g ∧ g < w.heap.size := by
  obtain ⟨g', C', e, hc, ho⟩ := h
  cases e
  exact World.ownsRow.lt ho _ rfl
theorem in_fin {w1 a1 a2 a3 aM w2 w3 w4 z : World} {d : TaskV} {q : TaskP} {g2 C2 g3 C3 g4 C4 : Nat} (l1 : LeG w1 a1) (hI2 : Lent w2 a1.heap.size 3 .i64 markZ (.slice (some ⟨g2, 0, none⟩) q.lens.length C2) q.lens) (b2 : Below a1.heap.size a1 w2)
    (l2 : LeG w2 a2) (hI3 : Lent w3 a2.heap.size 3 .i64 markZ (.slice (some ⟨g3, 0, none⟩) q.worths.length C3) q.worths) (b3 : Below a2.heap.size a2 w3) (l3 : LeG w3 a3) (hI4 : Lent w4 a3.heap.size 3 .i64 markZ (.slice (some ⟨g4, 0, none⟩) q.ws.length C4) q.ws) (b4 : Below a3.heap.size a3 w4)
    (lz : LeG w4 z) (lM : LeG w1 aM) (lMz : LeG (aM.alloc (.cells zT.toArray 44)) z) (h2 : w2.heap.size ≤ aM.heap.size ∨ aM.heap.size < a1.heap.size) (h3 : w3.heap.size ≤ aM.heap.size ∨ aM.heap.size < a2.heap.size) (h4 : w4.heap.size ≤ aM.heap.size ∨ aM.heap.size < a3.heap.size) :
    InR w1 (z.setRow aM.heap.size (inV d q g2 C2 g3 C3 g4 C4).cells.toArray) d q aM.heap.size g2 C2 g3 C3 g4 C4 := by
  have k2 := Lent.blkI hI2
  have k3 := Lent.blkI hI3
  have k4 := Lent.blkI hI4
  have t1 := l1.size
  have t2 := l2.size
  have t3 := l3.size
  have tM := lM.size
  have u2 := b2.size
  have u3 := b3.size
  have u4 := b4.size
  have e24 : Below w2.heap.size w2 w4 := Below.trans l2 ((b3.trans ((Below.trans l3 (b4.mono t3)).mono u3)).mono t2)
  have e34 : Below w3.heap.size w3 w4 := Below.trans l3 (b4.mono t3)
  have m2 : aM.heap.size ≠ g2 := by omega
  have m3 : aM.heap.size ≠ g3 := by omega
  have m4 : aM.heap.size ≠ g4 := by omega
  have kset : ∀ cs : List Value, Kb [aM.heap.size] z (z.setRow aM.heap.size cs.toArray) := fun cs => Kb.grown (grown_setRow z _ _) (fun k hk => by cases hk; simp)
  have f : ∀ {w' : World} {B g C : Nat} {zs : List Int}, Lent w' B 3 .i64 markZ (.slice (some ⟨g, 0, none⟩) zs.length C) zs → aM.heap.size ≠ g → Below w'.heap.size w' z → w1.heap.size ≤ B → ∀ cs : List Value, Lent (z.setRow aM.heap.size cs.toArray) w1.heap.size 3 .i64 markZ (.slice (some ⟨g, 0, none⟩) zs.length C) zs := @fun w' B g C zs hL hne hb hB cs => by
    obtain ⟨g', C', e, hc, ho⟩ := hL.keep hb
    have eg : g' = g := by injection e with e1; injection e1 with e1; injection e1 with e1; exact e1.symm
    exact ⟨g', C', e, hc, Own.mono (Own.kb ho (kset cs) (fun b hb hm => by have e1 := List.mem_singleton.1 hm; have e2 : g' = b := (by simpa [Value.ownBlock] using hb); omega)) hB⟩
  have z4 := lz.size
  refine ⟨setRow_bk ((bk_new aM zT 44).keep lMz) _, f hI2 m2 (e24.trans (Below.mono lz (by omega))) (by omega) _, f hI3 m3 (e34.trans (Below.mono lz (by omega))) (by omega) _, f hI4 m4 lz (by omega) _, ⟨by omega, by omega, by omega, m2, m3, m4⟩, ?_⟩
  exact below_setRow ((Below.trans l1 (b2.mono t1)).trans ((e24.trans (Below.mono lz (by omega))).mono (by omega))) (by omega) _
set_option maxHeartbeats 8000000 in
theorem law13_PlanBest (d : TaskV) (q : TaskP) (w : World) (hd : TaskOk w d q) : Gives Try.prog 5 #[.agg d.cells.toArray] w fun v w' => v = .bool true ∧ Below w.heap.size w w' := by
  have hB := bk_new w d.cells 44
  have hb0 : Below w.heap.size w (w.alloc (.cells d.cells.toArray 44)) := (Below.refl _ w).alloc (Nat.le_refl _) _
  have hll := hd.ll
  have hwl := hd.wl
  have hvl := hd.vl
  have hbl := hd.bl
  have hbw := hd.bw
  have hbv := hd.bv
  refine gives_enter Try.call5 Try.func5 rfl rfl rfl (by kernel_rfl) ?_
  refine v_seq ?_
  refine v_region ?_
  refine vl_val (os_box rfl) ?_
  refine vl_val (os_assign rfl) ?_
  refine vl_nil ?_
  refine v_seq ?_
  refine v_region ?_
  refine vl_val (os_fa (o := 3) (k := 0) (by kernel_rfl) rfl) ?_
  refine vl_val (os_load Try.isAgg40 rfl (hB.cell (i := 3) rfl)) ?_
  refine vl_val (os_len Try.underlying40 rfl) ?_
  refine vl_val (os_assign rfl) ?_
  refine vl_nil ?_
  refine v_mid [(1, _)] (fun (u : Unit) => []) (fun u w' => Bk w' w.heap.size d.cells 44 ∧ Below w.heap.size w w' ∧ d.ll + d.wl + d.vl ≤ 700) ⟨rfl, trivial⟩ ?_ ?_
  · rcases (by omega : (12 < d.n ∧ d.n < 256) ∨ (12 < d.n ∧ ¬ d.n < 256) ∨ ¬ 12 < d.n) with c | ⟨c, c2⟩ | c
    · refine v_seq ?_
      refine v_region ?_
      refine vl_val (os_fa (o := 0) (k := 2) (by kernel_rfl) rfl) ?_
      refine vl_val (os_fa (o := 0) (k := 0) (by kernel_rfl) rfl) ?_
      refine vl_val (os_load Try.isAgg3 rfl (hB.cell (i := 0) rfl)) ?_
      refine vl_val (os_t (os_gtr rfl rfl) (by omega)) ?_
      refine vl_val (os_move rfl) ?_
      refine vl_valg rfl (os_fa (o := 0) (k := 2) (by kernel_rfl) rfl) ?_
      refine vl_valg rfl (os_fa (o := 0) (k := 0) (by kernel_rfl) rfl) ?_
      refine vl_valg rfl (os_load Try.isAgg3 rfl (hB.cell (i := 0) rfl)) ?_
      refine vl_valg rfl (os_t (os_lss rfl rfl) (by omega)) ?_
      refine vl_val (os_pick_t rfl rfl) ?_
      refine vl_val (os_move rfl) ?_
      refine vl_skip rfl rfl ?_
      refine vl_skip rfl rfl ?_
      refine vl_skip rfl rfl ?_
      refine vl_skip rfl rfl ?_
      refine vl_skip rfl rfl ?_
      refine vl_skip rfl rfl ?_
      refine vl_skip rfl rfl ?_
      refine vl_skip rfl rfl ?_
      refine vl_skip rfl rfl ?_
      refine vl_skip rfl rfl ?_
      refine vl_val (os_pick_t rfl rfl) ?_
      refine vl_nil ?_
      refine v_cond_t rfl ?_
      refine v_seq ?_
      refine v_region ?_
      refine vl_call (law13_awake _) rfl ?_
      rintro v1 w1 ⟨rfl, b1⟩
      refine vl_val (os_assign rfl) ?_
      refine vl_nil ?_
      refine v_ret ?_
      exact post_ret rfl rfl (⟨rfl, hb0.trans (b1.mono hb0.size)⟩)
    · refine v_seq ?_
      refine v_region ?_
      refine vl_val (os_fa (o := 0) (k := 2) (by kernel_rfl) rfl) ?_
      refine vl_val (os_fa (o := 0) (k := 0) (by kernel_rfl) rfl) ?_
      refine vl_val (os_load Try.isAgg3 rfl (hB.cell (i := 0) rfl)) ?_
      refine vl_val (os_t (os_gtr rfl rfl) (by omega)) ?_
      refine vl_val (os_move rfl) ?_
      refine vl_valg rfl (os_fa (o := 0) (k := 2) (by kernel_rfl) rfl) ?_
      refine vl_valg rfl (os_fa (o := 0) (k := 0) (by kernel_rfl) rfl) ?_
      refine vl_valg rfl (os_load Try.isAgg3 rfl (hB.cell (i := 0) rfl)) ?_
      refine vl_valg rfl (os_f (os_lss rfl rfl) (by omega)) ?_
      refine vl_val (os_pick_t rfl rfl) ?_
      refine vl_val (os_move rfl) ?_
      refine vl_valg rfl (os_move rfl) ?_
      refine vl_valg rfl (os_fa (o := 4) (k := 0) (by kernel_rfl) rfl) ?_
      refine vl_valg rfl (os_load Try.isAgg40 rfl (hB.cell (i := 4) rfl)) ?_
      refine vl_valg rfl (os_len Try.underlying40 rfl) ?_
      refine vl_valg rfl (os_addi rfl rfl (by omega)) ?_
      refine vl_valg rfl (os_fa (o := 5) (k := 0) (by kernel_rfl) rfl) ?_
      refine vl_valg rfl (os_load Try.isAgg40 rfl (hB.cell (i := 5) rfl)) ?_
      refine vl_valg rfl (os_len Try.underlying40 rfl) ?_
      refine vl_valg rfl (os_addi rfl rfl (by omega)) ?_
      refine vl_valg rfl (os_gtr rfl rfl) ?_
      refine vl_val (os_pick_f rfl rfl) ?_
      refine vl_nil ?_
      refine v_cond_d rfl (fun hbig => ?_) (fun hbig => ?_)
      · refine v_seq ?_
        refine v_region ?_
        refine vl_call (law13_awake _) rfl ?_
        rintro v1 w1 ⟨rfl, b1⟩
        refine vl_val (os_assign rfl) ?_
        refine vl_nil ?_
        refine v_ret ?_
        exact post_ret rfl rfl (⟨rfl, hb0.trans (b1.mono hb0.size)⟩)
      · refine v_skip ?_
        exact ⟨(), ⟨rfl, trivial⟩, trivial, ⟨hB, hb0, by omega⟩⟩
    · refine v_seq ?_
      refine v_region ?_
      refine vl_val (os_fa (o := 0) (k := 2) (by kernel_rfl) rfl) ?_
      refine vl_val (os_fa (o := 0) (k := 0) (by kernel_rfl) rfl) ?_
      refine vl_val (os_load Try.isAgg3 rfl (hB.cell (i := 0) rfl)) ?_
      refine vl_val (os_f (os_gtr rfl rfl) (by omega)) ?_
      refine vl_val (os_move rfl) ?_
      refine vl_skip rfl rfl ?_
      refine vl_skip rfl rfl ?_
      refine vl_skip rfl rfl ?_
      refine vl_skip rfl rfl ?_
      refine vl_val (os_pick_f rfl rfl) ?_
      refine vl_val (os_move rfl) ?_
      refine vl_valg rfl (os_move rfl) ?_
      refine vl_valg rfl (os_fa (o := 4) (k := 0) (by kernel_rfl) rfl) ?_
      refine vl_valg rfl (os_load Try.isAgg40 rfl (hB.cell (i := 4) rfl)) ?_
      refine vl_valg rfl (os_len Try.underlying40 rfl) ?_
      refine vl_valg rfl (os_addi rfl rfl (by omega)) ?_
      refine vl_valg rfl (os_fa (o := 5) (k := 0) (by kernel_rfl) rfl) ?_
      refine vl_valg rfl (os_load Try.isAgg40 rfl (hB.cell (i := 5) rfl)) ?_
      refine vl_valg rfl (os_len Try.underlying40 rfl) ?_
      refine vl_valg rfl (os_addi rfl rfl (by omega)) ?_
      refine vl_valg rfl (os_gtr rfl rfl) ?_
      refine vl_val (os_pick_f rfl rfl) ?_
      refine vl_nil ?_
      refine v_cond_d rfl (fun hbig => ?_) (fun hbig => ?_)
      · refine v_seq ?_
        refine v_region ?_
        refine vl_call (law13_awake _) rfl ?_
        rintro v1 w1 ⟨rfl, b1⟩
        refine vl_val (os_assign rfl) ?_
        refine vl_nil ?_
        refine v_ret ?_
        exact post_ret rfl rfl (⟨rfl, hb0.trans (b1.mono hb0.size)⟩)
      · refine v_skip ?_
        exact ⟨(), ⟨rfl, trivial⟩, trivial, ⟨hB, hb0, by omega⟩⟩
  · rintro u w1 ⟨hB1, hb1, hsz⟩
    have hd1 := hd.keep hb1
    refine v_mid [(1, _)] (fun (M : Nat) => [(4, .pointer (some ⟨M, 0, none⟩))]) (fun M w' => ∃ g2 C2 g3 C3 g4 C4, InR w1 w' d q M g2 C2 g3 C3 g4 C4) ⟨rfl, trivial⟩ ?_ ?_
    · refine v_region_h (LeG w1) mixed (leg_start _) ?_
      refine vh_pure 0 rfl (by kernel_rfl) (by kernel_rfl) (by kernel_rfl) (fun w hw => (os_fa (o := 0) (k := 2) (by kernel_rfl) rfl)) ?_
      refine vh_pure 1 rfl (by kernel_rfl) (by kernel_rfl) (by kernel_rfl) (fun w hw => (os_loadP (cs := [.int .i64 d.n, .int .i64 d.m, .int .i64 d.b]) Try.underlying42 rfl (by kernel_rfl) rfl ((Bk.rdc (hB1.keep hw)).take 3))) ?_
      refine vh_pure 2 rfl (by kernel_rfl) (by kernel_rfl) (by kernel_rfl) (fun w hw => (os_fa (o := 3) (k := 0) (by kernel_rfl) rfl)) ?_
      refine vh_pure 3 rfl (by kernel_rfl) (by kernel_rfl) (by kernel_rfl) (fun w hw => (os_load Try.isAgg40 rfl (leg_cell hw (hB1.cell (i := 3) rfl)))) ?_
      refine vh_pure 5 rfl (by kernel_rfl) (by kernel_rfl) (by kernel_rfl) (fun w hw => (os_fa (o := 4) (k := 0) (by kernel_rfl) rfl)) ?_
      refine vh_pure 6 rfl (by kernel_rfl) (by kernel_rfl) (by kernel_rfl) (fun w hw => (os_load Try.isAgg40 rfl (leg_cell hw (hB1.cell (i := 4) rfl)))) ?_
      refine vh_pure 8 rfl (by kernel_rfl) (by kernel_rfl) (by kernel_rfl) (fun w hw => (os_fa (o := 5) (k := 0) (by kernel_rfl) rfl)) ?_
      refine vh_pure 9 rfl (by kernel_rfl) (by kernel_rfl) (by kernel_rfl) (fun w hw => (os_load Try.isAgg40 rfl (leg_cell hw (hB1.cell (i := 5) rfl)))) ?_
      refine vh_two 4 12 (by kernel_rfl) ?_ ?_
      · refine vhn_call rfl (kit_LentInts d.AL d.ll d.lc q.lens _ (hd1.L.keep (by first | exact (Below.refl _ w1).drew | exact (Below.refl _ w1).drew.alloc (Nat.le_refl _) _)) hll (by omega)) rfl (fun hw v w' h => hw.trans (h.2.mono hw.size)) ?_
        rintro v2 w2 ⟨hI2, b2⟩
        obtain ⟨g2, C2, rfl, hC2, -, hg2, hg2', -⟩ := hI2.form
        have e2 : Below w1.heap.size w1 w2 := by first | exact (Below.refl _ w1).drew.trans b2 | exact ((Below.refl _ w1).drew.alloc (Nat.le_refl _) _).trans (b2.mono (by simp))
        refine vh_two 7 12 (by kernel_rfl) ?_ ?_
        · refine vhn_call rfl (kit_LentInts d.AW d.wl d.wc q.worths _ ((hd1.W.keep e2).keep (by first | exact Below.refl _ w2 | exact (Below.refl _ w2).alloc (Nat.le_refl _) _)) hwl (by omega)) rfl (fun hw v w' h => hw.trans (h.2.mono hw.size)) ?_
          rintro v3 w3 ⟨hI3, b3⟩
          obtain ⟨g3, C3, rfl, hC3, -, hg3, hg3', -⟩ := hI3.form
          have e3 : Below w2.heap.size w2 w3 := by first | exact b3 | exact ((Below.refl _ w2).alloc (Nat.le_refl _) _).trans (b3.mono (by simp))
          refine vh_two 10 12 (by kernel_rfl) ?_ ?_
          · refine vhn_call rfl (kit_LentInts d.AV d.vl d.vc q.ws _ (((hd1.V.keep e2).keep e3).keep (by first | exact Below.refl _ w3 | exact (Below.refl _ w3).alloc (Nat.le_refl _) _)) hvl (by omega)) rfl (fun hw v w' h => hw.trans (h.2.mono hw.size)) ?_
            rintro v4 w4 ⟨hI4, b4⟩
            obtain ⟨g4, C4, rfl, hC4, -, hg4, hg4', -⟩ := hI4.form
            refine vh_pure 11 rfl (by kernel_rfl) (by kernel_rfl) (by kernel_rfl) (fun w hw => (os_build (cs := (inV d q g2 C2 g3 C3 g4 C4).cells) rfl (by kernel_rfl))) ?_
            refine vh_one 12 (by kernel_rfl) ?_
            refine vhn_val rfl (os_allocB Try.zeroValue44 (zc := _) (cs := zT) rfl) (fun hw => hw.alloc (Below.size hw) _) ?_
            refine vh_one 13 (by kernel_rfl) ?_
            refine vhn_unit rfl (ou_storeB (cs := zT) (t := 44) (by kernel_rfl) rfl rfl (by first | exact bk_new w4 zT _ | exact (bk_new w3 zT _).keep b4 | exact ((bk_new w2 zT _).keep b3).keep b4 | exact (((bk_new _ zT _).keep b2).keep b3).keep b4) rfl rfl) (fun hw => below_setRow hw (by have s2 := b2.size; have s3 := b3.size; have s4 := b4.size; simp only [World.size_alloc] at *; (try dsimp only at *); first | exact Nat.le_refl _ | omega) _) ?_
            refine vh_done (by kernel_rfl) (fun hS => ?_)
            exact ⟨_, ⟨rfl, trivial⟩, ⟨rfl, trivial⟩, ⟨g2, C2, g3, C3, g4, C4, in_fin (by first | exact Below.refl _ _ | exact (Below.refl _ _).alloc (Nat.le_refl _) _ | exact (Below.refl _ _).drew | exact (Below.refl _ _).drew.alloc (Nat.le_refl _) _) hI2 b2 (by first | exact Below.refl _ _ | exact (Below.refl _ _).alloc (Nat.le_refl _) _ | exact (Below.refl _ _).drew | exact (Below.refl _ _).drew.alloc (Nat.le_refl _) _) hI3 b3 (by first | exact Below.refl _ _ | exact (Below.refl _ _).alloc (Nat.le_refl _) _ | exact (Below.refl _ _).drew | exact (Below.refl _ _).drew.alloc (Nat.le_refl _) _) hI4 b4 (by first | exact Below.refl _ _ | exact (Below.refl _ _).alloc (Nat.le_refl _) _ | exact (Below.refl _ _).drew | exact (Below.refl _ _).drew.alloc (Nat.le_refl _) _) (by first | exact (Below.refl _ w1).drew | exact e2 | exact e2.trans (e3.mono e2.size) | exact (e2.trans (e3.mono e2.size)).trans (b4.mono (e2.trans (e3.mono e2.size)).size)) (by first | exact Below.refl _ _ | exact b4 | exact b3.trans (b4.mono b3.size) | exact b2.trans ((b3.trans (b4.mono b3.size)).mono b2.size)) (by have s2 := b2.size; have s3 := b3.size; have s4 := b4.size; simp only [World.size_alloc] at *; first | omega | exact .inl (Nat.le_refl _)) (by have s2 := b2.size; have s3 := b3.size; have s4 := b4.size; simp only [World.size_alloc] at *; first | omega | exact .inl (Nat.le_refl _)) (by have s2 := b2.size; have s3 := b3.size; have s4 := b4.size; simp only [World.size_alloc] at *; first | omega | exact .inl (Nat.le_refl _))⟩⟩
          · refine vhn_val rfl (os_allocB Try.zeroValue44 (zc := _) (cs := zT) rfl) (fun hw => hw.alloc (Below.size hw) _) ?_
            refine vh_one 10 (by kernel_rfl) ?_
            refine vhn_call rfl (kit_LentInts d.AV d.vl d.vc q.ws _ (((hd1.V.keep e2).keep e3).keep (by first | exact Below.refl _ w3 | exact (Below.refl _ w3).alloc (Nat.le_refl _) _)) hvl (by omega)) rfl (fun hw v w' h => hw.trans (h.2.mono hw.size)) ?_
            rintro v4 w4 ⟨hI4, b4⟩
            obtain ⟨g4, C4, rfl, hC4, -, hg4, hg4', -⟩ := hI4.form
            refine vh_pure 11 rfl (by kernel_rfl) (by kernel_rfl) (by kernel_rfl) (fun w hw => (os_build (cs := (inV d q g2 C2 g3 C3 g4 C4).cells) rfl (by kernel_rfl))) ?_
            refine vh_one 13 (by kernel_rfl) ?_
            refine vhn_unit rfl (ou_storeB (cs := zT) (t := 44) (by kernel_rfl) rfl rfl (by first | exact bk_new w4 zT _ | exact (bk_new w3 zT _).keep b4 | exact ((bk_new w2 zT _).keep b3).keep b4 | exact (((bk_new _ zT _).keep b2).keep b3).keep b4) rfl rfl) (fun hw => below_setRow hw (by have s2 := b2.size; have s3 := b3.size; have s4 := b4.size; simp only [World.size_alloc] at *; (try dsimp only at *); first | exact Nat.le_refl _ | omega) _) ?_
            refine vh_done (by kernel_rfl) (fun hS => ?_)
            exact ⟨_, ⟨rfl, trivial⟩, ⟨rfl, trivial⟩, ⟨g2, C2, g3, C3, g4, C4, in_fin (by first | exact Below.refl _ _ | exact (Below.refl _ _).alloc (Nat.le_refl _) _ | exact (Below.refl _ _).drew | exact (Below.refl _ _).drew.alloc (Nat.le_refl _) _) hI2 b2 (by first | exact Below.refl _ _ | exact (Below.refl _ _).alloc (Nat.le_refl _) _ | exact (Below.refl _ _).drew | exact (Below.refl _ _).drew.alloc (Nat.le_refl _) _) hI3 b3 (by first | exact Below.refl _ _ | exact (Below.refl _ _).alloc (Nat.le_refl _) _ | exact (Below.refl _ _).drew | exact (Below.refl _ _).drew.alloc (Nat.le_refl _) _) hI4 b4 (by first | exact Below.refl _ _ | exact (Below.refl _ _).alloc (Nat.le_refl _) _ | exact (Below.refl _ _).drew | exact (Below.refl _ _).drew.alloc (Nat.le_refl _) _) (by first | exact (Below.refl _ w1).drew | exact e2 | exact e2.trans (e3.mono e2.size) | exact (e2.trans (e3.mono e2.size)).trans (b4.mono (e2.trans (e3.mono e2.size)).size)) (by first | exact Below.refl _ _ | exact b4 | exact b3.trans (b4.mono b3.size) | exact b2.trans ((b3.trans (b4.mono b3.size)).mono b2.size)) (by have s2 := b2.size; have s3 := b3.size; have s4 := b4.size; simp only [World.size_alloc] at *; first | omega | exact .inl (Nat.le_refl _)) (by have s2 := b2.size; have s3 := b3.size; have s4 := b4.size; simp only [World.size_alloc] at *; first | omega | exact .inl (Nat.le_refl _)) (by have s2 := b2.size; have s3 := b3.size; have s4 := b4.size; simp only [World.size_alloc] at *; first | omega | exact .inl (Nat.le_refl _))⟩⟩
        · refine vhn_val rfl (os_allocB Try.zeroValue44 (zc := _) (cs := zT) rfl) (fun hw => hw.alloc (Below.size hw) _) ?_
          refine vh_one 7 (by kernel_rfl) ?_
          refine vhn_call rfl (kit_LentInts d.AW d.wl d.wc q.worths _ ((hd1.W.keep e2).keep (by first | exact Below.refl _ w2 | exact (Below.refl _ w2).alloc (Nat.le_refl _) _)) hwl (by omega)) rfl (fun hw v w' h => hw.trans (h.2.mono hw.size)) ?_
          rintro v3 w3 ⟨hI3, b3⟩
          obtain ⟨g3, C3, rfl, hC3, -, hg3, hg3', -⟩ := hI3.form
          have e3 : Below w2.heap.size w2 w3 := by first | exact b3 | exact ((Below.refl _ w2).alloc (Nat.le_refl _) _).trans (b3.mono (by simp))
          refine vh_one 10 (by kernel_rfl) ?_
          refine vhn_call rfl (kit_LentInts d.AV d.vl d.vc q.ws _ (((hd1.V.keep e2).keep e3).keep (by first | exact Below.refl _ w3 | exact (Below.refl _ w3).alloc (Nat.le_refl _) _)) hvl (by omega)) rfl (fun hw v w' h => hw.trans (h.2.mono hw.size)) ?_
          rintro v4 w4 ⟨hI4, b4⟩
          obtain ⟨g4, C4, rfl, hC4, -, hg4, hg4', -⟩ := hI4.form
          refine vh_pure 11 rfl (by kernel_rfl) (by kernel_rfl) (by kernel_rfl) (fun w hw => (os_build (cs := (inV d q g2 C2 g3 C3 g4 C4).cells) rfl (by kernel_rfl))) ?_
          refine vh_one 13 (by kernel_rfl) ?_
          refine vhn_unit rfl (ou_storeB (cs := zT) (t := 44) (by kernel_rfl) rfl rfl (by first | exact bk_new w4 zT _ | exact (bk_new w3 zT _).keep b4 | exact ((bk_new w2 zT _).keep b3).keep b4 | exact (((bk_new _ zT _).keep b2).keep b3).keep b4) rfl rfl) (fun hw => below_setRow hw (by have s2 := b2.size; have s3 := b3.size; have s4 := b4.size; simp only [World.size_alloc] at *; (try dsimp only at *); first | exact Nat.le_refl _ | omega) _) ?_
          refine vh_done (by kernel_rfl) (fun hS => ?_)
          exact ⟨_, ⟨rfl, trivial⟩, ⟨rfl, trivial⟩, ⟨g2, C2, g3, C3, g4, C4, in_fin (by first | exact Below.refl _ _ | exact (Below.refl _ _).alloc (Nat.le_refl _) _ | exact (Below.refl _ _).drew | exact (Below.refl _ _).drew.alloc (Nat.le_refl _) _) hI2 b2 (by first | exact Below.refl _ _ | exact (Below.refl _ _).alloc (Nat.le_refl _) _ | exact (Below.refl _ _).drew | exact (Below.refl _ _).drew.alloc (Nat.le_refl _) _) hI3 b3 (by first | exact Below.refl _ _ | exact (Below.refl _ _).alloc (Nat.le_refl _) _ | exact (Below.refl _ _).drew | exact (Below.refl _ _).drew.alloc (Nat.le_refl _) _) hI4 b4 (by first | exact Below.refl _ _ | exact (Below.refl _ _).alloc (Nat.le_refl _) _ | exact (Below.refl _ _).drew | exact (Below.refl _ _).drew.alloc (Nat.le_refl _) _) (by first | exact (Below.refl _ w1).drew | exact e2 | exact e2.trans (e3.mono e2.size) | exact (e2.trans (e3.mono e2.size)).trans (b4.mono (e2.trans (e3.mono e2.size)).size)) (by first | exact Below.refl _ _ | exact b4 | exact b3.trans (b4.mono b3.size) | exact b2.trans ((b3.trans (b4.mono b3.size)).mono b2.size)) (by have s2 := b2.size; have s3 := b3.size; have s4 := b4.size; simp only [World.size_alloc] at *; first | omega | exact .inl (Nat.le_refl _)) (by have s2 := b2.size; have s3 := b3.size; have s4 := b4.size; simp only [World.size_alloc] at *; first | omega | exact .inl (Nat.le_refl _)) (by have s2 := b2.size; have s3 := b3.size; have s4 := b4.size; simp only [World.size_alloc] at *; first | omega | exact .inl (Nat.le_refl _))⟩⟩
      · refine vhn_val rfl (os_allocB Try.zeroValue44 (zc := _) (cs := zT) rfl) (fun hw => hw.alloc (Below.size hw) _) ?_
        refine vh_one 4 (by kernel_rfl) ?_
        refine vhn_call rfl (kit_LentInts d.AL d.ll d.lc q.lens _ (hd1.L.keep (by first | exact (Below.refl _ w1).drew | exact (Below.refl _ w1).drew.alloc (Nat.le_refl _) _)) hll (by omega)) rfl (fun hw v w' h => hw.trans (h.2.mono hw.size)) ?_
        rintro v2 w2 ⟨hI2, b2⟩
        obtain ⟨g2, C2, rfl, hC2, -, hg2, hg2', -⟩ := hI2.form
        have e2 : Below w1.heap.size w1 w2 := by first | exact (Below.refl _ w1).drew.trans b2 | exact ((Below.refl _ w1).drew.alloc (Nat.le_refl _) _).trans (b2.mono (by simp))
        refine vh_one 7 (by kernel_rfl) ?_
        refine vhn_call rfl (kit_LentInts d.AW d.wl d.wc q.worths _ ((hd1.W.keep e2).keep (by first | exact Below.refl _ w2 | exact (Below.refl _ w2).alloc (Nat.le_refl _) _)) hwl (by omega)) rfl (fun hw v w' h => hw.trans (h.2.mono hw.size)) ?_
        rintro v3 w3 ⟨hI3, b3⟩
        obtain ⟨g3, C3, rfl, hC3, -, hg3, hg3', -⟩ := hI3.form
        have e3 : Below w2.heap.size w2 w3 := by first | exact b3 | exact ((Below.refl _ w2).alloc (Nat.le_refl _) _).trans (b3.mono (by simp))
        refine vh_one 10 (by kernel_rfl) ?_
        refine vhn_call rfl (kit_LentInts d.AV d.vl d.vc q.ws _ (((hd1.V.keep e2).keep e3).keep (by first | exact Below.refl _ w3 | exact (Below.refl _ w3).alloc (Nat.le_refl _) _)) hvl (by omega)) rfl (fun hw v w' h => hw.trans (h.2.mono hw.size)) ?_
        rintro v4 w4 ⟨hI4, b4⟩
        obtain ⟨g4, C4, rfl, hC4, -, hg4, hg4', -⟩ := hI4.form
        refine vh_pure 11 rfl (by kernel_rfl) (by kernel_rfl) (by kernel_rfl) (fun w hw => (os_build (cs := (inV d q g2 C2 g3 C3 g4 C4).cells) rfl (by kernel_rfl))) ?_
        refine vh_one 13 (by kernel_rfl) ?_
        refine vhn_unit rfl (ou_storeB (cs := zT) (t := 44) (by kernel_rfl) rfl rfl (by first | exact bk_new w4 zT _ | exact (bk_new w3 zT _).keep b4 | exact ((bk_new w2 zT _).keep b3).keep b4 | exact (((bk_new _ zT _).keep b2).keep b3).keep b4) rfl rfl) (fun hw => below_setRow hw (by have s2 := b2.size; have s3 := b3.size; have s4 := b4.size; simp only [World.size_alloc] at *; (try dsimp only at *); first | exact Nat.le_refl _ | omega) _) ?_
        refine vh_done (by kernel_rfl) (fun hS => ?_)
        exact ⟨_, ⟨rfl, trivial⟩, ⟨rfl, trivial⟩, ⟨g2, C2, g3, C3, g4, C4, in_fin (by first | exact Below.refl _ _ | exact (Below.refl _ _).alloc (Nat.le_refl _) _ | exact (Below.refl _ _).drew | exact (Below.refl _ _).drew.alloc (Nat.le_refl _) _) hI2 b2 (by first | exact Below.refl _ _ | exact (Below.refl _ _).alloc (Nat.le_refl _) _ | exact (Below.refl _ _).drew | exact (Below.refl _ _).drew.alloc (Nat.le_refl _) _) hI3 b3 (by first | exact Below.refl _ _ | exact (Below.refl _ _).alloc (Nat.le_refl _) _ | exact (Below.refl _ _).drew | exact (Below.refl _ _).drew.alloc (Nat.le_refl _) _) hI4 b4 (by first | exact Below.refl _ _ | exact (Below.refl _ _).alloc (Nat.le_refl _) _ | exact (Below.refl _ _).drew | exact (Below.refl _ _).drew.alloc (Nat.le_refl _) _) (by first | exact (Below.refl _ w1).drew | exact e2 | exact e2.trans (e3.mono e2.size) | exact (e2.trans (e3.mono e2.size)).trans (b4.mono (e2.trans (e3.mono e2.size)).size)) (by first | exact Below.refl _ _ | exact b4 | exact b3.trans (b4.mono b3.size) | exact b2.trans ((b3.trans (b4.mono b3.size)).mono b2.size)) (by have s2 := b2.size; have s3 := b3.size; have s4 := b4.size; simp only [World.size_alloc] at *; first | omega | exact .inl (Nat.le_refl _)) (by have s2 := b2.size; have s3 := b3.size; have s4 := b4.size; simp only [World.size_alloc] at *; first | omega | exact .inl (Nat.le_refl _)) (by have s2 := b2.size; have s3 := b3.size; have s4 := b4.size; simp only [World.size_alloc] at *; first | omega | exact .inl (Nat.le_refl _))⟩⟩
    · rintro M w2 ⟨g2, C2, g3, C3, g4, C4, hI⟩
      obtain ⟨d', hd'⟩ : ∃ d', d' = inV d q g2 C2 g3 C3 g4 C4 := ⟨_, rfl⟩
      have hbk := hI.bk
      obtain ⟨x2, y2, e2', -, -, -, -, r2⟩ := hI.l.form
      cases e2'
      obtain ⟨x3, y3, e3', -, -, -, -, r3⟩ := hI.o.form
      cases e3'
      obtain ⟨x4, y4, e4', -, -, -, -, r4⟩ := hI.s.form
      cases e4'
      have hD2 : TaskOk w2 d' q := by rw [hd']; exact ⟨r2, r3, r4, rfl, rfl, rfl, by show q.lens.length ≤ _; omega, by show q.worths.length ≤ _; omega, by show q.ws.length ≤ _; omega, hd.n, hd.m, hd.b, hd.iN, hd.iL, hd.iW, hd.iV⟩
      rw [← hd'] at hbk
      have l12 := hI.bel
      have hB2 := hB1.keep l12
      have hb2 := hb1.trans (l12.mono hb1.size)
      refine v_seq ?_
      refine v_region ?_
      refine vl_val (os_loadB Try.underlying44 rfl (by kernel_rfl) rfl hbk) ?_
      refine vl_call (pn_Best d' q w2 hD2) rfl ?_
      rintro v3 w3 ⟨sa, rfl, oa, k3⟩
      refine vl_val (os_move rfl) ?_
      refine vl_val (os_extract rfl rfl) ?_
      refine vl_val (os_extract rfl rfl) ?_
      refine vl_val (os_assign rfl) ?_
      refine vl_val (os_assign rfl) ?_
      refine vl_nil ?_
      refine v_seq ?_
      refine v_region ?_
      refine vl_val (os_loadB Try.underlying44 rfl (by kernel_rfl) rfl (hB2.keep k3)) ?_
      refine vl_call (law13_theirs d w3) rfl ?_
      rintro v4 w4 ⟨rfl, b34⟩
      have k4 := k3.trans (b34.mono k3.size)
      have hb4 := hb2.trans (k4.mono hb2.size)
      refine vl_call (r13_Best d q w4 (hd.keep hb4)) rfl ?_
      rintro v5 w5 ⟨sb, rfl, ob, b45⟩
      have k5 := k4.trans (b45.mono k4.size)
      refine vl_val (os_move rfl) ?_
      refine vl_val (os_extract rfl rfl) ?_
      refine vl_val (os_extract rfl rfl) ?_
      refine vl_val (os_assign rfl) ?_
      refine vl_val (os_assign rfl) ?_
      refine vl_nil ?_
      refine v_seq ?_
      refine v_region ?_
      refine vl_val (os_loadB Try.underlying44 rfl (by kernel_rfl) rfl (hbk.keep k5)) ?_
      refine vl_call (pn_Score d' q w5 (hD2.keep k5)) rfl ?_
      rintro v6 w6 ⟨rfl, b56⟩
      have k6 := k5.trans (b56.mono k5.size)
      refine vl_val (os_move rfl) ?_
      refine vl_val (os_extract rfl rfl) ?_
      refine vl_val (os_extract rfl rfl) ?_
      refine vl_val (os_assign rfl) ?_
      refine vl_val (os_assign rfl) ?_
      refine vl_nil ?_
      refine v_seq ?_
      refine v_region ?_
      refine vl_val (os_loadB Try.underlying44 rfl (by kernel_rfl) rfl (hB2.keep k6)) ?_
      refine vl_call (law13_theirs d w6) rfl ?_
      rintro v7 w7 ⟨rfl, b67⟩
      have k7 := k6.trans (b67.mono k6.size)
      have hb7 := hb2.trans (k7.mono hb2.size)
      refine vl_call (r13_Score d q w7 (hd.keep hb7)) rfl ?_
      rintro v8 w8 ⟨rfl, b78⟩
      have k8 := k7.trans (b78.mono k7.size)
      have c38 : Below w3.heap.size w3 w8 := b34.trans ((b45.trans ((b56.trans ((b67.trans (b78.mono b67.size)).mono b56.size)).mono b45.size)).mono b34.size)
      have c58 : Below w5.heap.size w5 w8 := b56.trans ((b67.trans (b78.mono b67.size)).mono b56.size)
      have hl8 := bestL_len (q := q)
      obtain ⟨Aa, ca, rfl, -, -, ra, -⟩ := OwnK.form oa
      obtain ⟨Ab, cb, rfl, -, -, rb, -⟩ := OwnK.form ob
      have hbk8 := hbk.keep k8
      have hB8 := hB2.keep k8
      have hD8 := hD2.keep k8
      have hb8 := hb2.trans (k8.mono hb2.size)
      have hd8 := hd.keep hb8
      refine vl_val (os_move rfl) ?_
      refine vl_val (os_extract rfl rfl) ?_
      refine vl_val (os_extract rfl rfl) ?_
      refine vl_val (os_assign rfl) ?_
      refine vl_val (os_assign rfl) ?_
      refine vl_nil ?_
      refine v_seq ?_
      refine v_region_t LeG _ mixed (by kernel_rfl) lee_g (leg_start _) ?_
      refine vt_val (fun w hw => os_move rfl) ?_
      refine vt_val (fun w hw => os_move rfl) ?_
      refine vt_val (fun w hw => os_t (os_eql rfl rfl) (rfl)) ?_
      refine vt_val (fun w hw => os_move rfl) ?_
      refine vt_valg rfl (fun w hw => os_move rfl) ?_
      refine vt_valg rfl (fun w hw => os_move rfl) ?_
      refine vt_valg rfl (fun w hw => os_t (os_eql rfl rfl) (rfl)) ?_
      refine vt_val (fun w hw => os_pick_t rfl rfl) ?_
      refine vt_val (fun w hw => os_move rfl) ?_
      refine vt_valg rfl (fun w hw => os_move rfl) ?_
      refine vt_valg rfl (fun w hw => os_move rfl) ?_
      refine vt_valg rfl (fun w hw => os_t (os_eql rfl rfl) (rfl)) ?_
      refine vt_val (fun w hw => os_pick_t rfl rfl) ?_
      refine vt_val (fun w hw => os_move rfl) ?_
      refine vt_valg rfl (fun w hw => os_move rfl) ?_
      refine vt_valg rfl (fun w hw => os_move rfl) ?_
      refine vt_callg rfl (v := .bool true) (fun w hw => (kit_SameInts Aa Ab _ _ ca cb (bestL q) (bestL q) w ((ra.keep c38).keep hw) ((rb.keep c58).keep hw) rfl rfl (by omega) (by omega)).mono fun v w' hh => ⟨by rw [hh.1, decide_eq_true rfl], led_below hh.2⟩) rfl ?_
      refine vt_val (fun w hw => os_pick_t rfl rfl) ?_
      refine vt_val (fun w hw => os_move rfl) ?_
      refine vt_valg rfl (fun w hw => os_loadB Try.underlying44 rfl (by kernel_rfl) rfl (hbk8.keep hw)) ?_
      refine vt_callg rfl (v := _) (fun w hw => pn_Right d' q w (hD8.keep hw)) rfl ?_
      refine vt_valg rfl (fun w hw => os_loadB Try.underlying44 rfl (by kernel_rfl) rfl (hB8.keep hw)) ?_
      refine vt_callg rfl (v := _) (fun w hw => law13_theirs d w) rfl ?_
      refine vt_callg rfl (v := _) (fun w hw => r13_Right d q w (hd8.keep hw)) rfl ?_
      refine vt_valg rfl (fun w hw => os_is (os_eqlb Try.underlying4 rfl rfl) (beq_self_eq_true _)) ?_
      refine vt_val (fun w hw => os_pick_t rfl rfl) ?_
      refine vt_val (fun w hw => os_assign rfl) ?_
      refine vt_nil (fun Hw H => ?_)
      have hbk9 := hbk8.keep H
      have hB9 := hB8.keep H
      have k9 := k8.trans (H.mono k8.size)
      have hb9 := hb8.trans (H.mono hb8.size)
      have hd9 := hd8.keep H
      have cd3 : nthV d'.cells 3 = some (.slice (some ⟨g2, 0, none⟩) q.lens.length C2) := by rw [hd']; rfl
      have cd4 : nthV d'.cells 4 = some (.slice (some ⟨g3, 0, none⟩) q.worths.length C3) := by rw [hd']; rfl
      have cd5 : nthV d'.cells 5 = some (.slice (some ⟨g4, 0, none⟩) q.ws.length C4) := by rw [hd']; rfl
      refine v_seq ?_
      refine v_region ?_
      refine vl_val (os_move rfl) ?_
      refine vl_val (os_move rfl) ?_
      refine vl_valg rfl (os_fa (o := 3) (k := 0) (by kernel_rfl) rfl) ?_
      refine vl_valg rfl (os_load Try.isAgg40 rfl (hbk9.cell (i := 3) cd3)) ?_
      refine vl_valg rfl (os_fa (o := 3) (k := 0) (by kernel_rfl) rfl) ?_
      refine vl_valg rfl (os_load Try.isAgg40 rfl (hB9.cell (i := 3) rfl)) ?_
      refine vl_callg rfl (kit_KeptInts _ _ d.AL d.ll d.lc q.lens Hw (hI.l.keep k9) hd9.L hll (by omega)) rfl ?_
      rintro v10 w10 ⟨rfl, d10⟩
      refine vl_val (os_pick_t rfl rfl) ?_
      refine vl_val (os_move rfl) ?_
      refine vl_valg rfl (os_fa (o := 4) (k := 0) (by kernel_rfl) rfl) ?_
      refine vl_valg rfl (os_load Try.isAgg40 rfl ((hbk9.led d10).cell (i := 4) cd4)) ?_
      refine vl_valg rfl (os_fa (o := 4) (k := 0) (by kernel_rfl) rfl) ?_
      refine vl_valg rfl (os_load Try.isAgg40 rfl ((hB9.led d10).cell (i := 4) rfl)) ?_
      refine vl_callg rfl (kit_KeptInts _ _ d.AW d.wl d.wc q.worths w10 ((hI.o.keep k9).keep (led_below d10)) (hd9.led d10).W hwl (by omega)) rfl ?_
      rintro v11 w11 ⟨rfl, d11⟩
      have d911 := lee_d.trans d10 d11
      refine vl_val (os_pick_t rfl rfl) ?_
      refine vl_val (os_move rfl) ?_
      refine vl_valg rfl (os_fa (o := 5) (k := 0) (by kernel_rfl) rfl) ?_
      refine vl_valg rfl (os_load Try.isAgg40 rfl ((hbk9.led d911).cell (i := 5) cd5)) ?_
      refine vl_valg rfl (os_fa (o := 5) (k := 0) (by kernel_rfl) rfl) ?_
      refine vl_valg rfl (os_load Try.isAgg40 rfl ((hB9.led d911).cell (i := 5) rfl)) ?_
      refine vl_callg rfl (kit_KeptInts _ _ d.AV d.vl d.vc q.ws w11 ((hI.s.keep k9).keep (led_below d911)) (hd9.led d911).V hvl (by omega)) rfl ?_
      rintro v12 w12 ⟨rfl, d12⟩
      have d912 := lee_d.trans d911 d12
      have e912 : Below Hw.heap.size Hw w12 := led_below d912
      have k12 := k9.trans (e912.mono k9.size)
      refine vl_val (os_pick_t rfl rfl) ?_
      refine vl_val (os_move rfl) ?_
      refine vl_valg rfl (os_fa (o := 3) (k := 0) (by kernel_rfl) rfl) ?_
      refine vl_valg rfl (os_load Try.isAgg40 rfl ((hbk9.led d912).cell (i := 3) cd3)) ?_
      refine vl_valg rfl (os_fa (o := 4) (k := 0) (by kernel_rfl) rfl) ?_
      refine vl_valg rfl (os_load Try.isAgg40 rfl ((hbk9.led d912).cell (i := 4) cd4)) ?_
      refine vl_valg rfl (os_fa (o := 5) (k := 0) (by kernel_rfl) rfl) ?_
      refine vl_valg rfl (os_load Try.isAgg40 rfl ((hbk9.led d912).cell (i := 5) cd5)) ?_
      refine vl_valg rfl (os_move rfl) ?_
      refine vl_someg rfl (ot_litU [.slice (some ⟨g2, 0, none⟩) q.lens.length C2, .slice (some ⟨g3, 0, none⟩) q.worths.length C3, .slice (some ⟨g4, 0, none⟩) q.ws.length C4, .slice Aa (bestL q).length ca] Try.underlying59 Try.sizeOf40 Try.zeroValue40 rfl rfl rfl rfl (by decide)) ?_
      rintro v13 w13 ⟨rfl, o13, z13, b13⟩
      have k13 := k12.trans (b13.mono k12.size)
      have c313 : Below w3.heap.size w3 w13 := c38.trans ((H.trans ((e912.trans (b13.mono e912.size)).mono H.size)).mono c38.size)
      obtain ⟨dL, hdL, odL⟩ : ∃ ds : List Value, ds.length = q.lens.length ∧ Own w13 w1.heap.size 3 (.slice (some ⟨g2, 0, none⟩) q.lens.length C2) ds := by
        obtain ⟨g', C', e', hc', ho'⟩ := hI.l.keep k13
        cases e'
        exact Own.partI ho' (by omega)
      obtain ⟨dW, hdW, odW⟩ : ∃ ds : List Value, ds.length = q.worths.length ∧ Own w13 w1.heap.size 3 (.slice (some ⟨g3, 0, none⟩) q.worths.length C3) ds := by
        obtain ⟨g', C', e', hc', ho'⟩ := hI.o.keep k13
        cases e'
        exact Own.partI ho' (by omega)
      obtain ⟨dV, hdV, odV⟩ : ∃ ds : List Value, ds.length = q.ws.length ∧ Own w13 w1.heap.size 3 (.slice (some ⟨g4, 0, none⟩) q.ws.length C4) ds := by
        obtain ⟨g', C', e', hc', ho'⟩ := hI.s.keep k13
        cases e'
        exact Own.partI ho' (by omega)
      have l12s := l12.size
      have hown := pl_all4 (P := fun j v => Own w13 w1.heap.size 3 v ([dL, dW, dV, (bestL q).map (Value.int .i64)].getD j [])) odL odW odV ((Own.keepAll oa c313).mono l12s)
      have xg : ∀ (g n C x : Nat), (Value.slice (some ⟨g, 0, none⟩) n C).ownBlock = some x → x = g := fun g n C x hx => by simpa [Value.ownBlock] using hx.symm
      have xa : ∀ x, (Value.slice Aa (bestL q).length ca).ownBlock = some x → w2.heap.size ≤ x := fun x hx => (World.ownsRow.lt oa x hx).1
      have n2 := (Lent.blkI hI.l).2
      have n3 := (Lent.blkI hI.o).2
      have n4 := (Lent.blkI hI.s).2
      have hne := hI.ne
      refine vl_callg rfl (kit_ApartInts (some ⟨w12.heap.size, 0, none⟩) 4 4 w1.heap.size _ (fun j => ([dL, dW, dV, (bestL q).map (Value.int .i64)].getD j []).length) (fun j => [dL, dW, dV, (bestL q).map (Value.int .i64)].getD j []) w13 o13.rdc' rfl (by omega) hown (pl_sep4 (fun x h1 h2 => by have := xg _ _ _ _ h1; have := xg _ _ _ _ h2; omega) (fun x h1 h2 => by have := xg _ _ _ _ h1; have := xg _ _ _ _ h2; omega) (fun x h1 h2 => by have := xg _ _ _ _ h1; have := xa _ h2; omega) (fun x h1 h2 => by have := xg _ _ _ _ h1; have := xg _ _ _ _ h2; omega) (fun x h1 h2 => by have := xg _ _ _ _ h1; have := xa _ h2; omega) (fun x h1 h2 => by have := xg _ _ _ _ h1; have := xa _ h2; omega)) (fun j _ => rfl) (pl_nat4 (by simp [hdL]; omega) (by simp [hdW]; omega) (by simp [hdV]; omega) (by simp; omega)) (by have := k13.size; omega)) rfl ?_
      rintro v14 w14 ⟨rfl, kb14⟩
      have f13 : Below w1.heap.size w1 w13 := l12.trans (k13.mono l12s)
      have f14 : Below w1.heap.size w1 w14 := kb14.below f13 (own_low hown) f13.size
      have fw14 := hb1.trans (f14.mono hb1.size)
      refine vl_val (os_pick_t rfl rfl) ?_
      refine vl_val (os_move rfl) ?_
      refine vl_callg rfl (law13_awake w14) rfl ?_
      rintro v15 w15 ⟨rfl, b15⟩
      refine vl_val (os_pick_t rfl rfl) ?_
      refine vl_val (os_assign rfl) ?_
      refine vl_nil ?_
      refine v_ret ?_
      exact post_ret rfl rfl (⟨rfl, fw14.trans (b15.mono fw14.size)⟩)
end Go.Proofs.Ytpojijnjdlnokaa
