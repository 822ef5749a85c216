/- The law's kit: whether lists of uint8 lie apart. -/
import Derived.Test.YtpojijnjdlnokaaFlE
namespace Go.Proofs.Ytpojijnjdlnokaa
open Go.RowKit
set_option linter.unusedVariables false
/-- the bag's cells -/
def bagBytes (v : Value) : List Value := [.slice none 0 0, .slice none 0 0, .slice none 0 0, .slice none 0 0, .slice none 0 0, v, .slice none 0 0, .slice none 0 0, .slice none 0 0, .slice none 0 0, .slice none 0 0, .slice none 0 0, .slice none 0 0]
set_option maxHeartbeats 1000000 in
theorem kit_putBytes (g B : Nat) (v : Value) (Al : Option Addr) (nl cl : Nat) (ss : List Value) (w : World) (hB : Bk w g (bagBytes v) 122) (ho : Own w B 22 v ss) (hg : v.ownBlock ≠ some g) (hn : ss.length ≤ 100000) (hz : B ≤ w.heap.size) (hgB : B ≤ g) :
    Gives Try.prog 97 #[.pointer (some ⟨g, 0, none⟩), .slice Al nl cl] w fun u w' => ∃ v', Bk w' g (bagBytes v') 122 ∧ Own w' B 22 v' (ss ++ [.slice Al nl cl]) ∧ v'.ownBlock ≠ some g ∧ Below B w w' := by
  have hlt := hB.lt
  refine gives_enter Try.call97 Try.func97 rfl rfl rfl (by kernel_rfl) ?_
  refine v_region ?_
  refine vl_val (os_move rfl) ?_
  refine vl_val (os_move rfl) ?_
  refine vl_val (os_nilCheck rfl) ?_
  refine vl_val (os_fa (o := 5) (k := 0) (by kernel_rfl) rfl) ?_
  refine vl_val (os_load Try.isAgg23 rfl (Bk.cell (i := 5) hB rfl)) ?_
  refine vl_val (os_move rfl) ?_
  refine vl_val (os_lit Try.underlying23 Try.sizeOf22 Try.zeroValue22 rfl rfl rfl rfl (by decide)) ?_
  refine vl_some (ot_append_at Try.underlying23 ti_lBytes rfl rfl rfl (Own.alloc ho _) (rdc_alloc w [.slice Al nl cl] _) rfl (by intro u hu; rw [List.mem_singleton.1 hu]; rfl) (by omega) (by simp [maxLen]; omega) (by simp; omega)) ?_
  rintro v1 w1 ⟨ho1, hg1, ha1⟩
  obtain ⟨A1, c1, rfl, -⟩ := Own.form ho1
  have hne1 : (Value.slice A1 _ c1).ownBlock ≠ some g := fun e => by
    rcases ha1 with h6 | h6
    · rw [h6] at e; exact hg e
    · rw [h6] at e; simp at e; omega
  have hB1 := Bk.grown (Bk.alloc hB _) hg1 (fun e => hg e.symm)
  refine vl_val (os_nilCheck rfl) ?_
  refine vl_val (os_fa (o := 5) (k := 0) (by kernel_rfl) rfl) ?_
  refine vl_unit (ou_store Try.sizeOf23 rfl rfl rfl (Bk.cell (i := 5) hB1 rfl) (Bk.free hB1 _)) ?_
  refine vl_nil ?_
  exact post_end0 rfl (⟨_, Bk.set hB1 5 _, Own.setOther ho1 (fun g' e e2 => hne1 (by rw [e, e2])) _ _, hne1, below_set ((((Below.refl w.heap.size w).alloc (Nat.le_refl _) _).mono hz).trans ((Below.refl _ _).grown hg1 (by simp; omega) (fun k hk => (World.ownsRow.lt ho k hk).1))) hgB _ _⟩)

set_option maxHeartbeats 2000000 in
theorem kit_apartBytes (g : Nat) (A : Option Addr) (N cA B : Nat) (S : List Nat) (ss : List Value) (lab : Nat → Nat) (nn : Nat → Nat) (c0 d0 : Nat → List Value) (Hw : World) (hF : Fl Hw B 5 22 S A ss lab c0 (.slice none 0 0) [] 0 d0 Hw) (hN : ss.length = N) (hN1 : N ≤ 100000)
    (hn0 : ∀ j, j < N → (c0 j).length = nn j) (hn1 : ∀ j, j < N → nn j ≤ 1000000000) (hB : Bk Hw g (bagBytes (.slice A N cA)) 122) (hS : g ∉ S) :
    Gives Try.prog 74 #[.pointer (some ⟨g, 0, none⟩)] Hw fun v w' => v = .bool true ∧ Kb S Hw w' := by
  have hb := Below.refl Hw.heap.size Hw
  have hBw := hB
  refine gives_enter Try.call74 Try.func74 rfl rfl rfl (by kernel_rfl) ?_
  refine v_seq ?_
  refine v_region ?_
  refine vl_val (os_assign rfl) ?_
  refine vl_nil ?_
  refine v_seq ?_
  refine v_region ?_
  refine vl_val (os_move rfl) ?_
  refine vl_val (os_nilCheck rfl) ?_
  refine vl_val (os_fa (o := 0) (k := 0) (by kernel_rfl) rfl) ?_
  refine vl_val (os_load Try.isAgg110 rfl (Bk.cell (i := 0) hB rfl)) ?_
  refine vl_call (kit_noneLimbs _) rfl ?_
  rintro v1 w1 ⟨rfl, hb1⟩
  have hb := hb.trans (hb1.mono hb.size)
  have hB := hB.keep hb1
  clear hb1
  refine vl_val (os_move rfl) ?_
  refine vl_valg rfl (os_move rfl) ?_
  refine vl_valg rfl (os_nilCheck rfl) ?_
  refine vl_valg rfl (os_fa (o := 1) (k := 0) (by kernel_rfl) rfl) ?_
  refine vl_valg rfl (os_load Try.isAgg111 rfl (Bk.cell (i := 1) hB rfl)) ?_
  refine vl_callg rfl (kit_noneWords _) rfl ?_
  rintro v1 w1 ⟨rfl, hb1⟩
  have hb := hb.trans (hb1.mono hb.size)
  have hB := hB.keep hb1
  clear hb1
  refine vl_val (os_pick_t rfl rfl) ?_
  refine vl_val (os_move rfl) ?_
  refine vl_valg rfl (os_move rfl) ?_
  refine vl_valg rfl (os_nilCheck rfl) ?_
  refine vl_valg rfl (os_fa (o := 2) (k := 0) (by kernel_rfl) rfl) ?_
  refine vl_valg rfl (os_load Try.isAgg59 rfl (Bk.cell (i := 2) hB rfl)) ?_
  refine vl_callg rfl (kit_noneInts _) rfl ?_
  rintro v1 w1 ⟨rfl, hb1⟩
  have hb := hb.trans (hb1.mono hb.size)
  have hB := hB.keep hb1
  clear hb1
  refine vl_val (os_pick_t rfl rfl) ?_
  refine vl_val (os_move rfl) ?_
  refine vl_valg rfl (os_move rfl) ?_
  refine vl_valg rfl (os_nilCheck rfl) ?_
  refine vl_valg rfl (os_fa (o := 3) (k := 0) (by kernel_rfl) rfl) ?_
  refine vl_valg rfl (os_load Try.isAgg112 rfl (Bk.cell (i := 3) hB rfl)) ?_
  refine vl_callg rfl (kit_noneLongs _) rfl ?_
  rintro v1 w1 ⟨rfl, hb1⟩
  have hb := hb.trans (hb1.mono hb.size)
  have hB := hB.keep hb1
  clear hb1
  refine vl_val (os_pick_t rfl rfl) ?_
  refine vl_val (os_move rfl) ?_
  refine vl_valg rfl (os_move rfl) ?_
  refine vl_valg rfl (os_nilCheck rfl) ?_
  refine vl_valg rfl (os_fa (o := 4) (k := 0) (by kernel_rfl) rfl) ?_
  refine vl_valg rfl (os_load Try.isAgg113 rfl (Bk.cell (i := 4) hB rfl)) ?_
  refine vl_callg rfl (kit_noneTexts _) rfl ?_
  rintro v1 w1 ⟨rfl, hb1⟩
  have hb := hb.trans (hb1.mono hb.size)
  have hB := hB.keep hb1
  clear hb1
  refine vl_val (os_pick_t rfl rfl) ?_
  refine vl_val (os_move rfl) ?_
  refine vl_valg rfl (os_move rfl) ?_
  refine vl_valg rfl (os_nilCheck rfl) ?_
  refine vl_valg rfl (os_fa (o := 5) (k := 0) (by kernel_rfl) rfl) ?_
  refine vl_valg rfl (os_load Try.isAgg23 rfl (Bk.cell (i := 5) hB rfl)) ?_
  refine vl_callg rfl (kit_flatBytes A N cA B S ss lab nn c0 d0 Hw _ (hF.below hb) hN hN1 hn0 hn1) rfl ?_
  rintro v1 w1 ⟨rfl, hk1⟩
  have hkb : Kb S Hw w1 := hk1
  clear hb
  have hB := hBw.kb hk1 hS
  refine vl_val (os_pick_t rfl rfl) ?_
  refine vl_val (os_move rfl) ?_
  refine vl_valg rfl (os_move rfl) ?_
  refine vl_valg rfl (os_nilCheck rfl) ?_
  refine vl_valg rfl (os_fa (o := 6) (k := 0) (by kernel_rfl) rfl) ?_
  refine vl_valg rfl (os_load Try.isAgg114 rfl (Bk.cell (i := 6) hB rfl)) ?_
  refine vl_callg rfl (kit_noneTruths _) rfl ?_
  rintro v1 w1 ⟨rfl, hb1⟩
  have hkb := hkb.trans (Kb.of_below (S := []) hb1) (fun k hk => by cases hk)
  have hB := hB.keep hb1
  clear hb1
  refine vl_val (os_pick_t rfl rfl) ?_
  refine vl_val (os_move rfl) ?_
  refine vl_valg rfl (os_move rfl) ?_
  refine vl_valg rfl (os_nilCheck rfl) ?_
  refine vl_valg rfl (os_fa (o := 7) (k := 0) (by kernel_rfl) rfl) ?_
  refine vl_valg rfl (os_load Try.isAgg115 rfl (Bk.cell (i := 7) hB rfl)) ?_
  refine vl_callg rfl (kit_noneLayers _) rfl ?_
  rintro v1 w1 ⟨rfl, hb1⟩
  have hkb := hkb.trans (Kb.of_below (S := []) hb1) (fun k hk => by cases hk)
  have hB := hB.keep hb1
  clear hb1
  refine vl_val (os_pick_t rfl rfl) ?_
  refine vl_val (os_move rfl) ?_
  refine vl_valg rfl (os_move rfl) ?_
  refine vl_valg rfl (os_nilCheck rfl) ?_
  refine vl_valg rfl (os_fa (o := 8) (k := 0) (by kernel_rfl) rfl) ?_
  refine vl_valg rfl (os_load Try.isAgg116 rfl (Bk.cell (i := 8) hB rfl)) ?_
  refine vl_callg rfl (kit_noneTable _) rfl ?_
  rintro v1 w1 ⟨rfl, hb1⟩
  have hkb := hkb.trans (Kb.of_below (S := []) hb1) (fun k hk => by cases hk)
  have hB := hB.keep hb1
  clear hb1
  refine vl_val (os_pick_t rfl rfl) ?_
  refine vl_val (os_move rfl) ?_
  refine vl_valg rfl (os_move rfl) ?_
  refine vl_valg rfl (os_nilCheck rfl) ?_
  refine vl_valg rfl (os_fa (o := 9) (k := 0) (by kernel_rfl) rfl) ?_
  refine vl_valg rfl (os_load Try.isAgg117 rfl (Bk.cell (i := 9) hB rfl)) ?_
  refine vl_callg rfl (kit_noneHeads _) rfl ?_
  rintro v1 w1 ⟨rfl, hb1⟩
  have hkb := hkb.trans (Kb.of_below (S := []) hb1) (fun k hk => by cases hk)
  have hB := hB.keep hb1
  clear hb1
  refine vl_val (os_pick_t rfl rfl) ?_
  refine vl_val (os_move rfl) ?_
  refine vl_valg rfl (os_move rfl) ?_
  refine vl_valg rfl (os_nilCheck rfl) ?_
  refine vl_valg rfl (os_fa (o := 10) (k := 0) (by kernel_rfl) rfl) ?_
  refine vl_valg rfl (os_load Try.isAgg118 rfl (Bk.cell (i := 10) hB rfl)) ?_
  refine vl_callg rfl (kit_noneCounts _) rfl ?_
  rintro v1 w1 ⟨rfl, hb1⟩
  have hkb := hkb.trans (Kb.of_below (S := []) hb1) (fun k hk => by cases hk)
  have hB := hB.keep hb1
  clear hb1
  refine vl_val (os_pick_t rfl rfl) ?_
  refine vl_val (os_move rfl) ?_
  refine vl_valg rfl (os_move rfl) ?_
  refine vl_valg rfl (os_nilCheck rfl) ?_
  refine vl_valg rfl (os_fa (o := 11) (k := 0) (by kernel_rfl) rfl) ?_
  refine vl_valg rfl (os_load Try.isAgg119 rfl (Bk.cell (i := 11) hB rfl)) ?_
  refine vl_callg rfl (kit_noneNotes _) rfl ?_
  rintro v1 w1 ⟨rfl, hb1⟩
  have hkb := hkb.trans (Kb.of_below (S := []) hb1) (fun k hk => by cases hk)
  have hB := hB.keep hb1
  clear hb1
  refine vl_val (os_pick_t rfl rfl) ?_
  refine vl_val (os_move rfl) ?_
  refine vl_valg rfl (os_move rfl) ?_
  refine vl_valg rfl (os_nilCheck rfl) ?_
  refine vl_valg rfl (os_fa (o := 12) (k := 0) (by kernel_rfl) rfl) ?_
  refine vl_valg rfl (os_load Try.isAgg120 rfl (Bk.cell (i := 12) hB rfl)) ?_
  refine vl_callg rfl (kit_noneFates _) rfl ?_
  rintro v1 w1 ⟨rfl, hb1⟩
  have hkb := hkb.trans (Kb.of_below (S := []) hb1) (fun k hk => by cases hk)
  have hB := hB.keep hb1
  clear hb1
  refine vl_val (os_pick_t rfl rfl) ?_
  refine vl_val (os_assign rfl) ?_
  refine vl_nil ?_
  refine v_ret ?_
  exact post_ret rfl rfl (⟨rfl, hkb⟩)

set_option maxHeartbeats 2000000 in
theorem kit_ApartBytes (A : Option Addr) (N cA B : Nat) (ss : List Value) (nn : Nat → Nat) (cc : Nat → List Value) (w : World) (hr : RdC w A ss) (hN : ss.length = N) (hN1 : N ≤ 100000) (ho : ∀ (j : Nat) (v : Value), ss[j]? = some v → Own w B 5 v (cc j))
    (hs : ∀ (i j : Nat) (v u : Value), ss[i]? = some v → ss[j]? = some u → i < j → sep v u) (hn0 : ∀ j, j < N → (cc j).length = nn j) (hn1 : ∀ j, j < N → nn j ≤ 1000000000) (hB : B ≤ w.heap.size) :
    Gives Try.prog 56 #[.slice A N cA] w fun v w' => v = .bool true ∧ Kb (ss.filterMap Value.ownBlock) w w' := by
  refine gives_enter Try.call56 Try.func56 rfl rfl rfl (by kernel_rfl) ?_
  refine v_seq ?_
  refine v_region ?_
  refine vl_val (os_assign rfl) ?_
  refine vl_nil ?_
  refine v_seq ?_
  refine v_region ?_
  refine vl_val (os_build (cs := [.slice none 0 0, .slice none 0 0, .slice none 0 0, .slice none 0 0, .slice none 0 0, .slice none 0 0, .slice none 0 0, .slice none 0 0, .slice none 0 0, .slice none 0 0, .slice none 0 0, .slice none 0 0, .slice none 0 0]) rfl (by kernel_rfl)) ?_
  have hB0 := bk_new w (bagBytes (.slice none 0 0)) 122
  refine vl_val (os_box rfl) ?_
  refine vl_val (os_assign rfl) ?_
  refine vl_nil ?_
  refine v_seq ?_
  refine v_seq ?_
  refine v_region ?_
  refine vl_val (os_assign rfl) ?_
  refine vl_nil ?_
  refine v_block ?_
  refine v_loop [(0, _), (3, _)] (fun (k : Nat) => [(4, .int .i64 k)]) (fun k w' => k ≤ N ∧ ∃ v, Bk w' w.heap.size (bagBytes v) 122 ∧ Own w' w.heap.size 22 v (ss.take k) ∧ v.ownBlock ≠ some w.heap.size ∧ Below w.heap.size w w') (fun k => N - k) (0) ⟨rfl, rfl, trivial⟩ ⟨rfl, trivial⟩ (⟨by omega, .slice none 0 0, hB0, by rw [List.take_zero]; exact Own.nil _ _ _, by simp [Value.ownBlock], (Below.refl _ _).alloc (Nat.le_refl _) _⟩) ?_
  rintro k w' ⟨hk, v, hB1, ho1, hne, hb⟩
  refine v_seq ?_
  refine v_seq ?_
  refine v_region ?_
  refine vl_val (os_move rfl) ?_
  refine vl_val (os_move rfl) ?_
  refine vl_val (os_len Try.underlying23 rfl) ?_
  refine vl_val (os_lss rfl rfl) ?_
  refine vl_nil ?_
  refine v_cond_d rfl (fun h => ?_) (fun h => ?_)
  · obtain ⟨u, hu⟩ : ∃ u, ss[k]? = some u := ⟨ss[k]'(by omega), List.getElem?_eq_getElem (by omega)⟩
    obtain ⟨A1, c1, rfl, -⟩ := Own.form (ho k _ hu)
    obtain ⟨bA, oA, rfl, -⟩ := hr (by omega)
    refine v_skip ?_
    refine v_seq ?_
    refine v_block ?_
    refine v_region ?_
    refine vl_val (os_move rfl) ?_
    refine vl_val (os_move rfl) ?_
    refine vl_val (os_move rfl) ?_
    refine vl_val (os_ix Try.underlying23 Try.sizeOf22 rfl rfl (i := k) (by omega) (by omega)) ?_
    refine vl_val (os_load Try.isAgg22 rfl ((hr.keep hb).get hu)) ?_
    refine vl_call (kit_putBytes _ w.heap.size v _ _ _ (ss.take k) w' hB1 ho1 hne (by rw [List.length_take]; omega) hb.size (Nat.le_refl _)) rfl ?_
    rintro u2 w2 ⟨v2, hB2, ho2, hne2, hb2⟩
    refine vl_nil ?_
    refine v_region ?_
    refine vl_val (os_move rfl) ?_
    refine vl_val (os_addi rfl rfl (by omega)) ?_
    refine vl_val (os_assign rfl) ?_
    refine vl_nil ?_
    exact ⟨k + 1, ⟨rfl, rfl, trivial⟩, ⟨rfl, trivial⟩, ⟨by omega, v2, hB2, by rw [List.take_add_one, hu]; exact ho2, hne2, hb.trans hb2⟩, by dsimp only; omega⟩
  · obtain rfl : N = k := by omega
    rw [List.take_of_length_le (by omega)] at ho1
    obtain ⟨A1, c1, rfl, -, -, hr1, hA1⟩ := Own.form ho1
    have hS : ∀ b ∈ ss.filterMap Value.ownBlock, b < w.heap.size := fun b hb => by
      obtain ⟨x, hx, hxb⟩ := List.mem_filterMap.1 hb
      obtain ⟨j, hj⟩ := List.mem_iff_getElem?.1 hx
      exact (World.ownsRow.lt (ho j x hj) b hxb).2
    have hlt : ∀ (j : Nat) (x : Value) (b : Nat), ss[j]? = some x → x.ownBlock = some b → b < w.heap.size := fun j x b hj hxb => (World.ownsRow.lt (ho j x hj) b hxb).2
    obtain ⟨lab, hF⟩ := Fl.init (tt := 22) (dd := fun _ => []) (Nat.le_trans hB hb.size) hr1 (fun j x hj => (ho j x hj).keepAll hb) hs (fun b o e => ⟨(hA1 b o e).2.2, fun j x hj hxb => by have h1 := hlt j x b hj hxb; have h2 := (hA1 b o e).1; omega⟩)
    subst hN
    refine v_exit ?_
    refine v_seq ?_
    refine v_region ?_
    refine vl_val (os_move rfl) ?_
    refine vl_call (kit_apartBytes _ A1 _ c1 B _ ss lab nn cc (fun _ => []) w' hF rfl hN1 hn0 hn1 hB1 (fun hh => by have := hS _ hh; omega)) rfl ?_
    rintro u2 w2 ⟨rfl, hk2⟩
    refine vl_val (os_assign rfl) ?_
    refine vl_nil ?_
    refine v_ret ?_
    exact post_ret rfl rfl (⟨rfl, (Kb.of_below hb).trans hk2 (fun b hb => .inl hb)⟩)

end Go.Proofs.Ytpojijnjdlnokaa
