/- Texts joined: FlEI PlN. -/
import Derived.Test.YtpojijnjdlnokaaM20
/- The law's kit: whether lists of int lie apart. -/
namespace Go.Proofs.Ytpojijnjdlnokaa
open Go.RowKit
set_option linter.unusedVariables false
/-- the bag's cells -/
def bagInts (v : Value) : List Value := [.slice none 0 0, .slice none 0 0, v, .slice none 0 0, .slice none 0 0, .slice none 0 0, .slice none 0 0, .slice none 0 0, .slice none 0 0, .slice none 0 0, .slice none 0 0, .slice none 0 0, .slice none 0 0]
set_option maxHeartbeats 1000000 in
theorem kit_putInts (g B : Nat) (v : Value) (Al : Option Addr) (nl cl : Nat) (ss : List Value) (w : World) (hB : Bk w g (bagInts v) 122) (ho : Own w B 40 v ss) (hg : v.ownBlock ≠ some g) (hn : ss.length ≤ 100000) (hz : B ≤ w.heap.size) (hgB : B ≤ g) :
    Gives Try.prog 73 #[.pointer (some ⟨g, 0, none⟩), .slice Al nl cl] w fun u w' => ∃ v', Bk w' g (bagInts v') 122 ∧ Own w' B 40 v' (ss ++ [.slice Al nl cl]) ∧ v'.ownBlock ≠ some g ∧ Below B w w' := by
  have hlt := hB.lt
  refine gives_enter Try.call73 Try.func73 rfl rfl rfl (by kernel_rfl) ?_
  refine v_region ?_
  refine vl_val (os_move rfl) ?_
  refine vl_val (os_move rfl) ?_
  refine vl_val (os_nilCheck rfl) ?_
  refine vl_val (os_fa (o := 2) (k := 0) (by kernel_rfl) rfl) ?_
  refine vl_val (os_load Try.isAgg59 rfl (Bk.cell (i := 2) hB rfl)) ?_
  refine vl_val (os_move rfl) ?_
  refine vl_val (os_lit Try.underlying59 Try.sizeOf40 Try.zeroValue40 rfl rfl rfl rfl (by decide)) ?_
  refine vl_some (ot_append_at Try.underlying59 ti_lInts rfl rfl rfl (Own.alloc ho _) (rdc_alloc w [.slice Al nl cl] _) rfl (by intro u hu; rw [List.mem_singleton.1 hu]; rfl) (by omega) (by simp [maxLen]; omega) (by simp; omega)) ?_
  rintro v1 w1 ⟨ho1, hg1, ha1⟩
  obtain ⟨A1, c1, rfl, -⟩ := Own.form ho1
  have hne1 : (Value.slice A1 _ c1).ownBlock ≠ some g := fun e => by
    rcases ha1 with h6 | h6
    · rw [h6] at e; exact hg e
    · rw [h6] at e; simp at e; omega
  have hB1 := Bk.grown (Bk.alloc hB _) hg1 (fun e => hg e.symm)
  refine vl_val (os_nilCheck rfl) ?_
  refine vl_val (os_fa (o := 2) (k := 0) (by kernel_rfl) rfl) ?_
  refine vl_unit (ou_store Try.sizeOf59 rfl rfl rfl (Bk.cell (i := 2) hB1 rfl) (Bk.free hB1 _)) ?_
  refine vl_nil ?_
  exact post_end0 rfl (⟨_, Bk.set hB1 2 _, Own.setOther ho1 (fun g' e e2 => hne1 (by rw [e, e2])) _ _, hne1, below_set ((((Below.refl w.heap.size w).alloc (Nat.le_refl _) _).mono hz).trans ((Below.refl _ _).grown hg1 (by simp; omega) (fun k hk => (World.ownsRow.lt ho k hk).1))) hgB _ _⟩)

set_option maxHeartbeats 2000000 in
theorem kit_apartInts (g : Nat) (A : Option Addr) (N cA B : Nat) (S : List Nat) (ss : List Value) (lab : Nat → Nat) (nn : Nat → Nat) (c0 d0 : Nat → List Value) (Hw : World) (hF : Fl Hw B 3 40 S A ss lab c0 (.slice none 0 0) [] 0 d0 Hw) (hN : ss.length = N) (hN1 : N ≤ 100000)
    (hn0 : ∀ j, j < N → (c0 j).length = nn j) (hn1 : ∀ j, j < N → nn j ≤ 1000000000) (hB : Bk Hw g (bagInts (.slice A N cA)) 122) (hS : g ∉ S) :
    Gives Try.prog 74 #[.pointer (some ⟨g, 0, none⟩)] Hw fun v w' => v = .bool true ∧ Kb S Hw w' := by
  have hb := Below.refl Hw.heap.size Hw
  have hBw := hB
  refine gives_enter Try.call74 Try.func74 rfl rfl rfl (by kernel_rfl) ?_
  refine v_seq ?_
  refine v_region ?_
  refine vl_val (os_assign rfl) ?_
  refine vl_nil ?_
  refine v_seq ?_
  refine v_region ?_
  refine vl_val (os_move rfl) ?_
  refine vl_val (os_nilCheck rfl) ?_
  refine vl_val (os_fa (o := 0) (k := 0) (by kernel_rfl) rfl) ?_
  refine vl_val (os_load Try.isAgg110 rfl (Bk.cell (i := 0) hB rfl)) ?_
  refine vl_call (kit_noneLimbs _) rfl ?_
  rintro v1 w1 ⟨rfl, hb1⟩
  have hb := hb.trans (hb1.mono hb.size)
  have hB := hB.keep hb1
  clear hb1
  refine vl_val (os_move rfl) ?_
  refine vl_valg rfl (os_move rfl) ?_
  refine vl_valg rfl (os_nilCheck rfl) ?_
  refine vl_valg rfl (os_fa (o := 1) (k := 0) (by kernel_rfl) rfl) ?_
  refine vl_valg rfl (os_load Try.isAgg111 rfl (Bk.cell (i := 1) hB rfl)) ?_
  refine vl_callg rfl (kit_noneWords _) rfl ?_
  rintro v1 w1 ⟨rfl, hb1⟩
  have hb := hb.trans (hb1.mono hb.size)
  have hB := hB.keep hb1
  clear hb1
  refine vl_val (os_pick_t rfl rfl) ?_
  refine vl_val (os_move rfl) ?_
  refine vl_valg rfl (os_move rfl) ?_
  refine vl_valg rfl (os_nilCheck rfl) ?_
  refine vl_valg rfl (os_fa (o := 2) (k := 0) (by kernel_rfl) rfl) ?_
  refine vl_valg rfl (os_load Try.isAgg59 rfl (Bk.cell (i := 2) hB rfl)) ?_
  refine vl_callg rfl (kit_flatInts A N cA B S ss lab nn c0 d0 Hw _ (hF.below hb) hN hN1 hn0 hn1) rfl ?_
  rintro v1 w1 ⟨rfl, hk1⟩
  have hkb : Kb S Hw w1 := hk1
  clear hb
  have hB := hBw.kb hk1 hS
  refine vl_val (os_pick_t rfl rfl) ?_
  refine vl_val (os_move rfl) ?_
  refine vl_valg rfl (os_move rfl) ?_
  refine vl_valg rfl (os_nilCheck rfl) ?_
  refine vl_valg rfl (os_fa (o := 3) (k := 0) (by kernel_rfl) rfl) ?_
  refine vl_valg rfl (os_load Try.isAgg112 rfl (Bk.cell (i := 3) hB rfl)) ?_
  refine vl_callg rfl (kit_noneLongs _) rfl ?_
  rintro v1 w1 ⟨rfl, hb1⟩
  have hkb := hkb.trans (Kb.of_below (S := []) hb1) (fun k hk => by cases hk)
  have hB := hB.keep hb1
  clear hb1
  refine vl_val (os_pick_t rfl rfl) ?_
  refine vl_val (os_move rfl) ?_
  refine vl_valg rfl (os_move rfl) ?_
  refine vl_valg rfl (os_nilCheck rfl) ?_
  refine vl_valg rfl (os_fa (o := 4) (k := 0) (by kernel_rfl) rfl) ?_
  refine vl_valg rfl (os_load Try.isAgg113 rfl (Bk.cell (i := 4) hB rfl)) ?_
  refine vl_callg rfl (kit_noneTexts _) rfl ?_
  rintro v1 w1 ⟨rfl, hb1⟩
  have hkb := hkb.trans (Kb.of_below (S := []) hb1) (fun k hk => by cases hk)
  have hB := hB.keep hb1
  clear hb1
  refine vl_val (os_pick_t rfl rfl) ?_
  refine vl_val (os_move rfl) ?_
  refine vl_valg rfl (os_move rfl) ?_
  refine vl_valg rfl (os_nilCheck rfl) ?_
  refine vl_valg rfl (os_fa (o := 5) (k := 0) (by kernel_rfl) rfl) ?_
  refine vl_valg rfl (os_load Try.isAgg23 rfl (Bk.cell (i := 5) hB rfl)) ?_
  refine vl_callg rfl (kit_noneBytes _) rfl ?_
  rintro v1 w1 ⟨rfl, hb1⟩
  have hkb := hkb.trans (Kb.of_below (S := []) hb1) (fun k hk => by cases hk)
  have hB := hB.keep hb1
  clear hb1
  refine vl_val (os_pick_t rfl rfl) ?_
  refine vl_val (os_move rfl) ?_
  refine vl_valg rfl (os_move rfl) ?_
  refine vl_valg rfl (os_nilCheck rfl) ?_
  refine vl_valg rfl (os_fa (o := 6) (k := 0) (by kernel_rfl) rfl) ?_
  refine vl_valg rfl (os_load Try.isAgg114 rfl (Bk.cell (i := 6) hB rfl)) ?_
  refine vl_callg rfl (kit_noneTruths _) rfl ?_
  rintro v1 w1 ⟨rfl, hb1⟩
  have hkb := hkb.trans (Kb.of_below (S := []) hb1) (fun k hk => by cases hk)
  have hB := hB.keep hb1
  clear hb1
  refine vl_val (os_pick_t rfl rfl) ?_
  refine vl_val (os_move rfl) ?_
  refine vl_valg rfl (os_move rfl) ?_
  refine vl_valg rfl (os_nilCheck rfl) ?_
  refine vl_valg rfl (os_fa (o := 7) (k := 0) (by kernel_rfl) rfl) ?_
  refine vl_valg rfl (os_load Try.isAgg115 rfl (Bk.cell (i := 7) hB rfl)) ?_
  refine vl_callg rfl (kit_noneLayers _) rfl ?_
  rintro v1 w1 ⟨rfl, hb1⟩
  have hkb := hkb.trans (Kb.of_below (S := []) hb1) (fun k hk => by cases hk)
  have hB := hB.keep hb1
  clear hb1
  refine vl_val (os_pick_t rfl rfl) ?_
  refine vl_val (os_move rfl) ?_
  refine vl_valg rfl (os_move rfl) ?_
  refine vl_valg rfl (os_nilCheck rfl) ?_
  refine vl_valg rfl (os_fa (o := 8) (k := 0) (by kernel_rfl) rfl) ?_
  refine vl_valg rfl (os_load Try.isAgg116 rfl (Bk.cell (i := 8) hB rfl)) ?_
  refine vl_callg rfl (kit_noneTable _) rfl ?_
  rintro v1 w1 ⟨rfl, hb1⟩
  have hkb := hkb.trans (Kb.of_below (S := []) hb1) (fun k hk => by cases hk)
  have hB := hB.keep hb1
  clear hb1
  refine vl_val (os_pick_t rfl rfl) ?_
  refine vl_val (os_move rfl) ?_
  refine vl_valg rfl (os_move rfl) ?_
  refine vl_valg rfl (os_nilCheck rfl) ?_
  refine vl_valg rfl (os_fa (o := 9) (k := 0) (by kernel_rfl) rfl) ?_
  refine vl_valg rfl (os_load Try.isAgg117 rfl (Bk.cell (i := 9) hB rfl)) ?_
  refine vl_callg rfl (kit_noneHeads _) rfl ?_
  rintro v1 w1 ⟨rfl, hb1⟩
  have hkb := hkb.trans (Kb.of_below (S := []) hb1) (fun k hk => by cases hk)
  have hB := hB.keep hb1
  clear hb1
  refine vl_val (os_pick_t rfl rfl) ?_
  refine vl_val (os_move rfl) ?_
  refine vl_valg rfl (os_move rfl) ?_
  refine vl_valg rfl (os_nilCheck rfl) ?_
  refine vl_valg rfl (os_fa (o := 10) (k := 0) (by kernel_rfl) rfl) ?_
  refine vl_valg rfl (os_load Try.isAgg118 rfl (Bk.cell (i := 10) hB rfl)) ?_
  refine vl_callg rfl (kit_noneCounts _) rfl ?_
  rintro v1 w1 ⟨rfl, hb1⟩
  have hkb := hkb.trans (Kb.of_below (S := []) hb1) (fun k hk => by cases hk)
  have hB := hB.keep hb1
  clear hb1
  refine vl_val (os_pick_t rfl rfl) ?_
  refine vl_val (os_move rfl) ?_
  refine vl_valg rfl (os_move rfl) ?_
  refine vl_valg rfl (os_nilCheck rfl) ?_
  refine vl_valg rfl (os_fa (o := 11) (k := 0) (by kernel_rfl) rfl) ?_
  refine vl_valg rfl (os_load Try.isAgg119 rfl (Bk.cell (i := 11) hB rfl)) ?_
  refine vl_callg rfl (kit_noneNotes _) rfl ?_
  rintro v1 w1 ⟨rfl, hb1⟩
  have hkb := hkb.trans (Kb.of_below (S := []) hb1) (fun k hk => by cases hk)
  have hB := hB.keep hb1
  clear hb1
  refine vl_val (os_pick_t rfl rfl) ?_
  refine vl_val (os_move rfl) ?_
  refine vl_valg rfl (os_move rfl) ?_
  refine vl_valg rfl (os_nilCheck rfl) ?_
  refine vl_valg rfl (os_fa (o := 12) (k := 0) (by kernel_rfl) rfl) ?_
  refine vl_valg rfl (os_load Try.isAgg120 rfl (Bk.cell (i := 12) hB rfl)) ?_
  refine vl_callg rfl (kit_noneFates _) rfl ?_
  rintro v1 w1 ⟨rfl, hb1⟩
  have hkb := hkb.trans (Kb.of_below (S := []) hb1) (fun k hk => by cases hk)
  have hB := hB.keep hb1
  clear hb1
  refine vl_val (os_pick_t rfl rfl) ?_
  refine vl_val (os_assign rfl) ?_
  refine vl_nil ?_
  refine v_ret ?_
  exact post_ret rfl rfl (⟨rfl, hkb⟩)

set_option maxHeartbeats 2000000 in
theorem kit_ApartInts (A : Option Addr) (N cA B : Nat) (ss : List Value) (nn : Nat → Nat) (cc : Nat → List Value) (w : World) (hr : RdC w A ss) (hN : ss.length = N) (hN1 : N ≤ 100000) (ho : ∀ (j : Nat) (v : Value), ss[j]? = some v → Own w B 3 v (cc j))
    (hs : ∀ (i j : Nat) (v u : Value), ss[i]? = some v → ss[j]? = some u → i < j → sep v u) (hn0 : ∀ j, j < N → (cc j).length = nn j) (hn1 : ∀ j, j < N → nn j ≤ 1000000000) (hB : B ≤ w.heap.size) :
    Gives Try.prog 38 #[.slice A N cA] w fun v w' => v = .bool true ∧ Kb (ss.filterMap Value.ownBlock) w w' := by
  refine gives_enter Try.call38 Try.func38 rfl rfl rfl (by kernel_rfl) ?_
  refine v_seq ?_
  refine v_region ?_
  refine vl_val (os_assign rfl) ?_
  refine vl_nil ?_
  refine v_seq ?_
  refine v_region ?_
  refine vl_val (os_build (cs := [.slice none 0 0, .slice none 0 0, .slice none 0 0, .slice none 0 0, .slice none 0 0, .slice none 0 0, .slice none 0 0, .slice none 0 0, .slice none 0 0, .slice none 0 0, .slice none 0 0, .slice none 0 0, .slice none 0 0]) rfl (by kernel_rfl)) ?_
  have hB0 := bk_new w (bagInts (.slice none 0 0)) 122
  refine vl_val (os_box rfl) ?_
  refine vl_val (os_assign rfl) ?_
  refine vl_nil ?_
  refine v_seq ?_
  refine v_seq ?_
  refine v_region ?_
  refine vl_val (os_assign rfl) ?_
  refine vl_nil ?_
  refine v_block ?_
  refine v_loop [(0, _), (3, _)] (fun (k : Nat) => [(4, .int .i64 k)]) (fun k w' => k ≤ N ∧ ∃ v, Bk w' w.heap.size (bagInts v) 122 ∧ Own w' w.heap.size 40 v (ss.take k) ∧ v.ownBlock ≠ some w.heap.size ∧ Below w.heap.size w w') (fun k => N - k) (0) ⟨rfl, rfl, trivial⟩ ⟨rfl, trivial⟩ (⟨by omega, .slice none 0 0, hB0, by rw [List.take_zero]; exact Own.nil _ _ _, by simp [Value.ownBlock], (Below.refl _ _).alloc (Nat.le_refl _) _⟩) ?_
  rintro k w' ⟨hk, v, hB1, ho1, hne, hb⟩
  refine v_seq ?_
  refine v_seq ?_
  refine v_region ?_
  refine vl_val (os_move rfl) ?_
  refine vl_val (os_move rfl) ?_
  refine vl_val (os_len Try.underlying59 rfl) ?_
  refine vl_val (os_lss rfl rfl) ?_
  refine vl_nil ?_
  refine v_cond_d rfl (fun h => ?_) (fun h => ?_)
  · obtain ⟨u, hu⟩ : ∃ u, ss[k]? = some u := ⟨ss[k]'(by omega), List.getElem?_eq_getElem (by omega)⟩
    obtain ⟨A1, c1, rfl, -⟩ := Own.form (ho k _ hu)
    obtain ⟨bA, oA, rfl, -⟩ := hr (by omega)
    refine v_skip ?_
    refine v_seq ?_
    refine v_block ?_
    refine v_region ?_
    refine vl_val (os_move rfl) ?_
    refine vl_val (os_move rfl) ?_
    refine vl_val (os_move rfl) ?_
    refine vl_val (os_ix Try.underlying59 Try.sizeOf40 rfl rfl (i := k) (by omega) (by omega)) ?_
    refine vl_val (os_load Try.isAgg40 rfl ((hr.keep hb).get hu)) ?_
    refine vl_call (kit_putInts _ w.heap.size v _ _ _ (ss.take k) w' hB1 ho1 hne (by rw [List.length_take]; omega) hb.size (Nat.le_refl _)) rfl ?_
    rintro u2 w2 ⟨v2, hB2, ho2, hne2, hb2⟩
    refine vl_nil ?_
    refine v_region ?_
    refine vl_val (os_move rfl) ?_
    refine vl_val (os_addi rfl rfl (by omega)) ?_
    refine vl_val (os_assign rfl) ?_
    refine vl_nil ?_
    exact ⟨k + 1, ⟨rfl, rfl, trivial⟩, ⟨rfl, trivial⟩, ⟨by omega, v2, hB2, by rw [List.take_add_one, hu]; exact ho2, hne2, hb.trans hb2⟩, by dsimp only; omega⟩
  · obtain rfl : N = k := by omega
    rw [List.take_of_length_le (by omega)] at ho1
    obtain ⟨A1, c1, rfl, -, -, hr1, hA1⟩ := Own.form ho1
    have hS : ∀ b ∈ ss.filterMap Value.ownBlock, b < w.heap.size := fun b hb => by
      obtain ⟨x, hx, hxb⟩ := List.mem_filterMap.1 hb
      obtain ⟨j, hj⟩ := List.mem_iff_getElem?.1 hx
      exact (World.ownsRow.lt (ho j x hj) b hxb).2
    have hlt : ∀ (j : Nat) (x : Value) (b : Nat), ss[j]? = some x → x.ownBlock = some b → b < w.heap.size := fun j x b hj hxb => (World.ownsRow.lt (ho j x hj) b hxb).2
    obtain ⟨lab, hF⟩ := Fl.init (tt := 40) (dd := fun _ => []) (Nat.le_trans hB hb.size) hr1 (fun j x hj => (ho j x hj).keepAll hb) hs (fun b o e => ⟨(hA1 b o e).2.2, fun j x hj hxb => by have h1 := hlt j x b hj hxb; have h2 := (hA1 b o e).1; omega⟩)
    subst hN
    refine v_exit ?_
    refine v_seq ?_
    refine v_region ?_
    refine vl_val (os_move rfl) ?_
    refine vl_call (kit_apartInts _ A1 _ c1 B _ ss lab nn cc (fun _ => []) w' hF rfl hN1 hn0 hn1 hB1 (fun hh => by have := hS _ hh; omega)) rfl ?_
    rintro u2 w2 ⟨rfl, hk2⟩
    refine vl_val (os_assign rfl) ?_
    refine vl_nil ?_
    refine v_ret ?_
    exact post_ret rfl rfl (⟨rfl, (Kb.of_below hb).trans hk2 (fun b hb => .inl hb)⟩)

end Go.Proofs.Ytpojijnjdlnokaa

/- Layer 13: awake; the walk of PlanNone. -/
namespace Go.Proofs.Ytpojijnjdlnokaa
open Go.RowKit
set_option linter.unusedVariables false

theorem sortF_iff : ∀ {ks : List Nat} {k : Nat}, SortF k ks ↔ (∀ i, i + 1 < ks.length → ks.getD i 0 ≤ ks.getD (i + 1) 0) ∧ (0 < ks.length → k ≤ ks.getD 0 0)
  | [], k => by simp [SortF]
  | x :: xs, k => by
    have ih := sortF_iff (ks := xs) (k := x)
    rw [SortF, ih]
    constructor
    · rintro ⟨h1, h2, h3⟩
      refine ⟨fun i hi => ?_, fun _ => by simpa using h1⟩
      cases i with
      | zero => have := h3 (by simp at hi; omega); simpa using this
      | succ i => have := h2 i (by simp at hi; omega); simpa using this
    · rintro ⟨h1, h2⟩
      refine ⟨by simpa using h2, fun i hi => by have := h1 (i + 1) (by simp; omega); simpa using this, fun h0 => by have := h1 0 (by simp; omega); simpa using this⟩
theorem fitGo_pos {n : Int} : ∀ {room : Int} {lens zs : List Int}, zs.length = lens.length → fitGo n room (lens.zip zs) = true → ∀ z ∈ zs, 1 ≤ z
  | room, [], [], _, _, z, hz => by cases hz
  | room, [], y :: ys, h, _, _, _ => by simp at h
  | room, x :: xs, [], h, _, _, _ => by simp at h
  | room, x :: xs, y :: ys, h, hf, z, hz => by
    rw [List.zip_cons_cons, fitGo] at hf
    simp only [Bool.and_eq_true, decide_eq_true_eq, widthOk] at hf
    rcases List.mem_cons.1 hz with rfl | hz
    · omega
    · exact fitGo_pos (by simpa using h) hf.2 z hz
theorem natL_toNat {zs : List Int} (h : ∀ z ∈ zs, 1 ≤ z) : natL (zs.map Int.toNat) = zs := by
  unfold natL
  rw [List.map_map]
  apply List.ext_getElem
  · simp
  · intro i h1 h2
    have := h zs[i] (List.getElem_mem _)
    simp; omega
/-- thresholds that fit -/
theorem fits_ok {q : TaskP} {n : Nat} (hR : TaskR q n) {zs : List Int} (h : fitsB q.n q.m q.b q.lens zs = true) : ∃ ks : List Nat, zs = natL ks ∧ 0 ≤ roomQ q ∧ OkP n (lysF q q.lens.length 0) 1 (roomQ q).toNat ks := by
  simp only [fitsB, Bool.and_eq_true, decide_eq_true_eq] at h
  obtain ⟨⟨⟨⟨h1, h2⟩, h3⟩, h4⟩, h5⟩ := h
  have hl1 := hR.l1
  have hp := fitGo_pos h3 h5
  have e := natL_toNat hp
  have h0 : 0 ≤ roomQ q := by
    cases hq : q.lens with
    | nil => rw [hq] at hl1; simp at hl1
    | cons x xs =>
      cases hz : zs with
      | nil => rw [hz, hq] at h3; simp at h3
      | cons y ys =>
        have h5' := h5
        rw [hq, hz] at h5'
        rw [List.zip_cons_cons, fitGo] at h5'
        simp only [Bool.and_eq_true, decide_eq_true_eq] at h5'
        have := width_bd h5'.1.1.2
        unfold roomQ
        rw [hq]
        omega
  refine ⟨zs.map Int.toNat, e.symm, h0, (okP_iff hR (by omega) (by omega)).2 ⟨by simpa using h3, sortF_iff.2 ⟨fun i hi => ?_, fun hi => ?_⟩, ?_⟩⟩
  · have h4' := of_decide_eq_true h4 i (by simp at hi; omega) (by simpa using hi)
    simp at hi
    have q1 : (zs.map Int.toNat).getD i 0 = (zs.getD i 0).toNat := by simp [show i < zs.length by omega]
    have q2 : (zs.map Int.toNat).getD (i + 1) 0 = (zs.getD (i + 1) 0).toNat := by simp [hi]
    rw [q1, q2]; omega
  · simp at hi
    have q1 : (zs.map Int.toNat).getD 0 0 = (zs.getD 0 0).toNat := by simp [hi]
    have := hp (zs.getD 0 0) (by simp [hi])
    rw [q1]; omega
  · rw [List.drop_zero]
    rw [show (zs.map Int.toNat).map (fun (x : Nat) => (x : Int)) = zs from e, ← hR.n_, show ((roomQ q).toNat : Int) = roomQ q by omega]
    exact h5
theorem ok_fits {q : TaskP} {n : Nat} (hR : TaskR q n) {ks : List Nat} (h0 : 0 ≤ roomQ q) (h : OkP n (lysF q q.lens.length 0) 1 (roomQ q).toNat ks) : fitsB q.n q.m q.b q.lens (natL ks) = true := by
  have hn := hR.n_
  have hn1 := hR.n1
  have hn2 := hR.n2
  have hl1 := hR.l1
  have hl2 := hR.l2
  have hr : rightB q.n q.m q.b = true := by simp only [rightB, decide_eq_true_eq]; have := hR.m1; have := hR.b1; omega
  have hro : roomOk q.n q.m q.b q.lens.length = true := by simp only [roomOk, hr, betw, Bool.true_and, decide_eq_true_eq]; omega
  have hlb : lensB q.lens = true := by
    simp only [lensB, betw, Bool.and_eq_true, decide_eq_true_eq, Bool.not_eq_true']
    refine ⟨by omega, List.any_eq_false.2 fun l hl => ?_⟩
    obtain ⟨i, hi, rfl⟩ := List.getElem_of_mem hl
    have := hR.len i hi
    have e : q.lens.getD i 0 = q.lens[i] := by simp [hi]
    simp; omega
  obtain ⟨h1, h2, h3⟩ := (okP_iff hR (by omega) (by omega)).1 h
  have hs := (sortF_iff.1 h2).1
  simp only [fitsB, Bool.and_eq_true, decide_eq_true_eq]
  refine ⟨⟨⟨⟨hro, hlb⟩, by rw [natL_len]; exact h1⟩, ?_⟩, ?_⟩
  · simp only [sortedB, decide_eq_true_eq]
    intro i g1 g2
    rw [natL_len] at g1 g2
    have := hs i g2
    rw [natL_at g1, natL_at g2]
    simp [g1, g2] at this
    omega
  · rw [List.drop_zero, ← hn, show ((roomQ q).toNat : Int) = roomQ q by omega] at h3
    exact h3
/-- none is better than the best -/
theorem best_none {q : TaskP} (h : bestE q = 0) {zs : List Int} (hf : fitsB q.n q.m q.b q.lens zs = true) : betOk q.worths zs (bestL q) q.ws = true ∧ betV q.worths zs (bestL q) q.ws = false := by
  have hb := bestR h
  have hR := hb.R_
  obtain ⟨ks, rfl, h0, hok⟩ := fits_ok hR hf
  have hm := okP_mem hok
  rw [lysF_len] at hm
  have hsc := ok_scOk hb.task hR hm.1 hm.2
  have ho := lysF_o' hR (m := q.lens.length) (i := 0) (by omega)
  have hle := okP_le ho (by omega) hok
  have hok2 : betOk q.worths (natL ks) (bestL q) q.ws = true := by simp only [betOk, hsc, hb.sc, Bool.and_self]
  have e1 := sumP_scV hm.1 hsc
  have e2 : scV q.worths (bestL q) q.ws = scP q.n.toNat (lysF q q.lens.length 0) 1 (roomQ q).toNat := by
    have := hb.sc
    rw [hb.l] at this ⊢
    rw [sumP_scV hb.len this, hb.sum]
  refine ⟨hok2, ?_⟩
  unfold betV
  rw [hok2, e1, e2]
  by_cases heq : sumP (lysF q q.lens.length 0) ks = scP q.n.toNat (lysF q q.lens.length 0) 1 (roomQ q).toNat
  · have := toldP_least ho (by omega) hok heq
    have e3 : bestL q = (toldP q.n.toNat (lysF q q.lens.length 0) 1 (roomQ q).toNat).map fun (x : Nat) => (x : Int) := hb.l
    rw [heq, e3, show lessL (natL ks) _ = false from this]
    simp
  · have h1 : ¬ (scP q.n.toNat (lysF q q.lens.length 0) 1 (roomQ q).toNat < sumP (lysF q q.lens.length 0) ks) := by omega
    simp [heq, h1]
theorem best_fits {q : TaskP} (h : bestE q = 0) : fitsB q.n q.m q.b q.lens (bestL q) = true := by
  have hb := bestR h
  have hr := hb.room
  rw [hb.l]
  exact ok_fits hb.R_ (by omega) hb.ok
theorem pl_fits_can {q : TaskP} (hT : taskB q = true) {zs : List Int} (hf : fitsB q.n q.m q.b q.lens zs = true) : canB q.n q.m q.b q.lens = true := by
  have hR := taskR hT
  obtain ⟨ks, rfl, h0, hok⟩ := fits_ok hR hf
  have := okP_le (lysF_o' hR (m := q.lens.length) (i := 0) (by omega)) (by omega) hok
  exact (can_iff hR).2 ⟨h0, by omega⟩

/-! ### awake -/
theorem awOk {w : World} {a b : Int} {gL gW gV : Nat} (ha : I64 a ∧ I64 b) (hL : Rd w .i64 (some ⟨gL, 0, none⟩) [a, b]) (hW : Rd w .i64 (some ⟨gW, 0, none⟩) [1, 1]) (hV : Rd w .i64 (some ⟨gV, 0, none⟩) [9, 9, 9, 9, 9]) : TaskOk w ⟨4, 64, 200, some ⟨gL, 0, none⟩, 2, 2, some ⟨gW, 0, none⟩, 2, 2, some ⟨gV, 0, none⟩, 5, 5⟩ (awT a b) :=
  ⟨hL, hW, hV, rfl, rfl, rfl, (by decide : (2 : Nat) ≤ 20000000000000), (by decide : (2 : Nat) ≤ 20000000000000), (by decide : (5 : Nat) ≤ 20000000000000), rfl, rfl, rfl, ⟨(⟨by decide, by decide⟩ : I64 4), (⟨by decide, by decide⟩ : I64 64), (⟨by decide, by decide⟩ : I64 200)⟩, fun z hz => by simp [awT] at hz; rcases hz with rfl | rfl; exact ha.1; exact ha.2, fun z hz => by simp [awT] at hz; subst hz; unfold I64; decide, fun z hz => by simp [awT] at hz; subst hz; unfold I64; decide⟩
set_option maxHeartbeats 2000000 in
theorem law13_awake (w : World) : Gives Try.prog 27 #[] w fun v w' => v = .bool true ∧ Below w.heap.size w w' := by
  have hN0 := bk_new w [.int .i64 0, .int .i64 0, .int .i64 0] 42
  have hN := setRow_bk hN0 [.int .i64 4, .int .i64 64, .int .i64 200]
  have b0 := below_setRow ((Below.refl _ w).alloc (Nat.le_refl _) (.cells [Value.int .i64 0, .int .i64 0, .int .i64 0].toArray 42)) (Nat.le_refl w.heap.size) [Value.int .i64 4, .int .i64 64, .int .i64 200].toArray
  have i40 : I64 40 ∧ I64 60 := by unfold I64; decide
  have i5 : I64 5 ∧ I64 20 := by unfold I64; decide
  have i45 : I64 45 ∧ I64 60 := by unfold I64; decide
  refine gives_enter Try.call27 Try.func27 rfl rfl rfl (by kernel_rfl) ?_
  refine v_seq ?_
  refine v_region ?_
  refine vl_val (os_assign rfl) ?_
  refine vl_nil ?_
  refine v_seq ?_
  refine v_region ?_
  refine vl_val (os_build (cs := [.int .i64 4, .int .i64 64, .int .i64 200]) rfl (by kernel_rfl)) ?_
  refine vl_val (os_allocB Try.zeroValue42 (zc := _) (cs := [.int .i64 0, .int .i64 0, .int .i64 0]) rfl) ?_
  refine vl_unit (ou_storeB (by kernel_rfl) rfl rfl hN0 rfl rfl) ?_
  generalize (w.alloc (.cells [Value.int .i64 0, .int .i64 0, .int .i64 0].toArray 42)).setRow w.heap.size [Value.int .i64 4, .int .i64 64, .int .i64 200].toArray = w0 at *
  refine vl_nil ?_
  refine v_seq ?_
  refine v_region ?_
  refine vl_some (ot_litZ [9, 9, 9, 9, 9] Try.underlying40 Try.sizeOf3 Try.zeroValue3 rfl rfl rfl rfl (by decide)) ?_
  rintro v1 w1 ⟨gV, rfl, rV, b1⟩
  have hN1 := hN.keep b1
  have b1w := b0.trans (b1.mono b0.size)
  refine vl_val (os_assign rfl) ?_
  refine vl_nil ?_
  refine v_seq ?_
  refine v_region ?_
  refine vl_val (os_loadB Try.underlying42 rfl (by kernel_rfl) rfl (hN1)) ?_
  refine vl_some (ot_litZ [40, 60] Try.underlying40 Try.sizeOf3 Try.zeroValue3 rfl rfl rfl rfl (by decide)) ?_
  rintro v2 w2 ⟨gL, rfl, rL, b2⟩
  refine vl_some (ot_litZ [1, 1] Try.underlying40 Try.sizeOf3 Try.zeroValue3 rfl rfl rfl rfl (by decide)) ?_
  rintro v3 w3 ⟨gW, rfl, rW, b3⟩
  have b3w := (b1w.trans (b2.mono b1w.size)).trans (b3.mono (b1w.trans (b2.mono b1w.size)).size)
  have rV3 := (rV.keep b2).keep b3
  have hN3 := (hN1.keep b2).keep b3
  refine vl_val (os_move rfl) ?_
  refine vl_val (os_build (cs := [.int .i64 4, .int .i64 64, .int .i64 200, .slice (some ⟨gL, 0, none⟩) 2 2, .slice (some ⟨gW, 0, none⟩) 2 2, .slice (some ⟨gV, 0, none⟩) 5 5]) rfl (by kernel_rfl)) ?_
  refine vl_call (pn_Best _ (awT 40 60) w3 (awOk i40 (rL.keep b3) rW rV3)) rfl ?_
  rintro v4 w4 ⟨s4, rfl, o4, b4⟩
  rw [aw1.1]
  rw [aw1.2] at o4
  have rV4 := rV3.keep b4
  have b4w := b3w.trans (b4.mono b3w.size)
  refine vl_val (os_move rfl) ?_
  refine vl_val (os_extract rfl rfl) ?_
  refine vl_val (os_extract rfl rfl) ?_
  refine vl_val (os_assign rfl) ?_
  refine vl_val (os_assign rfl) ?_
  refine vl_nil ?_
  refine v_seq ?_
  refine v_region ?_
  refine vl_val (os_loadB Try.underlying42 rfl (by kernel_rfl) rfl (hN3.keep b4)) ?_
  refine vl_some (ot_litZ [5, 20] Try.underlying40 Try.sizeOf3 Try.zeroValue3 rfl rfl rfl rfl (by decide)) ?_
  rintro v5 w5 ⟨gL5, rfl, rL5, b5⟩
  refine vl_some (ot_litZ [1, 1] Try.underlying40 Try.sizeOf3 Try.zeroValue3 rfl rfl rfl rfl (by decide)) ?_
  rintro v6 w6 ⟨gW6, rfl, rW6, b6⟩
  have b46 := b5.trans (b6.mono b5.size)
  have b6w := b4w.trans (b46.mono b4w.size)
  have rV6 := rV4.keep b46
  refine vl_val (os_move rfl) ?_
  refine vl_val (os_build (cs := [.int .i64 4, .int .i64 64, .int .i64 200, .slice (some ⟨gL5, 0, none⟩) 2 2, .slice (some ⟨gW6, 0, none⟩) 2 2, .slice (some ⟨gV, 0, none⟩) 5 5]) rfl (by kernel_rfl)) ?_
  refine vl_call (pn_Best _ (awT 5 20) w6 (awOk i5 (rL5.keep b6) rW6 rV6)) rfl ?_
  rintro v7 w7 ⟨s7, rfl, o7, b7⟩
  rw [aw2.1]
  rw [aw2.2] at o7
  have rV7 := rV6.keep b7
  have b47 := b46.trans (b7.mono b46.size)
  have b7w := b4w.trans (b47.mono b4w.size)
  refine vl_val (os_move rfl) ?_
  refine vl_val (os_extract rfl rfl) ?_
  refine vl_val (os_extract rfl rfl) ?_
  refine vl_val (os_assign rfl) ?_
  refine vl_val (os_assign rfl) ?_
  refine vl_nil ?_
  refine v_seq ?_
  refine v_region ?_
  refine vl_val (os_loadB Try.underlying42 rfl (by kernel_rfl) rfl ((hN3.keep b4).keep b47)) ?_
  refine vl_some (ot_litZ [45, 60] Try.underlying40 Try.sizeOf3 Try.zeroValue3 rfl rfl rfl rfl (by decide)) ?_
  rintro v8 w8 ⟨gL8, rfl, rL8, b8⟩
  refine vl_some (ot_litZ [1, 1] Try.underlying40 Try.sizeOf3 Try.zeroValue3 rfl rfl rfl rfl (by decide)) ?_
  rintro v9 w9 ⟨gW9, rfl, rW9, b9⟩
  have b79 := b8.trans (b9.mono b8.size)
  have b9w := b7w.trans (b79.mono b7w.size)
  have rV9 := rV7.keep b79
  refine vl_val (os_move rfl) ?_
  refine vl_val (os_build (cs := [.int .i64 4, .int .i64 64, .int .i64 200, .slice (some ⟨gL8, 0, none⟩) 2 2, .slice (some ⟨gW9, 0, none⟩) 2 2, .slice (some ⟨gV, 0, none⟩) 5 5]) rfl (by kernel_rfl)) ?_
  refine vl_call (pn_Best _ (awT 45 60) w9 (awOk i45 (rL8.keep b9) rW9 rV9)) rfl ?_
  rintro v10 w10 ⟨s10, rfl, o10, b10⟩
  rw [aw3]
  have b410 := b47.trans ((b79.trans (b10.mono b79.size)).mono b47.size)
  have b710 := b79.trans (b10.mono b79.size)
  have b10w := b9w.trans (b10.mono b9w.size)
  obtain ⟨A4, c4, rfl, -, -, r4, -⟩ := OwnK.form (Own.keepAll o4 b410)
  obtain ⟨A7, c7, rfl, -, -, r7, -⟩ := OwnK.form (Own.keepAll o7 b710)
  refine vl_val (os_move rfl) ?_
  refine vl_val (os_extract rfl rfl) ?_
  refine vl_val (os_extract rfl rfl) ?_
  refine vl_val (os_assign rfl) ?_
  refine vl_val (os_assign rfl) ?_
  refine vl_nil ?_
  refine v_seq ?_
  refine v_region ?_
  refine vl_val (os_move rfl) ?_
  refine vl_val (os_t (os_eql rfl rfl) (rfl)) ?_
  refine vl_val (os_move rfl) ?_
  refine vl_valg rfl (os_move rfl) ?_
  refine vl_someg rfl (ot_litZ [4, 4] Try.underlying40 Try.sizeOf3 Try.zeroValue3 rfl rfl rfl rfl (by decide)) ?_
  rintro v11 w11 ⟨g11, rfl, r11, b11⟩
  refine vl_callg rfl ((kit_SameInts A4 _ 2 2 c4 2 [4, 4] [4, 4] w11 (r4.keep b11) r11 rfl rfl (by decide) (by decide)).mono fun v w' hh => (⟨by rw [hh.1, decide_eq_true rfl], hh.2⟩ : v = .bool true ∧ LeD w11 w')) rfl ?_
  rintro v12 w12 ⟨rfl, d12⟩
  have b1012 := b11.trans ((led_below d12).mono b11.size)
  refine vl_val (os_pick_t rfl rfl) ?_
  refine vl_val (os_move rfl) ?_
  refine vl_valg rfl (os_move rfl) ?_
  refine vl_valg rfl (os_t (os_eql rfl rfl) (rfl)) ?_
  refine vl_val (os_pick_t rfl rfl) ?_
  refine vl_val (os_move rfl) ?_
  refine vl_valg rfl (os_move rfl) ?_
  refine vl_someg rfl (ot_litZ [1, 1] Try.underlying40 Try.sizeOf3 Try.zeroValue3 rfl rfl rfl rfl (by decide)) ?_
  rintro v13 w13 ⟨g13, rfl, r13, b13⟩
  refine vl_callg rfl ((kit_SameInts A7 _ 2 2 c7 2 [1, 1] [1, 1] w13 ((r7.keep b1012).keep b13) r13 rfl rfl (by decide) (by decide)).mono fun v w' hh => (⟨by rw [hh.1, decide_eq_true rfl], hh.2⟩ : v = .bool true ∧ LeD w13 w')) rfl ?_
  rintro v14 w14 ⟨rfl, d14⟩
  have b1014 := b1012.trans ((b13.trans ((led_below d14).mono b13.size)).mono b1012.size)
  refine vl_val (os_pick_t rfl rfl) ?_
  refine vl_val (os_move rfl) ?_
  refine vl_valg rfl (os_move rfl) ?_
  refine vl_valg rfl (os_eql rfl rfl) ?_
  refine vl_val (os_pick_t rfl rfl) ?_
  refine vl_val (os_assign rfl) ?_
  refine vl_nil ?_
  refine v_ret ?_
  exact post_ret rfl rfl (⟨rfl, b10w.trans (b1014.mono b10w.size)⟩)
end Go.Proofs.Ytpojijnjdlnokaa
