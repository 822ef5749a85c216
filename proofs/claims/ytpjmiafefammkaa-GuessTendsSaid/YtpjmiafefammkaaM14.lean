/- Texts joined: FlEI FixR. -/
import Derived.Test.YtpjmiafefammkaaM13
/- The law's kit: whether lists of int lie apart. -/
namespace Go.Proofs.Ytpjmiafefammkaa
open Go.RowKit
set_option linter.unusedVariables false
/-- the bag's cells -/
def bagInts (v : Value) : List Value := [.slice none 0 0, .slice none 0 0, v, .slice none 0 0, .slice none 0 0, .slice none 0 0, .slice none 0 0, .slice none 0 0, .slice none 0 0, .slice none 0 0, .slice none 0 0, .slice none 0 0, .slice none 0 0]
set_option maxHeartbeats 1000000 in
theorem kit_putInts (g B : Nat) (v : Value) (Al : Option Addr) (nl cl : Nat) (ss : List Value) (w : World) (hB : Bk w g (bagInts v) 112) (ho : Own w B 40 v ss) (hg : v.ownBlock ≠ some g) (hn : ss.length ≤ 100000) (hz : B ≤ w.heap.size) (hgB : B ≤ g) :
    Gives Try.prog 79 #[.pointer (some ⟨g, 0, none⟩), .slice Al nl cl] w fun u w' => ∃ v', Bk w' g (bagInts v') 112 ∧ Own w' B 40 v' (ss ++ [.slice Al nl cl]) ∧ v'.ownBlock ≠ some g ∧ Below B w w' := by
  have hlt := hB.lt
  refine gives_enter Try.call79 Try.func79 rfl rfl rfl (by kernel_rfl) ?_
  refine v_region ?_
  refine vl_val (os_move rfl) ?_
  refine vl_val (os_move rfl) ?_
  refine vl_val (os_nilCheck rfl) ?_
  refine vl_val (os_fa (o := 2) (k := 0) (by kernel_rfl) rfl) ?_
  refine vl_val (os_load Try.isAgg70 rfl (Bk.cell (i := 2) hB rfl)) ?_
  refine vl_val (os_move rfl) ?_
  refine vl_val (os_lit Try.underlying70 Try.sizeOf40 Try.zeroValue40 rfl rfl rfl rfl (by decide)) ?_
  refine vl_some (ot_append_at Try.underlying70 ti_lInts rfl rfl rfl (Own.alloc ho _) (rdc_alloc w [.slice Al nl cl] _) rfl (by intro u hu; rw [List.mem_singleton.1 hu]; rfl) (by omega) (by simp [maxLen]; omega) (by simp; omega)) ?_
  rintro v1 w1 ⟨ho1, hg1, ha1⟩
  obtain ⟨A1, c1, rfl, -⟩ := Own.form ho1
  have hne1 : (Value.slice A1 _ c1).ownBlock ≠ some g := fun e => by
    rcases ha1 with h6 | h6
    · rw [h6] at e; exact hg e
    · rw [h6] at e; simp at e; omega
  have hB1 := Bk.grown (Bk.alloc hB _) hg1 (fun e => hg e.symm)
  refine vl_val (os_nilCheck rfl) ?_
  refine vl_val (os_fa (o := 2) (k := 0) (by kernel_rfl) rfl) ?_
  refine vl_unit (ou_store Try.sizeOf70 rfl rfl rfl (Bk.cell (i := 2) hB1 rfl) (Bk.free hB1 _)) ?_
  refine vl_nil ?_
  exact post_end0 rfl (⟨_, Bk.set hB1 2 _, Own.setOther ho1 (fun g' e e2 => hne1 (by rw [e, e2])) _ _, hne1, below_set ((((Below.refl w.heap.size w).alloc (Nat.le_refl _) _).mono hz).trans ((Below.refl _ _).grown hg1 (by simp; omega) (fun k hk => (World.ownsRow.lt ho k hk).1))) hgB _ _⟩)

set_option maxHeartbeats 2000000 in
theorem kit_apartInts (g : Nat) (A : Option Addr) (N cA B : Nat) (S : List Nat) (ss : List Value) (lab : Nat → Nat) (nn : Nat → Nat) (c0 d0 : Nat → List Value) (Hw : World) (hF : Fl Hw B 3 40 S A ss lab c0 (.slice none 0 0) [] 0 d0 Hw) (hN : ss.length = N) (hN1 : N ≤ 100000)
    (hn0 : ∀ j, j < N → (c0 j).length = nn j) (hn1 : ∀ j, j < N → nn j ≤ 1000000000) (hB : Bk Hw g (bagInts (.slice A N cA)) 112) (hS : g ∉ S) :
    Gives Try.prog 80 #[.pointer (some ⟨g, 0, none⟩)] Hw fun v w' => v = .bool true ∧ Kb S Hw w' := by
  have hb := Below.refl Hw.heap.size Hw
  have hBw := hB
  refine gives_enter Try.call80 Try.func80 rfl rfl rfl (by kernel_rfl) ?_
  refine v_seq ?_
  refine v_region ?_
  refine vl_val (os_assign rfl) ?_
  refine vl_nil ?_
  refine v_seq ?_
  refine v_region ?_
  refine vl_val (os_move rfl) ?_
  refine vl_val (os_nilCheck rfl) ?_
  refine vl_val (os_fa (o := 0) (k := 0) (by kernel_rfl) rfl) ?_
  refine vl_val (os_load Try.isAgg99 rfl (Bk.cell (i := 0) hB rfl)) ?_
  refine vl_call (kit_noneLimbs _) rfl ?_
  rintro v1 w1 ⟨rfl, hb1⟩
  have hb := hb.trans (hb1.mono hb.size)
  have hB := hB.keep hb1
  clear hb1
  refine vl_val (os_move rfl) ?_
  refine vl_valg rfl (os_move rfl) ?_
  refine vl_valg rfl (os_nilCheck rfl) ?_
  refine vl_valg rfl (os_fa (o := 1) (k := 0) (by kernel_rfl) rfl) ?_
  refine vl_valg rfl (os_load Try.isAgg100 rfl (Bk.cell (i := 1) hB rfl)) ?_
  refine vl_callg rfl (kit_noneWords _) rfl ?_
  rintro v1 w1 ⟨rfl, hb1⟩
  have hb := hb.trans (hb1.mono hb.size)
  have hB := hB.keep hb1
  clear hb1
  refine vl_val (os_pick_t rfl rfl) ?_
  refine vl_val (os_move rfl) ?_
  refine vl_valg rfl (os_move rfl) ?_
  refine vl_valg rfl (os_nilCheck rfl) ?_
  refine vl_valg rfl (os_fa (o := 2) (k := 0) (by kernel_rfl) rfl) ?_
  refine vl_valg rfl (os_load Try.isAgg70 rfl (Bk.cell (i := 2) hB rfl)) ?_
  refine vl_callg rfl (kit_flatInts A N cA B S ss lab nn c0 d0 Hw _ (hF.below hb) hN hN1 hn0 hn1) rfl ?_
  rintro v1 w1 ⟨rfl, hk1⟩
  have hkb : Kb S Hw w1 := hk1
  clear hb
  have hB := hBw.kb hk1 hS
  refine vl_val (os_pick_t rfl rfl) ?_
  refine vl_val (os_move rfl) ?_
  refine vl_valg rfl (os_move rfl) ?_
  refine vl_valg rfl (os_nilCheck rfl) ?_
  refine vl_valg rfl (os_fa (o := 3) (k := 0) (by kernel_rfl) rfl) ?_
  refine vl_valg rfl (os_load Try.isAgg101 rfl (Bk.cell (i := 3) hB rfl)) ?_
  refine vl_callg rfl (kit_noneLongs _) rfl ?_
  rintro v1 w1 ⟨rfl, hb1⟩
  have hkb := hkb.trans (Kb.of_below (S := []) hb1) (fun k hk => by cases hk)
  have hB := hB.keep hb1
  clear hb1
  refine vl_val (os_pick_t rfl rfl) ?_
  refine vl_val (os_move rfl) ?_
  refine vl_valg rfl (os_move rfl) ?_
  refine vl_valg rfl (os_nilCheck rfl) ?_
  refine vl_valg rfl (os_fa (o := 4) (k := 0) (by kernel_rfl) rfl) ?_
  refine vl_valg rfl (os_load Try.isAgg102 rfl (Bk.cell (i := 4) hB rfl)) ?_
  refine vl_callg rfl (kit_noneTexts _) rfl ?_
  rintro v1 w1 ⟨rfl, hb1⟩
  have hkb := hkb.trans (Kb.of_below (S := []) hb1) (fun k hk => by cases hk)
  have hB := hB.keep hb1
  clear hb1
  refine vl_val (os_pick_t rfl rfl) ?_
  refine vl_val (os_move rfl) ?_
  refine vl_valg rfl (os_move rfl) ?_
  refine vl_valg rfl (os_nilCheck rfl) ?_
  refine vl_valg rfl (os_fa (o := 5) (k := 0) (by kernel_rfl) rfl) ?_
  refine vl_valg rfl (os_load Try.isAgg103 rfl (Bk.cell (i := 5) hB rfl)) ?_
  refine vl_callg rfl (kit_noneBytes _) rfl ?_
  rintro v1 w1 ⟨rfl, hb1⟩
  have hkb := hkb.trans (Kb.of_below (S := []) hb1) (fun k hk => by cases hk)
  have hB := hB.keep hb1
  clear hb1
  refine vl_val (os_pick_t rfl rfl) ?_
  refine vl_val (os_move rfl) ?_
  refine vl_valg rfl (os_move rfl) ?_
  refine vl_valg rfl (os_nilCheck rfl) ?_
  refine vl_valg rfl (os_fa (o := 6) (k := 0) (by kernel_rfl) rfl) ?_
  refine vl_valg rfl (os_load Try.isAgg104 rfl (Bk.cell (i := 6) hB rfl)) ?_
  refine vl_callg rfl (kit_noneTruths _) rfl ?_
  rintro v1 w1 ⟨rfl, hb1⟩
  have hkb := hkb.trans (Kb.of_below (S := []) hb1) (fun k hk => by cases hk)
  have hB := hB.keep hb1
  clear hb1
  refine vl_val (os_pick_t rfl rfl) ?_
  refine vl_val (os_move rfl) ?_
  refine vl_valg rfl (os_move rfl) ?_
  refine vl_valg rfl (os_nilCheck rfl) ?_
  refine vl_valg rfl (os_fa (o := 7) (k := 0) (by kernel_rfl) rfl) ?_
  refine vl_valg rfl (os_load Try.isAgg105 rfl (Bk.cell (i := 7) hB rfl)) ?_
  refine vl_callg rfl (kit_noneLayers _) rfl ?_
  rintro v1 w1 ⟨rfl, hb1⟩
  have hkb := hkb.trans (Kb.of_below (S := []) hb1) (fun k hk => by cases hk)
  have hB := hB.keep hb1
  clear hb1
  refine vl_val (os_pick_t rfl rfl) ?_
  refine vl_val (os_move rfl) ?_
  refine vl_valg rfl (os_move rfl) ?_
  refine vl_valg rfl (os_nilCheck rfl) ?_
  refine vl_valg rfl (os_fa (o := 8) (k := 0) (by kernel_rfl) rfl) ?_
  refine vl_valg rfl (os_load Try.isAgg106 rfl (Bk.cell (i := 8) hB rfl)) ?_
  refine vl_callg rfl (kit_noneTable _) rfl ?_
  rintro v1 w1 ⟨rfl, hb1⟩
  have hkb := hkb.trans (Kb.of_below (S := []) hb1) (fun k hk => by cases hk)
  have hB := hB.keep hb1
  clear hb1
  refine vl_val (os_pick_t rfl rfl) ?_
  refine vl_val (os_move rfl) ?_
  refine vl_valg rfl (os_move rfl) ?_
  refine vl_valg rfl (os_nilCheck rfl) ?_
  refine vl_valg rfl (os_fa (o := 9) (k := 0) (by kernel_rfl) rfl) ?_
  refine vl_valg rfl (os_load Try.isAgg107 rfl (Bk.cell (i := 9) hB rfl)) ?_
  refine vl_callg rfl (kit_noneHeads _) rfl ?_
  rintro v1 w1 ⟨rfl, hb1⟩
  have hkb := hkb.trans (Kb.of_below (S := []) hb1) (fun k hk => by cases hk)
  have hB := hB.keep hb1
  clear hb1
  refine vl_val (os_pick_t rfl rfl) ?_
  refine vl_val (os_move rfl) ?_
  refine vl_valg rfl (os_move rfl) ?_
  refine vl_valg rfl (os_nilCheck rfl) ?_
  refine vl_valg rfl (os_fa (o := 10) (k := 0) (by kernel_rfl) rfl) ?_
  refine vl_valg rfl (os_load Try.isAgg108 rfl (Bk.cell (i := 10) hB rfl)) ?_
  refine vl_callg rfl (kit_noneCounts _) rfl ?_
  rintro v1 w1 ⟨rfl, hb1⟩
  have hkb := hkb.trans (Kb.of_below (S := []) hb1) (fun k hk => by cases hk)
  have hB := hB.keep hb1
  clear hb1
  refine vl_val (os_pick_t rfl rfl) ?_
  refine vl_val (os_move rfl) ?_
  refine vl_valg rfl (os_move rfl) ?_
  refine vl_valg rfl (os_nilCheck rfl) ?_
  refine vl_valg rfl (os_fa (o := 11) (k := 0) (by kernel_rfl) rfl) ?_
  refine vl_valg rfl (os_load Try.isAgg109 rfl (Bk.cell (i := 11) hB rfl)) ?_
  refine vl_callg rfl (kit_noneNotes _) rfl ?_
  rintro v1 w1 ⟨rfl, hb1⟩
  have hkb := hkb.trans (Kb.of_below (S := []) hb1) (fun k hk => by cases hk)
  have hB := hB.keep hb1
  clear hb1
  refine vl_val (os_pick_t rfl rfl) ?_
  refine vl_val (os_move rfl) ?_
  refine vl_valg rfl (os_move rfl) ?_
  refine vl_valg rfl (os_nilCheck rfl) ?_
  refine vl_valg rfl (os_fa (o := 12) (k := 0) (by kernel_rfl) rfl) ?_
  refine vl_valg rfl (os_load Try.isAgg110 rfl (Bk.cell (i := 12) hB rfl)) ?_
  refine vl_callg rfl (kit_noneFates _) rfl ?_
  rintro v1 w1 ⟨rfl, hb1⟩
  have hkb := hkb.trans (Kb.of_below (S := []) hb1) (fun k hk => by cases hk)
  have hB := hB.keep hb1
  clear hb1
  refine vl_val (os_pick_t rfl rfl) ?_
  refine vl_val (os_assign rfl) ?_
  refine vl_nil ?_
  refine v_ret ?_
  exact post_ret rfl rfl (⟨rfl, hkb⟩)

set_option maxHeartbeats 2000000 in
theorem kit_ApartInts (A : Option Addr) (N cA B : Nat) (ss : List Value) (nn : Nat → Nat) (cc : Nat → List Value) (w : World) (hr : RdC w A ss) (hN : ss.length = N) (hN1 : N ≤ 100000) (ho : ∀ (j : Nat) (v : Value), ss[j]? = some v → Own w B 3 v (cc j))
    (hs : ∀ (i j : Nat) (v u : Value), ss[i]? = some v → ss[j]? = some u → i < j → sep v u) (hn0 : ∀ j, j < N → (cc j).length = nn j) (hn1 : ∀ j, j < N → nn j ≤ 1000000000) (hB : B ≤ w.heap.size) :
    Gives Try.prog 44 #[.slice A N cA] w fun v w' => v = .bool true ∧ Kb (ss.filterMap Value.ownBlock) w w' := by
  refine gives_enter Try.call44 Try.func44 rfl rfl rfl (by kernel_rfl) ?_
  refine v_seq ?_
  refine v_region ?_
  refine vl_val (os_assign rfl) ?_
  refine vl_nil ?_
  refine v_seq ?_
  refine v_region ?_
  refine vl_val (os_build (cs := [.slice none 0 0, .slice none 0 0, .slice none 0 0, .slice none 0 0, .slice none 0 0, .slice none 0 0, .slice none 0 0, .slice none 0 0, .slice none 0 0, .slice none 0 0, .slice none 0 0, .slice none 0 0, .slice none 0 0]) rfl (by kernel_rfl)) ?_
  have hB0 := bk_new w (bagInts (.slice none 0 0)) 112
  refine vl_val (os_box rfl) ?_
  refine vl_val (os_assign rfl) ?_
  refine vl_nil ?_
  refine v_seq ?_
  refine v_seq ?_
  refine v_region ?_
  refine vl_val (os_assign rfl) ?_
  refine vl_nil ?_
  refine v_block ?_
  refine v_loop [(0, _), (3, _)] (fun (k : Nat) => [(4, .int .i64 k)]) (fun k w' => k ≤ N ∧ ∃ v, Bk w' w.heap.size (bagInts v) 112 ∧ Own w' w.heap.size 40 v (ss.take k) ∧ v.ownBlock ≠ some w.heap.size ∧ Below w.heap.size w w') (fun k => N - k) (0) ⟨rfl, rfl, trivial⟩ ⟨rfl, trivial⟩ (⟨by omega, .slice none 0 0, hB0, by rw [List.take_zero]; exact Own.nil _ _ _, by simp [Value.ownBlock], (Below.refl _ _).alloc (Nat.le_refl _) _⟩) ?_
  rintro k w' ⟨hk, v, hB1, ho1, hne, hb⟩
  refine v_seq ?_
  refine v_seq ?_
  refine v_region ?_
  refine vl_val (os_move rfl) ?_
  refine vl_val (os_move rfl) ?_
  refine vl_val (os_len Try.underlying70 rfl) ?_
  refine vl_val (os_lss rfl rfl) ?_
  refine vl_nil ?_
  refine v_cond_d rfl (fun h => ?_) (fun h => ?_)
  · obtain ⟨u, hu⟩ : ∃ u, ss[k]? = some u := ⟨ss[k]'(by omega), List.getElem?_eq_getElem (by omega)⟩
    obtain ⟨A1, c1, rfl, -⟩ := Own.form (ho k _ hu)
    obtain ⟨bA, oA, rfl, -⟩ := hr (by omega)
    refine v_skip ?_
    refine v_seq ?_
    refine v_block ?_
    refine v_region ?_
    refine vl_val (os_move rfl) ?_
    refine vl_val (os_move rfl) ?_
    refine vl_val (os_move rfl) ?_
    refine vl_val (os_ix Try.underlying70 Try.sizeOf40 rfl rfl (i := k) (by omega) (by omega)) ?_
    refine vl_val (os_load Try.isAgg40 rfl ((hr.keep hb).get hu)) ?_
    refine vl_call (kit_putInts _ w.heap.size v _ _ _ (ss.take k) w' hB1 ho1 hne (by rw [List.length_take]; omega) hb.size (Nat.le_refl _)) rfl ?_
    rintro u2 w2 ⟨v2, hB2, ho2, hne2, hb2⟩
    refine vl_nil ?_
    refine v_region ?_
    refine vl_val (os_move rfl) ?_
    refine vl_val (os_addi rfl rfl (by omega)) ?_
    refine vl_val (os_assign rfl) ?_
    refine vl_nil ?_
    exact ⟨k + 1, ⟨rfl, rfl, trivial⟩, ⟨rfl, trivial⟩, ⟨by omega, v2, hB2, by rw [List.take_add_one, hu]; exact ho2, hne2, hb.trans hb2⟩, by dsimp only; omega⟩
  · obtain rfl : N = k := by omega
    rw [List.take_of_length_le (by omega)] at ho1
    obtain ⟨A1, c1, rfl, -, -, hr1, hA1⟩ := Own.form ho1
    have hS : ∀ b ∈ ss.filterMap Value.ownBlock, b < w.heap.size := fun b hb => by
      obtain ⟨x, hx, hxb⟩ := List.mem_filterMap.1 hb
      obtain ⟨j, hj⟩ := List.mem_iff_getElem?.1 hx
      exact (World.ownsRow.lt (ho j x hj) b hxb).2
    have hlt : ∀ (j : Nat) (x : Value) (b : Nat), ss[j]? = some x → x.ownBlock = some b → b < w.heap.size := fun j x b hj hxb => (World.ownsRow.lt (ho j x hj) b hxb).2
    obtain ⟨lab, hF⟩ := Fl.init (tt := 40) (dd := fun _ => []) (Nat.le_trans hB hb.size) hr1 (fun j x hj => (ho j x hj).keepAll hb) hs (fun b o e => ⟨(hA1 b o e).2.2, fun j x hj hxb => by have h1 := hlt j x b hj hxb; have h2 := (hA1 b o e).1; omega⟩)
    subst hN
    refine v_exit ?_
    refine v_seq ?_
    refine v_region ?_
    refine vl_val (os_move rfl) ?_
    refine vl_call (kit_apartInts _ A1 _ c1 B _ ss lab nn cc (fun _ => []) w' hF rfl hN1 hn0 hn1 hB1 (fun hh => by have := hS _ hh; omega)) rfl ?_
    rintro u2 w2 ⟨rfl, hk2⟩
    refine vl_val (os_assign rfl) ?_
    refine vl_nil ?_
    refine v_ret ?_
    exact post_ret rfl rfl (⟨rfl, (Kb.of_below hb).trans hk2 (fun b hb => .inl hb)⟩)

end Go.Proofs.Ytpjmiafefammkaa

/- Layer 23: the document's rows, and the walk of FixedRows. -/
namespace Go.Proofs.Ytpjmiafefammkaa
open Go.RowKit
set_option linter.unusedVariables false

theorem r_Is (a : Int) (w : World) : Gives Try.prog 138 #[.int .i64 a] w fun v w' => v = .bool (isB a) ∧ w' = w :=
  gives_of Try.call138 (ref23_Is a w) fun e w' ⟨h1, h2⟩ => ⟨_, h1, rfl, h2.symm⟩
theorem r_Blend (h x : Int) (w : World) : Gives Try.prog 105 #[.int .i64 h, .int .i64 x] w fun v w' => v = .tuple #[.int .i64 (blendV h x), .int .i64 (argE (blendOk h x))] ∧ w' = w :=
  gives_of Try.call105 (ref23_Blend h x w) fun e w' ⟨h1, h2⟩ => ⟨_, h1, rfl, h2.symm⟩

theorem r_row (A : Option Addr) (n c : Nat) (zs : List Int) (w : World) (ha : Rd w .i64 A zs) (hn : n = zs.length) (hn' : n ≤ 9223372036854775807) :
    Gives Try.prog 104 #[.slice A n c] w fun v w' => v = .bool (rowB zs) ∧ w' = w := by
  refine gives_enter Try.call104 Try.func104 rfl rfl rfl (by kernel_rfl) ?_
  refine v_seq ?_
  refine v_region ?_
  refine vl_val (os_assign rfl) ?_
  refine vl_nil ?_
  refine v_seq ?_
  refine v_seq ?_
  refine v_region ?_
  refine vl_val (os_assign rfl) ?_
  refine vl_nil ?_
  refine v_block ?_
  refine v_loop [(0, _)] (fun (i : Nat) => [(3, .int .i64 i)]) (fun i w' => i ≤ n ∧ (∀ j, j < i → isB (zs.getD j 0) = true) ∧ w' = w) (fun i => n - i) (0) ⟨rfl, trivial⟩ ⟨rfl, trivial⟩ (⟨by omega, fun j hj => absurd hj (by omega), rfl⟩) ?_
  rintro i w' ⟨hi, hall, rfl⟩
  refine v_seq ?_
  refine v_seq ?_
  refine v_region ?_
  refine vl_val (os_move rfl) ?_
  refine vl_val (os_move rfl) ?_
  refine vl_val (os_len Try.underlying40 rfl) ?_
  refine vl_val (os_lss rfl rfl) ?_
  refine vl_nil ?_
  refine v_cond_d rfl (fun h => ?_) (fun h => ?_)
  · obtain ⟨b, o, rfl, hc⟩ := ha.at_ (i := i) (by omega)
    rcases (by cases isB (zs.getD i 0) <;> simp : isB (zs.getD i 0) = false ∨ isB (zs.getD i 0) = true) with hB | hB
    · refine v_skip ?_
      refine v_seq ?_
      refine v_block ?_
      refine v_seq ?_
      refine v_region ?_
      refine vl_val (os_move rfl) ?_
      refine vl_val (os_move rfl) ?_
      refine vl_val (os_ix Try.underlying40 Try.sizeOf3 rfl rfl (i := i) (by omega) (by omega)) ?_
      refine vl_val (os_load Try.isAgg3 rfl (hc)) ?_
      refine vl_call ((r_Is _ _).mono fun u w' hh => (⟨by rw [hh.1, hB], hh.2⟩ : u = .bool false ∧ w' = _)) rfl ?_
      rintro v1 w1 ⟨rfl, rfl⟩
      have hr : rowB zs = false := by
        have e : zs.getD i 0 = zs[i]'(by omega) := by simp [show i < zs.length by omega]
        have : zs.any (fun n => !isB n) = true := List.any_eq_true.2 ⟨zs[i]'(by omega), List.getElem_mem _, by rw [← e, hB]; rfl⟩
        simp [rowB, this]
      refine vl_val (os_not rfl) ?_
      refine vl_nil ?_
      refine v_cond_t rfl ?_
      refine v_seq ?_
      refine v_region ?_
      refine vl_val (os_assign rfl) ?_
      refine vl_nil ?_
      refine v_ret ?_
      exact post_ret rfl rfl (⟨by rw [hr], rfl⟩)
    · refine v_skip ?_
      refine v_seq ?_
      refine v_block ?_
      refine v_seq ?_
      refine v_region ?_
      refine vl_val (os_move rfl) ?_
      refine vl_val (os_move rfl) ?_
      refine vl_val (os_ix Try.underlying40 Try.sizeOf3 rfl rfl (i := i) (by omega) (by omega)) ?_
      refine vl_val (os_load Try.isAgg3 rfl (hc)) ?_
      refine vl_call ((r_Is _ _).mono fun u w' hh => (⟨by rw [hh.1, hB], hh.2⟩ : u = .bool true ∧ w' = _)) rfl ?_
      rintro v1 w1 ⟨rfl, rfl⟩
      refine vl_val (os_not rfl) ?_
      refine vl_nil ?_
      refine v_cond_f rfl ?_
      refine v_skip ?_
      refine v_region ?_
      refine vl_val (os_move rfl) ?_
      refine vl_val (os_addi rfl rfl (by omega)) ?_
      refine vl_val (os_assign rfl) ?_
      refine vl_nil ?_
      exact ⟨i + 1, ⟨rfl, trivial⟩, ⟨rfl, trivial⟩, ⟨by omega, fun j hj => by by_cases e : j = i; (subst e; exact hB); (exact hall j (by omega)), rfl⟩, by dsimp only; omega⟩
  · obtain rfl : n = i := by omega
    have hany : zs.any (fun n => !isB n) = false := by
      rw [List.any_eq_false]
      intro z hz
      obtain ⟨j, hj, rfl⟩ := List.mem_iff_getElem.1 hz
      have := hall j (by omega)
      rw [show zs.getD j 0 = zs[j] by simp [hj]] at this
      simp [this]
    have hr : rowB zs = (decide (1 ≤ n) && decide (n ≤ 256)) := by simp only [rowB, hany, hn, Bool.not_false, Bool.and_true]; rfl
    rcases Nat.lt_or_ge n 1 with h1 | h1
    · refine v_exit ?_
      refine v_seq ?_
      refine v_region ?_
      refine vl_val (os_move rfl) ?_
      refine vl_val (os_len Try.underlying40 rfl) ?_
      refine vl_val (os_f (os_geq rfl rfl) (by omega)) ?_
      refine vl_val (os_move rfl) ?_
      refine vl_skip rfl rfl ?_
      refine vl_skip rfl rfl ?_
      refine vl_skip rfl rfl ?_
      refine vl_val (os_pick_f rfl rfl) ?_
      refine vl_val (os_assign rfl) ?_
      refine vl_nil ?_
      refine v_ret ?_
      exact post_ret rfl rfl (⟨by rw [hr, decide_eq_false (show ¬ 1 ≤ n by omega)]; rfl, rfl⟩)
    · refine v_exit ?_
      refine v_seq ?_
      refine v_region ?_
      refine vl_val (os_move rfl) ?_
      refine vl_val (os_len Try.underlying40 rfl) ?_
      refine vl_val (os_t (os_geq rfl rfl) (by omega)) ?_
      refine vl_val (os_move rfl) ?_
      refine vl_valg rfl (os_move rfl) ?_
      refine vl_valg rfl (os_len Try.underlying40 rfl) ?_
      refine vl_valg rfl (os_leq rfl rfl) ?_
      refine vl_val (os_pick_t rfl rfl) ?_
      refine vl_val (os_assign rfl) ?_
      refine vl_nil ?_
      refine v_ret ?_
      exact post_ret rfl rfl (⟨by rw [hr, decide_eq_true (show 1 ≤ n by omega)]; simp only [Bool.true_and]; congr 1; exact decide_eq_decide.2 ⟨fun h => by omega, fun h => by omega⟩, rfl⟩)

theorem mapK_take {g : Nat → Int → Int} {zs : List Int} {k : Nat} : (mapK g zs).take k = mapK g (zs.take k) := by
  apply List.ext_getElem?
  intro i
  simp only [mapK, List.getElem?_take, List.getElem?_mapIdx]
  split <;> rfl
set_option maxHeartbeats 1000000 in
theorem r_Fold (A B : Option Addr) (n m c d : Nat) (hs xs : List Int) (w : World) (ha : Rd w .i64 A hs) (hb : Rd w .i64 B xs) (hn : n = hs.length) (hm : m = xs.length) (hn' : n ≤ 9223372036854775807) (hm' : m ≤ 9223372036854775807) :
    Gives Try.prog 61 #[.slice A n c, .slice B m d] w fun v w' => ∃ u, v = .tuple #[u, .int .i64 (argE (foldOk hs xs))] ∧ OwnK w' w.heap.size 3 .i64 u (foldV hs xs) ∧ Below w.heap.size w w' := by
  refine gives_enter Try.call61 Try.func61 rfl rfl rfl (by kernel_rfl) ?_
  rcases (by cases h1 : rowB hs <;> cases h2 : rowB xs <;> by_cases h3 : hs.length = xs.length <;> simp [h3] : rowB hs = false ∨ (rowB hs = true ∧ rowB xs = false) ∨ (rowB hs = true ∧ rowB xs = true ∧ hs.length ≠ xs.length) ∨ (rowB hs = true ∧ rowB xs = true ∧ hs.length = xs.length)) with r1 | ⟨r1, r2⟩ | ⟨r1, r2, hl⟩ | ⟨r1, r2, hl⟩
  · refine v_seq ?_
    refine v_region ?_
    refine vl_val (os_assign rfl) ?_
    refine vl_val (os_assign rfl) ?_
    refine vl_nil ?_
    refine v_seq ?_
    refine v_seq ?_
    refine v_region ?_
    refine vl_val (os_move rfl) ?_
    refine vl_call ((r_row A n c hs w ha hn hn').mono fun u w' hh => (⟨by rw [hh.1, r1], hh.2⟩ : u = .bool false ∧ w' = _)) rfl ?_
    rintro v1 w ⟨rfl, rfl⟩
    have hf : foldOk hs xs = false := by simp [foldOk, r1]
    refine vl_val (os_not rfl) ?_
    refine vl_val (os_move rfl) ?_
    refine vl_skip rfl rfl ?_
    refine vl_skip rfl rfl ?_
    refine vl_skip rfl rfl ?_
    refine vl_val (os_pick_t rfl rfl) ?_
    refine vl_val (os_move rfl) ?_
    refine vl_skip rfl rfl ?_
    refine vl_skip rfl rfl ?_
    refine vl_skip rfl rfl ?_
    refine vl_skip rfl rfl ?_
    refine vl_skip rfl rfl ?_
    refine vl_val (os_pick_t rfl rfl) ?_
    refine vl_nil ?_
    refine v_cond_t rfl ?_
    refine v_seq ?_
    refine v_region ?_
    refine vl_val (os_assign rfl) ?_
    refine vl_val (os_assign rfl) ?_
    refine vl_nil ?_
    refine v_ret ?_
    exact post_ret2 rfl rfl rfl (⟨_, by rw [hf]; rfl, by rw [foldV, hf]; exact Own.nil _ _ _, Below.refl _ _⟩)
  · refine v_seq ?_
    refine v_region ?_
    refine vl_val (os_assign rfl) ?_
    refine vl_val (os_assign rfl) ?_
    refine vl_nil ?_
    refine v_seq ?_
    refine v_seq ?_
    refine v_region ?_
    refine vl_val (os_move rfl) ?_
    refine vl_call ((r_row A n c hs w ha hn hn').mono fun u w' hh => (⟨by rw [hh.1, r1], hh.2⟩ : u = .bool true ∧ w' = _)) rfl ?_
    rintro v1 w ⟨rfl, rfl⟩
    refine vl_val (os_not rfl) ?_
    refine vl_val (os_move rfl) ?_
    refine vl_valg rfl (os_move rfl) ?_
    refine vl_callg rfl ((r_row B m d xs w hb hm hm').mono fun u w' hh => (⟨by rw [hh.1, r2], hh.2⟩ : u = .bool false ∧ w' = _)) rfl ?_
    rintro v2 w ⟨rfl, rfl⟩
    have hf : foldOk hs xs = false := by simp [foldOk, r2]
    refine vl_valg rfl (os_not rfl) ?_
    refine vl_val (os_pick_f rfl rfl) ?_
    refine vl_val (os_move rfl) ?_
    refine vl_skip rfl rfl ?_
    refine vl_skip rfl rfl ?_
    refine vl_skip rfl rfl ?_
    refine vl_skip rfl rfl ?_
    refine vl_skip rfl rfl ?_
    refine vl_val (os_pick_t rfl rfl) ?_
    refine vl_nil ?_
    refine v_cond_t rfl ?_
    refine v_seq ?_
    refine v_region ?_
    refine vl_val (os_assign rfl) ?_
    refine vl_val (os_assign rfl) ?_
    refine vl_nil ?_
    refine v_ret ?_
    exact post_ret2 rfl rfl rfl (⟨_, by rw [hf]; rfl, by rw [foldV, hf]; exact Own.nil _ _ _, Below.refl _ _⟩)
  · refine v_seq ?_
    refine v_region ?_
    refine vl_val (os_assign rfl) ?_
    refine vl_val (os_assign rfl) ?_
    refine vl_nil ?_
    refine v_seq ?_
    refine v_seq ?_
    refine v_region ?_
    refine vl_val (os_move rfl) ?_
    refine vl_call ((r_row A n c hs w ha hn hn').mono fun u w' hh => (⟨by rw [hh.1, r1], hh.2⟩ : u = .bool true ∧ w' = _)) rfl ?_
    rintro v1 w ⟨rfl, rfl⟩
    refine vl_val (os_not rfl) ?_
    refine vl_val (os_move rfl) ?_
    refine vl_valg rfl (os_move rfl) ?_
    refine vl_callg rfl ((r_row B m d xs w hb hm hm').mono fun u w' hh => (⟨by rw [hh.1, r2], hh.2⟩ : u = .bool true ∧ w' = _)) rfl ?_
    rintro v2 w ⟨rfl, rfl⟩
    refine vl_valg rfl (os_not rfl) ?_
    refine vl_val (os_pick_f rfl rfl) ?_
    refine vl_val (os_move rfl) ?_
    refine vl_valg rfl (os_move rfl) ?_
    refine vl_valg rfl (os_len Try.underlying40 rfl) ?_
    refine vl_valg rfl (os_move rfl) ?_
    refine vl_valg rfl (os_len Try.underlying40 rfl) ?_
    refine vl_valg rfl (os_t (os_neq rfl rfl) (by omega)) ?_
    have hf : foldOk hs xs = false := by simp [foldOk, hl]
    refine vl_val (os_pick_f rfl rfl) ?_
    refine vl_nil ?_
    refine v_cond_t rfl ?_
    refine v_seq ?_
    refine v_region ?_
    refine vl_val (os_assign rfl) ?_
    refine vl_val (os_assign rfl) ?_
    refine vl_nil ?_
    refine v_ret ?_
    exact post_ret2 rfl rfl rfl (⟨_, by rw [hf]; rfl, by rw [foldV, hf]; exact Own.nil _ _ _, Below.refl _ _⟩)
  · refine v_seq ?_
    refine v_region ?_
    refine vl_val (os_assign rfl) ?_
    refine vl_val (os_assign rfl) ?_
    refine vl_nil ?_
    refine v_seq ?_
    refine v_seq ?_
    refine v_region ?_
    refine vl_val (os_move rfl) ?_
    refine vl_call ((r_row A n c hs w ha hn hn').mono fun u w' hh => (⟨by rw [hh.1, r1], hh.2⟩ : u = .bool true ∧ w' = _)) rfl ?_
    rintro v1 w ⟨rfl, rfl⟩
    refine vl_val (os_not rfl) ?_
    refine vl_val (os_move rfl) ?_
    refine vl_valg rfl (os_move rfl) ?_
    refine vl_callg rfl ((r_row B m d xs w hb hm hm').mono fun u w' hh => (⟨by rw [hh.1, r2], hh.2⟩ : u = .bool true ∧ w' = _)) rfl ?_
    rintro v2 w ⟨rfl, rfl⟩
    refine vl_valg rfl (os_not rfl) ?_
    refine vl_val (os_pick_f rfl rfl) ?_
    refine vl_val (os_move rfl) ?_
    refine vl_valg rfl (os_move rfl) ?_
    refine vl_valg rfl (os_len Try.underlying40 rfl) ?_
    refine vl_valg rfl (os_move rfl) ?_
    refine vl_valg rfl (os_len Try.underlying40 rfl) ?_
    refine vl_valg rfl (os_f (os_neq rfl rfl) (by omega)) ?_
    have hf : foldOk hs xs = true := by simp [foldOk, r1, r2, hl]
    have hl256 := rowB_len r1
    refine vl_val (os_pick_f rfl rfl) ?_
    refine vl_nil ?_
    refine v_cond_f rfl ?_
    refine v_skip ?_
    refine v_seq ?_
    refine v_region ?_
    refine vl_val (os_assign rfl) ?_
    refine vl_nil ?_
    refine v_seq ?_
    refine v_seq ?_
    refine v_region ?_
    refine vl_val (os_assign rfl) ?_
    refine vl_nil ?_
    refine v_block ?_
    refine v_loop2 [(0, _), (1, _)] (fun (v : Value) (i : Nat) => [(6, v), (7, .int .i64 i)]) (fun v i w' => i ≤ n ∧ OwnK w' w.heap.size 3 .i64 v ((foldL hs xs).take i) ∧ Below w.heap.size w w') (fun v i => n - i) (.slice none 0 0) (0) ⟨rfl, rfl, trivial⟩ ⟨rfl, rfl, trivial⟩ (⟨by omega, by rw [List.take_zero]; exact Own.nil _ _ _, Below.refl _ _⟩) ?_
    rintro v i w' ⟨hi, ho, hbw⟩
    refine v_seq ?_
    refine v_seq ?_
    refine v_region ?_
    refine vl_val (os_move rfl) ?_
    refine vl_val (os_move rfl) ?_
    refine vl_val (os_len Try.underlying40 rfl) ?_
    refine vl_val (os_lss rfl rfl) ?_
    refine vl_nil ?_
    refine v_cond_d rfl (fun h => ?_) (fun h => ?_)
    · obtain ⟨bA, oA, rfl, hcA⟩ := (ha.keep hbw) (by omega)
      obtain ⟨bB, oB, rfl, hcB⟩ := (hb.keep hbw) (by omega)
      have hcA := hcA i (by omega)
      have hcB := hcB i (by omega)
      have hp1 := rowB_at r1 (k := i) (by omega)
      have hp2 := rowB_at r2 (k := i) (by omega)
      have hbl : blendV (hs.getD i 0) (xs.getD i 0) = foldG xs i (hs.getD i 0) := by rw [blendV, show blendOk (hs.getD i 0) (xs.getD i 0) = true by rw [blendOk, isB_yes hp1.1 hp1.2, isB_yes hp2.1 hp2.2]; rfl]; rfl
      refine v_skip ?_
      refine v_seq ?_
      refine v_block ?_
      refine v_seq ?_
      refine v_region_t LeD _ mixed (by kernel_rfl) lee_d (led_start _) ?_
      refine vt_val (fun w hw => os_move rfl) ?_
      refine vt_val (fun w hw => os_move rfl) ?_
      refine vt_val (fun w hw => os_ix Try.underlying40 Try.sizeOf3 rfl rfl (i := i) (by omega) (by omega)) ?_
      refine vt_val (fun w hw => os_load Try.isAgg3 rfl (led_cell hw (hcA))) ?_
      refine vt_val (fun w hw => os_move rfl) ?_
      refine vt_val (fun w hw => os_move rfl) ?_
      refine vt_val (fun w hw => os_ix Try.underlying40 Try.sizeOf3 rfl rfl (i := i) (by omega) (by omega)) ?_
      refine vt_val (fun w hw => os_load Try.isAgg3 rfl (led_cell hw (hcB))) ?_
      refine vt_call (v := _) (fun w hw => (r_Blend (hs.getD i 0) (xs.getD i 0) w).mono fun v w' hh => ⟨hh.1, by rw [hh.2]; exact lee_d.refl _⟩) rfl ?_
      refine vt_val (fun w hw => os_move rfl) ?_
      refine vt_val (fun w hw => os_extract rfl rfl) ?_
      refine vt_val (fun w hw => os_extract rfl rfl) ?_
      refine vt_val (fun w hw => os_assign rfl) ?_
      refine vt_val (fun w hw => os_assign rfl) ?_
      refine vt_nil (fun w hw => ?_)
      obtain ⟨q, rfl⟩ := hw
      refine v_region ?_
      refine vl_val (os_move rfl) ?_
      refine vl_val (os_move rfl) ?_
      refine vl_val (os_lit Try.underlying40 Try.sizeOf3 Try.zeroValue3 rfl rfl rfl rfl (by decide)) ?_
      refine vl_some (ot_append Try.underlying40 ti_int rfl rfl rfl (Own.alloc (Own.led ho ⟨q, rfl⟩) _) (rdc_alloc _ [Value.int .i64 (blendV (hs.getD i 0) (xs.getD i 0))] _) rfl (by simp [Value.oneCell']) (by rw [List.length_map, List.length_take]; omega) (by rw [List.length_map, List.length_take]; simp only [maxLen]; omega) (by have := hbw.size; simp; omega)) ?_
      rintro v5 w5 ⟨ho5, hg5⟩
      have ho2 := Own.alloc (Own.led ho ⟨q, rfl⟩) (.cells [Value.int .i64 (blendV (hs.getD i 0) (xs.getD i 0))].toArray 3)
      have hb2 := (hbw.trans ((led_below (w := w') ⟨q, rfl⟩).mono hbw.size)).alloc (by have := hbw.size; simp; omega) (.cells [Value.int .i64 (blendV (hs.getD i 0) (xs.getD i 0))].toArray 3)
      refine vl_val (os_assign rfl) ?_
      refine vl_nil ?_
      refine v_region ?_
      refine vl_val (os_move rfl) ?_
      refine vl_val (os_addi rfl rfl (by omega)) ?_
      refine vl_val (os_assign rfl) ?_
      refine vl_nil ?_
      exact ⟨⟨v5, i + 1⟩, ⟨rfl, rfl, trivial⟩, ⟨rfl, rfl, trivial⟩, ⟨by omega, by rw [foldL, mapK_take, mapK_take_succ hn (by omega), ← hbl, ← mapK_take]; simpa [OwnK, foldL] using ho5, Own.below hb2 ho2 hg5 (Nat.le_refl _) hb2.size⟩, by dsimp only; omega⟩
    · obtain rfl : n = i := by omega
      rw [List.take_of_length_le (by rw [foldL_len]; omega)] at ho
      refine v_exit ?_
      refine v_seq ?_
      refine v_region ?_
      refine vl_val (os_move rfl) ?_
      refine vl_val (os_assign rfl) ?_
      refine vl_val (os_assign rfl) ?_
      refine vl_nil ?_
      refine v_ret ?_
      exact post_ret2 rfl rfl rfl (⟨_, by rw [hf]; rfl, by rw [foldV, hf]; exact ho, hbw⟩)

theorem sum_take {hs : List Int} {k i : Nat} (hi : i < hs.length) (hk : k ≤ i) : ((hs.drop k).take (i + 1 - k)).sum = ((hs.drop k).take (i - k)).sum + hs.getD i 0 := by
  have e : i + 1 - k = (i - k) + 1 := by omega
  rw [e, List.take_succ_eq_append_getElem (by rw [List.length_drop]; omega), List.sum_append]
  simp [show k + (i - k) = i by omega, hi]
set_option maxHeartbeats 1000000 in
theorem r_Tails (A : Option Addr) (n c : Nat) (hs : List Int) (w : World) (ha : Rd w .i64 A hs) (hn : n = hs.length) (hn' : n ≤ 9223372036854775807) :
    Gives Try.prog 74 #[.slice A n c] w fun v w' => ∃ u, v = .tuple #[u, .int .i64 (argE (rowB hs))] ∧ OwnK w' w.heap.size 3 .i64 u (tailsV hs) ∧ Below w.heap.size w w' := by
  refine gives_enter Try.call74 Try.func74 rfl rfl rfl (by kernel_rfl) ?_
  rcases (by cases rowB hs <;> simp : rowB hs = false ∨ rowB hs = true) with r1 | r1
  · refine v_seq ?_
    refine v_region ?_
    refine vl_val (os_assign rfl) ?_
    refine vl_val (os_assign rfl) ?_
    refine vl_nil ?_
    refine v_seq ?_
    refine v_seq ?_
    refine v_region ?_
    refine vl_val (os_move rfl) ?_
    refine vl_call ((r_row A n c hs w ha hn hn').mono fun u w' hh => (⟨by rw [hh.1, r1], hh.2⟩ : u = .bool false ∧ w' = _)) rfl ?_
    rintro v1 w ⟨rfl, rfl⟩
    refine vl_val (os_not rfl) ?_
    refine vl_nil ?_
    refine v_cond_t rfl ?_
    refine v_seq ?_
    refine v_region ?_
    refine vl_val (os_assign rfl) ?_
    refine vl_val (os_assign rfl) ?_
    refine vl_nil ?_
    refine v_ret ?_
    exact post_ret2 rfl rfl rfl (⟨_, by rw [r1]; rfl, by rw [tailsV, r1]; exact Own.nil _ _ _, Below.refl _ _⟩)
  · refine v_seq ?_
    refine v_region ?_
    refine vl_val (os_assign rfl) ?_
    refine vl_val (os_assign rfl) ?_
    refine vl_nil ?_
    refine v_seq ?_
    refine v_seq ?_
    refine v_region ?_
    refine vl_val (os_move rfl) ?_
    refine vl_call ((r_row A n c hs w ha hn hn').mono fun u w' hh => (⟨by rw [hh.1, r1], hh.2⟩ : u = .bool true ∧ w' = _)) rfl ?_
    rintro v1 w ⟨rfl, rfl⟩
    have hl256 := rowB_len r1
    refine vl_val (os_not rfl) ?_
    refine vl_nil ?_
    refine v_cond_f rfl ?_
    refine v_skip ?_
    refine v_seq ?_
    refine v_region ?_
    refine vl_val (os_assign rfl) ?_
    refine vl_nil ?_
    refine v_seq ?_
    refine v_seq ?_
    refine v_region ?_
    refine vl_val (os_assign rfl) ?_
    refine vl_nil ?_
    refine v_block ?_
    refine v_loop2 [(0, _)] (fun (v : Value) (k : Nat) => [(4, v), (5, .int .i64 k)]) (fun v k w' => k ≤ n ∧ OwnK w' w.heap.size 3 .i64 v ((tailsL hs).take k) ∧ Below w.heap.size w w') (fun v k => n - k) (.slice none 0 0) (0) ⟨rfl, trivial⟩ ⟨rfl, rfl, trivial⟩ (⟨by omega, by rw [List.take_zero]; exact Own.nil _ _ _, Below.refl _ _⟩) ?_
    rintro v k w' ⟨hk, ho, hbw⟩
    refine v_seq ?_
    refine v_seq ?_
    refine v_region ?_
    refine vl_val (os_move rfl) ?_
    refine vl_val (os_move rfl) ?_
    refine vl_val (os_len Try.underlying40 rfl) ?_
    refine vl_val (os_lss rfl rfl) ?_
    refine vl_nil ?_
    refine v_cond_d rfl (fun h => ?_) (fun h => ?_)
    · obtain ⟨Hw, hHw⟩ : ∃ Hw, Hw = w' := ⟨_, rfl⟩
      refine v_skip ?_
      refine v_seq ?_
      refine v_block ?_
      refine v_seq ?_
      refine v_region ?_
      refine vl_val (os_assign rfl) ?_
      refine vl_nil ?_
      refine v_seq ?_
      refine v_seq ?_
      refine v_region ?_
      refine vl_val (os_move rfl) ?_
      refine vl_val (os_assign rfl) ?_
      refine vl_nil ?_
      refine v_block ?_
      refine v_loop2 [(0, _), (4, _), (5, _)] (fun (i : Nat) (s : Int) => [(6, .int .i64 s), (7, .int .i64 i)]) (fun i s w' => k ≤ i ∧ i ≤ n ∧ s = ((hs.drop k).take (i - k)).sum ∧ w' = Hw) (fun i s => n - i) (k) (0) ⟨rfl, rfl, rfl, trivial⟩ ⟨rfl, rfl, trivial⟩ (⟨by omega, by omega, by simp, hHw.symm⟩) ?_
      rintro i s w' ⟨hi1, hi, rfl, e⟩
      subst e
      subst hHw
      refine v_seq ?_
      refine v_seq ?_
      refine v_region ?_
      refine vl_val (os_move rfl) ?_
      refine vl_val (os_move rfl) ?_
      refine vl_val (os_len Try.underlying40 rfl) ?_
      refine vl_val (os_lss rfl rfl) ?_
      refine vl_nil ?_
      refine v_cond_d rfl (fun h2 => ?_) (fun h2 => ?_)
      · obtain ⟨bA, oA, rfl, hcA⟩ := (ha.keep hbw) (by omega)
        have hcA := hcA i (by omega)
        have hp1 := rowB_at r1 (k := i) (by omega)
        have hb1 : 0 ≤ ((hs.drop k).take (i - k)).sum := sum_nonneg fun z hz => (rowB_mem r1 z (List.mem_of_mem_drop (List.mem_of_mem_take hz))).1
        have hb2 : ((hs.drop k).take (i - k)).sum ≤ ((hs.drop k).take (i - k)).length * 65536 := sum_le_mul fun z hz => (rowB_mem r1 z (List.mem_of_mem_drop (List.mem_of_mem_take hz))).2
        have hb3 : ((hs.drop k).take (i - k)).length ≤ i - k := List.length_take_le _ _
        refine v_skip ?_
        refine v_seq ?_
        refine v_block ?_
        refine v_region ?_
        refine vl_val (os_move rfl) ?_
        refine vl_val (os_move rfl) ?_
        refine vl_val (os_move rfl) ?_
        refine vl_val (os_ix Try.underlying40 Try.sizeOf3 rfl rfl (i := i) (by omega) (by omega)) ?_
        refine vl_val (os_load Try.isAgg3 rfl (hcA)) ?_
        refine vl_val (os_addi rfl rfl (by omega)) ?_
        refine vl_val (os_assign rfl) ?_
        refine vl_nil ?_
        refine v_region ?_
        refine vl_val (os_move rfl) ?_
        refine vl_val (os_addi rfl rfl (by omega)) ?_
        refine vl_val (os_assign rfl) ?_
        refine vl_nil ?_
        exact ⟨⟨i + 1, _⟩, ⟨rfl, rfl, rfl, trivial⟩, ⟨rfl, rfl, trivial⟩, ⟨by omega, by omega, (sum_take (by omega) hi1).symm, rfl⟩, by dsimp only; omega⟩
      · obtain rfl : n = i := by omega
        have hS : ((hs.drop k).take (n - k)).sum = (hs.drop k).sum := by rw [List.take_of_length_le (by rw [List.length_drop]; omega)]
        refine v_exit ?_
        refine v_region ?_
        refine vl_val (os_move rfl) ?_
        refine vl_val (os_move rfl) ?_
        refine vl_val (os_min rfl rfl) ?_
        refine vl_val (os_lit Try.underlying40 Try.sizeOf3 Try.zeroValue3 rfl rfl rfl rfl (by decide)) ?_
        refine vl_some (ot_append Try.underlying40 ti_int rfl rfl rfl (Own.alloc ho _) (rdc_alloc _ [Value.int .i64 (min ((hs.drop k).take (n - k)).sum 65536)] _) rfl (by simp [Value.oneCell']) (by rw [List.length_map, List.length_take]; omega) (by rw [List.length_map, List.length_take]; simp only [maxLen]; omega) (by have := hbw.size; simp; omega)) ?_
        rintro v5 w5 ⟨ho5, hg5⟩
        refine vl_val (os_assign rfl) ?_
        refine vl_nil ?_
        refine v_region ?_
        refine vl_val (os_move rfl) ?_
        refine vl_val (os_addi rfl rfl (by omega)) ?_
        refine vl_val (os_assign rfl) ?_
        refine vl_nil ?_
        exact ⟨⟨v5, k + 1⟩, ⟨rfl, trivial⟩, ⟨rfl, rfl, trivial⟩, ⟨by omega, by rw [List.take_add_one, tailsL_at hs (by omega), tailAt, ← hS]; simpa [OwnK] using ho5, Own.below (hbw.alloc hbw.size _) (Own.alloc ho _) hg5 (Nat.le_refl _) (by have := hbw.size; simp; omega)⟩, by dsimp only; omega⟩
    · obtain rfl : n = k := by omega
      rw [List.take_of_length_le (by rw [tailsL_len]; omega)] at ho
      refine v_exit ?_
      refine v_seq ?_
      refine v_region ?_
      refine vl_val (os_move rfl) ?_
      refine vl_val (os_assign rfl) ?_
      refine vl_val (os_assign rfl) ?_
      refine vl_nil ?_
      refine v_ret ?_
      exact post_ret2 rfl rfl rfl (⟨_, by rw [r1]; rfl, by rw [tailsV, r1]; exact ho, hbw⟩)

end Go.Proofs.Ytpjmiafefammkaa
