/- Layer 23: the document's rows, and the walk of FixedRows. -/
import Derived.Test.YtpcfifheegfjiaaFixG
import Derived.Test.YtpcfifheegfjiaaFlEI
namespace Go.Proofs.Ytpcfifheegfjiaa
open Go.RowKit
set_option linter.unusedVariables false

theorem r_Is (a : Int) (w : World) : Gives Try.prog 24 #[.int .i64 a] w fun v w' => v = .bool (isB a) ∧ w' = w :=
  gives_of Try.call24 (ref23_Is a w) fun e w' ⟨h1, h2⟩ => ⟨_, h1, rfl, h2.symm⟩
theorem r_Blend (h x : Int) (w : World) : Gives Try.prog 22 #[.int .i64 h, .int .i64 x] w fun v w' => v = .tuple #[.int .i64 (blendV h x), .int .i64 (argE (blendOk h x))] ∧ w' = w :=
  gives_of Try.call22 (ref23_Blend h x w) fun e w' ⟨h1, h2⟩ => ⟨_, h1, rfl, h2.symm⟩

theorem r_row (A : Option Addr) (n c : Nat) (zs : List Int) (w : World) (ha : Rd w .i64 A zs) (hn : n = zs.length) (hn' : n ≤ 9223372036854775807) :
    Gives Try.prog 78 #[.slice A n c] w fun v w' => v = .bool (rowB zs) ∧ w' = w := by
  refine gives_enter Try.call78 Try.func78 rfl rfl rfl (by kernel_rfl) ?_
  refine v_seq ?_
  refine v_region ?_
  refine vl_val (os_assign rfl) ?_
  refine vl_nil ?_
  refine v_seq ?_
  refine v_seq ?_
  refine v_region ?_
  refine vl_val (os_assign rfl) ?_
  refine vl_nil ?_
  refine v_block ?_
  refine v_loop [(0, _)] (fun (i : Nat) => [(3, .int .i64 i)]) (fun i w' => i ≤ n ∧ (∀ j, j < i → isB (zs.getD j 0) = true) ∧ w' = w) (fun i => n - i) (0) ⟨rfl, trivial⟩ ⟨rfl, trivial⟩ (⟨by omega, fun j hj => absurd hj (by omega), rfl⟩) ?_
  rintro i w' ⟨hi, hall, rfl⟩
  refine v_seq ?_
  refine v_seq ?_
  refine v_region ?_
  refine vl_val (os_move rfl) ?_
  refine vl_val (os_move rfl) ?_
  refine vl_val (os_len Try.underlying37 rfl) ?_
  refine vl_val (os_lss rfl rfl) ?_
  refine vl_nil ?_
  refine v_cond_d rfl (fun h => ?_) (fun h => ?_)
  · obtain ⟨b, o, rfl, hc⟩ := ha.at_ (i := i) (by omega)
    rcases (by cases isB (zs.getD i 0) <;> simp : isB (zs.getD i 0) = false ∨ isB (zs.getD i 0) = true) with hB | hB
    · refine v_skip ?_
      refine v_seq ?_
      refine v_block ?_
      refine v_seq ?_
      refine v_region ?_
      refine vl_val (os_move rfl) ?_
      refine vl_val (os_move rfl) ?_
      refine vl_val (os_ix Try.underlying37 Try.sizeOf3 rfl rfl (i := i) (by omega) (by omega)) ?_
      refine vl_val (os_load Try.isAgg3 rfl (hc)) ?_
      refine vl_call ((r_Is _ _).mono fun u w' hh => (⟨by rw [hh.1, hB], hh.2⟩ : u = .bool false ∧ w' = _)) rfl ?_
      rintro v1 w1 ⟨rfl, rfl⟩
      have hr : rowB zs = false := by
        have e : zs.getD i 0 = zs[i]'(by omega) := by simp [show i < zs.length by omega]
        have : zs.any (fun n => !isB n) = true := List.any_eq_true.2 ⟨zs[i]'(by omega), List.getElem_mem _, by rw [← e, hB]; rfl⟩
        simp [rowB, this]
      refine vl_val (os_not rfl) ?_
      refine vl_nil ?_
      refine v_cond_t rfl ?_
      refine v_seq ?_
      refine v_region ?_
      refine vl_val (os_assign rfl) ?_
      refine vl_nil ?_
      refine v_ret ?_
      exact post_ret rfl rfl (⟨by rw [hr], rfl⟩)
    · refine v_skip ?_
      refine v_seq ?_
      refine v_block ?_
      refine v_seq ?_
      refine v_region ?_
      refine vl_val (os_move rfl) ?_
      refine vl_val (os_move rfl) ?_
      refine vl_val (os_ix Try.underlying37 Try.sizeOf3 rfl rfl (i := i) (by omega) (by omega)) ?_
      refine vl_val (os_load Try.isAgg3 rfl (hc)) ?_
      refine vl_call ((r_Is _ _).mono fun u w' hh => (⟨by rw [hh.1, hB], hh.2⟩ : u = .bool true ∧ w' = _)) rfl ?_
      rintro v1 w1 ⟨rfl, rfl⟩
      refine vl_val (os_not rfl) ?_
      refine vl_nil ?_
      refine v_cond_f rfl ?_
      refine v_skip ?_
      refine v_region ?_
      refine vl_val (os_move rfl) ?_
      refine vl_val (os_addi rfl rfl (by omega)) ?_
      refine vl_val (os_assign rfl) ?_
      refine vl_nil ?_
      exact ⟨i + 1, ⟨rfl, trivial⟩, ⟨rfl, trivial⟩, ⟨by omega, fun j hj => by by_cases e : j = i; (subst e; exact hB); (exact hall j (by omega)), rfl⟩, by dsimp only; omega⟩
  · obtain rfl : n = i := by omega
    have hany : zs.any (fun n => !isB n) = false := by
      rw [List.any_eq_false]
      intro z hz
      obtain ⟨j, hj, rfl⟩ := List.mem_iff_getElem.1 hz
      have := hall j (by omega)
      rw [show zs.getD j 0 = zs[j] by simp [hj]] at this
      simp [this]
    have hr : rowB zs = (decide (1 ≤ n) && decide (n ≤ 256)) := by simp only [rowB, hany, hn, Bool.not_false, Bool.and_true]; rfl
    rcases Nat.lt_or_ge n 1 with h1 | h1
    · refine v_exit ?_
      refine v_seq ?_
      refine v_region ?_
      refine vl_val (os_move rfl) ?_
      refine vl_val (os_len Try.underlying37 rfl) ?_
      refine vl_val (os_f (os_geq rfl rfl) (by omega)) ?_
      refine vl_val (os_move rfl) ?_
      refine vl_skip rfl rfl ?_
      refine vl_skip rfl rfl ?_
      refine vl_skip rfl rfl ?_
      refine vl_val (os_pick_f rfl rfl) ?_
      refine vl_val (os_assign rfl) ?_
      refine vl_nil ?_
      refine v_ret ?_
      exact post_ret rfl rfl (⟨by rw [hr, decide_eq_false (show ¬ 1 ≤ n by omega)]; rfl, rfl⟩)
    · refine v_exit ?_
      refine v_seq ?_
      refine v_region ?_
      refine vl_val (os_move rfl) ?_
      refine vl_val (os_len Try.underlying37 rfl) ?_
      refine vl_val (os_t (os_geq rfl rfl) (by omega)) ?_
      refine vl_val (os_move rfl) ?_
      refine vl_valg rfl (os_move rfl) ?_
      refine vl_valg rfl (os_len Try.underlying37 rfl) ?_
      refine vl_valg rfl (os_leq rfl rfl) ?_
      refine vl_val (os_pick_t rfl rfl) ?_
      refine vl_val (os_assign rfl) ?_
      refine vl_nil ?_
      refine v_ret ?_
      exact post_ret rfl rfl (⟨by rw [hr, decide_eq_true (show 1 ≤ n by omega)]; simp only [Bool.true_and]; congr 1; exact decide_eq_decide.2 ⟨fun h => by omega, fun h => by omega⟩, rfl⟩)

theorem mapK_take {g : Nat → Int → Int} {zs : List Int} {k : Nat} : (mapK g zs).take k = mapK g (zs.take k) := by
  apply List.ext_getElem?
  intro i
  simp only [mapK, List.getElem?_take, List.getElem?_mapIdx]
  split <;> rfl
set_option maxHeartbeats 1000000 in
theorem r_Fold (A B : Option Addr) (n m c d : Nat) (hs xs : List Int) (w : World) (ha : Rd w .i64 A hs) (hb : Rd w .i64 B xs) (hn : n = hs.length) (hm : m = xs.length) (hn' : n ≤ 9223372036854775807) (hm' : m ≤ 9223372036854775807) :
    Gives Try.prog 31 #[.slice A n c, .slice B m d] w fun v w' => ∃ u, v = .tuple #[u, .int .i64 (argE (foldOk hs xs))] ∧ OwnK w' w.heap.size 3 .i64 u (foldV hs xs) ∧ Below w.heap.size w w' := by
  refine gives_enter Try.call31 Try.func31 rfl rfl rfl (by kernel_rfl) ?_
  rcases (by cases h1 : rowB hs <;> cases h2 : rowB xs <;> by_cases h3 : hs.length = xs.length <;> simp [h3] : rowB hs = false ∨ (rowB hs = true ∧ rowB xs = false) ∨ (rowB hs = true ∧ rowB xs = true ∧ hs.length ≠ xs.length) ∨ (rowB hs = true ∧ rowB xs = true ∧ hs.length = xs.length)) with r1 | ⟨r1, r2⟩ | ⟨r1, r2, hl⟩ | ⟨r1, r2, hl⟩
  · refine v_seq ?_
    refine v_region ?_
    refine vl_val (os_assign rfl) ?_
    refine vl_val (os_assign rfl) ?_
    refine vl_nil ?_
    refine v_seq ?_
    refine v_seq ?_
    refine v_region ?_
    refine vl_val (os_move rfl) ?_
    refine vl_call ((r_row A n c hs w ha hn hn').mono fun u w' hh => (⟨by rw [hh.1, r1], hh.2⟩ : u = .bool false ∧ w' = _)) rfl ?_
    rintro v1 w ⟨rfl, rfl⟩
    have hf : foldOk hs xs = false := by simp [foldOk, r1]
    refine vl_val (os_not rfl) ?_
    refine vl_val (os_move rfl) ?_
    refine vl_skip rfl rfl ?_
    refine vl_skip rfl rfl ?_
    refine vl_skip rfl rfl ?_
    refine vl_val (os_pick_t rfl rfl) ?_
    refine vl_val (os_move rfl) ?_
    refine vl_skip rfl rfl ?_
    refine vl_skip rfl rfl ?_
    refine vl_skip rfl rfl ?_
    refine vl_skip rfl rfl ?_
    refine vl_skip rfl rfl ?_
    refine vl_val (os_pick_t rfl rfl) ?_
    refine vl_nil ?_
    refine v_cond_t rfl ?_
    refine v_seq ?_
    refine v_region ?_
    refine vl_val (os_assign rfl) ?_
    refine vl_val (os_assign rfl) ?_
    refine vl_nil ?_
    refine v_ret ?_
    exact post_ret2 rfl rfl rfl (⟨_, by rw [hf]; rfl, by rw [foldV, hf]; exact Own.nil _ _ _, Below.refl _ _⟩)
  · refine v_seq ?_
    refine v_region ?_
    refine vl_val (os_assign rfl) ?_
    refine vl_val (os_assign rfl) ?_
    refine vl_nil ?_
    refine v_seq ?_
    refine v_seq ?_
    refine v_region ?_
    refine vl_val (os_move rfl) ?_
    refine vl_call ((r_row A n c hs w ha hn hn').mono fun u w' hh => (⟨by rw [hh.1, r1], hh.2⟩ : u = .bool true ∧ w' = _)) rfl ?_
    rintro v1 w ⟨rfl, rfl⟩
    refine vl_val (os_not rfl) ?_
    refine vl_val (os_move rfl) ?_
    refine vl_valg rfl (os_move rfl) ?_
    refine vl_callg rfl ((r_row B m d xs w hb hm hm').mono fun u w' hh => (⟨by rw [hh.1, r2], hh.2⟩ : u = .bool false ∧ w' = _)) rfl ?_
    rintro v2 w ⟨rfl, rfl⟩
    have hf : foldOk hs xs = false := by simp [foldOk, r2]
    refine vl_valg rfl (os_not rfl) ?_
    refine vl_val (os_pick_f rfl rfl) ?_
    refine vl_val (os_move rfl) ?_
    refine vl_skip rfl rfl ?_
    refine vl_skip rfl rfl ?_
    refine vl_skip rfl rfl ?_
    refine vl_skip rfl rfl ?_
    refine vl_skip rfl rfl ?_
    refine vl_val (os_pick_t rfl rfl) ?_
    refine vl_nil ?_
    refine v_cond_t rfl ?_
    refine v_seq ?_
    refine v_region ?_
    refine vl_val (os_assign rfl) ?_
    refine vl_val (os_assign rfl) ?_
    refine vl_nil ?_
    refine v_ret ?_
    exact post_ret2 rfl rfl rfl (⟨_, by rw [hf]; rfl, by rw [foldV, hf]; exact Own.nil _ _ _, Below.refl _ _⟩)
  · refine v_seq ?_
    refine v_region ?_
    refine vl_val (os_assign rfl) ?_
    refine vl_val (os_assign rfl) ?_
    refine vl_nil ?_
    refine v_seq ?_
    refine v_seq ?_
    refine v_region ?_
    refine vl_val (os_move rfl) ?_
    refine vl_call ((r_row A n c hs w ha hn hn').mono fun u w' hh => (⟨by rw [hh.1, r1], hh.2⟩ : u = .bool true ∧ w' = _)) rfl ?_
    rintro v1 w ⟨rfl, rfl⟩
    refine vl_val (os_not rfl) ?_
    refine vl_val (os_move rfl) ?_
    refine vl_valg rfl (os_move rfl) ?_
    refine vl_callg rfl ((r_row B m d xs w hb hm hm').mono fun u w' hh => (⟨by rw [hh.1, r2], hh.2⟩ : u = .bool true ∧ w' = _)) rfl ?_
    rintro v2 w ⟨rfl, rfl⟩
    refine vl_valg rfl (os_not rfl) ?_
    refine vl_val (os_pick_f rfl rfl) ?_
    refine vl_val (os_move rfl) ?_
    refine vl_valg rfl (os_move rfl) ?_
    refine vl_valg rfl (os_len Try.underlying37 rfl) ?_
    refine vl_valg rfl (os_move rfl) ?_
    refine vl_valg rfl (os_len Try.underlying37 rfl) ?_
    refine vl_valg rfl (os_t (os_neq rfl rfl) (by omega)) ?_
    have hf : foldOk hs xs = false := by simp [foldOk, hl]
    refine vl_val (os_pick_f rfl rfl) ?_
    refine vl_nil ?_
    refine v_cond_t rfl ?_
    refine v_seq ?_
    refine v_region ?_
    refine vl_val (os_assign rfl) ?_
    refine vl_val (os_assign rfl) ?_
    refine vl_nil ?_
    refine v_ret ?_
    exact post_ret2 rfl rfl rfl (⟨_, by rw [hf]; rfl, by rw [foldV, hf]; exact Own.nil _ _ _, Below.refl _ _⟩)
  · refine v_seq ?_
    refine v_region ?_
    refine vl_val (os_assign rfl) ?_
    refine vl_val (os_assign rfl) ?_
    refine vl_nil ?_
    refine v_seq ?_
    refine v_seq ?_
    refine v_region ?_
    refine vl_val (os_move rfl) ?_
    refine vl_call ((r_row A n c hs w ha hn hn').mono fun u w' hh => (⟨by rw [hh.1, r1], hh.2⟩ : u = .bool true ∧ w' = _)) rfl ?_
    rintro v1 w ⟨rfl, rfl⟩
    refine vl_val (os_not rfl) ?_
    refine vl_val (os_move rfl) ?_
    refine vl_valg rfl (os_move rfl) ?_
    refine vl_callg rfl ((r_row B m d xs w hb hm hm').mono fun u w' hh => (⟨by rw [hh.1, r2], hh.2⟩ : u = .bool true ∧ w' = _)) rfl ?_
    rintro v2 w ⟨rfl, rfl⟩
    refine vl_valg rfl (os_not rfl) ?_
    refine vl_val (os_pick_f rfl rfl) ?_
    refine vl_val (os_move rfl) ?_
    refine vl_valg rfl (os_move rfl) ?_
    refine vl_valg rfl (os_len Try.underlying37 rfl) ?_
    refine vl_valg rfl (os_move rfl) ?_
    refine vl_valg rfl (os_len Try.underlying37 rfl) ?_
    refine vl_valg rfl (os_f (os_neq rfl rfl) (by omega)) ?_
    have hf : foldOk hs xs = true := by simp [foldOk, r1, r2, hl]
    have hl256 := rowB_len r1
    refine vl_val (os_pick_f rfl rfl) ?_
    refine vl_nil ?_
    refine v_cond_f rfl ?_
    refine v_skip ?_
    refine v_seq ?_
    refine v_region ?_
    refine vl_val (os_assign rfl) ?_
    refine vl_nil ?_
    refine v_seq ?_
    refine v_seq ?_
    refine v_region ?_
    refine vl_val (os_assign rfl) ?_
    refine vl_nil ?_
    refine v_block ?_
    refine v_loop2 [(0, _), (1, _)] (fun (v : Value) (i : Nat) => [(6, v), (7, .int .i64 i)]) (fun v i w' => i ≤ n ∧ OwnK w' w.heap.size 3 .i64 v ((foldL hs xs).take i) ∧ Below w.heap.size w w') (fun v i => n - i) (.slice none 0 0) (0) ⟨rfl, rfl, trivial⟩ ⟨rfl, rfl, trivial⟩ (⟨by omega, by rw [List.take_zero]; exact Own.nil _ _ _, Below.refl _ _⟩) ?_
    rintro v i w' ⟨hi, ho, hbw⟩
    refine v_seq ?_
    refine v_seq ?_
    refine v_region ?_
    refine vl_val (os_move rfl) ?_
    refine vl_val (os_move rfl) ?_
    refine vl_val (os_len Try.underlying37 rfl) ?_
    refine vl_val (os_lss rfl rfl) ?_
    refine vl_nil ?_
    refine v_cond_d rfl (fun h => ?_) (fun h => ?_)
    · obtain ⟨bA, oA, rfl, hcA⟩ := (ha.keep hbw) (by omega)
      obtain ⟨bB, oB, rfl, hcB⟩ := (hb.keep hbw) (by omega)
      have hcA := hcA i (by omega)
      have hcB := hcB i (by omega)
      have hp1 := rowB_at r1 (k := i) (by omega)
      have hp2 := rowB_at r2 (k := i) (by omega)
      have hbl : blendV (hs.getD i 0) (xs.getD i 0) = foldG xs i (hs.getD i 0) := by rw [blendV, show blendOk (hs.getD i 0) (xs.getD i 0) = true by rw [blendOk, isB_yes hp1.1 hp1.2, isB_yes hp2.1 hp2.2]; rfl]; rfl
      refine v_skip ?_
      refine v_seq ?_
      refine v_block ?_
      refine v_seq ?_
      refine v_region_t LeD _ mixed (by kernel_rfl) lee_d (led_start _) ?_
      refine vt_val (fun w hw => os_move rfl) ?_
      refine vt_val (fun w hw => os_move rfl) ?_
      refine vt_val (fun w hw => os_ix Try.underlying37 Try.sizeOf3 rfl rfl (i := i) (by omega) (by omega)) ?_
      refine vt_val (fun w hw => os_load Try.isAgg3 rfl (led_cell hw (hcA))) ?_
      refine vt_val (fun w hw => os_move rfl) ?_
      refine vt_val (fun w hw => os_move rfl) ?_
      refine vt_val (fun w hw => os_ix Try.underlying37 Try.sizeOf3 rfl rfl (i := i) (by omega) (by omega)) ?_
      refine vt_val (fun w hw => os_load Try.isAgg3 rfl (led_cell hw (hcB))) ?_
      refine vt_call (v := _) (fun w hw => (r_Blend (hs.getD i 0) (xs.getD i 0) w).mono fun v w' hh => ⟨hh.1, by rw [hh.2]; exact lee_d.refl _⟩) rfl ?_
      refine vt_val (fun w hw => os_move rfl) ?_
      refine vt_val (fun w hw => os_extract rfl rfl) ?_
      refine vt_val (fun w hw => os_extract rfl rfl) ?_
      refine vt_val (fun w hw => os_assign rfl) ?_
      refine vt_val (fun w hw => os_assign rfl) ?_
      refine vt_nil (fun w hw => ?_)
      obtain ⟨q, rfl⟩ := hw
      refine v_region ?_
      refine vl_val (os_move rfl) ?_
      refine vl_val (os_move rfl) ?_
      refine vl_val (os_lit Try.underlying37 Try.sizeOf3 Try.zeroValue3 rfl rfl rfl rfl (by decide)) ?_
      refine vl_some (ot_append Try.underlying37 ti_int rfl rfl rfl (Own.alloc (Own.led ho ⟨q, rfl⟩) _) (rdc_alloc _ [Value.int .i64 (blendV (hs.getD i 0) (xs.getD i 0))] _) rfl (by simp [Value.oneCell']) (by rw [List.length_map, List.length_take]; omega) (by rw [List.length_map, List.length_take]; simp only [maxLen]; omega) (by have := hbw.size; simp; omega)) ?_
      rintro v5 w5 ⟨ho5, hg5⟩
      have ho2 := Own.alloc (Own.led ho ⟨q, rfl⟩) (.cells [Value.int .i64 (blendV (hs.getD i 0) (xs.getD i 0))].toArray 3)
      have hb2 := (hbw.trans ((led_below (w := w') ⟨q, rfl⟩).mono hbw.size)).alloc (by have := hbw.size; simp; omega) (.cells [Value.int .i64 (blendV (hs.getD i 0) (xs.getD i 0))].toArray 3)
      refine vl_val (os_assign rfl) ?_
      refine vl_nil ?_
      refine v_region ?_
      refine vl_val (os_move rfl) ?_
      refine vl_val (os_addi rfl rfl (by omega)) ?_
      refine vl_val (os_assign rfl) ?_
      refine vl_nil ?_
      exact ⟨⟨v5, i + 1⟩, ⟨rfl, rfl, trivial⟩, ⟨rfl, rfl, trivial⟩, ⟨by omega, by rw [foldL, mapK_take, mapK_take_succ hn (by omega), ← hbl, ← mapK_take]; simpa [OwnK, foldL] using ho5, Own.below hb2 ho2 hg5 (Nat.le_refl _) hb2.size⟩, by dsimp only; omega⟩
    · obtain rfl : n = i := by omega
      rw [List.take_of_length_le (by rw [foldL_len]; omega)] at ho
      refine v_exit ?_
      refine v_seq ?_
      refine v_region ?_
      refine vl_val (os_move rfl) ?_
      refine vl_val (os_assign rfl) ?_
      refine vl_val (os_assign rfl) ?_
      refine vl_nil ?_
      refine v_ret ?_
      exact post_ret2 rfl rfl rfl (⟨_, by rw [hf]; rfl, by rw [foldV, hf]; exact ho, hbw⟩)

theorem sum_take {hs : List Int} {k i : Nat} (hi : i < hs.length) (hk : k ≤ i) : ((hs.drop k).take (i + 1 - k)).sum = ((hs.drop k).take (i - k)).sum + hs.getD i 0 := by
  have e : i + 1 - k = (i - k) + 1 := by omega
  rw [e, List.take_succ_eq_append_getElem (by rw [List.length_drop]; omega), List.sum_append]
  simp [show k + (i - k) = i by omega, hi]
set_option maxHeartbeats 1000000 in
theorem r_Tails (A : Option Addr) (n c : Nat) (hs : List Int) (w : World) (ha : Rd w .i64 A hs) (hn : n = hs.length) (hn' : n ≤ 9223372036854775807) :
    Gives Try.prog 33 #[.slice A n c] w fun v w' => ∃ u, v = .tuple #[u, .int .i64 (argE (rowB hs))] ∧ OwnK w' w.heap.size 3 .i64 u (tailsV hs) ∧ Below w.heap.size w w' := by
  refine gives_enter Try.call33 Try.func33 rfl rfl rfl (by kernel_rfl) ?_
  rcases (by cases rowB hs <;> simp : rowB hs = false ∨ rowB hs = true) with r1 | r1
  · refine v_seq ?_
    refine v_region ?_
    refine vl_val (os_assign rfl) ?_
    refine vl_val (os_assign rfl) ?_
    refine vl_nil ?_
    refine v_seq ?_
    refine v_seq ?_
    refine v_region ?_
    refine vl_val (os_move rfl) ?_
    refine vl_call ((r_row A n c hs w ha hn hn').mono fun u w' hh => (⟨by rw [hh.1, r1], hh.2⟩ : u = .bool false ∧ w' = _)) rfl ?_
    rintro v1 w ⟨rfl, rfl⟩
    refine vl_val (os_not rfl) ?_
    refine vl_nil ?_
    refine v_cond_t rfl ?_
    refine v_seq ?_
    refine v_region ?_
    refine vl_val (os_assign rfl) ?_
    refine vl_val (os_assign rfl) ?_
    refine vl_nil ?_
    refine v_ret ?_
    exact post_ret2 rfl rfl rfl (⟨_, by rw [r1]; rfl, by rw [tailsV, r1]; exact Own.nil _ _ _, Below.refl _ _⟩)
  · refine v_seq ?_
    refine v_region ?_
    refine vl_val (os_assign rfl) ?_
    refine vl_val (os_assign rfl) ?_
    refine vl_nil ?_
    refine v_seq ?_
    refine v_seq ?_
    refine v_region ?_
    refine vl_val (os_move rfl) ?_
    refine vl_call ((r_row A n c hs w ha hn hn').mono fun u w' hh => (⟨by rw [hh.1, r1], hh.2⟩ : u = .bool true ∧ w' = _)) rfl ?_
    rintro v1 w ⟨rfl, rfl⟩
    have hl256 := rowB_len r1
    refine vl_val (os_not rfl) ?_
    refine vl_nil ?_
    refine v_cond_f rfl ?_
    refine v_skip ?_
    refine v_seq ?_
    refine v_region ?_
    refine vl_val (os_assign rfl) ?_
    refine vl_nil ?_
    refine v_seq ?_
    refine v_seq ?_
    refine v_region ?_
    refine vl_val (os_assign rfl) ?_
    refine vl_nil ?_
    refine v_block ?_
    refine v_loop2 [(0, _)] (fun (v : Value) (k : Nat) => [(4, v), (5, .int .i64 k)]) (fun v k w' => k ≤ n ∧ OwnK w' w.heap.size 3 .i64 v ((tailsL hs).take k) ∧ Below w.heap.size w w') (fun v k => n - k) (.slice none 0 0) (0) ⟨rfl, trivial⟩ ⟨rfl, rfl, trivial⟩ (⟨by omega, by rw [List.take_zero]; exact Own.nil _ _ _, Below.refl _ _⟩) ?_
    rintro v k w' ⟨hk, ho, hbw⟩
    refine v_seq ?_
    refine v_seq ?_
    refine v_region ?_
    refine vl_val (os_move rfl) ?_
    refine vl_val (os_move rfl) ?_
    refine vl_val (os_len Try.underlying37 rfl) ?_
    refine vl_val (os_lss rfl rfl) ?_
    refine vl_nil ?_
    refine v_cond_d rfl (fun h => ?_) (fun h => ?_)
    · obtain ⟨Hw, hHw⟩ : ∃ Hw, Hw = w' := ⟨_, rfl⟩
      refine v_skip ?_
      refine v_seq ?_
      refine v_block ?_
      refine v_seq ?_
      refine v_region ?_
      refine vl_val (os_assign rfl) ?_
      refine vl_nil ?_
      refine v_seq ?_
      refine v_seq ?_
      refine v_region ?_
      refine vl_val (os_move rfl) ?_
      refine vl_val (os_assign rfl) ?_
      refine vl_nil ?_
      refine v_block ?_
      refine v_loop2 [(0, _), (4, _), (5, _)] (fun (i : Nat) (s : Int) => [(6, .int .i64 s), (7, .int .i64 i)]) (fun i s w' => k ≤ i ∧ i ≤ n ∧ s = ((hs.drop k).take (i - k)).sum ∧ w' = Hw) (fun i s => n - i) (k) (0) ⟨rfl, rfl, rfl, trivial⟩ ⟨rfl, rfl, trivial⟩ (⟨by omega, by omega, by simp, hHw.symm⟩) ?_
      rintro i s w' ⟨hi1, hi, rfl, e⟩
      subst e
      subst hHw
      refine v_seq ?_
      refine v_seq ?_
      refine v_region ?_
      refine vl_val (os_move rfl) ?_
      refine vl_val (os_move rfl) ?_
      refine vl_val (os_len Try.underlying37 rfl) ?_
      refine vl_val (os_lss rfl rfl) ?_
      refine vl_nil ?_
      refine v_cond_d rfl (fun h2 => ?_) (fun h2 => ?_)
      · obtain ⟨bA, oA, rfl, hcA⟩ := (ha.keep hbw) (by omega)
        have hcA := hcA i (by omega)
        have hp1 := rowB_at r1 (k := i) (by omega)
        have hb1 : 0 ≤ ((hs.drop k).take (i - k)).sum := sum_nonneg fun z hz => (rowB_mem r1 z (List.mem_of_mem_drop (List.mem_of_mem_take hz))).1
        have hb2 : ((hs.drop k).take (i - k)).sum ≤ ((hs.drop k).take (i - k)).length * 65536 := sum_le_mul fun z hz => (rowB_mem r1 z (List.mem_of_mem_drop (List.mem_of_mem_take hz))).2
        have hb3 : ((hs.drop k).take (i - k)).length ≤ i - k := List.length_take_le _ _
        refine v_skip ?_
        refine v_seq ?_
        refine v_block ?_
        refine v_region ?_
        refine vl_val (os_move rfl) ?_
        refine vl_val (os_move rfl) ?_
        refine vl_val (os_move rfl) ?_
        refine vl_val (os_ix Try.underlying37 Try.sizeOf3 rfl rfl (i := i) (by omega) (by omega)) ?_
        refine vl_val (os_load Try.isAgg3 rfl (hcA)) ?_
        refine vl_val (os_addi rfl rfl (by omega)) ?_
        refine vl_val (os_assign rfl) ?_
        refine vl_nil ?_
        refine v_region ?_
        refine vl_val (os_move rfl) ?_
        refine vl_val (os_addi rfl rfl (by omega)) ?_
        refine vl_val (os_assign rfl) ?_
        refine vl_nil ?_
        exact ⟨⟨i + 1, _⟩, ⟨rfl, rfl, rfl, trivial⟩, ⟨rfl, rfl, trivial⟩, ⟨by omega, by omega, (sum_take (by omega) hi1).symm, rfl⟩, by dsimp only; omega⟩
      · obtain rfl : n = i := by omega
        have hS : ((hs.drop k).take (n - k)).sum = (hs.drop k).sum := by rw [List.take_of_length_le (by rw [List.length_drop]; omega)]
        refine v_exit ?_
        refine v_region ?_
        refine vl_val (os_move rfl) ?_
        refine vl_val (os_move rfl) ?_
        refine vl_val (os_min rfl rfl) ?_
        refine vl_val (os_lit Try.underlying37 Try.sizeOf3 Try.zeroValue3 rfl rfl rfl rfl (by decide)) ?_
        refine vl_some (ot_append Try.underlying37 ti_int rfl rfl rfl (Own.alloc ho _) (rdc_alloc _ [Value.int .i64 (min ((hs.drop k).take (n - k)).sum 65536)] _) rfl (by simp [Value.oneCell']) (by rw [List.length_map, List.length_take]; omega) (by rw [List.length_map, List.length_take]; simp only [maxLen]; omega) (by have := hbw.size; simp; omega)) ?_
        rintro v5 w5 ⟨ho5, hg5⟩
        refine vl_val (os_assign rfl) ?_
        refine vl_nil ?_
        refine v_region ?_
        refine vl_val (os_move rfl) ?_
        refine vl_val (os_addi rfl rfl (by omega)) ?_
        refine vl_val (os_assign rfl) ?_
        refine vl_nil ?_
        exact ⟨⟨v5, k + 1⟩, ⟨rfl, trivial⟩, ⟨rfl, rfl, trivial⟩, ⟨by omega, by rw [List.take_add_one, tailsL_at hs (by omega), tailAt, ← hS]; simpa [OwnK] using ho5, Own.below (hbw.alloc hbw.size _) (Own.alloc ho _) hg5 (Nat.le_refl _) (by have := hbw.size; simp; omega)⟩, by dsimp only; omega⟩
    · obtain rfl : n = k := by omega
      rw [List.take_of_length_le (by rw [tailsL_len]; omega)] at ho
      refine v_exit ?_
      refine v_seq ?_
      refine v_region ?_
      refine vl_val (os_move rfl) ?_
      refine vl_val (os_assign rfl) ?_
      refine vl_val (os_assign rfl) ?_
      refine vl_nil ?_
      refine v_ret ?_
      exact post_ret2 rfl rfl rfl (⟨_, by rw [r1]; rfl, by rw [tailsV, r1]; exact ho, hbw⟩)

set_option maxHeartbeats 1000000 in
theorem law23_FixedRows (A B : Option Addr) (n m c d : Nat) (hs xs : List Int) (w : World) (ha : Rd w .i64 A hs) (hb : Rd w .i64 B xs) (hn : n = hs.length) (hm : m = xs.length)
    (hn' : n ≤ 17592186044416) (hm' : m ≤ 17592186044416) (ih : AllI hs) (ix : AllI xs) :
    Gives Try.prog 7 #[.slice A n c, .slice B m d] w fun v w' => v = .bool true ∧ Below w.heap.size w w' := by
  refine gives_enter Try.call7 Try.func7 rfl rfl rfl (by kernel_rfl) ?_
  refine v_seq ?_
  refine v_region ?_
  refine vl_val (os_assign rfl) ?_
  refine vl_nil ?_
  refine v_seq ?_
  refine v_seq ?_
  refine v_region ?_
  refine vl_val (os_move rfl) ?_
  refine vl_val (os_len Try.underlying37 rfl) ?_
  refine vl_val (os_move rfl) ?_
  refine vl_val (os_len Try.underlying37 rfl) ?_
  refine vl_val (os_addi rfl rfl (by omega)) ?_
  refine vl_val (os_gtr rfl rfl) ?_
  refine vl_nil ?_
  refine v_cond_d rfl (fun hbig => ?_) (fun hbig => ?_)
  · refine v_seq ?_
    refine v_region ?_
    refine vl_call (g_awake w) rfl ?_
    rintro v1 w1 ⟨rfl, hb1⟩
    refine vl_val (os_assign rfl) ?_
    refine vl_nil ?_
    refine v_ret ?_
    exact post_ret rfl rfl (⟨rfl, hb1⟩)
  · refine v_skip ?_
    refine v_seq ?_
    refine v_region ?_
    refine vl_val (os_move rfl) ?_
    refine vl_call (kit_LentInts A n c hs w ha hn (by omega)) rfl ?_
    rintro v1 w1 ⟨hl1, hb1⟩
    obtain ⟨g1, C1, rfl, hC1, hM1, hg1, hg1', rd1⟩ := hl1.form
    have ha1 := ha.keep hb1
    have hx1 := hb.keep hb1
    refine vl_val (os_move rfl) ?_
    refine vl_call (kit_LentInts B m d xs w1 hx1 hm (by omega)) rfl ?_
    rintro v2 w2 ⟨hl2, hb2⟩
    obtain ⟨g2, C2, rfl, hC2, hM2, hg2, hg2', rd2⟩ := hl2.form
    have b2 : Below w.heap.size w w2 := hb1.trans (hb2.mono hb1.size)
    have hl1 := hl1.keep hb2
    have rd1 := rd1.keep hb2
    refine vl_val (os_assign rfl) ?_
    refine vl_val (os_assign rfl) ?_
    refine vl_nil ?_
    refine v_seq ?_
    refine v_region ?_
    refine vl_val (os_move rfl) ?_
    refine vl_val (os_move rfl) ?_
    refine vl_call (g_Fold (some ⟨g1, 0, none⟩) (some ⟨g2, 0, none⟩) _ _ C1 C2 hs xs w2 rd1 rd2 rfl rfl (by omega) (by omega) ih ix) rfl ?_
    rintro v3 w3 ⟨u3, rfl, o3, hb3⟩
    have o3 : OwnK w3 w2.heap.size 3 .i64 u3 (foldV hs xs) := by have := o3; unfold OwnI at this; unfold OwnK Own; rwa [List.length_map]
    have k3 : Below w2.heap.size w2 w3 := hb3
    have q3 : Below w.heap.size w w3 := b2.trans (hb3.mono b2.size)
    refine vl_val (os_move rfl) ?_
    refine vl_val (os_extract rfl rfl) ?_
    refine vl_val (os_extract rfl rfl) ?_
    refine vl_val (os_assign rfl) ?_
    refine vl_val (os_assign rfl) ?_
    refine vl_nil ?_
    refine v_seq ?_
    refine v_region ?_
    refine vl_val (os_move rfl) ?_
    refine vl_val (os_move rfl) ?_
    refine vl_call (r_Fold A B n m c d hs xs w3 (ha.keep q3) (hb.keep q3) hn hm (by omega) (by omega)) rfl ?_
    rintro v4 w4 ⟨u4, rfl, o4, hb4⟩
    have k4 := k3.trans (hb4.mono k3.size)
    refine vl_val (os_move rfl) ?_
    refine vl_val (os_extract rfl rfl) ?_
    refine vl_val (os_extract rfl rfl) ?_
    refine vl_val (os_assign rfl) ?_
    refine vl_val (os_assign rfl) ?_
    refine vl_nil ?_
    refine v_seq ?_
    refine v_region ?_
    refine vl_val (os_move rfl) ?_
    refine vl_call (g_Tails (some ⟨g1, 0, none⟩) _ C1 hs w4 (rd1.keep k4) rfl (by omega) ih) rfl ?_
    rintro v5 w5 ⟨u5, rfl, o5, hb5⟩
    have o5 : OwnK w5 w4.heap.size 3 .i64 u5 (tailsV hs) := by have := o5; unfold OwnI at this; unfold OwnK Own; rwa [List.length_map]
    have k5 := k4.trans (hb5.mono k4.size)
    have q5 : Below w.heap.size w w5 := b2.trans (k5.mono b2.size)
    refine vl_val (os_move rfl) ?_
    refine vl_val (os_extract rfl rfl) ?_
    refine vl_val (os_extract rfl rfl) ?_
    refine vl_val (os_assign rfl) ?_
    refine vl_val (os_assign rfl) ?_
    refine vl_nil ?_
    refine v_seq ?_
    refine v_region ?_
    refine vl_val (os_move rfl) ?_
    refine vl_call (r_Tails A n c hs w5 (ha.keep q5) hn (by omega)) rfl ?_
    rintro v6 w6 ⟨u6, rfl, o6, hb6⟩
    have k6 := k5.trans (hb6.mono k5.size)
    refine vl_val (os_move rfl) ?_
    refine vl_val (os_extract rfl rfl) ?_
    refine vl_val (os_extract rfl rfl) ?_
    refine vl_val (os_assign rfl) ?_
    refine vl_val (os_assign rfl) ?_
    refine vl_nil ?_
    refine v_seq ?_
    refine v_region ?_
    refine vl_val (os_move rfl) ?_
    refine vl_call (g_Tails (some ⟨g1, 0, none⟩) _ C1 hs w6 (rd1.keep k6) rfl (by omega) ih) rfl ?_
    rintro v7 w7 ⟨u7, rfl, o7, hb7⟩
    have o7 : OwnK w7 w6.heap.size 3 .i64 u7 (tailsV hs) := by have := o7; unfold OwnI at this; unfold OwnK Own; rwa [List.length_map]
    have k7 := k6.trans (hb7.mono k6.size)
    have lf : (foldV hs xs).length ≤ 1000 := by unfold foldV; split; (rw [foldL_len]; omega); simp
    have lt : (tailsV hs).length ≤ 1000 := by unfold tailsV; split; (rw [tailsL_len]; omega); simp
    have s35 : sep u3 u5 := sep_lt o3 o5 hb4.size
    have s37 : sep u3 u7 := sep_lt o3 o7 (Nat.le_trans hb4.size (Nat.le_trans hb5.size hb6.size))
    have s57 : sep u5 u7 := sep_lt o5 o7 hb6.size
    have h57 : Below w5.heap.size w5 w7 := hb6.trans (hb7.mono hb6.size)
    have h47 : Below w4.heap.size w4 w7 := hb5.trans (h57.mono hb5.size)
    have h37 : Below w3.heap.size w3 w7 := hb4.trans (h47.mono hb4.size)
    have o3 := Own.keepAll o3 h37
    have o4 := Own.keepAll o4 h47
    have o5 := Own.keepAll o5 h57
    have o6 := Own.keepAll o6 hb7
    obtain ⟨A3, c3, rfl, _, _, hr3, _⟩ := OwnK.form o3
    obtain ⟨A4, c4, rfl, _, _, hr4, _⟩ := OwnK.form o4
    obtain ⟨A5, c5, rfl, _, _, hr5, _⟩ := OwnK.form o5
    obtain ⟨A6, c6, rfl, _, _, hr6, _⟩ := OwnK.form o6
    obtain ⟨A7, c7, rfl, _, _, hr7, _⟩ := OwnK.form o7
    refine vl_val (os_move rfl) ?_
    refine vl_val (os_extract rfl rfl) ?_
    refine vl_val (os_extract rfl rfl) ?_
    refine vl_val (os_assign rfl) ?_
    refine vl_val (os_assign rfl) ?_
    refine vl_nil ?_
    refine v_seq ?_
    refine v_region ?_
    refine vl_val (os_move rfl) ?_
    refine vl_val (os_move rfl) ?_
    refine vl_val (os_t (os_eql rfl rfl) (rfl)) ?_
    refine vl_val (os_move rfl) ?_
    refine vl_valg rfl (os_move rfl) ?_
    refine vl_valg rfl (os_move rfl) ?_
    refine vl_callg rfl ((kit_SameInts A3 A4 _ _ c3 c4 _ _ w7 hr3 hr4 rfl rfl (by omega) (by omega)).mono fun v w' hh => (⟨by rw [hh.1, decide_eq_true rfl], hh.2⟩ : v = .bool true ∧ LeD w7 w')) rfl ?_
    rintro v8 w8 ⟨rfl, d8⟩
    refine vl_val (os_pick_t rfl rfl) ?_
    refine vl_val (os_move rfl) ?_
    refine vl_valg rfl (os_move rfl) ?_
    refine vl_valg rfl (os_move rfl) ?_
    refine vl_valg rfl (os_t (os_eql rfl rfl) (rfl)) ?_
    refine vl_val (os_pick_t rfl rfl) ?_
    refine vl_val (os_move rfl) ?_
    refine vl_valg rfl (os_move rfl) ?_
    refine vl_valg rfl (os_move rfl) ?_
    refine vl_callg rfl ((kit_SameInts A5 A6 _ _ c5 c6 _ _ w8 (hr5.led d8) (hr6.led d8) rfl rfl (by omega) (by omega)).mono fun v w' hh => (⟨by rw [hh.1, decide_eq_true rfl], hh.2⟩ : v = .bool true ∧ LeD w8 w')) rfl ?_
    rintro v9 w9 ⟨rfl, d9⟩
    have d79 := lee_d.trans d8 d9
    have k9 : Below w2.heap.size w2 w9 := k7.trans ((led_below d79).mono k7.size)
    have k9a := k9.alloc k9.size (.cells #[.slice A3 (foldV hs xs).length c3, .slice A5 (tailsV hs).length c5, .slice A7 (tailsV hs).length c7] 37)
    have ba : Below w9.heap.size w9 (w9.alloc (.cells #[.slice A3 (foldV hs xs).length c3, .slice A5 (tailsV hs).length c5, .slice A7 (tailsV hs).length c7] 37)) := (Below.refl _ _).alloc (Nat.le_refl _) _
    have hown := all3 (P := fun j v => Own (w9.alloc (.cells #[.slice A3 (foldV hs xs).length c3, .slice A5 (tailsV hs).length c5, .slice A7 (tailsV hs).length c7] 37)) w2.heap.size 3 v (([foldV hs xs, tailsV hs, tailsV hs].getD j []).map (Value.int .i64))) (((Own.led o3 d79).keepAll ba)) (((Own.led o5 d79).keepAll ba).mono (by have := k4.size; omega)) (((Own.led o7 d79).keepAll ba).mono (by have := k6.size; omega))
    refine vl_val (os_pick_t rfl rfl) ?_
    refine vl_val (os_move rfl) ?_
    refine vl_valg rfl (os_move rfl) ?_
    refine vl_valg rfl (os_move rfl) ?_
    refine vl_valg rfl (os_move rfl) ?_
    refine vl_valg rfl (os_lit Try.underlying47 Try.sizeOf37 Try.zeroValue37 rfl rfl rfl rfl (by decide)) ?_
    refine vl_callg rfl (kit_ApartInts (some ⟨w9.heap.size, 0, none⟩) 3 3 w2.heap.size [.slice A3 (foldV hs xs).length c3, .slice A5 (tailsV hs).length c5, .slice A7 (tailsV hs).length c7] (fun j => ([foldV hs xs, tailsV hs, tailsV hs].getD j []).length) (fun j => ([foldV hs xs, tailsV hs, tailsV hs].getD j []).map (Value.int .i64)) _ (rdc_alloc w9 [.slice A3 (foldV hs xs).length c3, .slice A5 (tailsV hs).length c5, .slice A7 (tailsV hs).length c7] _) rfl (by omega) hown (sep3 s35 s37 s57) (fun j _ => by rw [List.length_map]) (nat3 (by simp; omega) (by simp; omega) (by simp; omega)) k9a.size) rfl ?_
    rintro v10 w10 ⟨rfl, kb10⟩
    have k10 : Below w2.heap.size w2 w10 := kb10.below k9a (own_low hown) k9a.size
    have q10 : Below w.heap.size w w10 := b2.trans (k10.mono b2.size)
    refine vl_val (os_pick_t rfl rfl) ?_
    refine vl_val (os_move rfl) ?_
    refine vl_valg rfl (os_move rfl) ?_
    refine vl_valg rfl (os_move rfl) ?_
    refine vl_callg rfl (kit_KeptInts _ _ A n c hs w10 (hl1.keep k10) (ha.keep q10) hn (by omega)) rfl ?_
    rintro v11 w11 ⟨rfl, d11⟩
    have q11 : Below w.heap.size w w11 := q10.trans ((led_below d11).mono q10.size)
    have k11 : Below w2.heap.size w2 w11 := k10.trans ((led_below d11).mono k10.size)
    refine vl_val (os_pick_t rfl rfl) ?_
    refine vl_val (os_move rfl) ?_
    refine vl_valg rfl (os_move rfl) ?_
    refine vl_valg rfl (os_move rfl) ?_
    refine vl_callg rfl (kit_KeptInts _ _ B m d xs w11 (hl2.keep k11) (hb.keep q11) hm (by omega)) rfl ?_
    rintro v12 w12 ⟨rfl, d12⟩
    have q12 : Below w.heap.size w w12 := q11.trans ((led_below d12).mono q11.size)
    refine vl_val (os_pick_t rfl rfl) ?_
    refine vl_val (os_move rfl) ?_
    refine vl_callg rfl (g_awake w12) rfl ?_
    rintro v13 w13 ⟨rfl, hb13⟩
    refine vl_val (os_pick_t rfl rfl) ?_
    refine vl_val (os_assign rfl) ?_
    refine vl_nil ?_
    refine v_ret ?_
    exact post_ret rfl rfl (⟨rfl, q12.trans (hb13.mono q12.size)⟩)
end Go.Proofs.Ytpcfifheegfjiaa
