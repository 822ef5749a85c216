/- The law's kit: whether rows of rows of bytes lie apart, the first of them stripes of one row. -/
import Derived.Test.YtpojijnjdlnokaaFsK
namespace Go.Proofs.Ytpojijnjdlnokaa
open Go.RowKit
set_option linter.unusedVariables false

set_option maxHeartbeats 4000000 in
theorem kit_ApartRows (A : Option Addr) (N cA B : Nat) (os : List Value) (us : Nat → List Value) (K gb wd : Nat) (nn : Nat → Nat) (cc : Nat → List Value) (w : World) (hr : RdC w A os) (hN : os.length = N) (hN1 : N ≤ 10)
    (hA : ∀ b o, A = some ⟨b, o, none⟩ → b < w.heap.size ∧ (∀ (j : Nat) (v : Value), os[j]? = some v → v.ownBlock ≠ some b) ∧ b ∉ (flC us N).filterMap Value.ownBlock)
    (ho : ∀ (j : Nat) (v : Value), os[j]? = some v → Own w B 22 v (us j)) (hos : ∀ (i j : Nat) (v u : Value), os[i]? = some v → os[j]? = some u → i < j → sep v u)
    (hoS : ∀ (j : Nat) (v : Value) (b : Nat), os[j]? = some v → v.ownBlock = some b → b ∉ (flC us N).filterMap Value.ownBlock) (hone : ∀ (j : Nat) (u : Value), j < N → u ∈ us j → u.oneCell' = true) (hM : (flC us N).length ≤ 100000) (hM1 : ∀ j, j < N → (flC us j).length + (us j).length ≤ 100000)
    (hlow : ∀ b ∈ (flC us N).filterMap Value.ownBlock, B ≤ b) (he : ∀ (j : Nat) (v : Value), K ≤ j → (flC us N)[j]? = some v → OwnE w B 5 v (cc j))
    (hsv : ∀ j, j < K → (flC us N)[j]? = some (segV gb wd j) ∧ (cc j).length = wd) (hsg : 0 < K → Own w B 5 (.slice (some ⟨gb, 0, none⟩) (wd * K) (wd * K)) (flC cc K)) (hsep : ∀ (j : Nat) (v : Value), 0 < K → K ≤ j → (flC us N)[j]? = some v → v.ownBlock ≠ some gb)
    (hs : ∀ (i j : Nat) (v u : Value), K ≤ i → (flC us N)[i]? = some v → (flC us N)[j]? = some u → i < j → sep v u) (hn0 : ∀ j, j < (flC us N).length → (cc j).length = nn j) (hn1 : ∀ j, j < (flC us N).length → nn j ≤ 1000000000) (hB : B ≤ w.heap.size) :
    Gives Try.prog 26 #[.slice A N cA] w fun v w' => v = .bool true ∧ Below B w w' := by
  have hget : ∀ k, k < N → ∃ v, os[k]? = some v := fun k hk => ⟨os[k]'(by omega), List.getElem?_eq_getElem (by omega)⟩
  refine gives_enter Try.call26 Try.func26 rfl rfl rfl (by kernel_rfl) ?_
  refine v_seq ?_
  refine v_region ?_
  refine vl_val (os_assign rfl) ?_
  refine vl_nil ?_
  refine v_seq ?_
  refine v_region ?_
  refine vl_val (os_assign rfl) ?_
  refine vl_nil ?_
  refine v_seq ?_
  refine v_seq ?_
  refine v_region ?_
  refine vl_val (os_assign rfl) ?_
  refine vl_nil ?_
  refine v_block ?_
  refine v_loop2 [(0, _)] (fun (v : Value) (k : Nat) => [(3, v), (4, .int .i64 k)]) (fun v k w' => k ≤ N ∧ Own w' w.heap.size 22 v (flC us k) ∧ Below w.heap.size w w') (fun v k => N - k) (.slice none 0 0) (0) ⟨rfl, trivial⟩ ⟨rfl, rfl, trivial⟩ (⟨by omega, Own.nil _ _ _, Below.refl _ _⟩) ?_
  rintro v k w' ⟨hk, ho1, hb⟩
  refine v_seq ?_
  refine v_seq ?_
  refine v_region ?_
  refine vl_val (os_move rfl) ?_
  refine vl_val (os_move rfl) ?_
  refine vl_val (os_len Try.underlying38 rfl) ?_
  refine vl_val (os_lss rfl rfl) ?_
  refine vl_nil ?_
  refine v_cond_d rfl (fun h => ?_) (fun h => ?_)
  · obtain ⟨u, hu⟩ := hget k (by omega)
    obtain ⟨A1, c1, rfl, -, -, hr1, -⟩ := Own.form ((ho k u hu).keepAll hb)
    obtain ⟨bA, oA, rfl, -⟩ := hr (by omega)
    have hMk := hM1 k (by omega)
    refine v_skip ?_
    refine v_seq ?_
    refine v_block ?_
    refine v_region ?_
    refine vl_val (os_move rfl) ?_
    refine vl_val (os_move rfl) ?_
    refine vl_val (os_move rfl) ?_
    refine vl_val (os_ix Try.underlying38 Try.sizeOf23 rfl rfl (i := k) (by omega) (by omega)) ?_
    refine vl_val (os_load Try.isAgg23 rfl ((hr.keep hb).get hu)) ?_
    refine vl_some (ot_append Try.underlying23 ti_lBytes rfl rfl rfl ho1 hr1 rfl (fun u hu => hone k u (by omega) hu) (by omega) (by simp [maxLen]; omega) hb.size) ?_
    rintro v5 w5 ⟨ho5, hg5⟩
    refine vl_val (os_assign rfl) ?_
    refine vl_nil ?_
    refine v_region ?_
    refine vl_val (os_move rfl) ?_
    refine vl_val (os_addi rfl rfl (by omega)) ?_
    refine vl_val (os_assign rfl) ?_
    refine vl_nil ?_
    exact ⟨⟨v5, k + 1⟩, ⟨rfl, trivial⟩, ⟨rfl, rfl, trivial⟩, ⟨by omega, ho5, Own.below hb ho1 hg5 (Nat.le_refl _) hb.size⟩, by dsimp only; omega⟩
  · obtain rfl : N = k := by omega
    obtain ⟨A1, c1, rfl, -, -, hr1, hA1⟩ := Own.form ho1
    refine v_exit ?_
    refine v_seq ?_
    refine v_seq ?_
    refine v_region ?_
    refine vl_val (os_move rfl) ?_
    refine vl_call (kit_ApartBytesS A1 _ c1 B (flC us N) K gb wd nn cc w' hr1 rfl hM (fun j v hj hv => (he j v hj hv).keepAll hb) hsv (fun h0 => (hsg h0).keepAll hb) hsep hs hn0 hn1 (Nat.le_trans hB hb.size)) rfl ?_
    rintro v2 w2 ⟨rfl, kb2⟩
    have hb2 : Below B w w2 := kb2.below (hb.mono hB) hlow (Nat.le_trans hB hb.size)
    have ho2 : ∀ (j : Nat) (v : Value), os[j]? = some v → Own w2 B 22 v (us j) := fun j v hv => Own.kb ((ho j v hv).keepAll hb) kb2 (fun g hg => hoS j v g hv hg)
    have hr2 : RdC w2 A os := RdC.kb (hr.keep hb) kb2 (fun b o e => (hA b o e).2.2)
    have hz2 := kb2.size
    obtain ⟨lab, hF0⟩ := Fl.init (tt := 23) (dd := fun _ => []) (Nat.le_trans hB hb2.size) hr2 ho2 hos (fun b o e => ⟨by have := (hA b o e).1; have := hb.size; omega, (hA b o e).2.1⟩)
    have hS2 : ∀ b ∈ os.filterMap Value.ownBlock, B ≤ b := own_low ho2
    refine vl_val (os_not rfl) ?_
    refine vl_nil ?_
    refine v_cond_f rfl ?_
    refine v_skip ?_
    refine v_seq ?_
    refine v_seq ?_
    refine v_region ?_
    refine vl_val (os_assign rfl) ?_
    refine vl_nil ?_
    refine v_block ?_
    refine v_loop [(0, _)] (fun (k : Nat) => [(5, .int .i64 k)]) (fun k w' => k ≤ N ∧ ∃ dd, Fl w2 B 22 23 (os.filterMap Value.ownBlock) A os lab dd (.slice none 0 0) [] 0 (fun _ => []) w' ∧ (∀ j, j < N → (dd j).length = (us j).length) ∧ (∀ j, j < k → ∀ i, i < (us j).length → ∃ Ax cx, (dd j)[i]? = some (.slice Ax (1 + (j * 31 + i) % 97) cx))) (fun k => N - k) (0) ⟨rfl, trivial⟩ ⟨rfl, trivial⟩ (⟨by omega, us, hF0, fun j _ => rfl, fun j hj => absurd hj (by omega)⟩) ?_
    rintro k w' ⟨hk, dd, hF, hL, hD⟩
    refine v_seq ?_
    refine v_seq ?_
    refine v_region ?_
    refine vl_val (os_move rfl) ?_
    refine vl_val (os_move rfl) ?_
    refine vl_val (os_len Try.underlying38 rfl) ?_
    refine vl_val (os_lss rfl rfl) ?_
    refine vl_nil ?_
    refine v_cond_d rfl (fun h => ?_) (fun h => ?_)
    · obtain ⟨v, hv⟩ := hget k (by omega)
      obtain ⟨A3, c3, rfl, -⟩ := Own.form (hF.own k _ hv).1
      rw [hL k (by omega)] at hv
      obtain ⟨bA, oA, rfl, -⟩ := hF.row (by omega)
      have hMk := hM1 k (by omega)
      refine v_skip ?_
      refine v_seq ?_
      refine v_block ?_
      refine v_seq ?_
      refine v_region ?_
      refine vl_val (os_assign rfl) ?_
      refine vl_nil ?_
      refine v_block ?_
      refine v_loop [(0, _), (5, _)] (fun (i : Nat) => [(6, .int .i64 i)]) (fun i w' => i ≤ (us k).length ∧ ∃ dd, Fl w2 B 22 23 (os.filterMap Value.ownBlock) (some ⟨bA, oA, none⟩) os lab dd (.slice none 0 0) [] 0 (fun _ => []) w' ∧ (∀ j, j < N → (dd j).length = (us j).length) ∧ (∀ j, j < k → ∀ i, i < (us j).length → ∃ Ax cx, (dd j)[i]? = some (.slice Ax (1 + (j * 31 + i) % 97) cx)) ∧ ∀ i', i' < i → ∃ Ax cx, (dd k)[i']? = some (.slice Ax (1 + (k * 31 + i') % 97) cx)) (fun i => (us k).length - i) (0) ⟨rfl, rfl, trivial⟩ ⟨rfl, trivial⟩ (⟨by omega, dd, hF, hL, hD, fun i hi => absurd hi (by omega)⟩) ?_
      rintro i w' ⟨hi, dd, hF, hL, hD, hT⟩
      refine v_seq ?_
      refine v_seq ?_
      refine v_region ?_
      refine vl_val (os_move rfl) ?_
      refine vl_val (os_move rfl) ?_
      refine vl_val (os_move rfl) ?_
      refine vl_val (os_ix Try.underlying38 Try.sizeOf23 rfl rfl (i := k) (by omega) (by omega)) ?_
      refine vl_val (os_load Try.isAgg23 rfl (hF.row.get hv)) ?_
      refine vl_val (os_len Try.underlying23 rfl) ?_
      refine vl_val (os_lss rfl rfl) ?_
      refine vl_nil ?_
      refine v_cond_d rfl (fun h2 => ?_) (fun h2 => ?_)
      · obtain ⟨g, c, e, -⟩ := Own.row (hF.own k _ hv).1 (by rw [hL k (by omega)]; omega)
        rw [hL k (by omega)] at e
        cases e
        have d1 : LeD w' (w'.drewN 1) := ⟨1, rfl⟩
        have hF1 := hF.led' d1
        refine v_skip ?_
        refine v_seq ?_
        refine v_block ?_
        refine v_region_a mixed ?_
        refine va_pure 0 rfl (by kernel_rfl) (by kernel_rfl) (by kernel_rfl) (fun w => (os_move rfl)) ?_
        refine va_pure 1 rfl (by kernel_rfl) (by kernel_rfl) (by kernel_rfl) (fun w => (os_move rfl)) ?_
        refine va_pure 2 rfl (by kernel_rfl) (by kernel_rfl) (by kernel_rfl) (fun w => (os_ix Try.underlying38 Try.sizeOf23 rfl rfl (i := k) (by omega) (by omega))) ?_
        refine va_pure 4 rfl (by kernel_rfl) (by kernel_rfl) (by kernel_rfl) (fun w => (os_move rfl)) ?_
        refine va_pure 5 rfl (by kernel_rfl) (by kernel_rfl) (by kernel_rfl) (fun w => (os_move rfl)) ?_
        refine va_pure 6 rfl (by kernel_rfl) (by kernel_rfl) (by kernel_rfl) (fun w => (os_muli rfl rfl (by omega))) ?_
        refine va_pure 7 rfl (by kernel_rfl) (by kernel_rfl) (by kernel_rfl) (fun w => (os_move rfl)) ?_
        refine va_pure 8 rfl (by kernel_rfl) (by kernel_rfl) (by kernel_rfl) (fun w => (os_addi rfl rfl (by omega))) ?_
        refine va_pure 9 rfl (by kernel_rfl) (by kernel_rfl) (by kernel_rfl) (fun w => (os_remi rfl rfl (by omega))) ?_
        refine va_pure 10 rfl (by kernel_rfl) (by kernel_rfl) (by kernel_rfl) (fun w => (os_addi rfl rfl (by omega))) ?_
        refine va_two 3 11 (by kernel_rfl) ?_ ?_
        · refine vn_val rfl (os_load Try.isAgg23 rfl ((by first | exact hF1.row.get hv | exact (hF1.row.keep ((Below.refl _ _).grown hg5 (Nat.le_refl _) (fun k hk => by cases hk))).get hv))) ?_
          refine va_one 11 (by kernel_rfl) ?_
          refine vn_some rfl (ot_make (l := 1 + (k * 31 + i) % 97) Try.underlying22 ti_u8 rfl rfl rfl (by omega) (by omega) (by omega) (by simp [maxLen]; omega) _ (Nat.le_refl _)) ?_
          rintro v5 w5 ⟨rfl, -, hg5⟩
          refine va_pure 12 rfl (by kernel_rfl) (by kernel_rfl) (by kernel_rfl) (fun w => (os_ix Try.underlying23 Try.sizeOf22 rfl rfl (i := i) (by omega) (by omega))) ?_
          refine va_one 13 (by kernel_rfl) ?_
          refine vn_unit rfl (ou_store Try.sizeOf22 rfl rfl rfl ((Own.get ((hF1.below ((Below.refl _ _).grown hg5 (Nat.le_refl _) (fun k hk => by cases hk))).own k _ hv).1 (List.getElem?_eq_getElem (by rw [hL k (by omega)]; omega)))) ((Own.free ((hF1.below ((Below.refl _ _).grown hg5 (Nat.le_refl _) (fun k hk => by cases hk))).own k _ hv).1 _))) ?_
          refine va_done (by kernel_rfl) ?_
          refine v_region ?_
          refine vl_val (os_move rfl) ?_
          refine vl_val (os_addi rfl rfl (by omega)) ?_
          refine vl_val (os_assign rfl) ?_
          refine vl_nil ?_
          exact ⟨i + 1, ⟨rfl, rfl, trivial⟩, ⟨rfl, trivial⟩, ⟨by omega, _, (hF1.below ((Below.refl _ _).grown hg5 (Nat.le_refl _) (fun k hk => by cases hk))).set hv (Nat.zero_le _) i _, fun j hj => by by_cases e : j = k; (subst e; simpa using hL j hj); (simpa [e] using hL j hj), fun j hj => by rw [if_neg (by omega)]; exact hD j hj, fun i' hi' => by rw [if_pos rfl]; by_cases e : i' = i; (subst e; exact ⟨_, _, List.getElem?_set_self (by rw [hL k (by omega)]; omega)⟩); (rw [List.getElem?_set_ne (fun h => e h.symm)]; exact hT i' (by omega))⟩, by dsimp only; omega⟩
        · refine vn_some rfl (ot_make (l := 1 + (k * 31 + i) % 97) Try.underlying22 ti_u8 rfl rfl rfl (by omega) (by omega) (by omega) (by simp [maxLen]; omega) _ (Nat.le_refl _)) ?_
          rintro v5 w5 ⟨rfl, -, hg5⟩
          refine va_one 3 (by kernel_rfl) ?_
          refine vn_val rfl (os_load Try.isAgg23 rfl ((by first | exact hF1.row.get hv | exact (hF1.row.keep ((Below.refl _ _).grown hg5 (Nat.le_refl _) (fun k hk => by cases hk))).get hv))) ?_
          refine va_pure 12 rfl (by kernel_rfl) (by kernel_rfl) (by kernel_rfl) (fun w => (os_ix Try.underlying23 Try.sizeOf22 rfl rfl (i := i) (by omega) (by omega))) ?_
          refine va_one 13 (by kernel_rfl) ?_
          refine vn_unit rfl (ou_store Try.sizeOf22 rfl rfl rfl ((Own.get ((hF1.below ((Below.refl _ _).grown hg5 (Nat.le_refl _) (fun k hk => by cases hk))).own k _ hv).1 (List.getElem?_eq_getElem (by rw [hL k (by omega)]; omega)))) ((Own.free ((hF1.below ((Below.refl _ _).grown hg5 (Nat.le_refl _) (fun k hk => by cases hk))).own k _ hv).1 _))) ?_
          refine va_done (by kernel_rfl) ?_
          refine v_region ?_
          refine vl_val (os_move rfl) ?_
          refine vl_val (os_addi rfl rfl (by omega)) ?_
          refine vl_val (os_assign rfl) ?_
          refine vl_nil ?_
          exact ⟨i + 1, ⟨rfl, rfl, trivial⟩, ⟨rfl, trivial⟩, ⟨by omega, _, (hF1.below ((Below.refl _ _).grown hg5 (Nat.le_refl _) (fun k hk => by cases hk))).set hv (Nat.zero_le _) i _, fun j hj => by by_cases e : j = k; (subst e; simpa using hL j hj); (simpa [e] using hL j hj), fun j hj => by rw [if_neg (by omega)]; exact hD j hj, fun i' hi' => by rw [if_pos rfl]; by_cases e : i' = i; (subst e; exact ⟨_, _, List.getElem?_set_self (by rw [hL k (by omega)]; omega)⟩); (rw [List.getElem?_set_ne (fun h => e h.symm)]; exact hT i' (by omega))⟩, by dsimp only; omega⟩
      · obtain rfl : i = (us k).length := by omega
        refine v_exit ?_
        refine v_region ?_
        refine vl_val (os_move rfl) ?_
        refine vl_val (os_addi rfl rfl (by omega)) ?_
        refine vl_val (os_assign rfl) ?_
        refine vl_nil ?_
        exact ⟨k + 1, ⟨rfl, trivial⟩, ⟨rfl, trivial⟩, ⟨by omega, dd, hF, hL, fun j hj => by by_cases hjk : j = k; (subst hjk; exact hT); (exact hD j (by omega))⟩, by dsimp only; omega⟩
    · obtain rfl : N = k := by omega
      refine v_exit ?_
      refine v_seq ?_
      refine v_seq ?_
      refine v_region ?_
      refine vl_val (os_assign rfl) ?_
      refine vl_nil ?_
      refine v_block ?_
      refine v_loop [(0, _)] (fun (k : Nat) => [(7, .int .i64 k)]) (fun k w' => k ≤ N ∧ Fl w2 B 22 23 (os.filterMap Value.ownBlock) A os lab dd (.slice none 0 0) [] 0 (fun _ => []) w') (fun k => N - k) (0) ⟨rfl, trivial⟩ ⟨rfl, trivial⟩ (⟨by omega, hF⟩) ?_
      rintro k w' ⟨hk, hF⟩
      refine v_seq ?_
      refine v_seq ?_
      refine v_region ?_
      refine vl_val (os_move rfl) ?_
      refine vl_val (os_move rfl) ?_
      refine vl_val (os_len Try.underlying38 rfl) ?_
      refine vl_val (os_lss rfl rfl) ?_
      refine vl_nil ?_
      refine v_cond_d rfl (fun h => ?_) (fun h => ?_)
      · obtain ⟨v, hv⟩ := hget k (by omega)
        obtain ⟨A3, c3, rfl, -⟩ := Own.form (hF.own k _ hv).1
        rw [hL k (by omega)] at hv
        obtain ⟨bA, oA, rfl, -⟩ := hF.row (by omega)
        have hMk := hM1 k (by omega)
        refine v_skip ?_
        refine v_seq ?_
        refine v_block ?_
        refine v_seq ?_
        refine v_region ?_
        refine vl_val (os_assign rfl) ?_
        refine vl_nil ?_
        refine v_block ?_
        refine v_loop [(0, _), (7, _)] (fun (i : Nat) => [(8, .int .i64 i)]) (fun i w' => i ≤ (us k).length ∧ Fl w2 B 22 23 (os.filterMap Value.ownBlock) (some ⟨bA, oA, none⟩) os lab dd (.slice none 0 0) [] 0 (fun _ => []) w') (fun i => (us k).length - i) (0) ⟨rfl, rfl, trivial⟩ ⟨rfl, trivial⟩ (⟨by omega, hF⟩) ?_
        rintro i w' ⟨hi, hF⟩
        refine v_seq ?_
        refine v_seq ?_
        refine v_region ?_
        refine vl_val (os_move rfl) ?_
        refine vl_val (os_move rfl) ?_
        refine vl_val (os_move rfl) ?_
        refine vl_val (os_ix Try.underlying38 Try.sizeOf23 rfl rfl (i := k) (by omega) (by omega)) ?_
        refine vl_val (os_load Try.isAgg23 rfl (hF.row.get hv)) ?_
        refine vl_val (os_len Try.underlying23 rfl) ?_
        refine vl_val (os_lss rfl rfl) ?_
        refine vl_nil ?_
        refine v_cond_d rfl (fun h2 => ?_) (fun h2 => ?_)
        · obtain ⟨g, c, e, -⟩ := Own.row (hF.own k _ hv).1 (by rw [hL k (by omega)]; omega)
          rw [hL k (by omega)] at e
          cases e
          obtain ⟨Ax, cx, hx⟩ := hD k (by omega) i (by omega)
          refine v_skip ?_
          refine v_seq ?_
          refine v_block ?_
          refine v_seq ?_
          refine v_region ?_
          refine vl_val (os_move rfl) ?_
          refine vl_val (os_move rfl) ?_
          refine vl_val (os_ix Try.underlying38 Try.sizeOf23 rfl rfl (i := k) (by omega) (by omega)) ?_
          refine vl_val (os_load Try.isAgg23 rfl (hF.row.get hv)) ?_
          refine vl_val (os_move rfl) ?_
          refine vl_val (os_ix Try.underlying23 Try.sizeOf22 rfl rfl (i := i) (by omega) (by omega)) ?_
          refine vl_val (os_load Try.isAgg22 rfl (Own.get (hF.own k _ hv).1 hx)) ?_
          refine vl_val (os_len Try.underlying22 rfl) ?_
          refine vl_val (os_move rfl) ?_
          refine vl_val (os_muli rfl rfl (by omega)) ?_
          refine vl_val (os_move rfl) ?_
          refine vl_val (os_addi rfl rfl (by omega)) ?_
          refine vl_val (os_remi rfl rfl (by omega)) ?_
          refine vl_val (os_addi rfl rfl (by omega)) ?_
          refine vl_val (os_neq rfl rfl) ?_
          refine vl_nil ?_
          refine v_cond_no rfl (by omega) ?_
          refine v_skip ?_
          refine v_region ?_
          refine vl_val (os_move rfl) ?_
          refine vl_val (os_addi rfl rfl (by omega)) ?_
          refine vl_val (os_assign rfl) ?_
          refine vl_nil ?_
          exact ⟨i + 1, ⟨rfl, rfl, trivial⟩, ⟨rfl, trivial⟩, ⟨by omega, hF⟩, by dsimp only; omega⟩
        · refine v_exit ?_
          refine v_region ?_
          refine vl_val (os_move rfl) ?_
          refine vl_val (os_addi rfl rfl (by omega)) ?_
          refine vl_val (os_assign rfl) ?_
          refine vl_nil ?_
          exact ⟨k + 1, ⟨rfl, trivial⟩, ⟨rfl, trivial⟩, ⟨by omega, hF⟩, by dsimp only; omega⟩
      · refine v_exit ?_
        refine v_seq ?_
        refine v_region ?_
        refine vl_val (os_assign rfl) ?_
        refine vl_nil ?_
        refine v_ret ?_
        exact post_ret rfl rfl (⟨rfl, hF.kb.below hb2 hS2 (Nat.le_trans hB hb2.size)⟩)
end Go.Proofs.Ytpojijnjdlnokaa
