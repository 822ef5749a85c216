/- Layer 11: what can fit at all; the walk of SizeGreatest. -/
import Derived.Test.YtpjmiafefammkaaSzM
import Derived.Test.YtpjmiafefammkaaLy
import Derived.Test.YtpjmiafefammkaaRep
import Derived.Test.YtpjmiafefammkaaV5
namespace Go.Proofs.Ytpjmiafefammkaa
open Go.RowKit
set_option linter.unusedVariables false

def canB (n m b : Int) (lens : List Int) : Bool := rightB n m b && fitsB n m b lens (List.replicate lens.length n)
theorem sumW_mono : ∀ (lens ks js : List Int), ks.length = lens.length → js.length = lens.length → (∀ i, i < lens.length → 0 ≤ lens.getD i 0 ∧ 1 ≤ ks.getD i 0 ∧ ks.getD i 0 ≤ js.getD i 0) → sumW (lens.zip js) ≤ sumW (lens.zip ks)
  | [], _, _, _, _, _ => by simp [sumW]
  | x :: lens, k :: ks, j :: js, h1, h2, h => by
    have h0 := h 0 (by simp)
    simp at h0
    have ih := sumW_mono lens ks js (by simpa using h1) (by simpa using h2) (fun i hi => by have := h (i + 1) (by simpa using hi); simpa using this)
    have := width_anti h0.1 h0.2.1 h0.2.2
    simp only [List.zip_cons_cons, sumW]
    omega
  | x :: lens, [], _, h1, _, _ => by simp at h1
  | x :: lens, _ :: _, [], _, h2, _ => by simp at h2
theorem lens_at {ls : List Int} (h : lensB ls = true) : ∀ i, i < ls.length → 0 ≤ ls.getD i 0 ∧ ls.getD i 0 ≤ 65535 := (lens_bd h).2.2
/-- if any thresholds fit, those do that are all n -/
theorem fits_can {n m b : Int} {lens ks : List Int} (h : fitsB n m b lens ks = true) : canB n m b lens = true := by
  obtain ⟨h1, h2, h3, h4, h5, h6⟩ := fits_iff.1 h
  have hr : rightB n m b = true := by simp only [roomOk, Bool.and_eq_true] at h1; exact h1.1
  have hn := right_bd hr
  have hrep : ∀ i, i < lens.length → (List.replicate lens.length n).getD i 0 = n := fun i hi => by simp [hi]
  refine Bool.and_eq_true_iff.2 ⟨hr, fits_iff.2 ⟨h1, h2, by simp, ?_, fun i hi => by rw [hrep i hi]; omega, ?_⟩⟩
  · simp only [sortedB, decide_eq_true_eq, List.length_replicate]
    intro i hi hi2
    rw [hrep i hi, hrep _ hi2]; omega
  · exact Int.le_trans (sumW_mono lens ks _ h3 (by simp) (fun i hi => ⟨(lens_at h2 i hi).1, (h5 i hi).1, by rw [hrep i hi]; exact (h5 i hi).2⟩)) h6
def rowsZ (ks lens : List Int) : List (Int × Int) := ks.zip lens
theorem rowsZ_at {ks lens : List Int} (h : ks.length = lens.length) {i : Nat} (hi : i < ks.length) : (rowsZ ks lens).getD i (0, 0) = (ks.getD i 0, lens.getD i 0) := zip_getD hi (by omega)
theorem offS_sum {rows : List (Int × Int)} (h : ∀ i, i < rows.length → widthOk (rows.getD i (0, 0)).2 (rows.getD i (0, 0)).1 = true) : ∀ k, k ≤ rows.length → offS rows k = sumW ((rows.take k).map fun x => (x.2, x.1))
  | 0, _ => by simp [offS, sumW]
  | k + 1, hk => by
    have ih := offS_sum h k (by omega)
    have hh := h k (by omega)
    have e : rows.getD k (0, 0) = rows[k] := by simp [show k < rows.length by omega]
    rw [List.take_succ_eq_append_getElem (by omega), List.map_append]
    have hs : ∀ (a b : List (Int × Int)), sumW (a ++ b) = sumW a + sumW b := fun a b => by
      induction a with
      | nil => simp [sumW]
      | cons x r ihh => simp only [List.cons_append, sumW]; omega
    rw [hs, ← ih]
    simp only [offS, List.map_cons, List.map_nil, sumW, Int.add_zero]
    rw [e] at hh ⊢
    simp [widthV, hh]
theorem zip_swap : ∀ (a b : List Int), (a.zip b).map (fun x => (x.2, x.1)) = b.zip a
  | [], b => by cases b <;> simp
  | x :: a, [] => by simp
  | x :: a, y :: b => by simp [zip_swap a b]
/-- a table's law, in rows of thresholds and of lengths -/
theorem layGo_sorted {n : Int} : ∀ (ks lens : List Int) (least : Int), ks.length = lens.length → (layGo n least (rowsZ ks lens) = true ↔ ((∀ i, i < ks.length → ks.getD i 0 ≤ n ∧ 0 ≤ lens.getD i 0 ∧ lens.getD i 0 ≤ 65535) ∧ (0 < ks.length → least ≤ ks.getD 0 0) ∧ sortedB ks = true))
  | [], [], _, _ => by simp [rowsZ, layGo, sortedB]
  | k :: ks, l :: lens, least, h => by
    have ih := layGo_sorted (n := n) ks lens k (by simpa using h)
    have e : rowsZ (k :: ks) (l :: lens) = (k, l) :: rowsZ ks lens := rfl
    rw [e, layGo, Bool.and_eq_true, decide_eq_true_eq, ih]
    unfold rowGood
    simp only [sortedB, decide_eq_true_eq, List.length_cons]
    constructor
    · rintro ⟨⟨a1, a2, a3, a4⟩, b1, b2, b3⟩
      refine ⟨fun i hi => ?_, fun _ => by simpa using a1, fun i hi hi2 => ?_⟩
      · cases i with
        | zero => simp; omega
        | succ i => simpa using b1 i (by omega)
      · cases i with
        | zero => have := b2 (by omega); simpa using this
        | succ i => simpa using b3 i (by omega) (by omega)
    · rintro ⟨a, b, c⟩
      have a0 := a 0 (by omega)
      have b0 := b (by omega)
      simp at a0 b0
      refine ⟨⟨b0, a0.1, a0.2.1, a0.2.2⟩, fun i hi => ?_, fun h0 => ?_, fun i hi hi2 => ?_⟩
      · have := a (i + 1) (by omega); simpa using this
      · have := c 0 (by omega) (by omega); simpa using this
      · have := c (i + 1) (by omega) (by omega); simpa using this
  | [], _ :: _, _, h => by simp at h
  | _ :: _, [], _, h => by simp at h
theorem sorted_ge {ks : List Int} (h : sortedB ks = true) : ∀ i, i < ks.length → ks.getD 0 0 ≤ ks.getD i 0
  | 0, _ => Int.le_refl _
  | i + 1, hi => by
    have h1 := sorted_ge h i (by omega)
    have h2 := of_decide_eq_true h i (by omega) hi
    omega
theorem fits_lay {n m b : Int} {lens ks : List Int} (h : fitsB n m b lens ks = true) : layOk n (rowsZ ks lens) = true := by
  obtain ⟨h1, h2, h3, h4, h5, h6⟩ := fits_iff.1 h
  have hr : rightB n m b = true := by simp only [roomOk, Bool.and_eq_true] at h1; exact h1.1
  have hn := right_bd hr
  have hb := lens_bd h2
  have hlen : (rowsZ ks lens).length = lens.length := by simp [rowsZ, h3]
  simp only [layOk, Bool.and_eq_true, decide_eq_true_eq, hlen]
  refine ⟨⟨hn.1, hn.2.1, hb.1, hb.2.1⟩, (layGo_sorted ks lens 1 h3).2 ⟨fun i hi => ?_, fun h0 => (h5 0 (by omega)).1, h4⟩⟩
  have := h5 i (by omega)
  have := hb.2.2 i (by omega)
  omega
theorem lay_fits {n m b : Int} {lens ks : List Int} (h3 : ks.length = lens.length) (h1 : roomOk n m b lens.length = true) (hL : layOk n (rowsZ ks lens) = true) : fitsB n m b lens ks = decide (offS (rowsZ ks lens) ks.length ≤ roomW n m b lens.length) := by
  obtain ⟨p1, p2, p3, p4, p5⟩ := layOk_parts hL
  have hlen : (rowsZ ks lens).length = lens.length := by simp [rowsZ, h3]
  rw [hlen] at p2 p3 p5
  obtain ⟨q1, q2, q3⟩ := (layGo_sorted ks lens 1 h3).1 p4
  have hl : lensB lens = true := by
    simp only [lensB, Bool.and_eq_true, Bool.not_eq_true', List.any_eq_false, betw, decide_eq_true_eq]
    refine ⟨by omega, fun z hz => ?_⟩
    obtain ⟨i, hi, rfl⟩ := List.getElem_of_mem hz
    have := (q1 i (by omega)).2
    have e : lens.getD i 0 = lens[i] := by simp [hi]
    rw [e] at this
    simpa using this
  have hsum : offS (rowsZ ks lens) ks.length = sumW (lens.zip ks) := by
    rw [offS_sum (by rw [hlen]; exact p5) ks.length (by rw [hlen, h3]; exact Nat.le_refl _), List.take_of_length_le (by rw [hlen, h3]; exact Nat.le_refl _)]
    exact congrArg sumW (zip_swap ks lens)
  rw [hsum, Bool.eq_iff_iff, fits_iff, decide_eq_true_eq]
  refine ⟨fun h => h.2.2.2.2.2, fun h => ⟨h1, hl, h3, q3, fun i hi => ?_, h⟩⟩
  have := sorted_ge q3 i (by omega)
  have := q2 (by omega)
  exact ⟨by omega, (q1 i (by omega)).1⟩
theorem room_iff {n m b l long : Int} (h : roomOk n m b l = true) (h0 : 0 ≤ long) : (long ≤ roomW n m b l) ↔ (18 + 3 * l + long ≤ m ∧ (18 + 3 * l + long) * n ≤ b) := by
  have hr : rightB n m b = true := by simp only [roomOk, Bool.and_eq_true] at h; exact h.1
  have hn := right_bd hr
  have h1 := Int.le_ediv_iff_mul_le (a := 18 + 3 * l + long) (b := b) (c := n) (by omega)
  unfold roomW
  rw [← h1]
  omega

theorem ti_row : TyInfo Try.prog 78 (.agg #[.int .i64 0, .int .i64 0]) 2 16 := by unfold TyInfo; kernel_rfl
theorem rows_take {ks lens : List Int} {i : Nat} (h1 : i < ks.length) (h2 : ks.length = lens.length) : ((rowsZ ks lens).take (i + 1)).map rowC = ((rowsZ ks lens).take i).map rowC ++ [[.int .i64 (ks.getD i 0), .int .i64 (lens.getD i 0)]] := by
  have hi : i < (rowsZ ks lens).length := by simp [rowsZ]; omega
  rw [List.take_succ_eq_append_getElem hi, List.map_append]
  have e := rowsZ_at h2 h1
  have e2 : (rowsZ ks lens).getD i (0, 0) = (rowsZ ks lens)[i] := by simp [hi]
  rw [e2] at e
  rw [e]
  rfl
theorem fit_mul {n m b X : Int} (h : rightB n m b = true) (h0 : 0 ≤ X) (h1 : X ≤ 100000000) : I64 (X * n) := by
  have := right_bd h
  have h2 : 0 ≤ X * n := Int.mul_nonneg h0 (by omega)
  have h3 : X * n ≤ 100000000 * 255 := Int.mul_le_mul h1 (by omega) (by omega) (by omega)
  exact ⟨by omega, by omega⟩
theorem all_rep {n : Int} (h : I64 n) (l : Nat) : AllI (List.replicate l n) := by
  intro z hz
  obtain ⟨-, rfl⟩ := List.mem_replicate.1 hz
  exact h
theorem rep_row (A : Option Addr) (c l : Nat) (z : Int) (w : World) (hr : Rd w .i64 A [z]) (hl : l ≤ 1000000) : Gives Try.prog 95 #[.slice A 1 c, .int .i64 l] w fun v w' => LeG w w' ∧ IsRow .i64 (List.replicate l z) v w' := by
  by_cases h0 : l = 0
  · subst h0
    exact (sl_Repeat0 A c z w hr).mono fun v w' ⟨g, e, ho, hb⟩ => ⟨hb, _, _, e, by rw [e] at ho; exact OwnK.rd ho⟩
  · exact (sl_Repeat A c l z w hr ⟨by omega, hl⟩).mono fun v w' ⟨g, e, ho, hb⟩ => ⟨hb, some ⟨g, 0, none⟩, l, by simpa using e, by rw [e] at ho; exact OwnK.rd ho⟩
set_option maxHeartbeats 2000000 in
theorem size_Can (n m b : Int) (A : Option Addr) (l c : Nat) (lens : List Int) (w : World) (ha : Rd w .i64 A lens) (hl : l = lens.length) (hl' : l ≤ 300) (hn : I64 n) :
    Gives Try.prog 51 #[.agg #[.int .i64 n, .int .i64 m, .int .i64 b], .slice A l c] w fun v w' => v = .bool (canB n m b lens) ∧ Below w.heap.size w w' := by
  have hB0 := bk_new w [.int .i64 n, .int .i64 m, .int .i64 b] 75
  have hb0 : Below w.heap.size w (w.alloc (.cells #[.int .i64 n, .int .i64 m, .int .i64 b] 75)) := (Below.refl _ w).alloc (Nat.le_refl _) _
  have ha0 := ha.keep hb0
  refine gives_enter Try.call51 Try.func51 rfl rfl rfl (by kernel_rfl) ?_
  cases hr : rightB n m b
  · refine v_seq ?_
    refine v_region ?_
    refine vl_val (os_box rfl) ?_
    refine vl_val (os_assign rfl) ?_
    refine vl_nil ?_
    refine v_seq ?_
    refine v_region_t LeG _ mixed (by kernel_rfl) lee_g (leg_start _) ?_
    refine vt_val (fun w hw => os_loadB Try.underlying75 rfl (by kernel_rfl) rfl ((hB0.keep hw))) ?_
    refine vt_call (v := .bool false) (fun w hw => gives_boolb (size_Right n m b w) hr) rfl ?_
    refine vt_val (fun w hw => os_move rfl) ?_
    refine vt_skip rfl rfl ?_
    refine vt_skip rfl rfl ?_
    refine vt_skip rfl rfl ?_
    refine vt_skip rfl rfl ?_
    refine vt_skip rfl rfl ?_
    refine vt_skip rfl rfl ?_
    refine vt_skip rfl rfl ?_
    refine vt_skip rfl rfl ?_
    refine vt_skip rfl rfl ?_
    refine vt_val (fun w hw => os_pick_f rfl rfl) ?_
    refine vt_val (fun w hw => os_assign rfl) ?_
    refine vt_nil (fun Hw H => ?_)
    refine v_ret ?_
    exact post_ret rfl rfl (⟨by simp [canB, hr], hb0.trans (H.mono hb0.size)⟩)
  · refine v_seq ?_
    refine v_region ?_
    refine vl_val (os_box rfl) ?_
    refine vl_val (os_assign rfl) ?_
    refine vl_nil ?_
    refine v_seq ?_
    refine v_region_t LeG _ mixed (by kernel_rfl) lee_g (leg_start _) ?_
    refine vt_val (fun w hw => os_loadB Try.underlying75 rfl (by kernel_rfl) rfl ((hB0.keep hw))) ?_
    refine vt_call (v := .bool true) (fun w hw => gives_boolb (size_Right n m b w) hr) rfl ?_
    refine vt_val (fun w hw => os_move rfl) ?_
    refine vt_valg rfl (fun w hw => os_loadB Try.underlying75 rfl (by kernel_rfl) rfl ((hB0.keep hw))) ?_
    refine vt_valg rfl (fun w hw => os_move rfl) ?_
    refine vt_valg rfl (fun w hw => os_fa (o := 0) (k := 0) (by kernel_rfl) rfl) ?_
    refine vt_valg rfl (fun w hw => os_load Try.isAgg3 rfl ((hB0.keep hw).cell rfl)) ?_
    refine vt_new (IsRow .i64 [n]) (isRow_stable _ _) (fun w hw => os_lit Try.underlying40 Try.sizeOf3 Try.zeroValue3 rfl rfl rfl rfl (by decide)) (fun w hw => isRow_lit .i64 w [n] _) ?_
    refine vt_valg rfl (fun w hw => os_move rfl) ?_
    refine vt_valg rfl (fun w hw => os_len Try.underlying40 rfl) ?_
    refine vt_callsg [(12, _)] (IsRow .i64 (List.replicate l n)) (isRow_stable _ _) ⟨⟨rfl, rfl⟩, trivial⟩ (fun w hw => fun u0 ⟨A0, c0, e0, x0⟩ => ⟨_, rfl, by subst e0; exact rep_row A0 c0 l n w x0 (by omega)⟩) ?_
    refine vt_callu 15 (.bool (canB n m b lens)) rfl (fun u w hw ⟨A', c', e, hr2⟩ => ⟨_, rfl, by subst e; exact (size_Fits n m b A A' l c _ c' lens (List.replicate l n) w (ha0.keep hw) hr2 hl rfl (by omega) (by simp; omega) (all_rep hn l)).mono fun v w' hh => ⟨by rw [hh.1]; simp [canB, hr, hl], hh.2⟩⟩) ?_
    refine vt_val (fun w hw => os_pick_t rfl rfl) ?_
    refine vt_val (fun w hw => os_assign rfl) ?_
    refine vt_nil (fun Hw H => ?_)
    intro u2 hu2 u1 hu1
    refine v_ret ?_
    exact post_ret rfl rfl (⟨by simp [canB, hr], hb0.trans (H.mono hb0.size)⟩)
set_option maxHeartbeats 4000000 in
theorem law11_SizeGreatest (n m b : Int) (A K : Option Addr) (l c lk ck : Nat) (lens ks : List Int) (w : World) (ha : Rd w .i64 A lens) (hk : Rd w .i64 K ks) (hl : l = lens.length) (hlk : lk = ks.length)
    (hl' : l ≤ 17592186044416) (hlk' : lk ≤ 17592186044416) (hlc : l ≤ c) (hkc : lk ≤ ck) (hks : AllI ks) (hn : I64 n) :
    Gives Try.prog 13 #[.agg #[.int .i64 n, .int .i64 m, .int .i64 b], .slice A l c, .slice K lk ck] w fun v w' => v = .bool true ∧ Below w.heap.size w w' := by
  have hb0 : Below w.heap.size w (w.alloc (.cells #[.int .i64 n, .int .i64 m, .int .i64 b] 75)) := (Below.refl _ w).alloc (Nat.le_refl _) _
  have hB0 := bk_new w [.int .i64 n, .int .i64 m, .int .i64 b] 75
  refine gives_enter Try.call13 Try.func13 rfl rfl rfl (by kernel_rfl) ?_
  refine v_seq ?_
  refine v_region ?_
  refine vl_val (os_box rfl) ?_
  refine vl_val (os_assign rfl) ?_
  refine vl_nil ?_
  refine v_seq ?_
  refine v_seq ?_
  refine v_region ?_
  refine vl_call (law11_awake _) rfl ?_
  rintro v1 w1 ⟨rfl, hb1⟩
  have hb1w := hb0.trans (hb1.mono (by simp))
  have hB1 := hB0.keep hb1
  have ha1 := ha.keep hb1w
  have hk1 := hk.keep hb1w
  refine vl_val (os_not rfl) ?_
  refine vl_nil ?_
  refine v_cond_f rfl ?_
  refine v_skip ?_
  refine v_seq ?_
  refine v_seq ?_
  refine v_region ?_
  refine vl_val (os_move rfl) ?_
  refine vl_val (os_len Try.underlying40 rfl) ?_
  refine vl_val (os_move rfl) ?_
  refine vl_val (os_len Try.underlying40 rfl) ?_
  refine vl_val (os_addi rfl rfl (by omega)) ?_
  refine vl_val (os_gtr rfl rfl) ?_
  refine vl_nil ?_
  refine v_cond_d rfl (fun hbig => ?_) (fun hbig => ?_)
  · refine v_seq ?_
    refine v_region ?_
    refine vl_val (os_assign rfl) ?_
    refine vl_nil ?_
    refine v_ret ?_
    exact post_ret rfl rfl (⟨rfl, hb1w⟩)
  · cases hf : fitsB n m b lens ks
    · refine v_skip ?_
      refine v_seq ?_
      refine v_region ?_
      refine vl_val (os_loadB Try.underlying75 rfl (by kernel_rfl) rfl (hB1)) ?_
      refine vl_val (os_move rfl) ?_
      refine vl_val (os_move rfl) ?_
      refine vl_call (gives_boolb (size_Fits n m b _ _ l c lk ck lens ks _ ha1 hk1 hl hlk (by omega) (by omega) hks) hf) rfl ?_
      rintro v2 w2 ⟨rfl, hb2⟩
      have hb2w := hb1w.trans (hb2.mono hb1w.size)
      have hB2 := hB1.keep hb2
      have ha2 := ha1.keep hb2
      have hk2 := hk1.keep hb2
      refine vl_val (os_assign rfl) ?_
      refine vl_nil ?_
      cases hr : rightB n m b
      · refine v_seq ?_
        refine v_seq ?_
        refine v_region ?_
        refine vl_val (os_move rfl) ?_
        refine vl_val (os_move rfl) ?_
        refine vl_skip rfl rfl ?_
        refine vl_skip rfl rfl ?_
        refine vl_skip rfl rfl ?_
        refine vl_skip rfl rfl ?_
        refine vl_val (os_pick_f rfl rfl) ?_
        refine vl_nil ?_
        refine v_cond_f rfl ?_
        refine v_skip ?_
        refine v_seq ?_
        refine v_seq ?_
        refine v_region ?_
        refine vl_val (os_loadB Try.underlying75 rfl (by kernel_rfl) rfl (hB2)) ?_
        refine vl_call (gives_boolb (size_Right n m b w2) hr) rfl ?_
        rintro v3 w3 ⟨rfl, hb3⟩
        have hb3w := hb2w.trans (hb3.mono hb2w.size)
        have hB3 := hB2.keep hb3
        have ha3 := ha2.keep hb3
        refine vl_val (os_not rfl) ?_
        refine vl_nil ?_
        refine v_cond_t rfl ?_
        refine v_seq ?_
        refine v_region ?_
        refine vl_val (os_move rfl) ?_
        refine vl_val (os_not rfl) ?_
        refine vl_val (os_move rfl) ?_
        refine vl_valg rfl (os_loadB Try.underlying75 rfl (by kernel_rfl) rfl (hB3)) ?_
        refine vl_valg rfl (os_move rfl) ?_
        refine vl_callg rfl (gives_boolb (size_Can n m b _ l c lens w3 ha3 hl (by omega) hn) (by simp [canB, hr] : canB n m b lens = false)) rfl ?_
        rintro v4 w4 ⟨rfl, hb4⟩
        refine vl_valg rfl (os_not rfl) ?_
        refine vl_val (os_pick_t rfl rfl) ?_
        refine vl_val (os_assign rfl) ?_
        refine vl_nil ?_
        refine v_ret ?_
        exact post_ret rfl rfl (⟨rfl, hb3w.trans (hb4.mono hb3w.size)⟩)
      · refine v_seq ?_
        refine v_seq ?_
        refine v_region ?_
        refine vl_val (os_move rfl) ?_
        refine vl_val (os_move rfl) ?_
        refine vl_skip rfl rfl ?_
        refine vl_skip rfl rfl ?_
        refine vl_skip rfl rfl ?_
        refine vl_skip rfl rfl ?_
        refine vl_val (os_pick_f rfl rfl) ?_
        refine vl_nil ?_
        refine v_cond_f rfl ?_
        refine v_skip ?_
        refine v_seq ?_
        refine v_seq ?_
        refine v_region ?_
        refine vl_val (os_loadB Try.underlying75 rfl (by kernel_rfl) rfl (hB2)) ?_
        refine vl_call (gives_boolb (size_Right n m b w2) hr) rfl ?_
        rintro v4 w4 ⟨rfl, hb4⟩
        have b4w := hb2w.trans (hb4.mono hb2w.size)
        have hB4 := hB2.keep hb4
        have ha4 := ha2.keep hb4
        have hk4 := hk2.keep hb4
        refine vl_val (os_not rfl) ?_
        refine vl_nil ?_
        refine v_cond_f rfl ?_
        refine v_skip ?_
        refine v_seq ?_
        refine v_region ?_
        refine vl_val (os_assign rfl) ?_
        refine vl_nil ?_
        refine v_seq ?_
        refine v_seq ?_
        refine v_region ?_
        refine vl_val (os_assign rfl) ?_
        refine vl_nil ?_
        refine v_block ?_
        refine v_loop2 [(1, _), (2, _), (3, _), (7, _)] (fun (i : Nat) (V : Value) => [(8, V), (9, .int .i64 i)]) (fun i V w' => i ≤ l ∧ OwnK w' w4.heap.size 3 .i64 V (List.replicate i n) ∧ Below w4.heap.size w4 w') (fun i V => l - i) (0) (.slice none 0 0) ⟨rfl, rfl, rfl, rfl, trivial⟩ ⟨rfl, rfl, trivial⟩ (⟨by omega, Own.nil _ _ _, Below.refl _ _⟩) ?_
        rintro i V w5 ⟨hi, ho, b5⟩
        refine v_seq ?_
        refine v_seq ?_
        refine v_region ?_
        refine vl_val (os_move rfl) ?_
        refine vl_val (os_move rfl) ?_
        refine vl_val (os_len Try.underlying40 rfl) ?_
        refine vl_val (os_lss rfl rfl) ?_
        refine vl_nil ?_
        refine v_cond_d rfl (fun h => ?_) (fun h => ?_)
        · refine v_skip ?_
          refine v_seq ?_
          refine v_block ?_
          refine v_region ?_
          refine vl_val (os_move rfl) ?_
          refine vl_val (os_fa (o := 0) (k := 0) (by kernel_rfl) rfl) ?_
          refine vl_val (os_load Try.isAgg3 rfl ((hB4.keep b5).cell (i := 0) rfl)) ?_
          refine vl_val (os_lit Try.underlying40 Try.sizeOf3 Try.zeroValue3 rfl rfl rfl rfl (by decide)) ?_
          refine vl_some (ot_append Try.underlying40 ti_int rfl rfl rfl (Own.alloc ho (.cells #[.int .i64 n] 3)) (rdc_alloc _ [Value.int .i64 n] _) rfl (by simp [Value.oneCell']) (by simp; omega) (by simp [maxLen]; omega) (b5.alloc b5.size _).size) ?_
          rintro v6 w6 ⟨so, sg⟩
          have b6 := Own.below (b5.alloc b5.size _) (Own.alloc ho (.cells #[.int .i64 n] 3)) sg (Nat.le_refl _) (b5.alloc b5.size _).size
          refine vl_val (os_assign rfl) ?_
          refine vl_nil ?_
          refine v_region ?_
          refine vl_val (os_move rfl) ?_
          refine vl_val (os_addi rfl rfl (by omega)) ?_
          refine vl_val (os_assign rfl) ?_
          refine vl_nil ?_
          exact ⟨⟨i + 1, v6⟩, ⟨rfl, rfl, rfl, rfl, trivial⟩, ⟨rfl, rfl, trivial⟩, ⟨by dsimp only; omega, by simpa [OwnK, List.replicate_succ'] using so, b6⟩, by dsimp only; omega⟩
        · obtain rfl : l = i := by omega
          obtain ⟨A9, c9, rfl, hc9, hc9', r9, _⟩ := OwnK.form ho
          have e9 : (List.replicate l n).length = l := List.length_replicate
          have hcf : canB n m b lens = fitsB n m b lens (List.replicate l n) := by simp [canB, hr, hl]
          refine v_exit ?_
          refine v_seq ?_
          refine v_seq ?_
          refine v_region_t LeG _ mixed (by kernel_rfl) lee_g (leg_start _) ?_
          refine vt_val (fun w hw => os_loadB Try.underlying75 rfl (by kernel_rfl) rfl (((hB4.keep b5).keep hw))) ?_
          refine vt_val (fun w hw => os_move rfl) ?_
          refine vt_call (v := _) (fun w hw => gives_boolb (size_Can n m b _ l c lens w ((ha4.keep b5).keep hw) hl (by omega) hn) hcf) rfl ?_
          refine vt_val (fun w hw => os_loadB Try.underlying75 rfl (by kernel_rfl) rfl (((hB4.keep b5).keep hw))) ?_
          refine vt_val (fun w hw => os_move rfl) ?_
          refine vt_val (fun w hw => os_move rfl) ?_
          refine vt_call (v := _) (fun w hw => size_Fits n m b _ _ l c _ c9 lens (List.replicate l n) w ((ha4.keep b5).keep hw) (r9.keep hw) hl rfl (by omega) (by rw [e9]; omega) (all_rep hn l)) rfl ?_
          refine vt_val (fun w hw => os_is (os_neqb Try.underlying4 rfl rfl) ((bne_self_eq_false (fitsB n m b lens (List.replicate l n))))) ?_
          refine vt_nil (fun H9w H9 => ?_)
          have b9 : Below w4.heap.size w4 H9w := b5.trans (H9.mono b5.size)
          have hB9 := hB4.keep b9
          have ha9 := ha4.keep b9
          have hk9 := hk4.keep b9
          refine v_cond_f rfl ?_
          refine v_skip ?_
          refine v_seq ?_
          refine v_region ?_
          refine vl_val (os_loadB Try.underlying75 rfl (by kernel_rfl) rfl (hB9)) ?_
          refine vl_val (os_move rfl) ?_
          refine vl_val (os_len Try.underlying40 rfl) ?_
          refine vl_call (size_Room n m b l _) rfl ?_
          rintro v10 w10 ⟨rfl, b10⟩
          have b10' := b9.trans (b10.mono b9.size)
          have hB10 := hB9.keep b10
          have ha10 := ha9.keep b10
          have hk10 := hk9.keep b10
          refine vl_val (os_move rfl) ?_
          refine vl_val (os_extract rfl rfl) ?_
          refine vl_val (os_extract rfl rfl) ?_
          refine vl_val (os_assign rfl) ?_
          refine vl_val (os_assign rfl) ?_
          refine vl_nil ?_
          cases h1 : roomOk n m b l
          · refine v_seq ?_
            refine v_seq ?_
            refine v_region ?_
            refine vl_val (os_move rfl) ?_
            refine vl_val (os_t (os_neq rfl rfl) (by simp [h1, errE])) ?_
            refine vl_val (os_move rfl) ?_
            refine vl_skip rfl rfl ?_
            refine vl_skip rfl rfl ?_
            refine vl_skip rfl rfl ?_
            refine vl_skip rfl rfl ?_
            refine vl_skip rfl rfl ?_
            refine vl_val (os_pick_t rfl rfl) ?_
            refine vl_nil ?_
            refine v_cond_t rfl ?_
            refine v_seq ?_
            refine v_region ?_
            refine vl_val (os_move rfl) ?_
            refine vl_val (os_not rfl) ?_
            refine vl_val (os_assign rfl) ?_
            refine vl_nil ?_
            refine v_ret ?_
            exact post_ret rfl rfl (⟨by simp, b4w.trans (b10'.mono b4w.size)⟩)
          · refine v_seq ?_
            refine v_seq ?_
            refine v_region ?_
            refine vl_val (os_move rfl) ?_
            refine vl_val (os_f (os_neq rfl rfl) (by simp [h1, errE])) ?_
            refine vl_val (os_move rfl) ?_
            refine vl_valg rfl (os_move rfl) ?_
            refine vl_valg rfl (os_len Try.underlying40 rfl) ?_
            refine vl_valg rfl (os_move rfl) ?_
            refine vl_valg rfl (os_len Try.underlying40 rfl) ?_
            refine vl_valg rfl (os_neq rfl rfl) ?_
            refine vl_val (os_pick_f rfl rfl) ?_
            refine vl_nil ?_
            refine v_cond_d rfl (fun hll => ?_) (fun hll => ?_)
            · refine v_seq ?_
              refine v_region ?_
              refine vl_val (os_move rfl) ?_
              refine vl_val (os_not rfl) ?_
              refine vl_val (os_assign rfl) ?_
              refine vl_nil ?_
              refine v_ret ?_
              exact post_ret rfl rfl (⟨by simp, b4w.trans (b10'.mono b4w.size)⟩)
            · have hll : lk = l := by omega
              have h3 : ks.length = lens.length := by omega
              have hlr : (rowsZ ks lens).length = l := by simp [rowsZ]; omega
              have erv : roomV n m b l = roomW n m b l := by simp [roomV, h1]
              refine v_skip ?_
              refine v_seq ?_
              refine v_region ?_
              refine vl_val (os_assign rfl) ?_
              refine vl_nil ?_
              refine v_seq ?_
              refine v_seq ?_
              refine v_region ?_
              refine vl_val (os_assign rfl) ?_
              refine vl_nil ?_
              refine v_block ?_
              refine v_loop2 [(1, _), (2, _), (3, _), (7, _), (10, _)] (fun (i : Nat) (V : Value) => [(12, V), (13, .int .i64 i)]) (fun i V w' => i ≤ l ∧ OwnP w' w10.heap.size 78 2 V (((rowsZ ks lens).take i).map rowC) ∧ Below w10.heap.size w10 w') (fun i V => l - i) (0) (.slice none 0 0) ⟨rfl, rfl, rfl, rfl, rfl, trivial⟩ ⟨rfl, rfl, trivial⟩ (⟨by omega, by simpa using OwnP.nil, Below.refl _ _⟩) ?_
              rintro i V w11 ⟨hi, ho, b11⟩
              refine v_seq ?_
              refine v_seq ?_
              refine v_region ?_
              refine vl_val (os_move rfl) ?_
              refine vl_val (os_move rfl) ?_
              refine vl_val (os_len Try.underlying40 rfl) ?_
              refine vl_val (os_lss rfl rfl) ?_
              refine vl_nil ?_
              refine v_cond_d rfl (fun h => ?_) (fun h => ?_)
              · obtain ⟨bk, ok, rfl, dk⟩ := (hk10.keep b11).at_ (i := i) (by omega)
                obtain ⟨ba, oa, rfl, da⟩ := (ha10.keep b11).at_ (i := i) (by omega)
                have eln : (((rowsZ ks lens).take i).map rowC).length = i := by simp [hlr]; omega
                refine v_skip ?_
                refine v_seq ?_
                refine v_block ?_
                refine v_region_a mixed ?_
                refine va_pure 0 rfl (by kernel_rfl) (by kernel_rfl) (by kernel_rfl) (fun w => (os_move rfl)) ?_
                refine va_pure 1 rfl (by kernel_rfl) (by kernel_rfl) (by kernel_rfl) (fun w => (os_move rfl)) ?_
                refine va_pure 2 rfl (by kernel_rfl) (by kernel_rfl) (by kernel_rfl) (fun w => (os_move rfl)) ?_
                refine va_pure 3 rfl (by kernel_rfl) (by kernel_rfl) (by kernel_rfl) (fun w => (os_ix Try.underlying40 Try.sizeOf3 rfl rfl (i := i) (by omega) (by omega))) ?_
                refine va_pure 5 rfl (by kernel_rfl) (by kernel_rfl) (by kernel_rfl) (fun w => (os_move rfl)) ?_
                refine va_pure 6 rfl (by kernel_rfl) (by kernel_rfl) (by kernel_rfl) (fun w => (os_move rfl)) ?_
                refine va_pure 7 rfl (by kernel_rfl) (by kernel_rfl) (by kernel_rfl) (fun w => (os_ix Try.underlying40 Try.sizeOf3 rfl rfl (i := i) (by omega) (by omega))) ?_
                refine va_two 4 8 (by kernel_rfl) ?_ ?_
                · refine vn_val rfl (os_load Try.isAgg3 rfl (led_cell (⟨1, rfl⟩ : LeD w11 _) dk)) ?_
                  refine va_one 8 (by kernel_rfl) ?_
                  refine vn_val rfl (os_load Try.isAgg3 rfl (led_cell (⟨1, rfl⟩ : LeD w11 _) da)) ?_
                  refine va_pure 9 rfl (by kernel_rfl) (by kernel_rfl) (by kernel_rfl) (fun w => (os_build (cs := [.int .i64 (ks.getD i 0), .int .i64 (lens.getD i 0)]) rfl (by kernel_rfl))) ?_
                  refine va_one 10 (by kernel_rfl) ?_
                  refine vn_val rfl (os_litS (css := [[.int .i64 (ks.getD i 0), .int .i64 (lens.getD i 0)]]) Try.underlying79 Try.sizeOf78 Try.zeroValue78 rfl rfl (by intro c hc; simp at hc; subst hc; rfl) (by decide) (by decide) (by decide)) ?_
                  refine va_one 11 (by kernel_rfl) ?_
                  refine vn_some rfl (ot_append_p Try.underlying79 ti_row rfl (by decide) rfl rfl (OwnP.alloc (OwnP.led ho ⟨1, rfl⟩) _) (rdp_alloc _ _ _ (by intro c hc; simp at hc; subst hc; rfl)) (by intro c hc; simp at hc; subst hc; rfl) rfl (by simp) (by intro c hc u hu; simp at hc; subst hc; simp at hu; rcases hu with rfl | rfl <;> rfl) (by rw [eln]; omega) (by rw [eln]; simp [maxLen]; omega) (by have := b11.size; simp; omega)) ?_
                  rintro v12 w12 ⟨so, sg, _⟩
                  have b11d : Below w10.heap.size w10 { w11 with drawn := w11.drawn + 1 } := b11.drew
                  have b12 := OwnP.below (b11d.alloc b11d.size _) (OwnP.alloc (OwnP.led ho ⟨1, rfl⟩) _) sg (Nat.le_refl _) (b11d.alloc b11d.size _).size
                  refine va_pure 12 rfl (by kernel_rfl) (by kernel_rfl) (by kernel_rfl) (fun w => (os_assign rfl)) ?_
                  refine va_done (by kernel_rfl) ?_
                  refine v_region ?_
                  refine vl_val (os_move rfl) ?_
                  refine vl_val (os_addi rfl rfl (by omega)) ?_
                  refine vl_val (os_assign rfl) ?_
                  refine vl_nil ?_
                  exact ⟨⟨i + 1, v12⟩, ⟨rfl, rfl, rfl, rfl, rfl, trivial⟩, ⟨rfl, rfl, trivial⟩, ⟨by dsimp only; omega, by dsimp only; rw [rows_take (by omega) (by omega)]; exact so, b12⟩, by dsimp only; omega⟩
                · refine vn_val rfl (os_load Try.isAgg3 rfl (led_cell (⟨1, rfl⟩ : LeD w11 _) da)) ?_
                  refine va_one 4 (by kernel_rfl) ?_
                  refine vn_val rfl (os_load Try.isAgg3 rfl (led_cell (⟨1, rfl⟩ : LeD w11 _) dk)) ?_
                  refine va_pure 9 rfl (by kernel_rfl) (by kernel_rfl) (by kernel_rfl) (fun w => (os_build (cs := [.int .i64 (ks.getD i 0), .int .i64 (lens.getD i 0)]) rfl (by kernel_rfl))) ?_
                  refine va_one 10 (by kernel_rfl) ?_
                  refine vn_val rfl (os_litS (css := [[.int .i64 (ks.getD i 0), .int .i64 (lens.getD i 0)]]) Try.underlying79 Try.sizeOf78 Try.zeroValue78 rfl rfl (by intro c hc; simp at hc; subst hc; rfl) (by decide) (by decide) (by decide)) ?_
                  refine va_one 11 (by kernel_rfl) ?_
                  refine vn_some rfl (ot_append_p Try.underlying79 ti_row rfl (by decide) rfl rfl (OwnP.alloc (OwnP.led ho ⟨1, rfl⟩) _) (rdp_alloc _ _ _ (by intro c hc; simp at hc; subst hc; rfl)) (by intro c hc; simp at hc; subst hc; rfl) rfl (by simp) (by intro c hc u hu; simp at hc; subst hc; simp at hu; rcases hu with rfl | rfl <;> rfl) (by rw [eln]; omega) (by rw [eln]; simp [maxLen]; omega) (by have := b11.size; simp; omega)) ?_
                  rintro v12 w12 ⟨so, sg, _⟩
                  have b11d : Below w10.heap.size w10 { w11 with drawn := w11.drawn + 1 } := b11.drew
                  have b12 := OwnP.below (b11d.alloc b11d.size _) (OwnP.alloc (OwnP.led ho ⟨1, rfl⟩) _) sg (Nat.le_refl _) (b11d.alloc b11d.size _).size
                  refine va_pure 12 rfl (by kernel_rfl) (by kernel_rfl) (by kernel_rfl) (fun w => (os_assign rfl)) ?_
                  refine va_done (by kernel_rfl) ?_
                  refine v_region ?_
                  refine vl_val (os_move rfl) ?_
                  refine vl_val (os_addi rfl rfl (by omega)) ?_
                  refine vl_val (os_assign rfl) ?_
                  refine vl_nil ?_
                  exact ⟨⟨i + 1, v12⟩, ⟨rfl, rfl, rfl, rfl, rfl, trivial⟩, ⟨rfl, rfl, trivial⟩, ⟨by dsimp only; omega, by dsimp only; rw [rows_take (by omega) (by omega)]; exact so, b12⟩, by dsimp only; omega⟩
              · obtain rfl : l = i := by omega
                rw [List.take_of_length_le (Nat.le_of_eq hlr)] at ho
                obtain ⟨A12, c12, rfl, hc12, hc12', r12⟩ := OwnP.form ho
                have hb11 := hB10.keep b11
                refine v_exit ?_
                refine v_seq ?_
                refine v_region ?_
                refine vl_val (os_fa (o := 0) (k := 0) (by kernel_rfl) rfl) ?_
                refine vl_val (os_load Try.isAgg3 rfl (hb11.cell (i := 0) rfl)) ?_
                refine vl_val (os_move rfl) ?_
                refine vl_call (lay_Long n A12 _ c12 (rowsZ ks lens) w11 r12 (by simp) (by simp; omega)) rfl ?_
                rintro v13 w13 ⟨rfl, b13⟩
                have hb13 := hb11.keep b13
                refine vl_val (os_move rfl) ?_
                refine vl_val (os_extract rfl rfl) ?_
                refine vl_val (os_extract rfl rfl) ?_
                refine vl_val (os_assign rfl) ?_
                refine vl_val (os_assign rfl) ?_
                refine vl_nil ?_
                refine v_seq ?_
                refine v_region ?_
                refine vl_val (os_fa (o := 0) (k := 0) (by kernel_rfl) rfl) ?_
                refine vl_val (os_load Try.isAgg3 rfl (hb13.cell (i := 0) rfl)) ?_
                refine vl_val (os_move rfl) ?_
                refine vl_call (size_Of n A12 _ c12 (rowsZ ks lens) w13 (r12.keep b13) (by simp) (by simp; omega)) rfl ?_
                rintro v14 w14 ⟨rfl, b14⟩
                have hb14 := hb13.keep b14
                have b14w : Below w.heap.size w w14 := b4w.trans ((b10'.trans ((b11.trans ((b13.trans (b14.mono b13.size)).mono b11.size)).mono b10'.size)).mono b4w.size)
                refine vl_val (os_move rfl) ?_
                refine vl_val (os_extract rfl rfl) ?_
                refine vl_val (os_extract rfl rfl) ?_
                refine vl_val (os_assign rfl) ?_
                refine vl_val (os_assign rfl) ?_
                refine vl_nil ?_
                cases hL : layOk n (rowsZ ks lens)
                · refine v_seq ?_
                  refine v_seq ?_
                  refine v_region ?_
                  refine vl_val (os_move rfl) ?_
                  refine vl_val (os_neq rfl rfl) ?_
                  refine vl_nil ?_
                  refine v_cond_yes rfl (by simp [errE]) ?_
                  refine v_seq ?_
                  refine v_region ?_
                  refine vl_val (os_move rfl) ?_
                  refine vl_val (os_not rfl) ?_
                  refine vl_val (os_move rfl) ?_
                  refine vl_valg rfl (os_move rfl) ?_
                  refine vl_valg rfl (os_move rfl) ?_
                  refine vl_valg rfl (os_t (os_eql rfl rfl) (rfl)) ?_
                  refine vl_val (os_pick_t rfl rfl) ?_
                  refine vl_val (os_assign rfl) ?_
                  refine vl_nil ?_
                  refine v_ret ?_
                  exact post_ret rfl rfl (⟨by simp, b14w⟩)
                · have hlong : longV n (rowsZ ks lens) = offS (rowsZ ks lens) ks.length := by simp [longV, hL, hlr]; congr 1; omega
                  have hof : ofV n (rowsZ ks lens) = 18 + 3 * (l : Int) + offS (rowsZ ks lens) ks.length := by simp [ofV, hL, hlr]; congr 1; omega
                  have hlf := lay_fits h3 (by rw [← hl]; exact h1) hL
                  rw [hf, ← hl] at hlf
                  have hob := offS_bd (rows := rowsZ ks lens) ks.length
                  have hri := room_iff h1 hob.1
                  rw [hlong, hof, erv]
                  generalize offS (rowsZ ks lens) ks.length = X at *
                  have hX : ¬ X ≤ roomW n m b l := by simpa using hlf.symm
                  by_cases hm : 18 + 3 * (l : Int) + X ≤ m
                  · have hX2 : ¬ (18 + 3 * (l : Int) + X) * n ≤ b := fun h => hX (hri.2 ⟨hm, h⟩)
                    refine v_seq ?_
                    refine v_seq ?_
                    refine v_region ?_
                    refine vl_val (os_move rfl) ?_
                    refine vl_val (os_neq rfl rfl) ?_
                    refine vl_nil ?_
                    refine v_cond_no rfl (by simp [hL, errE]) ?_
                    refine v_skip ?_
                    refine v_seq ?_
                    refine v_region ?_
                    refine vl_val (os_move rfl) ?_
                    refine vl_val (os_t (os_eql rfl rfl) (by simp [hL, errE])) ?_
                    refine vl_val (os_move rfl) ?_
                    refine vl_valg rfl (os_move rfl) ?_
                    refine vl_valg rfl (os_move rfl) ?_
                    refine vl_valg rfl (os_addi rfl rfl (by omega)) ?_
                    refine vl_valg rfl (os_move rfl) ?_
                    refine vl_valg rfl (os_len Try.underlying40 rfl) ?_
                    refine vl_valg rfl (os_muli rfl rfl (by omega)) ?_
                    refine vl_valg rfl (os_addi rfl rfl (by omega)) ?_
                    refine vl_valg rfl (os_t (os_eql rfl rfl) (by omega)) ?_
                    refine vl_val (os_pick_t rfl rfl) ?_
                    refine vl_val (os_move rfl) ?_
                    refine vl_valg rfl (os_move rfl) ?_
                    refine vl_valg rfl (os_move rfl) ?_
                    refine vl_valg rfl (os_move rfl) ?_
                    refine vl_valg rfl (os_f (os_leq rfl rfl) (by omega)) ?_
                    refine vl_valg rfl (os_is (os_eqlb Try.underlying4 rfl rfl) (rfl)) ?_
                    refine vl_val (os_pick_t rfl rfl) ?_
                    refine vl_val (os_move rfl) ?_
                    refine vl_valg rfl (os_move rfl) ?_
                    refine vl_valg rfl (os_move rfl) ?_
                    refine vl_valg rfl (os_fa (o := 1) (k := 0) (by kernel_rfl) rfl) ?_
                    refine vl_valg rfl (os_load Try.isAgg3 rfl (hb14.cell (i := 1) rfl)) ?_
                    refine vl_valg rfl (os_t (os_leq rfl rfl) (by omega)) ?_
                    refine vl_valg rfl (os_move rfl) ?_
                    refine vl_valg rfl (os_move rfl) ?_
                    refine vl_valg rfl (os_fa (o := 0) (k := 0) (by kernel_rfl) rfl) ?_
                    refine vl_valg rfl (os_load Try.isAgg3 rfl (hb14.cell (i := 0) rfl)) ?_
                    refine vl_valg rfl (os_mul rfl rfl (i64_fit (fit_mul hr (by omega) (by omega)))) ?_
                    refine vl_valg rfl (os_fa (o := 2) (k := 0) (by kernel_rfl) rfl) ?_
                    refine vl_valg rfl (os_load Try.isAgg3 rfl (hb14.cell (i := 2) rfl)) ?_
                    refine vl_valg rfl (os_f (os_leq rfl rfl) (by omega)) ?_
                    refine vl_valg rfl (os_pick_t rfl rfl) ?_
                    refine vl_valg rfl (os_is (os_eqlb Try.underlying4 rfl rfl) (rfl)) ?_
                    refine vl_val (os_pick_t rfl rfl) ?_
                    refine vl_val (os_assign rfl) ?_
                    refine vl_nil ?_
                    refine v_ret ?_
                    exact post_ret rfl rfl (⟨rfl, b14w⟩)
                  · refine v_seq ?_
                    refine v_seq ?_
                    refine v_region ?_
                    refine vl_val (os_move rfl) ?_
                    refine vl_val (os_neq rfl rfl) ?_
                    refine vl_nil ?_
                    refine v_cond_no rfl (by simp [hL, errE]) ?_
                    refine v_skip ?_
                    refine v_seq ?_
                    refine v_region ?_
                    refine vl_val (os_move rfl) ?_
                    refine vl_val (os_t (os_eql rfl rfl) (by simp [hL, errE])) ?_
                    refine vl_val (os_move rfl) ?_
                    refine vl_valg rfl (os_move rfl) ?_
                    refine vl_valg rfl (os_move rfl) ?_
                    refine vl_valg rfl (os_addi rfl rfl (by omega)) ?_
                    refine vl_valg rfl (os_move rfl) ?_
                    refine vl_valg rfl (os_len Try.underlying40 rfl) ?_
                    refine vl_valg rfl (os_muli rfl rfl (by omega)) ?_
                    refine vl_valg rfl (os_addi rfl rfl (by omega)) ?_
                    refine vl_valg rfl (os_t (os_eql rfl rfl) (by omega)) ?_
                    refine vl_val (os_pick_t rfl rfl) ?_
                    refine vl_val (os_move rfl) ?_
                    refine vl_valg rfl (os_move rfl) ?_
                    refine vl_valg rfl (os_move rfl) ?_
                    refine vl_valg rfl (os_move rfl) ?_
                    refine vl_valg rfl (os_f (os_leq rfl rfl) (by omega)) ?_
                    refine vl_valg rfl (os_is (os_eqlb Try.underlying4 rfl rfl) (rfl)) ?_
                    refine vl_val (os_pick_t rfl rfl) ?_
                    refine vl_val (os_move rfl) ?_
                    refine vl_valg rfl (os_move rfl) ?_
                    refine vl_valg rfl (os_move rfl) ?_
                    refine vl_valg rfl (os_fa (o := 1) (k := 0) (by kernel_rfl) rfl) ?_
                    refine vl_valg rfl (os_load Try.isAgg3 rfl (hb14.cell (i := 1) rfl)) ?_
                    refine vl_valg rfl (os_f (os_leq rfl rfl) (by omega)) ?_
                    refine vl_valg rfl (os_move rfl) ?_
                    refine vl_skip rfl rfl ?_
                    refine vl_skip rfl rfl ?_
                    refine vl_skip rfl rfl ?_
                    refine vl_skip rfl rfl ?_
                    refine vl_skip rfl rfl ?_
                    refine vl_skip rfl rfl ?_
                    refine vl_skip rfl rfl ?_
                    refine vl_valg rfl (os_pick_f rfl rfl) ?_
                    refine vl_valg rfl (os_is (os_eqlb Try.underlying4 rfl rfl) (rfl)) ?_
                    refine vl_val (os_pick_t rfl rfl) ?_
                    refine vl_val (os_assign rfl) ?_
                    refine vl_nil ?_
                    refine v_ret ?_
                    exact post_ret rfl rfl (⟨rfl, b14w⟩)
    · have hcan := fits_can hf
      have hfi := fits_iff.1 hf
      obtain ⟨h1, f2, f3, f4, f5, f6⟩ := hfi
      rw [← hl] at h1
      have hr : rightB n m b = true := by simp only [roomOk, Bool.and_eq_true] at h1; exact h1.1
      refine v_skip ?_
      refine v_seq ?_
      refine v_region ?_
      refine vl_val (os_loadB Try.underlying75 rfl (by kernel_rfl) rfl (hB1)) ?_
      refine vl_val (os_move rfl) ?_
      refine vl_val (os_move rfl) ?_
      refine vl_call (gives_boolb (size_Fits n m b _ _ l c lk ck lens ks _ ha1 hk1 hl hlk (by omega) (by omega) hks) hf) rfl ?_
      rintro v2 w2 ⟨rfl, hb2⟩
      have hb2w := hb1w.trans (hb2.mono hb1w.size)
      have hB2 := hB1.keep hb2
      have ha2 := ha1.keep hb2
      have hk2 := hk1.keep hb2
      refine vl_val (os_assign rfl) ?_
      refine vl_nil ?_
      refine v_seq ?_
      refine v_seq ?_
      refine v_region ?_
      refine vl_val (os_move rfl) ?_
      refine vl_val (os_move rfl) ?_
      refine vl_valg rfl (os_loadB Try.underlying75 rfl (by kernel_rfl) rfl (hB2)) ?_
      refine vl_valg rfl (os_move rfl) ?_
      refine vl_callg rfl (gives_boolb (size_Can n m b _ l c lens w2 ha2 hl (by omega) hn) hcan) rfl ?_
      rintro v3 w3 ⟨rfl, hb3⟩
      have hb3w := hb2w.trans (hb3.mono hb2w.size)
      have hB3 := hB2.keep hb3
      refine vl_valg rfl (os_not rfl) ?_
      refine vl_val (os_pick_t rfl rfl) ?_
      refine vl_nil ?_
      refine v_cond_f rfl ?_
      refine v_skip ?_
      refine v_seq ?_
      refine v_seq ?_
      refine v_region ?_
      refine vl_val (os_loadB Try.underlying75 rfl (by kernel_rfl) rfl (hB3)) ?_
      refine vl_call (gives_boolb (size_Right n m b w3) hr) rfl ?_
      rintro v4 w4 ⟨rfl, hb4⟩
      have b4w := hb3w.trans (hb4.mono hb3w.size)
      have hB4 := hB3.keep hb4
      have ha4 := (ha2.keep hb3).keep hb4
      have hk4 := (hk2.keep hb3).keep hb4
      refine vl_val (os_not rfl) ?_
      refine vl_nil ?_
      refine v_cond_f rfl ?_
      refine v_skip ?_
      refine v_seq ?_
      refine v_region ?_
      refine vl_val (os_assign rfl) ?_
      refine vl_nil ?_
      refine v_seq ?_
      refine v_seq ?_
      refine v_region ?_
      refine vl_val (os_assign rfl) ?_
      refine vl_nil ?_
      refine v_block ?_
      refine v_loop2 [(1, _), (2, _), (3, _), (7, _)] (fun (i : Nat) (V : Value) => [(8, V), (9, .int .i64 i)]) (fun i V w' => i ≤ l ∧ OwnK w' w4.heap.size 3 .i64 V (List.replicate i n) ∧ Below w4.heap.size w4 w') (fun i V => l - i) (0) (.slice none 0 0) ⟨rfl, rfl, rfl, rfl, trivial⟩ ⟨rfl, rfl, trivial⟩ (⟨by omega, Own.nil _ _ _, Below.refl _ _⟩) ?_
      rintro i V w5 ⟨hi, ho, b5⟩
      refine v_seq ?_
      refine v_seq ?_
      refine v_region ?_
      refine vl_val (os_move rfl) ?_
      refine vl_val (os_move rfl) ?_
      refine vl_val (os_len Try.underlying40 rfl) ?_
      refine vl_val (os_lss rfl rfl) ?_
      refine vl_nil ?_
      refine v_cond_d rfl (fun h => ?_) (fun h => ?_)
      · refine v_skip ?_
        refine v_seq ?_
        refine v_block ?_
        refine v_region ?_
        refine vl_val (os_move rfl) ?_
        refine vl_val (os_fa (o := 0) (k := 0) (by kernel_rfl) rfl) ?_
        refine vl_val (os_load Try.isAgg3 rfl ((hB4.keep b5).cell (i := 0) rfl)) ?_
        refine vl_val (os_lit Try.underlying40 Try.sizeOf3 Try.zeroValue3 rfl rfl rfl rfl (by decide)) ?_
        refine vl_some (ot_append Try.underlying40 ti_int rfl rfl rfl (Own.alloc ho (.cells #[.int .i64 n] 3)) (rdc_alloc _ [Value.int .i64 n] _) rfl (by simp [Value.oneCell']) (by simp; omega) (by simp [maxLen]; omega) (b5.alloc b5.size _).size) ?_
        rintro v6 w6 ⟨so, sg⟩
        have b6 := Own.below (b5.alloc b5.size _) (Own.alloc ho (.cells #[.int .i64 n] 3)) sg (Nat.le_refl _) (b5.alloc b5.size _).size
        refine vl_val (os_assign rfl) ?_
        refine vl_nil ?_
        refine v_region ?_
        refine vl_val (os_move rfl) ?_
        refine vl_val (os_addi rfl rfl (by omega)) ?_
        refine vl_val (os_assign rfl) ?_
        refine vl_nil ?_
        exact ⟨⟨i + 1, v6⟩, ⟨rfl, rfl, rfl, rfl, trivial⟩, ⟨rfl, rfl, trivial⟩, ⟨by dsimp only; omega, by simpa [OwnK, List.replicate_succ'] using so, b6⟩, by dsimp only; omega⟩
      · obtain rfl : l = i := by omega
        obtain ⟨A9, c9, rfl, hc9, hc9', r9, _⟩ := OwnK.form ho
        have e9 : (List.replicate l n).length = l := List.length_replicate
        have hcf : canB n m b lens = fitsB n m b lens (List.replicate l n) := by simp [canB, hr, hl]
        refine v_exit ?_
        refine v_seq ?_
        refine v_seq ?_
        refine v_region_t LeG _ mixed (by kernel_rfl) lee_g (leg_start _) ?_
        refine vt_val (fun w hw => os_loadB Try.underlying75 rfl (by kernel_rfl) rfl (((hB4.keep b5).keep hw))) ?_
        refine vt_val (fun w hw => os_move rfl) ?_
        refine vt_call (v := _) (fun w hw => gives_boolb (size_Can n m b _ l c lens w ((ha4.keep b5).keep hw) hl (by omega) hn) hcf) rfl ?_
        refine vt_val (fun w hw => os_loadB Try.underlying75 rfl (by kernel_rfl) rfl (((hB4.keep b5).keep hw))) ?_
        refine vt_val (fun w hw => os_move rfl) ?_
        refine vt_val (fun w hw => os_move rfl) ?_
        refine vt_call (v := _) (fun w hw => size_Fits n m b _ _ l c _ c9 lens (List.replicate l n) w ((ha4.keep b5).keep hw) (r9.keep hw) hl rfl (by omega) (by rw [e9]; omega) (all_rep hn l)) rfl ?_
        refine vt_val (fun w hw => os_is (os_neqb Try.underlying4 rfl rfl) ((bne_self_eq_false (fitsB n m b lens (List.replicate l n))))) ?_
        refine vt_nil (fun H9w H9 => ?_)
        have b9 : Below w4.heap.size w4 H9w := b5.trans (H9.mono b5.size)
        have hB9 := hB4.keep b9
        have ha9 := ha4.keep b9
        have hk9 := hk4.keep b9
        refine v_cond_f rfl ?_
        refine v_skip ?_
        refine v_seq ?_
        refine v_region ?_
        refine vl_val (os_loadB Try.underlying75 rfl (by kernel_rfl) rfl (hB9)) ?_
        refine vl_val (os_move rfl) ?_
        refine vl_val (os_len Try.underlying40 rfl) ?_
        refine vl_call (size_Room n m b l _) rfl ?_
        rintro v10 w10 ⟨rfl, b10⟩
        have b10' := b9.trans (b10.mono b9.size)
        have hB10 := hB9.keep b10
        have ha10 := ha9.keep b10
        have hk10 := hk9.keep b10
        refine vl_val (os_move rfl) ?_
        refine vl_val (os_extract rfl rfl) ?_
        refine vl_val (os_extract rfl rfl) ?_
        refine vl_val (os_assign rfl) ?_
        refine vl_val (os_assign rfl) ?_
        refine vl_nil ?_
        refine v_seq ?_
        refine v_seq ?_
        refine v_region ?_
        refine vl_val (os_move rfl) ?_
        refine vl_val (os_f (os_neq rfl rfl) (by simp [h1, errE])) ?_
        refine vl_val (os_move rfl) ?_
        refine vl_valg rfl (os_move rfl) ?_
        refine vl_valg rfl (os_len Try.underlying40 rfl) ?_
        refine vl_valg rfl (os_move rfl) ?_
        refine vl_valg rfl (os_len Try.underlying40 rfl) ?_
        refine vl_valg rfl (os_neq rfl rfl) ?_
        refine vl_val (os_pick_f rfl rfl) ?_
        refine vl_nil ?_
        refine v_cond_no rfl (by omega) ?_
        have h3 : ks.length = lens.length := by omega
        have hlr : (rowsZ ks lens).length = l := by simp [rowsZ]; omega
        have erv : roomV n m b l = roomW n m b l := by simp [roomV, h1]
        refine v_skip ?_
        refine v_seq ?_
        refine v_region ?_
        refine vl_val (os_assign rfl) ?_
        refine vl_nil ?_
        refine v_seq ?_
        refine v_seq ?_
        refine v_region ?_
        refine vl_val (os_assign rfl) ?_
        refine vl_nil ?_
        refine v_block ?_
        refine v_loop2 [(1, _), (2, _), (3, _), (7, _), (10, _)] (fun (i : Nat) (V : Value) => [(12, V), (13, .int .i64 i)]) (fun i V w' => i ≤ l ∧ OwnP w' w10.heap.size 78 2 V (((rowsZ ks lens).take i).map rowC) ∧ Below w10.heap.size w10 w') (fun i V => l - i) (0) (.slice none 0 0) ⟨rfl, rfl, rfl, rfl, rfl, trivial⟩ ⟨rfl, rfl, trivial⟩ (⟨by omega, by simpa using OwnP.nil, Below.refl _ _⟩) ?_
        rintro i V w11 ⟨hi, ho, b11⟩
        refine v_seq ?_
        refine v_seq ?_
        refine v_region ?_
        refine vl_val (os_move rfl) ?_
        refine vl_val (os_move rfl) ?_
        refine vl_val (os_len Try.underlying40 rfl) ?_
        refine vl_val (os_lss rfl rfl) ?_
        refine vl_nil ?_
        refine v_cond_d rfl (fun h => ?_) (fun h => ?_)
        · obtain ⟨bk, ok, rfl, dk⟩ := (hk10.keep b11).at_ (i := i) (by omega)
          obtain ⟨ba, oa, rfl, da⟩ := (ha10.keep b11).at_ (i := i) (by omega)
          have eln : (((rowsZ ks lens).take i).map rowC).length = i := by simp [hlr]; omega
          refine v_skip ?_
          refine v_seq ?_
          refine v_block ?_
          refine v_region_a mixed ?_
          refine va_pure 0 rfl (by kernel_rfl) (by kernel_rfl) (by kernel_rfl) (fun w => (os_move rfl)) ?_
          refine va_pure 1 rfl (by kernel_rfl) (by kernel_rfl) (by kernel_rfl) (fun w => (os_move rfl)) ?_
          refine va_pure 2 rfl (by kernel_rfl) (by kernel_rfl) (by kernel_rfl) (fun w => (os_move rfl)) ?_
          refine va_pure 3 rfl (by kernel_rfl) (by kernel_rfl) (by kernel_rfl) (fun w => (os_ix Try.underlying40 Try.sizeOf3 rfl rfl (i := i) (by omega) (by omega))) ?_
          refine va_pure 5 rfl (by kernel_rfl) (by kernel_rfl) (by kernel_rfl) (fun w => (os_move rfl)) ?_
          refine va_pure 6 rfl (by kernel_rfl) (by kernel_rfl) (by kernel_rfl) (fun w => (os_move rfl)) ?_
          refine va_pure 7 rfl (by kernel_rfl) (by kernel_rfl) (by kernel_rfl) (fun w => (os_ix Try.underlying40 Try.sizeOf3 rfl rfl (i := i) (by omega) (by omega))) ?_
          refine va_two 4 8 (by kernel_rfl) ?_ ?_
          · refine vn_val rfl (os_load Try.isAgg3 rfl (led_cell (⟨1, rfl⟩ : LeD w11 _) dk)) ?_
            refine va_one 8 (by kernel_rfl) ?_
            refine vn_val rfl (os_load Try.isAgg3 rfl (led_cell (⟨1, rfl⟩ : LeD w11 _) da)) ?_
            refine va_pure 9 rfl (by kernel_rfl) (by kernel_rfl) (by kernel_rfl) (fun w => (os_build (cs := [.int .i64 (ks.getD i 0), .int .i64 (lens.getD i 0)]) rfl (by kernel_rfl))) ?_
            refine va_one 10 (by kernel_rfl) ?_
            refine vn_val rfl (os_litS (css := [[.int .i64 (ks.getD i 0), .int .i64 (lens.getD i 0)]]) Try.underlying79 Try.sizeOf78 Try.zeroValue78 rfl rfl (by intro c hc; simp at hc; subst hc; rfl) (by decide) (by decide) (by decide)) ?_
            refine va_one 11 (by kernel_rfl) ?_
            refine vn_some rfl (ot_append_p Try.underlying79 ti_row rfl (by decide) rfl rfl (OwnP.alloc (OwnP.led ho ⟨1, rfl⟩) _) (rdp_alloc _ _ _ (by intro c hc; simp at hc; subst hc; rfl)) (by intro c hc; simp at hc; subst hc; rfl) rfl (by simp) (by intro c hc u hu; simp at hc; subst hc; simp at hu; rcases hu with rfl | rfl <;> rfl) (by rw [eln]; omega) (by rw [eln]; simp [maxLen]; omega) (by have := b11.size; simp; omega)) ?_
            rintro v12 w12 ⟨so, sg, _⟩
            have b11d : Below w10.heap.size w10 { w11 with drawn := w11.drawn + 1 } := b11.drew
            have b12 := OwnP.below (b11d.alloc b11d.size _) (OwnP.alloc (OwnP.led ho ⟨1, rfl⟩) _) sg (Nat.le_refl _) (b11d.alloc b11d.size _).size
            refine va_pure 12 rfl (by kernel_rfl) (by kernel_rfl) (by kernel_rfl) (fun w => (os_assign rfl)) ?_
            refine va_done (by kernel_rfl) ?_
            refine v_region ?_
            refine vl_val (os_move rfl) ?_
            refine vl_val (os_addi rfl rfl (by omega)) ?_
            refine vl_val (os_assign rfl) ?_
            refine vl_nil ?_
            exact ⟨⟨i + 1, v12⟩, ⟨rfl, rfl, rfl, rfl, rfl, trivial⟩, ⟨rfl, rfl, trivial⟩, ⟨by dsimp only; omega, by dsimp only; rw [rows_take (by omega) (by omega)]; exact so, b12⟩, by dsimp only; omega⟩
          · refine vn_val rfl (os_load Try.isAgg3 rfl (led_cell (⟨1, rfl⟩ : LeD w11 _) da)) ?_
            refine va_one 4 (by kernel_rfl) ?_
            refine vn_val rfl (os_load Try.isAgg3 rfl (led_cell (⟨1, rfl⟩ : LeD w11 _) dk)) ?_
            refine va_pure 9 rfl (by kernel_rfl) (by kernel_rfl) (by kernel_rfl) (fun w => (os_build (cs := [.int .i64 (ks.getD i 0), .int .i64 (lens.getD i 0)]) rfl (by kernel_rfl))) ?_
            refine va_one 10 (by kernel_rfl) ?_
            refine vn_val rfl (os_litS (css := [[.int .i64 (ks.getD i 0), .int .i64 (lens.getD i 0)]]) Try.underlying79 Try.sizeOf78 Try.zeroValue78 rfl rfl (by intro c hc; simp at hc; subst hc; rfl) (by decide) (by decide) (by decide)) ?_
            refine va_one 11 (by kernel_rfl) ?_
            refine vn_some rfl (ot_append_p Try.underlying79 ti_row rfl (by decide) rfl rfl (OwnP.alloc (OwnP.led ho ⟨1, rfl⟩) _) (rdp_alloc _ _ _ (by intro c hc; simp at hc; subst hc; rfl)) (by intro c hc; simp at hc; subst hc; rfl) rfl (by simp) (by intro c hc u hu; simp at hc; subst hc; simp at hu; rcases hu with rfl | rfl <;> rfl) (by rw [eln]; omega) (by rw [eln]; simp [maxLen]; omega) (by have := b11.size; simp; omega)) ?_
            rintro v12 w12 ⟨so, sg, _⟩
            have b11d : Below w10.heap.size w10 { w11 with drawn := w11.drawn + 1 } := b11.drew
            have b12 := OwnP.below (b11d.alloc b11d.size _) (OwnP.alloc (OwnP.led ho ⟨1, rfl⟩) _) sg (Nat.le_refl _) (b11d.alloc b11d.size _).size
            refine va_pure 12 rfl (by kernel_rfl) (by kernel_rfl) (by kernel_rfl) (fun w => (os_assign rfl)) ?_
            refine va_done (by kernel_rfl) ?_
            refine v_region ?_
            refine vl_val (os_move rfl) ?_
            refine vl_val (os_addi rfl rfl (by omega)) ?_
            refine vl_val (os_assign rfl) ?_
            refine vl_nil ?_
            exact ⟨⟨i + 1, v12⟩, ⟨rfl, rfl, rfl, rfl, rfl, trivial⟩, ⟨rfl, rfl, trivial⟩, ⟨by dsimp only; omega, by dsimp only; rw [rows_take (by omega) (by omega)]; exact so, b12⟩, by dsimp only; omega⟩
        · obtain rfl : l = i := by omega
          rw [List.take_of_length_le (Nat.le_of_eq hlr)] at ho
          obtain ⟨A12, c12, rfl, hc12, hc12', r12⟩ := OwnP.form ho
          have hb11 := hB10.keep b11
          refine v_exit ?_
          refine v_seq ?_
          refine v_region ?_
          refine vl_val (os_fa (o := 0) (k := 0) (by kernel_rfl) rfl) ?_
          refine vl_val (os_load Try.isAgg3 rfl (hb11.cell (i := 0) rfl)) ?_
          refine vl_val (os_move rfl) ?_
          refine vl_call (lay_Long n A12 _ c12 (rowsZ ks lens) w11 r12 (by simp) (by simp; omega)) rfl ?_
          rintro v13 w13 ⟨rfl, b13⟩
          have hb13 := hb11.keep b13
          refine vl_val (os_move rfl) ?_
          refine vl_val (os_extract rfl rfl) ?_
          refine vl_val (os_extract rfl rfl) ?_
          refine vl_val (os_assign rfl) ?_
          refine vl_val (os_assign rfl) ?_
          refine vl_nil ?_
          refine v_seq ?_
          refine v_region ?_
          refine vl_val (os_fa (o := 0) (k := 0) (by kernel_rfl) rfl) ?_
          refine vl_val (os_load Try.isAgg3 rfl (hb13.cell (i := 0) rfl)) ?_
          refine vl_val (os_move rfl) ?_
          refine vl_call (size_Of n A12 _ c12 (rowsZ ks lens) w13 (r12.keep b13) (by simp) (by simp; omega)) rfl ?_
          rintro v14 w14 ⟨rfl, b14⟩
          have hb14 := hb13.keep b14
          have b14w : Below w.heap.size w w14 := b4w.trans ((b10'.trans ((b11.trans ((b13.trans (b14.mono b13.size)).mono b11.size)).mono b10'.size)).mono b4w.size)
          have hL := fits_lay hf
          have hlong : longV n (rowsZ ks lens) = offS (rowsZ ks lens) ks.length := by simp [longV, hL, hlr]; congr 1; omega
          have hof : ofV n (rowsZ ks lens) = 18 + 3 * (l : Int) + offS (rowsZ ks lens) ks.length := by simp [ofV, hL, hlr]; congr 1; omega
          have hlf := lay_fits h3 (by rw [← hl]; exact h1) hL
          rw [hf, ← hl] at hlf
          have hob := offS_bd (rows := rowsZ ks lens) ks.length
          have hri := room_iff h1 hob.1
          rw [hlong, hof, erv]
          generalize offS (rowsZ ks lens) ks.length = X at *
          have hX : X ≤ roomW n m b l := by simpa using hlf.symm
          have hX2 := hri.1 hX
          refine vl_val (os_move rfl) ?_
          refine vl_val (os_extract rfl rfl) ?_
          refine vl_val (os_extract rfl rfl) ?_
          refine vl_val (os_assign rfl) ?_
          refine vl_val (os_assign rfl) ?_
          refine vl_nil ?_
          refine v_seq ?_
          refine v_seq ?_
          refine v_region ?_
          refine vl_val (os_move rfl) ?_
          refine vl_val (os_neq rfl rfl) ?_
          refine vl_nil ?_
          refine v_cond_no rfl (by simp [hL, errE]) ?_
          refine v_skip ?_
          refine v_seq ?_
          refine v_region ?_
          refine vl_val (os_move rfl) ?_
          refine vl_val (os_t (os_eql rfl rfl) (by simp [hL, errE])) ?_
          refine vl_val (os_move rfl) ?_
          refine vl_valg rfl (os_move rfl) ?_
          refine vl_valg rfl (os_move rfl) ?_
          refine vl_valg rfl (os_addi rfl rfl (by omega)) ?_
          refine vl_valg rfl (os_move rfl) ?_
          refine vl_valg rfl (os_len Try.underlying40 rfl) ?_
          refine vl_valg rfl (os_muli rfl rfl (by omega)) ?_
          refine vl_valg rfl (os_addi rfl rfl (by omega)) ?_
          refine vl_valg rfl (os_t (os_eql rfl rfl) (by omega)) ?_
          refine vl_val (os_pick_t rfl rfl) ?_
          refine vl_val (os_move rfl) ?_
          refine vl_valg rfl (os_move rfl) ?_
          refine vl_valg rfl (os_move rfl) ?_
          refine vl_valg rfl (os_move rfl) ?_
          refine vl_valg rfl (os_t (os_leq rfl rfl) (by omega)) ?_
          refine vl_valg rfl (os_is (os_eqlb Try.underlying4 rfl rfl) (rfl)) ?_
          refine vl_val (os_pick_t rfl rfl) ?_
          refine vl_val (os_move rfl) ?_
          refine vl_valg rfl (os_move rfl) ?_
          refine vl_valg rfl (os_move rfl) ?_
          refine vl_valg rfl (os_fa (o := 1) (k := 0) (by kernel_rfl) rfl) ?_
          refine vl_valg rfl (os_load Try.isAgg3 rfl (hb14.cell (i := 1) rfl)) ?_
          refine vl_valg rfl (os_t (os_leq rfl rfl) (by omega)) ?_
          refine vl_valg rfl (os_move rfl) ?_
          refine vl_valg rfl (os_move rfl) ?_
          refine vl_valg rfl (os_fa (o := 0) (k := 0) (by kernel_rfl) rfl) ?_
          refine vl_valg rfl (os_load Try.isAgg3 rfl (hb14.cell (i := 0) rfl)) ?_
          refine vl_valg rfl (os_mul rfl rfl (i64_fit (fit_mul hr (by omega) (by omega)))) ?_
          refine vl_valg rfl (os_fa (o := 2) (k := 0) (by kernel_rfl) rfl) ?_
          refine vl_valg rfl (os_load Try.isAgg3 rfl (hb14.cell (i := 2) rfl)) ?_
          refine vl_valg rfl (os_t (os_leq rfl rfl) (by omega)) ?_
          refine vl_valg rfl (os_pick_t rfl rfl) ?_
          refine vl_valg rfl (os_is (os_eqlb Try.underlying4 rfl rfl) (rfl)) ?_
          refine vl_val (os_pick_t rfl rfl) ?_
          refine vl_val (os_assign rfl) ?_
          refine vl_nil ?_
          refine v_ret ?_
          exact post_ret rfl rfl (⟨rfl, b14w⟩)
end Go.Proofs.Ytpjmiafefammkaa
