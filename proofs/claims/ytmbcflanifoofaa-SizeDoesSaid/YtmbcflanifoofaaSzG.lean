/- Layer 11: what can fit at all; the walk of SizeGreatest. -/
import Derived.Test.YtmbcflanifoofaaSzM
import Derived.Test.YtmbcflanifoofaaLy
import Derived.Test.YtmbcflanifoofaaRep
import Derived.Test.YtmbcflanifoofaaV5
namespace Go.Proofs.Ytmbcflanifoofaa
open Go.RowKit
set_option linter.unusedVariables false

def canB (n m b : Int) (lens : List Int) : Bool := rightB n m b && fitsB n m b lens (List.replicate lens.length n)
theorem sumW_mono : ∀ (lens ks js : List Int), ks.length = lens.length → js.length = lens.length → (∀ i, i < lens.length → 0 ≤ lens.getD i 0 ∧ 1 ≤ ks.getD i 0 ∧ ks.getD i 0 ≤ js.getD i 0) → sumW (lens.zip js) ≤ sumW (lens.zip ks)
  | [], _, _, _, _, _ => by simp [sumW]
  | x :: lens, k :: ks, j :: js, h1, h2, h => by
    have h0 := h 0 (by simp)
    simp at h0
    have ih := sumW_mono lens ks js (by simpa using h1) (by simpa using h2) (fun i hi => by have := h (i + 1) (by simpa using hi); simpa using this)
    have := width_anti h0.1 h0.2.1 h0.2.2
    simp only [List.zip_cons_cons, sumW]
    omega
  | x :: lens, [], _, h1, _, _ => by simp at h1
  | x :: lens, _ :: _, [], _, h2, _ => by simp at h2
theorem lens_at {ls : List Int} (h : lensB ls = true) : ∀ i, i < ls.length → 0 ≤ ls.getD i 0 ∧ ls.getD i 0 ≤ 65535 := (lens_bd h).2.2
/-- if any thresholds fit, those do that are all n -/
theorem fits_can {n m b : Int} {lens ks : List Int} (h : fitsB n m b lens ks = true) : canB n m b lens = true := by
  obtain ⟨h1, h2, h3, h4, h5, h6⟩ := fits_iff.1 h
  have hr : rightB n m b = true := by simp only [roomOk, Bool.and_eq_true] at h1; exact h1.1
  have hn := right_bd hr
  have hrep : ∀ i, i < lens.length → (List.replicate lens.length n).getD i 0 = n := fun i hi => by simp [hi]
  refine Bool.and_eq_true_iff.2 ⟨hr, fits_iff.2 ⟨h1, h2, by simp, ?_, fun i hi => by rw [hrep i hi]; omega, ?_⟩⟩
  · simp only [sortedB, decide_eq_true_eq, List.length_replicate]
    intro i hi hi2
    rw [hrep i hi, hrep _ hi2]; omega
  · exact Int.le_trans (sumW_mono lens ks _ h3 (by simp) (fun i hi => ⟨(lens_at h2 i hi).1, (h5 i hi).1, by rw [hrep i hi]; exact (h5 i hi).2⟩)) h6
def rowsZ (ks lens : List Int) : List (Int × Int) := ks.zip lens
theorem rowsZ_at {ks lens : List Int} (h : ks.length = lens.length) {i : Nat} (hi : i < ks.length) : (rowsZ ks lens).getD i (0, 0) = (ks.getD i 0, lens.getD i 0) := zip_getD hi (by omega)
theorem offS_sum {rows : List (Int × Int)} (h : ∀ i, i < rows.length → widthOk (rows.getD i (0, 0)).2 (rows.getD i (0, 0)).1 = true) : ∀ k, k ≤ rows.length → offS rows k = sumW ((rows.take k).map fun x => (x.2, x.1))
  | 0, _ => by simp [offS, sumW]
  | k + 1, hk => by
    have ih := offS_sum h k (by omega)
    have hh := h k (by omega)
    have e : rows.getD k (0, 0) = rows[k] := by simp [show k < rows.length by omega]
    rw [List.take_succ_eq_append_getElem (by omega), List.map_append]
    have hs : ∀ (a b : List (Int × Int)), sumW (a ++ b) = sumW a + sumW b := fun a b => by
      induction a with
      | nil => simp [sumW]
      | cons x r ihh => simp only [List.cons_append, sumW]; omega
    rw [hs, ← ih]
    simp only [offS, List.map_cons, List.map_nil, sumW, Int.add_zero]
    rw [e] at hh ⊢
    simp [widthV, hh]
theorem zip_swap : ∀ (a b : List Int), (a.zip b).map (fun x => (x.2, x.1)) = b.zip a
  | [], b => by cases b <;> simp
  | x :: a, [] => by simp
  | x :: a, y :: b => by simp [zip_swap a b]
/-- a table's law, in rows of thresholds and of lengths -/
theorem layGo_sorted {n : Int} : ∀ (ks lens : List Int) (least : Int), ks.length = lens.length → (layGo n least (rowsZ ks lens) = true ↔ ((∀ i, i < ks.length → ks.getD i 0 ≤ n ∧ 0 ≤ lens.getD i 0 ∧ lens.getD i 0 ≤ 65535) ∧ (0 < ks.length → least ≤ ks.getD 0 0) ∧ sortedB ks = true))
  | [], [], _, _ => by simp [rowsZ, layGo, sortedB]
  | k :: ks, l :: lens, least, h => by
    have ih := layGo_sorted (n := n) ks lens k (by simpa using h)
    have e : rowsZ (k :: ks) (l :: lens) = (k, l) :: rowsZ ks lens := rfl
    rw [e, layGo, Bool.and_eq_true, decide_eq_true_eq, ih]
    unfold rowGood
    simp only [sortedB, decide_eq_true_eq, List.length_cons]
    constructor
    · rintro ⟨⟨a1, a2, a3, a4⟩, b1, b2, b3⟩
      refine ⟨fun i hi => ?_, fun _ => by simpa using a1, fun i hi hi2 => ?_⟩
      · cases i with
        | zero => simp; omega
        | succ i => simpa using b1 i (by omega)
      · cases i with
        | zero => have := b2 (by omega); simpa using this
        | succ i => simpa using b3 i (by omega) (by omega)
    · rintro ⟨a, b, c⟩
      have a0 := a 0 (by omega)
      have b0 := b (by omega)
      simp at a0 b0
      refine ⟨⟨b0, a0.1, a0.2.1, a0.2.2⟩, fun i hi => ?_, fun h0 => ?_, fun i hi hi2 => ?_⟩
      · have := a (i + 1) (by omega); simpa using this
      · have := c 0 (by omega) (by omega); simpa using this
      · have := c (i + 1) (by omega) (by omega); simpa using this
  | [], _ :: _, _, h => by simp at h
  | _ :: _, [], _, h => by simp at h
theorem sorted_ge {ks : List Int} (h : sortedB ks = true) : ∀ i, i < ks.length → ks.getD 0 0 ≤ ks.getD i 0
  | 0, _ => Int.le_refl _
  | i + 1, hi => by
    have h1 := sorted_ge h i (by omega)
    have h2 := of_decide_eq_true h i (by omega) hi
    omega
theorem fits_lay {n m b : Int} {lens ks : List Int} (h : fitsB n m b lens ks = true) : layOk n (rowsZ ks lens) = true := by
  obtain ⟨h1, h2, h3, h4, h5, h6⟩ := fits_iff.1 h
  have hr : rightB n m b = true := by simp only [roomOk, Bool.and_eq_true] at h1; exact h1.1
  have hn := right_bd hr
  have hb := lens_bd h2
  have hlen : (rowsZ ks lens).length = lens.length := by simp [rowsZ, h3]
  simp only [layOk, Bool.and_eq_true, decide_eq_true_eq, hlen]
  refine ⟨⟨hn.1, hn.2.1, hb.1, hb.2.1⟩, (layGo_sorted ks lens 1 h3).2 ⟨fun i hi => ?_, fun h0 => (h5 0 (by omega)).1, h4⟩⟩
  have := h5 i (by omega)
  have := hb.2.2 i (by omega)
  omega
theorem lay_fits {n m b : Int} {lens ks : List Int} (h3 : ks.length = lens.length) (h1 : roomOk n m b lens.length = true) (hL : layOk n (rowsZ ks lens) = true) : fitsB n m b lens ks = decide (offS (rowsZ ks lens) ks.length ≤ roomW n m b lens.length) := by
  obtain ⟨p1, p2, p3, p4, p5⟩ := layOk_parts hL
  have hlen : (rowsZ ks lens).length = lens.length := by simp [rowsZ, h3]
  rw [hlen] at p2 p3 p5
  obtain ⟨q1, q2, q3⟩ := (layGo_sorted ks lens 1 h3).1 p4
  have hl : lensB lens = true := by
    simp only [lensB, Bool.and_eq_true, Bool.not_eq_true', List.any_eq_false, betw, decide_eq_true_eq]
    refine ⟨by omega, fun z hz => ?_⟩
    obtain ⟨i, hi, rfl⟩ := List.getElem_of_mem hz
    have := (q1 i (by omega)).2
    have e : lens.getD i 0 = lens[i] := by simp [hi]
    rw [e] at this
    simpa using this
  have hsum : offS (rowsZ ks lens) ks.length = sumW (lens.zip ks) := by
    rw [offS_sum (by rw [hlen]; exact p5) ks.length (by rw [hlen, h3]; exact Nat.le_refl _), List.take_of_length_le (by rw [hlen, h3]; exact Nat.le_refl _)]
    exact congrArg sumW (zip_swap ks lens)
  rw [hsum, Bool.eq_iff_iff, fits_iff, decide_eq_true_eq]
  refine ⟨fun h => h.2.2.2.2.2, fun h => ⟨h1, hl, h3, q3, fun i hi => ?_, h⟩⟩
  have := sorted_ge q3 i (by omega)
  have := q2 (by omega)
  exact ⟨by omega, (q1 i (by omega)).1⟩
theorem room_iff {n m b l long : Int} (h : roomOk n m b l = true) (h0 : 0 ≤ long) : (long ≤ roomW n m b l) ↔ (18 + 3 * l + long ≤ m ∧ (18 + 3 * l + long) * n ≤ b) := by
  have hr : rightB n m b = true := by simp only [roomOk, Bool.and_eq_true] at h; exact h.1
  have hn := right_bd hr
  have h1 := Int.le_ediv_iff_mul_le (a := 18 + 3 * l + long) (b := b) (c := n) (by omega)
  unfold roomW
  rw [← h1]
  omega

theorem ti_row : TyInfo Try.prog 106 (.agg #[.int .i64 0, .int .i64 0]) 2 16 := by unfold TyInfo; kernel_rfl
theorem rows_take {ks lens : List Int} {i : Nat} (h1 : i < ks.length) (h2 : ks.length = lens.length) : ((rowsZ ks lens).take (i + 1)).map rowC = ((rowsZ ks lens).take i).map rowC ++ [[.int .i64 (ks.getD i 0), .int .i64 (lens.getD i 0)]] := by
  have hi : i < (rowsZ ks lens).length := by simp [rowsZ]; omega
  rw [List.take_succ_eq_append_getElem hi, List.map_append]
  have e := rowsZ_at h2 h1
  have e2 : (rowsZ ks lens).getD i (0, 0) = (rowsZ ks lens)[i] := by simp [hi]
  rw [e2] at e
  rw [e]
  rfl
theorem fit_mul {n m b X : Int} (h : rightB n m b = true) (h0 : 0 ≤ X) (h1 : X ≤ 100000000) : I64 (X * n) := by
  have := right_bd h
  have h2 : 0 ≤ X * n := Int.mul_nonneg h0 (by omega)
  have h3 : X * n ≤ 100000000 * 255 := Int.mul_le_mul h1 (by omega) (by omega) (by omega)
  exact ⟨by omega, by omega⟩
theorem all_rep {n : Int} (h : I64 n) (l : Nat) : AllI (List.replicate l n) := by
  intro z hz
  obtain ⟨-, rfl⟩ := List.mem_replicate.1 hz
  exact h
theorem rep_row (A : Option Addr) (c l : Nat) (z : Int) (w : World) (hr : Rd w .i64 A [z]) (hl : l ≤ 1000000) : Gives Try.prog 89 #[.slice A 1 c, .int .i64 l] w fun v w' => LeG w w' ∧ IsRow .i64 (List.replicate l z) v w' := by
  by_cases h0 : l = 0
  · subst h0
    exact (sl_Repeat0 A c z w hr).mono fun v w' ⟨g, e, ho, hb⟩ => ⟨hb, _, _, e, by rw [e] at ho; exact OwnK.rd ho⟩
  · exact (sl_Repeat A c l z w hr ⟨by omega, hl⟩).mono fun v w' ⟨g, e, ho, hb⟩ => ⟨hb, some ⟨g, 0, none⟩, l, by simpa using e, by rw [e] at ho; exact OwnK.rd ho⟩
end Go.Proofs.Ytmbcflanifoofaa
