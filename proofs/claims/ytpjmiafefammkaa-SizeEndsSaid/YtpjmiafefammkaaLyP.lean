/- Layer 10, plain: what a table is, how long a body is. No program in sight. -/
import Derived.Test.YtpjmiafefammkaaSzP
import Derived.Test.YtpjmiafefammkaaRs
namespace Go.Proofs.Ytpjmiafefammkaa
open Go.RowKit
set_option linter.unusedVariables false

def rowC (x : Int × Int) : List Value := [.int .i64 x.1, .int .i64 x.2]
theorem rowC_len (rows : List (Int × Int)) : ∀ c ∈ rows.map rowC, c.length = 2 := fun c hc => by obtain ⟨x, _, rfl⟩ := List.mem_map.1 hc; rfl
theorem rowC_one (rows : List (Int × Int)) : ∀ c ∈ rows.map rowC, ∀ u ∈ c, u.oneCell' = true := fun c hc u hu => by
  obtain ⟨x, _, rfl⟩ := List.mem_map.1 hc
  simp only [rowC, List.mem_cons, List.not_mem_nil, or_false] at hu
  rcases hu with rfl | rfl <;> rfl
def rowGood (n least : Int) (x : Int × Int) : Prop := least ≤ x.1 ∧ x.1 ≤ n ∧ 0 ≤ x.2 ∧ x.2 ≤ 65535
instance (n least : Int) (x : Int × Int) : Decidable (rowGood n least x) := by unfold rowGood; infer_instance
def layGo (n : Int) : Int → List (Int × Int) → Bool
  | _, [] => true
  | least, x :: r => decide (rowGood n least x) && layGo n x.1 r
def layOk (n : Int) (rows : List (Int × Int)) : Bool := decide (1 ≤ n ∧ n ≤ 255 ∧ 1 ≤ rows.length ∧ rows.length ≤ 8) && layGo n 1 rows
/-- the threshold ahead -/
def prevK (rows : List (Int × Int)) : Nat → Int
  | 0 => 1
  | i + 1 => (rows.getD i (0, 0)).1
theorem layGo_step {n : Int} {rows : List (Int × Int)} {i : Nat} (hi : i < rows.length) : layGo n (prevK rows i) (rows.drop i) = (decide (rowGood n (prevK rows i) (rows.getD i (0, 0))) && layGo n (prevK rows (i + 1)) (rows.drop (i + 1))) := by
  have e : rows.getD i (0, 0) = rows[i] := by simp [hi]
  rw [List.drop_eq_getElem_cons hi, layGo, show prevK rows (i + 1) = (rows.getD i (0, 0)).1 from rfl, e]
theorem layGo_all {n least : Int} {rows : List (Int × Int)} (h : layGo n least rows = true) (hl : 1 ≤ least) : ∀ x ∈ rows, least ≤ x.1 ∧ x.1 ≤ n ∧ 0 ≤ x.2 ∧ x.2 ≤ 65535 := by
  induction rows generalizing least with
  | nil => intro x hx; cases hx
  | cons y r ih =>
    simp only [layGo, Bool.and_eq_true, decide_eq_true_eq] at h
    obtain ⟨h1, h2⟩ := h
    unfold rowGood at h1
    intro x hx
    rcases List.mem_cons.1 hx with rfl | hx
    · exact h1
    · have := ih h2 (by omega) x hx; omega
theorem layOk_parts {n : Int} {rows : List (Int × Int)} (h : layOk n rows = true) : (1 ≤ n ∧ n ≤ 255) ∧ 1 ≤ rows.length ∧ rows.length ≤ 8 ∧ layGo n 1 rows = true ∧ ∀ i, i < rows.length → widthOk (rows.getD i (0, 0)).2 (rows.getD i (0, 0)).1 = true := by
  simp only [layOk, Bool.and_eq_true, decide_eq_true_eq] at h
  refine ⟨⟨h.1.1, h.1.2.1⟩, h.1.2.2.1, h.1.2.2.2, h.2, fun i hi => ?_⟩
  have := layGo_all h.2 (by omega) (rows.getD i (0, 0)) (by rw [List.getD_eq_getElem?_getD, List.getElem?_eq_getElem hi]; exact List.getElem_mem _)
  simp only [widthOk, decide_eq_true_eq]
  omega
/-- where stripe k begins -/
def offS (rows : List (Int × Int)) : Nat → Int
  | 0 => 0
  | k + 1 => offS rows k + widthV (rows.getD k (0, 0)).2 (rows.getD k (0, 0)).1
theorem offS_bd {rows : List (Int × Int)} : ∀ k, 0 ≤ offS rows k ∧ offS rows k ≤ k * 65535
  | 0 => by simp [offS]
  | k + 1 => by
    have h1 := offS_bd (rows := rows) k
    have h2 : 0 ≤ widthV (rows.getD k (0, 0)).2 (rows.getD k (0, 0)).1 ∧ widthV (rows.getD k (0, 0)).2 (rows.getD k (0, 0)).1 ≤ 65535 := by
      unfold widthV
      split
      · rename_i h; exact width_bd h
      · omega
    simp only [offS]
    omega
def longV (n : Int) (rows : List (Int × Int)) : Int := if layOk n rows then offS rows rows.length else 0
def ofV (n : Int) (rows : List (Int × Int)) : Int := if layOk n rows then 18 + 3 * rows.length + offS rows rows.length else 0
theorem RdP.at2 {w : World} {A : Option Addr} {rows : List (Int × Int)} (h : RdP w 2 A (rows.map rowC)) {i : Nat} (hi : i < rows.length) : ∃ b o, A = some ⟨b, o, none⟩ ∧ w.cell? ⟨b, o + i * 2, none⟩ = some (.int .i64 (rows.getD i (0, 0)).1) ∧ w.cell? ⟨b, o + i * 2 + 1, none⟩ = some (.int .i64 (rows.getD i (0, 0)).2) ∧ RdC w (some ⟨b, o + i * 2, none⟩) (rowC (rows.getD i (0, 0))) := by
  have hc : (rows.map rowC)[i]? = some (rowC (rows.getD i (0, 0))) := by simp [hi]
  obtain ⟨b, o, e, hcell⟩ := h i _ hc
  subst e
  exact ⟨b, o, rfl, hcell 0 _ rfl, hcell 1 _ rfl, h.part hc⟩
end Go.Proofs.Ytpjmiafefammkaa
