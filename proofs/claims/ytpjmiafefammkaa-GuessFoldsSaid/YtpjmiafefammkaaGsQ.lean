/- Layer 24, plain: what all shares of a report are together. No program in sight. -/
import Derived.Test.YtpjmiafefammkaaGsP
namespace Go.Proofs.Ytpjmiafefammkaa
open Go.RowKit
set_option linter.unusedVariables false

def sharesL (all : Int) (cs : List (Int × Int)) : Int := (cs.map fun c => shareV c.2 all).sum
theorem sum_set (l : List Int) (i : Nat) (v : Int) (hi : i < l.length) : (l.set i v).sum = l.sum - l.getD i 0 + v := by
  induction l generalizing i with
  | nil => simp at hi
  | cons x r ih =>
    cases i with
    | zero => simp; omega
    | succ i =>
      have := ih i (by simpa using hi)
      simp only [List.set_cons_succ, List.sum_cons]
      rw [this]
      simp; omega
theorem saysGo_sum {n : Int} {all : Int} : ∀ (cs : List (Int × Int)) (last : Int) (out : List Int), cntOk n last cs = true → 0 ≤ last → (out.length : Int) = n + 1 → (∀ k : Nat, last < (k : Int) → out.getD k 0 = 0) → (saysGo all cs out).sum = out.sum + sharesL all cs
  | [], last, out, _, _, _, _ => by simp [saysGo, sharesL]
  | c :: r, last, out, h, h0, hl, hz => by
    have hc := (cnt_all h).1 c (by simp)
    simp only [cntOk, Bool.and_eq_true] at h
    have hi : c.1.toNat < out.length := by omega
    have hz' : ∀ k : Nat, c.1 < (k : Int) → (out.set c.1.toNat (shareV c.2 all)).getD k 0 = 0 := fun k hk => by
      have := hz k (by omega)
      simp only [List.getD_eq_getElem?_getD, List.getElem?_set] at this ⊢
      rw [if_neg (by omega)]
      exact this
    rw [saysGo, saysGo_sum r c.1 _ h.2 (by omega) (by simpa using hl) hz', sum_set _ _ _ hi, hz c.1.toNat (by omega)]
    simp only [sharesL, List.map_cons, List.sum_cons]
    omega
theorem saysGo_zero {n : Int} {all : Int} : ∀ (cs : List (Int × Int)) (last : Int) (out : List Int), cntOk n last cs = true → 0 ≤ last → (saysGo all cs out).getD 0 0 = out.getD 0 0
  | [], last, out, _, _ => rfl
  | c :: r, last, out, h, h0 => by
    have hc := (cnt_all h).1 c (by simp)
    simp only [cntOk, Bool.and_eq_true] at h
    rw [saysGo, saysGo_zero r c.1 _ h.2 (by omega)]
    simp only [List.getD_eq_getElem?_getD, List.getElem?_set]
    rw [if_neg (by omega)]
theorem zero_sum (m : Nat) : (List.replicate m (0 : Int)).sum = 0 := by induction m with
  | zero => rfl
  | succ m ih => simp [List.replicate_succ]
theorem zero_at (m k : Nat) : (List.replicate m (0 : Int)).getD k 0 = 0 := by
  rw [List.getD_eq_getElem?_getD, List.getElem?_replicate]
  split <;> rfl
theorem share_val {a b : Int} (h0 : 0 < b) (h1 : b ≤ 2147483647) (h2 : 0 ≤ a) (h3 : a ≤ b) : shareOk a b = true ∧ shareV a b = a * 65536 / b := by
  have h : shareOk a b = true := by simp [shareOk]; omega
  exact ⟨h, by rw [shareV, h]; rfl⟩
theorem sharesL_le {all : Int} (h0 : 0 < all) (h1 : all ≤ 2147483647) : ∀ (cs : List (Int × Int)), (∀ c ∈ cs, 0 ≤ c.2 ∧ c.2 ≤ all) → sharesL all cs * all ≤ timesL cs * 65536
  | [], _ => by simp [sharesL, timesL]
  | c :: r, h => by
    have hc := h c (by simp)
    have ih := sharesL_le h0 h1 r fun c hc => h c (by simp [hc])
    have hv := (share_val h0 h1 hc.1 hc.2).2
    have hm : c.2 * 65536 / all * all ≤ c.2 * 65536 := Int.ediv_mul_le _ (by omega)
    simp only [sharesL, timesL, List.map_cons, List.sum_cons] at ih ⊢
    rw [hv, Int.add_mul, Int.add_mul]
    omega
theorem rep_all {d : NoteV} (h : RightD d) (hl : 0 < d.cs.length) : 0 < timesL d.cs ∧ timesL d.cs ≤ 2147483647 ∧ ∀ c ∈ d.cs, 0 ≤ c.2 ∧ c.2 ≤ timesL d.cs := by
  have h1 := times_bd h.cnt
  have h2 := cnt_all h.cnt
  have hn := h.n
  have h3 := h2.2 (by omega)
  refine ⟨by omega, by omega, fun c hc => ?_⟩
  have := h1.2.2 c hc
  have := h2.1 c hc
  omega
theorem saysL_sum {d : NoteV} (h : RightD d) (hl : 0 < d.cs.length) : (saysL d.n d.cs).sum ≤ 65536 := by
  obtain ⟨h1, h2, h3⟩ := rep_all h hl
  have hn := h.n
  have e : (saysL d.n d.cs).sum = sharesL (timesL d.cs) d.cs := by
    unfold saysL
    rw [saysGo_sum d.cs 0 _ h.cnt (by omega) (by simp; omega) (fun k _ => zero_at _ k), zero_sum, Int.zero_add]
  rw [e]
  have h4 := sharesL_le h1 h2 d.cs h3
  exact Int.le_of_mul_le_mul_left (by rw [Int.mul_comm, Int.mul_comm _ 65536] ; rw [Int.mul_comm (timesL d.cs)] at h4; omega) h1
theorem saysL_zero {d : NoteV} (h : RightD d) : (saysL d.n d.cs).getD 0 0 = 0 := by
  unfold saysL
  rw [saysGo_zero d.cs 0 _ h.cnt (by omega), zero_at]
end Go.Proofs.Ytpjmiafefammkaa
