/- Layer 23: rows: the closures, slices.IndexFunc and ContainsFunc, row, made. -/
import Derived.Test.YtpjmiafefammkaaOwn
import Derived.Test.YtpjmiafefammkaaFixA
import Derived.Shelf.Abstract
namespace Go.Proofs.Ytpjmiafefammkaa
open Go.RowKit

set_option maxHeartbeats 400000 in
theorem fixed_row_fn (a : Int) (w : World) (h : I64 a) : Calls Try.prog 108 #[.int .i64 a] w fun e w' => e = .returned (.bool (!isB a)) ∧ w = w' := by
  have iH := Lib.hid h; clear h
  go_enter Try.func108, Try.ntmps108
  go_wp2_with (fail)
  refine (fixed_Is a _ iH.out).mono ?_
  rintro e w' ⟨rfl, rfl⟩
  go_wp2_with (fail)
  go_ret
  exact ⟨rfl, rfl⟩

/-- the place of the first number that p takes, else -1 -/
def idxF (p : Int → Bool) (zs : List Int) : Int := if zs.any p then ((zs.findIdx p : Nat) : Int) else -1

theorem idxF_ge {p : Int → Bool} {zs : List Int} : decide ((0 : Int) ≤ idxF p zs) = zs.any p := by
  unfold idxF; split <;> simp_all

theorem idxF_hit {p : Int → Bool} {zs : List Int} {k n : Nat} (hn : n = zs.length) (hk : k < n) (h : (zs.take k).any p = false) (hp : p (zs.getD k 0) = true) : idxF p zs = k := by
  have hk' : k < zs.length := by omega
  have hany : zs.any p = true := by
    rw [List.any_eq_true]
    exact ⟨zs[k], List.getElem_mem _, by simpa [hk'] using hp⟩
  unfold idxF
  rw [if_pos hany]
  congr 1
  rw [List.findIdx_eq hk']
  refine ⟨by simpa [hk'] using hp, fun j hj => ?_⟩
  rw [List.any_eq_false] at h
  have := h (zs[j]'(by omega)) (by rw [List.mem_take_iff_getElem]; exact ⟨j, by omega, rfl⟩)
  simpa using this

theorem any_take_succ {p : Int → Bool} {zs : List Int} {k n : Nat} (hn : n = zs.length) (hk : k < n) (h : (zs.take k).any p = false) (hp : p (zs.getD k 0) = false) : (zs.take (k + 1)).any p = false := by
  have hk' : k < zs.length := by omega
  rw [List.take_succ_eq_append_getElem hk', List.any_append, h]
  have : p zs[k] = false := by simpa [hk'] using hp
  simp [this]

theorem idxF_none {p : Int → Bool} {zs : List Int} {n : Nat} (hn : n = zs.length) (h : (zs.take n).any p = false) : idxF p zs = -1 := by
  rw [hn, List.take_length] at h
  unfold idxF
  rw [if_neg (by simp [h])]

set_option maxHeartbeats 400000 in
theorem indexFunc_ints (A : Option Addr) (n c : Nat) (zs : List Int) (f : FuncId) (cap : Array Value) (p : Int → Bool) (w : World) (hent : Enters Try.prog f) (ha : Rd w .i64 A zs) (hn : n = zs.length) (hn' : n ≤ 9223372036854775807)
    (hcall : ∀ k q, k < zs.length → Calls Try.prog f (#[.int .i64 (zs.getD k 0)] ++ cap) (w.drewN q) fun e w' => e = .returned (.bool (p (zs.getD k 0))) ∧ ∃ q', w' = w.drewN q') :
    Calls Try.prog 140 #[.slice A n c, .func (.func f) #[] cap] w fun e w' => e = .returned (.int .i64 (idxF p zs)) ∧ ∃ q, w' = w.drewN q := by
  have H1 := Lib.hid hn; have HC := Lib.hid hcall; clear hn hcall
  have hentr : ∀ (args : Array Value) (w : World), (callFunc f args).run Try.prog w = .ok (.enter f args) w := hent
  go_enter Try.func140, Try.ntmps140
  go_wp2_with (fail)
  go_loopw [8] (fun i wr => ∃ k : Nat, k ≤ n ∧ i = .int .i64 k ∧ (zs.take k).any p = false ∧ ∃ q, wr = w.drewN q) (fun i wr => n - (intOf i).toNat)
  case atStart => exact ⟨0, by omega, rfl, rfl, 0, rfl⟩
  case round =>
    obtain ⟨k, hk, rfl, htk, q, rfl⟩ := hrel
    have Htk := Lib.hid htk; clear htk
    by_cases hlt : k < n
    · obtain ⟨b1, o1, rfl, hc1⟩ := ha.at_ (i := k) (by rw [← H1.out]; exact hlt)
      cases hp : p (zs.getD k 0)
      · have HP := Lib.hid hp; clear hp
        go_wp2_with (fail)
        refine (HC.out k q (by rw [← H1.out]; exact hlt)).mono ?_
        rintro e w' ⟨rfl, q', rfl⟩
        rw [HP.out]
        go_wp2_with (fail)
        go_roundw
        case rel => exact ⟨k + 1, by omega, by go_num, any_take_succ H1.out hlt Htk.out HP.out, _, rfl⟩
        case measure => simp [intOf]; omega
      · have HP := Lib.hid hp; clear hp
        go_wp2_with (fail)
        refine (HC.out k q (by rw [← H1.out]; exact hlt)).mono ?_
        rintro e w' ⟨rfl, q', rfl⟩
        rw [HP.out]
        go_wp2_with (fail)
        go_ret
        exact ⟨ret_int (idxF_hit H1.out hlt Htk.out HP.out).symm, _, rfl⟩
    · obtain rfl : k = n := by omega
      go_wp2_with (fail)
      go_ret
      exact ⟨ret_int (idxF_none H1.out Htk.out).symm, _, rfl⟩

set_option maxHeartbeats 400000 in
theorem containsFunc_ints (A : Option Addr) (n c : Nat) (zs : List Int) (f : FuncId) (cap : Array Value) (p : Int → Bool) (w : World) (hent : Enters Try.prog f) (ha : Rd w .i64 A zs) (hn : n = zs.length) (hn' : n ≤ 9223372036854775807)
    (hcall : ∀ k q, k < zs.length → Calls Try.prog f (#[.int .i64 (zs.getD k 0)] ++ cap) (w.drewN q) fun e w' => e = .returned (.bool (p (zs.getD k 0))) ∧ ∃ q', w' = w.drewN q') :
    Calls Try.prog 110 #[.slice A n c, .func (.func f) #[] cap] w fun e w' => e = .returned (.bool (zs.any p)) ∧ ∃ q, w' = w.drewN q := by
  have H1 := Lib.hid hn; have HC := Lib.hid hcall; clear hn hcall
  rw [← idxF_ge]
  go_enter Try.func110, Try.ntmps110
  go_wp2_with (fail)
  refine (indexFunc_ints A n c zs f cap p _ hent ha H1.out hn' HC.out).mono ?_
  rintro e w' ⟨rfl, q, rfl⟩
  go_wp2_with (fail)
  go_ret
  exact ⟨rfl, _, rfl⟩

theorem enters_row_fn : Enters Try.prog 108 := enters_of Try.func108 (by kernel_rfl) rfl

/-- every number of the list fits Go's int -/
def AllI (zs : List Int) : Prop := ∀ z ∈ zs, I64 z
theorem AllI.at_ {zs : List Int} (h : AllI zs) (k : Nat) : I64 (zs.getD k 0) := by
  by_cases hk : k < zs.length
  · simp [hk]; exact h _ (List.getElem_mem _)
  · simp [hk]; exact ⟨by decide, by decide⟩

def rowB (zs : List Int) : Bool := decide (0 < zs.length) && decide (zs.length ≤ 256) && !(zs.any fun n => !isB n)

set_option maxHeartbeats 400000 in
theorem fixed_row (A : Option Addr) (n c : Nat) (zs : List Int) (w : World) (ha : Rd w .i64 A zs) (hn : n = zs.length) (hn' : n ≤ 9223372036854775807) (hi : AllI zs) :
    Calls Try.prog 67 #[.slice A n c] w fun e w' => e = .returned (.bool (rowB zs)) ∧ ∃ q, w' = w.drewN q := by
  have hi' := Lib.hid hi; clear hi
  by_cases h0 : 0 < n
  · by_cases h1 : n ≤ 256
    · have hv : rowB zs = !(zs.any fun n => !isB n) := by simp only [rowB, ← hn]; simp [h0, h1]
      rw [hv]; clear hv
      have H1 := Lib.hid hn; clear hn
      go_enter Try.func67, Try.ntmps67
      go_wp2_with (fail)
      refine (containsFunc_ints A n c zs _ #[] (fun n => !isB n) _ enters_row_fn ha H1.out hn' fun k q _ => ((fixed_row_fn _ _ (hi'.out.at_ k)).mono fun e w' h => ⟨h.1, q, h.2.symm⟩)).mono ?_
      rintro e w' ⟨rfl, q, rfl⟩
      go_wp2_with (fail)
      go_ret
      exact ⟨rfl, _, rfl⟩
    · have hv : rowB zs = false := by simp only [rowB, ← hn]; simp [h0, h1]
      rw [hv]; clear hv
      have H1 := Lib.hid hn; clear hn
      go_enter Try.func67, Try.ntmps67
      go_wp2_with (fail)
      go_ret
      exact ⟨rfl, 0, rfl⟩
  · have hv : rowB zs = false := by simp only [rowB, ← hn]; simp [h0]
    rw [hv]; clear hv
    have H1 := Lib.hid hn; clear hn
    go_enter Try.func67, Try.ntmps67
    go_wp2_with (fail)
    go_ret
    exact ⟨rfl, 0, rfl⟩
end Go.Proofs.Ytpjmiafefammkaa
