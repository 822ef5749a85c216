/- Layer 23: Fold. -/
import Derived.Test.YtpjmiafefammkaaFixC
namespace Go.Proofs.Ytpjmiafefammkaa
open Go.RowKit

def foldOk (h x : List Int) : Bool := rowB h && rowB x && decide (h.length = x.length)
def foldG (x : List Int) (k : Nat) (n : Int) : Int := blendW n (x.getD k 0)
def foldL (h x : List Int) : List Int := mapK (foldG x) h
def foldV (h x : List Int) : List Int := if foldOk h x then foldL h x else []

theorem rowB_at {zs : List Int} (h : rowB zs = true) {k : Nat} (hk : k < zs.length) : 0 ≤ zs.getD k 0 ∧ zs.getD k 0 ≤ 65536 := by
  unfold rowB at h
  simp only [Bool.and_eq_true, Bool.not_eq_true', List.any_eq_false] at h
  have := h.2 zs[k] (List.getElem_mem _)
  simp at this
  simp [hk]
  exact isB_iff.1 this
theorem rowB_len {zs : List Int} (h : rowB zs = true) : 0 < zs.length ∧ zs.length ≤ 256 := by
  unfold rowB at h
  simp at h
  exact ⟨by have := h.1.1; cases zs <;> simp_all, h.1.2⟩

set_option maxHeartbeats 400000 in
theorem fixed_Fold_fn (k : Nat) (n : Int) (Bx : Nat) (A : Option Addr) (m c : Nat) (xs : List Int) (w : World) (hbox : w.cell? ⟨Bx, 0, none⟩ = some (.slice A m c)) (ha : Rd w .i64 A xs) (hm : m = xs.length) (hm' : m ≤ 256) (hk : k < m)
    (h0 : 0 ≤ n) (h1 : n ≤ 65536) (hr : rowB xs = true) :
    Calls Try.prog 69 #[.int .i64 k, .int .i64 n, .pointer (some ⟨Bx, 0, none⟩)] w fun e w' => e = .returned (.int .i64 (foldG xs k n)) ∧ ∃ q, w' = w.drewN q := by
  have hx := rowB_at hr (k := k) (by omega)
  obtain ⟨b1, o1, rfl, hc1⟩ := ha.at_ (i := k) (by omega)
  have HR := Lib.hid hr; have HM := Lib.hid hm; have HX := Lib.hid hx; clear hr hm hx
  go_enter Try.func69, Try.ntmps69
  go_wp2_with (fail)
  refine (fixed_blend n _ _ h0 h1 HX.out.1 HX.out.2).mono ?_
  rintro e w' ⟨rfl, rfl⟩
  go_wp2_with (fail)
  go_ret
  exact ⟨rfl, 0, rfl⟩

theorem enters_fold_fn : Enters Try.prog 69 := enters_of Try.func69 (by kernel_rfl) rfl

set_option maxHeartbeats 1000000 in
theorem fixed_Fold (A B : Option Addr) (n m c d : Nat) (hs xs : List Int) (w : World) (ha : Rd w .i64 A hs) (hb : Rd w .i64 B xs) (hn : n = hs.length) (hm : m = xs.length)
    (hn' : n ≤ 9223372036854775807) (hm' : m ≤ 9223372036854775807) (ih : AllI hs) (ix : AllI xs) :
    Calls Try.prog 30 #[.slice A n c, .slice B m d] w fun e w' => ∃ v, e = .returned (.tuple #[v, .int .i64 (argE (foldOk hs xs))]) ∧ OwnI w' w.heap.size v (foldV hs xs) ∧ Below w.heap.size w w' := by
  have iH := Lib.hid ih; have iX := Lib.hid ix; have HN := Lib.hid hn; have HM := Lib.hid hm; clear ih ix hn hm
  have ha1 := ha.alloc (.cells #[.slice B m d] 40)
  have hb1 := hb.alloc (.cells #[.slice B m d] 40)
  have hbel : Below w.heap.size w (w.alloc (.cells #[.slice B m d] 40)) := (Below.refl _ w).alloc (Nat.le_refl _) _
  cases r1 : rowB hs
  · have hv : foldV hs xs = [] := by simp [foldV, foldOk, r1]
    have he : argE (foldOk hs xs) = 2 := by simp [foldOk, r1, argE]
    rw [hv, he]; clear hv he
    have R1 := Lib.hid r1; clear r1
    go_enter Try.func30, Try.ntmps30
    go_wp2_with (fail)
    refine (fixed_row A n c hs _ ha1 HN.out hn' iH.out).mono ?_
    rintro e w' ⟨rfl, q, rfl⟩
    rw [R1.out]
    go_wp2_with (fail)
    go_ret2
    exact ⟨_, rfl, OwnI.nil _ _, below_drewN_ hbel _⟩
  · cases r2 : rowB xs
    · have hv : foldV hs xs = [] := by simp [foldV, foldOk, r2]
      have he : argE (foldOk hs xs) = 2 := by simp [foldOk, r2, argE]
      rw [hv, he]; clear hv he
      have R1 := Lib.hid r1; have R2 := Lib.hid r2; clear r1 r2
      go_enter Try.func30, Try.ntmps30
      go_wp2_with (fail)
      refine (fixed_row A n c hs _ ha1 HN.out hn' iH.out).mono ?_
      rintro e w' ⟨rfl, q, rfl⟩
      rw [R1.out]
      go_wp2_with (fail)
      refine (fixed_row B m d xs _ (hb1.drewN q) HM.out hm' iX.out).mono ?_
      rintro e w' ⟨rfl, q2, rfl⟩
      rw [R2.out]
      go_wp2_with (fail)
      go_ret2
      exact ⟨_, rfl, OwnI.nil _ _, below_drewN_ hbel _⟩
    · by_cases hl : n = m
      · have hlen : hs.length = xs.length := by rw [← HN.out, ← HM.out]; exact hl
        have hv : foldV hs xs = foldL hs xs := by simp [foldV, foldOk, r1, r2, hlen]
        have he : argE (foldOk hs xs) = 0 := by simp [foldOk, r1, r2, hlen, argE]
        rw [hv, he]; clear hv he hlen
        subst hl
        have hn256 : n ≤ 256 := by have := rowB_len r1; rw [← HN.out] at this; exact this.2
        have R1 := Lib.hid r1; have R2 := Lib.hid r2; clear r1 r2
        go_enter Try.func30, Try.ntmps30
        go_wp2_with (fail)
        refine (fixed_row A n c hs _ ha1 HN.out hn' iH.out).mono ?_
        rintro e w' ⟨rfl, q, rfl⟩
        rw [R1.out]
        go_wp2_with (fail)
        refine (fixed_row B n d xs _ (hb1.drewN q) HM.out hm' iX.out).mono ?_
        rintro e w' ⟨rfl, q2, rfl⟩
        rw [R2.out]
        go_wp2_with (fail)
        refine (fixed_made A n c hs _ #[.pointer (some ⟨w.heap.size, 0, none⟩)] (foldG xs) _ enters_fold_fn (ha1.drewN (q + q2)) HN.out (by omega) ?_).mono ?_
        · intro k wx hk hbx
          have hk' : k < n := by rw [HN.out]; exact hk
          have hb0 := rowB_at R1.out hk
          refine fixed_Fold_fn k _ w.heap.size B n d xs wx ?_ ?_ HM.out hn256 hk' hb0.1 hb0.2 R2.out
          · exact (hbx.cell (p := ⟨w.heap.size, 0, none⟩) (by simp)).trans (cell_one_alloc w _ _)
          · exact (hb1.drewN (q + q2)).keep hbx
        · rintro e w2 ⟨v, rfl, hown, hb2⟩
          go_wp2_with (fail)
          go_ret2
          refine ⟨_, rfl, ?_, ?_⟩
          · exact hown.mono (by simp)
          · exact (below_drewN_ hbel _).trans (hb2.mono (by simp))
      · have hlen : ¬ hs.length = xs.length := by rw [← HN.out, ← HM.out]; exact hl
        have hv : foldV hs xs = [] := by simp [foldV, foldOk, hlen]
        have he : argE (foldOk hs xs) = 2 := by simp [foldOk, hlen, argE]
        rw [hv, he]; clear hv he hlen
        have hd : ((n : Int) != (m : Int)) = true := by simp; omega
        have R1 := Lib.hid r1; have R2 := Lib.hid r2; clear r1 r2
        go_enter Try.func30, Try.ntmps30
        go_wp2_with (fail)
        refine (fixed_row A n c hs _ ha1 HN.out hn' iH.out).mono ?_
        rintro e w' ⟨rfl, q, rfl⟩
        rw [R1.out]
        go_wp2_with (fail)
        refine (fixed_row B m d xs _ (hb1.drewN q) HM.out hm' iX.out).mono ?_
        rintro e w' ⟨rfl, q2, rfl⟩
        rw [R2.out]
        go_wp2_with (fail)
        go_ret2
        exact ⟨_, rfl, OwnI.nil _ _, below_drewN_ hbel _⟩
end Go.Proofs.Ytpjmiafefammkaa
