/- Layer 23: the contracts of the program's functions on numbers, and of the document's. -/
import Derived.Test.YtpjmiafefammkaaProg
import Derived.Test.YtpjmiafefammkaaFixP
import Derived.Test.YtpjmiafefammkaaFin
namespace Go.Proofs.Ytpjmiafefammkaa
open Go.RowKit

set_option maxHeartbeats 400000 in
theorem fixed_Is (a : Int) (w : World) (h : I64 a) : Calls Try.prog 109 #[.int .i64 a] w fun e w' => e = .returned (.bool (isB a)) ∧ w = w' := by
  obtain ⟨h1, h2⟩ := h
  go_enter Try.func109, Try.ntmps109
  go_wp2_with (fail)
  all_goals go_ret
  all_goals refine ⟨ret_bool ?_, rfl⟩
  all_goals
    simp only [isB, IntKind.wrap_u64, decide_eq_decide]
    omega

set_option maxHeartbeats 400000 in
theorem ref23_Is (a : Int) (w : World) : Calls Try.prog 138 #[.int .i64 a] w fun e w' => e = .returned (.bool (isB a)) ∧ w = w' := by
  by_cases h0 : 0 ≤ a
  all_goals
    go_enter Try.func138, Try.ntmps138
    go_wp2_with (fail)
    go_ret
    refine ⟨ret_bool ?_, rfl⟩
    simp [isB]
    omega

set_option maxHeartbeats 400000 in
theorem fixed_Share (a b : Int) (w : World) (ha : I64 a) (hb : I64 b) :
    Calls Try.prog 71 #[.int .i64 a, .int .i64 b] w fun e w' => e = .returned (.tuple #[.int .i64 (shareV a b), .int .i64 (argE (shareOk a b))]) ∧ w = w' := by
  obtain ⟨h1, h2⟩ := ha
  obtain ⟨h3, h4⟩ := hb
  by_cases hok : shareOk a b = true
  · have hv : shareV a b = a * 65536 / b := by simp [shareV, hok]
    have he : argE (shareOk a b) = 0 := by simp [argE, hok]
    rw [hv, he]; clear hv he
    simp only [shareOk, decide_eq_true_eq] at hok
    obtain ⟨g1, g2, g3, g4⟩ := hok
    go_enter Try.func71, Try.ntmps71
    go_wp2_with (fail)
    go_ret2
    exact ⟨rfl, rfl⟩
  · have hv : shareV a b = 0 := by simp [shareV, hok]
    have he : argE (shareOk a b) = 2 := by simp [argE, hok]
    rw [hv, he]; clear hv he
    simp only [shareOk, decide_eq_true_eq] at hok
    by_cases hc : b ≤ 0 ∨ 2147483647 < b
    · clear hok
      rcases hc with hc | hc
      all_goals
        go_enter Try.func71, Try.ntmps71
        go_wp2_with (fail)
        go_ret2
        exact ⟨rfl, rfl⟩
    · have hb1 : 0 < b := by omega
      have hb2 : b ≤ 2147483647 := by omega
      have hd : (b : Int) < IntKind.u64.wrap a := by simp only [IntKind.wrap_u64]; omega
      clear hok hc
      go_enter Try.func71, Try.ntmps71
      go_wp2_with (fail)
      go_ret2
      exact ⟨rfl, rfl⟩

set_option maxHeartbeats 400000 in
theorem ref23_Share (a b : Int) (w : World) (ha : I64 a) (hb : I64 b) :
    Calls Try.prog 106 #[.int .i64 a, .int .i64 b] w fun e w' => e = .returned (.tuple #[.int .i64 (shareV a b), .int .i64 (argE (shareOk a b))]) ∧ w = w' := by
  obtain ⟨h1, h2⟩ := ha
  obtain ⟨h3, h4⟩ := hb
  by_cases hok : shareOk a b = true
  · have hv : shareV a b = a * 65536 / b := by simp [shareV, hok]
    have he : argE (shareOk a b) = 0 := by simp [argE, hok]
    rw [hv, he]; clear hv he
    simp only [shareOk, decide_eq_true_eq] at hok
    obtain ⟨g1, g2, g3, g4⟩ := hok
    go_enter Try.func106, Try.ntmps106
    go_wp2_with (fail)
    go_ret2
    exact ⟨rfl, rfl⟩
  · have hv : shareV a b = 0 := by simp [shareV, hok]
    have he : argE (shareOk a b) = 2 := by simp [argE, hok]
    rw [hv, he]; clear hv he
    simp only [shareOk, decide_eq_true_eq] at hok
    have hc : b < 1 ∨ (1 ≤ b ∧ 2147483647 < b) ∨ (1 ≤ b ∧ b ≤ 2147483647 ∧ a < 0) ∨ (1 ≤ b ∧ b ≤ 2147483647 ∧ 0 ≤ a ∧ b < a) := by omega
    clear hok
    rcases hc with hc | ⟨hc, h5⟩ | ⟨hc, h5, h6⟩ | ⟨hc, h5, h6, h7⟩
    all_goals
      go_enter Try.func106, Try.ntmps106
      go_wp2_with (fail)
      go_ret2
      exact ⟨rfl, rfl⟩

set_option maxHeartbeats 400000 in
theorem fixed_blend (h x : Int) (w : World) (hh : 0 ≤ h) (hh' : h ≤ 65536) (hx : 0 ≤ x) (hx' : x ≤ 65536) :
    Calls Try.prog 70 #[.int .i64 h, .int .i64 x] w fun e w' => e = .returned (.int .i64 (blendW h x)) ∧ w = w' := by
  go_enter Try.func70, Try.ntmps70
  go_wp2_with (fail)
  go_ret
  exact ⟨rfl, rfl⟩

set_option maxHeartbeats 400000 in
theorem ref23_Down (n : Int) (w : World) (hh : -65536 ≤ n) (hh' : n ≤ 65536) :
    Calls Try.prog 139 #[.int .i64 n, .int .i64 8] w fun e w' => e = .returned (.int .i64 (n / 8)) ∧ w = w' := by
  go_enter Try.func139, Try.ntmps139
  go_wp2_with (fail)
  · go_ret
    exact ⟨ret_int (down_lo hh hh' (by assumption)), rfl⟩
  · go_ret
    exact ⟨ret_int (down_hi (by assumption)), rfl⟩

set_option maxHeartbeats 400000 in
theorem ref23_Blend (h x : Int) (w : World) :
    Calls Try.prog 105 #[.int .i64 h, .int .i64 x] w fun e w' => e = .returned (.tuple #[.int .i64 (blendV h x), .int .i64 (argE (blendOk h x))]) ∧ w = w' := by
  cases c1 : isB h
  · have hv : blendV h x = 0 := by simp [blendV, blendOk, c1]
    have he : argE (blendOk h x) = 2 := by simp [blendOk, c1, argE]
    rw [hv, he]; clear hv he
    have H1 := Lib.hid c1; clear c1
    go_enter Try.func105, Try.ntmps105
    go_wp2_with (fail)
    refine (ref23_Is h _).mono ?_
    rintro e w' ⟨rfl, rfl⟩
    rw [H1.out]
    go_wp2_with (fail)
    go_ret2
    exact ⟨rfl, rfl⟩
  · cases c2 : isB x
    · have hv : blendV h x = 0 := by simp [blendV, blendOk, c1, c2]
      have he : argE (blendOk h x) = 2 := by simp [blendOk, c1, c2, argE]
      rw [hv, he]; clear hv he
      have H1 := Lib.hid c1; have H2 := Lib.hid c2; clear c1 c2
      go_enter Try.func105, Try.ntmps105
      go_wp2_with (fail)
      refine (ref23_Is h _).mono ?_
      rintro e w' ⟨rfl, rfl⟩
      rw [H1.out]
      go_wp2_with (fail)
      refine (ref23_Is x _).mono ?_
      rintro e w' ⟨rfl, rfl⟩
      rw [H2.out]
      go_wp2_with (fail)
      go_ret2
      exact ⟨rfl, rfl⟩
    · have hv : blendV h x = h + (x - h) / 8 := by simp [blendV, blendOk, c1, c2, blendW]
      have he : argE (blendOk h x) = 0 := by simp [blendOk, c1, c2, argE]
      rw [hv, he]; clear hv he
      have H1 := Lib.hid c1; have H2 := Lib.hid c2; clear c1 c2
      go_enter Try.func105, Try.ntmps105
      go_wp2_with (fail)
      refine (ref23_Is h _).mono ?_
      rintro e w' ⟨rfl, rfl⟩
      rw [H1.out]
      go_wp2_with (fail)
      refine (ref23_Is x _).mono ?_
      rintro e w' ⟨rfl, rfl⟩
      rw [H2.out]
      have b1 := isB_iff.1 H1.out
      have b2 := isB_iff.1 H2.out
      obtain ⟨b3, b4⟩ := b1
      obtain ⟨b5, b6⟩ := b2
      go_wp2_with (fail)
      refine (ref23_Down _ _ (by omega) (by omega)).mono ?_
      rintro e w' ⟨rfl, rfl⟩
      go_wp2_with (fail)
      go_ret2
      exact ⟨rfl, rfl⟩
end Go.Proofs.Ytpjmiafefammkaa
