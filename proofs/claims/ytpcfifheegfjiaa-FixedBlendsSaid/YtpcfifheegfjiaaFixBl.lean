/- Layer 23: the walk of FixedBlends. -/
import Derived.Test.YtpcfifheegfjiaaFixE
namespace Go.Proofs.Ytpcfifheegfjiaa
open Go.RowKit

theorem blendV_ok {h x : Int} (c : blendOk h x = true) : blendV h x = blendW h x ∧ (0 ≤ h ∧ h ≤ 65536) ∧ 0 ≤ x ∧ x ≤ 65536 := by
  have c' := c
  simp only [blendOk, Bool.and_eq_true, isB_iff] at c'
  exact ⟨by simp [blendV, c], c'.1, c'.2⟩
theorem shareV_ok {a b : Int} (c : shareOk a b = true) : shareV a b = a * 65536 / b ∧ 0 < b ∧ b ≤ 2147483647 ∧ 0 ≤ a ∧ a ≤ b := by
  have c' := c
  simp only [shareOk, decide_eq_true_eq] at c'
  exact ⟨by simp [shareV, c], c'⟩

theorem blend_lo {h x : Int} (h1 : h ≤ x) : h ≤ blendW h x ∧ blendW h x ≤ x := by unfold blendW; omega
theorem blend_hi {h x : Int} (h1 : x ≤ h) : x ≤ blendW h x ∧ blendW h x ≤ h := by unfold blendW; omega
theorem blend_eq {h x : Int} (h1 : h ≤ x) : (blendW h x = h) ↔ x - h < 8 := by unfold blendW; omega
theorem blend_ne {h x : Int} (h1 : x < h) : blendW h x ≠ h := by unfold blendW; omega

theorem share_facts {a b : Int} (hb : 0 < b) (ha : 0 ≤ a) (hab : a ≤ b) : 0 ≤ a * 65536 / b ∧ a * 65536 / b ≤ 65536 ∧ a * 65536 / b * b ≤ a * 65536 ∧ a * 65536 < (a * 65536 / b + 1) * b ∧ (a * 65536 / b = 65536 ↔ a = b) := by
  have h1 : 0 ≤ a * 65536 / b := Int.ediv_nonneg (by omega) (by omega)
  have h2 := Int.ediv_mul_le (a * 65536) (show b ≠ 0 by omega)
  have h3 := Int.lt_ediv_add_one_mul_self (a * 65536) hb
  have h4 : a * 65536 / b ≤ 65536 := by
    have : a * 65536 / b ≤ b * 65536 / b := Int.ediv_le_ediv hb (by omega)
    rwa [Int.mul_ediv_cancel_left _ (by omega)] at this
  refine ⟨h1, h4, h2, h3, ?_, ?_⟩
  · intro e
    rw [e] at h2
    omega
  · rintro rfl
    exact Int.mul_ediv_cancel_left _ (by omega)

/-- what the first test says of a blend, in the walk's own spelling -/
theorem bool_blend (h x : Int) (c : blendOk h x = true) : decide (blendV h x < min h x) = false ∧ decide (max h x < blendV h x) = false := by
  obtain ⟨hv, h1, h2⟩ := blendV_ok c
  rw [hv]
  constructor
  · simp
    by_cases hle : h ≤ x
    · have := blend_lo hle; omega
    · have := blend_hi (show x ≤ h by omega); omega
  · simp
    by_cases hle : h ≤ x
    · have := blend_lo hle; omega
    · have := blend_hi (show x ≤ h by omega); omega

/-- the second half: the share -/
def ShareEnds (a b : Int) (W : World) (R : Ending → World → Prop) : Prop := ∀ w', Below W.heap.size W w' → R (.returned (.bool true)) w'

/-- the ways of a blend: not right; the first one greater; no less, and at most 7 below; more below -/
theorem blend_ways (h x : Int) : (blendOk h x = false ∧ isB h = false) ∨ (blendOk h x = false ∧ isB h = true ∧ isB x = false) ∨
    (blendOk h x = true ∧ isB h = true ∧ isB x = true ∧ x < h ∧ ((blendW h x == h) = false) ∧ x ≤ blendW h x ∧ blendW h x ≤ h) ∨
    (blendOk h x = true ∧ isB h = true ∧ isB x = true ∧ h < x ∧ x - h < 8 ∧ blendW h x = h) ∨ (blendOk h x = true ∧ isB h = true ∧ isB x = true ∧ h = x ∧ blendW h x = h) ∨
    (blendOk h x = true ∧ isB h = true ∧ isB x = true ∧ h ≤ x ∧ ¬ x - h < 8 ∧ ((blendW h x == h) = false) ∧ h ≤ blendW h x ∧ blendW h x ≤ x) := by
  cases h1 : isB h
  · exact .inl ⟨by simp [blendOk, h1], rfl⟩
  · cases h2 : isB x
    · exact .inr (.inl ⟨by simp [blendOk, h2], rfl, rfl⟩)
    · have c : blendOk h x = true := by simp [blendOk, h1, h2]
      rcases Int.lt_or_le x h with hl | hl
      · have := blend_hi (Int.le_of_lt hl)
        exact .inr (.inr (.inl ⟨c, rfl, rfl, hl, by simpa using blend_ne hl, this.1, this.2⟩))
      · by_cases h8 : x - h < 8
        · by_cases heq : h = x
          · exact .inr (.inr (.inr (.inr (.inl ⟨c, rfl, rfl, heq, (blend_eq hl).2 h8⟩))))
          · exact .inr (.inr (.inr (.inl ⟨c, rfl, rfl, by omega, h8, (blend_eq hl).2 h8⟩)))
        · have := blend_lo hl
          exact .inr (.inr (.inr (.inr (.inr ⟨c, rfl, rfl, hl, h8, by simpa using fun e => h8 ((blend_eq hl).1 e), this.1, this.2⟩))))

theorem share_ways (a b : Int) : (shareOk a b = false ∧ shareV a b = 0) ∨
    (∃ s, shareOk a b = true ∧ shareV a b = s ∧ 0 < b ∧ b ≤ 2147483647 ∧ 0 ≤ a ∧ a ≤ b ∧ 0 ≤ s ∧ s ≤ 65536 ∧ 0 ≤ s * b ∧ s * b ≤ a * 65536 ∧ a * 65536 < (s + 1) * b ∧ (s + 1) * b ≤ a * 65536 + b ∧ (s == 65536) = (a == b)) := by
  cases c : shareOk a b
  · exact .inl ⟨rfl, by simp [shareV, c]⟩
  · obtain ⟨hv, hb, hb', ha, hab⟩ := shareV_ok c
    have hf := share_facts hb ha hab
    refine .inr ⟨_, rfl, hv, hb, hb', ha, hab, hf.1, hf.2.1, Int.mul_nonneg hf.1 (by omega), hf.2.2.1, hf.2.2.2.1, ?_, ?_⟩
    · rw [Int.add_mul]; have := hf.2.2.1; omega
    · have := hf.2.2.2.2
      rw [Bool.eq_iff_iff]; simpa using this

set_option maxHeartbeats 4000000 in
theorem law23_FixedBlends (h x a b : Int) (w : World) (ih : I64 h) (ix : I64 x) (ia : I64 a) (ib : I64 b) :
    Calls Try.prog 5 #[.int .i64 h, .int .i64 x, .int .i64 a, .int .i64 b] w fun e w' => e = .returned (.bool true) ∧ Below w.heap.size w w' := by
  have HH := Lib.hid ih; have HX := Lib.hid ix; have HA := Lib.hid ia; have HB := Lib.hid ib
  have hS : ∀ W, Calls Try.prog 19 #[.int .i64 a, .int .i64 b] W fun e w' => e = .returned (.tuple #[.int .i64 (shareV a b), .int .i64 (argE (shareOk a b))]) ∧ W = w' := fun W => fixed_Share a b W ia ib
  have hBl : ∀ W, Calls Try.prog 21 #[.int .i64 h, .int .i64 x] W fun e w' => e = .returned (.tuple #[.int .i64 (blendV h x), .int .i64 (argE (blendOk h x))]) ∧ W = w' := fun W => fixed_Blend h x W ih ix
  clear ih ix ia ib
  rcases blend_ways h x with ⟨c1, c2⟩ | ⟨c1, c2, c3⟩ | ⟨c1, c2, c3, c4, c5, c6, c7⟩ | ⟨c1, c2, c3, c4, c5, c6⟩ | ⟨c1, c2, c3, c4, c6⟩ | ⟨c1, c2, c3, c4, c5, c6, c7, c8⟩
  · have hv : blendV h x = 0 := by simp [blendV, c1]
    rw [hv, c1, show argE false = 2 from rfl] at hBl
    have HBl := Lib.hid hBl
    have HC2 := Lib.hid c2
    clear hBl c1 c2 hv
    rcases share_ways a b with ⟨s1, s2⟩ | ⟨s, s1, s2, s3, s4, s5, s6, s7, s8, s9, s10, s11, s12, s13⟩
    · rw [s2, s1, show argE false = 2 from rfl] at hS
      have HS := Lib.hid hS
      clear hS s1 s2
      go_enter Try.func5, Try.ntmps5
      go_wp2_with (fail)
      refine (law23_awake _).mono ?_
      rintro e w1 ⟨rfl, hb⟩
      go_wp2_with (fail)
      refine (HBl.out _).mono ?_
      rintro e w' ⟨rfl, rfl⟩
      go_wp2_with (fail)
      refine (fixed_Is h _ HH.out).mono ?_
      rintro e w' ⟨rfl, rfl⟩
      rw [HC2.out]
      go_wp2_with (fail)
      refine (HS.out _).mono ?_
      rintro e w' ⟨rfl, rfl⟩
      go_wp2_with (fail)
      go_ret
      exact ⟨rfl, hb⟩
    · rw [s2, s1, show argE true = 0 from rfl] at hS
      have HS := Lib.hid hS; have H13 := Lib.hid s13
      clear hS s1 s2 s13
      have hIs : isB s = true := isB_yes s7 s8
      have HI := Lib.hid hIs; clear hIs
      go_enter Try.func5, Try.ntmps5
      go_wp2_with (fail)
      refine (law23_awake _).mono ?_
      rintro e w1 ⟨rfl, hb⟩
      go_wp2_with (fail)
      refine (HBl.out _).mono ?_
      rintro e w' ⟨rfl, rfl⟩
      go_wp2_with (fail)
      refine (fixed_Is h _ HH.out).mono ?_
      rintro e w' ⟨rfl, rfl⟩
      rw [HC2.out]
      go_wp2_with (fail)
      refine (HS.out _).mono ?_
      rintro e w' ⟨rfl, rfl⟩
      go_wp2_with (fail)
      refine (fixed_Is s _ ⟨by omega, by omega⟩).mono ?_
      rintro e w' ⟨rfl, rfl⟩
      rw [HI.out]
      go_wp2_with (fail)
      go_ret
      refine ⟨ret_bool ?_, hb⟩
      rw [H13.out]; simp
  · have hv : blendV h x = 0 := by simp [blendV, c1]
    rw [hv, c1, show argE false = 2 from rfl] at hBl
    have HBl := Lib.hid hBl
    have HC2 := Lib.hid c2
    have HC3 := Lib.hid c3
    clear hBl c1 c2 c3 hv
    rcases share_ways a b with ⟨s1, s2⟩ | ⟨s, s1, s2, s3, s4, s5, s6, s7, s8, s9, s10, s11, s12, s13⟩
    · rw [s2, s1, show argE false = 2 from rfl] at hS
      have HS := Lib.hid hS
      clear hS s1 s2
      go_enter Try.func5, Try.ntmps5
      go_wp2_with (fail)
      refine (law23_awake _).mono ?_
      rintro e w1 ⟨rfl, hb⟩
      go_wp2_with (fail)
      refine (HBl.out _).mono ?_
      rintro e w' ⟨rfl, rfl⟩
      go_wp2_with (fail)
      refine (fixed_Is h _ HH.out).mono ?_
      rintro e w' ⟨rfl, rfl⟩
      rw [HC2.out]
      go_wp2_with (fail)
      refine (fixed_Is x _ HX.out).mono ?_
      rintro e w' ⟨rfl, rfl⟩
      rw [HC3.out]
      go_wp2_with (fail)
      refine (HS.out _).mono ?_
      rintro e w' ⟨rfl, rfl⟩
      go_wp2_with (fail)
      go_ret
      exact ⟨rfl, hb⟩
    · rw [s2, s1, show argE true = 0 from rfl] at hS
      have HS := Lib.hid hS; have H13 := Lib.hid s13
      clear hS s1 s2 s13
      have hIs : isB s = true := isB_yes s7 s8
      have HI := Lib.hid hIs; clear hIs
      go_enter Try.func5, Try.ntmps5
      go_wp2_with (fail)
      refine (law23_awake _).mono ?_
      rintro e w1 ⟨rfl, hb⟩
      go_wp2_with (fail)
      refine (HBl.out _).mono ?_
      rintro e w' ⟨rfl, rfl⟩
      go_wp2_with (fail)
      refine (fixed_Is h _ HH.out).mono ?_
      rintro e w' ⟨rfl, rfl⟩
      rw [HC2.out]
      go_wp2_with (fail)
      refine (fixed_Is x _ HX.out).mono ?_
      rintro e w' ⟨rfl, rfl⟩
      rw [HC3.out]
      go_wp2_with (fail)
      refine (HS.out _).mono ?_
      rintro e w' ⟨rfl, rfl⟩
      go_wp2_with (fail)
      refine (fixed_Is s _ ⟨by omega, by omega⟩).mono ?_
      rintro e w' ⟨rfl, rfl⟩
      rw [HI.out]
      go_wp2_with (fail)
      go_ret
      refine ⟨ret_bool ?_, hb⟩
      rw [H13.out]; simp
  · obtain ⟨b1, b2⟩ := isB_iff.1 c2
    obtain ⟨b3, b4⟩ := isB_iff.1 c3
    have hv : blendV h x = blendW h x := by simp [blendV, c1]
    rw [hv, c1, show argE true = 0 from rfl] at hBl
    clear hv c1
    generalize hN : blendW h x = N at *
    clear hN
    have HBl := Lib.hid hBl
    have HC2 := Lib.hid c2
    have HC3 := Lib.hid c3
    clear hBl c2 c3
    rcases share_ways a b with ⟨s1, s2⟩ | ⟨s, s1, s2, s3, s4, s5, s6, s7, s8, s9, s10, s11, s12, s13⟩
    · rw [s2, s1, show argE false = 2 from rfl] at hS
      have HS := Lib.hid hS
      clear hS s1 s2
      go_enter Try.func5, Try.ntmps5
      go_wp2_with (fail)
      refine (law23_awake _).mono ?_
      rintro e w1 ⟨rfl, hb⟩
      go_wp2_with (fail)
      refine (HBl.out _).mono ?_
      rintro e w' ⟨rfl, rfl⟩
      go_wp2_with (fail)
      refine (fixed_Is h _ HH.out).mono ?_
      rintro e w' ⟨rfl, rfl⟩
      rw [HC2.out]
      go_wp2_with (fail)
      refine (fixed_Is x _ HX.out).mono ?_
      rintro e w' ⟨rfl, rfl⟩
      rw [HC3.out]
      go_wp2_with (fail)
      refine (HS.out _).mono ?_
      rintro e w' ⟨rfl, rfl⟩
      go_wp2_with (fail)
      go_ret
      exact ⟨rfl, hb⟩
    · rw [s2, s1, show argE true = 0 from rfl] at hS
      have HS := Lib.hid hS; have H13 := Lib.hid s13
      clear hS s1 s2 s13
      have hIs : isB s = true := isB_yes s7 s8
      have HI := Lib.hid hIs; clear hIs
      go_enter Try.func5, Try.ntmps5
      go_wp2_with (fail)
      refine (law23_awake _).mono ?_
      rintro e w1 ⟨rfl, hb⟩
      go_wp2_with (fail)
      refine (HBl.out _).mono ?_
      rintro e w' ⟨rfl, rfl⟩
      go_wp2_with (fail)
      refine (fixed_Is h _ HH.out).mono ?_
      rintro e w' ⟨rfl, rfl⟩
      rw [HC2.out]
      go_wp2_with (fail)
      refine (fixed_Is x _ HX.out).mono ?_
      rintro e w' ⟨rfl, rfl⟩
      rw [HC3.out]
      go_wp2_with (fail)
      refine (HS.out _).mono ?_
      rintro e w' ⟨rfl, rfl⟩
      go_wp2_with (fail)
      refine (fixed_Is s _ ⟨by omega, by omega⟩).mono ?_
      rintro e w' ⟨rfl, rfl⟩
      rw [HI.out]
      go_wp2_with (fail)
      go_ret
      refine ⟨ret_bool ?_, hb⟩
      rw [H13.out]; simp
  · obtain ⟨b1, b2⟩ := isB_iff.1 c2
    obtain ⟨b3, b4⟩ := isB_iff.1 c3
    have hv : blendV h x = blendW h x := by simp [blendV, c1]
    rw [hv, c1, show argE true = 0 from rfl] at hBl
    rw [c6] at hBl
    have HBl := Lib.hid hBl
    have HC2 := Lib.hid c2
    have HC3 := Lib.hid c3
    clear hBl c2 c3 c1 c6 hv
    rcases share_ways a b with ⟨s1, s2⟩ | ⟨s, s1, s2, s3, s4, s5, s6, s7, s8, s9, s10, s11, s12, s13⟩
    · rw [s2, s1, show argE false = 2 from rfl] at hS
      have HS := Lib.hid hS
      clear hS s1 s2
      go_enter Try.func5, Try.ntmps5
      go_wp2_with (fail)
      refine (law23_awake _).mono ?_
      rintro e w1 ⟨rfl, hb⟩
      go_wp2_with (fail)
      refine (HBl.out _).mono ?_
      rintro e w' ⟨rfl, rfl⟩
      go_wp2_with (fail)
      refine (fixed_Is h _ HH.out).mono ?_
      rintro e w' ⟨rfl, rfl⟩
      rw [HC2.out]
      go_wp2_with (fail)
      refine (fixed_Is x _ HX.out).mono ?_
      rintro e w' ⟨rfl, rfl⟩
      rw [HC3.out]
      go_wp2_with (fail)
      refine (HS.out _).mono ?_
      rintro e w' ⟨rfl, rfl⟩
      go_wp2_with (fail)
      go_ret
      exact ⟨rfl, hb⟩
    · rw [s2, s1, show argE true = 0 from rfl] at hS
      have HS := Lib.hid hS; have H13 := Lib.hid s13
      clear hS s1 s2 s13
      have hIs : isB s = true := isB_yes s7 s8
      have HI := Lib.hid hIs; clear hIs
      go_enter Try.func5, Try.ntmps5
      go_wp2_with (fail)
      refine (law23_awake _).mono ?_
      rintro e w1 ⟨rfl, hb⟩
      go_wp2_with (fail)
      refine (HBl.out _).mono ?_
      rintro e w' ⟨rfl, rfl⟩
      go_wp2_with (fail)
      refine (fixed_Is h _ HH.out).mono ?_
      rintro e w' ⟨rfl, rfl⟩
      rw [HC2.out]
      go_wp2_with (fail)
      refine (fixed_Is x _ HX.out).mono ?_
      rintro e w' ⟨rfl, rfl⟩
      rw [HC3.out]
      go_wp2_with (fail)
      refine (HS.out _).mono ?_
      rintro e w' ⟨rfl, rfl⟩
      go_wp2_with (fail)
      refine (fixed_Is s _ ⟨by omega, by omega⟩).mono ?_
      rintro e w' ⟨rfl, rfl⟩
      rw [HI.out]
      go_wp2_with (fail)
      go_ret
      refine ⟨ret_bool ?_, hb⟩
      rw [H13.out]; simp
  · obtain rfl := c4
    obtain ⟨b1, b2⟩ := isB_iff.1 c2
    obtain ⟨b3, b4⟩ := isB_iff.1 c3
    have hv : blendV h h = blendW h h := by simp [blendV, c1]
    rw [hv, c1, show argE true = 0 from rfl] at hBl
    rw [c6] at hBl
    have HBl := Lib.hid hBl
    have HC2 := Lib.hid c2
    have HC3 := Lib.hid c3
    clear hBl c2 c3 c1 c6 hv
    rcases share_ways a b with ⟨s1, s2⟩ | ⟨s, s1, s2, s3, s4, s5, s6, s7, s8, s9, s10, s11, s12, s13⟩
    · rw [s2, s1, show argE false = 2 from rfl] at hS
      have HS := Lib.hid hS
      clear hS s1 s2
      go_enter Try.func5, Try.ntmps5
      go_wp2_with (fail)
      refine (law23_awake _).mono ?_
      rintro e w1 ⟨rfl, hb⟩
      go_wp2_with (fail)
      refine (HBl.out _).mono ?_
      rintro e w' ⟨rfl, rfl⟩
      go_wp2_with (fail)
      refine (fixed_Is h _ HH.out).mono ?_
      rintro e w' ⟨rfl, rfl⟩
      rw [HC2.out]
      go_wp2_with (fail)
      refine (fixed_Is h _ HX.out).mono ?_
      rintro e w' ⟨rfl, rfl⟩
      rw [HC3.out]
      go_wp2_with (fail)
      refine (HS.out _).mono ?_
      rintro e w' ⟨rfl, rfl⟩
      go_wp2_with (fail)
      go_ret
      exact ⟨rfl, hb⟩
    · rw [s2, s1, show argE true = 0 from rfl] at hS
      have HS := Lib.hid hS; have H13 := Lib.hid s13
      clear hS s1 s2 s13
      have hIs : isB s = true := isB_yes s7 s8
      have HI := Lib.hid hIs; clear hIs
      go_enter Try.func5, Try.ntmps5
      go_wp2_with (fail)
      refine (law23_awake _).mono ?_
      rintro e w1 ⟨rfl, hb⟩
      go_wp2_with (fail)
      refine (HBl.out _).mono ?_
      rintro e w' ⟨rfl, rfl⟩
      go_wp2_with (fail)
      refine (fixed_Is h _ HH.out).mono ?_
      rintro e w' ⟨rfl, rfl⟩
      rw [HC2.out]
      go_wp2_with (fail)
      refine (fixed_Is h _ HX.out).mono ?_
      rintro e w' ⟨rfl, rfl⟩
      rw [HC3.out]
      go_wp2_with (fail)
      refine (HS.out _).mono ?_
      rintro e w' ⟨rfl, rfl⟩
      go_wp2_with (fail)
      refine (fixed_Is s _ ⟨by omega, by omega⟩).mono ?_
      rintro e w' ⟨rfl, rfl⟩
      rw [HI.out]
      go_wp2_with (fail)
      go_ret
      refine ⟨ret_bool ?_, hb⟩
      rw [H13.out]; simp
  · obtain ⟨b1, b2⟩ := isB_iff.1 c2
    obtain ⟨b3, b4⟩ := isB_iff.1 c3
    have hv : blendV h x = blendW h x := by simp [blendV, c1]
    rw [hv, c1, show argE true = 0 from rfl] at hBl
    clear hv c1
    generalize hN : blendW h x = N at *
    clear hN
    have HBl := Lib.hid hBl
    have HC2 := Lib.hid c2
    have HC3 := Lib.hid c3
    clear hBl c2 c3
    rcases share_ways a b with ⟨s1, s2⟩ | ⟨s, s1, s2, s3, s4, s5, s6, s7, s8, s9, s10, s11, s12, s13⟩
    · rw [s2, s1, show argE false = 2 from rfl] at hS
      have HS := Lib.hid hS
      clear hS s1 s2
      go_enter Try.func5, Try.ntmps5
      go_wp2_with (fail)
      refine (law23_awake _).mono ?_
      rintro e w1 ⟨rfl, hb⟩
      go_wp2_with (fail)
      refine (HBl.out _).mono ?_
      rintro e w' ⟨rfl, rfl⟩
      go_wp2_with (fail)
      refine (fixed_Is h _ HH.out).mono ?_
      rintro e w' ⟨rfl, rfl⟩
      rw [HC2.out]
      go_wp2_with (fail)
      refine (fixed_Is x _ HX.out).mono ?_
      rintro e w' ⟨rfl, rfl⟩
      rw [HC3.out]
      go_wp2_with (fail)
      refine (HS.out _).mono ?_
      rintro e w' ⟨rfl, rfl⟩
      go_wp2_with (fail)
      go_ret
      exact ⟨rfl, hb⟩
    · rw [s2, s1, show argE true = 0 from rfl] at hS
      have HS := Lib.hid hS; have H13 := Lib.hid s13
      clear hS s1 s2 s13
      have hIs : isB s = true := isB_yes s7 s8
      have HI := Lib.hid hIs; clear hIs
      go_enter Try.func5, Try.ntmps5
      go_wp2_with (fail)
      refine (law23_awake _).mono ?_
      rintro e w1 ⟨rfl, hb⟩
      go_wp2_with (fail)
      refine (HBl.out _).mono ?_
      rintro e w' ⟨rfl, rfl⟩
      go_wp2_with (fail)
      refine (fixed_Is h _ HH.out).mono ?_
      rintro e w' ⟨rfl, rfl⟩
      rw [HC2.out]
      go_wp2_with (fail)
      refine (fixed_Is x _ HX.out).mono ?_
      rintro e w' ⟨rfl, rfl⟩
      rw [HC3.out]
      go_wp2_with (fail)
      refine (HS.out _).mono ?_
      rintro e w' ⟨rfl, rfl⟩
      go_wp2_with (fail)
      refine (fixed_Is s _ ⟨by omega, by omega⟩).mono ?_
      rintro e w' ⟨rfl, rfl⟩
      rw [HI.out]
      go_wp2_with (fail)
      go_ret
      refine ⟨ret_bool ?_, hb⟩
      rw [H13.out]; simp
end Go.Proofs.Ytpcfifheegfjiaa
