/- Layer 23: awake, and the walks of FixedParts, FixedBlends. -/
import Derived.Test.YtpcfifheegfjiaaTails
import Derived.Test.YtpcfifheegfjiaaKitA
namespace Go.Proofs.Ytpcfifheegfjiaa
open Go.RowKit

theorem rd_lit3 (w : World) (x y z : Int) (t : TypeId) : Rd (w.alloc (.cells #[.int .i64 x, .int .i64 y, .int .i64 z] t)) .i64 (some ⟨w.heap.size, 0, none⟩) [x, y, z] := fun _ =>
  ⟨w.heap.size, 0, rfl, fun i hi => by
    rw [Nat.zero_add, cell_of_row _ w.heap.size i _ t (0, 0) (heap_alloc_new w _)]
    match i, hi with
    | 0, _ => rfl
    | 1, _ => rfl
    | 2, _ => rfl⟩

theorem allI_lit3 : AllI [1, 2, 3] := by intro z hz; simp at hz; rcases hz with rfl | rfl | rfl <;> exact ⟨by decide, by decide⟩

set_option maxHeartbeats 1000000 in
theorem law23_awake (w : World) : Calls Try.prog 25 #[] w fun e w' => e = .returned (.bool true) ∧ Below w.heap.size w w' := by
  have v1 : shareV 1 3 = 21845 := by decide
  have v2 : argE (shareOk 1 3) = 0 := by decide
  have v3 : blendV 65536 0 = 57344 := by decide
  have v4 : argE (blendOk 65536 0) = 0 := by decide
  have v5 : blendV 1 0 = 0 := by decide
  have v6 : argE (blendOk 1 0) = 0 := by decide
  have v7 : tailsV [1, 2, 3] = [6, 5, 3] := by decide
  have v8 : argE (rowB [1, 2, 3]) = 0 := by decide
  have h1 := fixed_Share 1 3 w ⟨by decide, by decide⟩ ⟨by decide, by decide⟩
  have h2 := fixed_Blend 65536 0 w ⟨by decide, by decide⟩ ⟨by decide, by decide⟩
  have h3 := fixed_Blend 1 0 w ⟨by decide, by decide⟩ ⟨by decide, by decide⟩
  have h4 := fixed_Tails _ 3 3 [1, 2, 3] (w.alloc (.cells #[.int .i64 1, .int .i64 2, .int .i64 3] 3)) (rd_lit3 w 1 2 3 _) rfl (by decide) allI_lit3
  rw [v1, v2] at h1
  rw [v3, v4] at h2
  rw [v5, v6] at h3
  rw [v7, v8] at h4
  have H1 := Lib.hid h1; have H2 := Lib.hid h2; have H3 := Lib.hid h3; have H4 := Lib.hid h4
  clear v1 v2 v3 v4 v5 v6 v7 v8 h1 h2 h3 h4
  go_enter Try.func25, Try.ntmps25
  go_wp2_with (fail)
  refine H1.out.mono ?_
  rintro e w' ⟨rfl, rfl⟩
  go_wp2_with (fail)
  refine H2.out.mono ?_
  rintro e w' ⟨rfl, rfl⟩
  go_wp2_with (fail)
  refine H3.out.mono ?_
  rintro e w' ⟨rfl, rfl⟩
  go_wp2_with (fail)
  refine H4.out.mono ?_
  rintro e w1 ⟨v, rfl, hown, hb⟩
  obtain ⟨g, c1, rfl, hg0, hg1, hnc, hrow⟩ := hown.row (n := 3) rfl (by decide)
  obtain ⟨A1, c2, hv, _, _, hrd, _⟩ := hown.form
  have hA : A1 = some ⟨g, 0, none⟩ := by injection hv with h1; exact h1.symm
  subst hA
  have hbw : Below w.heap.size w w1 := ((Below.refl _ w).alloc (Nat.le_refl _) _).trans (hb.mono (by simp))
  have hsz := hbw.size
  have HV := Lib.hid hv; have HB := Lib.hid hb
  clear hown hv hb
  go_wp2_with (fail)
  refine (same_ints _ _ 3 3 _ _ [6, 5, 3] [6, 5, 3] _ (hrd.alloc _) (rd_lit3 w1 6 5 3 _) rfl rfl (by decide) (by decide)).mono ?_
  rintro e w2 ⟨rfl, q, rfl⟩
  go_wp2_with (fail)
  go_ret
  exact ⟨rfl, below_drewN_ (hbw.alloc hsz _) _⟩

set_option maxHeartbeats 1000000 in
theorem law23_FixedParts (a b : Int) (w : World) (ha : I64 a) (hb : I64 b) :
    Calls Try.prog 4 #[.int .i64 a, .int .i64 b] w fun e w' => e = .returned (.bool true) ∧ Below w.heap.size w w' := by
  have HA := Lib.hid ha; have HB := Lib.hid hb; clear ha hb
  go_enter Try.func4, Try.ntmps4
  go_wp2_with (fail)
  refine (fixed_Share a b _ HA.out HB.out).mono ?_
  rintro e w' ⟨rfl, rfl⟩
  go_wp2_with (fail)
  refine (ref23_Share a b _ HA.out HB.out).mono ?_
  rintro e w' ⟨rfl, rfl⟩
  go_wp2_with (fail)
  refine (fixed_Blend a b _ HA.out HB.out).mono ?_
  rintro e w' ⟨rfl, rfl⟩
  go_wp2_with (fail)
  refine (ref23_Blend a b _).mono ?_
  rintro e w' ⟨rfl, rfl⟩
  go_wp2_with (fail)
  refine (fixed_Is a _ HA.out).mono ?_
  rintro e w' ⟨rfl, rfl⟩
  go_wp2_with (fail)
  refine (ref23_Is a _).mono ?_
  rintro e w' ⟨rfl, rfl⟩
  go_wp2_with (fail)
  refine (law23_awake _).mono ?_
  rintro e w' ⟨rfl, hb⟩
  go_wp2_with (fail)
  go_ret
  exact ⟨rfl, hb⟩
end Go.Proofs.Ytpcfifheegfjiaa
