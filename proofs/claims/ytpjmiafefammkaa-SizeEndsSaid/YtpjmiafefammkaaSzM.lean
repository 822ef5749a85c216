/- Layer 11: awake, and the walk of SizeMore. -/
import Derived.Test.YtpjmiafefammkaaSzF
import Derived.Test.YtpjmiafefammkaaSzQ
import Derived.Test.YtpjmiafefammkaaKitP
namespace Go.Proofs.Ytpjmiafefammkaa
open Go.RowKit
set_option linter.unusedVariables false

theorem law11_awake (w : World) : Gives Try.prog 49 #[] w fun v w' => v = .bool true ∧ Below w.heap.size w w' := by
  have hB0 := bk_new w [.int .i64 0, .int .i64 0, .int .i64 0] 75
  have hb0 : Below w.heap.size w (w.alloc (.cells #[.int .i64 0, .int .i64 0, .int .i64 0] 75)) := (Below.refl _ w).alloc (Nat.le_refl _) _
  have hB := setRow_bk hB0 [.int .i64 4, .int .i64 64, .int .i64 200]
  have hb := below_setRow hb0 (Nat.le_refl _) #[.int .i64 4, .int .i64 64, .int .i64 200]
  refine gives_enter Try.call49 Try.func49 rfl rfl rfl (by kernel_rfl) ?_
  refine v_seq ?_
  refine v_region ?_
  refine vl_val (os_assign rfl) ?_
  refine vl_nil ?_
  refine v_seq ?_
  refine v_region ?_
  refine vl_val (os_build (cs := [.int .i64 4, .int .i64 64, .int .i64 200]) rfl (by kernel_rfl)) ?_
  refine vl_val (os_alloc Try.zeroValue75) ?_
  refine vl_unit (ou_storeB (by kernel_rfl) rfl rfl (hB0) rfl rfl) ?_
  refine vl_nil ?_
  refine v_seq ?_
  refine v_region ?_
  refine vl_val (os_loadB Try.underlying75 rfl (by kernel_rfl) rfl (hB)) ?_
  refine vl_call (size_Room 4 64 200 2 _) rfl ?_
  rintro v w1 ⟨rfl, hb1⟩
  have hb1w := hb.trans (hb1.mono hb.size)
  have hB1 := hB.keep hb1
  refine vl_val (os_move rfl) ?_
  refine vl_val (os_extract rfl rfl) ?_
  refine vl_val (os_extract rfl rfl) ?_
  refine vl_val (os_assign rfl) ?_
  refine vl_val (os_assign rfl) ?_
  refine vl_nil ?_
  refine v_seq ?_
  refine v_region ?_
  refine vl_val (os_move rfl) ?_
  refine vl_val (os_t (os_eql rfl rfl) (by decide)) ?_
  refine vl_val (os_move rfl) ?_
  refine vl_valg rfl (os_move rfl) ?_
  refine vl_valg rfl (os_t (os_eql rfl rfl) (by decide)) ?_
  refine vl_val (os_pick_t rfl rfl) ?_
  refine vl_val (os_move rfl) ?_
  refine vl_valg rfl (os_loadB Try.underlying75 rfl (by kernel_rfl) rfl (hB1)) ?_
  have hB2 := (hB1.alloc (.cells #[.int .i64 40, .int .i64 60] 3)).alloc (.cells #[.int .i64 4, .int .i64 4] 3)
  have hr1 := (rd_alloc w1 .i64 [40, 60] 3).alloc (.cells #[.int .i64 4, .int .i64 4] 3)
  have hr2 := rd_alloc (w1.alloc (.cells #[.int .i64 40, .int .i64 60] 3)) .i64 [4, 4] 3
  have hb2w : Below w.heap.size w ((w1.alloc (.cells #[.int .i64 40, .int .i64 60] 3)).alloc (.cells #[.int .i64 4, .int .i64 4] 3)) := (hb1w.alloc hb1w.size _).alloc (by simp; have := hb1w.size; omega) _
  refine vl_valg rfl (os_lit Try.underlying40 Try.sizeOf3 Try.zeroValue3 rfl rfl rfl rfl (by decide)) ?_
  refine vl_valg rfl (os_lit Try.underlying40 Try.sizeOf3 Try.zeroValue3 rfl rfl rfl rfl (by decide)) ?_
  refine vl_callg rfl (gives_boolb (size_Fits 4 64 200 _ _ 2 2 2 2 [40, 60] [4, 4] _ hr1 hr2 rfl rfl (by decide) (by decide) (by intro z hz; simp at hz; subst hz; exact ⟨by decide, by decide⟩)) (c := true) (by decide)) rfl ?_
  rintro v w2 ⟨rfl, hb3⟩
  have hb3w := hb2w.trans (hb3.mono hb2w.size)
  have hB3 := hB2.keep hb3
  refine vl_val (os_pick_t rfl rfl) ?_
  refine vl_val (os_move rfl) ?_
  refine vl_valg rfl (os_loadB Try.underlying75 rfl (by kernel_rfl) rfl (hB3)) ?_
  have hr3 := (rd_alloc w2 .i64 [40, 60] 3).alloc (.cells #[.int .i64 3, .int .i64 4] 3)
  have hr4 := rd_alloc (w2.alloc (.cells #[.int .i64 40, .int .i64 60] 3)) .i64 [3, 4] 3
  have hb4w : Below w.heap.size w ((w2.alloc (.cells #[.int .i64 40, .int .i64 60] 3)).alloc (.cells #[.int .i64 3, .int .i64 4] 3)) := (hb3w.alloc hb3w.size _).alloc (by simp; have := hb3w.size; omega) _
  refine vl_valg rfl (os_lit Try.underlying40 Try.sizeOf3 Try.zeroValue3 rfl rfl rfl rfl (by decide)) ?_
  refine vl_valg rfl (os_lit Try.underlying40 Try.sizeOf3 Try.zeroValue3 rfl rfl rfl rfl (by decide)) ?_
  refine vl_callg rfl (gives_boolb (size_Fits 4 64 200 _ _ 2 2 2 2 [40, 60] [3, 4] _ hr3 hr4 rfl rfl (by decide) (by decide) (by intro z hz; simp at hz; rcases hz with rfl | rfl <;> exact ⟨by decide, by decide⟩)) (c := false) (by decide)) rfl ?_
  rintro v w3 ⟨rfl, hb5⟩
  refine vl_valg rfl (os_not rfl) ?_
  refine vl_val (os_pick_t rfl rfl) ?_
  refine vl_val (os_assign rfl) ?_
  refine vl_nil ?_
  refine v_ret ?_
  exact post_ret rfl rfl (⟨rfl, hb4w.trans (hb5.mono hb4w.size)⟩)

theorem gives_eq {P : Program} {f : FuncId} {args : Array Value} {w : World} {u v : Value} {R : World → Prop} (h : Gives P f args w fun x w' => x = u ∧ R w') (e : u = v) : Gives P f args w fun x w' => x = v ∧ R w' := by subst e; exact h

theorem pick_bd (x : Int) {n : Int} (h : 1 ≤ n) : 0 ≤ pickV x n ∧ pickV x n < n := by
  unfold pickV
  rw [if_neg (by omega)]
  exact ⟨Int.emod_nonneg x (by omega), Int.emod_lt_of_pos x (by omega)⟩

end Go.Proofs.Ytpjmiafefammkaa
