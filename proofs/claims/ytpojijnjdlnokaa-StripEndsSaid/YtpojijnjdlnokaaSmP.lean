/- Layer 7: the program's Seal and Open. -/
import Derived.Test.YtpojijnjdlnokaaSmO
namespace Go.Proofs.Ytpojijnjdlnokaa
open Go.RowKit
set_option linter.unusedVariables false

set_option maxHeartbeats 1000000 in
theorem sum_Seal (A : Option Addr) (n c : Nat) (zs : List Int) (w : World) (ha : Rd w .u8 A zs) (hn : n = zs.length) (hc : n ≤ c) (hn' : n ≤ 10000000) (hz : AllB zs) :
    Gives Try.prog 125 #[.slice A n c] w fun v w' => OwnK w' w.heap.size 5 .u8 v (sealL zs) ∧ Below w.heap.size w w' := by
  refine gives_enter Try.call125 Try.func125 rfl rfl rfl (by kernel_rfl) ?_
  refine v_seq ?_
  refine v_region ?_
  refine vl_val (os_assign rfl) ?_
  refine vl_nil ?_
  refine v_seq ?_
  refine v_region ?_
  refine vl_val (os_move rfl) ?_
  refine vl_val (os_move rfl) ?_
  refine vl_val (os_lit Try.underlying23 Try.sizeOf22 Try.zeroValue22 rfl rfl rfl rfl (by decide)) ?_
  refine vl_call (sum_Of _ _ _ [zs] _ (rds_lit' _ .u8 _ [(A, n, c, zs)] (by intro x hx; simp only [List.mem_cons, List.not_mem_nil, or_false] at hx; subst hx; exact ⟨ha, hn, hc, by dsimp only; omega⟩)) rfl (by simp) (by intro l hl; simp only [List.mem_cons, List.not_mem_nil, or_false] at hl; subst hl; exact hz)) rfl ?_
  rintro v1 w1 ⟨rfl, b1⟩
  have ba : Below w.heap.size w (w.alloc (.cells [Value.slice A n c].toArray 22)) := (Below.refl _ _).alloc (Nat.le_refl _) _
  have b01 : Below w.heap.size w w1 := ba.trans (b1.mono ba.size)
  refine vl_call (sum_put (crcOf [zs]) w1) rfl ?_
  rintro v2 w2 ⟨⟨g2, rfl⟩, o2, b2⟩
  have b02 : Below w.heap.size w w2 := b01.trans (b2.mono b01.size)
  have bb : Below w2.heap.size w2 (w2.alloc (.cells [Value.slice A n c, .slice (some ⟨g2, 0, none⟩) 4 4].toArray 22)) := (Below.refl _ _).alloc (Nat.le_refl _) _
  refine vl_val (os_lit Try.underlying23 Try.sizeOf22 Try.zeroValue22 rfl rfl rfl rfl (by decide)) ?_
  refine vl_call (sl_Concat _ _ _ [zs, le4 (crcOf [zs])] _ (rds_lit' _ .u8 _ [(A, n, c, zs), (some ⟨g2, 0, none⟩, 4, 4, le4 (crcOf [zs]))] (by intro x hx; simp only [List.mem_cons, List.not_mem_nil, or_false] at hx; rcases hx with rfl | rfl; exact ⟨ha.keep b02, hn, hc, by dsimp only; omega⟩; exact ⟨OwnK.rd o2, rfl, Nat.le_refl _, by simp⟩)) rfl (by simp) (by simp [le4]; omega)) rfl ?_
  rintro v3 w3 ⟨o3, b3⟩
  refine vl_val (os_assign rfl) ?_
  refine vl_nil ?_
  refine v_ret ?_
  exact post_ret rfl rfl (⟨by rw [show sealL zs = [zs, le4 (crcOf [zs])].flatten by simp [sealL]]; exact Own.mono o3 (by have := b02.size; simp; omega), b02.trans ((bb.trans (b3.mono bb.size)).mono b02.size)⟩)
set_option maxHeartbeats 1000000 in
theorem sum_Open (A : Option Addr) (n c : Nat) (zs : List Int) (w : World) (ha : Rd w .u8 A zs) (hn : n = zs.length) (hc : n ≤ c) (hn' : n ≤ 10000000) (hz : AllB zs) :
    Gives Try.prog 134 #[.slice A n c] w fun v w' => ∃ s, v = .tuple #[s, .int .i64 (openE zs)] ∧ OwnK w' w.heap.size 5 .u8 s (openV zs) ∧ Below w.heap.size w w' := by
  refine gives_enter Try.call134 Try.func134 rfl rfl rfl (by kernel_rfl) ?_
  rcases Nat.lt_or_ge n 4 with h | h
  · refine v_seq ?_
    refine v_region ?_
    refine vl_val (os_assign rfl) ?_
    refine vl_val (os_assign rfl) ?_
    refine vl_nil ?_
    refine v_seq ?_
    refine v_region ?_
    refine vl_val (os_move rfl) ?_
    refine vl_val (os_len Try.underlying22 rfl) ?_
    refine vl_val (os_subi rfl rfl (by omega)) ?_
    refine vl_val (os_assign rfl) ?_
    refine vl_nil ?_
    refine v_seq ?_
    refine v_block ?_
    refine v_seq ?_
    refine v_region ?_
    refine vl_val (os_move rfl) ?_
    refine vl_val (os_lss rfl rfl) ?_
    refine vl_val (os_assign rfl) ?_
    refine vl_nil ?_
    refine v_cond_yes rfl (by omega) ?_
    have e1 : openE zs = 4 := by unfold openE; rw [if_pos (by omega)]
    refine v_seq ?_
    refine v_region ?_
    refine vl_val (os_assign rfl) ?_
    refine vl_val (os_assign rfl) ?_
    refine vl_nil ?_
    refine v_ret ?_
    exact post_ret2 rfl rfl rfl (⟨_, by rw [e1], by unfold openV; rw [e1]; exact Own.nil _ _ _, Below.refl _ _⟩)
  · refine v_seq ?_
    refine v_region ?_
    refine vl_val (os_assign rfl) ?_
    refine vl_val (os_assign rfl) ?_
    refine vl_nil ?_
    refine v_seq ?_
    refine v_region ?_
    refine vl_val (os_move rfl) ?_
    refine vl_val (os_len Try.underlying22 rfl) ?_
    refine vl_val (os_subi rfl rfl (by omega)) ?_
    refine vl_val (os_assign rfl) ?_
    refine vl_nil ?_
    refine v_seq ?_
    refine v_block ?_
    refine v_seq ?_
    refine v_region ?_
    refine vl_val (os_move rfl) ?_
    refine vl_val (os_lss rfl rfl) ?_
    refine vl_val (os_assign rfl) ?_
    refine vl_nil ?_
    refine v_cond_no rfl (by omega) ?_
    obtain ⟨m, hm⟩ : ∃ m, n = m + 4 := ⟨n - 4, by omega⟩
    have e0 : openE zs = if sealL (zs.take m) = zs then 0 else 10 := by unfold openE; rw [if_neg (by omega), show zs.length - 4 = m by omega]
    have hml : (zs.take m).length = m := by rw [List.length_take]; omega
    have hA0 := ha.led (w' := w.drewN 1) ⟨1, rfl⟩
    have ba : Below w.heap.size w ((w.drewN 1).alloc (.cells [Value.slice A m c].toArray 22)) := (led_below (w := w) ⟨1, rfl⟩).alloc (by simp) _
    refine v_seq ?_
    refine v_region_a mixed ?_
    refine va_pure 0 rfl (by kernel_rfl) (by kernel_rfl) (by kernel_rfl) (fun w => (os_move rfl)) ?_
    refine va_pure 1 rfl (by kernel_rfl) (by kernel_rfl) (by kernel_rfl) (fun w => (os_move rfl)) ?_
    refine va_pure 2 rfl (by kernel_rfl) (by kernel_rfl) (by kernel_rfl) (fun w => (os_slice_h Try.underlying22 Try.sizeOf5 rfl rfl (h := m) (by omega) (by omega))) ?_
    refine va_pure 6 rfl (by kernel_rfl) (by kernel_rfl) (by kernel_rfl) (fun w => (os_move rfl)) ?_
    refine va_pure 7 rfl (by kernel_rfl) (by kernel_rfl) (by kernel_rfl) (fun w => (os_move rfl)) ?_
    refine va_pure 8 rfl (by kernel_rfl) (by kernel_rfl) (by kernel_rfl) (fun w => (os_slice_l Try.underlying22 Try.sizeOf5 rfl rfl (i := m) (by omega) (by omega))) ?_
    refine va_one 3 (by kernel_rfl) ?_
    refine vn_val rfl (os_lit Try.underlying23 Try.sizeOf22 Try.zeroValue22 rfl rfl rfl rfl (by decide)) ?_
    refine va_one 4 (by kernel_rfl) ?_
    refine vn_call rfl (sum_Of _ _ _ [zs.take m] _ (rds_lit' _ .u8 _ [(A, m, c, zs.take m)] (by intro x hx; simp only [List.mem_cons, List.not_mem_nil, or_false] at hx; subst hx; exact ⟨hA0.take m, hml.symm, (by dsimp only; omega), by dsimp only; omega⟩)) rfl (by simp) (by intro l hl; simp only [List.mem_cons, List.not_mem_nil, or_false] at hl; subst hl; exact hz.take m)) rfl ?_
    rintro v1 w1 ⟨rfl, b1⟩
    have b01 : Below w.heap.size w w1 := ba.trans (b1.mono ba.size)
    refine va_one 5 (by kernel_rfl) ?_
    refine vn_call rfl (sum_put (crcOf [zs.take m]) w1) rfl ?_
    rintro v2 w2 ⟨⟨g2, rfl⟩, o2, b2⟩
    have b02 : Below w.heap.size w w2 := b01.trans (b2.mono b01.size)
    refine va_one 9 (by kernel_rfl) ?_
    refine vn_call rfl (sl_Equal _ _ _ _ _ _ (le4 (crcOf [zs.take m])) (zs.drop m) w2 (OwnK.rd o2) ((ha.keep b02).sliced (by omega)) rfl (by rw [List.length_drop]; omega) (by simp [le4]) (by omega)) rfl ?_
    rintro v3 w3 ⟨rfl, d3⟩
    have b03 : Below w.heap.size w w3 := b02.trans ((led_below d3).mono b02.size)
    refine va_pure 10 rfl (by kernel_rfl) (by kernel_rfl) (by kernel_rfl) (fun w => (os_not rfl)) ?_
    refine va_pure 11 rfl (by kernel_rfl) (by kernel_rfl) (by kernel_rfl) (fun w => (os_assign rfl)) ?_
    refine va_done (by kernel_rfl) ?_
    refine v_cond rfl (fun hs => ?_) (fun hs => ?_)
    · have hs' : ¬ le4 (crcOf [zs.take m]) = zs.drop m := by simpa using hs
      have e1 : openE zs = 10 := by rw [e0, if_neg (fun h => hs' ((seal_iff zs m).2 h))]
      refine v_seq ?_
      refine v_region ?_
      refine vl_val (os_assign rfl) ?_
      refine vl_val (os_assign rfl) ?_
      refine vl_nil ?_
      refine v_ret ?_
      exact post_ret2 rfl rfl rfl (⟨_, by rw [e1], by unfold openV; rw [e1]; exact Own.nil _ _ _, b03⟩)
    · have hs' : le4 (crcOf [zs.take m]) = zs.drop m := by simpa using hs
      have e1 : openE zs = 0 := by rw [e0, if_pos ((seal_iff zs m).1 hs')]
      have e2 : openV zs = zs.take m := by unfold openV; rw [if_pos e1, show zs.length - 4 = m by omega]
      refine v_skip ?_
      refine v_seq ?_
      refine v_region ?_
      refine vl_val (os_move rfl) ?_
      refine vl_val (os_move rfl) ?_
      refine vl_val (os_slice_h Try.underlying22 Try.sizeOf5 rfl rfl (h := m) (by omega) (by omega)) ?_
      refine vl_call (sl_Clone A m c (zs.take m) w3 ((ha.keep b03).take m) hml.symm (by omega)) rfl ?_
      rintro v4 w4 ⟨o4, b4⟩
      refine vl_val (os_assign rfl) ?_
      refine vl_val (os_assign rfl) ?_
      refine vl_nil ?_
      refine v_ret ?_
      exact post_ret2 rfl rfl rfl (⟨_, by rw [e1], by rw [e2]; exact Own.mono o4 b03.size, b03.trans (b4.mono b03.size)⟩)
end Go.Proofs.Ytpojijnjdlnokaa
