/- Layer 7: the walk of SumEnds. -/
import Derived.Test.YtmbcflanifoofaaSmL
import Derived.Test.YtmbcflanifoofaaSlQ
import Derived.Test.YtmbcflanifoofaaV5
namespace Go.Proofs.Ytmbcflanifoofaa
open Go.RowKit
set_option linter.unusedVariables false

theorem wrap8_bd (z : Int) : 0 ≤ IntKind.u8.wrap z ∧ IntKind.u8.wrap z ≤ 255 := by rw [IntKind.wrap_u8]; omega
theorem wrap32_bd (z : Int) : 0 ≤ IntKind.u32.wrap z ∧ IntKind.u32.wrap z ≤ 4294967295 := by rw [IntKind.wrap_u32]; omega
def IsRowsE (k : IntKind) (l : Nat) (ls : List (List Int)) : Fact := fun v w => ∃ A c, v = .slice A l c ∧ RdS w k A ls
theorem isRowsE_stable (k : IntKind) (l : Nat) (ls : List (List Int)) : Stable LeG (IsRowsE k l ls) := fun v w w' h ⟨A, c, e, r⟩ => ⟨A, c, e, r.keep h⟩
theorem law07_SumDoes0 (B : Option Addr) (m d : Nat) (bs : List Int) (st : Int) (w : World) (hb : Rd w .u8 B bs) (hm : m = bs.length) (hmd : m ≤ d) (hm' : m ≤ 140737488351232) (hbz : AllB bs) (hs : 0 ≤ st ∧ st ≤ 4294967295) :
    Gives Try.prog 8 #[.slice none 0 0, .slice B m d, .int .u32 st] w fun v w' => v = .bool true ∧ Below w.heap.size w w' :=
  law07_SumDoesI none 0 0 [] B m d bs st w RdS.nil rfl (by omega) (by simp) hb hm hmd hm' hbz hs

set_option maxHeartbeats 4000000 in
theorem law07_SumEnds (w : World) : Gives Try.prog 9 #[] w fun v w' => v = .bool true ∧ Below w.heap.size w w' := by
  refine gives_enter Try.call9 Try.func9 rfl rfl rfl (by kernel_rfl) ?_
  refine v_seq ?_
  refine v_region ?_
  refine vl_val (os_assign rfl) ?_
  refine vl_nil ?_
  refine v_seq ?_
  refine v_seq ?_
  refine v_region ?_
  refine vl_val (os_assign rfl) ?_
  refine vl_nil ?_
  refine v_block ?_
  refine v_loop [] (fun (x : Nat) => [(1, .int .i64 x)]) (fun x w' => x ≤ 256 ∧ Below w.heap.size w w') (fun x => 256 - x) (0) trivial ⟨rfl, trivial⟩ (⟨by omega, Below.refl _ _⟩) ?_
  rintro x w1 ⟨hx, b1⟩
  refine v_seq ?_
  refine v_seq ?_
  refine v_region ?_
  refine vl_val (os_move rfl) ?_
  refine vl_val (os_lss rfl rfl) ?_
  refine vl_nil ?_
  refine v_cond_d rfl (fun h => ?_) (fun h => ?_)
  · obtain ⟨z1, hz1, hb1⟩ : ∃ z1, IntKind.u8.wrap (x : Int) = z1 ∧ 0 ≤ z1 ∧ z1 ≤ 255 := ⟨_, rfl, wrap8_bd _⟩
    obtain ⟨z3, hz3, hb3⟩ : ∃ z3, IntKind.u8.wrap ((x : Int) * 3) = z3 ∧ 0 ≤ z3 ∧ z3 ≤ 255 := ⟨_, rfl, wrap8_bd _⟩
    refine v_skip ?_
    refine v_seq ?_
    refine v_block ?_
    refine v_seq ?_
    refine v_region ?_
    refine vl_val (os_move rfl) ?_
    refine vl_val (os_conv Try.underlying3 Try.underlying5 rfl (hz1)) ?_
    refine vl_val (os_lit Try.underlying33 Try.sizeOf5 Try.zeroValue5 rfl rfl rfl rfl (by decide)) ?_
    refine vl_val (os_assign rfl) ?_
    refine vl_nil ?_
    refine v_seq ?_
    refine v_region ?_
    refine vl_val (os_move rfl) ?_
    refine vl_val (os_move rfl) ?_
    refine vl_val (os_muli rfl rfl (by omega)) ?_
    refine vl_val (os_conv Try.underlying3 Try.underlying5 rfl (hz3)) ?_
    refine vl_val (os_lit Try.underlying33 Try.sizeOf5 Try.zeroValue5 rfl rfl rfl rfl (by decide)) ?_
    refine vl_val (os_lit Try.underlying34 Try.sizeOf33 Try.zeroValue33 rfl rfl rfl rfl (by decide)) ?_
    refine vl_val (os_move rfl) ?_
    refine vl_val (os_move rfl) ?_
    refine vl_val (os_conv Try.underlying3 Try.underlying47 rfl (rfl)) ?_
    refine vl_val (os_shl rfl rfl (by omega) (rfl)) ?_
    refine vl_val (os_move rfl) ?_
    refine vl_val (os_conv Try.underlying3 Try.underlying47 rfl (rfl)) ?_
    refine vl_val (os_or rfl rfl (rfl)) ?_
    have rb := rd_alloc w1 .u8 [z1] 5
    have rc := rd_alloc (w1.alloc (.cells [Value.int .u8 z1].toArray 5)) .u8 [z3, 7] 5
    have bc := below_text (w1.alloc (.cells [Value.int .u8 z1].toArray 5)) (.cells [Value.int .u8 z3, .int .u8 7].toArray 5)
    have bl := below_text ((w1.alloc (.cells [Value.int .u8 z1].toArray 5)).alloc (.cells [Value.int .u8 z3, .int .u8 7].toArray 5)) (.cells [Value.slice (some ⟨w1.heap.size, 0, none⟩) 1 1, .slice (some ⟨(w1.alloc (.cells [Value.int .u8 z1].toArray 5)).heap.size, 0, none⟩) 2 2, .slice none 0 0].toArray 33)
    refine vl_call (law07_SumDoesI _ 3 3 [[z1], [z3, 7], []] _ 1 1 [z1] _ _ (rds_lit' _ .u8 _ [(some ⟨w1.heap.size, 0, none⟩, 1, 1, [z1]), (some ⟨(w1.alloc (.cells [Value.int .u8 z1].toArray 5)).heap.size, 0, none⟩, 2, 2, [z3, 7]), (none, 0, 0, [])] (by intro y hy; simp only [List.mem_cons, List.not_mem_nil, or_false] at hy; rcases hy with rfl | rfl | rfl; exact ⟨rb.keep bc, rfl, Nat.le_refl _, by dsimp only; omega⟩; exact ⟨rc, rfl, Nat.le_refl _, by dsimp only; omega⟩; exact ⟨Rd.nil, rfl, by decide, by decide⟩)) rfl (by decide) (by intro l hl z hz; simp at hl; rcases hl with rfl | rfl | rfl <;> simp at hz; (subst hz; exact hb1); (rcases hz with rfl | rfl; exact hb3; omega)) ((rb.keep bc).keep bl) rfl (by decide) (by decide) (by intro z hz; simp at hz; subst hz; exact hb1) (wrap32_bd _)) rfl ?_
    rintro v2 w2 ⟨rfl, b12⟩
    have b2 : Below w.heap.size w w2 := (((b1.alloc b1.size _).alloc (b1.alloc b1.size _).size _).alloc ((b1.alloc b1.size _).alloc (b1.alloc b1.size _).size _).size _).trans (b12.mono ((b1.alloc b1.size _).alloc (b1.alloc b1.size _).size _ |>.alloc ((b1.alloc b1.size _).alloc (b1.alloc b1.size _).size _).size _).size)
    refine vl_val (os_not rfl) ?_
    refine vl_val (os_move rfl) ?_
    refine vl_valg rfl (os_move rfl) ?_
    refine vl_valg rfl (os_conv Try.underlying3 Try.underlying5 rfl (hz1)) ?_
    refine vl_valg rfl (os_move rfl) ?_
    refine vl_valg rfl (os_conv Try.underlying3 Try.underlying5 rfl (hz1)) ?_
    refine vl_valg rfl (os_lit Try.underlying33 Try.sizeOf5 Try.zeroValue5 rfl rfl rfl rfl (by decide)) ?_
    refine vl_valg rfl (os_move rfl) ?_
    refine vl_valg rfl (os_conv Try.underlying3 Try.underlying47 rfl (rfl)) ?_
    refine vl_valg rfl (os_com rfl (rfl)) ?_
    refine vl_callg rfl (law07_SumDoes0 _ 5 5 [0, z1, 0, 0, z1] _ _ (rd_alloc w2 .u8 [0, z1, 0, 0, z1] 5) rfl (by decide) (by decide) (by intro z hz; simp at hz; omega) (wrap32_bd _)) rfl ?_
    rintro v3 w3 ⟨rfl, b23⟩
    refine vl_valg rfl (os_not rfl) ?_
    refine vl_val (os_pick_f rfl rfl) ?_
    refine vl_nil ?_
    refine v_cond_f rfl ?_
    refine v_skip ?_
    refine v_region ?_
    refine vl_val (os_move rfl) ?_
    refine vl_val (os_addi rfl rfl (by omega)) ?_
    refine vl_val (os_assign rfl) ?_
    refine vl_nil ?_
    exact ⟨x + 1, trivial, ⟨rfl, trivial⟩, ⟨by omega, (b2.alloc b2.size _).trans (b23.mono (b2.alloc b2.size _).size)⟩, by dsimp only; omega⟩
  · obtain ⟨W1, hW1⟩ : ∃ W1, W1 = w1 := ⟨_, rfl⟩
    refine v_exit ?_
    refine v_seq ?_
    refine v_region ?_
    refine vl_val (os_assign rfl) ?_
    refine vl_nil ?_
    refine v_seq ?_
    refine v_seq ?_
    refine v_region ?_
    refine vl_val (os_assign rfl) ?_
    refine vl_nil ?_
    refine v_block ?_
    refine v_loop2 [] (fun (v : Value) (n : Nat) => [(3, v), (4, .int .i64 n)]) (fun v n w' => n ≤ 70 ∧ Below w.heap.size w w' ∧ ∃ zs, zs.length = n ∧ AllB zs ∧ OwnK w' w.heap.size 5 .u8 v zs) (fun v n => 70 - n) (.slice none 0 0) (0) trivial ⟨rfl, rfl, trivial⟩ (⟨by omega, b1, [], rfl, (by intro z hz; cases hz), Own.nil _ _ _⟩) ?_
    rintro v n w2 ⟨hn, b2, zs, hzl, hzb, ho⟩
    refine v_seq ?_
    refine v_seq ?_
    refine v_region ?_
    refine vl_val (os_move rfl) ?_
    refine vl_val (os_lss rfl rfl) ?_
    refine vl_nil ?_
    refine v_cond_d rfl (fun h2 => ?_) (fun h2 => ?_)
    · obtain ⟨A, c, rfl, hc, hm, hr, _⟩ := OwnK.form ho
      have hsl := sealL_len zs
      have hsb := sealL_B hzb
      refine v_skip ?_
      refine v_seq ?_
      refine v_block ?_
      refine v_seq ?_
      refine v_region ?_
      refine vl_val (os_move rfl) ?_
      refine vl_call (r7_Seal A _ c zs w2 hr rfl (by omega) hzb) rfl ?_
      rintro v3 w3 ⟨o3, b23⟩
      obtain ⟨A3, c3, rfl, hc3, hm3, r3, _⟩ := OwnK.form o3
      have b3 : Below w.heap.size w w3 := b2.trans (b23.mono b2.size)
      have hr3 := hr.keep b23
      obtain ⟨n2, hn2⟩ : ∃ n2, n / 2 = n2 := ⟨_, rfl⟩
      refine vl_val (os_assign rfl) ?_
      refine vl_nil ?_
      refine v_seq ?_
      refine v_seq ?_
      refine v_region_t LeG _ mixed (by kernel_rfl) lee_g (leg_start _) ?_
      refine vt_val (fun w hw => os_move rfl) ?_
      refine vt_val (fun w hw => os_move rfl) ?_
      refine vt_val (fun w hw => os_quoi rfl rfl (by omega)) ?_
      refine vt_val (fun w hw => os_slice_h Try.underlying33 Try.sizeOf5 rfl rfl (h := n2) (by omega) (by omega)) ?_
      refine vt_val (fun w hw => os_move rfl) ?_
      refine vt_val (fun w hw => os_move rfl) ?_
      refine vt_val (fun w hw => os_quoi rfl rfl (by omega)) ?_
      refine vt_val (fun w hw => os_slice_l Try.underlying33 Try.sizeOf5 rfl rfl (i := n2) (by omega) (by omega)) ?_
      refine vt_new (IsRowsE .u8 2 [zs.take n2, zs.drop n2]) (isRowsE_stable _ _ _) (fun w hw => os_lit Try.underlying34 Try.sizeOf33 Try.zeroValue33 rfl rfl rfl rfl (by decide)) (fun w hw => ⟨below_text _ _, _, _, rfl, rds_lit' _ .u8 _ [(A, n2, c, zs.take n2), ((if c = n2 then A else A.map (·.add (n2 * 1))), zs.length - n2, c - n2, zs.drop n2)] (by intro x hx; simp only [List.mem_cons, List.not_mem_nil, or_false] at hx; rcases hx with rfl | rfl; exact ⟨(hr3.keep hw).take n2, by simp; omega, by dsimp only; omega, by dsimp only; omega⟩; exact ⟨(hr3.keep hw).sliced (c := c) (i := n2) (by omega), by simp, by dsimp only; omega, by dsimp only; omega⟩)⟩) ?_
      refine vt_val (fun w hw => os_move rfl) ?_
      refine vt_calls [(57, _)] (.bool true) ⟨⟨rfl, rfl⟩, trivial⟩ (fun w hw => fun u0 ⟨A0, c0, e0, x0⟩ => ⟨_, rfl, by subst e0; exact law07_SumDoesI A0 2 c0 [zs.take n2, zs.drop n2] A3 _ c3 (sealL zs) 0 w x0 rfl (by decide) (by intro l hl; simp at hl; rcases hl with rfl | rfl; exact hzb.take _; exact hzb.drop _) (r3.keep hw) rfl hc3 (by omega) hsb (by omega)⟩) ?_
      refine vt_val (fun w hw => os_not rfl) ?_
      refine vt_val (fun w hw => os_move rfl) ?_
      refine vt_valg rfl (fun w hw => os_move rfl) ?_
      refine vt_valg rfl (fun w hw => os_move rfl) ?_
      refine vt_valg rfl (fun w hw => os_len Try.underlying33 rfl) ?_
      refine vt_valg rfl (fun w hw => os_subi rfl rfl (by omega)) ?_
      refine vt_valg rfl (fun w hw => os_slice_h Try.underlying33 Try.sizeOf5 rfl rfl (h := zs.length + 3) (by omega) (by omega)) ?_
      refine vt_callg rfl (v := .bool true) (fun w hw => law07_SumDoes0 A3 (zs.length + 3) c3 ((sealL zs).take (zs.length + 3)) 5 w ((r3.keep hw).take _) (by simp; omega) (by omega) (by omega) (hsb.take _) (by omega)) rfl ?_
      refine vt_valg rfl (fun w hw => os_not rfl) ?_
      refine vt_val (fun w hw => os_pick_f rfl rfl) ?_
      refine vt_val (fun w hw => os_move rfl) ?_
      refine vt_valg rfl (fun w hw => os_move rfl) ?_
      refine vt_valg rfl (fun w hw => os_move rfl) ?_
      refine vt_valg rfl (fun w hw => os_min rfl rfl) ?_
      refine vt_valg rfl (fun w hw => os_slice_h Try.underlying33 Try.sizeOf5 rfl rfl (h := min n 5) (by omega) (by omega)) ?_
      refine vt_callg rfl (v := .bool true) (fun w hw => law07_SumDoes0 A3 (min n 5) c3 ((sealL zs).take (min n 5)) 9 w ((r3.keep hw).take _) (by simp; omega) (by omega) (by omega) (hsb.take _) (by omega)) rfl ?_
      obtain ⟨zn, hzn, hbn⟩ : ∃ zn, IntKind.u8.wrap (IntKind.i64.wrap (IntKind.i64.wrap ((n : Int) * n) * 7)) = zn ∧ 0 ≤ zn ∧ zn ≤ 255 := ⟨_, rfl, wrap8_bd _⟩
      refine vt_valg rfl (fun w hw => os_not rfl) ?_
      refine vt_val (fun w hw => os_pick_f rfl rfl) ?_
      refine vt_nil (fun Hw H => ?_)
      intro u1 hu1
      refine v_cond_f rfl ?_
      refine v_skip ?_
      refine v_region ?_
      refine vl_val (os_move rfl) ?_
      refine vl_val (os_move rfl) ?_
      refine vl_val (os_move rfl) ?_
      refine vl_val (os_mul rfl rfl (rfl)) ?_
      refine vl_val (os_mul rfl rfl (rfl)) ?_
      refine vl_val (os_conv Try.underlying3 Try.underlying5 rfl (hzn)) ?_
      have b4 := b3.trans (H.mono b3.size)
      refine vl_val (os_lit Try.underlying33 Try.sizeOf5 Try.zeroValue5 rfl rfl rfl rfl (by decide)) ?_
      refine vl_some (ot_append Try.underlying33 ti_u8 rfl rfl rfl (Own.alloc (Own.keepAll ho (b23.trans (H.mono b23.size))) (.cells [Value.int .u8 zn].toArray 5)) (rdc_alloc _ [Value.int .u8 zn] _) rfl (by simp [Value.oneCell']) (by simp; omega) (by simp [maxLen]; omega) (b4.alloc b4.size _).size) ?_
      rintro v5 w5 ⟨so, sg⟩
      refine vl_val (os_assign rfl) ?_
      refine vl_nil ?_
      refine v_region ?_
      refine vl_val (os_move rfl) ?_
      refine vl_val (os_addi rfl rfl (by omega)) ?_
      refine vl_val (os_assign rfl) ?_
      refine vl_nil ?_
      exact ⟨⟨v5, n + 1⟩, trivial, ⟨rfl, rfl, trivial⟩, ⟨by omega, Own.below (b4.alloc b4.size (.cells [Value.int .u8 zn].toArray 5)) (Own.alloc (Own.keepAll ho (b23.trans (H.mono b23.size))) _) sg (Nat.le_refl _) (b4.alloc b4.size _).size, zs ++ [zn], by simp [hzl], (by intro z hz; rcases List.mem_append.1 hz with h1 | h1; exact hzb z h1; rw [List.mem_singleton.1 h1]; exact hbn), by simpa [OwnK] using so⟩, by dsimp only; omega⟩
    · obtain rfl : n = 70 := by omega
      obtain ⟨A, c, rfl, hc, hm, hr, _⟩ := OwnK.form ho
      rw [hzl] at hc ⊢
      refine v_exit ?_
      refine v_seq ?_
      refine v_region ?_
      refine vl_val (os_move rfl) ?_
      refine vl_val (os_slice_h Try.underlying33 Try.sizeOf5 rfl rfl (h := 9) (by omega) (by omega)) ?_
      obtain ⟨ys, hys⟩ : ∃ ys, ys = zs.take 9 := ⟨_, rfl⟩
      have hyl : ys.length = 9 := by rw [hys, List.length_take]; omega
      have hyb : AllB ys := by rw [hys]; exact hzb.take _
      have hsl := sealL_len ys
      have hsb := sealL_B hyb
      refine vl_call (r7_Seal A 9 c ys w2 (by rw [hys]; exact hr.take 9) hyl.symm (by omega) hyb) rfl ?_
      rintro v3 w3 ⟨o3, b23⟩
      obtain ⟨A3, c3, rfl, hc3, hm3, r3, _⟩ := OwnK.form o3
      have b3 : Below w.heap.size w w3 := b2.trans (b23.mono b2.size)
      refine vl_val (os_assign rfl) ?_
      refine vl_nil ?_
      refine v_seq ?_
      refine v_seq ?_
      refine v_region ?_
      refine vl_val (os_assign rfl) ?_
      refine vl_nil ?_
      refine v_block ?_
      refine v_loop [(6, _)] (fun (i : Nat) => [(7, .int .i64 i)]) (fun i w' => i ≤ 104 ∧ Below w3.heap.size w3 w') (fun i => 104 - i) (0) ⟨rfl, trivial⟩ ⟨rfl, trivial⟩ (⟨by omega, Below.refl _ _⟩) ?_
      rintro i w4 ⟨hi, b34⟩
      refine v_seq ?_
      refine v_seq ?_
      refine v_region ?_
      refine vl_val (os_move rfl) ?_
      refine vl_val (os_move rfl) ?_
      refine vl_val (os_len Try.underlying33 rfl) ?_
      refine vl_val (os_muli rfl rfl (by omega)) ?_
      refine vl_val (os_lss rfl rfl) ?_
      refine vl_nil ?_
      refine v_cond_d rfl (fun h5 => ?_) (fun h5 => ?_)
      · have s0 := own_alloc w4 [] 5 (Nat.le_refl w4.heap.size) (by simp [maxLen])
        have s0b : Below w4.heap.size w4 (w4.alloc (.cells #[] 5)) := (Below.refl _ w4).alloc (Nat.le_refl _) _
        refine v_skip ?_
        refine v_seq ?_
        refine v_block ?_
        refine v_seq ?_
        refine v_region ?_
        refine vl_val (os_lit Try.underlying33 Try.sizeOf5 Try.zeroValue5 rfl rfl rfl rfl (by decide)) ?_
        refine vl_val (os_move rfl) ?_
        refine vl_some (ot_append Try.underlying33 ti_u8 rfl rfl rfl s0 ((r3.keep b34).keep s0b).toC (by simp) (ints8 _) (by simp; omega) (by simp [maxLen]; omega) (by simp)) ?_
        rintro v6 w6 ⟨so, sg⟩
        have b46 := s0.below s0b sg (Nat.le_refl _) (by simp)
        have o6 : OwnK w6 w4.heap.size 5 .u8 v6 (sealL ys) := by simpa [OwnK] using so
        obtain ⟨g, c6, rfl, hg, hg', hc6, _⟩ := o6.row (by omega)
        obtain ⟨q, r, hr8, hq⟩ : ∃ q r, r < 8 ∧ i = 8 * q + r := ⟨i / 8, i % 8, by omega, by omega⟩
        have hql : q < (sealL ys).length := by omega
        have hzq := hsb.at_ q
        have hcell : World.cell? (w6.drewN 1) ⟨g, 0 + q, none⟩ = some (.int .u8 ((sealL ys).getD q 0)) := by rw [Nat.zero_add]; exact OwnK.cell (Own.led o6 ⟨1, rfl⟩ : OwnK (w6.drewN 1) _ _ _ _ _) hql
        refine vl_val (os_assign rfl) ?_
        refine vl_nil ?_
        refine v_seq ?_
        refine v_region_a mixed ?_
        refine va_pure 0 rfl (by kernel_rfl) (by kernel_rfl) (by kernel_rfl) (fun w => (os_move rfl)) ?_
        refine va_pure 1 rfl (by kernel_rfl) (by kernel_rfl) (by kernel_rfl) (fun w => (os_move rfl)) ?_
        refine va_pure 2 rfl (by kernel_rfl) (by kernel_rfl) (by kernel_rfl) (fun w => (os_quoi rfl rfl (by omega))) ?_
        refine va_pure 3 rfl (by kernel_rfl) (by kernel_rfl) (by kernel_rfl) (fun w => (os_move rfl)) ?_
        refine va_pure 4 rfl (by kernel_rfl) (by kernel_rfl) (by kernel_rfl) (fun w => (os_move rfl)) ?_
        refine va_pure 5 rfl (by kernel_rfl) (by kernel_rfl) (by kernel_rfl) (fun w => (os_quoi rfl rfl (by omega))) ?_
        refine va_pure 6 rfl (by kernel_rfl) (by kernel_rfl) (by kernel_rfl) (fun w => (os_ix Try.underlying33 Try.sizeOf5 rfl rfl (i := q) (by omega) (by omega))) ?_
        refine va_pure 8 rfl (by kernel_rfl) (by kernel_rfl) (by kernel_rfl) (fun w => (os_move rfl)) ?_
        refine va_pure 9 rfl (by kernel_rfl) (by kernel_rfl) (by kernel_rfl) (fun w => (os_remi rfl rfl (by omega))) ?_
        refine va_pure 10 rfl (by kernel_rfl) (by kernel_rfl) (by kernel_rfl) (fun w => (os_shl rfl rfl (by omega) (bit8 r hr8 _ (by omega)))) ?_
        refine va_one 7 (by kernel_rfl) ?_
        refine vn_val rfl (os_load Try.isAgg5 rfl (hcell)) ?_
        refine va_pure 11 rfl (by kernel_rfl) (by kernel_rfl) (by kernel_rfl) (fun w => (os_xor8 (BitVec.ofInt 8 ((sealL ys).getD q 0)) (1#8 <<< r) rfl (u8_int hzq.1 hzq.2).symm rfl rfl)) ?_
        refine va_pure 12 rfl (by kernel_rfl) (by kernel_rfl) (by kernel_rfl) (fun w => (os_ix Try.underlying33 Try.sizeOf5 rfl rfl (i := q) (by omega) (by omega))) ?_
        refine va_one 13 (by kernel_rfl) ?_
        refine vn_unit rfl (ou_store Try.sizeOf5 rfl rfl rfl (hcell) ((Own.free (Own.led o6 ⟨1, rfl⟩) _))) ?_
        have o7 : OwnK (((w6.drewN 1)).setCell ⟨g, 0 + q, none⟩ (.int .u8 (flipZ ((sealL ys).getD q 0) r))) w4.heap.size 5 .u8 (.slice (some ⟨g, 0, none⟩) (sealL ys).length c6) ((sealL ys).set q (flipZ ((sealL ys).getD q 0) r)) := by rw [Nat.zero_add]; exact OwnK.set (Own.led o6 ⟨1, rfl⟩ : OwnK (w6.drewN 1) _ _ _ _ _) q _
        have b47 : Below w4.heap.size w4 (((w6.drewN 1)).setCell ⟨g, 0 + q, none⟩ (.int .u8 (flipZ ((sealL ys).getD q 0) r))) := below_set (b46.trans ((led_below ⟨1, rfl⟩).mono b46.size)) hg _ _
        refine va_done (by kernel_rfl) ?_
        refine v_seq ?_
        refine v_region ?_
        refine vl_val (os_move rfl) ?_
        refine vl_call (law07_SumDoes0 _ (sealL ys).length c6 ((sealL ys).set q (flipZ ((sealL ys).getD q 0) r)) 0 _ (OwnK.rd o7) (by simp) (by omega) (by omega) (hsb.set q (flipZ_bd _ _)) (by omega)) rfl ?_
        rintro v8 w8 ⟨rfl, b78⟩
        refine vl_val (os_not rfl) ?_
        refine vl_nil ?_
        refine v_cond_f rfl ?_
        refine v_skip ?_
        refine v_region ?_
        refine vl_val (os_move rfl) ?_
        refine vl_val (os_addi rfl rfl (by omega)) ?_
        refine vl_val (os_assign rfl) ?_
        refine vl_nil ?_
        exact ⟨i + 1, ⟨rfl, trivial⟩, ⟨rfl, trivial⟩, ⟨by omega, b34.trans ((b47.trans (b78.mono b47.size)).mono b34.size)⟩, by dsimp only; omega⟩
      · have b4 := b3.trans (b34.mono b3.size)
        refine v_exit ?_
        refine v_seq ?_
        refine v_region ?_
        refine vl_call (law07_SumDoes0 none 0 0 [] 0 w4 Rd.nil rfl (by omega) (by omega) (by intro z hz; cases hz) (by omega)) rfl ?_
        rintro v5 w5 ⟨rfl, b45⟩
        have b5 := b4.trans (b45.mono b4.size)
        refine vl_val (os_move rfl) ?_
        refine vl_valg rfl (os_lit Try.underlying33 Try.sizeOf5 Try.zeroValue5 rfl rfl rfl rfl (by decide)) ?_
        refine vl_callg rfl (law07_SumDoes0 _ 4 4 [0, 0, 0, 0] 2147483648 _ (rd_alloc w5 .u8 [0, 0, 0, 0] 5) rfl (by decide) (by decide) (by intro z hz; simp at hz; omega) (by omega)) rfl ?_
        rintro v6 w6 ⟨rfl, b56⟩
        have b6 := (b5.alloc b5.size (.cells [Value.int .u8 0, .int .u8 0, .int .u8 0, .int .u8 0].toArray 5)).trans (b56.mono (b5.alloc b5.size _).size)
        refine vl_val (os_pick_t rfl rfl) ?_
        refine vl_val (os_move rfl) ?_
        refine vl_valg rfl (os_lit Try.underlying33 Try.sizeOf5 Try.zeroValue5 rfl rfl rfl rfl (by decide)) ?_
        refine vl_valg rfl (os_lit Try.underlying34 Try.sizeOf33 Try.zeroValue33 rfl rfl rfl rfl (by decide)) ?_
        refine vl_valg rfl (os_lit Try.underlying33 Try.sizeOf5 Try.zeroValue5 rfl rfl rfl rfl (by decide)) ?_
        refine vl_callg rfl (law07_SumDoesI _ 2 2 [[], []] _ 3 3 [1, 2, 3] 1 _ (RdS.keep (rds_lit' _ .u8 _ [(some ⟨w6.heap.size, 0, none⟩, 0, 0, []), (none, 0, 0, [])] (by intro y hy; simp only [List.mem_cons, List.not_mem_nil, or_false] at hy; rcases hy with rfl | rfl; exact ⟨rd_alloc _ .u8 [] _, rfl, Nat.le_refl _, by dsimp only; omega⟩; exact ⟨Rd.nil, rfl, by decide, by decide⟩)) (below_text _ _)) rfl (by decide) (by intro l hl z hz; simp at hl; subst hl; cases hz) (rd_alloc _ .u8 [1, 2, 3] 5) rfl (by decide) (by decide) (by intro z hz; simp at hz; omega) (by omega)) rfl ?_
        rintro v7 w7 ⟨rfl, b67⟩
        have b7 : Below w.heap.size w w7 := (((b6.alloc b6.size _).alloc (b6.alloc b6.size _).size _).alloc ((b6.alloc b6.size _).alloc (b6.alloc b6.size _).size _).size _).trans (b67.mono ((b6.alloc b6.size _).alloc (b6.alloc b6.size _).size _ |>.alloc ((b6.alloc b6.size _).alloc (b6.alloc b6.size _).size _).size _).size)
        refine vl_val (os_pick_t rfl rfl) ?_
        refine vl_val (os_move rfl) ?_
        refine vl_callg rfl (law07_awake w7) rfl ?_
        rintro v8 w8 ⟨rfl, b78⟩
        refine vl_val (os_pick_t rfl rfl) ?_
        refine vl_val (os_assign rfl) ?_
        refine vl_nil ?_
        refine v_ret ?_
        exact post_ret rfl rfl (⟨rfl, b7.trans (b78.mono b7.size)⟩)
end Go.Proofs.Ytmbcflanifoofaa
