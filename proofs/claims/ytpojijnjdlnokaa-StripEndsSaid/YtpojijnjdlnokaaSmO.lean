/- Layer 7: what is sealed, opened. -/
import Derived.Test.YtpojijnjdlnokaaSm
import Derived.Test.YtpojijnjdlnokaaStr
import Derived.Test.YtpojijnjdlnokaaV4
namespace Go.Proofs.Ytpojijnjdlnokaa
open Go.RowKit
set_option linter.unusedVariables false

def openE (zs : List Int) : Int := if zs.length < 4 then 4 else if sealL (zs.take (zs.length - 4)) = zs then 0 else 10
def openV (zs : List Int) : List Int := if openE zs = 0 then zs.take (zs.length - 4) else []
theorem sealL_len (zs : List Int) : (sealL zs).length = zs.length + 4 := by simp [sealL, le4]
theorem sealL_B {zs : List Int} (h : AllB zs) : AllB (sealL zs) := fun z hz => by
  rcases List.mem_append.1 hz with h1 | h1
  · exact h z h1
  · exact le4_B _ z h1
theorem AllB.take {zs : List Int} (h : AllB zs) (n : Nat) : AllB (zs.take n) := fun z hz => h z (List.mem_of_mem_take hz)
theorem AllB.drop {zs : List Int} (h : AllB zs) (n : Nat) : AllB (zs.drop n) := fun z hz => h z (List.mem_of_mem_drop hz)
theorem seal_iff (zs : List Int) (n : Nat) : (le4 (crcOf [zs.take n]) = zs.drop n) ↔ sealL (zs.take n) = zs := by
  unfold sealL
  constructor
  · intro h; rw [h, List.take_append_drop]
  · intro h
    have h2 : zs.take n ++ le4 (crcOf [zs.take n]) = zs.take n ++ zs.drop n := by rw [h, List.take_append_drop]
    exact List.append_cancel_left h2
set_option maxHeartbeats 1000000 in
theorem r7_Open (A : Option Addr) (n c : Nat) (zs : List Int) (w : World) (ha : Rd w .u8 A zs) (hn : n = zs.length) (hc : n ≤ c) (hn' : n ≤ 100000000) (hz : AllB zs) :
    Gives Try.prog 140 #[.slice A n c] w fun v w' => ∃ s, v = .tuple #[s, .int .i64 (openE zs)] ∧ OwnK w' w.heap.size 5 .u8 s (openV zs) ∧ Below w.heap.size w w' := by
  refine gives_enter Try.call140 Try.func140 rfl rfl rfl (by kernel_rfl) ?_
  rcases Nat.lt_or_ge n 4 with h | h
  · refine v_seq ?_
    refine v_region ?_
    refine vl_val (os_assign rfl) ?_
    refine vl_val (os_assign rfl) ?_
    refine vl_nil ?_
    refine v_seq ?_
    refine v_region ?_
    refine vl_val (os_move rfl) ?_
    refine vl_val (os_len Try.underlying22 rfl) ?_
    refine vl_val (os_subi rfl rfl (by omega)) ?_
    refine vl_val (os_assign rfl) ?_
    refine vl_nil ?_
    refine v_seq ?_
    refine v_seq ?_
    refine v_region ?_
    refine vl_val (os_move rfl) ?_
    refine vl_val (os_lss rfl rfl) ?_
    refine vl_nil ?_
    refine v_cond_yes rfl (by omega) ?_
    have e1 : openE zs = 4 := by unfold openE; rw [if_pos (by omega)]
    refine v_seq ?_
    refine v_region ?_
    refine vl_val (os_assign rfl) ?_
    refine vl_val (os_assign rfl) ?_
    refine vl_nil ?_
    refine v_ret ?_
    exact post_ret2 rfl rfl rfl (⟨_, by rw [e1], by unfold openV; rw [e1]; exact Own.nil _ _ _, Below.refl _ _⟩)
  · refine v_seq ?_
    refine v_region ?_
    refine vl_val (os_assign rfl) ?_
    refine vl_val (os_assign rfl) ?_
    refine vl_nil ?_
    refine v_seq ?_
    refine v_region ?_
    refine vl_val (os_move rfl) ?_
    refine vl_val (os_len Try.underlying22 rfl) ?_
    refine vl_val (os_subi rfl rfl (by omega)) ?_
    refine vl_val (os_assign rfl) ?_
    refine vl_nil ?_
    refine v_seq ?_
    refine v_seq ?_
    refine v_region ?_
    refine vl_val (os_move rfl) ?_
    refine vl_val (os_lss rfl rfl) ?_
    refine vl_nil ?_
    refine v_cond_no rfl (by omega) ?_
    obtain ⟨m, hm⟩ : ∃ m, n = m + 4 := ⟨n - 4, by omega⟩
    have e0 : openE zs = if sealL (zs.take m) = zs then 0 else 10 := by unfold openE; rw [if_neg (by omega), show zs.length - 4 = m by omega]
    have hneq : (!((strOfNums (sealL (zs.take m))).toList == (strOfNums zs).toList)) = decide (sealL (zs.take m) ≠ zs) := by
      rw [ByteArray.toList_eq, ByteArray.toList_eq, strOfNums_data, strOfNums_data, str_eq _ _ (sealL_B (hz.take m)) hz, ← decide_not]
    refine v_skip ?_
    refine v_seq ?_
    refine v_seq ?_
    refine v_region_a mixed ?_
    refine va_pure 0 rfl (by kernel_rfl) (by kernel_rfl) (by kernel_rfl) (fun w => (os_move rfl)) ?_
    refine va_pure 1 rfl (by kernel_rfl) (by kernel_rfl) (by kernel_rfl) (fun w => (os_move rfl)) ?_
    refine va_pure 2 rfl (by kernel_rfl) (by kernel_rfl) (by kernel_rfl) (fun w => (os_slice_h Try.underlying22 Try.sizeOf5 rfl rfl (h := m) (by omega) (by omega))) ?_
    refine va_pure 5 rfl (by kernel_rfl) (by kernel_rfl) (by kernel_rfl) (fun w => (os_move rfl)) ?_
    refine va_two 3 6 (by kernel_rfl) ?_ ?_
    · refine vn_call rfl (r7_Seal A m c (zs.take m) _ ((ha.led ⟨1, rfl⟩).take m) (by rw [List.length_take]; omega) (by omega) (hz.take m)) rfl ?_
      rintro v1 w1 ⟨ho, hb⟩
      obtain ⟨A1, c1, rfl, _, _, r1, _⟩ := OwnK.form ho
      have hb1 : Below w.heap.size w w1 := (led_below (w := w) ⟨1, rfl⟩).trans hb
      refine va_two 4 6 (by kernel_rfl) ?_ ?_
      · refine vn_val rfl (os_string Try.underlying22 Try.underlying5 Try.underlying9 rfl r1 rfl (by rw [sealL_len]; omega)) ?_
        refine va_one 6 (by kernel_rfl) ?_
        refine vn_val rfl (os_string Try.underlying22 Try.underlying5 Try.underlying9 rfl (by first | exact ha.keep hb1 | exact ha.led ⟨1, rfl⟩) hn.symm (by omega)) ?_
        refine va_pure 7 rfl (by kernel_rfl) (by kernel_rfl) (by kernel_rfl) (fun w => (os_is (os_neq_string rfl rfl) hneq)) ?_
        refine va_done (by kernel_rfl) ?_
        refine v_cond_d rfl (fun hs => ?_) (fun hs => ?_)
        · have e1 : openE zs = 10 := by rw [e0, if_neg hs]
          refine v_seq ?_
          refine v_region ?_
          refine vl_val (os_assign rfl) ?_
          refine vl_val (os_assign rfl) ?_
          refine vl_nil ?_
          refine v_ret ?_
          exact post_ret2 rfl rfl rfl (⟨_, by rw [e1], by unfold openV; rw [e1]; exact Own.nil _ _ _, hb1⟩)
        · have e1 : openE zs = 0 := by rw [e0, if_pos (by simpa using hs)]
          have e2 : openV zs = zs.take m := by unfold openV; rw [if_pos e1, show zs.length - 4 = m by omega]
          have s0 := own_alloc w1 [] 5 (Nat.le_refl w1.heap.size) (by simp [maxLen])
          have s0b : Below w1.heap.size w1 (w1.alloc (.cells #[] 5)) := (Below.refl _ w1).alloc (Nat.le_refl _) _
          refine v_skip ?_
          refine v_seq ?_
          refine v_region ?_
          refine vl_val (os_lit Try.underlying22 Try.sizeOf5 Try.zeroValue5 rfl rfl rfl rfl (by decide)) ?_
          refine vl_val (os_move rfl) ?_
          refine vl_val (os_move rfl) ?_
          refine vl_val (os_slice_h Try.underlying22 Try.sizeOf5 rfl rfl (h := m) (by omega) (by omega)) ?_
          refine vl_some (ot_append Try.underlying22 ti_u8 rfl rfl rfl s0 (((ha.keep hb1).take m).keep s0b).toC (by simp; omega) (ints8 _) (by simp; omega) (by simp [maxLen]; omega) (by simp)) ?_
          rintro v6 w6 ⟨so, sg⟩
          refine vl_val (os_assign rfl) ?_
          refine vl_val (os_assign rfl) ?_
          refine vl_nil ?_
          refine v_ret ?_
          exact post_ret2 rfl rfl rfl (⟨_, by rw [e1], by rw [e2]; exact Own.mono (by simpa [OwnK] using so) hb1.size, hb1.trans ((s0.below s0b sg (Nat.le_refl _) (by simp)).mono hb1.size)⟩)
      · refine vn_val rfl (os_string Try.underlying22 Try.underlying5 Try.underlying9 rfl (by first | exact ha.keep hb1 | exact ha.led ⟨1, rfl⟩) hn.symm (by omega)) ?_
        refine va_one 4 (by kernel_rfl) ?_
        refine vn_val rfl (os_string Try.underlying22 Try.underlying5 Try.underlying9 rfl r1 rfl (by rw [sealL_len]; omega)) ?_
        refine va_pure 7 rfl (by kernel_rfl) (by kernel_rfl) (by kernel_rfl) (fun w => (os_is (os_neq_string rfl rfl) hneq)) ?_
        refine va_done (by kernel_rfl) ?_
        refine v_cond_d rfl (fun hs => ?_) (fun hs => ?_)
        · have e1 : openE zs = 10 := by rw [e0, if_neg hs]
          refine v_seq ?_
          refine v_region ?_
          refine vl_val (os_assign rfl) ?_
          refine vl_val (os_assign rfl) ?_
          refine vl_nil ?_
          refine v_ret ?_
          exact post_ret2 rfl rfl rfl (⟨_, by rw [e1], by unfold openV; rw [e1]; exact Own.nil _ _ _, hb1⟩)
        · have e1 : openE zs = 0 := by rw [e0, if_pos (by simpa using hs)]
          have e2 : openV zs = zs.take m := by unfold openV; rw [if_pos e1, show zs.length - 4 = m by omega]
          have s0 := own_alloc w1 [] 5 (Nat.le_refl w1.heap.size) (by simp [maxLen])
          have s0b : Below w1.heap.size w1 (w1.alloc (.cells #[] 5)) := (Below.refl _ w1).alloc (Nat.le_refl _) _
          refine v_skip ?_
          refine v_seq ?_
          refine v_region ?_
          refine vl_val (os_lit Try.underlying22 Try.sizeOf5 Try.zeroValue5 rfl rfl rfl rfl (by decide)) ?_
          refine vl_val (os_move rfl) ?_
          refine vl_val (os_move rfl) ?_
          refine vl_val (os_slice_h Try.underlying22 Try.sizeOf5 rfl rfl (h := m) (by omega) (by omega)) ?_
          refine vl_some (ot_append Try.underlying22 ti_u8 rfl rfl rfl s0 (((ha.keep hb1).take m).keep s0b).toC (by simp; omega) (ints8 _) (by simp; omega) (by simp [maxLen]; omega) (by simp)) ?_
          rintro v6 w6 ⟨so, sg⟩
          refine vl_val (os_assign rfl) ?_
          refine vl_val (os_assign rfl) ?_
          refine vl_nil ?_
          refine v_ret ?_
          exact post_ret2 rfl rfl rfl (⟨_, by rw [e1], by rw [e2]; exact Own.mono (by simpa [OwnK] using so) hb1.size, hb1.trans ((s0.below s0b sg (Nat.le_refl _) (by simp)).mono hb1.size)⟩)
    · refine vn_val rfl (os_string Try.underlying22 Try.underlying5 Try.underlying9 rfl (by first | exact ha.keep hb1 | exact ha.led ⟨1, rfl⟩) hn.symm (by omega)) ?_
      refine va_one 3 (by kernel_rfl) ?_
      refine vn_call rfl (r7_Seal A m c (zs.take m) _ ((ha.led ⟨1, rfl⟩).take m) (by rw [List.length_take]; omega) (by omega) (hz.take m)) rfl ?_
      rintro v1 w1 ⟨ho, hb⟩
      obtain ⟨A1, c1, rfl, _, _, r1, _⟩ := OwnK.form ho
      have hb1 : Below w.heap.size w w1 := (led_below (w := w) ⟨1, rfl⟩).trans hb
      refine va_one 4 (by kernel_rfl) ?_
      refine vn_val rfl (os_string Try.underlying22 Try.underlying5 Try.underlying9 rfl r1 rfl (by rw [sealL_len]; omega)) ?_
      refine va_pure 7 rfl (by kernel_rfl) (by kernel_rfl) (by kernel_rfl) (fun w => (os_is (os_neq_string rfl rfl) hneq)) ?_
      refine va_done (by kernel_rfl) ?_
      refine v_cond_d rfl (fun hs => ?_) (fun hs => ?_)
      · have e1 : openE zs = 10 := by rw [e0, if_neg hs]
        refine v_seq ?_
        refine v_region ?_
        refine vl_val (os_assign rfl) ?_
        refine vl_val (os_assign rfl) ?_
        refine vl_nil ?_
        refine v_ret ?_
        exact post_ret2 rfl rfl rfl (⟨_, by rw [e1], by unfold openV; rw [e1]; exact Own.nil _ _ _, hb1⟩)
      · have e1 : openE zs = 0 := by rw [e0, if_pos (by simpa using hs)]
        have e2 : openV zs = zs.take m := by unfold openV; rw [if_pos e1, show zs.length - 4 = m by omega]
        have s0 := own_alloc w1 [] 5 (Nat.le_refl w1.heap.size) (by simp [maxLen])
        have s0b : Below w1.heap.size w1 (w1.alloc (.cells #[] 5)) := (Below.refl _ w1).alloc (Nat.le_refl _) _
        refine v_skip ?_
        refine v_seq ?_
        refine v_region ?_
        refine vl_val (os_lit Try.underlying22 Try.sizeOf5 Try.zeroValue5 rfl rfl rfl rfl (by decide)) ?_
        refine vl_val (os_move rfl) ?_
        refine vl_val (os_move rfl) ?_
        refine vl_val (os_slice_h Try.underlying22 Try.sizeOf5 rfl rfl (h := m) (by omega) (by omega)) ?_
        refine vl_some (ot_append Try.underlying22 ti_u8 rfl rfl rfl s0 (((ha.keep hb1).take m).keep s0b).toC (by simp; omega) (ints8 _) (by simp; omega) (by simp [maxLen]; omega) (by simp)) ?_
        rintro v6 w6 ⟨so, sg⟩
        refine vl_val (os_assign rfl) ?_
        refine vl_val (os_assign rfl) ?_
        refine vl_nil ?_
        refine v_ret ?_
        exact post_ret2 rfl rfl rfl (⟨_, by rw [e1], by rw [e2]; exact Own.mono (by simpa [OwnK] using so) hb1.size, hb1.trans ((s0.below s0b sg (Nat.le_refl _) (by simp)).mono hb1.size)⟩)
def mixP (x : BitVec 32) (k : Nat) : List Int := (le4 x).take k ++ List.replicate (4 - k) 0
theorem mixP_set (x : BitVec 32) {k : Nat} (hk : k < 4) : (mixP x k).set k (((x >>> (8 * k)).setWidth 8).toNat : Int) = mixP x (k + 1) := by
  rcases (by omega : k = 0 ∨ k = 1 ∨ k = 2 ∨ k = 3) with rfl | rfl | rfl | rfl <;> simp [mixP, le4, List.replicate]
theorem mixP_len (x : BitVec 32) {k : Nat} (hk : k ≤ 4) : (mixP x k).length = 4 := by simp [mixP, le4]; omega
theorem sum_put (x : BitVec 32) (w : World) : Gives Try.prog 162 #[.int .u32 (x.toNat : Int)] w fun v w' => (∃ g, v = .slice (some ⟨g, 0, none⟩) 4 4) ∧ OwnK w' w.heap.size 5 .u8 v (le4 x) ∧ Below w.heap.size w w' := by
  refine gives_enter Try.call162 Try.func162 rfl rfl rfl (by kernel_rfl) ?_
  refine v_seq ?_
  refine v_region ?_
  refine vl_val (os_assign rfl) ?_
  refine vl_nil ?_
  refine v_seq ?_
  refine v_region ?_
  refine vl_some (ot_make (l := 4) Try.underlying22 ti_u8 rfl rfl rfl rfl rfl (by omega) (by simp [maxLen]) w.heap.size (Nat.le_refl _)) ?_
  rintro v1 w1 ⟨rfl, o1, g1⟩
  have b1 : Below w.heap.size w w1 := (Below.refl _ _).grown g1 (Nat.le_refl _) (fun k hk => by cases hk)
  obtain ⟨g, hg⟩ : ∃ g, g = w.heap.size := ⟨_, rfl⟩
  rw [← hg] at o1 ⊢
  refine vl_val (os_assign rfl) ?_
  refine vl_nil ?_
  refine v_seq ?_
  refine v_seq ?_
  refine v_region ?_
  refine vl_val (os_move rfl) ?_
  refine vl_nil ?_
  refine v_block ?_
  refine v_loop [(0, _), (3, _)] (fun (k : Nat) => [(6, .int .i64 k)]) (fun k w' => k ≤ 4 ∧ OwnK w' g 5 .u8 (.slice (some ⟨g, 0, none⟩) 4 4) (mixP x k) ∧ Below g w w') (fun k => 4 - k) (0) ⟨rfl, rfl, trivial⟩ ⟨rfl, trivial⟩ (⟨by omega, by unfold OwnK; simpa [mixP] using o1, hg ▸ b1⟩) ?_
  rintro k w' ⟨hk, ho, hb⟩
  refine v_seq ?_
  refine v_region ?_
  refine vl_val (os_lss rfl rfl) ?_
  refine vl_nil ?_
  refine v_seq ?_
  refine v_cond_d rfl (fun h => ?_) (fun h => ?_)
  · refine v_skip ?_
    refine v_seq ?_
    refine v_block ?_
    refine v_seq ?_
    refine v_region ?_
    refine vl_val (os_move rfl) ?_
    refine vl_val (os_assign rfl) ?_
    refine vl_nil ?_
    refine v_region ?_
    refine vl_val (os_move rfl) ?_
    refine vl_val (os_move rfl) ?_
    refine vl_val (os_move rfl) ?_
    refine vl_val (os_move rfl) ?_
    refine vl_val (os_muli rfl rfl (by omega)) ?_
    refine vl_val (os_shr32 x (8 * k) rfl rfl rfl (by simp)) ?_
    refine vl_val (os_low8 (x >>> (8 * k)) Try.underlying171 Try.underlying5 rfl rfl) ?_
    refine vl_val (os_ix Try.underlying22 Try.sizeOf5 rfl rfl (i := k) (by omega) (by omega)) ?_
    refine vl_unit (ou_store Try.sizeOf5 rfl rfl rfl ((OwnK.cell ho (by rw [mixP_len x (by omega)]; omega))) ((Own.free ho _))) ?_
    refine vl_nil ?_
    refine v_region ?_
    refine vl_val (os_addi rfl rfl (by omega)) ?_
    refine vl_val (os_move rfl) ?_
    refine vl_nil ?_
    exact ⟨k + 1, ⟨rfl, rfl, trivial⟩, ⟨rfl, trivial⟩, ⟨by omega, by rw [Nat.zero_add, ← mixP_set x (by omega)]; exact OwnK.set ho k _, below_set hb (Nat.le_refl _) _ _⟩, by dsimp only; omega⟩
  · obtain rfl : k = 4 := by omega
    refine v_exit ?_
    refine v_seq ?_
    refine v_region ?_
    refine vl_val (os_move rfl) ?_
    refine vl_val (os_assign rfl) ?_
    refine vl_nil ?_
    refine v_ret ?_
    exact post_ret rfl rfl (⟨⟨g, rfl⟩, by rw [show mixP x 4 = le4 x by simp [mixP, le4]] at ho; exact hg ▸ ho, hg ▸ hb⟩)
end Go.Proofs.Ytpojijnjdlnokaa
