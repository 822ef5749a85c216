/- Layer 7: the document's sums, seals; the program's. -/
import Derived.Test.YtpojijnjdlnokaaSlD
import Derived.Test.YtpojijnjdlnokaaCrcL
import Derived.Test.YtpojijnjdlnokaaKitS
namespace Go.Proofs.Ytpojijnjdlnokaa
open Go.RowKit
set_option linter.unusedVariables false

theorem low1 (s : BitVec 32) : (((s &&& 1#32).toNat : Int) = 1) ↔ s.getLsbD 0 = true := by
  have h1 : (s &&& 1#32).toNat = s.toNat % 2 := by
    rw [BitVec.toNat_and]
    exact Nat.and_one_is_mod _
  rw [h1, BitVec.getLsbD, Nat.testBit_zero]
  simp only [decide_eq_true_eq]
  omega
theorem crcRun_step {s : BitVec 32} {zs : List Int} {k : Nat} (hk : k < zs.length) : crcRun s (zs.take (k + 1)) = crcRnds 8 (crcRun s (zs.take k) ^^^ BitVec.setWidth 32 (BitVec.ofInt 8 (zs.getD k 0))) := by
  rw [crcRun_take hk, crcStep_rnds]
theorem byte32 {z : Int} (h : 0 ≤ z ∧ z ≤ 255) : IntKind.u32.wrap z = ((BitVec.setWidth 32 (BitVec.ofInt 8 z)).toNat : Int) := by
  have h1 := u8_int h.1 h.2
  rw [BitVec.toNat_setWidth, Nat.mod_eq_of_lt (by have := (BitVec.ofInt 8 z).isLt; omega), h1, IntKind.wrap_u32]
  omega
set_option maxHeartbeats 1000000 in
theorem r7_Go (st : BitVec 32) (A : Option Addr) (n c : Nat) (zs : List Int) (w : World) (ha : Rd w .u8 A zs) (hn : n = zs.length) (hn' : n ≤ 9223372036854775806) (hz : AllB zs) :
    Gives Try.prog 132 #[.int .u32 (st.toNat : Int), .slice A n c] w fun v w' => v = .int .u32 ((crcGo st zs).toNat : Int) ∧ w' = w := by
  refine gives_enter Try.call132 Try.func132 rfl rfl rfl (by kernel_rfl) ?_
  refine v_seq ?_
  refine v_region ?_
  refine vl_val (os_assign rfl) ?_
  refine vl_nil ?_
  refine v_seq ?_
  refine v_region ?_
  refine vl_val (os_move rfl) ?_
  refine vl_val (os_com32 st rfl rfl) ?_
  refine vl_val (os_assign rfl) ?_
  refine vl_nil ?_
  refine v_seq ?_
  refine v_seq ?_
  refine v_region ?_
  refine vl_val (os_assign rfl) ?_
  refine vl_nil ?_
  refine v_block ?_
  refine v_loop [(1, _)] (fun (i : Nat) => [(5, .int .u32 ((crcRun (~~~ st) (zs.take i)).toNat : Int)), (6, .int .i64 i)]) (fun i w' => i ≤ n ∧ w' = w) (fun i => n - i) (0) ⟨rfl, trivial⟩ ⟨rfl, rfl, trivial⟩ (⟨by omega, rfl⟩) ?_
  rintro i w ⟨hi, rfl⟩
  refine v_seq ?_
  refine v_seq ?_
  refine v_region ?_
  refine vl_val (os_move rfl) ?_
  refine vl_val (os_move rfl) ?_
  refine vl_val (os_len Try.underlying22 rfl) ?_
  refine vl_val (os_lss rfl rfl) ?_
  refine vl_nil ?_
  refine v_cond_d rfl (fun h => ?_) (fun h => ?_)
  · obtain ⟨b, o, rfl, hc⟩ := ha.at_ (i := i) (by omega)
    have hnx := crcRun_step (s := ~~~ st) (zs := zs) (k := i) (by omega)
    refine v_skip ?_
    refine v_seq ?_
    refine v_block ?_
    refine v_seq ?_
    refine v_region ?_
    refine vl_val (os_move rfl) ?_
    refine vl_val (os_move rfl) ?_
    refine vl_val (os_move rfl) ?_
    refine vl_val (os_ix Try.underlying22 Try.sizeOf5 rfl rfl (i := i) (by omega) (by omega)) ?_
    refine vl_val (os_load Try.isAgg5 rfl (hc)) ?_
    refine vl_val (os_conv Try.underlying5 Try.underlying171 rfl (byte32 (hz.at_ i))) ?_
    refine vl_val (os_xor32 (crcRun (~~~ st) (zs.take i)) (BitVec.setWidth 32 (BitVec.ofInt 8 (zs.getD i 0))) rfl rfl rfl rfl) ?_
    obtain ⟨s, hs⟩ : ∃ s, s = crcRun (~~~ st) (zs.take i) ^^^ BitVec.setWidth 32 (BitVec.ofInt 8 (zs.getD i 0)) := ⟨_, rfl⟩
    rw [← hs] at hnx ⊢
    refine vl_val (os_assign rfl) ?_
    refine vl_nil ?_
    refine v_seq ?_
    refine v_region ?_
    refine vl_val (os_assign rfl) ?_
    refine vl_nil ?_
    refine v_block ?_
    refine v_loop [(1, _), (6, _)] (fun (k : Nat) => [(5, .int .u32 ((crcRnds k s).toNat : Int)), (7, .int .i64 k)]) (fun k w' => k ≤ 8 ∧ w' = w) (fun k => 8 - k) (0) ⟨rfl, rfl, trivial⟩ ⟨rfl, rfl, trivial⟩ (⟨by omega, rfl⟩) ?_
    rintro k w ⟨hk, rfl⟩
    refine v_seq ?_
    refine v_seq ?_
    refine v_region ?_
    refine vl_val (os_move rfl) ?_
    refine vl_val (os_lss rfl rfl) ?_
    refine vl_nil ?_
    refine v_cond_d rfl (fun hk8 => ?_) (fun hk8 => ?_)
    · refine v_skip ?_
      refine v_seq ?_
      refine v_block ?_
      refine v_seq ?_
      refine v_region ?_
      refine vl_val (os_move rfl) ?_
      refine vl_val (os_and32 (crcRnds k s) 1#32 rfl rfl rfl rfl) ?_
      refine vl_val (os_assign rfl) ?_
      refine vl_nil ?_
      refine v_seq ?_
      refine v_region ?_
      refine vl_val (os_move rfl) ?_
      refine vl_val (os_shr32 (crcRnds k s) 1 rfl rfl rfl rfl) ?_
      refine vl_val (os_assign rfl) ?_
      refine vl_nil ?_
      refine v_seq ?_
      refine v_region ?_
      refine vl_val (os_move rfl) ?_
      refine vl_val (os_eql rfl rfl) ?_
      refine vl_nil ?_
      refine v_cond_d rfl (fun hg => ?_) (fun hg => ?_)
      · have hb := (low1 (crcRnds k s)).1 hg
        have he : crcRnds (k + 1) s = crcRnds k s >>> 1 ^^^ crcPoly := by rw [show crcRnds (k + 1) s = crcRnd (crcRnds k s) from rfl, crcRnd_eq, if_pos hb]
        refine v_region ?_
        refine vl_val (os_move rfl) ?_
        refine vl_val (os_xor32 (crcRnds k s >>> 1) crcPoly rfl rfl rfl rfl) ?_
        refine vl_val (os_assign rfl) ?_
        refine vl_nil ?_
        refine v_region ?_
        refine vl_val (os_move rfl) ?_
        refine vl_val (os_addi rfl rfl (by omega)) ?_
        refine vl_val (os_assign rfl) ?_
        refine vl_nil ?_
        exact ⟨k + 1, ⟨rfl, rfl, trivial⟩, ⟨by rw [he]; rfl, rfl, trivial⟩, ⟨by omega, rfl⟩, by dsimp only; omega⟩
      · have hb : ¬ (crcRnds k s).getLsbD 0 = true := fun h => hg ((low1 (crcRnds k s)).2 h)
        have he : crcRnds (k + 1) s = crcRnds k s >>> 1 := by rw [show crcRnds (k + 1) s = crcRnd (crcRnds k s) from rfl, crcRnd_eq, if_neg hb]; simp
        refine v_skip ?_
        refine v_region ?_
        refine vl_val (os_move rfl) ?_
        refine vl_val (os_addi rfl rfl (by omega)) ?_
        refine vl_val (os_assign rfl) ?_
        refine vl_nil ?_
        exact ⟨k + 1, ⟨rfl, rfl, trivial⟩, ⟨by rw [he]; rfl, rfl, trivial⟩, ⟨by omega, rfl⟩, by dsimp only; omega⟩
    · obtain rfl : k = 8 := by omega
      refine v_exit ?_
      refine v_region ?_
      refine vl_val (os_move rfl) ?_
      refine vl_val (os_addi rfl rfl (by omega)) ?_
      refine vl_val (os_assign rfl) ?_
      refine vl_nil ?_
      exact ⟨i + 1, ⟨rfl, trivial⟩, ⟨by rw [hnx]; rfl, rfl, trivial⟩, ⟨by omega, rfl⟩, by dsimp only; omega⟩
  · refine v_exit ?_
    refine v_seq ?_
    refine v_region ?_
    refine vl_val (os_move rfl) ?_
    refine vl_val (os_com32 (crcRun (~~~ st) (zs.take i)) rfl rfl) ?_
    refine vl_val (os_assign rfl) ?_
    refine vl_nil ?_
    refine v_ret ?_
    exact post_ret rfl rfl (⟨by rw [List.take_of_length_le (by omega)]; rfl, rfl⟩)
theorem crcGo_chain (ls : List (List Int)) (k : Nat) (hk : k < ls.length) : crcGo (crcOf (ls.take k)) (ls.getD k []) = crcOf (ls.take (k + 1)) := by
  rw [List.take_succ_eq_append_getElem hk]
  unfold crcGo crcOf
  rw [List.foldl_append]
  simp [hk]
/-- a sum as bytes -/
def le4 (x : BitVec 32) : List Int := [((x.setWidth 8).toNat : Int), (((x >>> 8).setWidth 8).toNat : Int), (((x >>> 16).setWidth 8).toNat : Int), (((x >>> 24).setWidth 8).toNat : Int)]
theorem le4_B (x : BitVec 32) : AllB (le4 x) := fun z hz => by
  simp only [le4, List.mem_cons, List.not_mem_nil, or_false] at hz
  rcases hz with rfl | rfl | rfl | rfl
  · have := (x.setWidth 8).isLt; omega
  · have := ((x >>> 8).setWidth 8).isLt; omega
  · have := ((x >>> 16).setWidth 8).isLt; omega
  · have := ((x >>> 24).setWidth 8).isLt; omega
def sealL (zs : List Int) : List Int := zs ++ le4 (crcOf [zs])
theorem ints8 (zs : List Int) : ∀ u ∈ zs.map (Value.int .u8), u.oneCell' = true := by
  intro u hu; obtain ⟨z, _, rfl⟩ := List.mem_map.1 hu; rfl
theorem r7_Seal (A : Option Addr) (n c : Nat) (zs : List Int) (w : World) (ha : Rd w .u8 A zs) (hn : n = zs.length) (hn' : n ≤ 100000000) (hz : AllB zs) :
    Gives Try.prog 84 #[.slice A n c] w fun v w' => OwnK w' w.heap.size 5 .u8 v (sealL zs) ∧ Below w.heap.size w w' := by
  refine gives_enter Try.call84 Try.func84 rfl rfl rfl (by kernel_rfl) ?_
  refine v_seq ?_
  refine v_region ?_
  refine vl_val (os_assign rfl) ?_
  refine vl_nil ?_
  refine v_seq ?_
  refine v_region ?_
  refine vl_val (os_move rfl) ?_
  refine vl_call (r7_Go 0#32 A n c zs w ha hn (by omega) hz) rfl ?_
  rintro v1 w ⟨rfl, rfl⟩
  have s0 := own_alloc w [] 5 (Nat.le_refl w.heap.size) (by simp [maxLen])
  have s0b : Below w.heap.size w (w.alloc (.cells #[] 5)) := (Below.refl _ w).alloc (Nat.le_refl _) _
  refine vl_val (os_assign rfl) ?_
  refine vl_nil ?_
  refine v_seq ?_
  refine v_region ?_
  refine vl_val (os_lit Try.underlying22 Try.sizeOf5 Try.zeroValue5 rfl rfl rfl rfl (by decide)) ?_
  refine vl_val (os_move rfl) ?_
  refine vl_some (ot_append Try.underlying22 ti_u8 rfl rfl rfl s0 (ha.keep s0b).toC (by simp [hn]) (ints8 _) (by simp; omega) (by simp [maxLen]; omega) (by simp)) ?_
  rintro v2 w2 ⟨so, sg⟩
  have hb := s0.below s0b sg (Nat.le_refl _) (by simp)
  refine vl_val (os_move rfl) ?_
  refine vl_val (os_low8 (crcGo 0#32 zs) Try.underlying171 Try.underlying5 rfl rfl) ?_
  refine vl_val (os_move rfl) ?_
  refine vl_val (os_shr32 (crcGo 0#32 zs) 8 rfl rfl rfl rfl) ?_
  refine vl_val (os_low8 (crcGo 0#32 zs >>> 8) Try.underlying171 Try.underlying5 rfl rfl) ?_
  refine vl_val (os_move rfl) ?_
  refine vl_val (os_shr32 (crcGo 0#32 zs) 16 rfl rfl rfl rfl) ?_
  refine vl_val (os_low8 (crcGo 0#32 zs >>> 16) Try.underlying171 Try.underlying5 rfl rfl) ?_
  refine vl_val (os_move rfl) ?_
  refine vl_val (os_shr32 (crcGo 0#32 zs) 24 rfl rfl rfl rfl) ?_
  refine vl_val (os_low8 (crcGo 0#32 zs >>> 24) Try.underlying171 Try.underlying5 rfl rfl) ?_
  have so2 := Own.alloc so (.cells ((le4 (crcGo 0#32 zs)).map (Value.int .u8)).toArray 5)
  have hb2 := hb.alloc hb.size (.cells ((le4 (crcGo 0#32 zs)).map (Value.int .u8)).toArray 5)
  refine vl_val (os_lit Try.underlying22 Try.sizeOf5 Try.zeroValue5 rfl rfl rfl rfl (by decide)) ?_
  refine vl_some (ot_append Try.underlying22 ti_u8 rfl rfl rfl so2 (rd_alloc w2 .u8 (le4 (crcGo 0#32 zs)) 5).toC rfl (ints8 _) (by simp; omega) (by simp [maxLen]; omega) hb2.size) ?_
  rintro v3 w3 ⟨so3, sg3⟩
  refine vl_val (os_assign rfl) ?_
  refine vl_nil ?_
  refine v_ret ?_
  exact post_ret rfl rfl (⟨by rw [show sealL zs = zs ++ le4 (crcGo 0#32 zs) from rfl]; unfold OwnK; rw [List.map_append]; simpa using so3, Own.below hb2 so2 sg3 (Nat.le_refl _) hb2.size⟩)
end Go.Proofs.Ytpojijnjdlnokaa
