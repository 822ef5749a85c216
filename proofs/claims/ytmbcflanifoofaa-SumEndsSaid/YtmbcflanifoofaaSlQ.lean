/- Layer 7: the walk of SumSeals. -/
import Derived.Test.YtmbcflanifoofaaSlP
import Derived.Test.YtmbcflanifoofaaSmP
import Derived.Test.YtmbcflanifoofaaKitP
import Derived.Test.YtmbcflanifoofaaM
namespace Go.Proofs.Ytmbcflanifoofaa
open Go.RowKit
set_option linter.unusedVariables false

theorem bit8 (r : Nat) (hr : r < 8) (p : Int) (hp : p = (r : Int)) : IntKind.u8.wrap (1 * 2 ^ min p.toNat IntKind.u8.bits) = (((1#8 <<< r).toNat : Nat) : Int) := by
  subst hp
  rcases (by omega : r = 0 ∨ r = 1 ∨ r = 2 ∨ r = 3 ∨ r = 4 ∨ r = 5 ∨ r = 6 ∨ r = 7) with rfl | rfl | rfl | rfl | rfl | rfl | rfl | rfl <;> decide
/-- a byte, one bit of it turned -/
def flipZ (z : Int) (r : Nat) : Int := ((BitVec.ofInt 8 z ^^^ (1#8 <<< r)).toNat : Int)
theorem flipZ_nat {z : Int} (h : 0 ≤ z ∧ z ≤ 255) {r : Nat} (hr : r < 8) : (flipZ z r).toNat = z.toNat ^^^ (1 <<< r) := by
  have e1 : (BitVec.ofInt 8 z).toNat = z.toNat := by simp [BitVec.toNat_ofInt]; omega
  have e2 : (1#8 <<< r).toNat = 1 <<< r := by
    rcases (by omega : r = 0 ∨ r = 1 ∨ r = 2 ∨ r = 3 ∨ r = 4 ∨ r = 5 ∨ r = 6 ∨ r = 7) with rfl | rfl | rfl | rfl | rfl | rfl | rfl | rfl <;> decide
  show ((((BitVec.ofInt 8 z ^^^ (1#8 <<< r)).toNat : Nat) : Int)).toNat = _
  rw [Int.toNat_natCast, BitVec.toNat_xor, e1, e2]
theorem flipZ_bd (z : Int) (r : Nat) : 0 ≤ flipZ z r ∧ flipZ z r ≤ 255 := by
  unfold flipZ
  have := (BitVec.ofInt 8 z ^^^ (1#8 <<< r)).isLt
  omega
theorem AllB.set {zs : List Int} (h : AllB zs) (i : Nat) {z : Int} (hz : 0 ≤ z ∧ z ≤ 255) : AllB (zs.set i z) := fun y hy => by
  rcases List.mem_or_eq_of_mem_set hy with h1 | rfl
  · exact h y h1
  · exact hz
/-- the bytes t, behind i rounds -/
structure Bent (s : List Int) (T k i : Nat) (ts : List Int) : Prop where
  all : AllB ts
  len : ts.length = s.length
  nat : natOf ts = natOf s ^^^ ((T % 2 ^ i) <<< k)
theorem Bent.zero {s : List Int} (h : AllB s) (T k : Nat) : Bent s T k 0 s := ⟨h, rfl, by simp [Nat.mod_one]⟩
theorem Bent.skip {s ts : List Int} {T k i : Nat} (h : Bent s T k i ts) (hb : T.testBit i = false) : Bent s T k (i + 1) ts := ⟨h.all, h.len, by rw [bits_succ, hb]; exact h.nat⟩
theorem Bent.flip {s ts : List Int} {T k i q r : Nat} (h : Bent s T k i ts) (hb : T.testBit i = true) (hq : q < ts.length) (hr : r < 8) (hk : k + i = 8 * q + r) : Bent s T k (i + 1) (ts.set q (flipZ (ts.getD q 0) r)) :=
  ⟨h.all.set q (flipZ_bd _ _), by rw [List.length_set, h.len], by rw [natOf_set ts q _ r hq (flipZ_nat (h.all.at_ q) hr), h.nat, bits_step hb, hk]⟩
theorem Bent.told {b ts : List Int} {T k i : Nat} (hb : AllB b) (h : Bent (sealL b) T k i ts) (hi : i ≤ 32) (hk : k ≤ 8 * ts.length) (h0 : T % 2 ^ i ≠ 0) : openE ts = 10 :=
  seal_burst hb h.all h.len h.nat h0 (Nat.lt_of_lt_of_le (Nat.mod_lt _ (Nat.two_pow_pos i)) (Nat.pow_le_pow_right (by omega) hi)) hk
theorem bent_t {T i : Nat} (h : T.testBit i = true) : decide (T % 2 ^ (i + 1) ≠ 0) = true := decide_eq_true (bits_ne h)
theorem bent_f {T i : Nat} (h : T.testBit i = false) : decide (T % 2 ^ (i + 1) ≠ 0) = decide (T % 2 ^ i ≠ 0) := by rw [bits_succ, h]; rfl
theorem bit_of (T : BitVec 32) (i : Nat) : (((T >>> i &&& 1#32).toNat : Int) = 1) ↔ T.toNat.testBit i = true := by
  rw [low1]; simp [BitVec.getLsbD_ushiftRight, BitVec.getLsbD]
theorem seal_open {bs : List Int} : openE (sealL bs) = 0 ∧ openV (sealL bs) = bs := by
  have h1 := sealL_len bs
  have h2 : (sealL bs).take ((sealL bs).length - 4) = bs := by rw [h1]; simp [sealL]
  have h3 : openE (sealL bs) = 0 := by unfold openE; rw [if_neg (by omega), h2, if_pos rfl]
  exact ⟨h3, by unfold openV; rw [if_pos h3, h2]⟩

set_option maxHeartbeats 2000000 in
theorem law07_SumSeals (A : Option Addr) (n c : Nat) (bs : List Int) (at_ : Int) (turn : BitVec 32) (w : World) (ha : Rd w .u8 A bs) (hn : n = bs.length) (hc : n ≤ c) (hz : AllB bs) :
    Gives Try.prog 10 #[.slice A n c, .int .i64 at_, .int .u32 (turn.toNat : Int)] w fun v w' => v = .bool true ∧ Below w.heap.size w w' := by
  refine gives_enter Try.call10 Try.func10 rfl rfl rfl (by kernel_rfl) ?_
  refine v_seq ?_
  refine v_region ?_
  refine vl_val (os_assign rfl) ?_
  refine vl_nil ?_
  refine v_seq ?_
  refine v_seq ?_
  refine v_region ?_
  refine vl_call (law07_awake w) rfl ?_
  rintro v1 w1 ⟨rfl, b1⟩
  refine vl_val (os_not rfl) ?_
  refine vl_nil ?_
  refine v_cond_f rfl ?_
  refine v_skip ?_
  refine v_seq ?_
  refine v_seq ?_
  refine v_region ?_
  refine vl_val (os_move rfl) ?_
  refine vl_val (os_len Try.underlying33 rfl) ?_
  refine vl_val (os_gtr rfl rfl) ?_
  refine vl_nil ?_
  refine v_cond_d rfl (fun hbig => ?_) (fun hbig => ?_)
  · refine v_seq ?_
    refine v_region ?_
    refine vl_val (os_assign rfl) ?_
    refine vl_nil ?_
    refine v_ret ?_
    exact post_ret rfl rfl (⟨rfl, b1⟩)
  · have ha1 := ha.keep b1
    have hn2 : n ≤ 20000 := by omega
    have hsl := sealL_len bs
    refine v_skip ?_
    refine v_seq ?_
    refine v_region ?_
    refine vl_val (os_move rfl) ?_
    refine vl_call (sum_Seal A n c bs w1 ha1 hn hc (by omega) hz) rfl ?_
    rintro v2 w2 ⟨o2, b12⟩
    obtain ⟨A2, c2, rfl, hc2, _, r2, _⟩ := OwnK.form o2
    have b2 : Below w.heap.size w w2 := b1.trans (b12.mono b1.size)
    refine vl_val (os_assign rfl) ?_
    refine vl_nil ?_
    refine v_seq ?_
    refine v_region ?_
    refine vl_val (os_move rfl) ?_
    refine vl_call (sum_Open A2 _ c2 (sealL bs) w2 r2 rfl hc2 (by omega) (sealL_B hz)) rfl ?_
    rintro v3 w3 ⟨u3, rfl, o3, b23⟩
    obtain ⟨e0, v0⟩ := seal_open (bs := bs)
    rw [v0] at o3
    rw [e0]
    obtain ⟨A3, c3, rfl, hc3, _, r3, _⟩ := OwnK.form o3
    have b3 : Below w.heap.size w w3 := b2.trans (b23.mono b2.size)
    refine vl_val (os_move rfl) ?_
    refine vl_val (os_extract rfl rfl) ?_
    refine vl_val (os_extract rfl rfl) ?_
    refine vl_val (os_assign rfl) ?_
    refine vl_val (os_assign rfl) ?_
    refine vl_nil ?_
    refine v_seq ?_
    refine v_seq ?_
    refine v_region ?_
    refine vl_val (os_move rfl) ?_
    refine vl_val (os_f (os_neq rfl rfl) (by simp)) ?_
    refine vl_val (os_move rfl) ?_
    refine vl_valg rfl (os_move rfl) ?_
    refine vl_valg rfl (os_move rfl) ?_
    refine vl_callg rfl ((kit_SameBytes A3 A _ n c3 c _ _ w3 r3 (ha.keep b3) rfl hn (by omega) (by omega)).mono fun v w' hh => (⟨by rw [hh.1, decide_eq_true rfl], hh.2⟩ : v = .bool true ∧ LeD w3 w')) rfl ?_
    rintro v4 w4 ⟨rfl, d4⟩
    have b4 : Below w.heap.size w w4 := b3.trans ((led_below d4).mono b3.size)
    refine vl_valg rfl (os_not rfl) ?_
    refine vl_val (os_pick_f rfl rfl) ?_
    refine vl_val (os_move rfl) ?_
    refine vl_valg rfl (os_move rfl) ?_
    refine vl_valg rfl (os_len Try.underlying33 rfl) ?_
    refine vl_valg rfl (os_move rfl) ?_
    refine vl_valg rfl (os_len Try.underlying33 rfl) ?_
    refine vl_valg rfl (os_addi rfl rfl (by omega)) ?_
    refine vl_valg rfl (os_neq rfl rfl) ?_
    refine vl_val (os_pick_f rfl rfl) ?_
    refine vl_nil ?_
    refine v_cond_no rfl (by omega) ?_
    refine v_skip ?_
    refine v_seq ?_
    refine v_region ?_
    refine vl_val (os_move rfl) ?_
    refine vl_val (os_move rfl) ?_
    refine vl_val (os_len Try.underlying33 rfl) ?_
    refine vl_val (os_muli rfl rfl (by omega)) ?_
    refine vl_call (kit_Pick at_ (8 * (sealL bs).length) _ (by omega)) rfl ?_
    rintro v5 w4 ⟨rfl, rfl⟩
    have p1 : 0 ≤ pickV at_ (8 * (sealL bs).length) ∧ pickV at_ (8 * (sealL bs).length) < 8 * (sealL bs).length := by unfold pickV; rw [if_neg (by omega)]; have := Int.emod_nonneg at_ (show (8 : Int) * (sealL bs).length ≠ 0 by omega); have := Int.emod_lt_of_pos at_ (show 0 < (8 : Int) * (sealL bs).length by omega); omega
    obtain ⟨k, hk⟩ : ∃ k : Nat, pickV at_ (8 * (sealL bs).length) = k := ⟨(pickV at_ (8 * (sealL bs).length)).toNat, by omega⟩
    rw [hk]
    have hk2 : k < 8 * (sealL bs).length := by omega
    have k24 : Below w2.heap.size w2 w4 := b23.trans ((led_below d4).mono b23.size)
    refine vl_val (os_assign rfl) ?_
    refine vl_nil ?_
    refine v_mid [(7, _), (10, _)] (fun (T : BitVec 32) => [(2, .int .u32 (T.toNat : Int))]) (fun T w' => w' = w4) ⟨rfl, rfl, trivial⟩ ?_ ?_
    · refine v_seq ?_
      refine v_region ?_
      refine vl_val (os_move rfl) ?_
      refine vl_val (os_eql rfl rfl) ?_
      refine vl_nil ?_
      refine v_cond_d rfl (fun ht => ?_) (fun ht => ?_)
      · refine v_region ?_
        refine vl_val (os_assign rfl) ?_
        refine vl_nil ?_
        exact ⟨1#32, ⟨rfl, rfl, trivial⟩, ⟨rfl, trivial⟩, rfl⟩
      · refine v_skip ?_
        exact ⟨turn, ⟨rfl, rfl, trivial⟩, ⟨rfl, trivial⟩, rfl⟩
    · rintro T w4 rfl
      have s0 := own_alloc w4 [] 5 (Nat.le_refl w4.heap.size) (by simp [maxLen])
      have s0b : Below w4.heap.size w4 (w4.alloc (.cells #[] 5)) := (Below.refl _ w4).alloc (Nat.le_refl _) _
      refine v_seq ?_
      refine v_region ?_
      refine vl_val (os_lit Try.underlying33 Try.sizeOf5 Try.zeroValue5 rfl rfl rfl rfl (by decide)) ?_
      refine vl_val (os_move rfl) ?_
      refine vl_some (ot_append Try.underlying33 ti_u8 rfl rfl rfl s0 ((r2.keep k24).keep s0b).toC (by simp) (ints8 _) (by simp; omega) (by simp [maxLen]; omega) (by simp)) ?_
      rintro v6 w6 ⟨so, sg⟩
      have b46 := s0.below s0b sg (Nat.le_refl _) (by simp)
      have o6 : OwnK w6 w4.heap.size 5 .u8 v6 (sealL bs) := by simpa [OwnK] using so
      obtain ⟨g, c6, rfl, hg, hg', hc6, _⟩ := o6.row (by omega)
      refine vl_val (os_assign rfl) ?_
      refine vl_nil ?_
      refine v_seq ?_
      refine v_region ?_
      refine vl_val (os_assign rfl) ?_
      refine vl_nil ?_
      refine v_seq ?_
      refine v_seq ?_
      refine v_region ?_
      refine vl_val (os_assign rfl) ?_
      refine vl_nil ?_
      refine v_block ?_
      refine v_loop2 [(2, _), (10, _), (11, _)] (fun (tr : Bool) (i : Nat) => [(12, .bool tr), (13, .int .i64 i)]) (fun tr i w' => i ≤ 32 ∧ tr = decide (T.toNat % 2 ^ i ≠ 0) ∧ ∃ ts, Bent (sealL bs) T.toNat k i ts ∧ OwnK w' w4.heap.size 5 .u8 (.slice (some ⟨g, 0, none⟩) (sealL bs).length c6) ts ∧ Below w4.heap.size w4 w') (fun tr i => 32 - i) (false) (0) ⟨rfl, rfl, rfl, trivial⟩ ⟨rfl, rfl, trivial⟩ (⟨by omega, by simp [Nat.mod_one], _, Bent.zero (sealL_B hz) _ _, o6, b46⟩) ?_
      rintro tr i w' ⟨hi, rfl, ts, ht, ho, hb⟩
      have htl := ht.len
      rcases (by omega : (32 ≤ i ∧ T.toNat % 2 ^ i = 0) ∨ (32 ≤ i ∧ T.toNat % 2 ^ i ≠ 0) ∨ (i < 32 ∧ 8 * (sealL bs).length ≤ k + i ∧ T.toNat % 2 ^ i = 0) ∨ (i < 32 ∧ 8 * (sealL bs).length ≤ k + i ∧ T.toNat % 2 ^ i ≠ 0) ∨ (i < 32 ∧ k + i < 8 * (sealL bs).length)) with ⟨h, h0⟩ | ⟨h, h0⟩ | ⟨h, h2, h0⟩ | ⟨h, h2, h0⟩ | ⟨h, h2⟩
      · rw [decide_eq_false (show ¬ T.toNat % 2 ^ i ≠ 0 by omega)]
        refine v_seq ?_
        refine v_seq ?_
        refine v_region ?_
        refine vl_val (os_move rfl) ?_
        refine vl_val (os_f (os_lss rfl rfl) (by omega)) ?_
        refine vl_val (os_move rfl) ?_
        refine vl_skip rfl rfl ?_
        refine vl_skip rfl rfl ?_
        refine vl_skip rfl rfl ?_
        refine vl_skip rfl rfl ?_
        refine vl_skip rfl rfl ?_
        refine vl_skip rfl rfl ?_
        refine vl_skip rfl rfl ?_
        refine vl_val (os_pick_f rfl rfl) ?_
        refine vl_nil ?_
        refine v_cond_f rfl ?_
        refine v_exit ?_
        refine v_seq ?_
        refine v_region ?_
        refine vl_val (os_move rfl) ?_
        refine vl_call (sum_Open (some ⟨g, 0, none⟩) _ c6 ts w' (OwnK.rd ho) htl.symm (by omega) (by omega) ht.all) rfl ?_
        rintro v7 w7 ⟨u7, rfl, o7, b7⟩
        refine vl_val (os_move rfl) ?_
        refine vl_val (os_extract rfl rfl) ?_
        refine vl_val (os_extract rfl rfl) ?_
        refine vl_val (os_assign rfl) ?_
        refine vl_val (os_assign rfl) ?_
        refine vl_nil ?_
        refine v_seq ?_
        refine v_region ?_
        refine vl_val (os_move rfl) ?_
        refine vl_val (os_not rfl) ?_
        refine vl_val (os_move rfl) ?_
        refine vl_skip rfl rfl ?_
        refine vl_skip rfl rfl ?_
        refine vl_val (os_pick_t rfl rfl) ?_
        refine vl_val (os_assign rfl) ?_
        refine vl_nil ?_
        refine v_ret ?_
        exact post_ret rfl rfl (⟨rfl, b4.trans ((hb.trans (b7.mono hb.size)).mono b4.size)⟩)
      · rw [decide_eq_true (show T.toNat % 2 ^ i ≠ 0 by omega)]
        refine v_seq ?_
        refine v_seq ?_
        refine v_region ?_
        refine vl_val (os_move rfl) ?_
        refine vl_val (os_f (os_lss rfl rfl) (by omega)) ?_
        have e10 := ht.told hz hi (by omega) h0
        refine vl_val (os_move rfl) ?_
        refine vl_skip rfl rfl ?_
        refine vl_skip rfl rfl ?_
        refine vl_skip rfl rfl ?_
        refine vl_skip rfl rfl ?_
        refine vl_skip rfl rfl ?_
        refine vl_skip rfl rfl ?_
        refine vl_skip rfl rfl ?_
        refine vl_val (os_pick_f rfl rfl) ?_
        refine vl_nil ?_
        refine v_cond_f rfl ?_
        refine v_exit ?_
        refine v_seq ?_
        refine v_region ?_
        refine vl_val (os_move rfl) ?_
        refine vl_call (sum_Open (some ⟨g, 0, none⟩) _ c6 ts w' (OwnK.rd ho) htl.symm (by omega) (by omega) ht.all) rfl ?_
        rintro v7 w7 ⟨u7, rfl, o7, b7⟩
        refine vl_val (os_move rfl) ?_
        refine vl_val (os_extract rfl rfl) ?_
        refine vl_val (os_extract rfl rfl) ?_
        refine vl_val (os_assign rfl) ?_
        refine vl_val (os_assign rfl) ?_
        refine vl_nil ?_
        refine v_seq ?_
        refine v_region ?_
        refine vl_val (os_move rfl) ?_
        refine vl_val (os_not rfl) ?_
        refine vl_val (os_move rfl) ?_
        refine vl_valg rfl (os_move rfl) ?_
        refine vl_valg rfl (os_eql rfl rfl) ?_
        refine vl_val (os_pick_f rfl rfl) ?_
        refine vl_val (os_assign rfl) ?_
        refine vl_nil ?_
        refine v_ret ?_
        exact post_ret rfl rfl (⟨by rw [e10]; rfl, b4.trans ((hb.trans (b7.mono hb.size)).mono b4.size)⟩)
      · rw [decide_eq_false (show ¬ T.toNat % 2 ^ i ≠ 0 by omega)]
        refine v_seq ?_
        refine v_seq ?_
        refine v_region ?_
        refine vl_val (os_move rfl) ?_
        refine vl_val (os_t (os_lss rfl rfl) (by omega)) ?_
        refine vl_val (os_move rfl) ?_
        refine vl_valg rfl (os_move rfl) ?_
        refine vl_valg rfl (os_move rfl) ?_
        refine vl_valg rfl (os_addi rfl rfl (by omega)) ?_
        refine vl_valg rfl (os_move rfl) ?_
        refine vl_valg rfl (os_len Try.underlying33 rfl) ?_
        refine vl_valg rfl (os_muli rfl rfl (by omega)) ?_
        refine vl_valg rfl (os_lss rfl rfl) ?_
        refine vl_val (os_pick_t rfl rfl) ?_
        refine vl_nil ?_
        refine v_cond_no rfl (by omega) ?_
        refine v_exit ?_
        refine v_seq ?_
        refine v_region ?_
        refine vl_val (os_move rfl) ?_
        refine vl_call (sum_Open (some ⟨g, 0, none⟩) _ c6 ts w' (OwnK.rd ho) htl.symm (by omega) (by omega) ht.all) rfl ?_
        rintro v7 w7 ⟨u7, rfl, o7, b7⟩
        refine vl_val (os_move rfl) ?_
        refine vl_val (os_extract rfl rfl) ?_
        refine vl_val (os_extract rfl rfl) ?_
        refine vl_val (os_assign rfl) ?_
        refine vl_val (os_assign rfl) ?_
        refine vl_nil ?_
        refine v_seq ?_
        refine v_region ?_
        refine vl_val (os_move rfl) ?_
        refine vl_val (os_not rfl) ?_
        refine vl_val (os_move rfl) ?_
        refine vl_skip rfl rfl ?_
        refine vl_skip rfl rfl ?_
        refine vl_val (os_pick_t rfl rfl) ?_
        refine vl_val (os_assign rfl) ?_
        refine vl_nil ?_
        refine v_ret ?_
        exact post_ret rfl rfl (⟨rfl, b4.trans ((hb.trans (b7.mono hb.size)).mono b4.size)⟩)
      · rw [decide_eq_true (show T.toNat % 2 ^ i ≠ 0 by omega)]
        refine v_seq ?_
        refine v_seq ?_
        refine v_region ?_
        refine vl_val (os_move rfl) ?_
        refine vl_val (os_t (os_lss rfl rfl) (by omega)) ?_
        refine vl_val (os_move rfl) ?_
        refine vl_valg rfl (os_move rfl) ?_
        refine vl_valg rfl (os_move rfl) ?_
        refine vl_valg rfl (os_addi rfl rfl (by omega)) ?_
        refine vl_valg rfl (os_move rfl) ?_
        refine vl_valg rfl (os_len Try.underlying33 rfl) ?_
        refine vl_valg rfl (os_muli rfl rfl (by omega)) ?_
        refine vl_valg rfl (os_lss rfl rfl) ?_
        refine vl_val (os_pick_t rfl rfl) ?_
        refine vl_nil ?_
        refine v_cond_no rfl (by omega) ?_
        have e10 := ht.told hz hi (by omega) h0
        refine v_exit ?_
        refine v_seq ?_
        refine v_region ?_
        refine vl_val (os_move rfl) ?_
        refine vl_call (sum_Open (some ⟨g, 0, none⟩) _ c6 ts w' (OwnK.rd ho) htl.symm (by omega) (by omega) ht.all) rfl ?_
        rintro v7 w7 ⟨u7, rfl, o7, b7⟩
        refine vl_val (os_move rfl) ?_
        refine vl_val (os_extract rfl rfl) ?_
        refine vl_val (os_extract rfl rfl) ?_
        refine vl_val (os_assign rfl) ?_
        refine vl_val (os_assign rfl) ?_
        refine vl_nil ?_
        refine v_seq ?_
        refine v_region ?_
        refine vl_val (os_move rfl) ?_
        refine vl_val (os_not rfl) ?_
        refine vl_val (os_move rfl) ?_
        refine vl_valg rfl (os_move rfl) ?_
        refine vl_valg rfl (os_eql rfl rfl) ?_
        refine vl_val (os_pick_f rfl rfl) ?_
        refine vl_val (os_assign rfl) ?_
        refine vl_nil ?_
        refine v_ret ?_
        exact post_ret rfl rfl (⟨by rw [e10]; rfl, b4.trans ((hb.trans (b7.mono hb.size)).mono b4.size)⟩)
      · refine v_seq ?_
        refine v_seq ?_
        refine v_region ?_
        refine vl_val (os_move rfl) ?_
        refine vl_val (os_t (os_lss rfl rfl) (by omega)) ?_
        refine vl_val (os_move rfl) ?_
        refine vl_valg rfl (os_move rfl) ?_
        refine vl_valg rfl (os_move rfl) ?_
        refine vl_valg rfl (os_addi rfl rfl (by omega)) ?_
        refine vl_valg rfl (os_move rfl) ?_
        refine vl_valg rfl (os_len Try.underlying33 rfl) ?_
        refine vl_valg rfl (os_muli rfl rfl (by omega)) ?_
        refine vl_valg rfl (os_lss rfl rfl) ?_
        refine vl_val (os_pick_t rfl rfl) ?_
        refine vl_nil ?_
        refine v_cond_yes rfl (by omega) ?_
        refine v_skip ?_
        refine v_seq ?_
        refine v_block ?_
        refine v_seq ?_
        refine v_region ?_
        refine vl_val (os_move rfl) ?_
        refine vl_val (os_move rfl) ?_
        refine vl_val (os_shr32 T i rfl rfl rfl rfl) ?_
        refine vl_val (os_and32 (T >>> i) 1#32 rfl rfl rfl rfl) ?_
        refine vl_val (os_eql rfl rfl) ?_
        refine vl_nil ?_
        refine v_cond_d rfl (fun hbit => ?_) (fun hbit => ?_)
        · have hbt := (bit_of T i).1 hbit
          obtain ⟨q, r, hr, hq⟩ : ∃ q r, r < 8 ∧ k + i = 8 * q + r := ⟨(k + i) / 8, (k + i) % 8, by omega, by omega⟩
          have hql : q < ts.length := by omega
          have hzq := ht.all.at_ q
          have hcell : World.cell? (w'.drewN 1) ⟨g, 0 + q, none⟩ = some (.int .u8 (ts.getD q 0)) := by rw [Nat.zero_add]; exact OwnK.cell (Own.led ho ⟨1, rfl⟩ : OwnK (w'.drewN 1) _ _ _ _ _) hql
          refine v_seq ?_
          refine v_region_a mixed ?_
          refine va_pure 0 rfl (by kernel_rfl) (by kernel_rfl) (by kernel_rfl) (fun w => (os_move rfl)) ?_
          refine va_pure 1 rfl (by kernel_rfl) (by kernel_rfl) (by kernel_rfl) (fun w => (os_move rfl)) ?_
          refine va_pure 2 rfl (by kernel_rfl) (by kernel_rfl) (by kernel_rfl) (fun w => (os_move rfl)) ?_
          refine va_pure 3 rfl (by kernel_rfl) (by kernel_rfl) (by kernel_rfl) (fun w => (os_addi rfl rfl (by omega))) ?_
          refine va_pure 4 rfl (by kernel_rfl) (by kernel_rfl) (by kernel_rfl) (fun w => (os_quoi rfl rfl (by omega))) ?_
          refine va_pure 5 rfl (by kernel_rfl) (by kernel_rfl) (by kernel_rfl) (fun w => (os_move rfl)) ?_
          refine va_pure 6 rfl (by kernel_rfl) (by kernel_rfl) (by kernel_rfl) (fun w => (os_move rfl)) ?_
          refine va_pure 7 rfl (by kernel_rfl) (by kernel_rfl) (by kernel_rfl) (fun w => (os_move rfl)) ?_
          refine va_pure 8 rfl (by kernel_rfl) (by kernel_rfl) (by kernel_rfl) (fun w => (os_addi rfl rfl (by omega))) ?_
          refine va_pure 9 rfl (by kernel_rfl) (by kernel_rfl) (by kernel_rfl) (fun w => (os_quoi rfl rfl (by omega))) ?_
          refine va_pure 10 rfl (by kernel_rfl) (by kernel_rfl) (by kernel_rfl) (fun w => (os_ix Try.underlying33 Try.sizeOf5 rfl rfl (i := q) (by omega) (by omega))) ?_
          refine va_pure 12 rfl (by kernel_rfl) (by kernel_rfl) (by kernel_rfl) (fun w => (os_move rfl)) ?_
          refine va_pure 13 rfl (by kernel_rfl) (by kernel_rfl) (by kernel_rfl) (fun w => (os_move rfl)) ?_
          refine va_pure 14 rfl (by kernel_rfl) (by kernel_rfl) (by kernel_rfl) (fun w => (os_addi rfl rfl (by omega))) ?_
          refine va_pure 15 rfl (by kernel_rfl) (by kernel_rfl) (by kernel_rfl) (fun w => (os_remi rfl rfl (by omega))) ?_
          refine va_pure 16 rfl (by kernel_rfl) (by kernel_rfl) (by kernel_rfl) (fun w => (os_shl rfl rfl (by omega) (bit8 r hr _ (by omega)))) ?_
          refine va_one 11 (by kernel_rfl) ?_
          refine vn_val rfl (os_load Try.isAgg5 rfl (hcell)) ?_
          refine va_pure 17 rfl (by kernel_rfl) (by kernel_rfl) (by kernel_rfl) (fun w => (os_xor8 (BitVec.ofInt 8 (ts.getD q 0)) (1#8 <<< r) rfl (u8_int hzq.1 hzq.2).symm rfl rfl)) ?_
          refine va_pure 18 rfl (by kernel_rfl) (by kernel_rfl) (by kernel_rfl) (fun w => (os_ix Try.underlying33 Try.sizeOf5 rfl rfl (i := q) (by omega) (by omega))) ?_
          refine va_one 19 (by kernel_rfl) ?_
          refine vn_unit rfl (ou_store Try.sizeOf5 rfl rfl rfl (hcell) ((Own.free (Own.led ho ⟨1, rfl⟩) _))) ?_
          refine va_done (by kernel_rfl) ?_
          refine v_region ?_
          refine vl_val (os_assign rfl) ?_
          refine vl_nil ?_
          refine v_region ?_
          refine vl_val (os_move rfl) ?_
          refine vl_val (os_addi rfl rfl (by omega)) ?_
          refine vl_val (os_assign rfl) ?_
          refine vl_nil ?_
          exact ⟨⟨true, i + 1⟩, ⟨rfl, rfl, rfl, trivial⟩, ⟨rfl, rfl, trivial⟩, ⟨by omega, (bent_t hbt).symm, _, ht.flip hbt hql hr hq, by rw [Nat.zero_add]; exact OwnK.set (Own.led ho ⟨1, rfl⟩ : OwnK (w'.drewN 1) _ _ _ _ _) q _, below_set (hb.trans ((led_below ⟨1, rfl⟩).mono hb.size)) hg _ _⟩, by dsimp only; omega⟩
        · have hbf : T.toNat.testBit i = false := by have := mt (bit_of T i).2 hbit; simpa using this
          refine v_skip ?_
          refine v_region ?_
          refine vl_val (os_move rfl) ?_
          refine vl_val (os_addi rfl rfl (by omega)) ?_
          refine vl_val (os_assign rfl) ?_
          refine vl_nil ?_
          exact ⟨⟨_, i + 1⟩, ⟨rfl, rfl, rfl, trivial⟩, ⟨rfl, rfl, trivial⟩, ⟨by omega, (bent_f hbf).symm, ts, ht.skip hbf, ho, hb⟩, by dsimp only; omega⟩
theorem law07_SumSealsI (A : Option Addr) (n c : Nat) (bs : List Int) (at_ : Int) (turn : Int) (w : World) (ha : Rd w .u8 A bs) (hn : n = bs.length) (hc : n ≤ c) (hz : AllB bs) (ht : 0 ≤ turn ∧ turn ≤ 4294967295) :
    Gives Try.prog 10 #[.slice A n c, .int .i64 at_, .int .u32 turn] w fun v w' => v = .bool true ∧ Below w.heap.size w w' := by
  have := law07_SumSeals A n c bs at_ (BitVec.ofInt 32 turn) w ha hn hc hz
  rwa [u32_int ht.1 ht.2] at this
end Go.Proofs.Ytmbcflanifoofaa
