/- Texts joined: SlP SlQ NtZ NtA OpR OpM. -/
import Derived.Test.YthaifamjgcfkaaaM14
import Derived.ChangeSame
/- Layer 7, plain: of what is sealed, of which bits are turned within 32 of them, it is told so. No program in sight. -/
namespace Go.Proofs.Ythaifamjgcfkaaa
open Go.RowKit
set_option linter.unusedVariables false

def rN (x : Nat) : Nat := (x / 2) ^^^ (if x % 2 = 1 then 0xEDB88320 else 0)
def rNs : Nat → Nat → Nat
  | 0, x => x
  | k + 1, x => rNs k (rN x)
def natOf : List Int → Nat
  | [] => 0
  | z :: zs => z.toNat ^^^ (natOf zs <<< 8)
theorem rNs_add (a b x : Nat) : rNs (a + b) x = rNs b (rNs a x) := by
  induction a generalizing x with
  | zero => rw [Nat.zero_add]; rfl
  | succ a ih => rw [show a + 1 + b = (a + b) + 1 by omega]; exact ih (rN x)
theorem rNs_succ (k x : Nat) : rNs (k + 1) x = rN (rNs k x) := rNs_add k 1 x
theorem crcRnd_nat (s : BitVec 32) : (crcRnd s).toNat = rN s.toNat := by
  rw [crcRnd_eq, BitVec.toNat_xor, BitVec.toNat_ushiftRight, Nat.shiftRight_eq_div_pow, Nat.pow_one]
  unfold rN
  congr 1
  have : s.getLsbD 0 = decide (s.toNat % 2 = 1) := by simp [BitVec.getLsbD]
  rw [this]
  by_cases h : s.toNat % 2 = 1 <;> simp [h, crcPoly]
theorem crcRnds_nat (k : Nat) (s : BitVec 32) : (crcRnds k s).toNat = rNs k s.toNat := by
  induction k with
  | zero => rfl
  | succ k ih => rw [rNs_succ, ← ih]; exact crcRnd_nat _
theorem nxor_lc (a b c : Nat) : a ^^^ (b ^^^ c) = b ^^^ (a ^^^ c) := by rw [← Nat.xor_assoc, Nat.xor_comm a b, Nat.xor_assoc]
theorem nxor_cc (a b : Nat) : a ^^^ (a ^^^ b) = b := by rw [← Nat.xor_assoc, Nat.xor_self, Nat.zero_xor]
theorem rN_xor (a b : Nat) : rN (a ^^^ b) = rN a ^^^ rN b := by
  unfold rN
  rw [Nat.xor_div_two]
  have h : (a ^^^ b) % 2 = (a + b) % 2 := by have := @Nat.xor_mod_two_eq_one a b; omega
  generalize a / 2 = x
  generalize b / 2 = y
  rcases Nat.mod_two_eq_zero_or_one a with ha | ha <;> rcases Nat.mod_two_eq_zero_or_one b with hb | hb
  · rw [if_neg (by omega), if_neg (by omega), if_neg (by omega)]; simp
  · rw [if_pos (by omega), if_neg (by omega), if_pos (by omega)]; simp [Nat.xor_assoc]
  · rw [if_pos (by omega), if_pos (by omega), if_neg (by omega), Nat.xor_zero, Nat.xor_assoc, Nat.xor_assoc, Nat.xor_comm y]
  · rw [if_neg (by omega), if_pos (by omega), if_pos (by omega), Nat.xor_zero]
    generalize 0xEDB88320 = p
    rw [Nat.xor_assoc, nxor_lc p y p, Nat.xor_self, Nat.xor_zero]
theorem rNs_xor (k a b : Nat) : rNs k (a ^^^ b) = rNs k a ^^^ rNs k b := by
  induction k generalizing a b with
  | zero => rfl
  | succ k ih => simp only [rNs, rN_xor, ih]
theorem rNs_shift (k x : Nat) : rNs k (x <<< k) = x := by
  induction k with
  | zero => simp [rNs]
  | succ k ih =>
    have h : x <<< (k + 1) = 2 * (x <<< k) := by simp [Nat.shiftLeft_eq, Nat.pow_succ]; rw [← Nat.mul_assoc, Nat.mul_comm]
    have : rN (x <<< (k + 1)) = x <<< k := by
      unfold rN
      rw [h, if_neg (by omega), Nat.mul_div_cancel_left _ (by omega), Nat.xor_zero]
    simp only [rNs, this, ih]
theorem rN_ne {x : Nat} (h : x ≠ 0) (hl : x < 2 ^ 32) : rN x ≠ 0 ∧ rN x < 2 ^ 32 := by
  unfold rN
  refine ⟨fun h0 => ?_, Nat.xor_lt_two_pow (by omega) (by split <;> decide)⟩
  by_cases hx : x % 2 = 1
  · rw [if_pos hx] at h0
    have h1 : (x / 2 ^^^ 0xEDB88320).testBit 31 = false := by rw [h0]; simp
    rw [Nat.testBit_xor, Nat.testBit_lt_two_pow (show x / 2 < 2 ^ 31 by omega)] at h1
    exact absurd h1 (by decide)
  · rw [if_neg hx, Nat.xor_zero] at h0
    omega
theorem rNs_ne (k : Nat) {x : Nat} (h : x ≠ 0) (hl : x < 2 ^ 32) : rNs k x ≠ 0 := by
  induction k generalizing x with
  | zero => exact h
  | succ k ih => exact ih (rN_ne h hl).1 (rN_ne h hl).2
theorem crcRun_nat : ∀ (zs : List Int) (s : BitVec 32), AllB zs → (crcRun s zs).toNat = rNs (8 * zs.length) (s.toNat ^^^ natOf zs)
  | [], s, _ => by simp [crcRun, natOf, rNs]
  | z :: zs, s, h => by
    have hz := h z (by simp)
    have hb : (BitVec.setWidth 32 (BitVec.ofInt 8 z)).toNat = z.toNat := by
      simp [BitVec.toNat_ofInt]; omega
    show (crcRun (crcStep s z) zs).toNat = _
    rw [crcRun_nat zs _ (fun y hy => h y (by simp [hy])), crcStep_rnds, crcRnds_nat, BitVec.toNat_xor, hb]
    rw [show 8 * (z :: zs).length = 8 + 8 * zs.length by simp; omega, rNs_add, natOf, ← Nat.xor_assoc, rNs_xor 8 (s.toNat ^^^ z.toNat), rNs_shift]
theorem cons_add {z M : Nat} (h : z < 256) : z ^^^ (M <<< 8) = z + 256 * M := by
  apply Nat.eq_of_testBit_eq
  intro i
  rw [Nat.add_comm, show 256 * M + z = 2 ^ 8 * M + z from rfl, Nat.testBit_two_pow_mul_add M (show z < 2 ^ 8 from h), Nat.testBit_xor, Nat.testBit_shiftLeft]
  by_cases h8 : i < 8
  · simp [h8, show ¬ 8 ≤ i by omega]
  · have : z.testBit i = false := Nat.testBit_lt_two_pow (Nat.lt_of_lt_of_le h (Nat.pow_le_pow_right (n := 2) (by omega) (show 8 ≤ i by omega)))
    simp [h8, this, show 8 ≤ i by omega]
theorem natOf_le4 (x : BitVec 32) : natOf (le4 x) = x.toNat := by
  have hx := x.isLt
  simp only [le4, natOf, BitVec.toNat_setWidth, BitVec.toNat_ushiftRight, Int.toNat_natCast, Nat.shiftRight_eq_div_pow]
  rw [cons_add (by omega), cons_add (by omega), cons_add (by omega), cons_add (by omega)]
  omega
theorem seal_res (c : List Int) (hc : AllB c) : (crcRun (~~~ 0#32) (sealL c)).toNat = rNs 32 (2 ^ 32 - 1) := by
  unfold sealL
  rw [crcRun_app, crcRun_nat _ _ (le4_B _), natOf_le4, ← BitVec.toNat_xor]
  show rNs (8 * 4) _ = _
  congr 1
  have : crcOf [c] = ~~~ crcRun (~~~ 0#32) c := rfl
  rw [this]
  generalize crcRun (~~~ 0#32) c = x
  have : x ^^^ ~~~ x = BitVec.allOnes 32 := by
    apply BitVec.eq_of_getLsbD_eq
    intro i hi
    rw [BitVec.getLsbD_allOnes, BitVec.getLsbD_xor, BitVec.getLsbD_not]
    cases x.getLsbD i <;> simp [hi]
  rw [this]; decide
theorem seal_burst {b ts : List Int} {W k : Nat} (hb : AllB b) (ht : AllB ts) (hl : ts.length = (sealL b).length) (hn : natOf ts = natOf (sealL b) ^^^ (W <<< k)) (h0 : W ≠ 0) (hW : W < 2 ^ 32) (hk : k ≤ 8 * ts.length) : openE ts = 10 := by
  have h4 : 4 ≤ ts.length := by rw [hl]; simp [sealL, le4]
  unfold openE
  rw [if_neg (by omega), if_neg]
  intro hs
  have e1 := seal_res _ (ht.take (ts.length - 4))
  have e2 := seal_res _ hb
  rw [hs, crcRun_nat _ _ ht, hn, ← Nat.xor_assoc, rNs_xor, hl, ← crcRun_nat _ _ (sealL_B hb), e2] at e1
  have e3 : rNs (8 * (sealL b).length) (W <<< k) = 0 := by
    have := congrArg (fun z => rNs 32 (2 ^ 32 - 1) ^^^ z) e1
    simp only [nxor_cc, Nat.xor_self] at this
    exact this
  rw [show 8 * (sealL b).length = k + (8 * (sealL b).length - k) by omega, rNs_add, rNs_shift] at e3
  exact rNs_ne _ h0 hW e3
theorem natOf_set : ∀ (ts : List Int) (q : Nat) (z' : Int) (r : Nat), q < ts.length → z'.toNat = (ts.getD q 0).toNat ^^^ (1 <<< r) → natOf (ts.set q z') = natOf ts ^^^ (1 <<< (8 * q + r))
  | [], q, z', r, h, _ => by simp at h
  | z :: ts, 0, z', r, h, e => by
    simp only [List.set_cons_zero, natOf, List.getD_cons_zero] at e ⊢
    rw [e, Nat.mul_zero, Nat.zero_add, Nat.xor_assoc, Nat.xor_assoc, Nat.xor_comm (1 <<< r)]
  | z :: ts, q + 1, z', r, h, e => by
    simp only [List.set_cons_succ, natOf, List.getD_cons_succ] at e ⊢
    rw [natOf_set ts q z' r (by simpa using h) e, Nat.shiftLeft_xor_distrib, Nat.xor_assoc, ← Nat.shiftLeft_add, show 8 * q + r + 8 = 8 * (q + 1) + r by omega]
theorem bits_succ (t i : Nat) : t % 2 ^ (i + 1) = if t.testBit i then (t % 2 ^ i) ^^^ (1 <<< i) else t % 2 ^ i := by
  apply Nat.eq_of_testBit_eq
  intro j
  rw [Nat.testBit_mod_two_pow]
  split
  · rename_i h
    rw [Nat.testBit_xor, Nat.testBit_mod_two_pow, Nat.testBit_shiftLeft]
    rcases Nat.lt_trichotomy j i with hj | rfl | hj
    · simp [hj, show j < i + 1 by omega, show ¬ i ≤ j by omega]
    · simp [h]
    · have h1 : (1 : Nat).testBit (j - i) = false := Nat.testBit_lt_two_pow (Nat.one_lt_two_pow (by omega))
      simp [show ¬ j < i by omega, show ¬ j < i + 1 by omega, show i ≤ j by omega, h1]
  · rename_i h
    rw [Nat.testBit_mod_two_pow]
    rcases Nat.lt_trichotomy j i with hj | rfl | hj
    · simp [hj, show j < i + 1 by omega]
    · simp at h; simp [h]
    · simp [show ¬ j < i by omega, show ¬ j < i + 1 by omega]
theorem bits_step {M t i k : Nat} (h : t.testBit i = true) : M ^^^ ((t % 2 ^ (i + 1)) <<< k) = (M ^^^ ((t % 2 ^ i) <<< k)) ^^^ (1 <<< (k + i)) := by
  rw [bits_succ, if_pos h, Nat.shiftLeft_xor_distrib, ← Nat.xor_assoc, ← Nat.shiftLeft_add, Nat.add_comm i k]
theorem bits_ne {t i : Nat} (h : t.testBit i = true) : t % 2 ^ (i + 1) ≠ 0 := fun h0 => by
  have : (t % 2 ^ (i + 1)).testBit i = true := by rw [Nat.testBit_mod_two_pow]; simp [h]
  rw [h0] at this; simp at this
end Go.Proofs.Ythaifamjgcfkaaa

/- Layer 7: the walk of SumSeals. -/
namespace Go.Proofs.Ythaifamjgcfkaaa
open Go.RowKit
set_option linter.unusedVariables false

theorem bit8 (r : Nat) (hr : r < 8) (p : Int) (hp : p = (r : Int)) : IntKind.u8.wrap (1 * 2 ^ min p.toNat IntKind.u8.bits) = (((1#8 <<< r).toNat : Nat) : Int) := by
  subst hp
  rcases (by omega : r = 0 ∨ r = 1 ∨ r = 2 ∨ r = 3 ∨ r = 4 ∨ r = 5 ∨ r = 6 ∨ r = 7) with rfl | rfl | rfl | rfl | rfl | rfl | rfl | rfl <;> decide
/-- a byte, one bit of it turned -/
def flipZ (z : Int) (r : Nat) : Int := ((BitVec.ofInt 8 z ^^^ (1#8 <<< r)).toNat : Int)
theorem flipZ_nat {z : Int} (h : 0 ≤ z ∧ z ≤ 255) {r : Nat} (hr : r < 8) : (flipZ z r).toNat = z.toNat ^^^ (1 <<< r) := by
  have e1 : (BitVec.ofInt 8 z).toNat = z.toNat := by simp [BitVec.toNat_ofInt]; omega
  have e2 : (1#8 <<< r).toNat = 1 <<< r := by
    rcases (by omega : r = 0 ∨ r = 1 ∨ r = 2 ∨ r = 3 ∨ r = 4 ∨ r = 5 ∨ r = 6 ∨ r = 7) with rfl | rfl | rfl | rfl | rfl | rfl | rfl | rfl <;> decide
  show ((((BitVec.ofInt 8 z ^^^ (1#8 <<< r)).toNat : Nat) : Int)).toNat = _
  rw [Int.toNat_natCast, BitVec.toNat_xor, e1, e2]
theorem flipZ_bd (z : Int) (r : Nat) : 0 ≤ flipZ z r ∧ flipZ z r ≤ 255 := by
  unfold flipZ
  have := (BitVec.ofInt 8 z ^^^ (1#8 <<< r)).isLt
  omega
theorem AllB.set {zs : List Int} (h : AllB zs) (i : Nat) {z : Int} (hz : 0 ≤ z ∧ z ≤ 255) : AllB (zs.set i z) := fun y hy => by
  rcases List.mem_or_eq_of_mem_set hy with h1 | rfl
  · exact h y h1
  · exact hz
/-- the bytes t, behind i rounds -/
structure Bent (s : List Int) (T k i : Nat) (ts : List Int) : Prop where
  all : AllB ts
  len : ts.length = s.length
  nat : natOf ts = natOf s ^^^ ((T % 2 ^ i) <<< k)
theorem Bent.zero {s : List Int} (h : AllB s) (T k : Nat) : Bent s T k 0 s := ⟨h, rfl, by simp [Nat.mod_one]⟩
theorem Bent.skip {s ts : List Int} {T k i : Nat} (h : Bent s T k i ts) (hb : T.testBit i = false) : Bent s T k (i + 1) ts := ⟨h.all, h.len, by rw [bits_succ, hb]; exact h.nat⟩
theorem Bent.flip {s ts : List Int} {T k i q r : Nat} (h : Bent s T k i ts) (hb : T.testBit i = true) (hq : q < ts.length) (hr : r < 8) (hk : k + i = 8 * q + r) : Bent s T k (i + 1) (ts.set q (flipZ (ts.getD q 0) r)) :=
  ⟨h.all.set q (flipZ_bd _ _), by rw [List.length_set, h.len], by rw [natOf_set ts q _ r hq (flipZ_nat (h.all.at_ q) hr), h.nat, bits_step hb, hk]⟩
theorem Bent.told {b ts : List Int} {T k i : Nat} (hb : AllB b) (h : Bent (sealL b) T k i ts) (hi : i ≤ 32) (hk : k ≤ 8 * ts.length) (h0 : T % 2 ^ i ≠ 0) : openE ts = 10 :=
  seal_burst hb h.all h.len h.nat h0 (Nat.lt_of_lt_of_le (Nat.mod_lt _ (Nat.two_pow_pos i)) (Nat.pow_le_pow_right (by omega) hi)) hk
theorem bent_t {T i : Nat} (h : T.testBit i = true) : decide (T % 2 ^ (i + 1) ≠ 0) = true := decide_eq_true (bits_ne h)
theorem bent_f {T i : Nat} (h : T.testBit i = false) : decide (T % 2 ^ (i + 1) ≠ 0) = decide (T % 2 ^ i ≠ 0) := by rw [bits_succ, h]; rfl
theorem bit_of (T : BitVec 32) (i : Nat) : (((T >>> i &&& 1#32).toNat : Int) = 1) ↔ T.toNat.testBit i = true := by
  rw [low1]; simp [BitVec.getLsbD_ushiftRight, BitVec.getLsbD]
theorem seal_open {bs : List Int} : openE (sealL bs) = 0 ∧ openV (sealL bs) = bs := by
  have h1 := sealL_len bs
  have h2 : (sealL bs).take ((sealL bs).length - 4) = bs := by rw [h1]; simp [sealL]
  have h3 : openE (sealL bs) = 0 := by unfold openE; rw [if_neg (by omega), h2, if_pos rfl]
  exact ⟨h3, by unfold openV; rw [if_pos h3, h2]⟩

end Go.Proofs.Ythaifamjgcfkaaa

/- Layer 15: the law's own functions, and the walk of NoteParses. -/
namespace Go.Proofs.Ythaifamjgcfkaaa
open Go.RowKit
set_option linter.unusedVariables false

theorem nt_back {q : NoteP} (h : RightQ q) : ntE (sealL (noteB q)) = 0 ∧ ntP (sealL (noteB q)) = q := by
  have h1 := seal_open (bs := noteB q)
  have h2 := note_back h
  have hE : ntE (sealL (noteB q)) = 0 := by unfold ntE; rw [if_neg (fun hh => hh h1.1), h1.2, h2.1]
  exact ⟨hE, by unfold ntP; rw [if_pos hE, h1.2, h2.2.1]⟩
theorem right_pq {d : NoteV} : rightN d = true ↔ RightQ d.p := by rw [rightN_p]; exact rightQ_iff
def awN (A : Option Addr) : NoteV := ⟨1, 2, 3, A, 2, 2, [(2, 1), (3, 5)]⟩
theorem awN_right (A : Option Addr) : rightN (awN A) = true := by show rightP ⟨1, 2, 3, [(2, 1), (3, 5)]⟩ = true; decide
theorem awN_bytes (A : Option Addr) : noteB (awN A).p = [2, 0, 1, 0, 0, 0, 2, 3, 2, 2, 0, 1, 3, 0, 5] := by show noteB ⟨1, 2, 3, [(2, 1), (3, 5)]⟩ = _; decide
set_option maxHeartbeats 4000000 in
theorem law15_awake (w : World) : Gives Try.prog 10 #[] w fun v w' => v = .bool true ∧ Below w.heap.size w w' := by
  refine gives_enter Try.call10 Try.func10 rfl rfl rfl (by kernel_rfl) ?_
  refine v_seq ?_
  refine v_region ?_
  refine vl_val (os_assign rfl) ?_
  refine vl_nil ?_
  refine v_seq ?_
  refine v_region ?_
  refine vl_val (os_build (cs := [.int .i64 2, .int .i64 1]) rfl (by kernel_rfl)) ?_
  refine vl_val (os_build (cs := [.int .i64 3, .int .i64 5]) rfl (by kernel_rfl)) ?_
  refine vl_some (ot_litS (css := [[.int .i64 2, .int .i64 1], [.int .i64 3, .int .i64 5]]) Try.underlying26 Try.sizeOf42 Try.zeroValue42 rfl rfl (by intro c hc; simp at hc; rcases hc with rfl | rfl <;> rfl) (by decide) (by decide) (by decide)) ?_
  rintro v1 w1 ⟨rfl, r1, s1, b1⟩
  refine vl_val (os_build (cs := [.int .i64 1, .int .i64 2, .int .i64 3, .slice (some ⟨w.heap.size, 0, none⟩) 2 2]) rfl (by kernel_rfl)) ?_
  refine vl_val (os_allocB Try.zeroValue28 (zc := _) (cs := zN) rfl) ?_
  have hN0 := bk_new w1 zN 28
  have b2a : Below w1.heap.size w1 (w1.alloc (.cells zN.toArray 28)) := (Below.refl _ _).alloc (Nat.le_refl _) _
  refine vl_unit (ou_storeB (by kernel_rfl) rfl rfl hN0 rfl rfl) ?_
  have hN2 := setRow_bk hN0 [.int .i64 1, .int .i64 2, .int .i64 3, .slice (some ⟨w.heap.size, 0, none⟩) 2 2]
  have b2 := below_setRow b2a (Nat.le_refl _) [Value.int .i64 1, .int .i64 2, .int .i64 3, .slice (some ⟨w.heap.size, 0, none⟩) 2 2].toArray
  have hd1 : NoteOk w1 (awN (some ⟨w.heap.size, 0, none⟩)) := ⟨r1, rfl, (by decide : (2 : Nat) ≤ 9000000000000), ⟨(⟨by decide, by decide⟩ : I64 1), (⟨by decide, by decide⟩ : I64 2), (⟨by decide, by decide⟩ : I64 3)⟩, fun p hp => by simp [awN] at hp; rcases hp with rfl | rfl <;> exact ⟨⟨by decide, by decide⟩, ⟨by decide, by decide⟩⟩⟩
  have hrt := awN_right (some ⟨w.heap.size, 0, none⟩)
  have hby := awN_bytes (some ⟨w.heap.size, 0, none⟩)
  obtain ⟨d, hdd⟩ : ∃ d, d = awN (some ⟨w.heap.size, 0, none⟩) := ⟨_, rfl⟩
  rw [← hdd] at hd1 hrt hby
  have hN2 : Bk ((w1.alloc (.cells zN.toArray 28)).setRow w1.heap.size [Value.int .i64 1, .int .i64 2, .int .i64 3, .slice (some ⟨w.heap.size, 0, none⟩) 2 2].toArray) w1.heap.size d.cells 28 := by rw [hdd]; exact hN2
  generalize hw2 : (w1.alloc (.cells zN.toArray 28)).setRow w1.heap.size [Value.int .i64 1, .int .i64 2, .int .i64 3, .slice (some ⟨w.heap.size, 0, none⟩) 2 2].toArray = w2 at *
  have hd2 := hd1.keep b2
  have b2w : Below w.heap.size w w2 := Below.trans b1 (b2.mono (Below.size b1))
  have hback := nt_back (right_pq.1 hrt)
  have hpV : putV d = sealL (noteB d.p) := by unfold putV; rw [hrt]; rfl
  have hpE : putE d = 0 := by unfold putE; rw [hrt]; rfl
  have hlen : (sealL (noteB d.p)).length = 19 := by rw [sealL_len, hby]; rfl
  refine vl_nil ?_
  refine v_seq ?_
  refine v_region ?_
  refine vl_val (os_loadB Try.underlying28 rfl (by kernel_rfl) rfl (hN2)) ?_
  refine vl_call (nt_Put d w2 hd2) rfl ?_
  rintro v3 w3 ⟨s3, rfl, o3, b3⟩
  rw [hpV] at o3
  obtain ⟨A3, c3, rfl, hc3, hm3, r3, -⟩ := OwnK.form o3
  rw [hlen] at hc3
  rw [hlen, hpE]
  have b3w := b2w.trans (b3.mono b2w.size)
  refine vl_val (os_move rfl) ?_
  refine vl_val (os_extract rfl rfl) ?_
  refine vl_val (os_extract rfl rfl) ?_
  refine vl_val (os_assign rfl) ?_
  refine vl_val (os_assign rfl) ?_
  refine vl_nil ?_
  refine v_seq ?_
  refine v_region ?_
  refine vl_val (os_move rfl) ?_
  refine vl_call (nt_Parse A3 19 c3 (sealL (noteB d.p)) w3 r3 hlen.symm hc3 (by omega) (sealL_B noteB_Y)) rfl ?_
  rintro v4 w4 ⟨e, rfl, he, hde, b4⟩
  rw [hback.1]
  rw [hback.2] at he
  refine vl_val (os_move rfl) ?_
  refine vl_val (os_extract rfl rfl) ?_
  refine vl_val (os_extract rfl rfl) ?_
  refine vl_val (os_allocB Try.zeroValue28 (zc := _) (cs := zN) rfl) ?_
  have hM0 := bk_new w4 zN 28
  have b5a : Below w4.heap.size w4 (w4.alloc (.cells zN.toArray 28)) := (Below.refl _ _).alloc (Nat.le_refl _) _
  refine vl_unit (ou_storeB (by kernel_rfl) rfl rfl hM0 rfl rfl) ?_
  have hM5 := setRow_bk hM0 e.cells
  have b5 := below_setRow b5a (Nat.le_refl _) e.cells.toArray
  generalize hw5 : (w4.alloc (.cells zN.toArray 28)).setRow w4.heap.size e.cells.toArray = w5 at *
  have b35 := b4.trans (b5.mono b4.size)
  have b5w := b3w.trans (b35.mono b3w.size)
  have r5 := r3.keep b35
  have hN5 := (hN2.keep b3).keep b35
  refine vl_val (os_assign rfl) ?_
  refine vl_nil ?_
  refine v_seq ?_
  refine v_region ?_
  refine vl_val (os_move rfl) ?_
  refine vl_val (os_t (os_eql rfl rfl) (rfl)) ?_
  refine vl_val (os_move rfl) ?_
  refine vl_valg rfl (os_move rfl) ?_
  refine vl_valg rfl (os_len Try.underlying22 rfl) ?_
  refine vl_valg rfl (os_t (os_eql rfl rfl) (rfl)) ?_
  refine vl_val (os_pick_t rfl rfl) ?_
  refine vl_val (os_move rfl) ?_
  refine vl_valg rfl (os_move rfl) ?_
  refine vl_valg rfl (os_slice_h Try.underlying22 Try.sizeOf5 rfl rfl (h := 15) (by omega) (by omega)) ?_
  have b6a : Below w5.heap.size w5 (w5.alloc (.cells (([2, 0, 1, 0, 0, 0, 2, 3, 2, 2, 0, 1, 3, 0, 5] : List Int).map (Value.int .u8)).toArray 5)) := (Below.refl _ w5).alloc (Nat.le_refl _) _
  refine vl_valg rfl (os_lit Try.underlying22 Try.sizeOf5 Try.zeroValue5 rfl rfl rfl rfl (by decide)) ?_
  refine vl_callg rfl (gives_boolb (kit_SameBytes A3 _ 15 15 c3 15 ((sealL (noteB d.p)).take 15) [2, 0, 1, 0, 0, 0, 2, 3, 2, 2, 0, 1, 3, 0, 5] _ ((r5.take 15).alloc _) (rd_alloc w5 .u8 [2, 0, 1, 0, 0, 0, 2, 3, 2, 2, 0, 1, 3, 0, 5] 5) (by rw [List.length_take, hlen]; rfl) rfl (by decide) (by decide)) (decide_eq_true (by unfold sealL; rw [List.take_left' (by rw [hby]; rfl), hby]))) rfl ?_
  rintro v6 w6 ⟨rfl, d6⟩
  have b56 : Below w5.heap.size w5 w6 := b6a.trans ((led_below d6).mono b6a.size)
  have b6w := b5w.trans (b56.mono b5w.size)
  have hde6 := (hde.keep b5).keep b56
  have hd6 := (((hd2.keep b3).keep b35).keep b56)
  obtain ⟨q1, q2, q3, q4⟩ := NoteV.p_eq he
  refine vl_val (os_pick_t rfl rfl) ?_
  refine vl_val (os_move rfl) ?_
  refine vl_valg rfl (os_move rfl) ?_
  refine vl_valg rfl (os_t (os_eql rfl rfl) (rfl)) ?_
  refine vl_val (os_pick_t rfl rfl) ?_
  refine vl_val (os_move rfl) ?_
  refine vl_valg rfl (os_loadB Try.underlying28 rfl (by kernel_rfl) rfl (hM5.keep b56)) ?_
  refine vl_valg rfl (os_loadB Try.underlying28 rfl (by kernel_rfl) rfl (hN5.keep b56)) ?_
  refine vl_callg rfl (kit_SameNote e d w6 hde6 hd6 q1 q2 q3 q4) rfl ?_
  rintro v7 w7 ⟨rfl, b7⟩
  refine vl_val (os_pick_t rfl rfl) ?_
  refine vl_val (os_assign rfl) ?_
  refine vl_nil ?_
  refine v_ret ?_
  exact post_ret rfl rfl (⟨rfl, b6w.trans (b7.mono b6w.size)⟩)
set_option maxHeartbeats 4000000 in
theorem law15_parses (A : Option Addr) (n c : Nat) (zs : List Int) (w : World) (ha : Rd w .u8 A zs) (hn : n = zs.length) (hc : n ≤ c) (hn' : n ≤ 1000000) (hz : AllB zs) : Gives Try.prog 11 #[.slice A n c] w fun v w' => v = .bool true ∧ Below w.heap.size w w' := by
  refine gives_enter Try.call11 Try.func11 rfl rfl rfl (by kernel_rfl) ?_
  refine v_seq ?_
  refine v_region ?_
  refine vl_val (os_assign rfl) ?_
  refine vl_nil ?_
  refine v_seq ?_
  refine v_region ?_
  refine vl_val (os_move rfl) ?_
  refine vl_call (kit_LentBytes A n c zs w ha hn (by omega)) rfl ?_
  rintro v1 w1 ⟨hL, b1⟩
  have hL0 := hL
  obtain ⟨g, C, rfl, hC, hCm, -, -, rL⟩ := hL0.form
  refine vl_val (os_assign rfl) ?_
  refine vl_nil ?_
  refine v_seq ?_
  refine v_region ?_
  refine vl_val (os_move rfl) ?_
  refine vl_call (nt_Parse (some ⟨g, 0, none⟩) zs.length C zs w1 rL rfl (by omega) (by omega) hz) rfl ?_
  rintro v2 w2 ⟨d, rfl, hdp, hd, b2⟩
  have b2w := b1.trans (b2.mono b1.size)
  refine vl_val (os_move rfl) ?_
  refine vl_val (os_extract rfl rfl) ?_
  refine vl_val (os_extract rfl rfl) ?_
  refine vl_val (os_allocB Try.zeroValue28 (zc := _) (cs := zN) rfl) ?_
  have hM0 := bk_new w2 zN 28
  have b3a : Below w2.heap.size w2 (w2.alloc (.cells zN.toArray 28)) := (Below.refl _ _).alloc (Nat.le_refl _) _
  refine vl_unit (ou_storeB (by kernel_rfl) rfl rfl hM0 rfl rfl) ?_
  have hM3 := setRow_bk hM0 d.cells
  have b3 := below_setRow b3a (Nat.le_refl _) d.cells.toArray
  generalize hw3 : (w2.alloc (.cells zN.toArray 28)).setRow w2.heap.size d.cells.toArray = w3 at *
  have b3w := b2w.trans (b3.mono b2w.size)
  refine vl_val (os_assign rfl) ?_
  refine vl_nil ?_
  refine v_seq ?_
  refine v_region ?_
  refine vl_val (os_move rfl) ?_
  refine vl_call (ref15_Parse A n c zs w3 (ha.keep b3w) hn hc (by omega) hz) rfl ?_
  rintro v4 w4 ⟨e, rfl, hep, he, b4⟩
  have b4w := b3w.trans (b4.mono b3w.size)
  refine vl_val (os_move rfl) ?_
  refine vl_val (os_extract rfl rfl) ?_
  refine vl_val (os_extract rfl rfl) ?_
  refine vl_val (os_allocB Try.zeroValue28 (zc := _) (cs := zN) rfl) ?_
  have hE0 := bk_new w4 zN 28
  have b5a : Below w4.heap.size w4 (w4.alloc (.cells zN.toArray 28)) := (Below.refl _ _).alloc (Nat.le_refl _) _
  refine vl_unit (ou_storeB (by kernel_rfl) rfl rfl hE0 rfl rfl) ?_
  have hE5 := setRow_bk hE0 e.cells
  have b5 := below_setRow b5a (Nat.le_refl _) e.cells.toArray
  generalize hw5 : (w4.alloc (.cells zN.toArray 28)).setRow w4.heap.size e.cells.toArray = w5 at *
  have b5w := b4w.trans (b5.mono b4w.size)
  have b35 := b4.trans (b5.mono b4.size)
  have b15 := b2.trans ((b3.trans (b35.mono b3.size)).mono b2.size)
  obtain ⟨q1, q2, q3, q4⟩ := NoteV.p_eq (hdp.trans hep.symm)
  refine vl_val (os_assign rfl) ?_
  refine vl_nil ?_
  refine v_seq ?_
  refine v_region ?_
  refine vl_val (os_move rfl) ?_
  refine vl_val (os_move rfl) ?_
  refine vl_val (os_t (os_eql rfl rfl) (rfl)) ?_
  refine vl_val (os_move rfl) ?_
  refine vl_valg rfl (os_loadB Try.underlying28 rfl (by kernel_rfl) rfl (hM3.keep b35)) ?_
  refine vl_valg rfl (os_loadB Try.underlying28 rfl (by kernel_rfl) rfl (hE5)) ?_
  refine vl_callg rfl (kit_SameNote d e w5 ((hd.keep b3).keep b35) (he.keep b5) q1 q2 q3 q4) rfl ?_
  rintro v6 w6 ⟨rfl, b6⟩
  have b6w := b5w.trans (b6.mono b5w.size)
  refine vl_val (os_pick_t rfl rfl) ?_
  refine vl_val (os_move rfl) ?_
  refine vl_valg rfl (os_move rfl) ?_
  refine vl_valg rfl (os_move rfl) ?_
  refine vl_callg rfl (kit_KeptBytes (.slice (some ⟨g, 0, none⟩) zs.length C) w.heap.size A n c zs w6 ((hL.keep b15).keep b6) (ha.keep b6w) hn (by omega)) rfl ?_
  rintro v7 w7 ⟨rfl, d7⟩
  refine vl_val (os_pick_t rfl rfl) ?_
  refine vl_val (os_assign rfl) ?_
  refine vl_nil ?_
  refine v_ret ?_
  exact post_ret rfl rfl (⟨rfl, b6w.trans ((led_below d7).mono b6w.size)⟩)
theorem law15_NoteParses (A : Option Addr) (n c : Nat) (zs : List Int) (w : World) (ha : Rd w .u8 A zs) (hn : n = zs.length) (hc : n ≤ c) (hz : AllB zs) : Gives Try.prog 3 #[.slice A n c] w fun v w' => v = .bool true ∧ Below w.heap.size w w' := by
  refine gives_enter Try.call3 Try.func3 rfl rfl rfl (by kernel_rfl) ?_
  refine v_seq ?_
  refine v_region ?_
  refine vl_val (os_assign rfl) ?_
  refine vl_nil ?_
  refine v_seq ?_
  refine v_seq ?_
  refine v_region ?_
  refine vl_val (os_move rfl) ?_
  refine vl_val (os_len Try.underlying22 rfl) ?_
  refine vl_val (os_gtr rfl rfl) ?_
  refine vl_nil ?_
  refine v_cond_d rfl (fun hbig => ?_) (fun hbig => ?_)
  · refine v_seq ?_
    refine v_region ?_
    refine vl_call (law15_awake w) rfl ?_
    rintro v1 w1 ⟨rfl, b1⟩
    refine vl_val (os_assign rfl) ?_
    refine vl_nil ?_
    refine v_ret ?_
    exact post_ret rfl rfl (⟨rfl, b1⟩)
  · refine v_skip ?_
    refine v_seq ?_
    refine v_region ?_
    refine vl_val (os_move rfl) ?_
    refine vl_call (law15_parses A n c zs w ha hn hc (by omega) hz) rfl ?_
    rintro v1 w1 ⟨rfl, b1⟩
    refine vl_val (os_move rfl) ?_
    refine vl_valg rfl (os_move rfl) ?_
    refine vl_callg rfl (r7_Seal A n c zs w1 (ha.keep b1) hn (by omega) hz) rfl ?_
    rintro v2 w2 ⟨o2, b2⟩
    obtain ⟨A2, c2, rfl, hc2, hm2, r2, -⟩ := OwnK.form o2
    have hl2 := sealL_len zs
    have b2w := b1.trans (b2.mono b1.size)
    refine vl_callg rfl (law15_parses A2 _ c2 (sealL zs) w2 r2 rfl hc2 (by omega) (sealL_B hz)) rfl ?_
    rintro v3 w3 ⟨rfl, b3⟩
    have b3w := b2w.trans (b3.mono b2w.size)
    refine vl_val (os_pick_t rfl rfl) ?_
    refine vl_val (os_move rfl) ?_
    refine vl_callg rfl (law15_awake w3) rfl ?_
    rintro v4 w4 ⟨rfl, b4⟩
    refine vl_val (os_pick_t rfl rfl) ?_
    refine vl_val (os_assign rfl) ?_
    refine vl_nil ?_
    refine v_ret ?_
    exact post_ret rfl rfl (⟨rfl, b3w.trans (b4.mono b3w.size)⟩)
end Go.Proofs.Ythaifamjgcfkaaa

/- Layer 15: the walk of NoteSums. -/
namespace Go.Proofs.Ythaifamjgcfkaaa
open Go.RowKit
set_option linter.unusedVariables false

theorem kit_CopyCounts (A : Option Addr) (n c : Nat) (ps : List (Int × Int)) (w : World) (ha : RdP w 2 A (ps.map rowC)) (hn : n = ps.length) (hb : n ≤ 100000000) : Gives Try.prog 58 #[.slice A n c] w fun v w' => OwnP w' w.heap.size 42 2 v (ps.map rowC) ∧ Below w.heap.size w w' := by
  refine gives_enter Try.call58 Try.func58 rfl rfl rfl (by kernel_rfl) ?_
  refine v_seq ?_
  refine v_region ?_
  refine vl_val (os_assign rfl) ?_
  refine vl_nil ?_
  refine v_seq ?_
  refine v_region ?_
  refine vl_val (os_assign rfl) ?_
  refine vl_nil ?_
  refine v_seq ?_
  refine v_region ?_
  refine vl_val (os_move rfl) ?_
  refine vl_val (os_move rfl) ?_
  refine vl_some (ot_append_pn Try.underlying26 ti_wCounts rfl (by decide) rfl rfl (OwnP.nil (B := w.heap.size)) ha (rowC_len _) (by simp [hn]) (rowC_one _) (by simpa using lent_b4 hb) (by simpa using lent_b5 hb) (Nat.le_refl _)) ?_
  rintro v2 w2 ⟨ho2, hg2⟩
  refine vl_val (os_assign rfl) ?_
  refine vl_nil ?_
  refine v_ret ?_
  exact post_ret rfl rfl (⟨by simpa using ho2, (Below.refl _ _).grown hg2 (Nat.le_refl _) (fun k hk => by cases hk)⟩)
set_option maxHeartbeats 1000000 in
theorem kit_CopyNote (d : NoteV) (w : World) (hd : NoteOk w d) (hl : d.l ≤ 100000000) : Gives Try.prog 22 #[.agg d.cells.toArray] w fun v w' => ∃ e : NoteV, v = .agg e.cells.toArray ∧ e.p = d.p ∧ NoteOk w' e ∧ (∀ a, e.A = some a → w.heap.size ≤ a.block) ∧ e.l ≤ e.c ∧ Below w.heap.size w w' := by
  have hA0 := bk_new w d.cells 28
  have hb0 : Below w.heap.size w (w.alloc (.cells d.cells.toArray 28)) := (Below.refl _ w).alloc (Nat.le_refl _) _
  have hA := hA0.alloc (.cells [Value.int .i64 0, .int .i64 0, .int .i64 0, .slice none 0 0].toArray 28)
  have hB := bk_new (w.alloc (.cells d.cells.toArray 28)) [.int .i64 0, .int .i64 0, .int .i64 0, .slice none 0 0] 28
  have hb1 := hb0.alloc hb0.size (.cells [Value.int .i64 0, .int .i64 0, .int .i64 0, .slice none 0 0].toArray 28)
  have hd1 := hd.keep hb1
  have l1 := hd.2.1
  refine gives_enter Try.call22 Try.func22 rfl rfl rfl (by kernel_rfl) ?_
  refine v_seq ?_
  refine v_region ?_
  refine vl_val (os_box rfl) ?_
  refine vl_val (os_allocB Try.zeroValue28 (zc := _) (cs := [.int .i64 0, .int .i64 0, .int .i64 0, .slice none 0 0]) rfl) ?_
  simp only [World.size_alloc]
  refine vl_nil ?_
  refine v_seq ?_
  refine v_region ?_
  refine vl_val (os_fa (o := 3) (k := 0) (by kernel_rfl) rfl) ?_
  refine vl_val (os_load Try.isAgg26 rfl (hA.cell (i := 3) rfl)) ?_
  refine vl_call (kit_CopyCounts d.A d.l d.c d.cs _ hd1.1 l1 hl) rfl ?_
  rintro v1 w1 ⟨hL, b1⟩
  obtain ⟨A2, C, rfl, hlC, -, hr⟩ := hL.form
  have hlt := hL.lt
  have hA1 := hA.keep b1
  have hB1 := hB.keep b1
  simp only [World.size_alloc] at hA1 hB1 hL b1 hb1 hlt
  have hml : (d.cs.map rowC).length = d.cs.length := by simp
  refine vl_val (os_fa (o := 3) (k := 0) (by kernel_rfl) rfl) ?_
  refine vl_unit (ou_store Try.sizeOf26 rfl rfl rfl (hA1.cell (i := 3) rfl) (hA1.free _)) ?_
  have hA2 := hA1.set 3 (.slice A2 (d.cs.map rowC).length C)
  have hB2 := Bk.setOther hB1 (show w.heap.size ≠ w.heap.size + 1 by omega) (0 + 3) (.slice A2 (d.cs.map rowC).length C)
  refine vl_nil ?_
  refine v_seq ?_
  refine v_region ?_
  refine vl_val (os_loadB Try.underlying28 rfl (by kernel_rfl) rfl (hA2)) ?_
  refine vl_unit (ou_storeB (by kernel_rfl) rfl rfl hB2 rfl rfl) ?_
  have hB3 := setRow_bk hB2 [.int .i64 d.st, .int .i64 d.sq, .int .i64 d.n, .slice A2 (d.cs.map rowC).length C]
  have k3 : Kb [w.heap.size, w.heap.size + 1] w1 ((w1.setCell ⟨w.heap.size, 0 + 3, none⟩ (.slice A2 (d.cs.map rowC).length C)).setRow (w.heap.size + 1) [Value.int .i64 d.st, .int .i64 d.sq, .int .i64 d.n, .slice A2 (d.cs.map rowC).length C].toArray) := (Kb.set (S := [w.heap.size, w.heap.size + 1]) (by simp) (0 + 3) _).trans (Kb.setRow (S := [w.heap.size, w.heap.size + 1]) (by simp) _) (fun k hk => .inl hk)
  have hL3 := hL.blk (w'' := (w1.setCell ⟨w.heap.size, 0 + 3, none⟩ (.slice A2 (d.cs.map rowC).length C)).setRow (w.heap.size + 1) [Value.int .i64 d.st, .int .i64 d.sq, .int .i64 d.n, .slice A2 (d.cs.map rowC).length C].toArray) (fun k hk => k3.block k (hL.lt k hk).2 (by have := (hL.lt k hk).1; simp; omega))
  have b3 := Kb.below k3 (hb1.trans (b1.mono (by omega))) (fun k hk => by simp at hk; omega) (by have := hA1.lt; omega)
  refine vl_nil ?_
  refine v_ret ?_
  exact post_cell rfl rfl Try.underlying28 rfl (by kernel_rfl) hB3 ⟨⟨d.st, d.sq, d.n, A2, (d.cs.map rowC).length, C, d.cs⟩, rfl, rfl, ⟨OwnP.rdp hL3, hml, by simp only [hml]; omega, hd.2.2.2.1, hd.2.2.2.2⟩, fun a ha => by have := (hlt a.block (by simp only [] at ha; subst ha; rfl)).1; omega, hlC, b3⟩
theorem cell_lt {w : World} {e : NoteV} (h : NoteOk w e) {a : Addr} (ha : e.A = some a) (h0 : 0 < e.cs.length) : a.block < w.heap.size := by
  obtain ⟨b, o, eA, q1, -⟩ := h.1.at2 (i := 0) h0
  rw [ha] at eA
  cases eA
  exact World.block_lt_of_cell? w _ q1
theorem ntCnt_r {d : NoteV} (h : rightN d = true) (k : Int) : ntCnt d k = cntV d.cs k := by unfold ntCnt; rw [h]; rfl
theorem ntSum_r {d : NoteV} (h : rightN d = true) : ntSum d = timesL d.cs := by unfold ntSum; rw [h]; rfl
theorem right_take {d e : NoteV} {i : Nat} (h : RightD d) (h1 : e.st = d.st) (h2 : e.sq = d.sq) (h3 : e.n = d.n) (h4 : e.cs = d.cs.take i) : rightN e = true := right_iff.2 ⟨by rw [h1]; exact h.st, by rw [h2]; exact h.sq, by rw [h3]; exact h.n, by rw [h3, h4]; exact cnt_take h.cnt i⟩
set_option maxHeartbeats 4000000 in
theorem law15_NoteSums (d : NoteV) (came : Int) (w : World) (hd : NoteOk w d) (hc : I64 came) : Gives Try.prog 5 #[.agg d.cells.toArray, .int .i64 came] w fun v w' => v = .bool true ∧ Below w.heap.size w w' := by
  have hB0 := bk_new w d.cells 28
  have hb0 : Below w.heap.size w (w.alloc (.cells d.cells.toArray 28)) := (Below.refl _ w).alloc (Nat.le_refl _) _
  have hl := hd.2.1
  refine gives_enter Try.call5 Try.func5 rfl rfl rfl (by kernel_rfl) ?_
  refine v_seq ?_
  refine v_region ?_
  refine vl_val (os_box rfl) ?_
  refine vl_val (os_assign rfl) ?_
  refine vl_nil ?_
  refine v_seq ?_
  refine v_seq ?_
  refine v_region ?_
  refine vl_call (law15_awake _) rfl ?_
  rintro v1 w1 ⟨rfl, b1⟩
  have hB1 := hB0.keep b1
  have b1w := hb0.trans (b1.mono hb0.size)
  refine vl_val (os_not rfl) ?_
  refine vl_nil ?_
  refine v_cond_f rfl ?_
  refine v_skip ?_
  refine v_seq ?_
  refine v_seq ?_
  refine v_region ?_
  refine vl_val (os_fa (o := 3) (k := 0) (by kernel_rfl) rfl) ?_
  refine vl_val (os_load Try.isAgg26 rfl (hB1.cell (i := 3) rfl)) ?_
  refine vl_val (os_len Try.underlying26 rfl) ?_
  refine vl_val (os_gtr rfl rfl) ?_
  refine vl_nil ?_
  refine v_cond_d rfl (fun hbig => ?_) (fun hbig => ?_)
  · refine v_seq ?_
    refine v_region ?_
    refine vl_val (os_assign rfl) ?_
    refine vl_nil ?_
    refine v_ret ?_
    exact post_ret rfl rfl (⟨rfl, b1w⟩)
  · cases hr : rightN d
    · refine v_skip ?_
      refine v_seq ?_
      refine v_seq ?_
      refine v_region ?_
      refine vl_val (os_loadB Try.underlying28 rfl (by kernel_rfl) rfl (hB1)) ?_
      refine vl_call (gives_boolb (nt_Right d w1 (hd.keep b1w)) hr) rfl ?_
      rintro v2 w2 ⟨rfl, b2⟩
      have b2w := b1w.trans (b2.mono b1w.size)
      refine vl_val (os_not rfl) ?_
      refine vl_nil ?_
      refine v_cond_t rfl ?_
      refine v_seq ?_
      refine v_region ?_
      refine vl_val (os_loadB Try.underlying28 rfl (by kernel_rfl) rfl (hB1.keep b2)) ?_
      refine vl_call (nt_Sum d w2 (hd.keep b2w)) rfl ?_
      rintro v3 w3 ⟨rfl, b3⟩
      have b3w := b2w.trans (b3.mono b2w.size)
      refine vl_val (os_t (os_eql rfl rfl) (by unfold ntSum; rw [hr]; rfl)) ?_
      refine vl_val (os_move rfl) ?_
      refine vl_valg rfl (os_loadB Try.underlying28 rfl (by kernel_rfl) rfl ((hB1.keep b2).keep b3)) ?_
      refine vl_valg rfl (os_move rfl) ?_
      refine vl_callg rfl (nt_Count d came w3 (hd.keep b3w)) rfl ?_
      rintro v4 w4 ⟨rfl, b4⟩
      refine vl_valg rfl (os_eql rfl rfl) ?_
      refine vl_val (os_pick_t rfl rfl) ?_
      refine vl_val (os_assign rfl) ?_
      refine vl_nil ?_
      refine v_ret ?_
      exact post_ret rfl rfl (⟨by rw [show ntCnt d came = 0 by unfold ntCnt; rw [hr]; rfl]; rfl, b3w.trans (b4.mono b3w.size)⟩)
    · have hrd := right_iff.1 hr
      have hnn := hrd.n
      have hcnt := ntCnt_r hr
      have hsum := ntSum_r hr
      have hlen := (cnt_all hrd.cnt).2 (by omega)
      refine v_skip ?_
      refine v_seq ?_
      refine v_seq ?_
      refine v_region ?_
      refine vl_val (os_loadB Try.underlying28 rfl (by kernel_rfl) rfl (hB1)) ?_
      refine vl_call (gives_boolb (nt_Right d w1 (hd.keep b1w)) hr) rfl ?_
      rintro v2 w2 ⟨rfl, b2⟩
      have b2w := b1w.trans (b2.mono b1w.size)
      have hB2 := hB1.keep b2
      obtain ⟨N, hN⟩ : ∃ N : Nat, d.n = (N : Int) := ⟨d.n.toNat, by omega⟩
      refine vl_val (os_not rfl) ?_
      refine vl_nil ?_
      refine v_cond_f rfl ?_
      refine v_skip ?_
      refine v_seq ?_
      refine v_region ?_
      refine vl_val (os_assign rfl) ?_
      refine vl_nil ?_
      refine v_seq ?_
      refine v_seq ?_
      refine v_region ?_
      refine vl_val (os_assign rfl) ?_
      refine vl_nil ?_
      refine v_block ?_
      refine v_loop [(1, _), (2, _)] (fun (k : Nat) => [(5, .int .i64 (sumK (cntV d.cs) k)), (6, .int .i64 ((k : Int) + 1))]) (fun k w' => k ≤ N ∧ Below w2.heap.size w2 w') (fun k => N - k) (0) ⟨rfl, rfl, trivial⟩ ⟨rfl, rfl, trivial⟩ (⟨by omega, Below.refl _ _⟩) ?_
      rintro k w3 ⟨hk, b3⟩
      have hB3 := hB2.keep b3
      have b3w := b2w.trans (b3.mono b2w.size)
      refine v_seq ?_
      refine v_seq ?_
      refine v_region ?_
      refine vl_val (os_move rfl) ?_
      refine vl_val (os_fa (o := 2) (k := 0) (by kernel_rfl) rfl) ?_
      refine vl_val (os_load Try.isAgg3 rfl (hB3.cell (i := 2) rfl)) ?_
      refine vl_val (os_leq rfl rfl) ?_
      refine vl_nil ?_
      by_cases hkN : k < N
      · refine v_cond_yes rfl (by omega) ?_
        refine v_skip ?_
        refine v_seq ?_
        refine v_block ?_
        refine v_region ?_
        refine vl_val (os_move rfl) ?_
        refine vl_val (os_loadB Try.underlying28 rfl (by kernel_rfl) rfl (hB3)) ?_
        refine vl_val (os_move rfl) ?_
        refine vl_call (nt_Count d ((k : Int) + 1) w3 (hd.keep b3w)) rfl ?_
        rintro v4 w4 ⟨rfl, b4⟩
        have hs1 := sumK_bd hrd.cnt k
        have hs2 := cntV_bd hrd.cnt ((k : Int) + 1)
        rw [hcnt]
        refine vl_val (os_addi rfl rfl (by omega)) ?_
        refine vl_val (os_assign rfl) ?_
        refine vl_nil ?_
        refine v_region ?_
        refine vl_val (os_move rfl) ?_
        refine vl_val (os_addi rfl rfl (by omega)) ?_
        refine vl_val (os_assign rfl) ?_
        refine vl_nil ?_
        exact ⟨k + 1, ⟨rfl, rfl, trivial⟩, ⟨rfl, rfl, trivial⟩, ⟨by omega, b3.trans (b4.mono b3.size)⟩, by dsimp only; omega⟩
      · refine v_cond_no rfl (by omega) ?_
        obtain rfl : N = k := by omega
        have hT : sumK (cntV d.cs) N = timesL d.cs := cntV_sum hrd.cnt (by omega) N hN
        rw [hT]
        refine v_exit ?_
        refine v_seq ?_
        refine v_seq ?_
        refine v_region ?_
        refine vl_val (os_assign rfl) ?_
        refine vl_nil ?_
        refine v_block ?_
        refine v_loop [(1, _), (2, _), (5, _)] (fun (i : Nat) => [(7, .int .i64 i)]) (fun i w' => i ≤ d.l ∧ Below w2.heap.size w2 w') (fun i => d.l - i) (0) ⟨rfl, rfl, rfl, trivial⟩ ⟨rfl, trivial⟩ (⟨by omega, b3⟩) ?_
        rintro i w5 ⟨hi, b5⟩
        have hB5 := hB2.keep b5
        have b5w := b2w.trans (b5.mono b2w.size)
        have hd5 := hd.keep b5w
        refine v_seq ?_
        refine v_seq ?_
        refine v_region ?_
        refine vl_val (os_move rfl) ?_
        refine vl_val (os_fa (o := 3) (k := 0) (by kernel_rfl) rfl) ?_
        refine vl_val (os_load Try.isAgg26 rfl (hB5.cell (i := 3) rfl)) ?_
        refine vl_val (os_len Try.underlying26 rfl) ?_
        refine vl_val (os_lss rfl rfl) ?_
        refine vl_nil ?_
        refine v_cond_d rfl (fun hil => ?_) (fun hil => ?_)
        · obtain ⟨b, o, eA, q1, q2, q3⟩ := hd5.1.at2 (i := i) (by omega)
          have hin := cntV_in hrd.cnt (d.cs.getD i (0, 0)) (by rw [List.getD_eq_getElem?_getD, List.getElem?_eq_getElem (by omega)]; exact List.getElem_mem _)
          refine v_skip ?_
          refine v_seq ?_
          refine v_block ?_
          refine v_seq ?_
          refine v_region_t LeG _ mixed (by kernel_rfl) lee_g (leg_start _) ?_
          refine vt_val (fun w hw => os_loadB Try.underlying28 rfl (by kernel_rfl) rfl (hB5.keep hw)) ?_
          refine vt_val (fun w hw => os_fa (o := 3) (k := 0) (by kernel_rfl) rfl) ?_
          refine vt_val (fun w hw => os_load Try.isAgg26 rfl ((hB5.keep hw).cell (i := 3) rfl)) ?_
          refine vt_val (fun w hw => os_move rfl) ?_
          refine vt_val (fun w hw => os_ixs Try.underlying26 Try.sizeOf42 (by rw [eA]; rfl) rfl (i := i) (by omega) (by omega)) ?_
          refine vt_val (fun w hw => os_fa (o := 0) (k := 0) (by kernel_rfl) rfl) ?_
          refine vt_val (fun w hw => os_load Try.isAgg3 rfl (leg_cell hw q1)) ?_
          refine vt_call (v := _) (fun w hw => nt_Count d (d.cs.getD i (0, 0)).1 w (hd5.keep hw)) rfl ?_
          refine vt_val (fun w hw => os_fa (o := 3) (k := 0) (by kernel_rfl) rfl) ?_
          refine vt_val (fun w hw => os_load Try.isAgg26 rfl ((hB5.keep hw).cell (i := 3) rfl)) ?_
          refine vt_val (fun w hw => os_move rfl) ?_
          refine vt_val (fun w hw => os_ixs Try.underlying26 Try.sizeOf42 (by rw [eA]; rfl) rfl (i := i) (by omega) (by omega)) ?_
          refine vt_val (fun w hw => os_fa (o := 1) (k := 0) (by kernel_rfl) rfl) ?_
          refine vt_val (fun w hw => os_load Try.isAgg3 rfl (leg_cell hw q2)) ?_
          refine vt_val (fun w hw => os_neq rfl rfl) ?_
          refine vt_nil (fun Hw H => ?_)
          refine v_cond_no rfl (by rw [hcnt, hin]; simp) ?_
          refine v_skip ?_
          refine v_region ?_
          refine vl_val (os_move rfl) ?_
          refine vl_val (os_addi rfl rfl (by omega)) ?_
          refine vl_val (os_assign rfl) ?_
          refine vl_nil ?_
          exact ⟨i + 1, ⟨rfl, rfl, rfl, trivial⟩, ⟨rfl, trivial⟩, ⟨by omega, b5.trans (H.mono b5.size)⟩, by dsimp only; omega⟩
        · obtain rfl : d.l = i := by omega
          refine v_exit ?_
          refine v_mid [(2, _), (5, _)] (fun (x : Nat) => [(1, .int .i64 came)]) (fun x w' => Below w2.heap.size w2 w') ⟨rfl, rfl, trivial⟩ ?_ ?_
          · rcases (by omega : came < 1 ∨ (1 ≤ came ∧ d.n < came) ∨ (1 ≤ came ∧ came ≤ d.n)) with g | ⟨g, g2⟩ | ⟨g, g2⟩
            · have hout : ntCnt d came = 0 := by rw [hcnt]; exact cntV_out fun c hc => by have := (cnt_all hrd.cnt).1 c hc; omega
              refine v_seq ?_
              refine v_region ?_
              refine vl_val (os_move rfl) ?_
              refine vl_val (os_loadB Try.underlying28 rfl (by kernel_rfl) rfl (hB5)) ?_
              refine vl_call (nt_Sum d w5 hd5) rfl ?_
              rintro v6 w6 ⟨rfl, b6⟩
              refine vl_val (os_f (os_neq rfl rfl) (fun h => h hsum.symm)) ?_
              refine vl_val (os_move rfl) ?_
              refine vl_valg rfl (os_move rfl) ?_
              refine vl_valg rfl (os_t (os_lss rfl rfl) (by omega)) ?_
              refine vl_valg rfl (os_move rfl) ?_
              refine vl_skip rfl rfl ?_
              refine vl_skip rfl rfl ?_
              refine vl_skip rfl rfl ?_
              refine vl_skip rfl rfl ?_
              refine vl_valg rfl (os_pick_t rfl rfl) ?_
              refine vl_valg rfl (os_move rfl) ?_
              refine vl_valg rfl (os_loadB Try.underlying28 rfl (by kernel_rfl) rfl (hB5.keep b6)) ?_
              refine vl_valg rfl (os_move rfl) ?_
              refine vl_callg rfl (nt_Count d came w6 (hd5.keep b6)) rfl ?_
              rintro v7 w7 ⟨rfl, b7⟩
              have b57 := b5.trans ((b6.trans (b7.mono b6.size)).mono b5.size)
              refine vl_valg rfl (os_neq rfl rfl) ?_
              refine vl_valg rfl (os_pick_t rfl rfl) ?_
              refine vl_val (os_pick_f rfl rfl) ?_
              refine vl_nil ?_
              refine v_cond_no rfl (fun h => h hout) ?_
              refine v_skip ?_
              exact ⟨0, ⟨rfl, rfl, trivial⟩, ⟨rfl, trivial⟩, b57⟩
            · have hout : ntCnt d came = 0 := by rw [hcnt]; exact cntV_out fun c hc => by have := (cnt_all hrd.cnt).1 c hc; omega
              refine v_seq ?_
              refine v_region ?_
              refine vl_val (os_move rfl) ?_
              refine vl_val (os_loadB Try.underlying28 rfl (by kernel_rfl) rfl (hB5)) ?_
              refine vl_call (nt_Sum d w5 hd5) rfl ?_
              rintro v6 w6 ⟨rfl, b6⟩
              refine vl_val (os_f (os_neq rfl rfl) (fun h => h hsum.symm)) ?_
              refine vl_val (os_move rfl) ?_
              refine vl_valg rfl (os_move rfl) ?_
              refine vl_valg rfl (os_f (os_lss rfl rfl) (by omega)) ?_
              refine vl_valg rfl (os_move rfl) ?_
              refine vl_valg rfl (os_move rfl) ?_
              refine vl_valg rfl (os_fa (o := 2) (k := 0) (by kernel_rfl) rfl) ?_
              refine vl_valg rfl (os_load Try.isAgg3 rfl ((hB5.keep b6).cell (i := 2) rfl)) ?_
              refine vl_valg rfl (os_t (os_gtr rfl rfl) (by omega)) ?_
              refine vl_valg rfl (os_pick_f rfl rfl) ?_
              refine vl_valg rfl (os_move rfl) ?_
              refine vl_valg rfl (os_loadB Try.underlying28 rfl (by kernel_rfl) rfl (hB5.keep b6)) ?_
              refine vl_valg rfl (os_move rfl) ?_
              refine vl_callg rfl (nt_Count d came w6 (hd5.keep b6)) rfl ?_
              rintro v7 w7 ⟨rfl, b7⟩
              have b57 := b5.trans ((b6.trans (b7.mono b6.size)).mono b5.size)
              refine vl_valg rfl (os_neq rfl rfl) ?_
              refine vl_valg rfl (os_pick_t rfl rfl) ?_
              refine vl_val (os_pick_f rfl rfl) ?_
              refine vl_nil ?_
              refine v_cond_no rfl (fun h => h hout) ?_
              refine v_skip ?_
              exact ⟨0, ⟨rfl, rfl, trivial⟩, ⟨rfl, trivial⟩, b57⟩
            · refine v_seq ?_
              refine v_region ?_
              refine vl_val (os_move rfl) ?_
              refine vl_val (os_loadB Try.underlying28 rfl (by kernel_rfl) rfl (hB5)) ?_
              refine vl_call (nt_Sum d w5 hd5) rfl ?_
              rintro v6 w6 ⟨rfl, b6⟩
              refine vl_val (os_f (os_neq rfl rfl) (fun h => h hsum.symm)) ?_
              refine vl_val (os_move rfl) ?_
              refine vl_valg rfl (os_move rfl) ?_
              refine vl_valg rfl (os_f (os_lss rfl rfl) (by omega)) ?_
              refine vl_valg rfl (os_move rfl) ?_
              refine vl_valg rfl (os_move rfl) ?_
              refine vl_valg rfl (os_fa (o := 2) (k := 0) (by kernel_rfl) rfl) ?_
              refine vl_valg rfl (os_load Try.isAgg3 rfl ((hB5.keep b6).cell (i := 2) rfl)) ?_
              refine vl_valg rfl (os_f (os_gtr rfl rfl) (by omega)) ?_
              refine vl_valg rfl (os_pick_f rfl rfl) ?_
              refine vl_valg rfl (os_move rfl) ?_
              refine vl_skip rfl rfl ?_
              refine vl_skip rfl rfl ?_
              refine vl_skip rfl rfl ?_
              refine vl_skip rfl rfl ?_
              refine vl_valg rfl (os_pick_f rfl rfl) ?_
              refine vl_val (os_pick_f rfl rfl) ?_
              refine vl_nil ?_
              refine v_cond_f rfl ?_
              refine v_skip ?_
              exact ⟨0, ⟨rfl, rfl, trivial⟩, ⟨rfl, trivial⟩, b5.trans (b6.mono b5.size)⟩
          · rintro x w8 b8
            have hB8 := hB2.keep b8
            have b8w := b2w.trans (b8.mono b2w.size)
            have hd8 := hd.keep b8w
            refine v_seq ?_
            refine v_seq ?_
            refine v_region ?_
            refine vl_val (os_fa (o := 3) (k := 0) (by kernel_rfl) rfl) ?_
            refine vl_val (os_load Try.isAgg26 rfl (hB8.cell (i := 3) rfl)) ?_
            refine vl_val (os_len Try.underlying26 rfl) ?_
            refine vl_val (os_eql rfl rfl) ?_
            refine vl_nil ?_
            refine v_cond_d rfl (fun hl0 => ?_) (fun hl0 => ?_)
            · have hcs : d.cs = [] := List.eq_nil_of_length_eq_zero (by omega)
              refine v_seq ?_
              refine v_region ?_
              refine vl_val (os_move rfl) ?_
              refine vl_val (os_eql rfl rfl) ?_
              refine vl_val (os_assign rfl) ?_
              refine vl_nil ?_
              refine v_ret ?_
              exact post_ret rfl rfl (⟨by rw [hcs]; rfl, b8w⟩)
            · refine v_skip ?_
              refine v_seq ?_
              refine v_region ?_
              refine vl_val (os_loadB Try.underlying28 rfl (by kernel_rfl) rfl (hB8)) ?_
              refine vl_call (kit_CopyNote d w8 hd8 (by omega)) rfl ?_
              rintro v9 w9 ⟨e, rfl, hep, he, hlow, hlC, b9⟩
              obtain ⟨p1, p2, p3, p4⟩ := NoteV.p_eq hep
              have p4 : e.cs = d.cs := p4
              have hel := he.2.1
              have hll : e.l = d.l := by rw [hel, p4, hl]
              have b9w := b8w.trans (b9.mono b8w.size)
              refine vl_val (os_allocB Try.zeroValue28 (zc := _) (cs := zN) rfl) ?_
              have hE0 := bk_new w9 zN 28
              have c1 : Below w9.heap.size w9 (w9.alloc (.cells zN.toArray 28)) := (Below.refl _ _).alloc (Nat.le_refl _) _
              refine vl_unit (ou_storeB (by kernel_rfl) rfl rfl hE0 rfl rfl) ?_
              have hE1 := setRow_bk hE0 e.cells
              have c2 := below_setRow c1 (Nat.le_refl _) e.cells.toArray
              obtain ⟨E, hE⟩ : ∃ E, E = w9.heap.size := ⟨_, rfl⟩
              generalize hw10 : (w9.alloc (.cells zN.toArray 28)).setRow w9.heap.size e.cells.toArray = w10 at *
              rw [← hE] at hE1
              rw [← hE]
              have he10 := he.keep c2
              have b10w := b9w.trans (c2.mono b9w.size)
              obtain ⟨b, o, eA, q1, q2, q3⟩ := he10.1.at2 (i := e.l - 1) (by omega)
              have hEl := hE1.lt
              have hz1 : ((e.l : Int) - 1) = ((e.l - 1 : Nat) : Int) := by omega
              refine vl_nil ?_
              refine v_seq ?_
              refine v_region ?_
              refine vl_val (os_fa (o := 3) (k := 0) (by kernel_rfl) rfl) ?_
              refine vl_val (os_load Try.isAgg26 rfl (hE1.cell (i := 3) rfl)) ?_
              refine vl_val (os_fa (o := 3) (k := 0) (by kernel_rfl) rfl) ?_
              refine vl_val (os_load Try.isAgg26 rfl (hE1.cell (i := 3) rfl)) ?_
              refine vl_val (os_len Try.underlying26 rfl) ?_
              refine vl_val (os_subi rfl rfl (by omega)) ?_
              refine vl_val (os_ixs Try.underlying26 Try.sizeOf42 (by rw [eA]; rfl) rfl (i := e.l - 1) (by omega) (by omega)) ?_
              refine vl_val (os_loadP Try.underlying42 rfl (by kernel_rfl) rfl q3) ?_
              refine vl_val (os_allocB Try.zeroValue42 (zc := _) (cs := [.int .i64 0, .int .i64 0]) rfl) ?_
              have hC0 := bk_new w10 [.int .i64 0, .int .i64 0] 42
              have c3 : Below w10.heap.size w10 (w10.alloc (.cells [Value.int .i64 0, .int .i64 0].toArray 42)) := (Below.refl _ _).alloc (Nat.le_refl _) _
              refine vl_unit (ou_storeB (by kernel_rfl) rfl rfl hC0 rfl rfl) ?_
              have hC1 := setRow_bk hC0 (rowC (e.cs.getD (e.l - 1) (0, 0)))
              have c4 := below_setRow c3 (Nat.le_refl _) (rowC (e.cs.getD (e.l - 1) (0, 0))).toArray
              generalize hw11 : (w10.alloc (.cells [Value.int .i64 0, .int .i64 0].toArray 42)).setRow w10.heap.size (rowC (e.cs.getD (e.l - 1) (0, 0))).toArray = w11 at *
              have hE11 := hE1.keep c4
              have he11 := he10.keep c4
              have b11w := b10w.trans (c4.mono b10w.size)
              have hC1l := hC1.lt
              refine vl_nil ?_
              refine v_seq ?_
              refine v_region ?_
              refine vl_val (os_fa (o := 3) (k := 0) (by kernel_rfl) rfl) ?_
              refine vl_val (os_load Try.isAgg26 rfl (hE11.cell (i := 3) rfl)) ?_
              refine vl_val (os_fa (o := 3) (k := 0) (by kernel_rfl) rfl) ?_
              refine vl_val (os_load Try.isAgg26 rfl (hE11.cell (i := 3) rfl)) ?_
              refine vl_val (os_len Try.underlying26 rfl) ?_
              refine vl_val (os_subi rfl rfl (by omega)) ?_
              refine vl_val (os_slice_h Try.underlying26 Try.sizeOf42 rfl rfl (h := e.l - 1) (by omega) (by omega)) ?_
              refine vl_val (os_fa (o := 3) (k := 0) (by kernel_rfl) rfl) ?_
              refine vl_unit (ou_store Try.sizeOf26 rfl rfl rfl (hE11.cell (i := 3) rfl) (hE11.free _)) ?_
              have hE12 : Bk _ E (NoteV.cells ⟨e.st, e.sq, e.n, e.A, e.l - 1, e.c, e.cs.take (e.l - 1)⟩) 28 := hE11.set 3 (.slice e.A (e.l - 1) e.c)
              have kS : Kb [E] w11 (w11.setCell ⟨E, 0 + 3, none⟩ (.slice e.A (e.l - 1) e.c)) := Kb.set (S := [E]) (by simp) _ _
              have hC12 := hC1.kb kS (by simp; omega)
              have b12w := below_set b11w (show w.heap.size ≤ E by have := b9w.size; omega) (0 + 3) (.slice e.A (e.l - 1) e.c)
              have hlow2 := hlow
              have he12 : NoteOk (w11.setCell ⟨E, 0 + 3, none⟩ (.slice e.A (e.l - 1) e.c)) e := he11.blk fun a ha => Below.heap_setCell _ _ _ _ (fun h => by have h1 := cell_lt he ha (by omega); simp at h; omega)
              have he2 : NoteOk (w11.setCell ⟨E, 0 + 3, none⟩ (.slice e.A (e.l - 1) e.c)) ⟨e.st, e.sq, e.n, e.A, e.l - 1, e.c, e.cs.take (e.l - 1)⟩ := ⟨by have := he12.1.take (e.l - 1); rw [← List.map_take] at this; exact this, by simp only [List.length_take]; omega, by have := he.2.2.1; simp only []; omega, he.2.2.2.1, fun x hx => he.2.2.2.2 x (List.mem_of_mem_take hx)⟩
              generalize hw12 : w11.setCell ⟨E, 0 + 3, none⟩ (.slice e.A (e.l - 1) e.c) = w12 at *
              have hse : ntSum ⟨e.st, e.sq, e.n, e.A, e.l - 1, e.c, e.cs.take (e.l - 1)⟩ = timesL (e.cs.take (e.l - 1)) := ntSum_r (right_take hrd p1 p2 p3 (by rw [p4]))
              have hts := times_succ (cs := e.cs) (i := e.l - 1) (by omega)
              rw [List.take_of_length_le (by omega), p4] at hts
              have hta := times_take hrd.cnt (e.l - 1)
              have htb := times_bd hrd.cnt
              rw [p4] at hse hC12
              unfold rowC at hC12
              have hS2 : ∀ w', LeG w12 w' → Gives Try.prog 20 #[.agg (NoteV.cells ⟨e.st, e.sq, e.n, e.A, e.l - 1, e.c, e.cs.take (e.l - 1)⟩).toArray] w' fun v w'' => v = .int .i64 (timesL (d.cs.take (e.l - 1))) ∧ Below w'.heap.size w' w'' := fun w' hw => by rw [← hse, ← p4]; exact nt_Sum _ w' (he2.keep hw)
              refine vl_nil ?_
              refine v_seq ?_
              refine v_region_t LeG _ mixed (by kernel_rfl) lee_g (leg_start _) ?_
              refine vt_val (fun w hw => os_loadB Try.underlying28 rfl (by kernel_rfl) rfl (hE12.keep hw)) ?_
              refine vt_call (v := _) (fun w hw => hS2 w hw) rfl ?_
              refine vt_val (fun w hw => os_fa (o := 1) (k := 0) (by kernel_rfl) rfl) ?_
              refine vt_val (fun w hw => os_load Try.isAgg3 rfl ((hC12.keep hw).cell (i := 1) rfl)) ?_
              refine vt_val (fun w hw => os_addi rfl rfl (by omega)) ?_
              refine vt_val (fun w hw => os_move rfl) ?_
              refine vt_val (fun w hw => os_eql rfl rfl) ?_
              refine vt_val (fun w hw => os_assign rfl) ?_
              refine vt_nil (fun Hw H => ?_)
              refine v_ret ?_
              exact post_ret rfl rfl (⟨by rw [hts]; simp, b12w.trans (H.mono b12w.size)⟩)
end Go.Proofs.Ythaifamjgcfkaaa

/- How a list of structs of two numbers, an argument, opens. -/
namespace Go.Proofs.Ythaifamjgcfkaaa
open Go.ChangeShapes Go.WideShapes Go.ChangeAt Go.RowKit
set_option linter.unusedVariables false
section
variable {H : Type} {enc : TypeId × Value → H} {w : World} {base : Nat} {spare : Nat → Bool} {held : Bool} {fuel : Nat} {cs : List Value} {x : DataW H × List MemPlace}
theorem open_pairRow (h : DataW.trod enc Try.prog w base spare held fuel 74 cs = some x) : ∃ p : Int × Int, rowC p = cs ∧ I64 p.1 ∧ I64 p.2 := by
  obtain ⟨y0, y1, n, rfl, hl, h0, h1⟩ := trod_struct2 Try.underlying74 h
  have hcl : Try.prog.cellsOf 74 = 2 := by kernel_rfl
  have c1 : Try.prog.cellsOf 3 = 1 := by kernel_rfl
  rw [hcl] at hl
  dsimp only at h0 h1
  rw [c1] at h0 h1
  obtain ⟨z0, e0, _, w0⟩ := DataW.trod_int Try.underlying3 h0
  obtain ⟨z1, e1, _, w1⟩ := DataW.trod_int Try.underlying3 h1
  match cs, hl with
  | [v0, v1], _ =>
    simp at e0 e1
    subst e0 e1
    exact ⟨(z0, z1), rfl, i64_of_wf w0, i64_of_wf w1⟩
theorem open_listRow (h : DataW.trod enc Try.prog w base spare held fuel 72 cs = some x) (hw : ∀ m ∈ x.1.weights Try.prog 72, m ≤ reachBytes) :
    ∃ (A : Option Addr) (len cap : Nat) (ps : List (Int × Int)), cs = [.slice A len cap] ∧ RdP w 2 A (ps.map rowC) ∧ len = ps.length ∧ len ≤ cap ∧ len * 16 ≤ 140737488351232 ∧ ∀ p ∈ ps, I64 p.1 ∧ I64 p.2 := by
  obtain ⟨A, len, cap, ps, rfl, h1, h2, h3, h4, h5⟩ := open_parts Try.underlying72 (by kernel_rfl) (by decide : 0 < 2) h hw
  have hb : Try.prog.bytesOf 74 = 16 := by kernel_rfl
  obtain ⟨ds, rfl, hd⟩ := parts_map rowC (fun d => I64 d.1 ∧ I64 d.2) ps (fun c hc => by
    obtain ⟨_, n, y, hy, hyw⟩ := h5 c hc
    exact open_pairRow hy)
  exact ⟨A, len, cap, ds, rfl, h4, by rw [← h1, List.length_map], h2, by rw [hb] at h3; simp only [reachBytes] at h3; exact h3, hd⟩
theorem open_pairCount (h : DataW.trod enc Try.prog w base spare held fuel 42 cs = some x) : ∃ p : Int × Int, rowC p = cs ∧ I64 p.1 ∧ I64 p.2 := by
  obtain ⟨y0, y1, n, rfl, hl, h0, h1⟩ := trod_struct2 Try.underlying42 h
  have hcl : Try.prog.cellsOf 42 = 2 := by kernel_rfl
  have c1 : Try.prog.cellsOf 3 = 1 := by kernel_rfl
  rw [hcl] at hl
  dsimp only at h0 h1
  rw [c1] at h0 h1
  obtain ⟨z0, e0, _, w0⟩ := DataW.trod_int Try.underlying3 h0
  obtain ⟨z1, e1, _, w1⟩ := DataW.trod_int Try.underlying3 h1
  match cs, hl with
  | [v0, v1], _ =>
    simp at e0 e1
    subst e0 e1
    exact ⟨(z0, z1), rfl, i64_of_wf w0, i64_of_wf w1⟩
theorem open_listCount (h : DataW.trod enc Try.prog w base spare held fuel 26 cs = some x) (hw : ∀ m ∈ x.1.weights Try.prog 26, m ≤ reachBytes) :
    ∃ (A : Option Addr) (len cap : Nat) (ps : List (Int × Int)), cs = [.slice A len cap] ∧ RdP w 2 A (ps.map rowC) ∧ len = ps.length ∧ len ≤ cap ∧ len * 16 ≤ 140737488351232 ∧ ∀ p ∈ ps, I64 p.1 ∧ I64 p.2 := by
  obtain ⟨A, len, cap, ps, rfl, h1, h2, h3, h4, h5⟩ := open_parts Try.underlying26 (by kernel_rfl) (by decide : 0 < 2) h hw
  have hb : Try.prog.bytesOf 42 = 16 := by kernel_rfl
  obtain ⟨ds, rfl, hd⟩ := parts_map rowC (fun d => I64 d.1 ∧ I64 d.2) ps (fun c hc => by
    obtain ⟨_, n, y, hy, hyw⟩ := h5 c hc
    exact open_pairCount hy)
  exact ⟨A, len, cap, ds, rfl, h4, by rw [← h1, List.length_map], h2, by rw [hb] at h3; simp only [reachBytes] at h3; exact h3, hd⟩
end
end Go.Proofs.Ythaifamjgcfkaaa

/- How a report, an argument, opens. -/
namespace Go.Proofs.Ythaifamjgcfkaaa
open Go.ChangeShapes Go.WideShapes Go.ChangeAt Go.RowKit
set_option linter.unusedVariables false
section
variable {H : Type} {enc : TypeId × Value → H} {w : World} {base : Nat} {spare : Nat → Bool} {held : Bool} {fuel : Nat} {cs : List Value} {x : DataW H × List MemPlace}
theorem open_note (h : DataW.trod enc Try.prog w base spare held fuel 28 cs = some x) (hw : ∀ m ∈ x.1.weights Try.prog 28, m ≤ reachBytes) : ∃ d : NoteV, d.cells = cs ∧ NoteOk w d := by
  obtain ⟨y0, y1, y2, y3, n, rfl, hl, h0, h1, h2, h3⟩ := Go.Joins.trod_struct4 Try.underlying28 h
  have hcl : Try.prog.cellsOf 28 = 4 := by kernel_rfl
  have c1 : Try.prog.cellsOf 3 = 1 := by kernel_rfl
  have c2 : Try.prog.cellsOf 26 = 1 := by kernel_rfl
  rw [hcl] at hl
  dsimp only at h0 h1 h2 h3
  rw [c1] at h0 h1 h2
  rw [c2] at h3
  obtain ⟨z0, e0, _, w0⟩ := DataW.trod_int Try.underlying3 h0
  obtain ⟨z1, e1, _, w1⟩ := DataW.trod_int Try.underlying3 h1
  obtain ⟨z2, e2, _, w2⟩ := DataW.trod_int Try.underlying3 h2
  have hw3 : ∀ m ∈ y3.1.weights Try.prog 26, m ≤ reachBytes := fun m hm => hw m (by
    simp only [DataW.weights, Try.underlying28, DataW.weightsEach, List.map_cons, List.map_nil, List.mem_append]
    exact .inr (.inr (.inr (.inl hm))))
  obtain ⟨A, l, c, ps, e3, hr, hl2, hlc, hmx, hI⟩ := open_listCount h3 hw3
  match cs, hl with
  | [v0, v1, v2, v3], _ =>
    simp at e0 e1 e2 e3
    subst e0 e1 e2 e3
    exact ⟨⟨z0, z1, z2, A, l, c, ps⟩, rfl, hr, hl2, by simp only []; omega, ⟨i64_of_wf w0, i64_of_wf w1, i64_of_wf w2⟩, hI⟩
end
end Go.Proofs.Ythaifamjgcfkaaa
