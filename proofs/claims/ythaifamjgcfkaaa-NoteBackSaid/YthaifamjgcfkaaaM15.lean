/- Texts joined: SlP SlQ NtZ NtB OpR OpM. -/
import Derived.Test.YthaifamjgcfkaaaM14
import Derived.ChangeSame
/- Layer 7, plain: of what is sealed, of which bits are turned within 32 of them, it is told so. No program in sight. -/
namespace Go.Proofs.Ythaifamjgcfkaaa
open Go.RowKit
set_option linter.unusedVariables false

def rN (x : Nat) : Nat := (x / 2) ^^^ (if x % 2 = 1 then 0xEDB88320 else 0)
def rNs : Nat → Nat → Nat
  | 0, x => x
  | k + 1, x => rNs k (rN x)
def natOf : List Int → Nat
  | [] => 0
  | z :: zs => z.toNat ^^^ (natOf zs <<< 8)
theorem rNs_add (a b x : Nat) : rNs (a + b) x = rNs b (rNs a x) := by
  induction a generalizing x with
  | zero => rw [Nat.zero_add]; rfl
  | succ a ih => rw [show a + 1 + b = (a + b) + 1 by omega]; exact ih (rN x)
theorem rNs_succ (k x : Nat) : rNs (k + 1) x = rN (rNs k x) := rNs_add k 1 x
theorem crcRnd_nat (s : BitVec 32) : (crcRnd s).toNat = rN s.toNat := by
  rw [crcRnd_eq, BitVec.toNat_xor, BitVec.toNat_ushiftRight, Nat.shiftRight_eq_div_pow, Nat.pow_one]
  unfold rN
  congr 1
  have : s.getLsbD 0 = decide (s.toNat % 2 = 1) := by simp [BitVec.getLsbD]
  rw [this]
  by_cases h : s.toNat % 2 = 1 <;> simp [h, crcPoly]
theorem crcRnds_nat (k : Nat) (s : BitVec 32) : (crcRnds k s).toNat = rNs k s.toNat := by
  induction k with
  | zero => rfl
  | succ k ih => rw [rNs_succ, ← ih]; exact crcRnd_nat _
theorem nxor_lc (a b c : Nat) : a ^^^ (b ^^^ c) = b ^^^ (a ^^^ c) := by rw [← Nat.xor_assoc, Nat.xor_comm a b, Nat.xor_assoc]
theorem nxor_cc (a b : Nat) : a ^^^ (a ^^^ b) = b := by rw [← Nat.xor_assoc, Nat.xor_self, Nat.zero_xor]
theorem rN_xor (a b : Nat) : rN (a ^^^ b) = rN a ^^^ rN b := by
  unfold rN
  rw [Nat.xor_div_two]
  have h : (a ^^^ b) % 2 = (a + b) % 2 := by have := @Nat.xor_mod_two_eq_one a b; omega
  generalize a / 2 = x
  generalize b / 2 = y
  rcases Nat.mod_two_eq_zero_or_one a with ha | ha <;> rcases Nat.mod_two_eq_zero_or_one b with hb | hb
  · rw [if_neg (by omega), if_neg (by omega), if_neg (by omega)]; simp
  · rw [if_pos (by omega), if_neg (by omega), if_pos (by omega)]; simp [Nat.xor_assoc]
  · rw [if_pos (by omega), if_pos (by omega), if_neg (by omega), Nat.xor_zero, Nat.xor_assoc, Nat.xor_assoc, Nat.xor_comm y]
  · rw [if_neg (by omega), if_pos (by omega), if_pos (by omega), Nat.xor_zero]
    generalize 0xEDB88320 = p
    rw [Nat.xor_assoc, nxor_lc p y p, Nat.xor_self, Nat.xor_zero]
theorem rNs_xor (k a b : Nat) : rNs k (a ^^^ b) = rNs k a ^^^ rNs k b := by
  induction k generalizing a b with
  | zero => rfl
  | succ k ih => simp only [rNs, rN_xor, ih]
theorem rNs_shift (k x : Nat) : rNs k (x <<< k) = x := by
  induction k with
  | zero => simp [rNs]
  | succ k ih =>
    have h : x <<< (k + 1) = 2 * (x <<< k) := by simp [Nat.shiftLeft_eq, Nat.pow_succ]; rw [← Nat.mul_assoc, Nat.mul_comm]
    have : rN (x <<< (k + 1)) = x <<< k := by
      unfold rN
      rw [h, if_neg (by omega), Nat.mul_div_cancel_left _ (by omega), Nat.xor_zero]
    simp only [rNs, this, ih]
theorem rN_ne {x : Nat} (h : x ≠ 0) (hl : x < 2 ^ 32) : rN x ≠ 0 ∧ rN x < 2 ^ 32 := by
  unfold rN
  refine ⟨fun h0 => ?_, Nat.xor_lt_two_pow (by omega) (by split <;> decide)⟩
  by_cases hx : x % 2 = 1
  · rw [if_pos hx] at h0
    have h1 : (x / 2 ^^^ 0xEDB88320).testBit 31 = false := by rw [h0]; simp
    rw [Nat.testBit_xor, Nat.testBit_lt_two_pow (show x / 2 < 2 ^ 31 by omega)] at h1
    exact absurd h1 (by decide)
  · rw [if_neg hx, Nat.xor_zero] at h0
    omega
theorem rNs_ne (k : Nat) {x : Nat} (h : x ≠ 0) (hl : x < 2 ^ 32) : rNs k x ≠ 0 := by
  induction k generalizing x with
  | zero => exact h
  | succ k ih => exact ih (rN_ne h hl).1 (rN_ne h hl).2
theorem crcRun_nat : ∀ (zs : List Int) (s : BitVec 32), AllB zs → (crcRun s zs).toNat = rNs (8 * zs.length) (s.toNat ^^^ natOf zs)
  | [], s, _ => by simp [crcRun, natOf, rNs]
  | z :: zs, s, h => by
    have hz := h z (by simp)
    have hb : (BitVec.setWidth 32 (BitVec.ofInt 8 z)).toNat = z.toNat := by
      simp [BitVec.toNat_ofInt]; omega
    show (crcRun (crcStep s z) zs).toNat = _
    rw [crcRun_nat zs _ (fun y hy => h y (by simp [hy])), crcStep_rnds, crcRnds_nat, BitVec.toNat_xor, hb]
    rw [show 8 * (z :: zs).length = 8 + 8 * zs.length by simp; omega, rNs_add, natOf, ← Nat.xor_assoc, rNs_xor 8 (s.toNat ^^^ z.toNat), rNs_shift]
theorem cons_add {z M : Nat} (h : z < 256) : z ^^^ (M <<< 8) = z + 256 * M := by
  apply Nat.eq_of_testBit_eq
  intro i
  rw [Nat.add_comm, show 256 * M + z = 2 ^ 8 * M + z from rfl, Nat.testBit_two_pow_mul_add M (show z < 2 ^ 8 from h), Nat.testBit_xor, Nat.testBit_shiftLeft]
  by_cases h8 : i < 8
  · simp [h8, show ¬ 8 ≤ i by omega]
  · have : z.testBit i = false := Nat.testBit_lt_two_pow (Nat.lt_of_lt_of_le h (Nat.pow_le_pow_right (n := 2) (by omega) (show 8 ≤ i by omega)))
    simp [h8, this, show 8 ≤ i by omega]
theorem natOf_le4 (x : BitVec 32) : natOf (le4 x) = x.toNat := by
  have hx := x.isLt
  simp only [le4, natOf, BitVec.toNat_setWidth, BitVec.toNat_ushiftRight, Int.toNat_natCast, Nat.shiftRight_eq_div_pow]
  rw [cons_add (by omega), cons_add (by omega), cons_add (by omega), cons_add (by omega)]
  omega
theorem seal_res (c : List Int) (hc : AllB c) : (crcRun (~~~ 0#32) (sealL c)).toNat = rNs 32 (2 ^ 32 - 1) := by
  unfold sealL
  rw [crcRun_app, crcRun_nat _ _ (le4_B _), natOf_le4, ← BitVec.toNat_xor]
  show rNs (8 * 4) _ = _
  congr 1
  have : crcOf [c] = ~~~ crcRun (~~~ 0#32) c := rfl
  rw [this]
  generalize crcRun (~~~ 0#32) c = x
  have : x ^^^ ~~~ x = BitVec.allOnes 32 := by
    apply BitVec.eq_of_getLsbD_eq
    intro i hi
    rw [BitVec.getLsbD_allOnes, BitVec.getLsbD_xor, BitVec.getLsbD_not]
    cases x.getLsbD i <;> simp [hi]
  rw [this]; decide
theorem seal_burst {b ts : List Int} {W k : Nat} (hb : AllB b) (ht : AllB ts) (hl : ts.length = (sealL b).length) (hn : natOf ts = natOf (sealL b) ^^^ (W <<< k)) (h0 : W ≠ 0) (hW : W < 2 ^ 32) (hk : k ≤ 8 * ts.length) : openE ts = 10 := by
  have h4 : 4 ≤ ts.length := by rw [hl]; simp [sealL, le4]
  unfold openE
  rw [if_neg (by omega), if_neg]
  intro hs
  have e1 := seal_res _ (ht.take (ts.length - 4))
  have e2 := seal_res _ hb
  rw [hs, crcRun_nat _ _ ht, hn, ← Nat.xor_assoc, rNs_xor, hl, ← crcRun_nat _ _ (sealL_B hb), e2] at e1
  have e3 : rNs (8 * (sealL b).length) (W <<< k) = 0 := by
    have := congrArg (fun z => rNs 32 (2 ^ 32 - 1) ^^^ z) e1
    simp only [nxor_cc, Nat.xor_self] at this
    exact this
  rw [show 8 * (sealL b).length = k + (8 * (sealL b).length - k) by omega, rNs_add, rNs_shift] at e3
  exact rNs_ne _ h0 hW e3
theorem natOf_set : ∀ (ts : List Int) (q : Nat) (z' : Int) (r : Nat), q < ts.length → z'.toNat = (ts.getD q 0).toNat ^^^ (1 <<< r) → natOf (ts.set q z') = natOf ts ^^^ (1 <<< (8 * q + r))
  | [], q, z', r, h, _ => by simp at h
  | z :: ts, 0, z', r, h, e => by
    simp only [List.set_cons_zero, natOf, List.getD_cons_zero] at e ⊢
    rw [e, Nat.mul_zero, Nat.zero_add, Nat.xor_assoc, Nat.xor_assoc, Nat.xor_comm (1 <<< r)]
  | z :: ts, q + 1, z', r, h, e => by
    simp only [List.set_cons_succ, natOf, List.getD_cons_succ] at e ⊢
    rw [natOf_set ts q z' r (by simpa using h) e, Nat.shiftLeft_xor_distrib, Nat.xor_assoc, ← Nat.shiftLeft_add, show 8 * q + r + 8 = 8 * (q + 1) + r by omega]
theorem bits_succ (t i : Nat) : t % 2 ^ (i + 1) = if t.testBit i then (t % 2 ^ i) ^^^ (1 <<< i) else t % 2 ^ i := by
  apply Nat.eq_of_testBit_eq
  intro j
  rw [Nat.testBit_mod_two_pow]
  split
  · rename_i h
    rw [Nat.testBit_xor, Nat.testBit_mod_two_pow, Nat.testBit_shiftLeft]
    rcases Nat.lt_trichotomy j i with hj | rfl | hj
    · simp [hj, show j < i + 1 by omega, show ¬ i ≤ j by omega]
    · simp [h]
    · have h1 : (1 : Nat).testBit (j - i) = false := Nat.testBit_lt_two_pow (Nat.one_lt_two_pow (by omega))
      simp [show ¬ j < i by omega, show ¬ j < i + 1 by omega, show i ≤ j by omega, h1]
  · rename_i h
    rw [Nat.testBit_mod_two_pow]
    rcases Nat.lt_trichotomy j i with hj | rfl | hj
    · simp [hj, show j < i + 1 by omega]
    · simp at h; simp [h]
    · simp [show ¬ j < i by omega, show ¬ j < i + 1 by omega]
theorem bits_step {M t i k : Nat} (h : t.testBit i = true) : M ^^^ ((t % 2 ^ (i + 1)) <<< k) = (M ^^^ ((t % 2 ^ i) <<< k)) ^^^ (1 <<< (k + i)) := by
  rw [bits_succ, if_pos h, Nat.shiftLeft_xor_distrib, ← Nat.xor_assoc, ← Nat.shiftLeft_add, Nat.add_comm i k]
theorem bits_ne {t i : Nat} (h : t.testBit i = true) : t % 2 ^ (i + 1) ≠ 0 := fun h0 => by
  have : (t % 2 ^ (i + 1)).testBit i = true := by rw [Nat.testBit_mod_two_pow]; simp [h]
  rw [h0] at this; simp at this
end Go.Proofs.Ythaifamjgcfkaaa

/- Layer 7: the walk of SumSeals. -/
namespace Go.Proofs.Ythaifamjgcfkaaa
open Go.RowKit
set_option linter.unusedVariables false

theorem bit8 (r : Nat) (hr : r < 8) (p : Int) (hp : p = (r : Int)) : IntKind.u8.wrap (1 * 2 ^ min p.toNat IntKind.u8.bits) = (((1#8 <<< r).toNat : Nat) : Int) := by
  subst hp
  rcases (by omega : r = 0 ∨ r = 1 ∨ r = 2 ∨ r = 3 ∨ r = 4 ∨ r = 5 ∨ r = 6 ∨ r = 7) with rfl | rfl | rfl | rfl | rfl | rfl | rfl | rfl <;> decide
/-- a byte, one bit of it turned -/
def flipZ (z : Int) (r : Nat) : Int := ((BitVec.ofInt 8 z ^^^ (1#8 <<< r)).toNat : Int)
theorem flipZ_nat {z : Int} (h : 0 ≤ z ∧ z ≤ 255) {r : Nat} (hr : r < 8) : (flipZ z r).toNat = z.toNat ^^^ (1 <<< r) := by
  have e1 : (BitVec.ofInt 8 z).toNat = z.toNat := by simp [BitVec.toNat_ofInt]; omega
  have e2 : (1#8 <<< r).toNat = 1 <<< r := by
    rcases (by omega : r = 0 ∨ r = 1 ∨ r = 2 ∨ r = 3 ∨ r = 4 ∨ r = 5 ∨ r = 6 ∨ r = 7) with rfl | rfl | rfl | rfl | rfl | rfl | rfl | rfl <;> decide
  show ((((BitVec.ofInt 8 z ^^^ (1#8 <<< r)).toNat : Nat) : Int)).toNat = _
  rw [Int.toNat_natCast, BitVec.toNat_xor, e1, e2]
theorem flipZ_bd (z : Int) (r : Nat) : 0 ≤ flipZ z r ∧ flipZ z r ≤ 255 := by
  unfold flipZ
  have := (BitVec.ofInt 8 z ^^^ (1#8 <<< r)).isLt
  omega
theorem AllB.set {zs : List Int} (h : AllB zs) (i : Nat) {z : Int} (hz : 0 ≤ z ∧ z ≤ 255) : AllB (zs.set i z) := fun y hy => by
  rcases List.mem_or_eq_of_mem_set hy with h1 | rfl
  · exact h y h1
  · exact hz
/-- the bytes t, behind i rounds -/
structure Bent (s : List Int) (T k i : Nat) (ts : List Int) : Prop where
  all : AllB ts
  len : ts.length = s.length
  nat : natOf ts = natOf s ^^^ ((T % 2 ^ i) <<< k)
theorem Bent.zero {s : List Int} (h : AllB s) (T k : Nat) : Bent s T k 0 s := ⟨h, rfl, by simp [Nat.mod_one]⟩
theorem Bent.skip {s ts : List Int} {T k i : Nat} (h : Bent s T k i ts) (hb : T.testBit i = false) : Bent s T k (i + 1) ts := ⟨h.all, h.len, by rw [bits_succ, hb]; exact h.nat⟩
theorem Bent.flip {s ts : List Int} {T k i q r : Nat} (h : Bent s T k i ts) (hb : T.testBit i = true) (hq : q < ts.length) (hr : r < 8) (hk : k + i = 8 * q + r) : Bent s T k (i + 1) (ts.set q (flipZ (ts.getD q 0) r)) :=
  ⟨h.all.set q (flipZ_bd _ _), by rw [List.length_set, h.len], by rw [natOf_set ts q _ r hq (flipZ_nat (h.all.at_ q) hr), h.nat, bits_step hb, hk]⟩
theorem Bent.told {b ts : List Int} {T k i : Nat} (hb : AllB b) (h : Bent (sealL b) T k i ts) (hi : i ≤ 32) (hk : k ≤ 8 * ts.length) (h0 : T % 2 ^ i ≠ 0) : openE ts = 10 :=
  seal_burst hb h.all h.len h.nat h0 (Nat.lt_of_lt_of_le (Nat.mod_lt _ (Nat.two_pow_pos i)) (Nat.pow_le_pow_right (by omega) hi)) hk
theorem bent_t {T i : Nat} (h : T.testBit i = true) : decide (T % 2 ^ (i + 1) ≠ 0) = true := decide_eq_true (bits_ne h)
theorem bent_f {T i : Nat} (h : T.testBit i = false) : decide (T % 2 ^ (i + 1) ≠ 0) = decide (T % 2 ^ i ≠ 0) := by rw [bits_succ, h]; rfl
theorem bit_of (T : BitVec 32) (i : Nat) : (((T >>> i &&& 1#32).toNat : Int) = 1) ↔ T.toNat.testBit i = true := by
  rw [low1]; simp [BitVec.getLsbD_ushiftRight, BitVec.getLsbD]
theorem seal_open {bs : List Int} : openE (sealL bs) = 0 ∧ openV (sealL bs) = bs := by
  have h1 := sealL_len bs
  have h2 : (sealL bs).take ((sealL bs).length - 4) = bs := by rw [h1]; simp [sealL]
  have h3 : openE (sealL bs) = 0 := by unfold openE; rw [if_neg (by omega), h2, if_pos rfl]
  exact ⟨h3, by unfold openV; rw [if_pos h3, h2]⟩

end Go.Proofs.Ythaifamjgcfkaaa

/- Layer 15: the law's own functions, and the walk of NoteParses. -/
namespace Go.Proofs.Ythaifamjgcfkaaa
open Go.RowKit
set_option linter.unusedVariables false

theorem nt_back {q : NoteP} (h : RightQ q) : ntE (sealL (noteB q)) = 0 ∧ ntP (sealL (noteB q)) = q := by
  have h1 := seal_open (bs := noteB q)
  have h2 := note_back h
  have hE : ntE (sealL (noteB q)) = 0 := by unfold ntE; rw [if_neg (fun hh => hh h1.1), h1.2, h2.1]
  exact ⟨hE, by unfold ntP; rw [if_pos hE, h1.2, h2.2.1]⟩
theorem right_pq {d : NoteV} : rightN d = true ↔ RightQ d.p := by rw [rightN_p]; exact rightQ_iff
def awN (A : Option Addr) : NoteV := ⟨1, 2, 3, A, 2, 2, [(2, 1), (3, 5)]⟩
theorem awN_right (A : Option Addr) : rightN (awN A) = true := by show rightP ⟨1, 2, 3, [(2, 1), (3, 5)]⟩ = true; decide
theorem awN_bytes (A : Option Addr) : noteB (awN A).p = [2, 0, 1, 0, 0, 0, 2, 3, 2, 2, 0, 1, 3, 0, 5] := by show noteB ⟨1, 2, 3, [(2, 1), (3, 5)]⟩ = _; decide
set_option maxHeartbeats 4000000 in
theorem law15_awake (w : World) : Gives Try.prog 10 #[] w fun v w' => v = .bool true ∧ Below w.heap.size w w' := by
  refine gives_enter Try.call10 Try.func10 rfl rfl rfl (by kernel_rfl) ?_
  refine v_seq ?_
  refine v_region ?_
  refine vl_val (os_assign rfl) ?_
  refine vl_nil ?_
  refine v_seq ?_
  refine v_region ?_
  refine vl_val (os_build (cs := [.int .i64 2, .int .i64 1]) rfl (by kernel_rfl)) ?_
  refine vl_val (os_build (cs := [.int .i64 3, .int .i64 5]) rfl (by kernel_rfl)) ?_
  refine vl_some (ot_litS (css := [[.int .i64 2, .int .i64 1], [.int .i64 3, .int .i64 5]]) Try.underlying26 Try.sizeOf42 Try.zeroValue42 rfl rfl (by intro c hc; simp at hc; rcases hc with rfl | rfl <;> rfl) (by decide) (by decide) (by decide)) ?_
  rintro v1 w1 ⟨rfl, r1, s1, b1⟩
  refine vl_val (os_build (cs := [.int .i64 1, .int .i64 2, .int .i64 3, .slice (some ⟨w.heap.size, 0, none⟩) 2 2]) rfl (by kernel_rfl)) ?_
  refine vl_val (os_allocB Try.zeroValue28 (zc := _) (cs := zN) rfl) ?_
  have hN0 := bk_new w1 zN 28
  have b2a : Below w1.heap.size w1 (w1.alloc (.cells zN.toArray 28)) := (Below.refl _ _).alloc (Nat.le_refl _) _
  refine vl_unit (ou_storeB (by kernel_rfl) rfl rfl hN0 rfl rfl) ?_
  have hN2 := setRow_bk hN0 [.int .i64 1, .int .i64 2, .int .i64 3, .slice (some ⟨w.heap.size, 0, none⟩) 2 2]
  have b2 := below_setRow b2a (Nat.le_refl _) [Value.int .i64 1, .int .i64 2, .int .i64 3, .slice (some ⟨w.heap.size, 0, none⟩) 2 2].toArray
  have hd1 : NoteOk w1 (awN (some ⟨w.heap.size, 0, none⟩)) := ⟨r1, rfl, (by decide : (2 : Nat) ≤ 9000000000000), ⟨(⟨by decide, by decide⟩ : I64 1), (⟨by decide, by decide⟩ : I64 2), (⟨by decide, by decide⟩ : I64 3)⟩, fun p hp => by simp [awN] at hp; rcases hp with rfl | rfl <;> exact ⟨⟨by decide, by decide⟩, ⟨by decide, by decide⟩⟩⟩
  have hrt := awN_right (some ⟨w.heap.size, 0, none⟩)
  have hby := awN_bytes (some ⟨w.heap.size, 0, none⟩)
  obtain ⟨d, hdd⟩ : ∃ d, d = awN (some ⟨w.heap.size, 0, none⟩) := ⟨_, rfl⟩
  rw [← hdd] at hd1 hrt hby
  have hN2 : Bk ((w1.alloc (.cells zN.toArray 28)).setRow w1.heap.size [Value.int .i64 1, .int .i64 2, .int .i64 3, .slice (some ⟨w.heap.size, 0, none⟩) 2 2].toArray) w1.heap.size d.cells 28 := by rw [hdd]; exact hN2
  generalize hw2 : (w1.alloc (.cells zN.toArray 28)).setRow w1.heap.size [Value.int .i64 1, .int .i64 2, .int .i64 3, .slice (some ⟨w.heap.size, 0, none⟩) 2 2].toArray = w2 at *
  have hd2 := hd1.keep b2
  have b2w : Below w.heap.size w w2 := Below.trans b1 (b2.mono (Below.size b1))
  have hback := nt_back (right_pq.1 hrt)
  have hpV : putV d = sealL (noteB d.p) := by unfold putV; rw [hrt]; rfl
  have hpE : putE d = 0 := by unfold putE; rw [hrt]; rfl
  have hlen : (sealL (noteB d.p)).length = 19 := by rw [sealL_len, hby]; rfl
  refine vl_nil ?_
  refine v_seq ?_
  refine v_region ?_
  refine vl_val (os_loadB Try.underlying28 rfl (by kernel_rfl) rfl (hN2)) ?_
  refine vl_call (nt_Put d w2 hd2) rfl ?_
  rintro v3 w3 ⟨s3, rfl, o3, b3⟩
  rw [hpV] at o3
  obtain ⟨A3, c3, rfl, hc3, hm3, r3, -⟩ := OwnK.form o3
  rw [hlen] at hc3
  rw [hlen, hpE]
  have b3w := b2w.trans (b3.mono b2w.size)
  refine vl_val (os_move rfl) ?_
  refine vl_val (os_extract rfl rfl) ?_
  refine vl_val (os_extract rfl rfl) ?_
  refine vl_val (os_assign rfl) ?_
  refine vl_val (os_assign rfl) ?_
  refine vl_nil ?_
  refine v_seq ?_
  refine v_region ?_
  refine vl_val (os_move rfl) ?_
  refine vl_call (nt_Parse A3 19 c3 (sealL (noteB d.p)) w3 r3 hlen.symm hc3 (by omega) (sealL_B noteB_Y)) rfl ?_
  rintro v4 w4 ⟨e, rfl, he, hde, b4⟩
  rw [hback.1]
  rw [hback.2] at he
  refine vl_val (os_move rfl) ?_
  refine vl_val (os_extract rfl rfl) ?_
  refine vl_val (os_extract rfl rfl) ?_
  refine vl_val (os_allocB Try.zeroValue28 (zc := _) (cs := zN) rfl) ?_
  have hM0 := bk_new w4 zN 28
  have b5a : Below w4.heap.size w4 (w4.alloc (.cells zN.toArray 28)) := (Below.refl _ _).alloc (Nat.le_refl _) _
  refine vl_unit (ou_storeB (by kernel_rfl) rfl rfl hM0 rfl rfl) ?_
  have hM5 := setRow_bk hM0 e.cells
  have b5 := below_setRow b5a (Nat.le_refl _) e.cells.toArray
  generalize hw5 : (w4.alloc (.cells zN.toArray 28)).setRow w4.heap.size e.cells.toArray = w5 at *
  have b35 := b4.trans (b5.mono b4.size)
  have b5w := b3w.trans (b35.mono b3w.size)
  have r5 := r3.keep b35
  have hN5 := (hN2.keep b3).keep b35
  refine vl_val (os_assign rfl) ?_
  refine vl_nil ?_
  refine v_seq ?_
  refine v_region ?_
  refine vl_val (os_move rfl) ?_
  refine vl_val (os_t (os_eql rfl rfl) (rfl)) ?_
  refine vl_val (os_move rfl) ?_
  refine vl_valg rfl (os_move rfl) ?_
  refine vl_valg rfl (os_len Try.underlying22 rfl) ?_
  refine vl_valg rfl (os_t (os_eql rfl rfl) (rfl)) ?_
  refine vl_val (os_pick_t rfl rfl) ?_
  refine vl_val (os_move rfl) ?_
  refine vl_valg rfl (os_move rfl) ?_
  refine vl_valg rfl (os_slice_h Try.underlying22 Try.sizeOf5 rfl rfl (h := 15) (by omega) (by omega)) ?_
  have b6a : Below w5.heap.size w5 (w5.alloc (.cells (([2, 0, 1, 0, 0, 0, 2, 3, 2, 2, 0, 1, 3, 0, 5] : List Int).map (Value.int .u8)).toArray 5)) := (Below.refl _ w5).alloc (Nat.le_refl _) _
  refine vl_valg rfl (os_lit Try.underlying22 Try.sizeOf5 Try.zeroValue5 rfl rfl rfl rfl (by decide)) ?_
  refine vl_callg rfl (gives_boolb (kit_SameBytes A3 _ 15 15 c3 15 ((sealL (noteB d.p)).take 15) [2, 0, 1, 0, 0, 0, 2, 3, 2, 2, 0, 1, 3, 0, 5] _ ((r5.take 15).alloc _) (rd_alloc w5 .u8 [2, 0, 1, 0, 0, 0, 2, 3, 2, 2, 0, 1, 3, 0, 5] 5) (by rw [List.length_take, hlen]; rfl) rfl (by decide) (by decide)) (decide_eq_true (by unfold sealL; rw [List.take_left' (by rw [hby]; rfl), hby]))) rfl ?_
  rintro v6 w6 ⟨rfl, d6⟩
  have b56 : Below w5.heap.size w5 w6 := b6a.trans ((led_below d6).mono b6a.size)
  have b6w := b5w.trans (b56.mono b5w.size)
  have hde6 := (hde.keep b5).keep b56
  have hd6 := (((hd2.keep b3).keep b35).keep b56)
  obtain ⟨q1, q2, q3, q4⟩ := NoteV.p_eq he
  refine vl_val (os_pick_t rfl rfl) ?_
  refine vl_val (os_move rfl) ?_
  refine vl_valg rfl (os_move rfl) ?_
  refine vl_valg rfl (os_t (os_eql rfl rfl) (rfl)) ?_
  refine vl_val (os_pick_t rfl rfl) ?_
  refine vl_val (os_move rfl) ?_
  refine vl_valg rfl (os_loadB Try.underlying28 rfl (by kernel_rfl) rfl (hM5.keep b56)) ?_
  refine vl_valg rfl (os_loadB Try.underlying28 rfl (by kernel_rfl) rfl (hN5.keep b56)) ?_
  refine vl_callg rfl (kit_SameNote e d w6 hde6 hd6 q1 q2 q3 q4) rfl ?_
  rintro v7 w7 ⟨rfl, b7⟩
  refine vl_val (os_pick_t rfl rfl) ?_
  refine vl_val (os_assign rfl) ?_
  refine vl_nil ?_
  refine v_ret ?_
  exact post_ret rfl rfl (⟨rfl, b6w.trans (b7.mono b6w.size)⟩)
set_option maxHeartbeats 4000000 in
theorem law15_parses (A : Option Addr) (n c : Nat) (zs : List Int) (w : World) (ha : Rd w .u8 A zs) (hn : n = zs.length) (hc : n ≤ c) (hn' : n ≤ 1000000) (hz : AllB zs) : Gives Try.prog 11 #[.slice A n c] w fun v w' => v = .bool true ∧ Below w.heap.size w w' := by
  refine gives_enter Try.call11 Try.func11 rfl rfl rfl (by kernel_rfl) ?_
  refine v_seq ?_
  refine v_region ?_
  refine vl_val (os_assign rfl) ?_
  refine vl_nil ?_
  refine v_seq ?_
  refine v_region ?_
  refine vl_val (os_move rfl) ?_
  refine vl_call (kit_LentBytes A n c zs w ha hn (by omega)) rfl ?_
  rintro v1 w1 ⟨hL, b1⟩
  have hL0 := hL
  obtain ⟨g, C, rfl, hC, hCm, -, -, rL⟩ := hL0.form
  refine vl_val (os_assign rfl) ?_
  refine vl_nil ?_
  refine v_seq ?_
  refine v_region ?_
  refine vl_val (os_move rfl) ?_
  refine vl_call (nt_Parse (some ⟨g, 0, none⟩) zs.length C zs w1 rL rfl (by omega) (by omega) hz) rfl ?_
  rintro v2 w2 ⟨d, rfl, hdp, hd, b2⟩
  have b2w := b1.trans (b2.mono b1.size)
  refine vl_val (os_move rfl) ?_
  refine vl_val (os_extract rfl rfl) ?_
  refine vl_val (os_extract rfl rfl) ?_
  refine vl_val (os_allocB Try.zeroValue28 (zc := _) (cs := zN) rfl) ?_
  have hM0 := bk_new w2 zN 28
  have b3a : Below w2.heap.size w2 (w2.alloc (.cells zN.toArray 28)) := (Below.refl _ _).alloc (Nat.le_refl _) _
  refine vl_unit (ou_storeB (by kernel_rfl) rfl rfl hM0 rfl rfl) ?_
  have hM3 := setRow_bk hM0 d.cells
  have b3 := below_setRow b3a (Nat.le_refl _) d.cells.toArray
  generalize hw3 : (w2.alloc (.cells zN.toArray 28)).setRow w2.heap.size d.cells.toArray = w3 at *
  have b3w := b2w.trans (b3.mono b2w.size)
  refine vl_val (os_assign rfl) ?_
  refine vl_nil ?_
  refine v_seq ?_
  refine v_region ?_
  refine vl_val (os_move rfl) ?_
  refine vl_call (ref15_Parse A n c zs w3 (ha.keep b3w) hn hc (by omega) hz) rfl ?_
  rintro v4 w4 ⟨e, rfl, hep, he, b4⟩
  have b4w := b3w.trans (b4.mono b3w.size)
  refine vl_val (os_move rfl) ?_
  refine vl_val (os_extract rfl rfl) ?_
  refine vl_val (os_extract rfl rfl) ?_
  refine vl_val (os_allocB Try.zeroValue28 (zc := _) (cs := zN) rfl) ?_
  have hE0 := bk_new w4 zN 28
  have b5a : Below w4.heap.size w4 (w4.alloc (.cells zN.toArray 28)) := (Below.refl _ _).alloc (Nat.le_refl _) _
  refine vl_unit (ou_storeB (by kernel_rfl) rfl rfl hE0 rfl rfl) ?_
  have hE5 := setRow_bk hE0 e.cells
  have b5 := below_setRow b5a (Nat.le_refl _) e.cells.toArray
  generalize hw5 : (w4.alloc (.cells zN.toArray 28)).setRow w4.heap.size e.cells.toArray = w5 at *
  have b5w := b4w.trans (b5.mono b4w.size)
  have b35 := b4.trans (b5.mono b4.size)
  have b15 := b2.trans ((b3.trans (b35.mono b3.size)).mono b2.size)
  obtain ⟨q1, q2, q3, q4⟩ := NoteV.p_eq (hdp.trans hep.symm)
  refine vl_val (os_assign rfl) ?_
  refine vl_nil ?_
  refine v_seq ?_
  refine v_region ?_
  refine vl_val (os_move rfl) ?_
  refine vl_val (os_move rfl) ?_
  refine vl_val (os_t (os_eql rfl rfl) (rfl)) ?_
  refine vl_val (os_move rfl) ?_
  refine vl_valg rfl (os_loadB Try.underlying28 rfl (by kernel_rfl) rfl (hM3.keep b35)) ?_
  refine vl_valg rfl (os_loadB Try.underlying28 rfl (by kernel_rfl) rfl (hE5)) ?_
  refine vl_callg rfl (kit_SameNote d e w5 ((hd.keep b3).keep b35) (he.keep b5) q1 q2 q3 q4) rfl ?_
  rintro v6 w6 ⟨rfl, b6⟩
  have b6w := b5w.trans (b6.mono b5w.size)
  refine vl_val (os_pick_t rfl rfl) ?_
  refine vl_val (os_move rfl) ?_
  refine vl_valg rfl (os_move rfl) ?_
  refine vl_valg rfl (os_move rfl) ?_
  refine vl_callg rfl (kit_KeptBytes (.slice (some ⟨g, 0, none⟩) zs.length C) w.heap.size A n c zs w6 ((hL.keep b15).keep b6) (ha.keep b6w) hn (by omega)) rfl ?_
  rintro v7 w7 ⟨rfl, d7⟩
  refine vl_val (os_pick_t rfl rfl) ?_
  refine vl_val (os_assign rfl) ?_
  refine vl_nil ?_
  refine v_ret ?_
  exact post_ret rfl rfl (⟨rfl, b6w.trans ((led_below d7).mono b6w.size)⟩)
theorem law15_NoteParses (A : Option Addr) (n c : Nat) (zs : List Int) (w : World) (ha : Rd w .u8 A zs) (hn : n = zs.length) (hc : n ≤ c) (hz : AllB zs) : Gives Try.prog 3 #[.slice A n c] w fun v w' => v = .bool true ∧ Below w.heap.size w w' := by
  refine gives_enter Try.call3 Try.func3 rfl rfl rfl (by kernel_rfl) ?_
  refine v_seq ?_
  refine v_region ?_
  refine vl_val (os_assign rfl) ?_
  refine vl_nil ?_
  refine v_seq ?_
  refine v_seq ?_
  refine v_region ?_
  refine vl_val (os_move rfl) ?_
  refine vl_val (os_len Try.underlying22 rfl) ?_
  refine vl_val (os_gtr rfl rfl) ?_
  refine vl_nil ?_
  refine v_cond_d rfl (fun hbig => ?_) (fun hbig => ?_)
  · refine v_seq ?_
    refine v_region ?_
    refine vl_call (law15_awake w) rfl ?_
    rintro v1 w1 ⟨rfl, b1⟩
    refine vl_val (os_assign rfl) ?_
    refine vl_nil ?_
    refine v_ret ?_
    exact post_ret rfl rfl (⟨rfl, b1⟩)
  · refine v_skip ?_
    refine v_seq ?_
    refine v_region ?_
    refine vl_val (os_move rfl) ?_
    refine vl_call (law15_parses A n c zs w ha hn hc (by omega) hz) rfl ?_
    rintro v1 w1 ⟨rfl, b1⟩
    refine vl_val (os_move rfl) ?_
    refine vl_valg rfl (os_move rfl) ?_
    refine vl_callg rfl (r7_Seal A n c zs w1 (ha.keep b1) hn (by omega) hz) rfl ?_
    rintro v2 w2 ⟨o2, b2⟩
    obtain ⟨A2, c2, rfl, hc2, hm2, r2, -⟩ := OwnK.form o2
    have hl2 := sealL_len zs
    have b2w := b1.trans (b2.mono b1.size)
    refine vl_callg rfl (law15_parses A2 _ c2 (sealL zs) w2 r2 rfl hc2 (by omega) (sealL_B hz)) rfl ?_
    rintro v3 w3 ⟨rfl, b3⟩
    have b3w := b2w.trans (b3.mono b2w.size)
    refine vl_val (os_pick_t rfl rfl) ?_
    refine vl_val (os_move rfl) ?_
    refine vl_callg rfl (law15_awake w3) rfl ?_
    rintro v4 w4 ⟨rfl, b4⟩
    refine vl_val (os_pick_t rfl rfl) ?_
    refine vl_val (os_assign rfl) ?_
    refine vl_nil ?_
    refine v_ret ?_
    exact post_ret rfl rfl (⟨rfl, b3w.trans (b4.mono b3w.size)⟩)
end Go.Proofs.Ythaifamjgcfkaaa

/- Layer 15: the walk of NoteBack. -/
namespace Go.Proofs.Ythaifamjgcfkaaa
open Go.RowKit
set_option linter.unusedVariables false

/-- bytes that are a report -/
theorem nt_forth {zs : List Int} (hz : AllB zs) (h : ntE (sealL zs) = 0) : rightP (ntP (sealL zs)) = true ∧ noteB (ntP (sealL zs)) = zs := by
  have h1 := seal_open (bs := zs)
  have hE : parseE zs = 0 := by unfold ntE at h; rw [if_neg (fun hh => hh h1.1), h1.2] at h; exact h
  have hP : ntP (sealL zs) = noteP zs := by unfold ntP; rw [if_pos h, h1.2]
  unfold parseE at hE
  split at hE
  · cases hE
  · split at hE
    · cases hE
    · rename_i hv
      have hv : numAt zs 0 1 = 2 := by simpa using hv
      split at hE
      · rename_i hg
        rw [Bool.and_eq_true] at hg
        rw [hP]
        exact ⟨hg.2, noteB_of hz hg.1 hv⟩
      · cases hE
theorem AllB.at1 {zs : List Int} (h : AllB zs) (k : Nat) : 0 ≤ zs.getD k 0 ∧ zs.getD k 0 ≤ 255 := AllY.at_ h k
set_option maxHeartbeats 4000000 in
theorem law15_NoteBack (d : NoteV) (A : Option Addr) (n c : Nat) (zs : List Int) (bit : Int) (w : World) (hd : NoteOk w d) (ha : Rd w .u8 A zs) (hn : n = zs.length) (hc : n ≤ c) (hz : AllB zs) (hm9 : n ≤ 200000000000000) : Gives Try.prog 4 #[.agg d.cells.toArray, .slice A n c, .int .i64 bit] w fun v w' => v = .bool true ∧ Below w.heap.size w w' := by
  have hB0 := bk_new w d.cells 28
  have hb0 : Below w.heap.size w (w.alloc (.cells d.cells.toArray 28)) := (Below.refl _ w).alloc (Nat.le_refl _) _
  have hl := hd.2.1
  have hl9 := hd.2.2.1
  refine gives_enter Try.call4 Try.func4 rfl rfl rfl (by kernel_rfl) ?_
  refine v_seq ?_
  refine v_region ?_
  refine vl_val (os_box rfl) ?_
  refine vl_val (os_assign rfl) ?_
  refine vl_nil ?_
  refine v_seq ?_
  refine v_seq ?_
  refine v_region ?_
  refine vl_call (law15_awake _) rfl ?_
  rintro v1 w1 ⟨rfl, b1⟩
  have hB1 := hB0.keep b1
  have b1w := hb0.trans (b1.mono hb0.size)
  have hR0 := hB1.lt
  refine vl_val (os_not rfl) ?_
  refine vl_nil ?_
  refine v_cond_f rfl ?_
  refine v_skip ?_
  refine v_seq ?_
  refine v_seq ?_
  refine v_region ?_
  refine vl_val (os_fa (o := 3) (k := 0) (by kernel_rfl) rfl) ?_
  refine vl_val (os_load Try.isAgg26 rfl (hB1.cell (i := 3) rfl)) ?_
  refine vl_val (os_len Try.underlying26 rfl) ?_
  refine vl_val (os_move rfl) ?_
  refine vl_val (os_len Try.underlying22 rfl) ?_
  refine vl_val (os_addi rfl rfl (by omega)) ?_
  refine vl_val (os_gtr rfl rfl) ?_
  refine vl_nil ?_
  refine v_cond_d rfl (fun hbig => ?_) (fun hbig => ?_)
  · refine v_seq ?_
    refine v_region ?_
    refine vl_val (os_assign rfl) ?_
    refine vl_nil ?_
    refine v_ret ?_
    exact post_ret rfl rfl (⟨rfl, b1w⟩)
  · have hsl := sealL_len zs
    refine v_skip ?_
    refine v_seq ?_
    refine v_region ?_
    refine vl_val (os_move rfl) ?_
    refine vl_call (sum_Seal A n c zs w1 (ha.keep b1w) hn hc (by omega) hz) rfl ?_
    rintro v2 w2 ⟨o2, b2⟩
    obtain ⟨A2, c2, rfl, hc2, hm2, r2, -⟩ := OwnK.form o2
    have b2w := b1w.trans (b2.mono b1w.size)
    refine vl_call (nt_Parse A2 _ c2 (sealL zs) w2 r2 rfl hc2 (by omega) (sealL_B hz)) rfl ?_
    rintro v3 w3 ⟨m, rfl, hmp, hm, b3⟩
    have b3w := b2w.trans (b3.mono b2w.size)
    refine vl_val (os_move rfl) ?_
    refine vl_val (os_extract rfl rfl) ?_
    refine vl_val (os_extract rfl rfl) ?_
    refine vl_val (os_allocB Try.zeroValue28 (zc := _) (cs := zN) rfl) ?_
    have hM0 := bk_new w3 zN 28
    have c1 : Below w3.heap.size w3 (w3.alloc (.cells zN.toArray 28)) := (Below.refl _ _).alloc (Nat.le_refl _) _
    refine vl_unit (ou_storeB (by kernel_rfl) rfl rfl hM0 rfl rfl) ?_
    have hM4 := setRow_bk hM0 m.cells
    have c2' := below_setRow c1 (Nat.le_refl _) m.cells.toArray
    generalize hw4 : (w3.alloc (.cells zN.toArray 28)).setRow w3.heap.size m.cells.toArray = w4 at *
    have hm4 := hm.keep c2'
    have b4w := b3w.trans (c2'.mono b3w.size)
    have hB4 : Bk w4 w.heap.size d.cells 28 := hB1.keep (b2.trans ((b3.trans (c2'.mono b3.size)).mono b2.size))
    refine vl_val (os_assign rfl) ?_
    refine vl_nil ?_
    refine v_mid [(3, _)] (fun (x : Nat) => [(2, .int .i64 bit)]) (fun x w' => Below w4.heap.size w4 w') ⟨rfl, trivial⟩ ?_ ?_
    · by_cases he : ntE (sealL zs) = 0
      · obtain ⟨f1, f2⟩ := nt_forth hz he
        rw [← hmp] at f1 f2
        have hmr : rightN m = true := by rw [rightN_p]; exact f1
        have hpV : putV m = sealL zs := by unfold putV; rw [hmr, f2]; rfl
        have hpE : putE m = 0 := by unfold putE; rw [hmr]; rfl
        refine v_seq ?_
        refine v_region ?_
        refine vl_val (os_move rfl) ?_
        refine vl_val (os_eql rfl rfl) ?_
        refine vl_nil ?_
        refine v_cond_yes rfl (he) ?_
        refine v_seq ?_
        refine v_region ?_
        refine vl_val (os_loadB Try.underlying28 rfl (by kernel_rfl) rfl (hM4)) ?_
        refine vl_call (nt_Put m w4 hm4) rfl ?_
        rintro v5 w5 ⟨s5, rfl, o5, b5⟩
        rw [hpV] at o5
        rw [hpE]
        obtain ⟨A5, c5, rfl, hc5, hm5, r5, -⟩ := OwnK.form o5
        have b5w := b4w.trans (b5.mono b4w.size)
        refine vl_val (os_move rfl) ?_
        refine vl_val (os_extract rfl rfl) ?_
        refine vl_val (os_extract rfl rfl) ?_
        refine vl_val (os_assign rfl) ?_
        refine vl_val (os_assign rfl) ?_
        refine vl_nil ?_
        refine v_seq ?_
        refine v_region ?_
        refine vl_val (os_move rfl) ?_
        refine vl_val (os_f (os_neq rfl rfl) (by decide)) ?_
        refine vl_val (os_move rfl) ?_
        refine vl_valg rfl (os_move rfl) ?_
        refine vl_valg rfl (os_move rfl) ?_
        refine vl_callg rfl (sum_Seal A n c zs w5 (ha.keep b5w) hn hc (by omega) hz) rfl ?_
        rintro v6 w6 ⟨o6, b6⟩
        obtain ⟨A6, c6, rfl, hc6, hm6, r6, -⟩ := OwnK.form o6
        refine vl_callg rfl (gives_boolb (kit_SameBytes A5 A6 _ _ c5 c6 (sealL zs) (sealL zs) w6 (r5.keep b6) r6 rfl rfl (by omega) (by omega)) (decide_eq_true rfl)) rfl ?_
        rintro v7 w7 ⟨rfl, d7⟩
        have b57 : Below w5.heap.size w5 w7 := b6.trans ((led_below d7).mono b6.size)
        have b47 := b5.trans (b57.mono b5.size)
        refine vl_valg rfl (os_not rfl) ?_
        refine vl_val (os_pick_f rfl rfl) ?_
        refine vl_val (os_move rfl) ?_
        refine vl_valg rfl (os_loadB Try.underlying28 rfl (by kernel_rfl) rfl (hM4.keep b47)) ?_
        refine vl_callg rfl (gives_boolb (nt_Right m w7 (hm4.keep b47)) hmr) rfl ?_
        rintro v8 w8 ⟨rfl, b8⟩
        refine vl_valg rfl (os_not rfl) ?_
        refine vl_val (os_pick_f rfl rfl) ?_
        refine vl_nil ?_
        refine v_cond_f rfl ?_
        refine v_skip ?_
        exact ⟨0, ⟨rfl, trivial⟩, ⟨rfl, trivial⟩, b47.trans (b8.mono b47.size)⟩
      · refine v_seq ?_
        refine v_region ?_
        refine vl_val (os_move rfl) ?_
        refine vl_val (os_eql rfl rfl) ?_
        refine vl_nil ?_
        refine v_cond_no rfl (he) ?_
        refine v_skip ?_
        exact ⟨0, ⟨rfl, trivial⟩, ⟨rfl, trivial⟩, Below.refl _ _⟩
    · rintro x w9 b9
      have hB9 := hB4.keep b9
      have b9w := b4w.trans (b9.mono b4w.size)
      have hd9 := hd.keep b9w
      cases hr : rightN d
      · have hpE : putE d = 2 := by unfold putE; rw [hr]; rfl
        have hpV : putV d = [] := by unfold putV; rw [hr]; rfl
        refine v_seq ?_
        refine v_region ?_
        refine vl_val (os_loadB Try.underlying28 rfl (by kernel_rfl) rfl (hB9)) ?_
        refine vl_call (nt_Put d w9 hd9) rfl ?_
        rintro v10 w10 ⟨s10, rfl, o10, b10⟩
        rw [hpV] at o10
        rw [hpE]
        obtain ⟨A10, c10, rfl, -, -, -, -⟩ := OwnK.form o10
        refine vl_val (os_move rfl) ?_
        refine vl_val (os_extract rfl rfl) ?_
        refine vl_val (os_extract rfl rfl) ?_
        refine vl_val (os_assign rfl) ?_
        refine vl_val (os_assign rfl) ?_
        refine vl_nil ?_
        refine v_seq ?_
        refine v_seq ?_
        refine v_region ?_
        refine vl_val (os_move rfl) ?_
        refine vl_val (os_neq rfl rfl) ?_
        refine vl_nil ?_
        refine v_cond_yes rfl (by decide) ?_
        refine v_seq ?_
        refine v_region ?_
        refine vl_val (os_move rfl) ?_
        refine vl_val (os_t (os_eql rfl rfl) (by decide)) ?_
        refine vl_val (os_move rfl) ?_
        refine vl_valg rfl (os_move rfl) ?_
        refine vl_valg rfl (os_len Try.underlying22 rfl) ?_
        refine vl_valg rfl (os_t (os_eql rfl rfl) (by decide)) ?_
        refine vl_val (os_pick_t rfl rfl) ?_
        refine vl_val (os_move rfl) ?_
        refine vl_valg rfl (os_loadB Try.underlying28 rfl (by kernel_rfl) rfl (hB9.keep b10)) ?_
        refine vl_callg rfl (nt_Right d w10 (hd9.keep b10)) rfl ?_
        rintro v11 w11 ⟨rfl, b11⟩
        have b10w := b9w.trans (b10.mono b9w.size)
        refine vl_valg rfl (os_not rfl) ?_
        refine vl_val (os_pick_t rfl rfl) ?_
        refine vl_val (os_assign rfl) ?_
        refine vl_nil ?_
        refine v_ret ?_
        exact post_ret rfl rfl (⟨by rw [hr]; rfl, b10w.trans (b11.mono b10w.size)⟩)
      · have hpE : putE d = 0 := by unfold putE; rw [hr]; rfl
        have hpV : putV d = sealL (noteB d.p) := by unfold putV; rw [hr]; rfl
        have hback := nt_back (right_pq.1 hr)
        have hSl : (sealL (noteB d.p)).length = 13 + 3 * d.l := by rw [sealL_len, noteB_len, hl]; show 9 + 3 * d.cs.length + 4 = _; omega
        have hSB := sealL_B (noteB_Y (q := d.p))
        refine v_seq ?_
        refine v_region ?_
        refine vl_val (os_loadB Try.underlying28 rfl (by kernel_rfl) rfl (hB9)) ?_
        refine vl_call (nt_Put d w9 hd9) rfl ?_
        rintro v10 w10 ⟨s10, rfl, o10, b10⟩
        rw [hpV] at o10
        rw [hpE]
        obtain ⟨g, c10, rfl, hc10, hm10, hg10, hgl10⟩ := OwnK.row o10 (by omega)
        have r10 := OwnK.rd o10
        have hBS := Bent.zero hSB 1
        have hSl2 := hSl
        generalize hS : sealL (noteB d.p) = S at *
        have b10w := b9w.trans (b10.mono b9w.size)
        refine vl_val (os_move rfl) ?_
        refine vl_val (os_extract rfl rfl) ?_
        refine vl_val (os_extract rfl rfl) ?_
        refine vl_val (os_assign rfl) ?_
        refine vl_val (os_assign rfl) ?_
        refine vl_nil ?_
        refine v_seq ?_
        refine v_seq ?_
        refine v_region ?_
        refine vl_val (os_move rfl) ?_
        refine vl_val (os_neq rfl rfl) ?_
        refine vl_nil ?_
        refine v_cond_no rfl (by decide) ?_
        refine v_skip ?_
        refine v_seq ?_
        refine v_region ?_
        refine vl_val (os_move rfl) ?_
        refine vl_call (nt_Parse (some ⟨g, 0, none⟩) S.length c10 S w10 r10 rfl (by omega) (by omega) hSB) rfl ?_
        rintro v11 w11 ⟨x, rfl, hxp, hx, b11⟩
        rw [hback.1]
        rw [hback.2] at hxp
        have b11w := b10w.trans (b11.mono b10w.size)
        refine vl_val (os_move rfl) ?_
        refine vl_val (os_extract rfl rfl) ?_
        refine vl_val (os_extract rfl rfl) ?_
        refine vl_val (os_allocB Try.zeroValue28 (zc := _) (cs := zN) rfl) ?_
        have hX0 := bk_new w11 zN 28
        have e1 : Below w11.heap.size w11 (w11.alloc (.cells zN.toArray 28)) := (Below.refl _ _).alloc (Nat.le_refl _) _
        refine vl_unit (ou_storeB (by kernel_rfl) rfl rfl hX0 rfl rfl) ?_
        have hX12 := setRow_bk hX0 x.cells
        have e2 := below_setRow e1 (Nat.le_refl _) x.cells.toArray
        generalize hw12 : (w11.alloc (.cells zN.toArray 28)).setRow w11.heap.size x.cells.toArray = w12 at *
        have b12w := b11w.trans (e2.mono b11w.size)
        have b1012 := b11.trans (e2.mono b11.size)
        have hB12 := (hB9.keep b10).keep b1012
        obtain ⟨q1, q2, q3, q4⟩ := NoteV.p_eq hxp
        refine vl_val (os_assign rfl) ?_
        refine vl_nil ?_
        refine v_seq ?_
        refine v_seq ?_
        refine v_region ?_
        refine vl_val (os_move rfl) ?_
        refine vl_val (os_f (os_neq rfl rfl) (by decide)) ?_
        refine vl_val (os_move rfl) ?_
        refine vl_valg rfl (os_loadB Try.underlying28 rfl (by kernel_rfl) rfl (hX12)) ?_
        refine vl_valg rfl (os_loadB Try.underlying28 rfl (by kernel_rfl) rfl (hB12)) ?_
        refine vl_callg rfl (kit_SameNote x d w12 (hx.keep e2) (hd.keep b12w) q1 q2 q3 q4) rfl ?_
        rintro v13 w13 ⟨rfl, b13⟩
        refine vl_valg rfl (os_not rfl) ?_
        refine vl_val (os_pick_f rfl rfl) ?_
        refine vl_val (os_move rfl) ?_
        refine vl_valg rfl (os_move rfl) ?_
        refine vl_valg rfl (os_len Try.underlying22 rfl) ?_
        refine vl_valg rfl (os_fa (o := 3) (k := 0) (by kernel_rfl) rfl) ?_
        refine vl_valg rfl (os_load Try.isAgg26 rfl ((hB12.keep b13).cell (i := 3) rfl)) ?_
        refine vl_valg rfl (os_len Try.underlying26 rfl) ?_
        refine vl_valg rfl (os_muli rfl rfl (by omega)) ?_
        refine vl_valg rfl (os_addi rfl rfl (by omega)) ?_
        refine vl_valg rfl (os_neq rfl rfl) ?_
        refine vl_val (os_pick_f rfl rfl) ?_
        refine vl_nil ?_
        refine v_cond_no rfl (by omega) ?_
        have b13w := b12w.trans (b13.mono b12w.size)
        refine v_skip ?_
        refine v_seq ?_
        refine v_region ?_
        refine vl_val (os_move rfl) ?_
        refine vl_val (os_move rfl) ?_
        refine vl_val (os_len Try.underlying22 rfl) ?_
        refine vl_val (os_muli rfl rfl (by omega)) ?_
        refine vl_call (kit_Pick bit (8 * S.length) w13 (by omega)) rfl ?_
        rintro v14 w13 ⟨rfl, rfl⟩
        have p1 : 0 ≤ pickV bit (8 * S.length) ∧ pickV bit (8 * S.length) < 8 * S.length := by unfold pickV; rw [if_neg (by omega)]; have := Int.emod_nonneg bit (show (8 : Int) * S.length ≠ 0 by omega); have := Int.emod_lt_of_pos bit (show 0 < (8 : Int) * S.length by omega); omega
        obtain ⟨k, hk⟩ : ∃ k : Nat, pickV bit (8 * S.length) = k := ⟨(pickV bit (8 * S.length)).toNat, by omega⟩
        rw [hk]
        obtain ⟨q, r, hr8, hq⟩ : ∃ q r, r < 8 ∧ k = 8 * q + r := ⟨k / 8, k % 8, by omega, by omega⟩
        have hql : q < S.length := by omega
        have b1013 := b1012.trans (b13.mono b1012.size)
        have o13 : OwnK w13 w9.heap.size 5 .u8 (.slice (some ⟨g, 0, none⟩) S.length c10) S := Own.keepAll o10 b1013
        have hzq := hSB.at1 q
        have hglo := (World.ownsRow.lt o10 g rfl).1
        have hcell : World.cell? (w13.drewN 1) ⟨g, 0 + q, none⟩ = some (.int .u8 (S.getD q 0)) := by rw [Nat.zero_add]; exact OwnK.cell (Own.led o13 ⟨1, rfl⟩ : OwnK (w13.drewN 1) _ _ _ _ _) hql
        refine vl_val (os_assign rfl) ?_
        refine vl_nil ?_
        refine v_seq ?_
        refine v_region_a mixed ?_
        refine va_pure 0 rfl (by kernel_rfl) (by kernel_rfl) (by kernel_rfl) (fun w => (os_move rfl)) ?_
        refine va_pure 1 rfl (by kernel_rfl) (by kernel_rfl) (by kernel_rfl) (fun w => (os_move rfl)) ?_
        refine va_pure 2 rfl (by kernel_rfl) (by kernel_rfl) (by kernel_rfl) (fun w => (os_quoi rfl rfl (by omega))) ?_
        refine va_pure 3 rfl (by kernel_rfl) (by kernel_rfl) (by kernel_rfl) (fun w => (os_move rfl)) ?_
        refine va_pure 4 rfl (by kernel_rfl) (by kernel_rfl) (by kernel_rfl) (fun w => (os_move rfl)) ?_
        refine va_pure 5 rfl (by kernel_rfl) (by kernel_rfl) (by kernel_rfl) (fun w => (os_quoi rfl rfl (by omega))) ?_
        refine va_pure 6 rfl (by kernel_rfl) (by kernel_rfl) (by kernel_rfl) (fun w => (os_ix Try.underlying22 Try.sizeOf5 rfl rfl (i := q) (by omega) (by omega))) ?_
        refine va_pure 8 rfl (by kernel_rfl) (by kernel_rfl) (by kernel_rfl) (fun w => (os_move rfl)) ?_
        refine va_pure 9 rfl (by kernel_rfl) (by kernel_rfl) (by kernel_rfl) (fun w => (os_remi rfl rfl (by omega))) ?_
        refine va_pure 10 rfl (by kernel_rfl) (by kernel_rfl) (by kernel_rfl) (fun w => (os_shl rfl rfl (by omega) (bit8 r hr8 _ (by omega)))) ?_
        refine va_one 7 (by kernel_rfl) ?_
        refine vn_val rfl (os_load Try.isAgg5 rfl (hcell)) ?_
        refine va_pure 11 rfl (by kernel_rfl) (by kernel_rfl) (by kernel_rfl) (fun w => (os_xor8 (BitVec.ofInt 8 (S.getD q 0)) (1#8 <<< r) rfl (u8_int hzq.1 hzq.2).symm rfl rfl)) ?_
        refine va_pure 12 rfl (by kernel_rfl) (by kernel_rfl) (by kernel_rfl) (fun w => (os_ix Try.underlying22 Try.sizeOf5 rfl rfl (i := q) (by omega) (by omega))) ?_
        refine va_one 13 (by kernel_rfl) ?_
        refine vn_unit rfl (ou_store Try.sizeOf5 rfl rfl rfl (hcell) ((Own.free (Own.led o13 ⟨1, rfl⟩) _))) ?_
        have o15 : OwnK ((w13.drewN 1).setCell ⟨g, 0 + q, none⟩ (.int .u8 (flipZ (S.getD q 0) r))) w9.heap.size 5 .u8 (.slice (some ⟨g, 0, none⟩) S.length c10) (S.set q (flipZ (S.getD q 0) r)) := by rw [Nat.zero_add]; exact OwnK.set (Own.led o13 ⟨1, rfl⟩ : OwnK (w13.drewN 1) _ _ _ _ _) q _
        have b15w := below_set (b13w.trans ((led_below (⟨1, rfl⟩ : LeD w13 (w13.drewN 1))).mono b13w.size)) (show w.heap.size ≤ g by have := b9w.size; omega) (0 + q) (.int .u8 (flipZ (S.getD q 0) r))
        have hbt := (hBS k).flip (q := q) (r := r) (by decide) hql hr8 (by omega)
        have e10 : openE (S.set q (flipZ (S.getD q 0) r)) = 10 := by rw [← hS] at hbt ⊢; exact hbt.told noteB_Y (by decide) (by rw [List.length_set, hS]; omega) (by decide)
        have hE10 : ntE (S.set q (flipZ (S.getD q 0) r)) = 10 := by unfold ntE; rw [e10, if_pos (by decide)]
        refine va_done (by kernel_rfl) ?_
        refine v_seq ?_
        refine v_region ?_
        refine vl_val (os_move rfl) ?_
        refine vl_call (nt_Parse (some ⟨g, 0, none⟩) S.length c10 (S.set q (flipZ (S.getD q 0) r)) _ (OwnK.rd o15) (by simp) (by omega) (by omega) hbt.all) rfl ?_
        rintro v16 w16 ⟨y, rfl, hyp, hy, b16⟩
        rw [hE10]
        have b16w := b15w.trans (b16.mono b15w.size)
        refine vl_val (os_move rfl) ?_
        refine vl_val (os_extract rfl rfl) ?_
        refine vl_val (os_extract rfl rfl) ?_
        refine vl_val (os_allocB Try.zeroValue28 (zc := _) (cs := zN) rfl) ?_
        have hY0 := bk_new w16 zN 28
        refine vl_unit (ou_storeB (by kernel_rfl) rfl rfl hY0 rfl rfl) ?_
        refine vl_val (os_assign rfl) ?_
        refine vl_nil ?_
        refine v_seq ?_
        refine v_region ?_
        refine vl_val (os_move rfl) ?_
        refine vl_val (os_eql rfl rfl) ?_
        refine vl_val (os_assign rfl) ?_
        refine vl_nil ?_
        refine v_ret ?_
        exact post_ret rfl rfl (⟨rfl, below_setRow (b16w.alloc b16w.size _) b16w.size _⟩)
end Go.Proofs.Ythaifamjgcfkaaa

/- How a list of structs of two numbers, an argument, opens. -/
namespace Go.Proofs.Ythaifamjgcfkaaa
open Go.ChangeShapes Go.WideShapes Go.ChangeAt Go.RowKit
set_option linter.unusedVariables false
section
variable {H : Type} {enc : TypeId × Value → H} {w : World} {base : Nat} {spare : Nat → Bool} {held : Bool} {fuel : Nat} {cs : List Value} {x : DataW H × List MemPlace}
theorem open_pairRow (h : DataW.trod enc Try.prog w base spare held fuel 74 cs = some x) : ∃ p : Int × Int, rowC p = cs ∧ I64 p.1 ∧ I64 p.2 := by
  obtain ⟨y0, y1, n, rfl, hl, h0, h1⟩ := trod_struct2 Try.underlying74 h
  have hcl : Try.prog.cellsOf 74 = 2 := by kernel_rfl
  have c1 : Try.prog.cellsOf 3 = 1 := by kernel_rfl
  rw [hcl] at hl
  dsimp only at h0 h1
  rw [c1] at h0 h1
  obtain ⟨z0, e0, _, w0⟩ := DataW.trod_int Try.underlying3 h0
  obtain ⟨z1, e1, _, w1⟩ := DataW.trod_int Try.underlying3 h1
  match cs, hl with
  | [v0, v1], _ =>
    simp at e0 e1
    subst e0 e1
    exact ⟨(z0, z1), rfl, i64_of_wf w0, i64_of_wf w1⟩
theorem open_listRow (h : DataW.trod enc Try.prog w base spare held fuel 72 cs = some x) (hw : ∀ m ∈ x.1.weights Try.prog 72, m ≤ reachBytes) :
    ∃ (A : Option Addr) (len cap : Nat) (ps : List (Int × Int)), cs = [.slice A len cap] ∧ RdP w 2 A (ps.map rowC) ∧ len = ps.length ∧ len ≤ cap ∧ len * 16 ≤ 140737488351232 ∧ ∀ p ∈ ps, I64 p.1 ∧ I64 p.2 := by
  obtain ⟨A, len, cap, ps, rfl, h1, h2, h3, h4, h5⟩ := open_parts Try.underlying72 (by kernel_rfl) (by decide : 0 < 2) h hw
  have hb : Try.prog.bytesOf 74 = 16 := by kernel_rfl
  obtain ⟨ds, rfl, hd⟩ := parts_map rowC (fun d => I64 d.1 ∧ I64 d.2) ps (fun c hc => by
    obtain ⟨_, n, y, hy, hyw⟩ := h5 c hc
    exact open_pairRow hy)
  exact ⟨A, len, cap, ds, rfl, h4, by rw [← h1, List.length_map], h2, by rw [hb] at h3; simp only [reachBytes] at h3; exact h3, hd⟩
theorem open_pairCount (h : DataW.trod enc Try.prog w base spare held fuel 42 cs = some x) : ∃ p : Int × Int, rowC p = cs ∧ I64 p.1 ∧ I64 p.2 := by
  obtain ⟨y0, y1, n, rfl, hl, h0, h1⟩ := trod_struct2 Try.underlying42 h
  have hcl : Try.prog.cellsOf 42 = 2 := by kernel_rfl
  have c1 : Try.prog.cellsOf 3 = 1 := by kernel_rfl
  rw [hcl] at hl
  dsimp only at h0 h1
  rw [c1] at h0 h1
  obtain ⟨z0, e0, _, w0⟩ := DataW.trod_int Try.underlying3 h0
  obtain ⟨z1, e1, _, w1⟩ := DataW.trod_int Try.underlying3 h1
  match cs, hl with
  | [v0, v1], _ =>
    simp at e0 e1
    subst e0 e1
    exact ⟨(z0, z1), rfl, i64_of_wf w0, i64_of_wf w1⟩
theorem open_listCount (h : DataW.trod enc Try.prog w base spare held fuel 26 cs = some x) (hw : ∀ m ∈ x.1.weights Try.prog 26, m ≤ reachBytes) :
    ∃ (A : Option Addr) (len cap : Nat) (ps : List (Int × Int)), cs = [.slice A len cap] ∧ RdP w 2 A (ps.map rowC) ∧ len = ps.length ∧ len ≤ cap ∧ len * 16 ≤ 140737488351232 ∧ ∀ p ∈ ps, I64 p.1 ∧ I64 p.2 := by
  obtain ⟨A, len, cap, ps, rfl, h1, h2, h3, h4, h5⟩ := open_parts Try.underlying26 (by kernel_rfl) (by decide : 0 < 2) h hw
  have hb : Try.prog.bytesOf 42 = 16 := by kernel_rfl
  obtain ⟨ds, rfl, hd⟩ := parts_map rowC (fun d => I64 d.1 ∧ I64 d.2) ps (fun c hc => by
    obtain ⟨_, n, y, hy, hyw⟩ := h5 c hc
    exact open_pairCount hy)
  exact ⟨A, len, cap, ds, rfl, h4, by rw [← h1, List.length_map], h2, by rw [hb] at h3; simp only [reachBytes] at h3; exact h3, hd⟩
end
end Go.Proofs.Ythaifamjgcfkaaa

/- How a report, an argument, opens. -/
namespace Go.Proofs.Ythaifamjgcfkaaa
open Go.ChangeShapes Go.WideShapes Go.ChangeAt Go.RowKit
set_option linter.unusedVariables false
section
variable {H : Type} {enc : TypeId × Value → H} {w : World} {base : Nat} {spare : Nat → Bool} {held : Bool} {fuel : Nat} {cs : List Value} {x : DataW H × List MemPlace}
theorem open_note (h : DataW.trod enc Try.prog w base spare held fuel 28 cs = some x) (hw : ∀ m ∈ x.1.weights Try.prog 28, m ≤ reachBytes) : ∃ d : NoteV, d.cells = cs ∧ NoteOk w d := by
  obtain ⟨y0, y1, y2, y3, n, rfl, hl, h0, h1, h2, h3⟩ := Go.Joins.trod_struct4 Try.underlying28 h
  have hcl : Try.prog.cellsOf 28 = 4 := by kernel_rfl
  have c1 : Try.prog.cellsOf 3 = 1 := by kernel_rfl
  have c2 : Try.prog.cellsOf 26 = 1 := by kernel_rfl
  rw [hcl] at hl
  dsimp only at h0 h1 h2 h3
  rw [c1] at h0 h1 h2
  rw [c2] at h3
  obtain ⟨z0, e0, _, w0⟩ := DataW.trod_int Try.underlying3 h0
  obtain ⟨z1, e1, _, w1⟩ := DataW.trod_int Try.underlying3 h1
  obtain ⟨z2, e2, _, w2⟩ := DataW.trod_int Try.underlying3 h2
  have hw3 : ∀ m ∈ y3.1.weights Try.prog 26, m ≤ reachBytes := fun m hm => hw m (by
    simp only [DataW.weights, Try.underlying28, DataW.weightsEach, List.map_cons, List.map_nil, List.mem_append]
    exact .inr (.inr (.inr (.inl hm))))
  obtain ⟨A, l, c, ps, e3, hr, hl2, hlc, hmx, hI⟩ := open_listCount h3 hw3
  match cs, hl with
  | [v0, v1, v2, v3], _ =>
    simp at e0 e1 e2 e3
    subst e0 e1 e2 e3
    exact ⟨⟨z0, z1, z2, A, l, c, ps⟩, rfl, hr, hl2, by simp only []; omega, ⟨i64_of_wf w0, i64_of_wf w1, i64_of_wf w2⟩, hI⟩
end
end Go.Proofs.Ythaifamjgcfkaaa
