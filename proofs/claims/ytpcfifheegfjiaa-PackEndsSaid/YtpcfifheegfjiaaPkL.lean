/- Layer 8: the example, a number's bytes; the walk of PackOne. -/
import Derived.Test.YtpcfifheegfjiaaPkC
import Derived.Test.YtpcfifheegfjiaaKitS
import Derived.Test.YtpcfifheegfjiaaKitP
namespace Go.Proofs.Ytpcfifheegfjiaa
open Go.RowKit
set_option linter.unusedVariables false

theorem wr_lit : wrBytes [] 0 258 2 = [1, 2] ∧ wrErr 0 258 2 = 0 := by decide
theorem blocks_low {B g : Nat} {v : Value} {bs : List Int} {e : Int} {t : TypeId} {w : World} (h : WrS w B t g v bs e) : ∀ k ∈ WrS.blocks g v, B ≤ k := by
  intro k hk
  unfold WrS.blocks at hk
  rcases List.mem_cons.1 hk with rfl | h1
  · exact h.low
  · have h2 : v.ownBlock = some k := by simpa using h1
    exact (World.ownsRow.lt h.own k h2).1
set_option maxHeartbeats 2000000 in
theorem law08_awake (w : World) : Gives Try.prog 38 #[] w fun v w' => v = .bool true ∧ Below w.heap.size w w' := by
  refine gives_enter Try.call38 Try.func38 rfl rfl rfl (by kernel_rfl) ?_
  refine v_seq ?_
  refine v_region ?_
  refine vl_val (os_assign rfl) ?_
  refine vl_nil ?_
  refine v_seq ?_
  refine v_region ?_
  refine vl_call (pk_New w) rfl ?_
  rintro u1 w1 ⟨g, rfl, h1, b1⟩
  refine vl_val (os_assign rfl) ?_
  refine vl_nil ?_
  refine v_seq ?_
  refine v_region ?_
  refine vl_val (os_move rfl) ?_
  refine vl_call (pk_Number g _ [] 0 258 2 w.heap.size w1 h1 b1.size (by simp)) rfl ?_
  rintro u2 w2 ⟨v2, h2, k2, o2⟩
  rw [wr_lit.1, wr_lit.2] at h2
  have b2 := k2.below b1 (blocks_low h1) b1.size
  refine vl_nil ?_
  refine v_seq ?_
  refine v_region ?_
  refine vl_val (os_move rfl) ?_
  refine vl_call (pk_Bytes g v2 [1, 2] 0 w.heap.size w2 h2 (by simp)) rfl ?_
  rintro u3 w3 ⟨s3, rfl, o3, b3⟩
  have b23 := b2.trans (b3.mono b2.size)
  rw [if_pos rfl] at o3
  obtain ⟨A3, c3, rfl, _, _, r3, _⟩ := OwnK.form o3
  refine vl_val (os_move rfl) ?_
  refine vl_val (os_extract rfl rfl) ?_
  refine vl_val (os_extract rfl rfl) ?_
  refine vl_val (os_assign rfl) ?_
  refine vl_val (os_assign rfl) ?_
  refine vl_nil ?_
  refine v_seq ?_
  refine v_region ?_
  refine vl_val (os_move rfl) ?_
  refine vl_call (pk_Over A3 _ c3 [1, 2] w3 r3 rfl (by simp)) rfl ?_
  rintro u4 w4 ⟨g4, v4, rfl, h4, b4⟩
  have b24 := b23.trans (b4.mono b23.size)
  refine vl_val (os_assign rfl) ?_
  refine vl_nil ?_
  refine v_seq ?_
  refine v_region ?_
  refine vl_val (os_move rfl) ?_
  refine vl_val (os_t (os_eql rfl rfl) (rfl)) ?_
  have ba : Below w4.heap.size w4 (w4.alloc (.cells ([1, 2].map (Value.int .u8)).toArray 5)) := (Below.refl _ _).alloc (Nat.le_refl _) _
  refine vl_val (os_move rfl) ?_
  refine vl_valg rfl (os_move rfl) ?_
  refine vl_valg rfl (os_lit Try.underlying22 Try.sizeOf5 Try.zeroValue5 rfl rfl rfl rfl (by decide)) ?_
  refine vl_callg rfl ((kit_SameBytes A3 _ _ _ c3 _ [1, 2] [1, 2] _ ((r3.keep b4).keep ba) (rd_alloc w4 .u8 [1, 2] 5) rfl rfl (by simp) (by simp)).mono fun v w' hh => (⟨by rw [hh.1]; rfl, hh.2⟩ : v = .bool true ∧ LeD _ w')) rfl ?_
  rintro v5 w5 ⟨rfl, d5⟩
  have b5 := ba.trans ((led_below d5).mono ba.size)
  have b25 := b24.trans (b5.mono b24.size)
  have h5 := h4.keep b5
  refine vl_val (os_pick_t rfl rfl) ?_
  refine vl_val (os_move rfl) ?_
  refine vl_valg rfl (os_move rfl) ?_
  refine vl_callg rfl (pk_RNumber g4 v4 [1, 2] 0 1 w3.heap.size w5 h5 (by have := b4.size; have := b5.size; omega) (by simp) (by intro z hz; simp at hz; omega)) rfl ?_
  rintro u6 w6 ⟨v6, rfl, h6, k6, e6⟩
  have b6 := k6.below b25 (by intro k hk; have := h4.low; have := b23.size; simp at hk; omega) b25.size
  refine vl_valg rfl (os_t (os_eql rfl rfl) (by decide)) ?_
  refine vl_val (os_pick_t rfl rfl) ?_
  refine vl_val (os_move rfl) ?_
  refine vl_valg rfl (os_move rfl) ?_
  refine vl_callg rfl (pk_RNumber g4 v6 [2] 0 1 w3.heap.size w6 h6 (by have := k6.size; have := b4.size; have := b5.size; omega) (by simp) (by intro z hz; simp at hz; omega)) rfl ?_
  rintro u7 w7 ⟨v7, rfl, h7, k7, e7⟩
  have b7 := k7.below b6 (by intro k hk; have := h4.low; have := b23.size; simp at hk; omega) b6.size
  refine vl_valg rfl (os_t (os_eql rfl rfl) (by decide)) ?_
  refine vl_val (os_pick_t rfl rfl) ?_
  refine vl_val (os_move rfl) ?_
  refine vl_valg rfl (os_move rfl) ?_
  refine vl_callg rfl (pk_Left g4 v7 [] 0 w3.heap.size w7 h7) rfl ?_
  rintro u8 w7 ⟨rfl, rfl⟩
  refine vl_valg rfl (os_t (os_eql rfl rfl) (by decide)) ?_
  refine vl_val (os_pick_t rfl rfl) ?_
  refine vl_val (os_move rfl) ?_
  refine vl_valg rfl (os_move rfl) ?_
  refine vl_callg rfl (pk_End g4 v7 [] 0 w3.heap.size w7 h7) rfl ?_
  rintro u9 w7 ⟨rfl, rfl⟩
  refine vl_valg rfl (os_eql rfl rfl) ?_
  refine vl_val (os_pick_t rfl rfl) ?_
  refine vl_val (os_assign rfl) ?_
  refine vl_nil ?_
  refine v_ret ?_
  exact post_ret rfl rfl (⟨by rfl, b7⟩)

/-! ### bytes as texts, which of two is less -/
section
variable {P : Program} {n : Nat} {fr : Fr} {w : World} {ty : TypeId} {x y z : Operand} {T T2 e : TypeId}
theorem os_string {A : Option Addr} {l c : Nat} {zs : List Int} (hs : P.underlying T = some (.slice e)) (he : P.underlying e = some (.int .u8)) (hd : P.underlying T2 = some .string) (hx : Fr.ev fr x = some (.slice A l c)) (hr : Rd w .u8 A zs) (hl : zs.length = l) (h0 : 0 < l) :
    OS P n (.convert T T2 x) ty fr w (.string (strOfNums zs)) w := os_of fun a ha => by
  obtain ⟨b, o, rfl, hc⟩ := hr (by omega)
  have := run_convert_bytes_arg (P := P) w T e hs he b o l c zs hl (fun i hi => hc i (by omega)) T2 hd
  simp [execOp, ha.ev hx, this]
theorem os_lss_string {a b : ByteArray} (hx : Fr.ev fr x = some (.string a)) (hy : Fr.ev fr y = some (.string b)) : OS P n (.binOp .lss T x y T2) ty fr w (.bool (Op.bytesLess a.toList b.toList)) w := os_of fun a ha => by
  simp [execOp, ha.ev hx, ha.ev hy, eqGuard, binOp, Op.stringOp]
end
def valOf : List Int → Int
  | [] => 0
  | x :: r => x * 256 ^ r.length + valOf r
theorem numOf_acc : ∀ (bs : List Int) (a : Int), bs.foldl (fun n b => n * 256 + b) a = a * 256 ^ bs.length + valOf bs
  | [], a => by simp [valOf]
  | b :: r, a => by
    rw [List.foldl_cons, numOf_acc r, valOf, List.length_cons, Int.pow_succ]
    have : (a * 256 + b) * 256 ^ r.length = a * (256 ^ r.length * 256) + b * 256 ^ r.length := by
      rw [Int.add_mul, Int.mul_assoc, Int.mul_comm 256]
    omega
theorem numOf_val (bs : List Int) : numOf bs = valOf bs := by rw [numOf, numOf_acc]; simp
theorem val_bound (bs : List Int) (h : AllY bs) : 0 ≤ valOf bs ∧ valOf bs < 256 ^ bs.length := by
  rw [← numOf_val]; exact numOf_bound bs h
theorem less_val : ∀ (xs ys : List Int), xs.length = ys.length → AllY xs → AllY ys → Op.bytesLess (xs.map fun n => UInt8.ofNat n.toNat) (ys.map fun n => UInt8.ofNat n.toNat) = decide (valOf xs < valOf ys)
  | [], [], _, _, _ => by simp [Op.bytesLess, valOf]
  | x :: xs, y :: ys, hl, hx, hy => by
    have ih := less_val xs ys (by simpa using hl) (fun z hz => hx z (by simp [hz])) (fun z hz => hy z (by simp [hz]))
    have bx := val_bound xs (fun z hz => hx z (by simp [hz]))
    have by' := val_bound ys (fun z hz => hy z (by simp [hz]))
    have hl' : xs.length = ys.length := by simpa using hl
    have h1 := hx x (by simp)
    have h2 := hy y (by simp)
    simp only [List.map_cons, Op.bytesLess, ih, valOf]
    have hq : (256 : Int) ^ xs.length = 256 ^ ys.length := by rw [hl']
    rw [hq] at bx
    simp only [hq]
    have t8 : ∀ z : Int, 0 ≤ z ∧ z ≤ 255 → (UInt8.ofNat z.toNat).toNat = z.toNat := fun z hz => UInt8.toNat_ofNat_of_lt (by show z.toNat < 256; omega)
    have e1 : (UInt8.ofNat x.toNat < UInt8.ofNat y.toNat) ↔ x < y := by
      rw [UInt8.lt_iff_toNat_lt, t8 x h1, t8 y h2]; omega
    have e2 : (UInt8.ofNat x.toNat == UInt8.ofNat y.toNat) = decide (x = y) := by
      rw [Bool.eq_iff_iff, beq_iff_eq, decide_eq_true_iff, ← UInt8.toNat_inj, t8 x h1, t8 y h2]; omega
    rw [e2]
    generalize (256 : Int) ^ ys.length = Q at bx by' ⊢
    rcases Int.lt_trichotomy x y with h | h | h
    · have : x * Q + valOf xs < y * Q + valOf ys := by
        have : (x + 1) * Q ≤ y * Q := Int.mul_le_mul_of_nonneg_right (by omega) (by omega)
        rw [Int.add_mul] at this; omega
      simp [e1.2 h, this]
    · subst h
      have e3 : decide (UInt8.ofNat x.toNat < UInt8.ofNat x.toNat) = false := decide_eq_false (fun hh => by have := e1.1 hh; omega)
      rw [e3]
      simp
    · have : ¬ x * Q + valOf xs < y * Q + valOf ys := by
        have : (y + 1) * Q ≤ x * Q := Int.mul_le_mul_of_nonneg_right (by omega) (by omega)
        rw [Int.add_mul] at this; omega
      have e3 : ¬ UInt8.ofNat x.toNat < UInt8.ofNat y.toNat := fun hh => by have := e1.1 hh; omega
      simp [e3, this, show ¬ x = y by omega]
theorem numOf_numBytes {n : Int} {s : Nat} (hs : 1 ≤ s ∧ s ≤ 4) (hn : 0 ≤ n ∧ n < 256 ^ s) : numOf (numBytes n s) = n := by
  rcases (by omega : s = 1 ∨ s = 2 ∨ s = 3 ∨ s = 4) with rfl | rfl | rfl | rfl <;> simp [numOf, numBytes, List.range_succ] <;> omega
theorem numBytes_Y (n : Int) (s : Nat) : AllY (numBytes n s) := by
  intro z hz
  unfold numBytes at hz
  obtain ⟨k, _, rfl⟩ := List.mem_map.1 hz
  omega

def oneB (n size : Int) : List Int := if fitsB n size then numBytes n size.toNat else []
theorem oneB_Y (n size : Int) : AllY (oneB n size) := by unfold oneB; split; exact numBytes_Y _ _; intro z hz; cases hz
theorem oneB_len (n size : Int) : (oneB n size).length ≤ 4 := by
  unfold oneB
  split
  · rename_i h
    have := of_decide_eq_true h
    rw [numBytes_len]; omega
  · simp
def oneE (n size : Int) : Int := if fitsB n size then 0 else 2
theorem wr_one (n size : Int) : wrBytes [] 0 n size = oneB n size ∧ wrErr 0 n size = oneE n size := by
  unfold wrBytes wrErr oneB oneE
  cases fitsB n size <;> simp
theorem law08_one (n size : Int) (w : World) : Gives Try.prog 53 #[.int .i64 n, .int .i64 size] w fun v w' => ∃ s, v = .tuple #[s, .int .i64 (oneE n size)] ∧ OwnK w' w.heap.size 5 .u8 s (oneB n size) ∧ Below w.heap.size w w' := by
  refine gives_enter Try.call53 Try.func53 rfl rfl rfl (by kernel_rfl) ?_
  refine v_seq ?_
  refine v_region ?_
  refine vl_val (os_assign rfl) ?_
  refine vl_val (os_assign rfl) ?_
  refine vl_nil ?_
  refine v_seq ?_
  refine v_region ?_
  refine vl_call (pk_New w) rfl ?_
  rintro u1 w1 ⟨g, rfl, h1, b1⟩
  refine vl_val (os_assign rfl) ?_
  refine vl_nil ?_
  refine v_seq ?_
  refine v_region ?_
  refine vl_val (os_move rfl) ?_
  refine vl_val (os_move rfl) ?_
  refine vl_val (os_move rfl) ?_
  refine vl_call (pk_Number g _ [] 0 n size w.heap.size w1 h1 b1.size (by simp)) rfl ?_
  rintro u2 w2 ⟨v2, h2, k2, o2⟩
  rw [(wr_one n size).1, (wr_one n size).2] at h2
  have b2 := k2.below b1 (blocks_low h1) b1.size
  refine vl_nil ?_
  refine v_seq ?_
  refine v_region ?_
  refine vl_val (os_move rfl) ?_
  refine vl_call (pk_Bytes g v2 (oneB n size) (oneE n size) w.heap.size w2 h2 (by have := oneB_len n size; omega)) rfl ?_
  rintro u3 w3 ⟨s3, rfl, o3, b3⟩
  have e3 : (if oneE n size = 0 then oneB n size else []) = oneB n size := by unfold oneE oneB; split <;> simp
  rw [e3] at o3
  refine vl_val (os_extract rfl rfl) ?_
  refine vl_val (os_extract rfl rfl) ?_
  refine vl_val (os_assign rfl) ?_
  refine vl_val (os_assign rfl) ?_
  refine vl_nil ?_
  refine v_ret ?_
  exact post_ret2 rfl rfl rfl (⟨s3, rfl, Own.mono o3 b2.size, b2.trans (b3.mono b2.size)⟩)
set_option maxHeartbeats 2000000 in
theorem law08_PackOne (m n size : Int) (w : World) : Gives Try.prog 11 #[.int .i64 m, .int .i64 n, .int .i64 size] w fun v w' => v = .bool true ∧ Below w.heap.size w w' := by
  refine gives_enter Try.call11 Try.func11 rfl rfl rfl (by kernel_rfl) ?_
  refine v_seq ?_
  refine v_region ?_
  refine vl_val (os_assign rfl) ?_
  refine vl_nil ?_
  refine v_seq ?_
  refine v_seq ?_
  refine v_region ?_
  refine vl_call (law08_awake w) rfl ?_
  rintro u1 w1 ⟨rfl, b1⟩
  refine vl_val (os_not rfl) ?_
  refine vl_nil ?_
  refine v_cond_f rfl ?_
  refine v_skip ?_
  refine v_seq ?_
  refine v_region ?_
  refine vl_val (os_move rfl) ?_
  refine vl_val (os_move rfl) ?_
  refine vl_call (law08_one m size w1) rfl ?_
  rintro u2 w2 ⟨s2, rfl, o2, b2⟩
  obtain ⟨A2, c2, rfl, _, _, r2, _⟩ := OwnK.form o2
  have b12 := b1.trans (b2.mono b1.size)
  refine vl_val (os_move rfl) ?_
  refine vl_val (os_extract rfl rfl) ?_
  refine vl_val (os_extract rfl rfl) ?_
  refine vl_val (os_assign rfl) ?_
  refine vl_val (os_assign rfl) ?_
  refine vl_nil ?_
  refine v_seq ?_
  refine v_region ?_
  refine vl_val (os_move rfl) ?_
  refine vl_val (os_move rfl) ?_
  refine vl_call (law08_one n size w2) rfl ?_
  rintro u3 w3 ⟨s3, rfl, o3, b3⟩
  obtain ⟨A3, c3, rfl, _, _, r3, _⟩ := OwnK.form o3
  have b13 := b12.trans (b3.mono b12.size)
  have r2 := r2.keep b3
  refine vl_val (os_move rfl) ?_
  refine vl_val (os_extract rfl rfl) ?_
  refine vl_val (os_extract rfl rfl) ?_
  refine vl_val (os_assign rfl) ?_
  refine vl_val (os_assign rfl) ?_
  refine vl_nil ?_
  rcases (by cases fitsB m size <;> cases fitsB n size <;> simp : (fitsB m size = false ∧ fitsB n size = false) ∨ (fitsB m size = false ∧ fitsB n size = true) ∨ (fitsB m size = true ∧ fitsB n size = false) ∨ (fitsB m size = true ∧ fitsB n size = true)) with ⟨f1, f2⟩ | ⟨f1, f2⟩ | ⟨f1, f2⟩ | ⟨f1, f2⟩
  · have e1 : oneE m size = 2 := by rw [oneE, f1]; rfl
    have e2 : oneE n size = 2 := by rw [oneE, f2]; rfl
    have e3 : oneB m size = [] := by rw [oneB, f1]; rfl
    have e4 : oneB n size = [] := by rw [oneB, f2]; rfl
    rw [e1, e2, e3, e4]
    refine v_seq ?_
    refine v_seq ?_
    refine v_region ?_
    refine vl_val (os_move rfl) ?_
    refine vl_val (os_t (os_neq rfl rfl) (by omega)) ?_
    refine vl_val (os_move rfl) ?_
    refine vl_skip rfl rfl ?_
    refine vl_skip rfl rfl ?_
    refine vl_val (os_pick_t rfl rfl) ?_
    refine vl_nil ?_
    refine v_cond_t rfl ?_
    refine v_seq ?_
    refine v_region ?_
    refine vl_val (os_move rfl) ?_
    refine vl_val (os_f (os_eql rfl rfl) (by omega)) ?_
    refine vl_val (os_move rfl) ?_
    refine vl_valg rfl (os_move rfl) ?_
    refine vl_valg rfl (os_t (os_eql rfl rfl) (by omega)) ?_
    refine vl_valg rfl (os_move rfl) ?_
    refine vl_valg rfl (os_move rfl) ?_
    refine vl_valg rfl (os_len Try.underlying22 rfl) ?_
    refine vl_valg rfl (os_t (os_eql rfl rfl) (by simp)) ?_
    refine vl_valg rfl (os_pick_t rfl rfl) ?_
    refine vl_val (os_pick_f rfl rfl) ?_
    refine vl_val (os_move rfl) ?_
    refine vl_valg rfl (os_move rfl) ?_
    refine vl_valg rfl (os_f (os_eql rfl rfl) (by omega)) ?_
    refine vl_valg rfl (os_move rfl) ?_
    refine vl_valg rfl (os_move rfl) ?_
    refine vl_valg rfl (os_t (os_eql rfl rfl) (by omega)) ?_
    refine vl_valg rfl (os_move rfl) ?_
    refine vl_valg rfl (os_move rfl) ?_
    refine vl_valg rfl (os_len Try.underlying22 rfl) ?_
    refine vl_valg rfl (os_t (os_eql rfl rfl) (by simp)) ?_
    refine vl_valg rfl (os_pick_t rfl rfl) ?_
    refine vl_valg rfl (os_pick_f rfl rfl) ?_
    refine vl_val (os_pick_t rfl rfl) ?_
    refine vl_val (os_assign rfl) ?_
    refine vl_nil ?_
    refine v_ret ?_
    exact post_ret rfl rfl (⟨by rfl, b13⟩)
  · have e1 : oneE m size = 2 := by rw [oneE, f1]; rfl
    have e2 : oneE n size = 0 := by rw [oneE, f2]; rfl
    have e3 : oneB m size = [] := by rw [oneB, f1]; rfl
    rw [e1, e2, e3]
    refine v_seq ?_
    refine v_seq ?_
    refine v_region ?_
    refine vl_val (os_move rfl) ?_
    refine vl_val (os_t (os_neq rfl rfl) (by omega)) ?_
    refine vl_val (os_move rfl) ?_
    refine vl_skip rfl rfl ?_
    refine vl_skip rfl rfl ?_
    refine vl_val (os_pick_t rfl rfl) ?_
    refine vl_nil ?_
    refine v_cond_t rfl ?_
    refine v_seq ?_
    refine v_region ?_
    refine vl_val (os_move rfl) ?_
    refine vl_val (os_f (os_eql rfl rfl) (by omega)) ?_
    refine vl_val (os_move rfl) ?_
    refine vl_valg rfl (os_move rfl) ?_
    refine vl_valg rfl (os_t (os_eql rfl rfl) (by omega)) ?_
    refine vl_valg rfl (os_move rfl) ?_
    refine vl_valg rfl (os_move rfl) ?_
    refine vl_valg rfl (os_len Try.underlying22 rfl) ?_
    refine vl_valg rfl (os_t (os_eql rfl rfl) (by simp)) ?_
    refine vl_valg rfl (os_pick_t rfl rfl) ?_
    refine vl_val (os_pick_f rfl rfl) ?_
    refine vl_val (os_move rfl) ?_
    refine vl_valg rfl (os_move rfl) ?_
    refine vl_valg rfl (os_t (os_eql rfl rfl) (by omega)) ?_
    refine vl_valg rfl (os_move rfl) ?_
    refine vl_skip rfl rfl ?_
    refine vl_skip rfl rfl ?_
    refine vl_skip rfl rfl ?_
    refine vl_skipu rfl ?_
    refine vl_skipu rfl ?_
    refine vl_skipu rfl ?_
    refine vl_skip rfl rfl ?_
    refine vl_valg rfl (os_pick_t rfl rfl) ?_
    refine vl_val (os_pick_t rfl rfl) ?_
    refine vl_val (os_assign rfl) ?_
    refine vl_nil ?_
    refine v_ret ?_
    exact post_ret rfl rfl (⟨by rfl, b13⟩)
  · have e1 : oneE m size = 0 := by rw [oneE, f1]; rfl
    have e2 : oneE n size = 2 := by rw [oneE, f2]; rfl
    have e4 : oneB n size = [] := by rw [oneB, f2]; rfl
    rw [e1, e2, e4]
    refine v_seq ?_
    refine v_seq ?_
    refine v_region ?_
    refine vl_val (os_move rfl) ?_
    refine vl_val (os_f (os_neq rfl rfl) (by omega)) ?_
    refine vl_val (os_move rfl) ?_
    refine vl_valg rfl (os_move rfl) ?_
    refine vl_valg rfl (os_t (os_neq rfl rfl) (by omega)) ?_
    refine vl_val (os_pick_f rfl rfl) ?_
    refine vl_nil ?_
    refine v_cond_t rfl ?_
    refine v_seq ?_
    refine v_region ?_
    refine vl_val (os_move rfl) ?_
    refine vl_val (os_t (os_eql rfl rfl) (by omega)) ?_
    refine vl_val (os_move rfl) ?_
    refine vl_skip rfl rfl ?_
    refine vl_skip rfl rfl ?_
    refine vl_skip rfl rfl ?_
    refine vl_skipu rfl ?_
    refine vl_skipu rfl ?_
    refine vl_skipu rfl ?_
    refine vl_skip rfl rfl ?_
    refine vl_val (os_pick_t rfl rfl) ?_
    refine vl_val (os_move rfl) ?_
    refine vl_valg rfl (os_move rfl) ?_
    refine vl_valg rfl (os_f (os_eql rfl rfl) (by omega)) ?_
    refine vl_valg rfl (os_move rfl) ?_
    refine vl_valg rfl (os_move rfl) ?_
    refine vl_valg rfl (os_t (os_eql rfl rfl) (by omega)) ?_
    refine vl_valg rfl (os_move rfl) ?_
    refine vl_valg rfl (os_move rfl) ?_
    refine vl_valg rfl (os_len Try.underlying22 rfl) ?_
    refine vl_valg rfl (os_t (os_eql rfl rfl) (by simp)) ?_
    refine vl_valg rfl (os_pick_t rfl rfl) ?_
    refine vl_valg rfl (os_pick_f rfl rfl) ?_
    refine vl_val (os_pick_t rfl rfl) ?_
    refine vl_val (os_assign rfl) ?_
    refine vl_nil ?_
    refine v_ret ?_
    exact post_ret rfl rfl (⟨by rfl, b13⟩)
  · have g1 := of_decide_eq_true f1
    have g2 := of_decide_eq_true f2
    obtain ⟨s, rfl⟩ : ∃ s : Nat, size = s := ⟨size.toNat, by omega⟩
    have e1 : oneE m s = 0 := by rw [oneE, f1]; rfl
    have e2 : oneE n s = 0 := by rw [oneE, f2]; rfl
    have e3 : oneB m s = numBytes m s := by rw [oneB, f1]; rfl
    have e4 : oneB n s = numBytes n s := by rw [oneB, f2]; rfl
    rw [e3] at r2 o2
    rw [e4] at r3 o3
    rw [e1, e2, e3, e4, numBytes_len, numBytes_len]
    rw [Int.toNat_natCast] at g1 g2
    refine v_seq ?_
    refine v_seq ?_
    refine v_region ?_
    refine vl_val (os_move rfl) ?_
    refine vl_val (os_f (os_neq rfl rfl) (by omega)) ?_
    refine vl_val (os_move rfl) ?_
    refine vl_valg rfl (os_move rfl) ?_
    refine vl_valg rfl (os_f (os_neq rfl rfl) (by omega)) ?_
    refine vl_val (os_pick_f rfl rfl) ?_
    refine vl_nil ?_
    refine v_cond_f rfl ?_
    refine v_skip ?_
    refine v_seq ?_
    refine v_seq ?_
    refine v_region ?_
    refine vl_val (os_move rfl) ?_
    refine vl_val (os_len Try.underlying22 rfl) ?_
    refine vl_val (os_move rfl) ?_
    refine vl_val (os_f (os_neq rfl rfl) (by omega)) ?_
    refine vl_val (os_move rfl) ?_
    refine vl_valg rfl (os_move rfl) ?_
    refine vl_valg rfl (os_len Try.underlying22 rfl) ?_
    refine vl_valg rfl (os_move rfl) ?_
    refine vl_valg rfl (os_f (os_neq rfl rfl) (by omega)) ?_
    have v1 := numOf_numBytes (n := m) (s := s) (by omega) (by omega)
    have v2 := numOf_numBytes (n := n) (s := s) (by omega) (by omega)
    have hsame : decide (numBytes m s = numBytes n s) = decide (m = n) := decide_eq_decide.2 ⟨fun h => by rw [← v1, h, v2], fun h => by rw [h]⟩
    refine vl_val (os_pick_f rfl rfl) ?_
    refine vl_val (os_move rfl) ?_
    refine vl_valg rfl (os_move rfl) ?_
    refine vl_valg rfl (os_move rfl) ?_
    refine vl_valg rfl (os_eql rfl rfl) ?_
    refine vl_valg rfl (os_move rfl) ?_
    refine vl_valg rfl (os_move rfl) ?_
    refine vl_callg rfl ((kit_SameBytes A2 A3 _ _ c2 c3 _ _ w3 r2 r3 (numBytes_len _ _).symm (numBytes_len _ _).symm (by omega) (by omega)).mono fun v w' hh => (⟨by rw [hh.1, hsame], hh.2⟩ : v = .bool (decide (m = n)) ∧ LeD w3 w')) rfl ?_
    rintro v4 w4 ⟨rfl, d4⟩
    refine vl_valg rfl (os_is (os_neqb Try.underlying4 rfl rfl) ((show (!(decide (m = n) == decide (m = n))) = false by simp))) ?_
    have b4 := b13.trans ((led_below d4).mono b13.size)
    have hlt : Op.bytesLess (strOfNums (numBytes m s)).toList (strOfNums (numBytes n s)).toList = decide (m < n) := by
      rw [ByteArray.toList_eq, ByteArray.toList_eq, strOfNums_data, strOfNums_data, less_val _ _ (by rw [numBytes_len, numBytes_len]) (numBytes_Y _ _) (numBytes_Y _ _), ← numOf_val, ← numOf_val, v1, v2]
    refine vl_val (os_pick_f rfl rfl) ?_
    refine vl_nil ?_
    refine v_cond_f rfl ?_
    refine v_skip ?_
    refine v_seq ?_
    refine v_seq ?_
    refine v_region ?_
    refine vl_val (os_move rfl) ?_
    refine vl_val (os_move rfl) ?_
    refine vl_val (os_lss rfl rfl) ?_
    refine vl_val (os_move rfl) ?_
    refine vl_val (os_string Try.underlying22 Try.underlying5 Try.underlying9 rfl (r2.led d4) (numBytes_len _ _) (by omega)) ?_
    refine vl_val (os_move rfl) ?_
    refine vl_val (os_string Try.underlying22 Try.underlying5 Try.underlying9 rfl (r3.led d4) (numBytes_len _ _) (by omega)) ?_
    refine vl_val (os_is (os_lss_string rfl rfl) hlt) ?_
    refine vl_val (os_neqb Try.underlying4 rfl rfl) ?_
    refine vl_nil ?_
    refine v_cond rfl (fun hb => ?_) (fun hb => ?_)
    · refine v_seq ?_
      refine v_region ?_
      refine vl_val (os_assign rfl) ?_
      refine vl_nil ?_
      refine v_ret ?_
      exact post_ret rfl rfl (absurd hb (by simp))
    · refine v_skip ?_
      refine v_seq ?_
      refine v_region ?_
      refine vl_val (os_move rfl) ?_
      refine vl_call (pk_Over A2 _ c2 (numBytes m s) w4 (r2.led d4) (numBytes_len _ _).symm (by omega)) rfl ?_
      rintro u5 w5 ⟨g, v5, rfl, h5, b5⟩
      have b45 := b4.trans (b5.mono b4.size)
      refine vl_val (os_assign rfl) ?_
      refine vl_nil ?_
      refine v_seq ?_
      refine v_region ?_
      refine vl_val (os_assign rfl) ?_
      refine vl_nil ?_
      refine v_seq ?_
      refine v_seq ?_
      refine v_region ?_
      refine vl_val (os_assign rfl) ?_
      refine vl_nil ?_
      refine v_block ?_
      refine v_loop [(0, _), (2, _), (11, _)] (fun (i : Nat) => [(12, .int .i64 (numOf ((numBytes m s).take i))), (13, .int .i64 i)]) (fun i w' => i ≤ s ∧ Below w.heap.size w w' ∧ ∃ v', RrS w' w4.heap.size g v' ((numBytes m s).drop i) 0) (fun i => s - i) (0) ⟨rfl, rfl, rfl, trivial⟩ ⟨rfl, rfl, trivial⟩ (⟨by omega, b45, v5, h5⟩) ?_
      rintro i w' ⟨hi, bb, v', hh⟩
      refine v_seq ?_
      refine v_seq ?_
      refine v_region ?_
      refine vl_val (os_move rfl) ?_
      refine vl_val (os_move rfl) ?_
      refine vl_val (os_lss rfl rfl) ?_
      refine vl_nil ?_
      refine v_cond_d rfl (fun hlt2 => ?_) (fun hlt2 => ?_)
      · have hnx : numOf ((numBytes m s).take (i + 1)) = numOf ((numBytes m s).take i) * 256 + (numBytes m s).getD i 0 := by rw [List.take_succ_eq_append_getElem (by rw [numBytes_len]; omega), numOf_snoc]; congr 1; rw [List.getD_eq_getElem?_getD, List.getElem?_eq_getElem (by rw [numBytes_len]; omega)]; rfl
        have hb0 := (numBytes_Y m s).at_ i
        have hb1 := numOf_bound _ ((numBytes_Y m s).take i)
        have hb2 : ((numBytes m s).take i).length ≤ 3 := by rw [List.length_take]; omega
        have hb3 : numOf ((numBytes m s).take i) < 16777216 := Int.lt_of_lt_of_le hb1.2 (by rcases (by omega : ((numBytes m s).take i).length = 0 ∨ ((numBytes m s).take i).length = 1 ∨ ((numBytes m s).take i).length = 2 ∨ ((numBytes m s).take i).length = 3) with h | h | h | h <;> rw [h] <;> decide)
        have hok : rnOk 0 1 ((numBytes m s).drop i) = true := decide_eq_true ⟨rfl, by omega, by omega, by rw [List.length_drop, numBytes_len]; omega⟩
        have her : rnErr 0 1 ((numBytes m s).drop i) = 0 := by unfold rnErr; rw [if_pos rfl, if_pos (by omega), if_pos (by rw [List.length_drop, numBytes_len]; omega)]
        have hone : numOf (((numBytes m s).drop i).take (1 : Int).toNat) = (numBytes m s).getD i 0 := by
          rw [show (1 : Int).toNat = 0 + 1 from rfl, List.take_succ_eq_append_getElem (by rw [List.length_drop, numBytes_len]; omega), numOf_snoc]; simp [numOf, List.getElem?_eq_getElem (show i < (numBytes m s).length by rw [numBytes_len]; omega)]
        refine v_skip ?_
        refine v_seq ?_
        refine v_block ?_
        refine v_region ?_
        refine vl_val (os_move rfl) ?_
        refine vl_val (os_muli rfl rfl (by omega)) ?_
        refine vl_val (os_move rfl) ?_
        refine vl_call (pk_RNumber g v' _ 0 1 w4.heap.size w' hh (by have := b5.size; have := bb.size; have := b4.size; have := hh.low; have := hh.bk.lt; omega) (by rw [List.length_drop, numBytes_len]; omega) ((numBytes_Y m s).drop i)) rfl ?_
        rintro u6 w6 ⟨v6, rfl, h6, k6, e6⟩
        rw [hok, if_pos rfl, her, List.drop_drop] at h6
        rw [hok, if_pos rfl, hone]
        refine vl_val (os_addi rfl rfl (by omega)) ?_
        refine vl_val (os_assign rfl) ?_
        refine vl_nil ?_
        refine v_region ?_
        refine vl_val (os_move rfl) ?_
        refine vl_val (os_addi rfl rfl (by omega)) ?_
        refine vl_val (os_assign rfl) ?_
        refine vl_nil ?_
        exact ⟨i + 1, ⟨rfl, rfl, rfl, trivial⟩, ⟨by rw [hnx, Int.mul_comm]; rfl, rfl, trivial⟩, ⟨by omega, k6.below bb (by intro k hk; have := hh.low; have := b4.size; simp at hk; omega) bb.size, v6, h6⟩, by dsimp only; omega⟩
      · obtain rfl : s = i := by omega
        refine v_exit ?_
        refine v_seq ?_
        refine v_region ?_
        refine vl_val (os_move rfl) ?_
        refine vl_val (os_move rfl) ?_
        refine vl_val (os_eql rfl rfl) ?_
        refine vl_val (os_assign rfl) ?_
        refine vl_nil ?_
        refine v_ret ?_
        exact post_ret rfl rfl (⟨by rw [List.take_of_length_le (by rw [numBytes_len]; exact Nat.le_refl _), v1]; simp, bb⟩)
end Go.Proofs.Ytpcfifheegfjiaa
