/- slices.Repeat of one number; even weights. -/
import Derived.Test.YtpjmiafefammkaaTy
import Derived.Test.YtpjmiafefammkaaN
import Derived.Test.YtpjmiafefammkaaCp
import Derived.Test.YtpjmiafefammkaaV4
namespace Go.Proofs.Ytpjmiafefammkaa
open Go.RowKit
set_option linter.unusedVariables false

theorem u64_in {n : Int} (h : 0 ≤ n ∧ n < 18446744073709551616) : IntKind.u64.wrap n = n := by
  simp [IntKind.wrap, IntKind.signed, IntKind.bits]; omega
theorem u64_mask {y : Int} (h : 0 ≤ y ∧ y < 4294967296) : IntKind.u64.wrap ((BitVec.ofInt 64 y &&& BitVec.ofInt 64 4294967295).toNat : Nat) = y := by
  have e : (BitVec.ofInt 64 y &&& BitVec.ofInt 64 4294967295).toNat = y.toNat := by
    rw [BitVec.toNat_and]
    have h1 : (BitVec.ofInt 64 y).toNat = y.toNat := by rw [BitVec.toNat_ofInt]; omega
    have h2 : (BitVec.ofInt 64 4294967295).toNat = 2 ^ 32 - 1 := by decide
    rw [h1, h2, Nat.and_two_pow_sub_one_eq_mod]
    omega
  rw [e, u64_in (by omega)]
  omega
theorem fdiv32 {y : Int} (h : 0 ≤ y ∧ y < 4294967296) : y.fdiv (2 ^ min (32 : Int).toNat IntKind.u64.bits) = 0 := by
  show y.fdiv (2 ^ 32) = 0
  rw [Int.fdiv_eq_ediv_of_nonneg _ (by decide)]
  omega
theorem bits_Mul64 (y : Int) (w : World) (h : 0 ≤ y ∧ y < 4294967296) : Gives Try.prog 153 #[.int .u64 1, .int .u64 y] w fun v w' => v = .tuple #[.int .u64 0, .int .u64 y] ∧ w' = w := by
  refine gives_enter Try.call153 Try.func153 rfl rfl rfl (by kernel_rfl) ?_
  refine v_seq ?_
  refine v_region ?_
  refine vl_val (os_assign rfl) ?_
  refine vl_val (os_assign rfl) ?_
  refine vl_nil ?_
  refine v_seq ?_
  refine v_region ?_
  refine vl_val (os_move rfl) ?_
  refine vl_val (os_and (r := 1) rfl rfl (by decide)) ?_
  refine vl_val (os_assign rfl) ?_
  refine vl_nil ?_
  refine v_seq ?_
  refine v_region ?_
  refine vl_val (os_move rfl) ?_
  refine vl_val (os_shr (r := 0) rfl rfl (by omega) (by decide)) ?_
  refine vl_val (os_assign rfl) ?_
  refine vl_nil ?_
  refine v_seq ?_
  refine v_region ?_
  refine vl_val (os_move rfl) ?_
  refine vl_val (os_and (r := y) rfl rfl (u64_mask h)) ?_
  refine vl_val (os_assign rfl) ?_
  refine vl_nil ?_
  refine v_seq ?_
  refine v_region ?_
  refine vl_val (os_move rfl) ?_
  refine vl_val (os_shr (r := 0) rfl rfl (by omega) (fdiv32 h)) ?_
  refine vl_val (os_assign rfl) ?_
  refine vl_nil ?_
  refine v_seq ?_
  refine v_region ?_
  refine vl_val (os_move rfl) ?_
  refine vl_val (os_move rfl) ?_
  refine vl_val (os_mul (r := y) rfl rfl (by rw [Int.one_mul]; exact u64_in (by omega))) ?_
  refine vl_val (os_assign rfl) ?_
  refine vl_nil ?_
  refine v_seq ?_
  refine v_region ?_
  refine vl_val (os_move rfl) ?_
  refine vl_val (os_move rfl) ?_
  refine vl_val (os_mul (r := 0) rfl rfl (by rw [Int.zero_mul]; rfl)) ?_
  refine vl_val (os_move rfl) ?_
  refine vl_val (os_shr (r := 0) rfl rfl (by omega) (fdiv32 h)) ?_
  refine vl_val (os_add (r := 0) rfl rfl (by decide)) ?_
  refine vl_val (os_assign rfl) ?_
  refine vl_nil ?_
  refine v_seq ?_
  refine v_region ?_
  refine vl_val (os_move rfl) ?_
  refine vl_val (os_and (r := 0) rfl rfl (by decide)) ?_
  refine vl_val (os_assign rfl) ?_
  refine vl_nil ?_
  refine v_seq ?_
  refine v_region ?_
  refine vl_val (os_move rfl) ?_
  refine vl_val (os_shr (r := 0) rfl rfl (by omega) (by decide)) ?_
  refine vl_val (os_assign rfl) ?_
  refine vl_nil ?_
  refine v_seq ?_
  refine v_region ?_
  refine vl_val (os_move rfl) ?_
  refine vl_val (os_move rfl) ?_
  refine vl_val (os_move rfl) ?_
  refine vl_val (os_mul (r := 0) rfl rfl (by decide)) ?_
  refine vl_val (os_add (r := 0) rfl rfl (by decide)) ?_
  refine vl_val (os_assign rfl) ?_
  refine vl_nil ?_
  refine v_seq ?_
  refine v_region ?_
  refine vl_val (os_move rfl) ?_
  refine vl_val (os_move rfl) ?_
  refine vl_val (os_mul (r := 0) rfl rfl (by decide)) ?_
  refine vl_val (os_move rfl) ?_
  refine vl_val (os_add (r := 0) rfl rfl (by decide)) ?_
  refine vl_val (os_move rfl) ?_
  refine vl_val (os_shr (r := 0) rfl rfl (by omega) (by decide)) ?_
  refine vl_val (os_add (r := 0) rfl rfl (by decide)) ?_
  refine vl_val (os_assign rfl) ?_
  refine vl_nil ?_
  refine v_seq ?_
  refine v_region ?_
  refine vl_val (os_move rfl) ?_
  refine vl_val (os_move rfl) ?_
  refine vl_val (os_mul (r := y) rfl rfl (by rw [Int.one_mul]; exact u64_in (by omega))) ?_
  refine vl_val (os_assign rfl) ?_
  refine vl_nil ?_
  refine v_ret ?_
  exact post_ret2 rfl rfl rfl (⟨rfl, rfl⟩)
theorem bits_Mul (y : Int) (w : World) (h : 0 ≤ y ∧ y < 4294967296) : Gives Try.prog 135 #[.int .u64 1, .int .u64 y] w fun v w' => v = .tuple #[.int .u64 0, .int .u64 y] ∧ w' = w := by
  refine gives_enter Try.call135 Try.func135 rfl rfl rfl (by kernel_rfl) ?_
  refine v_seq ?_
  refine v_region ?_
  refine vl_val (os_assign rfl) ?_
  refine vl_val (os_assign rfl) ?_
  refine vl_nil ?_
  refine v_seq ?_
  refine v_cond_f rfl ?_
  refine v_skip ?_
  refine v_seq ?_
  refine v_region ?_
  refine vl_val (os_move rfl) ?_
  refine vl_val (os_move rfl) ?_
  refine vl_call (bits_Mul64 y w h) rfl ?_
  rintro v w ⟨rfl, rfl⟩
  refine vl_val (os_move rfl) ?_
  refine vl_val (os_extract rfl rfl) ?_
  refine vl_val (os_extract rfl rfl) ?_
  refine vl_val (os_assign rfl) ?_
  refine vl_val (os_assign rfl) ?_
  refine vl_nil ?_
  refine v_seq ?_
  refine v_region ?_
  refine vl_val (os_move rfl) ?_
  refine vl_val (os_move rfl) ?_
  refine vl_val (os_assign rfl) ?_
  refine vl_val (os_assign rfl) ?_
  refine vl_nil ?_
  refine v_ret ?_
  exact post_ret2 rfl rfl rfl (⟨rfl, rfl⟩)

def repCells (n k : Nat) (z : Int) : List Value := (List.replicate n z ++ List.replicate (k - n) 0).map (Value.int .i64)
theorem repCells_len {n k : Nat} (h : n ≤ k) (z : Int) : (repCells n k z).length = k := by simp [repCells]; omega
theorem repCells_step {n k m : Nat} (h : n + m ≤ k) (z : Int) : (repCells n k z).take (0 + n) ++ (List.replicate m z).map (Value.int .i64) ++ (repCells n k z).drop (0 + n + m) = repCells (n + m) k z := by
  unfold repCells
  rw [Nat.zero_add, ← List.map_take, ← List.map_drop, ← List.map_append, ← List.map_append]
  congr 1
  have h1 : (List.replicate n z ++ List.replicate (k - n) 0).take n = List.replicate n z := by simp
  have h2 : (List.replicate n z ++ List.replicate (k - n) 0).drop (n + m) = List.replicate (k - (n + m)) 0 := by
    rw [List.drop_append]
    simp
    omega
  rw [h1, h2, List.replicate_append_replicate]
theorem repCells_rd {n k : Nat} (z : Int) {w : World} {g : Nat} {t : TypeId} (h : Bk w g (repCells n k z) t) {m : Nat} (hm : m ≤ n) : RdC w (some ⟨g, 0, none⟩) ((List.replicate m z).map (Value.int .i64)) := by
  have := (Bk.rdc h).take m
  rwa [show (repCells n k z).take m = (List.replicate m z).map (Value.int .i64) by
    unfold repCells
    rw [← List.map_take]
    congr 1
    rw [List.take_append_of_le_length (by simpa using hm), List.take_replicate, Nat.min_eq_left hm]] at this
theorem ints_one' (zs : List Int) : ∀ u ∈ zs.map (Value.int .i64), u.oneCell' = true := by
  intro u hu
  obtain ⟨z, _, rfl⟩ := List.mem_map.1 hu
  rfl

theorem sl_Repeat (A : Option Addr) (c k : Nat) (z : Int) (w : World) (ha : Rd w .i64 A [z]) (hk : 1 ≤ k ∧ k ≤ 1000000) : Gives Try.prog 95 #[.slice A 1 c, .int .i64 k] w fun v w' => ∃ g, v = .slice (some ⟨g, 0, none⟩) k k ∧ OwnK w' w.heap.size 3 .i64 v (List.replicate k z) ∧ Below w.heap.size w w' := by
  refine gives_enter Try.call95 Try.func95 rfl rfl rfl (by kernel_rfl) ?_
  refine v_seq ?_
  refine v_region ?_
  refine vl_val (os_assign rfl) ?_
  refine vl_nil ?_
  refine v_seq ?_
  refine v_seq ?_
  refine v_region ?_
  refine vl_val (os_move rfl) ?_
  refine vl_val (os_lss rfl rfl) ?_
  refine vl_nil ?_
  refine v_cond_no rfl (by omega) ?_
  refine v_skip ?_
  refine v_seq ?_
  refine v_region ?_
  refine vl_val (os_move rfl) ?_
  refine vl_val (os_len Try.underlying40 rfl) ?_
  refine vl_val (os_conv Try.underlying3 Try.underlying86 (r := 1) rfl (by decide)) ?_
  refine vl_val (os_move rfl) ?_
  refine vl_val (os_conv Try.underlying3 Try.underlying86 rfl (u64_in ⟨by omega, by omega⟩)) ?_
  refine vl_call (bits_Mul k w (by omega)) rfl ?_
  rintro v w ⟨rfl, rfl⟩
  refine vl_val (os_move rfl) ?_
  refine vl_val (os_extract rfl rfl) ?_
  refine vl_val (os_extract rfl rfl) ?_
  refine vl_val (os_assign rfl) ?_
  refine vl_val (os_assign rfl) ?_
  refine vl_nil ?_
  refine v_seq ?_
  refine v_seq ?_
  refine v_region ?_
  refine vl_val (os_move rfl) ?_
  refine vl_val (os_f (os_gtr rfl rfl) (by decide)) ?_
  refine vl_val (os_move rfl) ?_
  refine vl_valg rfl (os_move rfl) ?_
  refine vl_valg rfl (os_gtr rfl rfl) ?_
  refine vl_val (os_pick_f rfl rfl) ?_
  refine vl_nil ?_
  refine v_cond_no rfl (by omega) ?_
  refine v_skip ?_
  refine v_seq ?_
  refine v_region ?_
  refine vl_val (os_move rfl) ?_
  refine vl_val (os_conv Try.underlying86 Try.underlying3 rfl (i64_fit ⟨by omega, by omega⟩)) ?_
  refine vl_some (ot_make (l := k) Try.underlying40 ti_int rfl rfl rfl rfl rfl (by omega) (by simp [maxLen]; omega) w.heap.size (Nat.le_refl _)) ?_
  rintro v1 w1 ⟨rfl, ho, hg⟩
  have hb1 : Below w.heap.size w w1 := (Below.refl _ _).grown hg (Nat.le_refl _) (fun k hk => by cases hk)
  have hB1 : Bk w1 w.heap.size (repCells 0 k z) 3 := by have := Own.bk ho (by simp); rw [show repCells 0 k z = List.replicate k (Value.int .i64 0) by simp [repCells]]; exact this
  obtain ⟨b0, o0, rfl, hz⟩ := (ha.keep hb1) (by simp)
  have hr0 : RdC w1 (some ⟨b0, o0, none⟩) ((List.replicate 1 z).map (Value.int .i64)) := by have := (ha.keep hb1).toC; simpa using this
  refine vl_val (os_assign rfl) ?_
  refine vl_nil ?_
  refine v_seq ?_
  refine v_region ?_
  refine vl_val (os_move rfl) ?_
  refine vl_val (os_move rfl) ?_
  refine vl_val (os_copyB Try.underlying40 (by kernel_rfl) rfl rfl hB1 hr0 (q := 1) (by simp) (by omega) (by rw [repCells_len (by omega)]; omega) (ints_one' _)) ?_
  refine vl_val (os_assign rfl) ?_
  refine vl_nil ?_
  refine v_seq ?_
  refine v_block ?_
  refine v_loop [(7, _)] (fun (n : Nat) => [(8, .int .i64 n)]) (fun n w' => 1 ≤ n ∧ n ≤ k ∧ Bk w' w.heap.size (repCells n k z) 3 ∧ Below w.heap.size w w') (fun n => k - n) (1) ⟨rfl, trivial⟩ ⟨rfl, trivial⟩ (⟨by omega, by omega, by rw [← repCells_step (n := 0) (m := 1) (by omega)]; exact setRow_bk hB1 _, below_setRow hb1 (Nat.le_refl _) _⟩) ?_
  rintro n w' ⟨hn1, hn2, hB, hbl⟩
  refine v_seq ?_
  refine v_seq ?_
  refine v_region ?_
  refine vl_val (os_move rfl) ?_
  refine vl_val (os_move rfl) ?_
  refine vl_val (os_len Try.underlying40 rfl) ?_
  refine vl_val (os_lss rfl rfl) ?_
  refine vl_nil ?_
  refine v_cond_d rfl (fun hlt => ?_) (fun hlt => ?_)
  · refine v_skip ?_
    refine v_block ?_
    refine v_region_a mixed ?_
    refine va_pure 0 rfl (by kernel_rfl) (by kernel_rfl) (by kernel_rfl) (fun w => (os_move rfl)) ?_
    refine va_pure 1 rfl (by kernel_rfl) (by kernel_rfl) (by kernel_rfl) (fun w => (os_move rfl)) ?_
    refine va_pure 2 rfl (by kernel_rfl) (by kernel_rfl) (by kernel_rfl) (fun w => (os_move rfl)) ?_
    refine va_pure 3 rfl (by kernel_rfl) (by kernel_rfl) (by kernel_rfl) (fun w => (os_slice_l1 Try.underlying40 Try.sizeOf3 rfl rfl (i := n) rfl (by omega) (by omega))) ?_
    refine va_pure 4 rfl (by kernel_rfl) (by kernel_rfl) (by kernel_rfl) (fun w => (os_move rfl)) ?_
    refine va_pure 5 rfl (by kernel_rfl) (by kernel_rfl) (by kernel_rfl) (fun w => (os_move rfl)) ?_
    refine va_pure 6 rfl (by kernel_rfl) (by kernel_rfl) (by kernel_rfl) (fun w => (os_slice_h Try.underlying40 Try.sizeOf3 rfl rfl (h := n) (by omega) (by omega))) ?_
    refine va_one 7 (by kernel_rfl) ?_
    refine vn_val rfl (os_copyB (ss := (List.replicate (min n (k - n)) z).map (Value.int .i64)) Try.underlying40 (by kernel_rfl) rfl rfl (Bk.led hB ⟨1, rfl⟩) (repCells_rd z (Bk.led hB ⟨1, rfl⟩) (by omega)) (q := min n (k - n)) (by simp) rfl (by rw [repCells_len (by omega)]; omega) (ints_one' _)) ?_
    refine va_pure 8 rfl (by kernel_rfl) (by kernel_rfl) (by kernel_rfl) (fun w => (os_addi rfl rfl (by omega))) ?_
    refine va_pure 9 rfl (by kernel_rfl) (by kernel_rfl) (by kernel_rfl) (fun w => (os_assign rfl)) ?_
    refine va_done (by kernel_rfl) ?_
    exact ⟨n + min n (k - n), ⟨rfl, trivial⟩, ⟨get_int rfl (by omega), trivial⟩, ⟨by omega, by omega, by rw [← repCells_step (n := n) (m := min n (k - n)) (by omega)]; exact setRow_bk (Bk.led hB ⟨1, rfl⟩) _, below_setRow ((Below.refl _ _).drew.mono (Nat.le_refl _) |> fun h => hbl.trans (h.mono hbl.size)) (Nat.le_refl _) _⟩, by dsimp only; omega⟩
  · obtain rfl : k = n := by omega
    have hown := Bk.own hB (Nat.le_refl _) (by rw [repCells_len (Nat.le_refl _)]; simp [maxLen]; omega)
    rw [repCells_len (Nat.le_refl _), show repCells k k z = (List.replicate k z).map (Value.int .i64) by simp [repCells]] at hown
    refine v_exit ?_
    refine v_seq ?_
    refine v_region ?_
    refine vl_val (os_move rfl) ?_
    refine vl_val (os_assign rfl) ?_
    refine vl_nil ?_
    refine v_ret ?_
    exact post_ret rfl rfl (⟨_, rfl, hown, hbl⟩)
theorem bits_Mul64z (w : World) : Gives Try.prog 153 #[.int .u64 1, .int .u64 0] w fun v w' => v = .tuple #[.int .u64 0, .int .u64 0] ∧ w' = w := bits_Mul64 0 w (by omega)
theorem sl_Repeat0 (A : Option Addr) (c : Nat) (z : Int) (w : World) (ha : Rd w .i64 A [z]) : Gives Try.prog 95 #[.slice A 1 c, .int .i64 0] w fun v w' => ∃ g, v = .slice (some ⟨g, 0, none⟩) 0 0 ∧ OwnK w' w.heap.size 3 .i64 v [] ∧ Below w.heap.size w w' := by
  refine gives_enter Try.call95 Try.func95 rfl rfl rfl (by kernel_rfl) ?_
  refine v_seq ?_
  refine v_region ?_
  refine vl_val (os_assign rfl) ?_
  refine vl_nil ?_
  refine v_seq ?_
  refine v_seq ?_
  refine v_region ?_
  refine vl_val (os_move rfl) ?_
  refine vl_val (os_lss rfl rfl) ?_
  refine vl_nil ?_
  refine v_cond_no rfl (by omega) ?_
  refine v_skip ?_
  refine v_seq ?_
  refine v_region ?_
  refine vl_val (os_move rfl) ?_
  refine vl_val (os_len Try.underlying40 rfl) ?_
  refine vl_val (os_conv Try.underlying3 Try.underlying86 (r := 1) rfl (by decide)) ?_
  refine vl_val (os_move rfl) ?_
  refine vl_val (os_conv Try.underlying3 Try.underlying86 rfl (u64_in ⟨by omega, by omega⟩)) ?_
  refine vl_call (bits_Mul 0 w (by omega)) rfl ?_
  rintro v w ⟨rfl, rfl⟩
  refine vl_val (os_move rfl) ?_
  refine vl_val (os_extract rfl rfl) ?_
  refine vl_val (os_extract rfl rfl) ?_
  refine vl_val (os_assign rfl) ?_
  refine vl_val (os_assign rfl) ?_
  refine vl_nil ?_
  refine v_seq ?_
  refine v_seq ?_
  refine v_region ?_
  refine vl_val (os_move rfl) ?_
  refine vl_val (os_f (os_gtr rfl rfl) (by decide)) ?_
  refine vl_val (os_move rfl) ?_
  refine vl_valg rfl (os_move rfl) ?_
  refine vl_valg rfl (os_gtr rfl rfl) ?_
  refine vl_val (os_pick_f rfl rfl) ?_
  refine vl_nil ?_
  refine v_cond_no rfl (by omega) ?_
  refine v_skip ?_
  refine v_seq ?_
  refine v_region ?_
  refine vl_val (os_move rfl) ?_
  refine vl_val (os_conv Try.underlying86 Try.underlying3 rfl (i64_fit ⟨by omega, by omega⟩)) ?_
  refine vl_some (ot_make (l := 0) Try.underlying40 ti_int rfl rfl rfl rfl rfl (by omega) (by simp [maxLen]) w.heap.size (Nat.le_refl _)) ?_
  rintro v1 w1 ⟨rfl, ho, hg⟩
  have hb1 : Below w.heap.size w w1 := (Below.refl _ _).grown hg (Nat.le_refl _) (fun k hk => by cases hk)
  refine vl_val (os_assign rfl) ?_
  refine vl_nil ?_
  refine v_seq ?_
  refine v_region ?_
  refine vl_val (os_move rfl) ?_
  refine vl_val (os_move rfl) ?_
  refine vl_some (ot_copy (q := 0) Try.underlying40 (by kernel_rfl) rfl rfl ho (cs := []) (ss := []) (A := A) (fun h => absurd h (by simp)) rfl (by omega) (by intro u hu; cases hu)) ?_
  rintro v2 w2 ⟨rfl, o2, g2⟩
  have hb2 : Below w.heap.size w w2 := hb1.grown g2 hb1.size (fun k hk => by cases hk; exact Nat.le_refl _)
  refine vl_val (os_assign rfl) ?_
  refine vl_nil ?_
  refine v_seq ?_
  refine v_block ?_
  refine v_loop [(7, _)] (fun (n : Nat) => [(8, .int .i64 n)]) (fun n w' => n = 0 ∧ w' = w2) (fun n => 1 - n) (0) ⟨rfl, trivial⟩ ⟨rfl, trivial⟩ (⟨rfl, rfl⟩) ?_
  rintro n w2 ⟨rfl, rfl⟩
  refine v_seq ?_
  refine v_seq ?_
  refine v_region ?_
  refine vl_val (os_move rfl) ?_
  refine vl_val (os_move rfl) ?_
  refine vl_val (os_len Try.underlying40 rfl) ?_
  refine vl_val (os_lss rfl rfl) ?_
  refine vl_nil ?_
  refine v_cond_no rfl (by omega) ?_
  refine v_exit ?_
  refine v_seq ?_
  refine v_region ?_
  refine vl_val (os_move rfl) ?_
  refine vl_val (os_assign rfl) ?_
  refine vl_nil ?_
  refine v_ret ?_
  exact post_ret rfl rfl (⟨_, rfl, by simpa [OwnK] using o2, hb2⟩)
end Go.Proofs.Ytpjmiafefammkaa
