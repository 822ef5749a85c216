/- Texts joined: Rep V5 SzG. -/
import Derived.Test.YtpojijnjdlnokaaM13
/- slices.Repeat of one number; even weights. -/
namespace Go.Proofs.Ytpojijnjdlnokaa
open Go.RowKit
set_option linter.unusedVariables false

theorem u64_in {n : Int} (h : 0 ≤ n ∧ n < 18446744073709551616) : IntKind.u64.wrap n = n := by
  simp [IntKind.wrap, IntKind.signed, IntKind.bits]; omega
theorem u64_mask {y : Int} (h : 0 ≤ y ∧ y < 4294967296) : IntKind.u64.wrap ((BitVec.ofInt 64 y &&& BitVec.ofInt 64 4294967295).toNat : Nat) = y := by
  have e : (BitVec.ofInt 64 y &&& BitVec.ofInt 64 4294967295).toNat = y.toNat := by
    rw [BitVec.toNat_and]
    have h1 : (BitVec.ofInt 64 y).toNat = y.toNat := by rw [BitVec.toNat_ofInt]; omega
    have h2 : (BitVec.ofInt 64 4294967295).toNat = 2 ^ 32 - 1 := by decide
    rw [h1, h2, Nat.and_two_pow_sub_one_eq_mod]
    omega
  rw [e, u64_in (by omega)]
  omega
theorem fdiv32 {y : Int} (h : 0 ≤ y ∧ y < 4294967296) : y.fdiv (2 ^ min (32 : Int).toNat IntKind.u64.bits) = 0 := by
  show y.fdiv (2 ^ 32) = 0
  rw [Int.fdiv_eq_ediv_of_nonneg _ (by decide)]
  omega
theorem bits_Mul64 (y : Int) (w : World) (h : 0 ≤ y ∧ y < 4294967296) : Gives Try.prog 169 #[.int .u64 1, .int .u64 y] w fun v w' => v = .tuple #[.int .u64 0, .int .u64 y] ∧ w' = w := by
  refine gives_enter Try.call169 Try.func169 rfl rfl rfl (by kernel_rfl) ?_
  refine v_seq ?_
  refine v_region ?_
  refine vl_val (os_assign rfl) ?_
  refine vl_val (os_assign rfl) ?_
  refine vl_nil ?_
  refine v_seq ?_
  refine v_region ?_
  refine vl_val (os_move rfl) ?_
  refine vl_val (os_and (r := 1) rfl rfl (by decide)) ?_
  refine vl_val (os_assign rfl) ?_
  refine vl_nil ?_
  refine v_seq ?_
  refine v_region ?_
  refine vl_val (os_move rfl) ?_
  refine vl_val (os_shr (r := 0) rfl rfl (by omega) (by decide)) ?_
  refine vl_val (os_assign rfl) ?_
  refine vl_nil ?_
  refine v_seq ?_
  refine v_region ?_
  refine vl_val (os_move rfl) ?_
  refine vl_val (os_and (r := y) rfl rfl (u64_mask h)) ?_
  refine vl_val (os_assign rfl) ?_
  refine vl_nil ?_
  refine v_seq ?_
  refine v_region ?_
  refine vl_val (os_move rfl) ?_
  refine vl_val (os_shr (r := 0) rfl rfl (by omega) (fdiv32 h)) ?_
  refine vl_val (os_assign rfl) ?_
  refine vl_nil ?_
  refine v_seq ?_
  refine v_region ?_
  refine vl_val (os_move rfl) ?_
  refine vl_val (os_move rfl) ?_
  refine vl_val (os_mul (r := y) rfl rfl (by rw [Int.one_mul]; exact u64_in (by omega))) ?_
  refine vl_val (os_assign rfl) ?_
  refine vl_nil ?_
  refine v_seq ?_
  refine v_region ?_
  refine vl_val (os_move rfl) ?_
  refine vl_val (os_move rfl) ?_
  refine vl_val (os_mul (r := 0) rfl rfl (by rw [Int.zero_mul]; rfl)) ?_
  refine vl_val (os_move rfl) ?_
  refine vl_val (os_shr (r := 0) rfl rfl (by omega) (fdiv32 h)) ?_
  refine vl_val (os_add (r := 0) rfl rfl (by decide)) ?_
  refine vl_val (os_assign rfl) ?_
  refine vl_nil ?_
  refine v_seq ?_
  refine v_region ?_
  refine vl_val (os_move rfl) ?_
  refine vl_val (os_and (r := 0) rfl rfl (by decide)) ?_
  refine vl_val (os_assign rfl) ?_
  refine vl_nil ?_
  refine v_seq ?_
  refine v_region ?_
  refine vl_val (os_move rfl) ?_
  refine vl_val (os_shr (r := 0) rfl rfl (by omega) (by decide)) ?_
  refine vl_val (os_assign rfl) ?_
  refine vl_nil ?_
  refine v_seq ?_
  refine v_region ?_
  refine vl_val (os_move rfl) ?_
  refine vl_val (os_move rfl) ?_
  refine vl_val (os_move rfl) ?_
  refine vl_val (os_mul (r := 0) rfl rfl (by decide)) ?_
  refine vl_val (os_add (r := 0) rfl rfl (by decide)) ?_
  refine vl_val (os_assign rfl) ?_
  refine vl_nil ?_
  refine v_seq ?_
  refine v_region ?_
  refine vl_val (os_move rfl) ?_
  refine vl_val (os_move rfl) ?_
  refine vl_val (os_mul (r := 0) rfl rfl (by decide)) ?_
  refine vl_val (os_move rfl) ?_
  refine vl_val (os_add (r := 0) rfl rfl (by decide)) ?_
  refine vl_val (os_move rfl) ?_
  refine vl_val (os_shr (r := 0) rfl rfl (by omega) (by decide)) ?_
  refine vl_val (os_add (r := 0) rfl rfl (by decide)) ?_
  refine vl_val (os_assign rfl) ?_
  refine vl_nil ?_
  refine v_seq ?_
  refine v_region ?_
  refine vl_val (os_move rfl) ?_
  refine vl_val (os_move rfl) ?_
  refine vl_val (os_mul (r := y) rfl rfl (by rw [Int.one_mul]; exact u64_in (by omega))) ?_
  refine vl_val (os_assign rfl) ?_
  refine vl_nil ?_
  refine v_ret ?_
  exact post_ret2 rfl rfl rfl (⟨rfl, rfl⟩)
theorem bits_Mul (y : Int) (w : World) (h : 0 ≤ y ∧ y < 4294967296) : Gives Try.prog 147 #[.int .u64 1, .int .u64 y] w fun v w' => v = .tuple #[.int .u64 0, .int .u64 y] ∧ w' = w := by
  refine gives_enter Try.call147 Try.func147 rfl rfl rfl (by kernel_rfl) ?_
  refine v_seq ?_
  refine v_region ?_
  refine vl_val (os_assign rfl) ?_
  refine vl_val (os_assign rfl) ?_
  refine vl_nil ?_
  refine v_seq ?_
  refine v_cond_f rfl ?_
  refine v_skip ?_
  refine v_seq ?_
  refine v_region ?_
  refine vl_val (os_move rfl) ?_
  refine vl_val (os_move rfl) ?_
  refine vl_call (bits_Mul64 y w h) rfl ?_
  rintro v w ⟨rfl, rfl⟩
  refine vl_val (os_move rfl) ?_
  refine vl_val (os_extract rfl rfl) ?_
  refine vl_val (os_extract rfl rfl) ?_
  refine vl_val (os_assign rfl) ?_
  refine vl_val (os_assign rfl) ?_
  refine vl_nil ?_
  refine v_seq ?_
  refine v_region ?_
  refine vl_val (os_move rfl) ?_
  refine vl_val (os_move rfl) ?_
  refine vl_val (os_assign rfl) ?_
  refine vl_val (os_assign rfl) ?_
  refine vl_nil ?_
  refine v_ret ?_
  exact post_ret2 rfl rfl rfl (⟨rfl, rfl⟩)

def repCells (n k : Nat) (z : Int) : List Value := (List.replicate n z ++ List.replicate (k - n) 0).map (Value.int .i64)
theorem repCells_len {n k : Nat} (h : n ≤ k) (z : Int) : (repCells n k z).length = k := by simp [repCells]; omega
theorem repCells_step {n k m : Nat} (h : n + m ≤ k) (z : Int) : (repCells n k z).take (0 + n) ++ (List.replicate m z).map (Value.int .i64) ++ (repCells n k z).drop (0 + n + m) = repCells (n + m) k z := by
  unfold repCells
  rw [Nat.zero_add, ← List.map_take, ← List.map_drop, ← List.map_append, ← List.map_append]
  congr 1
  have h1 : (List.replicate n z ++ List.replicate (k - n) 0).take n = List.replicate n z := by simp
  have h2 : (List.replicate n z ++ List.replicate (k - n) 0).drop (n + m) = List.replicate (k - (n + m)) 0 := by
    rw [List.drop_append]
    simp
    omega
  rw [h1, h2, List.replicate_append_replicate]
theorem repCells_rd {n k : Nat} (z : Int) {w : World} {g : Nat} {t : TypeId} (h : Bk w g (repCells n k z) t) {m : Nat} (hm : m ≤ n) : RdC w (some ⟨g, 0, none⟩) ((List.replicate m z).map (Value.int .i64)) := by
  have := (Bk.rdc h).take m
  rwa [show (repCells n k z).take m = (List.replicate m z).map (Value.int .i64) by
    unfold repCells
    rw [← List.map_take]
    congr 1
    rw [List.take_append_of_le_length (by simpa using hm), List.take_replicate, Nat.min_eq_left hm]] at this
theorem ints_one' (zs : List Int) : ∀ u ∈ zs.map (Value.int .i64), u.oneCell' = true := by
  intro u hu
  obtain ⟨z, _, rfl⟩ := List.mem_map.1 hu
  rfl

theorem sl_Repeat (A : Option Addr) (c k : Nat) (z : Int) (w : World) (ha : Rd w .i64 A [z]) (hk : 1 ≤ k ∧ k ≤ 1000000) : Gives Try.prog 93 #[.slice A 1 c, .int .i64 k] w fun v w' => ∃ g, v = .slice (some ⟨g, 0, none⟩) k k ∧ OwnK w' w.heap.size 3 .i64 v (List.replicate k z) ∧ Below w.heap.size w w' := by
  refine gives_enter Try.call93 Try.func93 rfl rfl rfl (by kernel_rfl) ?_
  refine v_seq ?_
  refine v_region ?_
  refine vl_val (os_assign rfl) ?_
  refine vl_nil ?_
  refine v_seq ?_
  refine v_seq ?_
  refine v_region ?_
  refine vl_val (os_move rfl) ?_
  refine vl_val (os_lss rfl rfl) ?_
  refine vl_nil ?_
  refine v_cond_no rfl (by omega) ?_
  refine v_skip ?_
  refine v_seq ?_
  refine v_region ?_
  refine vl_val (os_move rfl) ?_
  refine vl_val (os_len Try.underlying40 rfl) ?_
  refine vl_val (os_conv Try.underlying3 Try.underlying133 (r := 1) rfl (by decide)) ?_
  refine vl_val (os_move rfl) ?_
  refine vl_val (os_conv Try.underlying3 Try.underlying133 rfl (u64_in ⟨by omega, by omega⟩)) ?_
  refine vl_call (bits_Mul k w (by omega)) rfl ?_
  rintro v w ⟨rfl, rfl⟩
  refine vl_val (os_move rfl) ?_
  refine vl_val (os_extract rfl rfl) ?_
  refine vl_val (os_extract rfl rfl) ?_
  refine vl_val (os_assign rfl) ?_
  refine vl_val (os_assign rfl) ?_
  refine vl_nil ?_
  refine v_seq ?_
  refine v_seq ?_
  refine v_region ?_
  refine vl_val (os_move rfl) ?_
  refine vl_val (os_f (os_gtr rfl rfl) (by decide)) ?_
  refine vl_val (os_move rfl) ?_
  refine vl_valg rfl (os_move rfl) ?_
  refine vl_valg rfl (os_gtr rfl rfl) ?_
  refine vl_val (os_pick_f rfl rfl) ?_
  refine vl_nil ?_
  refine v_cond_no rfl (by omega) ?_
  refine v_skip ?_
  refine v_seq ?_
  refine v_region ?_
  refine vl_val (os_move rfl) ?_
  refine vl_val (os_conv Try.underlying133 Try.underlying3 rfl (i64_fit ⟨by omega, by omega⟩)) ?_
  refine vl_some (ot_make (l := k) Try.underlying40 ti_int rfl rfl rfl rfl rfl (by omega) (by simp [maxLen]; omega) w.heap.size (Nat.le_refl _)) ?_
  rintro v1 w1 ⟨rfl, ho, hg⟩
  have hb1 : Below w.heap.size w w1 := (Below.refl _ _).grown hg (Nat.le_refl _) (fun k hk => by cases hk)
  have hB1 : Bk w1 w.heap.size (repCells 0 k z) 3 := by have := Own.bk ho (by simp); rw [show repCells 0 k z = List.replicate k (Value.int .i64 0) by simp [repCells]]; exact this
  obtain ⟨b0, o0, rfl, hz⟩ := (ha.keep hb1) (by simp)
  have hr0 : RdC w1 (some ⟨b0, o0, none⟩) ((List.replicate 1 z).map (Value.int .i64)) := by have := (ha.keep hb1).toC; simpa using this
  refine vl_val (os_assign rfl) ?_
  refine vl_nil ?_
  refine v_seq ?_
  refine v_region ?_
  refine vl_val (os_move rfl) ?_
  refine vl_val (os_move rfl) ?_
  refine vl_val (os_copyB Try.underlying40 (by kernel_rfl) rfl rfl hB1 hr0 (q := 1) (by simp) (by omega) (by rw [repCells_len (by omega)]; omega) (ints_one' _)) ?_
  refine vl_val (os_assign rfl) ?_
  refine vl_nil ?_
  refine v_seq ?_
  refine v_block ?_
  refine v_loop [(7, _)] (fun (n : Nat) => [(8, .int .i64 n)]) (fun n w' => 1 ≤ n ∧ n ≤ k ∧ Bk w' w.heap.size (repCells n k z) 3 ∧ Below w.heap.size w w') (fun n => k - n) (1) ⟨rfl, trivial⟩ ⟨rfl, trivial⟩ (⟨by omega, by omega, by rw [← repCells_step (n := 0) (m := 1) (by omega)]; exact setRow_bk hB1 _, below_setRow hb1 (Nat.le_refl _) _⟩) ?_
  rintro n w' ⟨hn1, hn2, hB, hbl⟩
  refine v_seq ?_
  refine v_seq ?_
  refine v_region ?_
  refine vl_val (os_move rfl) ?_
  refine vl_val (os_move rfl) ?_
  refine vl_val (os_len Try.underlying40 rfl) ?_
  refine vl_val (os_lss rfl rfl) ?_
  refine vl_nil ?_
  refine v_cond_d rfl (fun hlt => ?_) (fun hlt => ?_)
  · refine v_skip ?_
    refine v_block ?_
    refine v_region_a mixed ?_
    refine va_pure 0 rfl (by kernel_rfl) (by kernel_rfl) (by kernel_rfl) (fun w => (os_move rfl)) ?_
    refine va_pure 1 rfl (by kernel_rfl) (by kernel_rfl) (by kernel_rfl) (fun w => (os_move rfl)) ?_
    refine va_pure 2 rfl (by kernel_rfl) (by kernel_rfl) (by kernel_rfl) (fun w => (os_move rfl)) ?_
    refine va_pure 3 rfl (by kernel_rfl) (by kernel_rfl) (by kernel_rfl) (fun w => (os_slice_l1 Try.underlying40 Try.sizeOf3 rfl rfl (i := n) rfl (by omega) (by omega))) ?_
    refine va_pure 4 rfl (by kernel_rfl) (by kernel_rfl) (by kernel_rfl) (fun w => (os_move rfl)) ?_
    refine va_pure 5 rfl (by kernel_rfl) (by kernel_rfl) (by kernel_rfl) (fun w => (os_move rfl)) ?_
    refine va_pure 6 rfl (by kernel_rfl) (by kernel_rfl) (by kernel_rfl) (fun w => (os_slice_h Try.underlying40 Try.sizeOf3 rfl rfl (h := n) (by omega) (by omega))) ?_
    refine va_one 7 (by kernel_rfl) ?_
    refine vn_val rfl (os_copyB (ss := (List.replicate (min n (k - n)) z).map (Value.int .i64)) Try.underlying40 (by kernel_rfl) rfl rfl (Bk.led hB ⟨1, rfl⟩) (repCells_rd z (Bk.led hB ⟨1, rfl⟩) (by omega)) (q := min n (k - n)) (by simp) rfl (by rw [repCells_len (by omega)]; omega) (ints_one' _)) ?_
    refine va_pure 8 rfl (by kernel_rfl) (by kernel_rfl) (by kernel_rfl) (fun w => (os_addi rfl rfl (by omega))) ?_
    refine va_pure 9 rfl (by kernel_rfl) (by kernel_rfl) (by kernel_rfl) (fun w => (os_assign rfl)) ?_
    refine va_done (by kernel_rfl) ?_
    exact ⟨n + min n (k - n), ⟨rfl, trivial⟩, ⟨get_int rfl (by omega), trivial⟩, ⟨by omega, by omega, by rw [← repCells_step (n := n) (m := min n (k - n)) (by omega)]; exact setRow_bk (Bk.led hB ⟨1, rfl⟩) _, below_setRow ((Below.refl _ _).drew.mono (Nat.le_refl _) |> fun h => hbl.trans (h.mono hbl.size)) (Nat.le_refl _) _⟩, by dsimp only; omega⟩
  · obtain rfl : k = n := by omega
    have hown := Bk.own hB (Nat.le_refl _) (by rw [repCells_len (Nat.le_refl _)]; simp [maxLen]; omega)
    rw [repCells_len (Nat.le_refl _), show repCells k k z = (List.replicate k z).map (Value.int .i64) by simp [repCells]] at hown
    refine v_exit ?_
    refine v_seq ?_
    refine v_region ?_
    refine vl_val (os_move rfl) ?_
    refine vl_val (os_assign rfl) ?_
    refine vl_nil ?_
    refine v_ret ?_
    exact post_ret rfl rfl (⟨_, rfl, hown, hbl⟩)
theorem bits_Mul64z (w : World) : Gives Try.prog 169 #[.int .u64 1, .int .u64 0] w fun v w' => v = .tuple #[.int .u64 0, .int .u64 0] ∧ w' = w := bits_Mul64 0 w (by omega)
theorem sl_Repeat0 (A : Option Addr) (c : Nat) (z : Int) (w : World) (ha : Rd w .i64 A [z]) : Gives Try.prog 93 #[.slice A 1 c, .int .i64 0] w fun v w' => ∃ g, v = .slice (some ⟨g, 0, none⟩) 0 0 ∧ OwnK w' w.heap.size 3 .i64 v [] ∧ Below w.heap.size w w' := by
  refine gives_enter Try.call93 Try.func93 rfl rfl rfl (by kernel_rfl) ?_
  refine v_seq ?_
  refine v_region ?_
  refine vl_val (os_assign rfl) ?_
  refine vl_nil ?_
  refine v_seq ?_
  refine v_seq ?_
  refine v_region ?_
  refine vl_val (os_move rfl) ?_
  refine vl_val (os_lss rfl rfl) ?_
  refine vl_nil ?_
  refine v_cond_no rfl (by omega) ?_
  refine v_skip ?_
  refine v_seq ?_
  refine v_region ?_
  refine vl_val (os_move rfl) ?_
  refine vl_val (os_len Try.underlying40 rfl) ?_
  refine vl_val (os_conv Try.underlying3 Try.underlying133 (r := 1) rfl (by decide)) ?_
  refine vl_val (os_move rfl) ?_
  refine vl_val (os_conv Try.underlying3 Try.underlying133 rfl (u64_in ⟨by omega, by omega⟩)) ?_
  refine vl_call (bits_Mul 0 w (by omega)) rfl ?_
  rintro v w ⟨rfl, rfl⟩
  refine vl_val (os_move rfl) ?_
  refine vl_val (os_extract rfl rfl) ?_
  refine vl_val (os_extract rfl rfl) ?_
  refine vl_val (os_assign rfl) ?_
  refine vl_val (os_assign rfl) ?_
  refine vl_nil ?_
  refine v_seq ?_
  refine v_seq ?_
  refine v_region ?_
  refine vl_val (os_move rfl) ?_
  refine vl_val (os_f (os_gtr rfl rfl) (by decide)) ?_
  refine vl_val (os_move rfl) ?_
  refine vl_valg rfl (os_move rfl) ?_
  refine vl_valg rfl (os_gtr rfl rfl) ?_
  refine vl_val (os_pick_f rfl rfl) ?_
  refine vl_nil ?_
  refine v_cond_no rfl (by omega) ?_
  refine v_skip ?_
  refine v_seq ?_
  refine v_region ?_
  refine vl_val (os_move rfl) ?_
  refine vl_val (os_conv Try.underlying133 Try.underlying3 rfl (i64_fit ⟨by omega, by omega⟩)) ?_
  refine vl_some (ot_make (l := 0) Try.underlying40 ti_int rfl rfl rfl rfl rfl (by omega) (by simp [maxLen]) w.heap.size (Nat.le_refl _)) ?_
  rintro v1 w1 ⟨rfl, ho, hg⟩
  have hb1 : Below w.heap.size w w1 := (Below.refl _ _).grown hg (Nat.le_refl _) (fun k hk => by cases hk)
  refine vl_val (os_assign rfl) ?_
  refine vl_nil ?_
  refine v_seq ?_
  refine v_region ?_
  refine vl_val (os_move rfl) ?_
  refine vl_val (os_move rfl) ?_
  refine vl_some (ot_copy (q := 0) Try.underlying40 (by kernel_rfl) rfl rfl ho (cs := []) (ss := []) (A := A) (fun h => absurd h (by simp)) rfl (by omega) (by intro u hu; cases hu)) ?_
  rintro v2 w2 ⟨rfl, o2, g2⟩
  have hb2 : Below w.heap.size w w2 := hb1.grown g2 hb1.size (fun k hk => by cases hk; exact Nat.le_refl _)
  refine vl_val (os_assign rfl) ?_
  refine vl_nil ?_
  refine v_seq ?_
  refine v_block ?_
  refine v_loop [(7, _)] (fun (n : Nat) => [(8, .int .i64 n)]) (fun n w' => n = 0 ∧ w' = w2) (fun n => 1 - n) (0) ⟨rfl, trivial⟩ ⟨rfl, trivial⟩ (⟨rfl, rfl⟩) ?_
  rintro n w2 ⟨rfl, rfl⟩
  refine v_seq ?_
  refine v_seq ?_
  refine v_region ?_
  refine vl_val (os_move rfl) ?_
  refine vl_val (os_move rfl) ?_
  refine vl_val (os_len Try.underlying40 rfl) ?_
  refine vl_val (os_lss rfl rfl) ?_
  refine vl_nil ?_
  refine v_cond_no rfl (by omega) ?_
  refine v_exit ?_
  refine v_seq ?_
  refine v_region ?_
  refine vl_val (os_move rfl) ?_
  refine vl_val (os_assign rfl) ?_
  refine vl_nil ?_
  refine v_ret ?_
  exact post_ret rfl rfl (⟨_, rfl, by simpa [OwnK] using o2, hb2⟩)
end Go.Proofs.Ytpojijnjdlnokaa

/- In a region that draws: a call of which several arguments bear facts. No program in sight. -/
namespace Go.Proofs.Ytpojijnjdlnokaa
open Go.RowKit
set_option linter.unusedVariables false

def FactsIn (ts : Ts) (look : List Nat) : List (Nat × Fact) → Prop
  | [] => True
  | (t, T) :: r => (Ts.get ts t = some T ∧ look.contains t = true) ∧ FactsIn ts look r
def AllU (K : Fr → Prop) (w : World) : List (Nat × Fact) → Fr → Prop
  | [], fr => K fr
  | (t, T) :: r, fr => ∀ u, T u w → AllU K w r ((t, u) :: fr)
theorem allU_ag {K : Fr → Prop} {n : Cx} {w : World} {a : Act} {ts : Ts} {look : List Nat} (hfs : ∀ t ∈ look, ∀ T, Ts.get ts t = some T → ∃ u, a.tmps[t]? = some u ∧ T u w) : ∀ (sl : List (Nat × Fact)) (fr : Fr), FactsIn ts look sl → AllU K w sl fr → Ag n fr a → ∃ fr', Ag n fr' a ∧ K fr'
  | [], fr, _, h, ha => ⟨fr, ha, h⟩
  | (t, T) :: r, fr, hs, h, ha => by
    obtain ⟨⟨h1, h2⟩, h3⟩ := hs
    obtain ⟨u, hu, hTu⟩ := hfs t (by simpa using h2) T h1
    refine allU_ag hfs r ((t, u) :: fr) h3 (h u hTu) ⟨ha.defers, ha.size, fun s x hs => ?_⟩
    simp only [Fr.get] at hs
    cases hb : Nat.beq t s with
    | true =>
      rw [hb] at hs
      have hts : t = s := Nat.eq_of_beq_eq_true hb
      subst hts
      rw [← hs]; exact hu
    | false => rw [hb] at hs; exact ha.at_ s x hs

section
variable {P : Program} {n : Cx} {all rest : List Oper} {le : World → World → Prop} {w0 w : World} {fr : Fr} {ts : Ts} {Q : Exit → Fr → World → Prop} {d : Nat} {op : Op} {ty : TypeId} {pos : String} {aft : Array Edge} {gw : World → Prop}
theorem vt_calls {g : Option (Nat × Bool)} {f : FuncId} {xs : List Operand} {tt : Array TypeId} (sl : List (Nat × Fact)) (v : Value)
    (hs : FactsIn ts (Oper.looksAt all.toArray ⟨some d, .call ⟨.value (.func f), xs.toArray, tt⟩, ty, pos, aft, g⟩) sl)
    (h : ∀ w, le w0 w → AllU (fun fr' => ∃ args, evL fr' xs = some args ∧ Gives P f args.toArray w (fun v' w' => v' = v ∧ le w w')) w sl fr) (k : VT P n all le w0 rest ((d, v) :: fr) ts Q gw) (hg : GOk all fr g := by first | exact True.intro | rfl)
    (hcl : clean fr ts all ⟨some d, .call ⟨.value (.func f), xs.toArray, tt⟩, ty, pos, aft, g⟩ = true := by rfl) (hts : Ts.get ts d = none := by rfl) :
    VT P n all le w0 (⟨some d, .call ⟨.value (.func f), xs.toArray, tt⟩, ty, pos, aft, g⟩ :: rest) fr ts Q gw := by
  unfold VT at k ⊢
  intro hle hok hlt htn
  obtain ⟨h1, h2⟩ := dst_lt hok rfl
  refine vt_gen (stable_eq le v) hcl htn (fun a w ha hlw hfs => ?_) (by show VTL _ _ _ _ _ _ _ (ext (lf fr ts) (some d) _) gw; rw [lf_cons hts]; exact k hle h2 (hlt.cons h1 v) htn) hlt
  rw [hg.wanted ha, if_pos rfl]
  obtain ⟨fr', ha2, args, hx, hgv⟩ := allU_ag hfs sl fr hs (h w hlw) ha
  unfold Oper.wp
  unfold Gives at hgv
  rw [execOp_bare, run_callee (first := #[]) (cap := #[]) hgv.1 rfl hx ha2]
  simp only [Array.append_empty, Array.empty_append]
  refine hgv.2.mono ?_
  rintro e w' ⟨v', rfl, h1, h2⟩
  exact ⟨v', rfl, h2, h1⟩
/-- a call, whatever its guard, of whose value a fact is known -/
theorem vt_callfg {g : Option (Nat × Bool)} {f : FuncId} {xs : List Operand} {tt : Array TypeId} {args : List Value} (U : Fact) (hU : Stable le U) (h : ∀ w, le w0 w → Gives P f args.toArray w (fun v w' => le w w' ∧ U v w')) (hx : evL fr xs = some args) (k : VT P n all le w0 rest fr ((d, U) :: ts) Q gw)
    (hg : GOk all fr g := by first | exact True.intro | rfl) (hcl : clean fr ts all ⟨some d, .call ⟨.value (.func f), xs.toArray, tt⟩, ty, pos, aft, g⟩ = true := by rfl) : VT P n all le w0 (⟨some d, .call ⟨.value (.func f), xs.toArray, tt⟩, ty, pos, aft, g⟩ :: rest) fr ts Q gw := by
  unfold VT at k ⊢
  intro hle hok hlt htn
  obtain ⟨h1, h2⟩ := dst_lt hok rfl
  refine vt_callx (first := #[]) (cap := #[]) hU rfl hx (fun w hw => ?_) hcl (fun a ha => hg.wanted ha) hlt htn (by rw [lf_fact]; exact k hle h2 hlt (ts_keep htn h1 U))
  simp only [Array.append_empty, Array.empty_append]
  exact h w hw
/-- a call of which several arguments bear facts, of whose value a fact is known -/
theorem vt_callsg {g : Option (Nat × Bool)} {f : FuncId} {xs : List Operand} {tt : Array TypeId} (sl : List (Nat × Fact)) (U : Fact) (hU : Stable le U)
    (hs : FactsIn ts (Oper.looksAt all.toArray ⟨some d, .call ⟨.value (.func f), xs.toArray, tt⟩, ty, pos, aft, g⟩) sl)
    (h : ∀ w, le w0 w → AllU (fun fr' => ∃ args, evL fr' xs = some args ∧ Gives P f args.toArray w (fun v' w' => le w w' ∧ U v' w')) w sl fr) (k : VT P n all le w0 rest fr ((d, U) :: ts) Q gw) (hg : GOk all fr g := by first | exact True.intro | rfl)
    (hcl : clean fr ts all ⟨some d, .call ⟨.value (.func f), xs.toArray, tt⟩, ty, pos, aft, g⟩ = true := by rfl) :
    VT P n all le w0 (⟨some d, .call ⟨.value (.func f), xs.toArray, tt⟩, ty, pos, aft, g⟩ :: rest) fr ts Q gw := by
  unfold VT at k ⊢
  intro hle hok hlt htn
  obtain ⟨h1, h2⟩ := dst_lt hok rfl
  refine vt_gen hU hcl htn (fun a w ha hlw hfs => ?_) (by show VTL _ _ _ _ _ _ _ (ext (lf fr ts) (some d) _) gw; rw [lf_fact]; exact k hle h2 hlt (ts_keep htn h1 U)) hlt
  rw [hg.wanted ha, if_pos rfl]
  obtain ⟨fr', ha2, args, hx, hgv⟩ := allU_ag hfs sl fr hs (h w hlw) ha
  unfold Oper.wp
  unfold Gives at hgv
  rw [execOp_bare, run_callee (first := #[]) (cap := #[]) hgv.1 rfl hx ha2]
  simp only [Array.append_empty, Array.empty_append]
  refine hgv.2.mono ?_
  rintro e w' ⟨v', rfl, h1, h2⟩
  exact ⟨v', rfl, h1, h2⟩
/-- an operation, whatever its guard, that looks at a slot of which a fact is known -/
theorem vt_useg {g : Option (Nat × Bool)} (t : Nat) {T : Fact} (hT : Ts.get ts t = some T) (U : Fact) (hU : Stable le U) (h : ∀ u w, le w0 w → T u w → OT P n op ty ((t, u) :: fr) w (fun v w' => le w w' ∧ U v w')) (k : VT P n all le w0 rest fr ((d, U) :: ts) Q gw)
    (hg : GOk all fr g := by first | exact True.intro | rfl) (ht : (Oper.looksAt all.toArray ⟨some d, op, ty, pos, aft, g⟩).contains t = true := by rfl) (hcl : clean fr ts all ⟨some d, op, ty, pos, aft, g⟩ = true := by rfl) : VT P n all le w0 (⟨some d, op, ty, pos, aft, g⟩ :: rest) fr ts Q gw := by
  unfold VT at k ⊢
  intro hle hok hlt htn
  obtain ⟨h1, h2⟩ := dst_lt hok rfl
  refine vt_run hU hcl hlt htn (fun a ha => hg.wanted ha) (fun a w ha hlw hfs => ?_) (by rw [lf_fact]; exact k hle h2 hlt (ts_keep htn h1 U))
  obtain ⟨u, hu, hTu⟩ := hfs t (by simpa using ht) T hT
  have := h u w hlw hTu
  unfold OT at this
  refine this a ⟨ha.defers, ha.size, fun s x hs => ?_⟩
  simp only [Fr.get] at hs
  cases hb : Nat.beq t s with
  | true =>
    rw [hb] at hs
    have hts : t = s := Nat.eq_of_beq_eq_true hb
    subst hts
    rw [← hs]; exact hu
  | false => rw [hb] at hs; exact ha.at_ s x hs
end
/-- a list of numbers that a region lays -/
def IsRow (k : IntKind) (zs : List Int) : Fact := fun v w => ∃ A c, v = .slice A zs.length c ∧ Rd w k A zs
theorem isRow_stable (k : IntKind) (zs : List Int) : Stable LeG (IsRow k zs) := fun v w w' h ⟨A, c, e, r⟩ => ⟨A, c, e, r.keep h⟩
theorem isRow_lit (k : IntKind) (w : World) (zs : List Int) (e : TypeId) : LeG w (w.alloc (.cells (zs.map (Value.int k)).toArray e)) ∧ IsRow k zs (.slice (some ⟨w.heap.size, 0, none⟩) zs.length zs.length) (w.alloc (.cells (zs.map (Value.int k)).toArray e)) :=
  ⟨(Below.refl _ _).alloc (Nat.le_refl _) _, _, _, rfl, rd_alloc w k zs e⟩
end Go.Proofs.Ytpojijnjdlnokaa

/- Layer 11: what can fit at all; the walk of SizeGreatest. -/
namespace Go.Proofs.Ytpojijnjdlnokaa
open Go.RowKit
set_option linter.unusedVariables false

def canB (n m b : Int) (lens : List Int) : Bool := rightB n m b && fitsB n m b lens (List.replicate lens.length n)
theorem sumW_mono : ∀ (lens ks js : List Int), ks.length = lens.length → js.length = lens.length → (∀ i, i < lens.length → 0 ≤ lens.getD i 0 ∧ 1 ≤ ks.getD i 0 ∧ ks.getD i 0 ≤ js.getD i 0) → sumW (lens.zip js) ≤ sumW (lens.zip ks)
  | [], _, _, _, _, _ => by simp [sumW]
  | x :: lens, k :: ks, j :: js, h1, h2, h => by
    have h0 := h 0 (by simp)
    simp at h0
    have ih := sumW_mono lens ks js (by simpa using h1) (by simpa using h2) (fun i hi => by have := h (i + 1) (by simpa using hi); simpa using this)
    have := width_anti h0.1 h0.2.1 h0.2.2
    simp only [List.zip_cons_cons, sumW]
    omega
  | x :: lens, [], _, h1, _, _ => by simp at h1
  | x :: lens, _ :: _, [], _, h2, _ => by simp at h2
theorem lens_at {ls : List Int} (h : lensB ls = true) : ∀ i, i < ls.length → 0 ≤ ls.getD i 0 ∧ ls.getD i 0 ≤ 65535 := (lens_bd h).2.2
/-- if any thresholds fit, those do that are all n -/
theorem fits_can {n m b : Int} {lens ks : List Int} (h : fitsB n m b lens ks = true) : canB n m b lens = true := by
  obtain ⟨h1, h2, h3, h4, h5, h6⟩ := fits_iff.1 h
  have hr : rightB n m b = true := by simp only [roomOk, Bool.and_eq_true] at h1; exact h1.1
  have hn := right_bd hr
  have hrep : ∀ i, i < lens.length → (List.replicate lens.length n).getD i 0 = n := fun i hi => by simp [hi]
  refine Bool.and_eq_true_iff.2 ⟨hr, fits_iff.2 ⟨h1, h2, by simp, ?_, fun i hi => by rw [hrep i hi]; omega, ?_⟩⟩
  · simp only [sortedB, decide_eq_true_eq, List.length_replicate]
    intro i hi hi2
    rw [hrep i hi, hrep _ hi2]; omega
  · exact Int.le_trans (sumW_mono lens ks _ h3 (by simp) (fun i hi => ⟨(lens_at h2 i hi).1, (h5 i hi).1, by rw [hrep i hi]; exact (h5 i hi).2⟩)) h6
def rowsZ (ks lens : List Int) : List (Int × Int) := ks.zip lens
theorem rowsZ_at {ks lens : List Int} (h : ks.length = lens.length) {i : Nat} (hi : i < ks.length) : (rowsZ ks lens).getD i (0, 0) = (ks.getD i 0, lens.getD i 0) := zip_getD hi (by omega)
theorem offS_sum {rows : List (Int × Int)} (h : ∀ i, i < rows.length → widthOk (rows.getD i (0, 0)).2 (rows.getD i (0, 0)).1 = true) : ∀ k, k ≤ rows.length → offS rows k = sumW ((rows.take k).map fun x => (x.2, x.1))
  | 0, _ => by simp [offS, sumW]
  | k + 1, hk => by
    have ih := offS_sum h k (by omega)
    have hh := h k (by omega)
    have e : rows.getD k (0, 0) = rows[k] := by simp [show k < rows.length by omega]
    rw [List.take_succ_eq_append_getElem (by omega), List.map_append]
    have hs : ∀ (a b : List (Int × Int)), sumW (a ++ b) = sumW a + sumW b := fun a b => by
      induction a with
      | nil => simp [sumW]
      | cons x r ihh => simp only [List.cons_append, sumW]; omega
    rw [hs, ← ih]
    simp only [offS, List.map_cons, List.map_nil, sumW, Int.add_zero]
    rw [e] at hh ⊢
    simp [widthV, hh]
theorem zip_swap : ∀ (a b : List Int), (a.zip b).map (fun x => (x.2, x.1)) = b.zip a
  | [], b => by cases b <;> simp
  | x :: a, [] => by simp
  | x :: a, y :: b => by simp [zip_swap a b]
/-- a table's law, in rows of thresholds and of lengths -/
theorem layGo_sorted {n : Int} : ∀ (ks lens : List Int) (least : Int), ks.length = lens.length → (layGo n least (rowsZ ks lens) = true ↔ ((∀ i, i < ks.length → ks.getD i 0 ≤ n ∧ 0 ≤ lens.getD i 0 ∧ lens.getD i 0 ≤ 65535) ∧ (0 < ks.length → least ≤ ks.getD 0 0) ∧ sortedB ks = true))
  | [], [], _, _ => by simp [rowsZ, layGo, sortedB]
  | k :: ks, l :: lens, least, h => by
    have ih := layGo_sorted (n := n) ks lens k (by simpa using h)
    have e : rowsZ (k :: ks) (l :: lens) = (k, l) :: rowsZ ks lens := rfl
    rw [e, layGo, Bool.and_eq_true, decide_eq_true_eq, ih]
    unfold rowGood
    simp only [sortedB, decide_eq_true_eq, List.length_cons]
    constructor
    · rintro ⟨⟨a1, a2, a3, a4⟩, b1, b2, b3⟩
      refine ⟨fun i hi => ?_, fun _ => by simpa using a1, fun i hi hi2 => ?_⟩
      · cases i with
        | zero => simp; omega
        | succ i => simpa using b1 i (by omega)
      · cases i with
        | zero => have := b2 (by omega); simpa using this
        | succ i => simpa using b3 i (by omega) (by omega)
    · rintro ⟨a, b, c⟩
      have a0 := a 0 (by omega)
      have b0 := b (by omega)
      simp at a0 b0
      refine ⟨⟨b0, a0.1, a0.2.1, a0.2.2⟩, fun i hi => ?_, fun h0 => ?_, fun i hi hi2 => ?_⟩
      · have := a (i + 1) (by omega); simpa using this
      · have := c 0 (by omega) (by omega); simpa using this
      · have := c (i + 1) (by omega) (by omega); simpa using this
  | [], _ :: _, _, h => by simp at h
  | _ :: _, [], _, h => by simp at h
theorem sorted_ge {ks : List Int} (h : sortedB ks = true) : ∀ i, i < ks.length → ks.getD 0 0 ≤ ks.getD i 0
  | 0, _ => Int.le_refl _
  | i + 1, hi => by
    have h1 := sorted_ge h i (by omega)
    have h2 := of_decide_eq_true h i (by omega) hi
    omega
theorem fits_lay {n m b : Int} {lens ks : List Int} (h : fitsB n m b lens ks = true) : layOk n (rowsZ ks lens) = true := by
  obtain ⟨h1, h2, h3, h4, h5, h6⟩ := fits_iff.1 h
  have hr : rightB n m b = true := by simp only [roomOk, Bool.and_eq_true] at h1; exact h1.1
  have hn := right_bd hr
  have hb := lens_bd h2
  have hlen : (rowsZ ks lens).length = lens.length := by simp [rowsZ, h3]
  simp only [layOk, Bool.and_eq_true, decide_eq_true_eq, hlen]
  refine ⟨⟨hn.1, hn.2.1, hb.1, hb.2.1⟩, (layGo_sorted ks lens 1 h3).2 ⟨fun i hi => ?_, fun h0 => (h5 0 (by omega)).1, h4⟩⟩
  have := h5 i (by omega)
  have := hb.2.2 i (by omega)
  omega
theorem lay_fits {n m b : Int} {lens ks : List Int} (h3 : ks.length = lens.length) (h1 : roomOk n m b lens.length = true) (hL : layOk n (rowsZ ks lens) = true) : fitsB n m b lens ks = decide (offS (rowsZ ks lens) ks.length ≤ roomW n m b lens.length) := by
  obtain ⟨p1, p2, p3, p4, p5⟩ := layOk_parts hL
  have hlen : (rowsZ ks lens).length = lens.length := by simp [rowsZ, h3]
  rw [hlen] at p2 p3 p5
  obtain ⟨q1, q2, q3⟩ := (layGo_sorted ks lens 1 h3).1 p4
  have hl : lensB lens = true := by
    simp only [lensB, Bool.and_eq_true, Bool.not_eq_true', List.any_eq_false, betw, decide_eq_true_eq]
    refine ⟨by omega, fun z hz => ?_⟩
    obtain ⟨i, hi, rfl⟩ := List.getElem_of_mem hz
    have := (q1 i (by omega)).2
    have e : lens.getD i 0 = lens[i] := by simp [hi]
    rw [e] at this
    simpa using this
  have hsum : offS (rowsZ ks lens) ks.length = sumW (lens.zip ks) := by
    rw [offS_sum (by rw [hlen]; exact p5) ks.length (by rw [hlen, h3]; exact Nat.le_refl _), List.take_of_length_le (by rw [hlen, h3]; exact Nat.le_refl _)]
    exact congrArg sumW (zip_swap ks lens)
  rw [hsum, Bool.eq_iff_iff, fits_iff, decide_eq_true_eq]
  refine ⟨fun h => h.2.2.2.2.2, fun h => ⟨h1, hl, h3, q3, fun i hi => ?_, h⟩⟩
  have := sorted_ge q3 i (by omega)
  have := q2 (by omega)
  exact ⟨by omega, (q1 i (by omega)).1⟩
theorem room_iff {n m b l long : Int} (h : roomOk n m b l = true) (h0 : 0 ≤ long) : (long ≤ roomW n m b l) ↔ (18 + 3 * l + long ≤ m ∧ (18 + 3 * l + long) * n ≤ b) := by
  have hr : rightB n m b = true := by simp only [roomOk, Bool.and_eq_true] at h; exact h.1
  have hn := right_bd hr
  have h1 := Int.le_ediv_iff_mul_le (a := 18 + 3 * l + long) (b := b) (c := n) (by omega)
  unfold roomW
  rw [← h1]
  omega

theorem ti_row : TyInfo Try.prog 62 (.agg #[.int .i64 0, .int .i64 0]) 2 16 := by unfold TyInfo; kernel_rfl
theorem rows_take {ks lens : List Int} {i : Nat} (h1 : i < ks.length) (h2 : ks.length = lens.length) : ((rowsZ ks lens).take (i + 1)).map rowC = ((rowsZ ks lens).take i).map rowC ++ [[.int .i64 (ks.getD i 0), .int .i64 (lens.getD i 0)]] := by
  have hi : i < (rowsZ ks lens).length := by simp [rowsZ]; omega
  rw [List.take_succ_eq_append_getElem hi, List.map_append]
  have e := rowsZ_at h2 h1
  have e2 : (rowsZ ks lens).getD i (0, 0) = (rowsZ ks lens)[i] := by simp [hi]
  rw [e2] at e
  rw [e]
  rfl
theorem fit_mul {n m b X : Int} (h : rightB n m b = true) (h0 : 0 ≤ X) (h1 : X ≤ 100000000) : I64 (X * n) := by
  have := right_bd h
  have h2 : 0 ≤ X * n := Int.mul_nonneg h0 (by omega)
  have h3 : X * n ≤ 100000000 * 255 := Int.mul_le_mul h1 (by omega) (by omega) (by omega)
  exact ⟨by omega, by omega⟩
theorem all_rep {n : Int} (h : I64 n) (l : Nat) : AllI (List.replicate l n) := by
  intro z hz
  obtain ⟨-, rfl⟩ := List.mem_replicate.1 hz
  exact h
theorem rep_row (A : Option Addr) (c l : Nat) (z : Int) (w : World) (hr : Rd w .i64 A [z]) (hl : l ≤ 1000000) : Gives Try.prog 93 #[.slice A 1 c, .int .i64 l] w fun v w' => LeG w w' ∧ IsRow .i64 (List.replicate l z) v w' := by
  by_cases h0 : l = 0
  · subst h0
    exact (sl_Repeat0 A c z w hr).mono fun v w' ⟨g, e, ho, hb⟩ => ⟨hb, _, _, e, by rw [e] at ho; exact OwnK.rd ho⟩
  · exact (sl_Repeat A c l z w hr ⟨by omega, hl⟩).mono fun v w' ⟨g, e, ho, hb⟩ => ⟨hb, some ⟨g, 0, none⟩, l, by simpa using e, by rw [e] at ho; exact OwnK.rd ho⟩
set_option maxHeartbeats 2000000 in
theorem size_Can (n m b : Int) (A : Option Addr) (l c : Nat) (lens : List Int) (w : World) (ha : Rd w .i64 A lens) (hl : l = lens.length) (hl' : l ≤ 300) (hn : I64 n) :
    Gives Try.prog 59 #[.agg #[.int .i64 n, .int .i64 m, .int .i64 b], .slice A l c] w fun v w' => v = .bool (canB n m b lens) ∧ Below w.heap.size w w' := by
  have hB0 := bk_new w [.int .i64 n, .int .i64 m, .int .i64 b] 42
  have hb0 : Below w.heap.size w (w.alloc (.cells #[.int .i64 n, .int .i64 m, .int .i64 b] 42)) := (Below.refl _ w).alloc (Nat.le_refl _) _
  have ha0 := ha.keep hb0
  refine gives_enter Try.call59 Try.func59 rfl rfl rfl (by kernel_rfl) ?_
  cases hr : rightB n m b
  · refine v_seq ?_
    refine v_region ?_
    refine vl_val (os_box rfl) ?_
    refine vl_val (os_assign rfl) ?_
    refine vl_nil ?_
    refine v_seq ?_
    refine v_region_t LeG _ mixed (by kernel_rfl) lee_g (leg_start _) ?_
    refine vt_val (fun w hw => os_loadB Try.underlying42 rfl (by kernel_rfl) rfl ((hB0.keep hw))) ?_
    refine vt_call (v := .bool false) (fun w hw => gives_boolb (size_Right n m b w) hr) rfl ?_
    refine vt_val (fun w hw => os_move rfl) ?_
    refine vt_skip rfl rfl ?_
    refine vt_skip rfl rfl ?_
    refine vt_skip rfl rfl ?_
    refine vt_skip rfl rfl ?_
    refine vt_skip rfl rfl ?_
    refine vt_skip rfl rfl ?_
    refine vt_skip rfl rfl ?_
    refine vt_skip rfl rfl ?_
    refine vt_skip rfl rfl ?_
    refine vt_val (fun w hw => os_pick_f rfl rfl) ?_
    refine vt_val (fun w hw => os_assign rfl) ?_
    refine vt_nil (fun Hw H => ?_)
    refine v_ret ?_
    exact post_ret rfl rfl (⟨by simp [canB, hr], hb0.trans (H.mono hb0.size)⟩)
  · refine v_seq ?_
    refine v_region ?_
    refine vl_val (os_box rfl) ?_
    refine vl_val (os_assign rfl) ?_
    refine vl_nil ?_
    refine v_seq ?_
    refine v_region_t LeG _ mixed (by kernel_rfl) lee_g (leg_start _) ?_
    refine vt_val (fun w hw => os_loadB Try.underlying42 rfl (by kernel_rfl) rfl ((hB0.keep hw))) ?_
    refine vt_call (v := .bool true) (fun w hw => gives_boolb (size_Right n m b w) hr) rfl ?_
    refine vt_val (fun w hw => os_move rfl) ?_
    refine vt_valg rfl (fun w hw => os_loadB Try.underlying42 rfl (by kernel_rfl) rfl ((hB0.keep hw))) ?_
    refine vt_valg rfl (fun w hw => os_move rfl) ?_
    refine vt_valg rfl (fun w hw => os_fa (o := 0) (k := 0) (by kernel_rfl) rfl) ?_
    refine vt_valg rfl (fun w hw => os_load Try.isAgg3 rfl ((hB0.keep hw).cell rfl)) ?_
    refine vt_new (IsRow .i64 [n]) (isRow_stable _ _) (fun w hw => os_lit Try.underlying40 Try.sizeOf3 Try.zeroValue3 rfl rfl rfl rfl (by decide)) (fun w hw => isRow_lit .i64 w [n] _) ?_
    refine vt_valg rfl (fun w hw => os_move rfl) ?_
    refine vt_valg rfl (fun w hw => os_len Try.underlying40 rfl) ?_
    refine vt_callsg [(12, _)] (IsRow .i64 (List.replicate l n)) (isRow_stable _ _) ⟨⟨rfl, rfl⟩, trivial⟩ (fun w hw => fun u0 ⟨A0, c0, e0, x0⟩ => ⟨_, rfl, by subst e0; exact rep_row A0 c0 l n w x0 (by omega)⟩) ?_
    refine vt_callu 15 (.bool (canB n m b lens)) rfl (fun u w hw ⟨A', c', e, hr2⟩ => ⟨_, rfl, by subst e; exact (size_Fits n m b A A' l c _ c' lens (List.replicate l n) w (ha0.keep hw) hr2 hl rfl (by omega) (by simp; omega) (all_rep hn l)).mono fun v w' hh => ⟨by rw [hh.1]; simp [canB, hr, hl], hh.2⟩⟩) ?_
    refine vt_val (fun w hw => os_pick_t rfl rfl) ?_
    refine vt_val (fun w hw => os_assign rfl) ?_
    refine vt_nil (fun Hw H => ?_)
    intro u2 hu2 u1 hu1
    refine v_ret ?_
    exact post_ret rfl rfl (⟨by simp [canB, hr], hb0.trans (H.mono hb0.size)⟩)
end Go.Proofs.Ytpojijnjdlnokaa
