/- Texts joined: Rep Ap Kb Fl. -/
import Derived.Test.YtpojijnjdlnokaaM3
import Derived.Maps.AppendAt
/- slices.Repeat of one number; even weights. -/
namespace Go.Proofs.Ytpojijnjdlnokaa
open Go.RowKit
set_option linter.unusedVariables false

theorem u64_in {n : Int} (h : 0 ≤ n ∧ n < 18446744073709551616) : IntKind.u64.wrap n = n := by
  simp [IntKind.wrap, IntKind.signed, IntKind.bits]; omega
theorem u64_mask {y : Int} (h : 0 ≤ y ∧ y < 4294967296) : IntKind.u64.wrap ((BitVec.ofInt 64 y &&& BitVec.ofInt 64 4294967295).toNat : Nat) = y := by
  have e : (BitVec.ofInt 64 y &&& BitVec.ofInt 64 4294967295).toNat = y.toNat := by
    rw [BitVec.toNat_and]
    have h1 : (BitVec.ofInt 64 y).toNat = y.toNat := by rw [BitVec.toNat_ofInt]; omega
    have h2 : (BitVec.ofInt 64 4294967295).toNat = 2 ^ 32 - 1 := by decide
    rw [h1, h2, Nat.and_two_pow_sub_one_eq_mod]
    omega
  rw [e, u64_in (by omega)]
  omega
theorem fdiv32 {y : Int} (h : 0 ≤ y ∧ y < 4294967296) : y.fdiv (2 ^ min (32 : Int).toNat IntKind.u64.bits) = 0 := by
  show y.fdiv (2 ^ 32) = 0
  rw [Int.fdiv_eq_ediv_of_nonneg _ (by decide)]
  omega
theorem bits_Mul64 (y : Int) (w : World) (h : 0 ≤ y ∧ y < 4294967296) : Gives Try.prog 169 #[.int .u64 1, .int .u64 y] w fun v w' => v = .tuple #[.int .u64 0, .int .u64 y] ∧ w' = w := by
  refine gives_enter Try.call169 Try.func169 rfl rfl rfl (by kernel_rfl) ?_
  refine v_seq ?_
  refine v_region ?_
  refine vl_val (os_assign rfl) ?_
  refine vl_val (os_assign rfl) ?_
  refine vl_nil ?_
  refine v_seq ?_
  refine v_region ?_
  refine vl_val (os_move rfl) ?_
  refine vl_val (os_and (r := 1) rfl rfl (by decide)) ?_
  refine vl_val (os_assign rfl) ?_
  refine vl_nil ?_
  refine v_seq ?_
  refine v_region ?_
  refine vl_val (os_move rfl) ?_
  refine vl_val (os_shr (r := 0) rfl rfl (by omega) (by decide)) ?_
  refine vl_val (os_assign rfl) ?_
  refine vl_nil ?_
  refine v_seq ?_
  refine v_region ?_
  refine vl_val (os_move rfl) ?_
  refine vl_val (os_and (r := y) rfl rfl (u64_mask h)) ?_
  refine vl_val (os_assign rfl) ?_
  refine vl_nil ?_
  refine v_seq ?_
  refine v_region ?_
  refine vl_val (os_move rfl) ?_
  refine vl_val (os_shr (r := 0) rfl rfl (by omega) (fdiv32 h)) ?_
  refine vl_val (os_assign rfl) ?_
  refine vl_nil ?_
  refine v_seq ?_
  refine v_region ?_
  refine vl_val (os_move rfl) ?_
  refine vl_val (os_move rfl) ?_
  refine vl_val (os_mul (r := y) rfl rfl (by rw [Int.one_mul]; exact u64_in (by omega))) ?_
  refine vl_val (os_assign rfl) ?_
  refine vl_nil ?_
  refine v_seq ?_
  refine v_region ?_
  refine vl_val (os_move rfl) ?_
  refine vl_val (os_move rfl) ?_
  refine vl_val (os_mul (r := 0) rfl rfl (by rw [Int.zero_mul]; rfl)) ?_
  refine vl_val (os_move rfl) ?_
  refine vl_val (os_shr (r := 0) rfl rfl (by omega) (fdiv32 h)) ?_
  refine vl_val (os_add (r := 0) rfl rfl (by decide)) ?_
  refine vl_val (os_assign rfl) ?_
  refine vl_nil ?_
  refine v_seq ?_
  refine v_region ?_
  refine vl_val (os_move rfl) ?_
  refine vl_val (os_and (r := 0) rfl rfl (by decide)) ?_
  refine vl_val (os_assign rfl) ?_
  refine vl_nil ?_
  refine v_seq ?_
  refine v_region ?_
  refine vl_val (os_move rfl) ?_
  refine vl_val (os_shr (r := 0) rfl rfl (by omega) (by decide)) ?_
  refine vl_val (os_assign rfl) ?_
  refine vl_nil ?_
  refine v_seq ?_
  refine v_region ?_
  refine vl_val (os_move rfl) ?_
  refine vl_val (os_move rfl) ?_
  refine vl_val (os_move rfl) ?_
  refine vl_val (os_mul (r := 0) rfl rfl (by decide)) ?_
  refine vl_val (os_add (r := 0) rfl rfl (by decide)) ?_
  refine vl_val (os_assign rfl) ?_
  refine vl_nil ?_
  refine v_seq ?_
  refine v_region ?_
  refine vl_val (os_move rfl) ?_
  refine vl_val (os_move rfl) ?_
  refine vl_val (os_mul (r := 0) rfl rfl (by decide)) ?_
  refine vl_val (os_move rfl) ?_
  refine vl_val (os_add (r := 0) rfl rfl (by decide)) ?_
  refine vl_val (os_move rfl) ?_
  refine vl_val (os_shr (r := 0) rfl rfl (by omega) (by decide)) ?_
  refine vl_val (os_add (r := 0) rfl rfl (by decide)) ?_
  refine vl_val (os_assign rfl) ?_
  refine vl_nil ?_
  refine v_seq ?_
  refine v_region ?_
  refine vl_val (os_move rfl) ?_
  refine vl_val (os_move rfl) ?_
  refine vl_val (os_mul (r := y) rfl rfl (by rw [Int.one_mul]; exact u64_in (by omega))) ?_
  refine vl_val (os_assign rfl) ?_
  refine vl_nil ?_
  refine v_ret ?_
  exact post_ret2 rfl rfl rfl (⟨rfl, rfl⟩)
theorem bits_Mul (y : Int) (w : World) (h : 0 ≤ y ∧ y < 4294967296) : Gives Try.prog 147 #[.int .u64 1, .int .u64 y] w fun v w' => v = .tuple #[.int .u64 0, .int .u64 y] ∧ w' = w := by
  refine gives_enter Try.call147 Try.func147 rfl rfl rfl (by kernel_rfl) ?_
  refine v_seq ?_
  refine v_region ?_
  refine vl_val (os_assign rfl) ?_
  refine vl_val (os_assign rfl) ?_
  refine vl_nil ?_
  refine v_seq ?_
  refine v_cond_f rfl ?_
  refine v_skip ?_
  refine v_seq ?_
  refine v_region ?_
  refine vl_val (os_move rfl) ?_
  refine vl_val (os_move rfl) ?_
  refine vl_call (bits_Mul64 y w h) rfl ?_
  rintro v w ⟨rfl, rfl⟩
  refine vl_val (os_move rfl) ?_
  refine vl_val (os_extract rfl rfl) ?_
  refine vl_val (os_extract rfl rfl) ?_
  refine vl_val (os_assign rfl) ?_
  refine vl_val (os_assign rfl) ?_
  refine vl_nil ?_
  refine v_seq ?_
  refine v_region ?_
  refine vl_val (os_move rfl) ?_
  refine vl_val (os_move rfl) ?_
  refine vl_val (os_assign rfl) ?_
  refine vl_val (os_assign rfl) ?_
  refine vl_nil ?_
  refine v_ret ?_
  exact post_ret2 rfl rfl rfl (⟨rfl, rfl⟩)

def repCells (n k : Nat) (z : Int) : List Value := (List.replicate n z ++ List.replicate (k - n) 0).map (Value.int .i64)
theorem repCells_len {n k : Nat} (h : n ≤ k) (z : Int) : (repCells n k z).length = k := by simp [repCells]; omega
theorem repCells_step {n k m : Nat} (h : n + m ≤ k) (z : Int) : (repCells n k z).take (0 + n) ++ (List.replicate m z).map (Value.int .i64) ++ (repCells n k z).drop (0 + n + m) = repCells (n + m) k z := by
  unfold repCells
  rw [Nat.zero_add, ← List.map_take, ← List.map_drop, ← List.map_append, ← List.map_append]
  congr 1
  have h1 : (List.replicate n z ++ List.replicate (k - n) 0).take n = List.replicate n z := by simp
  have h2 : (List.replicate n z ++ List.replicate (k - n) 0).drop (n + m) = List.replicate (k - (n + m)) 0 := by
    rw [List.drop_append]
    simp
    omega
  rw [h1, h2, List.replicate_append_replicate]
theorem repCells_rd {n k : Nat} (z : Int) {w : World} {g : Nat} {t : TypeId} (h : Bk w g (repCells n k z) t) {m : Nat} (hm : m ≤ n) : RdC w (some ⟨g, 0, none⟩) ((List.replicate m z).map (Value.int .i64)) := by
  have := (Bk.rdc h).take m
  rwa [show (repCells n k z).take m = (List.replicate m z).map (Value.int .i64) by
    unfold repCells
    rw [← List.map_take]
    congr 1
    rw [List.take_append_of_le_length (by simpa using hm), List.take_replicate, Nat.min_eq_left hm]] at this
theorem ints_one' (zs : List Int) : ∀ u ∈ zs.map (Value.int .i64), u.oneCell' = true := by
  intro u hu
  obtain ⟨z, _, rfl⟩ := List.mem_map.1 hu
  rfl

theorem sl_Repeat (A : Option Addr) (c k : Nat) (z : Int) (w : World) (ha : Rd w .i64 A [z]) (hk : 1 ≤ k ∧ k ≤ 1000000) : Gives Try.prog 93 #[.slice A 1 c, .int .i64 k] w fun v w' => ∃ g, v = .slice (some ⟨g, 0, none⟩) k k ∧ OwnK w' w.heap.size 3 .i64 v (List.replicate k z) ∧ Below w.heap.size w w' := by
  refine gives_enter Try.call93 Try.func93 rfl rfl rfl (by kernel_rfl) ?_
  refine v_seq ?_
  refine v_region ?_
  refine vl_val (os_assign rfl) ?_
  refine vl_nil ?_
  refine v_seq ?_
  refine v_seq ?_
  refine v_region ?_
  refine vl_val (os_move rfl) ?_
  refine vl_val (os_lss rfl rfl) ?_
  refine vl_nil ?_
  refine v_cond_no rfl (by omega) ?_
  refine v_skip ?_
  refine v_seq ?_
  refine v_region ?_
  refine vl_val (os_move rfl) ?_
  refine vl_val (os_len Try.underlying40 rfl) ?_
  refine vl_val (os_conv Try.underlying3 Try.underlying133 (r := 1) rfl (by decide)) ?_
  refine vl_val (os_move rfl) ?_
  refine vl_val (os_conv Try.underlying3 Try.underlying133 rfl (u64_in ⟨by omega, by omega⟩)) ?_
  refine vl_call (bits_Mul k w (by omega)) rfl ?_
  rintro v w ⟨rfl, rfl⟩
  refine vl_val (os_move rfl) ?_
  refine vl_val (os_extract rfl rfl) ?_
  refine vl_val (os_extract rfl rfl) ?_
  refine vl_val (os_assign rfl) ?_
  refine vl_val (os_assign rfl) ?_
  refine vl_nil ?_
  refine v_seq ?_
  refine v_seq ?_
  refine v_region ?_
  refine vl_val (os_move rfl) ?_
  refine vl_val (os_f (os_gtr rfl rfl) (by decide)) ?_
  refine vl_val (os_move rfl) ?_
  refine vl_valg rfl (os_move rfl) ?_
  refine vl_valg rfl (os_gtr rfl rfl) ?_
  refine vl_val (os_pick_f rfl rfl) ?_
  refine vl_nil ?_
  refine v_cond_no rfl (by omega) ?_
  refine v_skip ?_
  refine v_seq ?_
  refine v_region ?_
  refine vl_val (os_move rfl) ?_
  refine vl_val (os_conv Try.underlying133 Try.underlying3 rfl (i64_fit ⟨by omega, by omega⟩)) ?_
  refine vl_some (ot_make (l := k) Try.underlying40 ti_int rfl rfl rfl rfl rfl (by omega) (by simp [maxLen]; omega) w.heap.size (Nat.le_refl _)) ?_
  rintro v1 w1 ⟨rfl, ho, hg⟩
  have hb1 : Below w.heap.size w w1 := (Below.refl _ _).grown hg (Nat.le_refl _) (fun k hk => by cases hk)
  have hB1 : Bk w1 w.heap.size (repCells 0 k z) 3 := by have := Own.bk ho (by simp); rw [show repCells 0 k z = List.replicate k (Value.int .i64 0) by simp [repCells]]; exact this
  obtain ⟨b0, o0, rfl, hz⟩ := (ha.keep hb1) (by simp)
  have hr0 : RdC w1 (some ⟨b0, o0, none⟩) ((List.replicate 1 z).map (Value.int .i64)) := by have := (ha.keep hb1).toC; simpa using this
  refine vl_val (os_assign rfl) ?_
  refine vl_nil ?_
  refine v_seq ?_
  refine v_region ?_
  refine vl_val (os_move rfl) ?_
  refine vl_val (os_move rfl) ?_
  refine vl_val (os_copyB Try.underlying40 (by kernel_rfl) rfl rfl hB1 hr0 (q := 1) (by simp) (by omega) (by rw [repCells_len (by omega)]; omega) (ints_one' _)) ?_
  refine vl_val (os_assign rfl) ?_
  refine vl_nil ?_
  refine v_seq ?_
  refine v_block ?_
  refine v_loop [(7, _)] (fun (n : Nat) => [(8, .int .i64 n)]) (fun n w' => 1 ≤ n ∧ n ≤ k ∧ Bk w' w.heap.size (repCells n k z) 3 ∧ Below w.heap.size w w') (fun n => k - n) (1) ⟨rfl, trivial⟩ ⟨rfl, trivial⟩ (⟨by omega, by omega, by rw [← repCells_step (n := 0) (m := 1) (by omega)]; exact setRow_bk hB1 _, below_setRow hb1 (Nat.le_refl _) _⟩) ?_
  rintro n w' ⟨hn1, hn2, hB, hbl⟩
  refine v_seq ?_
  refine v_seq ?_
  refine v_region ?_
  refine vl_val (os_move rfl) ?_
  refine vl_val (os_move rfl) ?_
  refine vl_val (os_len Try.underlying40 rfl) ?_
  refine vl_val (os_lss rfl rfl) ?_
  refine vl_nil ?_
  refine v_cond_d rfl (fun hlt => ?_) (fun hlt => ?_)
  · refine v_skip ?_
    refine v_block ?_
    refine v_region_a mixed ?_
    refine va_pure 0 rfl (by kernel_rfl) (by kernel_rfl) (by kernel_rfl) (fun w => (os_move rfl)) ?_
    refine va_pure 1 rfl (by kernel_rfl) (by kernel_rfl) (by kernel_rfl) (fun w => (os_move rfl)) ?_
    refine va_pure 2 rfl (by kernel_rfl) (by kernel_rfl) (by kernel_rfl) (fun w => (os_move rfl)) ?_
    refine va_pure 3 rfl (by kernel_rfl) (by kernel_rfl) (by kernel_rfl) (fun w => (os_slice_l1 Try.underlying40 Try.sizeOf3 rfl rfl (i := n) rfl (by omega) (by omega))) ?_
    refine va_pure 4 rfl (by kernel_rfl) (by kernel_rfl) (by kernel_rfl) (fun w => (os_move rfl)) ?_
    refine va_pure 5 rfl (by kernel_rfl) (by kernel_rfl) (by kernel_rfl) (fun w => (os_move rfl)) ?_
    refine va_pure 6 rfl (by kernel_rfl) (by kernel_rfl) (by kernel_rfl) (fun w => (os_slice_h Try.underlying40 Try.sizeOf3 rfl rfl (h := n) (by omega) (by omega))) ?_
    refine va_one 7 (by kernel_rfl) ?_
    refine vn_val rfl (os_copyB (ss := (List.replicate (min n (k - n)) z).map (Value.int .i64)) Try.underlying40 (by kernel_rfl) rfl rfl (Bk.led hB ⟨1, rfl⟩) (repCells_rd z (Bk.led hB ⟨1, rfl⟩) (by omega)) (q := min n (k - n)) (by simp) rfl (by rw [repCells_len (by omega)]; omega) (ints_one' _)) ?_
    refine va_pure 8 rfl (by kernel_rfl) (by kernel_rfl) (by kernel_rfl) (fun w => (os_addi rfl rfl (by omega))) ?_
    refine va_pure 9 rfl (by kernel_rfl) (by kernel_rfl) (by kernel_rfl) (fun w => (os_assign rfl)) ?_
    refine va_done (by kernel_rfl) ?_
    exact ⟨n + min n (k - n), ⟨rfl, trivial⟩, ⟨get_int rfl (by omega), trivial⟩, ⟨by omega, by omega, by rw [← repCells_step (n := n) (m := min n (k - n)) (by omega)]; exact setRow_bk (Bk.led hB ⟨1, rfl⟩) _, below_setRow ((Below.refl _ _).drew.mono (Nat.le_refl _) |> fun h => hbl.trans (h.mono hbl.size)) (Nat.le_refl _) _⟩, by dsimp only; omega⟩
  · obtain rfl : k = n := by omega
    have hown := Bk.own hB (Nat.le_refl _) (by rw [repCells_len (Nat.le_refl _)]; simp [maxLen]; omega)
    rw [repCells_len (Nat.le_refl _), show repCells k k z = (List.replicate k z).map (Value.int .i64) by simp [repCells]] at hown
    refine v_exit ?_
    refine v_seq ?_
    refine v_region ?_
    refine vl_val (os_move rfl) ?_
    refine vl_val (os_assign rfl) ?_
    refine vl_nil ?_
    refine v_ret ?_
    exact post_ret rfl rfl (⟨_, rfl, hown, hbl⟩)
theorem bits_Mul64z (w : World) : Gives Try.prog 169 #[.int .u64 1, .int .u64 0] w fun v w' => v = .tuple #[.int .u64 0, .int .u64 0] ∧ w' = w := bits_Mul64 0 w (by omega)
theorem sl_Repeat0 (A : Option Addr) (c : Nat) (z : Int) (w : World) (ha : Rd w .i64 A [z]) : Gives Try.prog 93 #[.slice A 1 c, .int .i64 0] w fun v w' => ∃ g, v = .slice (some ⟨g, 0, none⟩) 0 0 ∧ OwnK w' w.heap.size 3 .i64 v [] ∧ Below w.heap.size w w' := by
  refine gives_enter Try.call93 Try.func93 rfl rfl rfl (by kernel_rfl) ?_
  refine v_seq ?_
  refine v_region ?_
  refine vl_val (os_assign rfl) ?_
  refine vl_nil ?_
  refine v_seq ?_
  refine v_seq ?_
  refine v_region ?_
  refine vl_val (os_move rfl) ?_
  refine vl_val (os_lss rfl rfl) ?_
  refine vl_nil ?_
  refine v_cond_no rfl (by omega) ?_
  refine v_skip ?_
  refine v_seq ?_
  refine v_region ?_
  refine vl_val (os_move rfl) ?_
  refine vl_val (os_len Try.underlying40 rfl) ?_
  refine vl_val (os_conv Try.underlying3 Try.underlying133 (r := 1) rfl (by decide)) ?_
  refine vl_val (os_move rfl) ?_
  refine vl_val (os_conv Try.underlying3 Try.underlying133 rfl (u64_in ⟨by omega, by omega⟩)) ?_
  refine vl_call (bits_Mul 0 w (by omega)) rfl ?_
  rintro v w ⟨rfl, rfl⟩
  refine vl_val (os_move rfl) ?_
  refine vl_val (os_extract rfl rfl) ?_
  refine vl_val (os_extract rfl rfl) ?_
  refine vl_val (os_assign rfl) ?_
  refine vl_val (os_assign rfl) ?_
  refine vl_nil ?_
  refine v_seq ?_
  refine v_seq ?_
  refine v_region ?_
  refine vl_val (os_move rfl) ?_
  refine vl_val (os_f (os_gtr rfl rfl) (by decide)) ?_
  refine vl_val (os_move rfl) ?_
  refine vl_valg rfl (os_move rfl) ?_
  refine vl_valg rfl (os_gtr rfl rfl) ?_
  refine vl_val (os_pick_f rfl rfl) ?_
  refine vl_nil ?_
  refine v_cond_no rfl (by omega) ?_
  refine v_skip ?_
  refine v_seq ?_
  refine v_region ?_
  refine vl_val (os_move rfl) ?_
  refine vl_val (os_conv Try.underlying133 Try.underlying3 rfl (i64_fit ⟨by omega, by omega⟩)) ?_
  refine vl_some (ot_make (l := 0) Try.underlying40 ti_int rfl rfl rfl rfl rfl (by omega) (by simp [maxLen]) w.heap.size (Nat.le_refl _)) ?_
  rintro v1 w1 ⟨rfl, ho, hg⟩
  have hb1 : Below w.heap.size w w1 := (Below.refl _ _).grown hg (Nat.le_refl _) (fun k hk => by cases hk)
  refine vl_val (os_assign rfl) ?_
  refine vl_nil ?_
  refine v_seq ?_
  refine v_region ?_
  refine vl_val (os_move rfl) ?_
  refine vl_val (os_move rfl) ?_
  refine vl_some (ot_copy (q := 0) Try.underlying40 (by kernel_rfl) rfl rfl ho (cs := []) (ss := []) (A := A) (fun h => absurd h (by simp)) rfl (by omega) (by intro u hu; cases hu)) ?_
  rintro v2 w2 ⟨rfl, o2, g2⟩
  have hb2 : Below w.heap.size w w2 := hb1.grown g2 hb1.size (fun k hk => by cases hk; exact Nat.le_refl _)
  refine vl_val (os_assign rfl) ?_
  refine vl_nil ?_
  refine v_seq ?_
  refine v_block ?_
  refine v_loop [(7, _)] (fun (n : Nat) => [(8, .int .i64 n)]) (fun n w' => n = 0 ∧ w' = w2) (fun n => 1 - n) (0) ⟨rfl, trivial⟩ ⟨rfl, trivial⟩ (⟨rfl, rfl⟩) ?_
  rintro n w2 ⟨rfl, rfl⟩
  refine v_seq ?_
  refine v_seq ?_
  refine v_region ?_
  refine vl_val (os_move rfl) ?_
  refine vl_val (os_move rfl) ?_
  refine vl_val (os_len Try.underlying40 rfl) ?_
  refine vl_val (os_lss rfl rfl) ?_
  refine vl_nil ?_
  refine v_cond_no rfl (by omega) ?_
  refine v_exit ?_
  refine v_seq ?_
  refine v_region ?_
  refine vl_val (os_move rfl) ?_
  refine vl_val (os_assign rfl) ?_
  refine vl_nil ?_
  refine v_ret ?_
  exact post_ret rfl rfl (⟨_, rfl, by simpa [OwnK] using o2, hb2⟩)
end Go.Proofs.Ytpojijnjdlnokaa

/- append, and where the result's row lies. No program in sight. -/
namespace Go.Proofs.Ytpojijnjdlnokaa
open Go.RowKit
set_option linter.unusedVariables false
section
variable {P : Program} {n : Cx} {fr : Fr} {w w' : World} {ty : TypeId} {x y z : Operand} {v u : Value} {T T2 e : TypeId} {op : Op}
/-- append(s, x...), and where the result's row lies -/
theorem ot_append_at {A : Option Addr} {m c : Nat} {cs news : List Value} {z0 : Value} {bytes : Nat} {B : Nat} (hT : P.underlying T = some (.slice e)) (hi : TyInfo P e z0 1 bytes) (hz : z0.cells.size = 1) (hx : Fr.ev fr x = some v) (hy : Fr.ev fr y = some (.slice A m c))
    (ho : Own w B e v cs) (hr : RdC w A news) (hm : m = news.length) (h1 : ∀ u ∈ news, u.oneCell' = true) (hb : (cs.length + m) * bytes ≤ 140737488355328) (hl : cs.length + m ≤ maxLen) (hB : B ≤ w.heap.size) :
    OT P n (.call ⟨.builtin .append, #[x, y], #[T, T]⟩) ty fr w fun v' w' => Own w' B e v' (cs ++ news) ∧ w.grownBy w' v.ownBlock ∧ (v'.ownBlock = v.ownBlock ∨ v'.ownBlock = some w.heap.size) := by
  obtain ⟨i, i1, i2, i3, i4⟩ := info_parts hi
  by_cases h0 : 0 < news.length
  · obtain ⟨b, o, rfl, hc⟩ := hr h0
    obtain ⟨v', w', hrun, ho', hg, _, hown⟩ := run_append_own_at (P := P) w B T ty e i z0 1 bytes hT i1 i2 i3 i4 hz (by omega) v cs.length cs ho ⟨b, o, none⟩ m c news (by omega)
      (fun j u hu => by
        have hj := (List.getElem?_eq_some_iff.1 hu).1
        rw [addr_add, hc j hj]; exact hu) h1 hl hb hB
    refine ot_of fun a ha => ⟨v', w', by simp [execOp, resolve, invoke, builtin, ha.ev hx, ha.ev hy, hrun, Result.andThen], ?_, hg, hown⟩
    unfold Own
    rw [List.length_append, ← hm]
    exact ho'
  · have hnil : news = [] := List.eq_nil_of_length_eq_zero (by omega)
    subst hnil
    have hm0 : m = 0 := by simpa using hm
    subst hm0
    have hrun : (Builtin.append_ #[T, T] ty #[v, .slice A 0 c]).run P w = .ok v w := by
      rcases ho.2 with ⟨rfl, h2⟩ | ⟨g, cap, cur, rfl, _, _, hnc, _⟩
      · cases A <;> simp [Builtin.append_, run_underlying hT, sizeOf, typeInfo, i1, Builtin.lenOf, Builtin.firstCells, loadCells, loadCellsFrom]
      · cases A <;> simp [Builtin.append_, run_underlying hT, sizeOf, typeInfo, i1, Builtin.lenOf, Builtin.firstCells, hnc, storeCells, loadCells, loadCellsFrom]
    refine ot_of fun a ha => ⟨v, w, by simp [execOp, resolve, invoke, builtin, ha.ev hx, ha.ev hy, hrun, Result.andThen], by simpa using ho, World.grownBy.refl _ _, .inl rfl⟩
end
/-- two lists of a call's own in two rows -/
def sep (h r : Value) : Prop := ∀ x, h.ownBlock = some x → r.ownBlock ≠ some x
theorem sep.symm {h r : Value} (s : sep h r) : sep r h := fun x hr hh => s x hh hr
theorem sep.grow {h h' r : Value} {w : World} {B : Nat} {t : TypeId} {cs : List Value} (s : sep h r) (hr : Own w B t r cs) (hh : h'.ownBlock = h.ownBlock ∨ h'.ownBlock = some w.heap.size) : sep h' r := by
  intro x hx hrx
  rcases hh with e | e
  · rw [e] at hx; exact s x hx hrx
  · rw [e] at hx; cases hx
    have := (World.ownsRow.lt hr _ hrx).2
    omega
theorem sep.other {h r : Value} (s : sep h r) : r.ownBlock = none ∨ r.ownBlock ≠ h.ownBlock := by
  cases hr : r.ownBlock with
  | none => exact .inl rfl
  | some x => exact .inr fun e => s x e.symm hr
end Go.Proofs.Ytpojijnjdlnokaa

/- What stays but for some blocks. No program in sight. -/
namespace Go.Proofs.Ytpojijnjdlnokaa
open Go.RowKit
set_option linter.unusedVariables false
/-! ### all stays but for some blocks -/
structure Kb (S : List Nat) (w w' : World) : Prop where
  os : w'.os = w.os
  tape : w'.tape = w.tape
  output : w'.output = w.output
  size : w.heap.size ≤ w'.heap.size
  block : ∀ k, k < w.heap.size → k ∉ S → w'.heap[k]? = w.heap[k]?
theorem Kb.refl (S : List Nat) (w : World) : Kb S w w := ⟨rfl, rfl, rfl, Nat.le_refl _, fun _ _ _ => rfl⟩
theorem Kb.trans {S T : List Nat} {a b c : World} (h : Kb S a b) (h' : Kb T b c) (hT : ∀ k ∈ T, k ∈ S ∨ a.heap.size ≤ k) : Kb S a c :=
  ⟨h'.os.trans h.os, h'.tape.trans h.tape, h'.output.trans h.output, Nat.le_trans h.size h'.size, fun k hk hS => by
    rw [h'.block k (Nat.lt_of_lt_of_le hk h.size) (fun hkT => by rcases hT k hkT with h1 | h1; exact hS h1; omega), h.block k hk hS]⟩
theorem Kb.mono {S T : List Nat} {a b : World} (h : Kb S a b) (hT : ∀ k ∈ S, k ∈ T ∨ a.heap.size ≤ k) : Kb T a b :=
  ⟨h.os, h.tape, h.output, h.size, fun k hk hS => h.block k hk fun hkS => by rcases hT k hkS with h1 | h1; exact hS h1; omega⟩
theorem Kb.of_below {S : List Nat} {a b : World} (h : Below a.heap.size a b) : Kb S a b := ⟨h.os, h.tape, h.output, h.size, fun k hk _ => h.block k hk⟩
theorem Kb.below {S : List Nat} {B : Nat} {w0 a b : World} (h : Kb S a b) (hb : Below B w0 a) (hS : ∀ k ∈ S, B ≤ k) (hB : B ≤ a.heap.size) : Below B w0 b :=
  ⟨h.os.trans hb.os, h.tape.trans hb.tape, h.output.trans hb.output, Nat.le_trans hb.size h.size, fun k hk => by
    rw [h.block k (by omega) (fun hkS => by have := hS k hkS; omega), hb.block k hk]⟩
theorem Kb.led {S : List Nat} {a b : World} (h : LeD a b) : Kb S a b := Kb.of_below (led_below h)
theorem Kb.set {S : List Nat} {w : World} {g : Nat} (hg : g ∈ S) (i : Nat) (u : Value) : Kb S w (w.setCell ⟨g, i, none⟩ u) :=
  have hb := below_set (Below.refl 0 w) (Nat.zero_le g) i u
  ⟨hb.os, hb.tape, hb.output, by simp [World.setCell], fun k _ hk => by
    rw [Below.heap_setCell _ _ _ _ (fun e => hk (by simp at e; rw [e]; exact hg))]⟩
theorem Kb.grown {S : List Nat} {w w' : World} {row : Option Nat} (hg : w.grownBy w' row) (hS : ∀ k, row = some k → k ∈ S) : Kb S w w' := by
  have hb := (Below.refl 0 w).grown hg (Nat.zero_le _) (fun k hk => Nat.zero_le _)
  refine ⟨hb.os, hb.tape, hb.output, ?_, fun k hk hkS => hg.block k hk fun e => hkS (hS k e.symm)⟩
  exact hg.size
theorem Bk.kb {w w' g cs t S} (h : Bk w g cs t) (hb : Kb S w w') (hg : g ∉ S) : Bk w' g cs t := (hb.block g h.lt hg).trans h
theorem Own.kb {w w' B t v cs S} (h : Own w B t v cs) (hb : Kb S w w') (hg : ∀ g, v.ownBlock = some g → g ∉ S) : Own w' B t v cs := by
  refine ⟨h.1, ?_⟩
  rcases h.2 with hn | ⟨g, cap, cur, rfl, hB0, hgg, rest⟩
  · exact .inl hn
  · exact .inr ⟨g, cap, cur, rfl, hB0, (hb.block g (Array.getElem?_eq_some_iff.1 hgg).1 (hg g rfl)).trans hgg, rest⟩

end Go.Proofs.Ytpojijnjdlnokaa

/- Rows that lie apart, each with marks of its own: what stays, what is owned while they are written over and grown. No program in sight. -/
namespace Go.Proofs.Ytpojijnjdlnokaa
open Go.RowKit
set_option linter.unusedVariables false

/-- v' is v, longer, in the same row -/
def Ext (v v' : Value) : Prop := ∃ b n m c, v = .slice (some ⟨b, 0, none⟩) n c ∧ v' = .slice (some ⟨b, 0, none⟩) m c ∧ n ≤ m

section
variable {P : Program} {n : Cx} {fr : Fr} {w w' : World} {ty : TypeId} {x y z : Operand} {v u : Value} {T T2 e : TypeId} {op : Op}
/-- append(s, x...) of some: in the same row, or in a new one while all old rows stay -/
theorem ot_append_s {A : Option Addr} {m c : Nat} {cs news : List Value} {z0 : Value} {bytes : Nat} {B : Nat} (hT : P.underlying T = some (.slice e)) (hi : TyInfo P e z0 1 bytes) (hz : z0.cells.size = 1) (hx : Fr.ev fr x = some v) (hy : Fr.ev fr y = some (.slice A m c))
    (ho : Own w B e v cs) (hr : RdC w A news) (hm : m = news.length) (h1 : ∀ u ∈ news, u.oneCell' = true) (hb : (cs.length + m) * bytes ≤ 140737488355328) (hl : cs.length + m ≤ maxLen) (hB : B ≤ w.heap.size) (h0 : 0 < news.length) :
    OT P n (.call ⟨.builtin .append, #[x, y], #[T, T]⟩) ty fr w fun v' w' => Own w' B e v' (cs ++ news) ∧ w.grownBy w' v.ownBlock ∧ (Ext v v' ∨ (v'.ownBlock = some w.heap.size ∧ w.grownBy w' none)) := by
  obtain ⟨i, i1, i2, i3, i4⟩ := info_parts hi
  obtain ⟨b, o, rfl, hc⟩ := hr h0
  have hnews : ∀ j u, news[j]? = some u → w.cell? ((⟨b, o, none⟩ : Addr).add j) = some u := fun j u hu => by
    have hj := (List.getElem?_eq_some_iff.1 hu).1
    rw [addr_add, hc j hj]; exact hu
  obtain ⟨v', w', hrun, ho', hg, _, hown⟩ := run_append_own_at (P := P) w B T ty e i z0 1 bytes hT i1 i2 i3 i4 hz (by omega) v cs.length cs ho ⟨b, o, none⟩ m c news (by omega) hnews h1 hl hb hB
  have key : Ext v v' ∨ (v'.ownBlock = some w.heap.size ∧ w.grownBy w' none) := by
    have hl2 : cs.length + m ≤ 9223372036854775807 := by simp only [maxLen] at hl; omega
    rcases ho.2 with ⟨rfl, hn⟩ | ⟨g, cap, cur, rfl, hbg, hgg, hnc, hcm, hcs, htake⟩
    · have hr2 := run_append_nil (P := P) w T ty e i z0 hT i1 i2 ⟨b, o, none⟩ m c news (by rw [i3]; omega) hnews (by omega) (by omega) (by rw [i4]; rw [hn] at hb; simp only [Nat.zero_add] at hb; omega)
      rw [hr2] at hrun
      injection hrun with e1 e2
      subst e1; subst e2
      exact .inr ⟨rfl, ⟨rfl, rfl, rfl, by simp, fun k hk _ => heap_alloc_old w.drew _ hk⟩⟩
    · by_cases hroom : cs.length + m ≤ cap
      · have hr2 := run_append_room (P := P) w T ty e i hT i1 g cs.length cap cur hgg ⟨b, o, none⟩ m c news (by rw [i3]; omega) hnews h1 hroom (by rw [i3, hcs]; omega)
        rw [hr2] at hrun
        injection hrun with e1 e2
        subst e1; subst e2
        exact .inl ⟨g, _, _, cap, rfl, rfl, by omega⟩
      · have hr2 := run_append_grow (P := P) w T ty e i z0 hT i1 i2 ⟨g, 0, none⟩ cs.length cap cs (by rw [i3]; omega) (ho.cells (g := g) rfl) ⟨b, o, none⟩ m c news (by rw [i3]; omega) hnews (by omega) (by omega) (growslice_fits (by omega) (by rw [i4]; exact hb))
        rw [hr2] at hrun
        injection hrun with e1 e2
        subst e1; subst e2
        exact .inr ⟨rfl, ⟨rfl, rfl, rfl, by simp, fun k hk _ => heap_alloc_old w.drew _ hk⟩⟩
  refine ot_of fun a ha => ⟨v', w', by simp [execOp, resolve, invoke, builtin, ha.ev hx, ha.ev hy, hrun, Result.andThen], ?_, hg, key⟩
  unfold Own
  rw [List.length_append, ← hm]
  exact ho'
end

theorem Own.uniq {w B B' t v cs cs'} (h : Own w B t v cs) (h' : Own w B' t v cs') : cs = cs' := by
  rcases h.2 with ⟨rfl, h0⟩ | ⟨g, cap, cur, rfl, _, hg, _, _, _, ht⟩
  · rcases h'.2 with ⟨_, h0'⟩ | ⟨g', cap', cur', e, _⟩
    · rw [List.eq_nil_of_length_eq_zero h0, List.eq_nil_of_length_eq_zero h0']
    · cases e
  · rcases h'.2 with ⟨e, _⟩ | ⟨g', cap', cur', e, _, hg', _, _, _, ht'⟩
    · cases e
    · injection e with e1 e2 e3
      injection e1 with e1
      injection e1 with e1
      subst e1
      rw [hg] at hg'
      cases hg'
      rw [← ht, ← ht', e2]

/-- the rows of s and of g, of which the one has grown out of the other: in one row, or in two -/
def Rel (s g : Value) : Prop := Ext s g ∨ sep s g
theorem Rel.refl {w B t cs s} (h : Own w B t s cs) : Rel s s := by
  rcases h.2 with ⟨rfl, _⟩ | ⟨g, cap, cur, rfl, _⟩
  · exact .inr fun x hx => by cases hx
  · exact .inl ⟨g, _, _, cap, rfl, rfl, Nat.le_refl _⟩
theorem Ext.block {v v'} (h : Ext v v') : v'.ownBlock = v.ownBlock := by obtain ⟨b, n, m, c, rfl, rfl, _⟩ := h; rfl
theorem Rel.ext {s g g'} (h : Rel s g) (he : Ext g g') : Rel s g' := by
  rcases h with h | h
  · obtain ⟨b, n, m, c, rfl, rfl, hn⟩ := h
    obtain ⟨b', n', m', c', e, rfl, hn'⟩ := he
    cases e
    exact .inl ⟨b, n, _, c, rfl, rfl, by omega⟩
  · exact .inr fun x hx => by rw [he.block]; exact h x hx
/-- the elder stays owned, and what it holds -/
theorem Own.elder {w w' B t s g g' cs xs ys} (hs : Own w B t s cs) (hg : Own w B t g xs) (hr : Rel s g) (hgr : w.grownBy w' g.ownBlock) (hk : Ext g g' ∨ (g'.ownBlock = some w.heap.size ∧ w.grownBy w' none)) (hg' : Own w' B t g' (xs ++ ys)) : Own w' B t s cs ∧ Rel s g' := by
  rcases hk with he | ⟨he, hn⟩
  · refine ⟨?_, hr.ext he⟩
    rcases hr with h | h
    · obtain ⟨b, n, m, c, rfl, rfl, hn⟩ := h
      obtain ⟨b', n', m', c', e, rfl, hn'⟩ := he
      cases e
      have h1 := Own.cut hg hn
      have h2 := Own.uniq hs h1
      have h3 := Own.cut hg' (m := n) (by omega)
      have hl := hg.len
      rw [List.take_append_of_le_length (by omega), ← h2] at h3
      exact h3
    · exact Own.other hs hgr (sep.other h.symm)
  · refine ⟨Own.other hs hn (by cases s.ownBlock <;> simp), .inr fun x hx => ?_⟩
    rw [he]
    intro e; cases e
    have := (World.ownsRow.lt hs _ hx).2
    omega

/-! ### many rows -/
/-- the row of v bears the label j, and is one of S or a new one -/
def Lb (S : List Nat) (Z : Nat) (lab : Nat → Nat) (v : Value) (j : Nat) : Prop := ∀ b, v.ownBlock = some b → lab b = j ∧ (b ∈ S ∨ Z ≤ b)
structure Fl (w0 : World) (B : Nat) (t tt : TypeId) (S : List Nat) (A : Option Addr) (ss : List Value) (lab : Nat → Nat) (cc : Nat → List Value) (gv : Value) (gs : List Value) (x : Nat) (dd : Nat → List Value) (w : World) : Prop where
  kb : Kb S w0 w
  low : B ≤ w0.heap.size
  row : RdC w A ss
  led : ∀ b o, A = some ⟨b, o, none⟩ → lab b = ss.length + 1 ∧ b < w0.heap.size ∧ b ∉ S
  own : ∀ j v, ss[j]? = some v → Own w B t v (cc j) ∧ Lb S w0.heap.size lab v j
  gown : Own w B tt gv gs ∧ ∀ b, gv.ownBlock = some b → lab b = ss.length ∧ w0.heap.size ≤ b
  xle : x ≤ ss.length
  own2 : ∀ j v, j < x → gs[j]? = some v → Own w B t v (dd j) ∧ Lb S w0.heap.size lab v j

section
variable {w0 w w' : World} {B : Nat} {t tt : TypeId} {S : List Nat} {A : Option Addr} {ss gs : List Value} {lab : Nat → Nat} {cc dd : Nat → List Value} {gv : Value} {x : Nat}
theorem Lb.lt {Z v j} (h : Lb S Z lab v j) {b : Nat} (hb : v.ownBlock = some b) : lab b = j := (h b hb).1
theorem Lb.upd {Z v j cs} (h : Lb S Z lab v j) (ho : Own w B t v cs) {lab' : Nat → Nat} (hl : ∀ b, b < w.heap.size → lab' b = lab b) : Lb S Z lab' v j := fun b hb => by
  rw [hl b (World.ownsRow.lt ho b hb).2]; exact h b hb
theorem Fl.upd (h : Fl w0 B t tt S A ss lab cc gv gs x dd w) {lab' : Nat → Nat} (hl : ∀ b, b < w.heap.size → lab' b = lab b) : Fl w0 B t tt S A ss lab' cc gv gs x dd w :=
  ⟨h.kb, h.low, h.row, fun b o e => by
      have h1 := h.led b o e
      have h2 := h.kb.size
      rw [hl b (by omega)]; exact h1,
    fun j v hv => ⟨(h.own j v hv).1, (h.own j v hv).2.upd (h.own j v hv).1 hl⟩,
    ⟨h.gown.1, fun b hb => by rw [hl b (World.ownsRow.lt h.gown.1 b hb).2]; exact h.gown.2 b hb⟩, h.xle,
    fun j v hj hv => ⟨(h.own2 j v hj hv).1, (h.own2 j v hj hv).2.upd (h.own2 j v hj hv).1 hl⟩⟩
theorem RdC.kb {S : List Nat} {cs : List Value} (h : RdC w A cs) (hb : Kb S w w') (hA : ∀ b o, A = some ⟨b, o, none⟩ → b ∉ S) : RdC w' A cs := by
  intro hl
  obtain ⟨b, off, e, hc⟩ := h hl
  refine ⟨b, off, e, fun i hi => ?_⟩
  have h1 := hc i hi
  rw [List.getElem?_eq_getElem hi] at h1
  have hlt := World.block_lt_of_cell? w ⟨b, off + i, none⟩ h1
  rw [← hc i hi]
  unfold World.cell?
  simp only [hb.block b hlt (hA b off e)]
/-- a step elsewhere -/
theorem Fl.away (h : Fl w0 B t tt S A ss lab cc gv gs x dd w) {S' : List Nat} (hb : Kb S' w w') (hS : ∀ b ∈ S', (ss.length + 2 ≤ lab b ∧ w0.heap.size ≤ b) ∨ w.heap.size ≤ b) : Fl w0 B t tt S A ss lab cc gv gs x dd w' := by
  have hz := h.kb.size
  have own_ : ∀ {tt v cs j}, Own w B tt v cs → (∀ b, v.ownBlock = some b → lab b = j) → j ≤ ss.length → Own w' B tt v cs := fun ho hl hj => Own.kb ho hb fun g hg hgS => by
    rcases hS g hgS with h1 | h1
    · have := hl g hg; omega
    · have := (World.ownsRow.lt ho g hg).2; omega
  refine ⟨h.kb.trans hb fun k hk => ?_, h.low, RdC.kb h.row hb fun b o e hbS => ?_, h.led, fun j v hv => ⟨own_ (h.own j v hv).1 (fun b hb => ((h.own j v hv).2 b hb).1) (Nat.le_of_lt (List.getElem?_eq_some_iff.1 hv).1), (h.own j v hv).2⟩,
    ⟨own_ h.gown.1 (fun b hb => (h.gown.2 b hb).1) (Nat.le_refl _), h.gown.2⟩, h.xle, fun j v hj hv => ⟨own_ (h.own2 j v hj hv).1 (fun b hb => ((h.own2 j v hj hv).2 b hb).1) (by have := h.xle; omega), (h.own2 j v hj hv).2⟩⟩
  · rcases hS k hk with h1 | h1
    · exact .inr h1.2
    · exact .inr (by omega)
  · have h1 := h.led b o e
    rcases hS b hbS with h2 | h2 <;> omega
theorem Fl.below (h : Fl w0 B t tt S A ss lab cc gv gs x dd w) (hb : Below w.heap.size w w') : Fl w0 B t tt S A ss lab cc gv gs x dd w' := h.away (S' := []) (Kb.of_below hb) (fun b hb => by cases hb)
theorem Fl.led' (h : Fl w0 B t tt S A ss lab cc gv gs x dd w) (hb : LeD w w') : Fl w0 B t tt S A ss lab cc gv gs x dd w' := h.below (led_below hb)
/-- a step in the rows of label k, of which no other has to know: all but what bears k stays -/
theorem Fl.at_ (h : Fl w0 B t tt S A ss lab cc gv gs x dd w) {k : Nat} (hk : k < ss.length) {S' : List Nat} (hb : Kb S' w w') (hS : ∀ b ∈ S', (lab b = k ∧ (b ∈ S ∨ w0.heap.size ≤ b)) ∨ w.heap.size ≤ b) {cc' : Nat → List Value} (hcc : ∀ j, j ≠ k → cc' j = cc j) (ho : ∀ v, ss[k]? = some v → Own w' B t v (cc' k)) (hx : x ≤ k) :
    Fl w0 B t tt S A ss lab cc' gv gs x dd w' := by
  have hz := h.kb.size
  have own_ : ∀ {tt v cs j}, Own w B tt v cs → (∀ b, v.ownBlock = some b → lab b = j) → j ≠ k → Own w' B tt v cs := fun ho hl hj => Own.kb ho hb fun g hg hgS => by
    rcases hS g hgS with h1 | h1
    · have := hl g hg; omega
    · have := (World.ownsRow.lt ho g hg).2; omega
  refine ⟨h.kb.trans hb fun b hbS => ?_, h.low, RdC.kb h.row hb fun b o e hbS => ?_, h.led, fun j v hv => ⟨?_, (h.own j v hv).2⟩,
    ⟨own_ h.gown.1 (fun b hb => (h.gown.2 b hb).1) (by omega), h.gown.2⟩, h.xle, fun j v hj hv => ⟨own_ (h.own2 j v hj hv).1 (fun b hb => ((h.own2 j v hj hv).2 b hb).1) (by omega), (h.own2 j v hj hv).2⟩⟩
  · rcases hS b hbS with h1 | h1
    · exact h1.2
    · exact .inr (by omega)
  · have h1 := h.led b o e
    rcases hS b hbS with h2 | h2 <;> omega
  · by_cases hj : j = k
    · subst hj; exact ho v hv
    · rw [hcc j hj]; exact own_ (h.own j v hv).1 (fun b hb => ((h.own j v hv).2 b hb).1) hj
/-- a cell of row k is written -/
theorem Fl.set (h : Fl w0 B t tt S A ss lab cc gv gs x dd w) {k g n c : Nat} (hk : ss[k]? = some (.slice (some ⟨g, 0, none⟩) n c)) (hx : x ≤ k) (i : Nat) (u : Value) :
    Fl w0 B t tt S A ss lab (fun j => if j = k then (cc k).set i u else cc j) gv gs x dd (w.setCell ⟨g, 0 + i, none⟩ u) := by
  rw [Nat.zero_add]
  have h1 := h.own k _ hk
  refine h.at_ (List.getElem?_eq_some_iff.1 hk).1 (S' := [g]) (Kb.set (by simp) i u) (fun b hb => ?_) (fun j hj => if_neg hj) (fun v hv => ?_) hx
  · have : b = g := by simpa using hb
    subst this
    exact .inl (h1.2 b rfl)
  · rw [hk] at hv; cases hv
    rw [if_pos rfl]
    exact Own.set h1.1 i u
/-- the new lists' row is made -/
theorem Fl.made (h : Fl w0 B t tt S A ss lab cc (.slice none 0 0) [] 0 dd w) {v : Value} {n c : Nat} (hg : w.grownBy w' none) (hv : v = .slice (some ⟨w.heap.size, 0, none⟩) n c) {gs : List Value} (ho : Own w' w.heap.size tt v gs) :
    Fl w0 B t tt S A ss (fun b => if b = w.heap.size then ss.length else lab b) cc v gs 0 dd w' := by
  have hz := h.kb.size
  have h1 := (h.below ((Below.refl _ _).grown hg (Nat.le_refl _) (fun k hk => by cases hk))).upd (lab' := fun b => if b = w.heap.size then ss.length else lab b)
  have hl : ∀ b, b < w.heap.size → (if b = w.heap.size then ss.length else lab b) = lab b := fun b hb => if_neg (by omega)
  have h2 := h.upd hl
  have h3 := h2.below ((Below.refl _ _).grown hg (Nat.le_refl _) (fun k hk => by cases hk))
  refine ⟨h3.kb, h3.low, h3.row, h3.led, h3.own, ⟨ho.mono (by have := h.low; omega), fun b hb => ?_⟩, Nat.zero_le _, fun j v hj => absurd hj (by omega)⟩
  subst hv
  cases hb
  exact ⟨if_pos rfl, by omega⟩
/-- what grows out of row k -/
structure Gr (w0 : World) (B : Nat) (t : TypeId) (S : List Nat) (lab : Nat → Nat) (ss : List Value) (k : Nat) (g : Value) (xs : List Value) (w : World) : Prop where
  own : Own w B t g xs
  lb : Lb S w0.heap.size lab g k
  rel : ∀ v, ss[k]? = some v → Rel v g
theorem Fl.gr (h : Fl w0 B t tt S A ss lab cc gv gs x dd w) {k : Nat} {v : Value} (hk : ss[k]? = some v) : Gr w0 B t S lab ss k v (cc k) w :=
  ⟨(h.own k v hk).1, (h.own k v hk).2, fun u hu => by rw [hk] at hu; cases hu; exact Rel.refl (h.own k v hk).1⟩
theorem Gr.below {k g xs} (h : Gr w0 B t S lab ss k g xs w) (hb : Below w.heap.size w w') : Gr w0 B t S lab ss k g xs w' := ⟨h.own.keepAll hb, h.lb, h.rel⟩
theorem Gr.away {k g xs} (h : Gr w0 B t S lab ss k g xs w) (hk : k < ss.length) {S' : List Nat} (hb : Kb S' w w') (hS : ∀ b ∈ S', ss.length ≤ lab b ∨ w.heap.size ≤ b) : Gr w0 B t S lab ss k g xs w' :=
  ⟨Own.kb h.own hb fun b hbb hbS => by
    have := (h.lb b hbb).1
    have := (World.ownsRow.lt h.own b hbb).2
    rcases hS b hbS with h1 | h1 <;> omega, h.lb, h.rel⟩
theorem Fl.grow (h : Fl w0 B t tt S A ss lab cc gv gs x dd w) {k : Nat} {g g' : Value} {xs ys : List Value} (hk : k < ss.length) (hx : x ≤ k) (hG : Gr w0 B t S lab ss k g xs w) (hg : w.grownBy w' g.ownBlock) (hn : Ext g g' ∨ (g'.ownBlock = some w.heap.size ∧ w.grownBy w' none)) (ho : Own w' B t g' (xs ++ ys)) :
    ∃ lab', Fl w0 B t tt S A ss lab' cc gv gs x dd w' ∧ Gr w0 B t S lab' ss k g' (xs ++ ys) w' := by
  have hz := h.kb.size
  have hl : ∀ b, b < w.heap.size → (if b = w.heap.size then k else lab b) = lab b := fun b hb => if_neg (by omega)
  have hkb : Kb g.ownBlock.toList w w' := Kb.grown hg (fun b hb => by rw [hb]; simp)
  refine ⟨fun b => if b = w.heap.size then k else lab b, (h.upd hl).at_ hk hkb (fun b hb => ?_) (fun _ _ => rfl) (fun v hv => (Own.elder (h.own k v hv).1 hG.own (hG.rel v hv) hg hn ho).1) hx, ho, fun b hb => ?_, fun v hv => (Own.elder (h.own k v hv).1 hG.own (hG.rel v hv) hg hn ho).2⟩
  · have hb' : g.ownBlock = some b := by simpa using hb
    have h1 := hG.lb b hb'
    rw [if_neg (by have := (World.ownsRow.lt hG.own b hb').2; omega)]
    exact .inl h1
  · rcases hn with he | ⟨he, _⟩
    · rw [he.block] at hb
      rw [if_neg (by have := (World.ownsRow.lt hG.own b hb).2; omega)]
      exact hG.lb b hb
    · rw [he] at hb; cases hb
      exact ⟨if_pos rfl, .inr hz⟩
/-- what has grown is put into the new lists' row -/
theorem Fl.put {n c G k : Nat} {g : Value} {xs : List Value} (h : Fl w0 B t tt S A ss lab cc (.slice (some ⟨G, 0, none⟩) n c) gs k dd w) (hk : k < ss.length) (hl : gs.length = ss.length) (hG : Gr w0 B t S lab ss k g xs w) :
    Fl w0 B t tt S A ss lab cc (.slice (some ⟨G, 0, none⟩) n c) (gs.set k g) (k + 1) (fun j => if j = k then xs else dd j) (w.setCell ⟨G, 0 + k, none⟩ g) := by
  rw [Nat.zero_add]
  have hz := h.kb.size
  have hGl := h.gown.2 G rfl
  have own_ : ∀ {tt v cs j}, Own w B tt v cs → (∀ b, v.ownBlock = some b → lab b = j) → j < ss.length → Own (w.setCell ⟨G, k, none⟩ g) B tt v cs := fun ho hlb hj => Own.setOther ho (fun b hb e => by have := hlb b hb; rw [e] at this; omega) k g
  have hkb : Kb [G] w (w.setCell ⟨G, k, none⟩ g) := Kb.set (by simp) k g
  refine ⟨h.kb.trans hkb fun b hb => .inr ?_, h.low, RdC.kb h.row hkb fun b o e hb => ?_, h.led, fun j v hv => ⟨own_ (h.own j v hv).1 (fun b hb => ((h.own j v hv).2 b hb).1) (List.getElem?_eq_some_iff.1 hv).1, (h.own j v hv).2⟩, ⟨Own.set h.gown.1 k g, h.gown.2⟩, by omega, fun j v hj hv => ?_⟩
  · have : b = G := by simpa using hb
    rw [this]; exact hGl.2
  · have h1 := h.led b o e
    have : b = G := by simpa using hb
    rw [this] at h1; omega
  · by_cases hjk : j = k
    · subst hjk
      rw [List.getElem?_set_self (by omega)] at hv
      cases hv
      rw [if_pos rfl]
      exact ⟨own_ hG.own (fun b hb => (hG.lb b hb).1) hk, hG.lb⟩
    · rw [List.getElem?_set_ne (fun e => hjk e.symm)] at hv
      rw [if_neg hjk]
      have h2 := h.own2 j v (by omega) hv
      exact ⟨own_ h2.1 (fun b hb => (h2.2 b hb).1) (by omega), h2.2⟩
theorem Fl.less (h : Fl w0 B t tt S A ss lab cc gv gs x dd w) {y : Nat} (hy : y ≤ x) : Fl w0 B t tt S A ss lab cc gv gs y dd w :=
  ⟨h.kb, h.low, h.row, h.led, h.own, h.gown, by have := h.xle; omega, fun j v hj hv => h.own2 j v (by omega) hv⟩
theorem Fl.congr (h : Fl w0 B t tt S A ss lab cc gv gs x dd w) {cc' : Nat → List Value} (hc : ∀ j, j < ss.length → cc' j = cc j) : Fl w0 B t tt S A ss lab cc' gv gs x dd w :=
  ⟨h.kb, h.low, h.row, h.led, fun j v hv => by rw [hc j (List.getElem?_eq_some_iff.1 hv).1]; exact h.own j v hv, h.gown, h.xle, h.own2⟩
theorem Fl.congr2 (h : Fl w0 B t tt S A ss lab cc gv gs x dd w) {dd' : Nat → List Value} (hc : ∀ j, j < x → dd' j = dd j) : Fl w0 B t tt S A ss lab cc gv gs x dd' w :=
  ⟨h.kb, h.low, h.row, h.led, h.own, h.gown, h.xle, fun j v hj hv => by rw [hc j hj]; exact h.own2 j v hj hv⟩
end

theorem RdC.get {w : World} {b o i : Nat} {cs : List Value} {v : Value} (h : RdC w (some ⟨b, o, none⟩) cs) (hv : cs[i]? = some v) : w.cell? ⟨b, o + i, none⟩ = some v := by
  have hi := (List.getElem?_eq_some_iff.1 hv).1
  obtain ⟨b', o', e, hc⟩ := h (by omega)
  cases e
  rw [hc i hi]; exact hv
theorem Own.get {w : World} {B t g n c i : Nat} {cs : List Value} {v : Value} (h : Own w B t (.slice (some ⟨g, 0, none⟩) n c) cs) (hv : cs[i]? = some v) : w.cell? ⟨g, 0 + i, none⟩ = some v := by
  have hi := (List.getElem?_eq_some_iff.1 hv).1
  rw [Nat.zero_add, Own.cell h hi]
  rw [List.getElem?_eq_getElem hi] at hv; exact hv
theorem Fl.ne_row {w0 w : World} {B : Nat} {t tt : TypeId} {S : List Nat} {bA oA : Nat} {ss gs : List Value} {lab : Nat → Nat} {cc dd : Nat → List Value} {gv : Value} {x k g n c : Nat}
    (h : Fl w0 B t tt S (some ⟨bA, oA, none⟩) ss lab cc gv gs x dd w) (hv : ss[k]? = some (.slice (some ⟨g, 0, none⟩) n c)) : bA ≠ g := by
  intro e; subst e
  have h1 := (h.led bA oA rfl).1
  have h2 := ((h.own k _ hv).2 bA rfl).1
  have := (List.getElem?_eq_some_iff.1 hv).1
  omega
def atB (b : Nat) (v : Value) : Bool := match v.ownBlock with
  | some x => x == b
  | none => false
theorem atB_iff {b : Nat} {v : Value} : atB b v = true ↔ v.ownBlock = some b := by
  unfold atB
  cases v.ownBlock <;> simp
open Classical in
/-- the beginning: so many lists of one's own, no two in one row -/
theorem Fl.init {w : World} {B : Nat} {t tt : TypeId} {A : Option Addr} {ss : List Value} {cc dd : Nat → List Value} (hB : B ≤ w.heap.size) (hr : RdC w A ss) (ho : ∀ (j : Nat) (v : Value), ss[j]? = some v → Own w B t v (cc j))
    (hs : ∀ (i j : Nat) (v u : Value), ss[i]? = some v → ss[j]? = some u → i < j → sep v u) (hA : ∀ b o, A = some ⟨b, o, none⟩ → b < w.heap.size ∧ ∀ (j : Nat) (v : Value), ss[j]? = some v → v.ownBlock ≠ some b) :
    ∃ lab, Fl w B t tt (ss.filterMap Value.ownBlock) A ss lab cc (.slice none 0 0) [] 0 dd w := by
  refine ⟨fun b => if (∃ o, A = some ⟨b, o, none⟩) then ss.length + 1 else ss.findIdx (atB b), ?_⟩
  have hfind : ∀ j (v : Value), ss[j]? = some v → ∀ b, v.ownBlock = some b → ss.findIdx (atB b) = j := by
    intro j v hj b hb
    have hjl := (List.getElem?_eq_some_iff.1 hj).1
    have hjv := (List.getElem?_eq_some_iff.1 hj).2
    have hlt : ss.findIdx (atB b) < ss.length := List.findIdx_lt_length_of_exists ⟨v, by rw [← hjv]; exact List.getElem_mem _, atB_iff.2 hb⟩
    have hp' : ss[ss.findIdx (atB b)].ownBlock = some b := atB_iff.1 (List.findIdx_getElem (w := hlt))
    rcases Nat.lt_trichotomy (ss.findIdx (atB b)) j with h1 | h1 | h1
    · exact absurd hb (hs _ _ _ _ (List.getElem?_eq_getElem hlt) hj h1 b hp')
    · exact h1
    · exact absurd hp' (hs _ _ _ _ hj (List.getElem?_eq_getElem hlt) h1 b hb)
  refine ⟨Kb.refl _ _, hB, hr, fun b o e => ⟨if_pos ⟨o, e⟩, (hA b o e).1, fun hb => ?_⟩, fun j v hv => ⟨ho j v hv, fun b hb => ⟨?_, .inl (List.mem_filterMap.2 ⟨v, List.mem_of_getElem? hv, hb⟩)⟩⟩, ⟨Own.nil _ _ _, fun b hb => by cases hb⟩, Nat.zero_le _, fun j v hj => absurd hj (by omega)⟩
  · obtain ⟨v, hv, hb⟩ := List.mem_filterMap.1 hb
    obtain ⟨j, hj⟩ := List.mem_iff_getElem?.1 hv
    exact (hA b o e).2 j v hj hb
  · dsimp only
    rw [if_neg (fun he => by obtain ⟨o, e⟩ := he; exact (hA b o e).2 j v hv hb)]
    exact hfind j v hv b hb

theorem sep_lt {w w' : World} {B B' : Nat} {t t' : TypeId} {v u : Value} {cs cs' : List Value} (h : Own w B t v cs) (h' : Own w' B' t' u cs') (hB : w.heap.size ≤ B') : sep v u := fun x hx hu => by
  have h1 := (World.ownsRow.lt h x hx).2
  have h2 := (World.ownsRow.lt h' x hu).1
  omega
theorem all2 {P : Nat → Value → Prop} {a b : Value} (h0 : P 0 a) (h1 : P 1 b) : ∀ (j : Nat) (v : Value), [a, b][j]? = some v → P j v := by
  intro j v hj
  rcases j with _ | _ | j
  · cases hj; exact h0
  · cases hj; exact h1
  · simp at hj
theorem all3 {P : Nat → Value → Prop} {a b c : Value} (h0 : P 0 a) (h1 : P 1 b) (h2 : P 2 c) : ∀ (j : Nat) (v : Value), [a, b, c][j]? = some v → P j v := by
  intro j v hj
  rcases j with _ | _ | _ | j
  · cases hj; exact h0
  · cases hj; exact h1
  · cases hj; exact h2
  · simp at hj
theorem sep3 {a b c : Value} (h1 : sep a b) (h2 : sep a c) (h3 : sep b c) : ∀ (i j : Nat) (v u : Value), [a, b, c][i]? = some v → [a, b, c][j]? = some u → i < j → sep v u := by
  intro i j v u hi hj hij
  rcases i with _ | _ | _ | i <;> rcases j with _ | _ | _ | j <;> simp at hi hj <;> (try omega) <;> subst hi <;> subst hj <;> assumption
theorem nat3 {Q : Nat → Prop} (h0 : Q 0) (h1 : Q 1) (h2 : Q 2) : ∀ j, j < 3 → Q j := by
  intro j hj
  rcases j with _ | _ | _ | j
  · exact h0
  · exact h1
  · exact h2
  · omega
theorem own_low {w : World} {B : Nat} {t : TypeId} {ss : List Value} {cc : Nat → List Value} (h : ∀ (j : Nat) (v : Value), ss[j]? = some v → Own w B t v (cc j)) : ∀ k ∈ ss.filterMap Value.ownBlock, B ≤ k := by
  intro k hk
  obtain ⟨x, hx, hxb⟩ := List.mem_filterMap.1 hk
  obtain ⟨j, hj⟩ := List.mem_iff_getElem?.1 hx
  exact (World.ownsRow.lt (h j x hj) k hxb).1
end Go.Proofs.Ytpojijnjdlnokaa
