/- Layer 8: rules of pointers and nil, what stays but for some blocks; the program's writer and reader. -/
import Derived.Test.YtpcfifheegfjiaaTy
import Derived.Test.YtpcfifheegfjiaaN
import Derived.Test.YtpcfifheegfjiaaV4
import Derived.Test.YtpcfifheegfjiaaAp
import Derived.Test.YtpcfifheegfjiaaKb
namespace Go.Proofs.Ytpcfifheegfjiaa
open Go.RowKit
set_option linter.unusedVariables false

section
variable {P : Program} {n : Nat} {fr : Fr} {w w' : World} {ty : TypeId} {x y z : Operand} {v u : Value} {T T2 e : TypeId} {op : Op}
theorem os_eqlnil {A : Option Addr} (hT : P.underlying T = some (.pointer (P.pointee T))) (hx : Fr.ev fr x = some (.pointer A)) (hy : Fr.ev fr y = some (.pointer none)) : OS P n (.binOp .eql T x y T2) ty fr w (.bool A.isNone) w := os_of fun a ha => by
  simp [execOp, ha.ev hx, ha.ev hy, eqGuard, run_eql_pointer_nil w T A hT]
theorem os_neqnil {A : Option Addr} (hT : P.underlying T = some (.pointer (P.pointee T))) (hx : Fr.ev fr x = some (.pointer A)) (hy : Fr.ev fr y = some (.pointer none)) : OS P n (.binOp .neq T x y T2) ty fr w (.bool (!A.isNone)) w := os_of fun a ha => by
  simp [execOp, ha.ev hx, ha.ev hy, eqGuard, run_neq_pointer_nil w T A hT]

end

/-! ### numbers as bytes -/
def fitsB (n size : Int) : Bool := decide (1 ≤ size ∧ size ≤ 4 ∧ 0 ≤ n ∧ n < 256 ^ size.toNat)
theorem shr_fits {n size : Int} (h : 1 ≤ size ∧ size ≤ 4 ∧ 0 ≤ n) : decide (n.fdiv (2 ^ min (8 * size).toNat IntKind.i64.bits) = 0) = fitsB n size := by
  rw [Int.fdiv_eq_ediv_of_nonneg _ (Int.le_of_lt (Int.pow_pos (by omega)))]
  unfold fitsB
  rcases (by omega : size = 1 ∨ size = 2 ∨ size = 3 ∨ size = 4) with rfl | rfl | rfl | rfl <;> simp [IntKind.bits] <;> rw [← Bool.decide_and, decide_eq_decide] <;> constructor <;> intro h <;> omega
theorem pk_fits (n size : Int) (w : World) : Gives Try.prog 89 #[.int .i64 n, .int .i64 size] w fun v w' => v = .bool (fitsB n size) ∧ w' = w := by
  refine gives_enter Try.call89 Try.func89 rfl rfl rfl (by kernel_rfl) ?_
  rcases (by omega : size < 1 ∨ size > 4 ∨ (1 ≤ size ∧ size ≤ 4 ∧ n < 0) ∨ (1 ≤ size ∧ size ≤ 4 ∧ 0 ≤ n)) with h | h | h | h
  · refine v_seq ?_
    refine v_region ?_
    refine vl_val (os_assign rfl) ?_
    refine vl_nil ?_
    refine v_seq ?_
    refine v_region ?_
    refine vl_val (os_move rfl) ?_
    refine vl_val (os_f (os_geq rfl rfl) (by omega)) ?_
    refine vl_val (os_move rfl) ?_
    refine vl_skip rfl rfl ?_
    refine vl_skip rfl rfl ?_
    refine vl_val (os_pick_f rfl rfl) ?_
    refine vl_val (os_move rfl) ?_
    refine vl_skip rfl rfl ?_
    refine vl_skip rfl rfl ?_
    refine vl_val (os_pick_f rfl rfl) ?_
    refine vl_val (os_move rfl) ?_
    refine vl_skip rfl rfl ?_
    refine vl_skip rfl rfl ?_
    refine vl_skip rfl rfl ?_
    refine vl_skip rfl rfl ?_
    refine vl_skip rfl rfl ?_
    refine vl_val (os_pick_f rfl rfl) ?_
    refine vl_val (os_assign rfl) ?_
    refine vl_nil ?_
    refine v_ret ?_
    exact post_ret rfl rfl (⟨by simp [fitsB]; omega, rfl⟩)
  · refine v_seq ?_
    refine v_region ?_
    refine vl_val (os_assign rfl) ?_
    refine vl_nil ?_
    refine v_seq ?_
    refine v_region ?_
    refine vl_val (os_move rfl) ?_
    refine vl_val (os_t (os_geq rfl rfl) (by omega)) ?_
    refine vl_val (os_move rfl) ?_
    refine vl_valg rfl (os_move rfl) ?_
    refine vl_valg rfl (os_f (os_leq rfl rfl) (by omega)) ?_
    refine vl_val (os_pick_t rfl rfl) ?_
    refine vl_val (os_move rfl) ?_
    refine vl_skip rfl rfl ?_
    refine vl_skip rfl rfl ?_
    refine vl_val (os_pick_f rfl rfl) ?_
    refine vl_val (os_move rfl) ?_
    refine vl_skip rfl rfl ?_
    refine vl_skip rfl rfl ?_
    refine vl_skip rfl rfl ?_
    refine vl_skip rfl rfl ?_
    refine vl_skip rfl rfl ?_
    refine vl_val (os_pick_f rfl rfl) ?_
    refine vl_val (os_assign rfl) ?_
    refine vl_nil ?_
    refine v_ret ?_
    exact post_ret rfl rfl (⟨by simp [fitsB]; omega, rfl⟩)
  · refine v_seq ?_
    refine v_region ?_
    refine vl_val (os_assign rfl) ?_
    refine vl_nil ?_
    refine v_seq ?_
    refine v_region ?_
    refine vl_val (os_move rfl) ?_
    refine vl_val (os_t (os_geq rfl rfl) (by omega)) ?_
    refine vl_val (os_move rfl) ?_
    refine vl_valg rfl (os_move rfl) ?_
    refine vl_valg rfl (os_t (os_leq rfl rfl) (by omega)) ?_
    refine vl_val (os_pick_t rfl rfl) ?_
    refine vl_val (os_move rfl) ?_
    refine vl_valg rfl (os_move rfl) ?_
    refine vl_valg rfl (os_f (os_geq rfl rfl) (by omega)) ?_
    refine vl_val (os_pick_t rfl rfl) ?_
    refine vl_val (os_move rfl) ?_
    refine vl_skip rfl rfl ?_
    refine vl_skip rfl rfl ?_
    refine vl_skip rfl rfl ?_
    refine vl_skip rfl rfl ?_
    refine vl_skip rfl rfl ?_
    refine vl_val (os_pick_f rfl rfl) ?_
    refine vl_val (os_assign rfl) ?_
    refine vl_nil ?_
    refine v_ret ?_
    exact post_ret rfl rfl (⟨by simp [fitsB]; omega, rfl⟩)
  · refine v_seq ?_
    refine v_region ?_
    refine vl_val (os_assign rfl) ?_
    refine vl_nil ?_
    refine v_seq ?_
    refine v_region ?_
    refine vl_val (os_move rfl) ?_
    refine vl_val (os_t (os_geq rfl rfl) (by omega)) ?_
    refine vl_val (os_move rfl) ?_
    refine vl_valg rfl (os_move rfl) ?_
    refine vl_valg rfl (os_t (os_leq rfl rfl) (by omega)) ?_
    refine vl_val (os_pick_t rfl rfl) ?_
    refine vl_val (os_move rfl) ?_
    refine vl_valg rfl (os_move rfl) ?_
    refine vl_valg rfl (os_t (os_geq rfl rfl) (by omega)) ?_
    refine vl_val (os_pick_t rfl rfl) ?_
    refine vl_val (os_move rfl) ?_
    refine vl_valg rfl (os_move rfl) ?_
    refine vl_valg rfl (os_move rfl) ?_
    refine vl_valg rfl (os_muli rfl rfl (by omega)) ?_
    refine vl_valg rfl (os_shr rfl rfl (by omega) rfl) ?_
    refine vl_valg rfl (os_eql rfl rfl) ?_
    refine vl_val (os_pick_t rfl rfl) ?_
    refine vl_val (os_assign rfl) ?_
    refine vl_nil ?_
    refine v_ret ?_
    exact post_ret rfl rfl (⟨by rw [← shr_fits h], rfl⟩)

theorem pk_able (g : Nat) (v : Value) (e : Int) (t : TypeId) (w : World) (hB : Bk w g [v, .int .i64 e, .bool true] t) : Gives Try.prog 88 #[.pointer (some ⟨g, 0, none⟩)] w fun u w' => u = .bool (decide (e = 0)) ∧ w' = w := by
  refine gives_enter Try.call88 Try.func88 rfl rfl rfl (by kernel_rfl) ?_
  refine v_seq ?_
  refine v_region ?_
  refine vl_val (os_assign rfl) ?_
  refine vl_nil ?_
  refine v_seq ?_
  refine v_region ?_
  refine vl_val (os_move rfl) ?_
  refine vl_val (os_nilCheck rfl) ?_
  refine vl_val (os_fa (o := 2) (k := 0) (by kernel_rfl) rfl) ?_
  refine vl_val (os_load Try.isAgg4 rfl (Bk.cell (i := 2) hB rfl)) ?_
  refine vl_val (os_move rfl) ?_
  refine vl_valg rfl (os_move rfl) ?_
  refine vl_valg rfl (os_nilCheck rfl) ?_
  refine vl_valg rfl (os_fa (o := 1) (k := 0) (by kernel_rfl) rfl) ?_
  refine vl_valg rfl (os_load Try.isAgg29 rfl (Bk.cell (i := 1) hB rfl)) ?_
  refine vl_valg rfl (os_eql rfl rfl) ?_
  refine vl_val (os_pick_t rfl rfl) ?_
  refine vl_val (os_assign rfl) ?_
  refine vl_nil ?_
  refine v_ret ?_
  exact post_ret rfl rfl (⟨rfl, rfl⟩)
theorem pk_unless (g : Nat) (v : Value) (e : Int) (t : TypeId) (b : Bool) (x : Int) (w : World) (hB : Bk w g [v, .int .i64 e, .bool true] t) (hx : x ≠ 0) : Gives Try.prog 85 #[.pointer (some ⟨g, 0, none⟩), .bool b, .int .i64 x] w fun u w' => u = .bool (decide (e = 0) && b) ∧ w' = if e = 0 ∧ b = false then w.setCell ⟨g, 0 + 1, none⟩ (.int .i64 x) else w := by
  refine gives_enter Try.call85 Try.func85 rfl rfl rfl (by kernel_rfl) ?_
  rcases (by by_cases he : e = 0 <;> cases b <;> simp [he] : (e = 0 ∧ b = false) ∨ (e = 0 ∧ b = true) ∨ (e ≠ 0)) with ⟨rfl, rfl⟩ | ⟨rfl, rfl⟩ | he
  · refine v_seq ?_
    refine v_region ?_
    refine vl_val (os_assign rfl) ?_
    refine vl_nil ?_
    refine v_seq ?_
    refine v_seq ?_
    refine v_region ?_
    refine vl_val (os_move rfl) ?_
    refine vl_call (pk_able g v 0 t w hB) rfl ?_
    rintro v1 w ⟨rfl, rfl⟩
    refine vl_val (os_move rfl) ?_
    refine vl_valg rfl (os_move rfl) ?_
    refine vl_valg rfl (os_not rfl) ?_
    refine vl_val (os_pick_t rfl rfl) ?_
    refine vl_nil ?_
    refine v_cond_t rfl ?_
    refine v_region ?_
    refine vl_val (os_move rfl) ?_
    refine vl_val (os_move rfl) ?_
    refine vl_val (os_nilCheck rfl) ?_
    refine vl_val (os_fa (o := 1) (k := 0) (by kernel_rfl) rfl) ?_
    refine vl_unit (ou_store Try.sizeOf29 rfl rfl rfl (Bk.cell (i := 1) hB rfl) (Bk.free hB _)) ?_
    refine vl_nil ?_
    refine v_seq ?_
    refine v_region ?_
    refine vl_val (os_move rfl) ?_
    refine vl_call (pk_able g v x t _ (Bk.set hB 1 (.int .i64 x))) rfl ?_
    rintro v2 w2 ⟨rfl, rfl⟩
    refine vl_val (os_assign rfl) ?_
    refine vl_nil ?_
    refine v_ret ?_
    exact post_ret rfl rfl (⟨by simp [hx], by simp⟩)
  · refine v_seq ?_
    refine v_region ?_
    refine vl_val (os_assign rfl) ?_
    refine vl_nil ?_
    refine v_seq ?_
    refine v_seq ?_
    refine v_region ?_
    refine vl_val (os_move rfl) ?_
    refine vl_call (pk_able g v 0 t w hB) rfl ?_
    rintro v1 w ⟨rfl, rfl⟩
    refine vl_val (os_move rfl) ?_
    refine vl_valg rfl (os_move rfl) ?_
    refine vl_valg rfl (os_not rfl) ?_
    refine vl_val (os_pick_t rfl rfl) ?_
    refine vl_nil ?_
    refine v_cond_f rfl ?_
    refine v_skip ?_
    refine v_seq ?_
    refine v_region ?_
    refine vl_val (os_move rfl) ?_
    refine vl_call (pk_able g v 0 t w hB) rfl ?_
    rintro v2 w ⟨rfl, rfl⟩
    refine vl_val (os_assign rfl) ?_
    refine vl_nil ?_
    refine v_ret ?_
    exact post_ret rfl rfl (⟨rfl, by simp⟩)
  · refine v_seq ?_
    refine v_region ?_
    refine vl_val (os_assign rfl) ?_
    refine vl_nil ?_
    refine v_seq ?_
    refine v_seq ?_
    refine v_region ?_
    refine vl_val (os_move rfl) ?_
    refine vl_call ((pk_able g v e t w hB).mono fun u w' hh => (⟨by rw [hh.1, decide_eq_false he], hh.2⟩ : u = .bool false ∧ w' = w)) rfl ?_
    rintro v1 w ⟨rfl, rfl⟩
    refine vl_val (os_move rfl) ?_
    refine vl_skip rfl rfl ?_
    refine vl_skip rfl rfl ?_
    refine vl_val (os_pick_f rfl rfl) ?_
    refine vl_nil ?_
    refine v_cond_f rfl ?_
    refine v_skip ?_
    refine v_seq ?_
    refine v_region ?_
    refine vl_val (os_move rfl) ?_
    refine vl_call (pk_able g v e t w hB) rfl ?_
    rintro v2 w ⟨rfl, rfl⟩
    refine vl_val (os_assign rfl) ?_
    refine vl_nil ?_
    refine v_ret ?_
    exact post_ret rfl rfl (⟨by simp [he], by simp [he]⟩)

/-- what a writer or reader is: its three cells, its bytes in a row of their own -/
structure WrS (w : World) (B : Nat) (t : TypeId) (g : Nat) (v : Value) (bs : List Int) (e : Int) : Prop where
  bk : Bk w g [v, .int .i64 e, .bool true] t
  own : OwnK w B 5 .u8 v bs
  low : B ≤ g
  ne : v.ownBlock ≠ some g
def WrS.blocks (g : Nat) (v : Value) : List Nat := g :: v.ownBlock.toList

theorem pk_New (w : World) : Gives Try.prog 55 #[] w fun u w' => ∃ g, u = .pointer (some ⟨g, 0, none⟩) ∧ WrS w' w.heap.size 113 g (.slice none 0 0) [] 0 ∧ Below w.heap.size w w' := by
  refine gives_enter Try.call55 Try.func55 rfl rfl rfl (by kernel_rfl) ?_
  refine v_seq ?_
  refine v_region ?_
  refine vl_val (os_assign rfl) ?_
  refine vl_nil ?_
  refine v_seq ?_
  refine v_region ?_
  refine vl_val (os_build (cs := [.slice none 0 0, .int .i64 0, .bool true]) rfl (by kernel_rfl)) ?_
  refine vl_val (os_build (cs := [.slice none 0 0, .int .i64 0, .bool true]) rfl (by kernel_rfl)) ?_
  refine vl_val (os_box rfl) ?_
  refine vl_val (os_assign rfl) ?_
  refine vl_nil ?_
  refine v_ret ?_
  exact post_ret rfl rfl (⟨_, rfl, ⟨bk_new w [.slice none 0 0, .int .i64 0, .bool true] _, Own.nil _ _ _, Nat.le_refl _, by simp [Value.ownBlock]⟩, (Below.refl _ _).alloc (Nat.le_refl _) _⟩)

/-- the bytes of a number: so many, the greatest first -/
def numBytes (n : Int) (s : Nat) : List Int := (List.range s).map fun (k : Nat) => n / 256 ^ (s - 1 - k) % 256
def wrBytes (bs : List Int) (e : Int) (n size : Int) : List Int := if e = 0 ∧ fitsB n size = true then bs ++ numBytes n size.toNat else bs
def wrErr (e : Int) (n size : Int) : Int := if e = 0 ∧ fitsB n size = false then 2 else e

theorem numBytes_len (n : Int) (s : Nat) : (numBytes n s).length = s := by simp [numBytes]
theorem numBytes_succ (n : Int) {s k : Nat} (hk : k < s) : (numBytes n s).take (k + 1) = (numBytes n s).take k ++ [n / 256 ^ (s - 1 - k) % 256] := by
  rw [List.take_succ_eq_append_getElem (by rw [numBytes_len]; exact hk)]
  simp [numBytes]
theorem shr_byte (n : Int) {s k : Nat} (hk : k < s) (hs : s ≤ 4) : n.fdiv (2 ^ min (8 * ((s : Int) - 1 - (k : Int))).toNat IntKind.i64.bits) = n / 256 ^ (s - 1 - k) := by
  rw [Int.fdiv_eq_ediv_of_nonneg _ (Int.le_of_lt (Int.pow_pos (by omega)))]
  have e : min (8 * ((s : Int) - 1 - (k : Int))).toNat IntKind.i64.bits = 8 * (s - 1 - k) := by simp [IntKind.bits]; omega
  rw [e, Int.pow_mul]
  rfl
theorem blocks_ok {g : Nat} {v v' : Value} {B : Nat} (h : v'.ownBlock = v.ownBlock ∨ ∃ h, v'.ownBlock = some h ∧ B ≤ h) : ∀ k ∈ WrS.blocks g v', k ∈ WrS.blocks g v ∨ B ≤ k := by
  intro k hk
  unfold WrS.blocks at hk ⊢
  rcases h with e | ⟨x, e, hx⟩
  · rw [e] at hk; exact .inl hk
  · rw [e] at hk
    simp at hk
    rcases hk with rfl | rfl
    · exact .inl (by simp)
    · exact .inr hx

set_option maxHeartbeats 1000000 in
theorem pk_Number (g : Nat) (v : Value) (bs : List Int) (e n size : Int) (B : Nat) (w : World) (hw : WrS w B 113 g v bs e) (hB : B ≤ w.heap.size) (hl : (bs.length + 4) ≤ 140737488355328) :
    Gives Try.prog 57 #[.pointer (some ⟨g, 0, none⟩), .int .i64 n, .int .i64 size] w fun u w' => ∃ v', WrS w' B 113 g v' (wrBytes bs e n size) (wrErr e n size) ∧ Kb (WrS.blocks g v) w w' ∧ (v'.ownBlock = v.ownBlock ∨ ∃ h, v'.ownBlock = some h ∧ w.heap.size ≤ h) := by
  refine gives_enter Try.call57 Try.func57 rfl rfl rfl (by kernel_rfl) ?_
  rcases (by by_cases he : e = 0 <;> cases fitsB n size <;> simp [he] : (e = 0 ∧ fitsB n size = false) ∨ (e ≠ 0) ∨ (e = 0 ∧ fitsB n size = true)) with ⟨rfl, hf⟩ | he | ⟨rfl, hf⟩
  · refine v_seq ?_
    refine v_seq ?_
    refine v_region_a mixed ?_
    refine va_pure 0 rfl (by kernel_rfl) (by kernel_rfl) (by kernel_rfl) (fun w => (os_move rfl)) ?_
    refine va_pure 1 rfl (by kernel_rfl) (by kernel_rfl) (by kernel_rfl) (fun w => (os_is (os_eqlnil (by kernel_rfl) rfl rfl) (rfl))) ?_
    refine va_pure 2 rfl (by kernel_rfl) (by kernel_rfl) (by kernel_rfl) (fun w => (os_move rfl)) ?_
    refine va_pure 3 rfl (by kernel_rfl) (by kernel_rfl) (by kernel_rfl) (fun w => (os_move rfl)) ?_
    refine va_pure 4 rfl (by kernel_rfl) (by kernel_rfl) (by kernel_rfl) (fun w => (os_nilCheck rfl)) ?_
    refine va_pure 5 rfl (by kernel_rfl) (by kernel_rfl) (by kernel_rfl) (fun w => (os_fa (o := 0) (k := 2) (by kernel_rfl) rfl)) ?_
    refine va_pure 6 rfl (by kernel_rfl) (by kernel_rfl) (by kernel_rfl) (fun w => (os_move rfl)) ?_
    refine va_pure 7 rfl (by kernel_rfl) (by kernel_rfl) (by kernel_rfl) (fun w => (os_move rfl)) ?_
    refine va_one 8 (by kernel_rfl) ?_
    refine vn_call rfl (pk_fits n size _) rfl ?_
    rintro v1 w1 ⟨rfl, rfl⟩
    refine va_one 9 (by kernel_rfl) ?_
    refine vn_call rfl ((pk_unless g v 0 _ (fitsB n size) 2 _ (Bk.led hw.bk ⟨1, rfl⟩) (by omega)).mono fun u w' hh => (⟨by rw [hh.1, hf]; rfl, by rw [hh.2, hf, if_pos ⟨rfl, rfl⟩]⟩ : u = .bool false ∧ w' = _)) rfl ?_
    rintro v2 w2 ⟨rfl, rfl⟩
    refine va_pure 10 rfl (by kernel_rfl) (by kernel_rfl) (by kernel_rfl) (fun w => (os_not rfl)) ?_
    refine va_pure 11 rfl (by kernel_rfl) (by kernel_rfl) (by kernel_rfl) (fun w => (os_pick_f rfl rfl)) ?_
    refine va_done (by kernel_rfl) ?_
    refine v_cond_t rfl ?_
    refine v_ret ?_
    exact post_ret0 rfl (⟨v, ⟨by rw [wrErr, hf, if_pos ⟨rfl, rfl⟩]; exact Bk.set (Bk.led hw.bk ⟨1, rfl⟩) 1 _, by rw [wrBytes, hf, if_neg (fun h => by cases h.2)]; exact Own.setOther (Own.led hw.own ⟨1, rfl⟩) (fun g' e e2 => hw.ne (by rw [e, e2])) _ _, hw.low, hw.ne⟩, (Kb.led ⟨1, rfl⟩).trans (Kb.set (List.mem_cons_self) _ _) (fun k hk => .inl hk), .inl rfl⟩)
  · refine v_seq ?_
    refine v_seq ?_
    refine v_region_a mixed ?_
    refine va_pure 0 rfl (by kernel_rfl) (by kernel_rfl) (by kernel_rfl) (fun w => (os_move rfl)) ?_
    refine va_pure 1 rfl (by kernel_rfl) (by kernel_rfl) (by kernel_rfl) (fun w => (os_is (os_eqlnil (by kernel_rfl) rfl rfl) (rfl))) ?_
    refine va_pure 2 rfl (by kernel_rfl) (by kernel_rfl) (by kernel_rfl) (fun w => (os_move rfl)) ?_
    refine va_pure 3 rfl (by kernel_rfl) (by kernel_rfl) (by kernel_rfl) (fun w => (os_move rfl)) ?_
    refine va_pure 4 rfl (by kernel_rfl) (by kernel_rfl) (by kernel_rfl) (fun w => (os_nilCheck rfl)) ?_
    refine va_pure 5 rfl (by kernel_rfl) (by kernel_rfl) (by kernel_rfl) (fun w => (os_fa (o := 0) (k := 2) (by kernel_rfl) rfl)) ?_
    refine va_pure 6 rfl (by kernel_rfl) (by kernel_rfl) (by kernel_rfl) (fun w => (os_move rfl)) ?_
    refine va_pure 7 rfl (by kernel_rfl) (by kernel_rfl) (by kernel_rfl) (fun w => (os_move rfl)) ?_
    refine va_one 8 (by kernel_rfl) ?_
    refine vn_call rfl (pk_fits n size _) rfl ?_
    rintro v1 w1 ⟨rfl, rfl⟩
    refine va_one 9 (by kernel_rfl) ?_
    refine vn_call rfl ((pk_unless g v e _ (fitsB n size) 2 _ (Bk.led hw.bk ⟨1, rfl⟩) (by omega)).mono fun u w' hh => (⟨by rw [hh.1, decide_eq_false he]; rfl, by rw [hh.2, if_neg (fun h => he h.1)]⟩ : u = .bool false ∧ w' = _)) rfl ?_
    rintro v2 w2 ⟨rfl, rfl⟩
    refine va_pure 10 rfl (by kernel_rfl) (by kernel_rfl) (by kernel_rfl) (fun w => (os_not rfl)) ?_
    refine va_pure 11 rfl (by kernel_rfl) (by kernel_rfl) (by kernel_rfl) (fun w => (os_pick_f rfl rfl)) ?_
    refine va_done (by kernel_rfl) ?_
    refine v_cond_t rfl ?_
    refine v_ret ?_
    exact post_ret0 rfl (⟨v, ⟨by rw [wrErr, if_neg (fun h => he h.1)]; exact Bk.led hw.bk ⟨1, rfl⟩, by rw [wrBytes, if_neg (fun h => he h.1)]; exact Own.led hw.own ⟨1, rfl⟩, hw.low, hw.ne⟩, Kb.led ⟨1, rfl⟩, .inl rfl⟩)
  · refine v_seq ?_
    refine v_seq ?_
    refine v_region_a mixed ?_
    refine va_pure 0 rfl (by kernel_rfl) (by kernel_rfl) (by kernel_rfl) (fun w => (os_move rfl)) ?_
    refine va_pure 1 rfl (by kernel_rfl) (by kernel_rfl) (by kernel_rfl) (fun w => (os_is (os_eqlnil (by kernel_rfl) rfl rfl) (rfl))) ?_
    refine va_pure 2 rfl (by kernel_rfl) (by kernel_rfl) (by kernel_rfl) (fun w => (os_move rfl)) ?_
    refine va_pure 3 rfl (by kernel_rfl) (by kernel_rfl) (by kernel_rfl) (fun w => (os_move rfl)) ?_
    refine va_pure 4 rfl (by kernel_rfl) (by kernel_rfl) (by kernel_rfl) (fun w => (os_nilCheck rfl)) ?_
    refine va_pure 5 rfl (by kernel_rfl) (by kernel_rfl) (by kernel_rfl) (fun w => (os_fa (o := 0) (k := 2) (by kernel_rfl) rfl)) ?_
    refine va_pure 6 rfl (by kernel_rfl) (by kernel_rfl) (by kernel_rfl) (fun w => (os_move rfl)) ?_
    refine va_pure 7 rfl (by kernel_rfl) (by kernel_rfl) (by kernel_rfl) (fun w => (os_move rfl)) ?_
    refine va_one 8 (by kernel_rfl) ?_
    refine vn_call rfl (pk_fits n size _) rfl ?_
    rintro v1 w1 ⟨rfl, rfl⟩
    refine va_one 9 (by kernel_rfl) ?_
    refine vn_call rfl ((pk_unless g v 0 _ (fitsB n size) 2 _ (Bk.led hw.bk ⟨1, rfl⟩) (by omega)).mono fun u w' hh => (⟨by rw [hh.1, hf]; rfl, by rw [hh.2, hf, if_neg (fun h => by cases h.2)]⟩ : u = .bool true ∧ w' = _)) rfl ?_
    rintro v2 w2 ⟨rfl, rfl⟩
    have hs : 1 ≤ size ∧ size ≤ 4 ∧ 0 ≤ n ∧ n < 256 ^ size.toNat := of_decide_eq_true hf
    obtain ⟨s, rfl⟩ : ∃ s : Nat, size = s := ⟨size.toNat, by omega⟩
    have hn6 : n < 256 ^ s := by have := hs.2.2.2; simpa using this
    refine va_pure 10 rfl (by kernel_rfl) (by kernel_rfl) (by kernel_rfl) (fun w => (os_not rfl)) ?_
    refine va_pure 11 rfl (by kernel_rfl) (by kernel_rfl) (by kernel_rfl) (fun w => (os_pick_f rfl rfl)) ?_
    refine va_done (by kernel_rfl) ?_
    refine v_cond_f rfl ?_
    refine v_skip ?_
    refine v_seq ?_
    refine v_region ?_
    refine vl_val (os_move rfl) ?_
    refine vl_val (os_move rfl) ?_
    refine vl_nil ?_
    refine v_block ?_
    refine v_loop [(0, _), (1, _), (2, _), (19, _)] (fun (k : Nat) => [(20, .int .i64 k)]) (fun k w' => k ≤ s ∧ ∃ v', WrS w' B 113 g v' (bs ++ (numBytes n s).take k) 0 ∧ Kb (WrS.blocks g v) w w' ∧ (v'.ownBlock = v.ownBlock ∨ ∃ h, v'.ownBlock = some h ∧ w.heap.size ≤ h)) (fun k => s - k) (0) ⟨rfl, rfl, rfl, rfl, trivial⟩ ⟨rfl, trivial⟩ (⟨by omega, v, ⟨Bk.led hw.bk ⟨1, rfl⟩, by simp only [List.take_zero, List.append_nil]; exact Own.led hw.own ⟨1, rfl⟩, hw.low, hw.ne⟩, Kb.led ⟨1, rfl⟩, .inl rfl⟩) ?_
    rintro k w' ⟨hk, v', hw', hkb, hob⟩
    refine v_seq ?_
    refine v_region ?_
    refine vl_val (os_lss rfl rfl) ?_
    refine vl_nil ?_
    refine v_seq ?_
    refine v_cond_d rfl (fun hlt => ?_) (fun hlt => ?_)
    · have hlb : (bs ++ (numBytes n s).take k).length ≤ bs.length + 3 := by rw [List.length_append, List.length_take, numBytes_len]; omega
      have hsz := hkb.size
      have hg := hw'.bk.lt
      refine v_skip ?_
      refine v_seq ?_
      refine v_block ?_
      refine v_seq ?_
      refine v_region ?_
      refine vl_val (os_move rfl) ?_
      refine vl_val (os_assign rfl) ?_
      refine vl_nil ?_
      refine v_region_a mixed ?_
      refine va_pure 0 rfl (by kernel_rfl) (by kernel_rfl) (by kernel_rfl) (fun w => (os_move rfl)) ?_
      refine va_pure 1 rfl (by kernel_rfl) (by kernel_rfl) (by kernel_rfl) (fun w => (os_move rfl)) ?_
      refine va_pure 2 rfl (by kernel_rfl) (by kernel_rfl) (by kernel_rfl) (fun w => (os_nilCheck rfl)) ?_
      refine va_pure 3 rfl (by kernel_rfl) (by kernel_rfl) (by kernel_rfl) (fun w => (os_fa (o := 0) (k := 2) (by kernel_rfl) rfl)) ?_
      refine va_pure 4 rfl (by kernel_rfl) (by kernel_rfl) (by kernel_rfl) (fun w => (os_fa (o := 0) (k := 0) (by kernel_rfl) rfl)) ?_
      refine va_pure 6 rfl (by kernel_rfl) (by kernel_rfl) (by kernel_rfl) (fun w => (os_move rfl)) ?_
      refine va_pure 7 rfl (by kernel_rfl) (by kernel_rfl) (by kernel_rfl) (fun w => (os_move rfl)) ?_
      refine va_pure 8 rfl (by kernel_rfl) (by kernel_rfl) (by kernel_rfl) (fun w => (os_subi rfl rfl (by omega))) ?_
      refine va_pure 9 rfl (by kernel_rfl) (by kernel_rfl) (by kernel_rfl) (fun w => (os_move rfl)) ?_
      refine va_pure 10 rfl (by kernel_rfl) (by kernel_rfl) (by kernel_rfl) (fun w => (os_subi rfl rfl (by omega))) ?_
      refine va_pure 11 rfl (by kernel_rfl) (by kernel_rfl) (by kernel_rfl) (fun w => (os_muli rfl rfl (by omega))) ?_
      refine va_pure 12 rfl (by kernel_rfl) (by kernel_rfl) (by kernel_rfl) (fun w => (os_shr (r := n / 256 ^ (s - 1 - k)) rfl rfl (by omega) (shr_byte n (by omega) (by omega)))) ?_
      refine va_pure 13 rfl (by kernel_rfl) (by kernel_rfl) (by kernel_rfl) (fun w => (os_conv Try.underlying3 Try.underlying5 rfl (IntKind.wrap_u8 _))) ?_
      refine va_two 5 14 (by kernel_rfl) ?_ ?_
      · refine vn_val rfl (os_load Try.isAgg22 rfl (by first | exact Bk.cell (i := 0) (Bk.led hw'.bk ⟨1, rfl⟩) rfl | exact Bk.cell (i := 0) (Bk.alloc (Bk.led hw'.bk ⟨1, rfl⟩) _) rfl)) ?_
        refine va_one 14 (by kernel_rfl) ?_
        refine vn_val rfl (os_lit Try.underlying22 Try.sizeOf5 Try.zeroValue5 rfl rfl rfl rfl (by decide)) ?_
        refine va_one 15 (by kernel_rfl) ?_
        refine vn_some rfl (ot_append_at Try.underlying22 ti_u8 rfl rfl rfl (Own.alloc (Own.led hw'.own ⟨1, rfl⟩) _) (rdc_alloc _ [Value.int .u8 (n / 256 ^ (s - 1 - k) % 256)] _) rfl (by simp [Value.oneCell']) (by rw [List.length_map]; omega) (by rw [List.length_map]; simp only [maxLen]; omega) (by simp; omega)) ?_
        rintro v6 w6 ⟨ho6, hg6, ha6⟩
        obtain ⟨A6, c6, rfl, -⟩ := Own.form ho6
        refine va_pure 16 rfl (by kernel_rfl) (by kernel_rfl) (by kernel_rfl) (fun w => (os_nilCheck rfl)) ?_
        refine va_pure 17 rfl (by kernel_rfl) (by kernel_rfl) (by kernel_rfl) (fun w => (os_fa (o := 0) (k := 2) (by kernel_rfl) rfl)) ?_
        refine va_pure 18 rfl (by kernel_rfl) (by kernel_rfl) (by kernel_rfl) (fun w => (os_fa (o := 0) (k := 0) (by kernel_rfl) rfl)) ?_
        refine va_one 19 (by kernel_rfl) ?_
        refine vn_unit rfl (ou_store Try.sizeOf22 rfl rfl rfl (Bk.cell (i := 0) (Bk.grown (Bk.alloc (Bk.led hw'.bk ⟨1, rfl⟩) _) hg6 (fun e => hw'.ne e.symm)) rfl) (Bk.free (Bk.grown (Bk.alloc (Bk.led hw'.bk ⟨1, rfl⟩) _) hg6 (fun e => hw'.ne e.symm)) _)) ?_
        have hne6 : (Value.slice A6 _ c6).ownBlock ≠ some g := fun e => by
          rcases ha6 with h6 | h6
          · rw [h6] at e; exact hw'.ne e
          · rw [h6] at e; simp at e; omega
        refine va_done (by kernel_rfl) ?_
        refine v_region ?_
        refine vl_val (os_addi rfl rfl (by omega)) ?_
        refine vl_val (os_move rfl) ?_
        refine vl_nil ?_
        exact ⟨k + 1, ⟨rfl, rfl, rfl, rfl, trivial⟩, ⟨rfl, trivial⟩, ⟨by omega, _, ⟨Bk.set (Bk.grown (Bk.alloc (Bk.led hw'.bk ⟨1, rfl⟩) _) hg6 (fun e => hw'.ne e.symm)) 0 _, by rw [numBytes_succ n (by omega), ← List.append_assoc]; unfold OwnK; rw [show List.map (Value.int .u8) (bs ++ List.take k (numBytes n s) ++ [n / 256 ^ (s - 1 - k) % 256]) = List.map (Value.int .u8) (bs ++ List.take k (numBytes n s)) ++ [Value.int .u8 (n / 256 ^ (s - 1 - k) % 256)] from List.map_append ..]; exact Own.setOther ho6 (fun g' e e2 => hne6 (by rw [e, e2])) _ _, hw'.low, hne6⟩, hkb.trans (((Kb.led ⟨1, rfl⟩).trans (Kb.of_below ((Below.refl _ _).alloc (Nat.le_refl _) _)) (fun k hk => .inl hk)).trans ((Kb.grown hg6 (S := WrS.blocks g v') (fun k hk => by rw [WrS.blocks, hk]; simp)).trans (Kb.set (by simp [WrS.blocks]) _ _) (fun k hk => .inl hk)) (fun k hk => .inl hk)) (blocks_ok hob), by rcases ha6 with h6 | h6; (rw [h6]; exact hob); exact .inr ⟨_, h6, by simp; omega⟩⟩, by dsimp only; omega⟩
      · refine vn_val rfl (os_lit Try.underlying22 Try.sizeOf5 Try.zeroValue5 rfl rfl rfl rfl (by decide)) ?_
        refine va_one 5 (by kernel_rfl) ?_
        refine vn_val rfl (os_load Try.isAgg22 rfl (by first | exact Bk.cell (i := 0) (Bk.led hw'.bk ⟨1, rfl⟩) rfl | exact Bk.cell (i := 0) (Bk.alloc (Bk.led hw'.bk ⟨1, rfl⟩) _) rfl)) ?_
        refine va_one 15 (by kernel_rfl) ?_
        refine vn_some rfl (ot_append_at Try.underlying22 ti_u8 rfl rfl rfl (Own.alloc (Own.led hw'.own ⟨1, rfl⟩) _) (rdc_alloc _ [Value.int .u8 (n / 256 ^ (s - 1 - k) % 256)] _) rfl (by simp [Value.oneCell']) (by rw [List.length_map]; omega) (by rw [List.length_map]; simp only [maxLen]; omega) (by simp; omega)) ?_
        rintro v6 w6 ⟨ho6, hg6, ha6⟩
        obtain ⟨A6, c6, rfl, -⟩ := Own.form ho6
        refine va_pure 16 rfl (by kernel_rfl) (by kernel_rfl) (by kernel_rfl) (fun w => (os_nilCheck rfl)) ?_
        refine va_pure 17 rfl (by kernel_rfl) (by kernel_rfl) (by kernel_rfl) (fun w => (os_fa (o := 0) (k := 2) (by kernel_rfl) rfl)) ?_
        refine va_pure 18 rfl (by kernel_rfl) (by kernel_rfl) (by kernel_rfl) (fun w => (os_fa (o := 0) (k := 0) (by kernel_rfl) rfl)) ?_
        refine va_one 19 (by kernel_rfl) ?_
        refine vn_unit rfl (ou_store Try.sizeOf22 rfl rfl rfl (Bk.cell (i := 0) (Bk.grown (Bk.alloc (Bk.led hw'.bk ⟨1, rfl⟩) _) hg6 (fun e => hw'.ne e.symm)) rfl) (Bk.free (Bk.grown (Bk.alloc (Bk.led hw'.bk ⟨1, rfl⟩) _) hg6 (fun e => hw'.ne e.symm)) _)) ?_
        have hne6 : (Value.slice A6 _ c6).ownBlock ≠ some g := fun e => by
          rcases ha6 with h6 | h6
          · rw [h6] at e; exact hw'.ne e
          · rw [h6] at e; simp at e; omega
        refine va_done (by kernel_rfl) ?_
        refine v_region ?_
        refine vl_val (os_addi rfl rfl (by omega)) ?_
        refine vl_val (os_move rfl) ?_
        refine vl_nil ?_
        exact ⟨k + 1, ⟨rfl, rfl, rfl, rfl, trivial⟩, ⟨rfl, trivial⟩, ⟨by omega, _, ⟨Bk.set (Bk.grown (Bk.alloc (Bk.led hw'.bk ⟨1, rfl⟩) _) hg6 (fun e => hw'.ne e.symm)) 0 _, by rw [numBytes_succ n (by omega), ← List.append_assoc]; unfold OwnK; rw [show List.map (Value.int .u8) (bs ++ List.take k (numBytes n s) ++ [n / 256 ^ (s - 1 - k) % 256]) = List.map (Value.int .u8) (bs ++ List.take k (numBytes n s)) ++ [Value.int .u8 (n / 256 ^ (s - 1 - k) % 256)] from List.map_append ..]; exact Own.setOther ho6 (fun g' e e2 => hne6 (by rw [e, e2])) _ _, hw'.low, hne6⟩, hkb.trans (((Kb.led ⟨1, rfl⟩).trans (Kb.of_below ((Below.refl _ _).alloc (Nat.le_refl _) _)) (fun k hk => .inl hk)).trans ((Kb.grown hg6 (S := WrS.blocks g v') (fun k hk => by rw [WrS.blocks, hk]; simp)).trans (Kb.set (by simp [WrS.blocks]) _ _) (fun k hk => .inl hk)) (fun k hk => .inl hk)) (blocks_ok hob), by rcases ha6 with h6 | h6; (rw [h6]; exact hob); exact .inr ⟨_, h6, by simp; omega⟩⟩, by dsimp only; omega⟩
    · obtain rfl : s = k := by omega
      refine v_exit ?_
      exact post_end0 rfl (⟨v', by rw [wrBytes, hf, if_pos ⟨rfl, rfl⟩, wrErr, hf, if_neg (fun h => by cases h.2)]; have e : (numBytes n s).take s = numBytes n s := List.take_of_length_le (by rw [numBytes_len]; exact Nat.le_refl _); rw [e] at hw'; simpa using hw', hkb, hob⟩)
end Go.Proofs.Ytpcfifheegfjiaa
