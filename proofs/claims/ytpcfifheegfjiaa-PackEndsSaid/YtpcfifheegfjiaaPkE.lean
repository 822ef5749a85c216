/- Layer 8: no writer, no reader. -/
import Derived.Test.YtpcfifheegfjiaaPkL
namespace Go.Proofs.Ytpcfifheegfjiaa
open Go.RowKit
set_option linter.unusedVariables false

/-- none, or an empty one -/
def Emp (w : World) (t : TypeId) (A : Option Addr) : Prop := A = none ∨ ∃ g, A = some ⟨g, 0, none⟩ ∧ Bk w g [.slice none 0 0, .int .i64 0, .bool false] t
theorem Emp.keep {w w' : World} {t : TypeId} {A : Option Addr} (h : Emp w t A) (hb : Below w.heap.size w w') : Emp w' t A := by
  rcases h with h | ⟨g, h1, h2⟩
  · exact .inl h
  · exact .inr ⟨g, h1, h2.keep hb⟩
theorem pk_able0 (g : Nat) (t : TypeId) (w : World) (hB : Bk w g [.slice none 0 0, .int .i64 0, .bool false] t) : Gives Try.prog 88 #[.pointer (some ⟨g, 0, none⟩)] w fun u w' => u = .bool false ∧ w' = w := by
  refine gives_enter Try.call88 Try.func88 rfl rfl rfl (by kernel_rfl) ?_
  refine v_seq ?_
  refine v_region ?_
  refine vl_val (os_assign rfl) ?_
  refine vl_nil ?_
  refine v_seq ?_
  refine v_region ?_
  refine vl_val (os_move rfl) ?_
  refine vl_val (os_nilCheck rfl) ?_
  refine vl_val (os_fa (o := 2) (k := 0) (by kernel_rfl) rfl) ?_
  refine vl_val (os_load Try.isAgg4 rfl (Bk.cell (i := 2) hB rfl)) ?_
  refine vl_val (os_move rfl) ?_
  refine vl_skip rfl rfl ?_
  refine vl_skip rfl rfl ?_
  refine vl_skip rfl rfl ?_
  refine vl_skip rfl rfl ?_
  refine vl_skip rfl rfl ?_
  refine vl_val (os_pick_f rfl rfl) ?_
  refine vl_val (os_assign rfl) ?_
  refine vl_nil ?_
  refine v_ret ?_
  exact post_ret rfl rfl (⟨rfl, rfl⟩)
theorem pk_unless0 (g : Nat) (t : TypeId) (b : Bool) (x : Int) (w : World) (hB : Bk w g [.slice none 0 0, .int .i64 0, .bool false] t) : Gives Try.prog 85 #[.pointer (some ⟨g, 0, none⟩), .bool b, .int .i64 x] w fun u w' => u = .bool false ∧ w' = w := by
  refine gives_enter Try.call85 Try.func85 rfl rfl rfl (by kernel_rfl) ?_
  refine v_seq ?_
  refine v_region ?_
  refine vl_val (os_assign rfl) ?_
  refine vl_nil ?_
  refine v_seq ?_
  refine v_seq ?_
  refine v_region ?_
  refine vl_val (os_move rfl) ?_
  refine vl_call (pk_able0 g t w hB) rfl ?_
  rintro v1 w ⟨rfl, rfl⟩
  refine vl_val (os_move rfl) ?_
  refine vl_skip rfl rfl ?_
  refine vl_skip rfl rfl ?_
  refine vl_val (os_pick_f rfl rfl) ?_
  refine vl_nil ?_
  refine v_cond_f rfl ?_
  refine v_skip ?_
  refine v_seq ?_
  refine v_region ?_
  refine vl_val (os_move rfl) ?_
  refine vl_call (pk_able0 g t w hB) rfl ?_
  rintro v2 w ⟨rfl, rfl⟩
  refine vl_val (os_assign rfl) ?_
  refine vl_nil ?_
  refine v_ret ?_
  exact post_ret rfl rfl (⟨rfl, rfl⟩)
theorem pk_Number0 (A : Option Addr) (n size : Int) (w : World) (hE : Emp w 113 A) : Gives Try.prog 57 #[.pointer A, .int .i64 n, .int .i64 size] w fun u w' => LeD w w' := by
  refine gives_enter Try.call57 Try.func57 rfl rfl rfl (by kernel_rfl) ?_
  rcases hE with rfl | ⟨g, rfl, hB⟩
  · refine v_seq ?_
    refine v_seq ?_
    refine v_region_a mixed ?_
    refine va_pure 0 rfl (by kernel_rfl) (by kernel_rfl) (by kernel_rfl) (fun w => (os_move rfl)) ?_
    refine va_pure 1 rfl (by kernel_rfl) (by kernel_rfl) (by kernel_rfl) (fun w => (os_is (os_eqlnil (by kernel_rfl) rfl rfl) (rfl))) ?_
    refine va_pure 2 rfl (by kernel_rfl) (by kernel_rfl) (by kernel_rfl) (fun w => (os_move rfl)) ?_
    refine va_skip 3 rfl (by kernel_rfl) (by kernel_rfl) (by kernel_rfl) rfl rfl ?_
    refine va_skip 4 rfl (by kernel_rfl) (by kernel_rfl) (by kernel_rfl) rfl rfl ?_
    refine va_skip 5 rfl (by kernel_rfl) (by kernel_rfl) (by kernel_rfl) rfl rfl ?_
    refine va_skip 6 rfl (by kernel_rfl) (by kernel_rfl) (by kernel_rfl) rfl rfl ?_
    refine va_skip 7 rfl (by kernel_rfl) (by kernel_rfl) (by kernel_rfl) rfl rfl ?_
    refine va_skip 8 rfl (by kernel_rfl) (by kernel_rfl) (by kernel_rfl) rfl rfl ?_
    refine va_skip 9 rfl (by kernel_rfl) (by kernel_rfl) (by kernel_rfl) rfl rfl ?_
    refine va_skip 10 rfl (by kernel_rfl) (by kernel_rfl) (by kernel_rfl) rfl rfl ?_
    refine va_pure 11 rfl (by kernel_rfl) (by kernel_rfl) (by kernel_rfl) (fun w => (os_pick_t rfl rfl)) ?_
    refine va_done (by kernel_rfl) ?_
    refine v_cond_t rfl ?_
    refine v_ret ?_
    exact post_ret0 rfl (⟨1, rfl⟩)
  · refine v_seq ?_
    refine v_seq ?_
    refine v_region_a mixed ?_
    refine va_pure 0 rfl (by kernel_rfl) (by kernel_rfl) (by kernel_rfl) (fun w => (os_move rfl)) ?_
    refine va_pure 1 rfl (by kernel_rfl) (by kernel_rfl) (by kernel_rfl) (fun w => (os_is (os_eqlnil (by kernel_rfl) rfl rfl) (rfl))) ?_
    refine va_pure 2 rfl (by kernel_rfl) (by kernel_rfl) (by kernel_rfl) (fun w => (os_move rfl)) ?_
    refine va_pure 3 rfl (by kernel_rfl) (by kernel_rfl) (by kernel_rfl) (fun w => (os_move rfl)) ?_
    refine va_pure 4 rfl (by kernel_rfl) (by kernel_rfl) (by kernel_rfl) (fun w => (os_nilCheck rfl)) ?_
    refine va_pure 5 rfl (by kernel_rfl) (by kernel_rfl) (by kernel_rfl) (fun w => (os_fa (o := 0) (k := 2) (by kernel_rfl) rfl)) ?_
    refine va_pure 6 rfl (by kernel_rfl) (by kernel_rfl) (by kernel_rfl) (fun w => (os_move rfl)) ?_
    refine va_pure 7 rfl (by kernel_rfl) (by kernel_rfl) (by kernel_rfl) (fun w => (os_move rfl)) ?_
    refine va_one 8 (by kernel_rfl) ?_
    refine vn_call rfl (pk_fits n size _) rfl ?_
    rintro v1 w1 ⟨rfl, rfl⟩
    refine va_one 9 (by kernel_rfl) ?_
    refine vn_call rfl (pk_unless0 g _ (fitsB n size) 2 _ (Bk.led hB ⟨1, rfl⟩)) rfl ?_
    rintro v2 w2 ⟨rfl, rfl⟩
    refine va_pure 10 rfl (by kernel_rfl) (by kernel_rfl) (by kernel_rfl) (fun w => (os_not rfl)) ?_
    refine va_pure 11 rfl (by kernel_rfl) (by kernel_rfl) (by kernel_rfl) (fun w => (os_pick_f rfl rfl)) ?_
    refine va_done (by kernel_rfl) ?_
    refine v_cond_t rfl ?_
    refine v_ret ?_
    exact post_ret0 rfl (⟨1, rfl⟩)
theorem pk_Put0 (A B : Option Addr) (n c : Nat) (w : World) (hE : Emp w 113 A) : Gives Try.prog 59 #[.pointer A, .slice B n c] w fun u w' => w' = w := by
  refine gives_enter Try.call59 Try.func59 rfl rfl rfl (by kernel_rfl) ?_
  rcases hE with rfl | ⟨g, rfl, hB⟩
  · refine v_seq ?_
    refine v_region ?_
    refine vl_val (os_move rfl) ?_
    refine vl_val (os_is (os_neqnil (by kernel_rfl) rfl rfl) (rfl)) ?_
    refine vl_val (os_move rfl) ?_
    refine vl_skip rfl rfl ?_
    refine vl_skip rfl rfl ?_
    refine vl_skip rfl rfl ?_
    refine vl_skip rfl rfl ?_
    refine vl_val (os_pick_f rfl rfl) ?_
    refine vl_nil ?_
    refine v_cond_f rfl ?_
    refine v_skip ?_
    exact post_end0 rfl (rfl)
  · refine v_seq ?_
    refine v_region ?_
    refine vl_val (os_move rfl) ?_
    refine vl_val (os_is (os_neqnil (by kernel_rfl) rfl rfl) (rfl)) ?_
    refine vl_val (os_move rfl) ?_
    refine vl_valg rfl (os_move rfl) ?_
    refine vl_valg rfl (os_nilCheck rfl) ?_
    refine vl_valg rfl (os_fa (o := 0) (k := 2) (by kernel_rfl) rfl) ?_
    refine vl_callg rfl (pk_able0 g _ w hB) rfl ?_
    rintro v1 w ⟨rfl, rfl⟩
    refine vl_val (os_pick_t rfl rfl) ?_
    refine vl_nil ?_
    refine v_cond_f rfl ?_
    refine v_skip ?_
    exact post_end0 rfl (rfl)
theorem pk_Bytes0 (A : Option Addr) (w : World) (hE : Emp w 113 A) : Gives Try.prog 61 #[.pointer A] w fun u w' => u = .tuple #[.slice none 0 0, .int .i64 1] ∧ w' = w := by
  refine gives_enter Try.call61 Try.func61 rfl rfl rfl (by kernel_rfl) ?_
  rcases hE with rfl | ⟨g, rfl, hB⟩
  · refine v_seq ?_
    refine v_region ?_
    refine vl_val (os_assign rfl) ?_
    refine vl_val (os_assign rfl) ?_
    refine vl_nil ?_
    refine v_seq ?_
    refine v_block ?_
    refine v_seq ?_
    refine v_region ?_
    refine vl_val (os_move rfl) ?_
    refine vl_val (os_is (os_eqlnil (by kernel_rfl) rfl rfl) (rfl)) ?_
    refine vl_val (os_move rfl) ?_
    refine vl_skip rfl rfl ?_
    refine vl_skip rfl rfl ?_
    refine vl_skip rfl rfl ?_
    refine vl_skip rfl rfl ?_
    refine vl_skip rfl rfl ?_
    refine vl_skip rfl rfl ?_
    refine vl_val (os_pick_t rfl rfl) ?_
    refine vl_val (os_assign rfl) ?_
    refine vl_nil ?_
    refine v_cond_t rfl ?_
    refine v_seq ?_
    refine v_region ?_
    refine vl_val (os_assign rfl) ?_
    refine vl_val (os_assign rfl) ?_
    refine vl_nil ?_
    refine v_ret ?_
    exact post_ret2 rfl rfl rfl (⟨rfl, rfl⟩)
  · refine v_seq ?_
    refine v_region ?_
    refine vl_val (os_assign rfl) ?_
    refine vl_val (os_assign rfl) ?_
    refine vl_nil ?_
    refine v_seq ?_
    refine v_block ?_
    refine v_seq ?_
    refine v_region ?_
    refine vl_val (os_move rfl) ?_
    refine vl_val (os_is (os_eqlnil (by kernel_rfl) rfl rfl) (rfl)) ?_
    refine vl_val (os_move rfl) ?_
    refine vl_valg rfl (os_move rfl) ?_
    refine vl_valg rfl (os_nilCheck rfl) ?_
    refine vl_valg rfl (os_fa (o := 0) (k := 2) (by kernel_rfl) rfl) ?_
    refine vl_valg rfl (os_fa (o := 2) (k := 0) (by kernel_rfl) rfl) ?_
    refine vl_valg rfl (os_load Try.isAgg4 rfl (Bk.cell (i := 2) hB rfl)) ?_
    refine vl_valg rfl (os_not rfl) ?_
    refine vl_val (os_pick_f rfl rfl) ?_
    refine vl_val (os_assign rfl) ?_
    refine vl_nil ?_
    refine v_cond_t rfl ?_
    refine v_seq ?_
    refine v_region ?_
    refine vl_val (os_assign rfl) ?_
    refine vl_val (os_assign rfl) ?_
    refine vl_nil ?_
    refine v_ret ?_
    exact post_ret2 rfl rfl rfl (⟨rfl, rfl⟩)
theorem pk_RNumber0 (A : Option Addr) (size : Int) (w : World) (hE : Emp w 107 A) (hs : size = 1) : Gives Try.prog 44 #[.pointer A, .int .i64 size] w fun u w' => u = .int .i64 0 ∧ w' = w := by
  subst hs
  refine gives_enter Try.call44 Try.func44 rfl rfl rfl (by kernel_rfl) ?_
  rcases hE with rfl | ⟨g, rfl, hB⟩
  · refine v_seq ?_
    refine v_region ?_
    refine vl_val (os_assign rfl) ?_
    refine vl_nil ?_
    refine v_seq ?_
    refine v_seq ?_
    refine v_region ?_
    refine vl_val (os_move rfl) ?_
    refine vl_val (os_is (os_eqlnil (by kernel_rfl) rfl rfl) (rfl)) ?_
    refine vl_val (os_move rfl) ?_
    refine vl_skip rfl rfl ?_
    refine vl_skip rfl rfl ?_
    refine vl_skip rfl rfl ?_
    refine vl_skip rfl rfl ?_
    refine vl_skip rfl rfl ?_
    refine vl_skip rfl rfl ?_
    refine vl_skipu rfl ?_
    refine vl_skipu rfl ?_
    refine vl_skip rfl rfl ?_
    refine vl_skip rfl rfl ?_
    refine vl_skip rfl rfl ?_
    refine vl_val (os_pick_t rfl rfl) ?_
    refine vl_nil ?_
    refine v_cond_t rfl ?_
    refine v_seq ?_
    refine v_region ?_
    refine vl_val (os_assign rfl) ?_
    refine vl_nil ?_
    refine v_ret ?_
    exact post_ret rfl rfl (⟨rfl, rfl⟩)
  · refine v_seq ?_
    refine v_region ?_
    refine vl_val (os_assign rfl) ?_
    refine vl_nil ?_
    refine v_seq ?_
    refine v_seq ?_
    refine v_region ?_
    refine vl_val (os_move rfl) ?_
    refine vl_val (os_is (os_eqlnil (by kernel_rfl) rfl rfl) (rfl)) ?_
    refine vl_val (os_move rfl) ?_
    refine vl_valg rfl (os_move rfl) ?_
    refine vl_valg rfl (os_nilCheck rfl) ?_
    refine vl_valg rfl (os_fa (o := 0) (k := 2) (by kernel_rfl) rfl) ?_
    refine vl_valg rfl (os_move rfl) ?_
    refine vl_valg rfl (os_t (os_geq rfl rfl) (by omega)) ?_
    refine vl_valg rfl (os_move rfl) ?_
    refine vl_valg rfl (os_move rfl) ?_
    refine vl_valg rfl (os_leq rfl rfl) ?_
    refine vl_valg rfl (os_pick_t rfl rfl) ?_
    refine vl_callg rfl (pk_unless0 g _ _ 2 w hB) rfl ?_
    rintro v2 w ⟨rfl, rfl⟩
    refine vl_valg rfl (os_not rfl) ?_
    refine vl_val (os_pick_f rfl rfl) ?_
    refine vl_nil ?_
    refine v_cond_t rfl ?_
    refine v_seq ?_
    refine v_region ?_
    refine vl_val (os_assign rfl) ?_
    refine vl_nil ?_
    refine v_ret ?_
    exact post_ret rfl rfl (⟨rfl, rfl⟩)
theorem pk_Take0 (A : Option Addr) (n : Int) (w : World) (hE : Emp w 107 A) : Gives Try.prog 46 #[.pointer A, .int .i64 n] w fun u w' => u = .slice none 0 0 ∧ LeD w w' := by
  refine gives_enter Try.call46 Try.func46 rfl rfl rfl (by kernel_rfl) ?_
  rcases hE with rfl | ⟨g, rfl, hB⟩
  · refine v_seq ?_
    refine v_region ?_
    refine vl_val (os_assign rfl) ?_
    refine vl_nil ?_
    refine v_seq ?_
    refine v_seq ?_
    refine v_region_a mixed ?_
    refine va_pure 0 rfl (by kernel_rfl) (by kernel_rfl) (by kernel_rfl) (fun w => (os_move rfl)) ?_
    refine va_pure 1 rfl (by kernel_rfl) (by kernel_rfl) (by kernel_rfl) (fun w => (os_is (os_eqlnil (by kernel_rfl) rfl rfl) (rfl))) ?_
    refine va_pure 2 rfl (by kernel_rfl) (by kernel_rfl) (by kernel_rfl) (fun w => (os_move rfl)) ?_
    refine va_skip 3 rfl (by kernel_rfl) (by kernel_rfl) (by kernel_rfl) rfl rfl ?_
    refine va_skip 4 rfl (by kernel_rfl) (by kernel_rfl) (by kernel_rfl) rfl rfl ?_
    refine va_skip 5 rfl (by kernel_rfl) (by kernel_rfl) (by kernel_rfl) rfl rfl ?_
    refine va_skip 6 rfl (by kernel_rfl) (by kernel_rfl) (by kernel_rfl) rfl rfl ?_
    refine va_skip 7 rfl (by kernel_rfl) (by kernel_rfl) (by kernel_rfl) rfl rfl ?_
    refine va_skip 8 rfl (by kernel_rfl) (by kernel_rfl) (by kernel_rfl) rfl rfl ?_
    refine va_skip 9 rfl (by kernel_rfl) (by kernel_rfl) (by kernel_rfl) rfl rfl ?_
    refine va_pure 10 rfl (by kernel_rfl) (by kernel_rfl) (by kernel_rfl) (fun w => (os_pick_t rfl rfl)) ?_
    refine va_pure 11 rfl (by kernel_rfl) (by kernel_rfl) (by kernel_rfl) (fun w => (os_move rfl)) ?_
    refine va_skip 12 rfl (by kernel_rfl) (by kernel_rfl) (by kernel_rfl) rfl rfl ?_
    refine va_skip 13 rfl (by kernel_rfl) (by kernel_rfl) (by kernel_rfl) rfl rfl ?_
    refine va_skip 14 rfl (by kernel_rfl) (by kernel_rfl) (by kernel_rfl) rfl rfl ?_
    refine va_skip 15 rfl (by kernel_rfl) (by kernel_rfl) (by kernel_rfl) rfl rfl ?_
    refine va_skip 16 rfl (by kernel_rfl) (by kernel_rfl) (by kernel_rfl) rfl rfl ?_
    refine va_skip 17 rfl (by kernel_rfl) (by kernel_rfl) (by kernel_rfl) rfl rfl ?_
    refine va_skip 18 rfl (by kernel_rfl) (by kernel_rfl) (by kernel_rfl) rfl rfl ?_
    refine va_skip 19 rfl (by kernel_rfl) (by kernel_rfl) (by kernel_rfl) rfl rfl ?_
    refine va_skip 20 rfl (by kernel_rfl) (by kernel_rfl) (by kernel_rfl) rfl rfl ?_
    refine va_skip 21 rfl (by kernel_rfl) (by kernel_rfl) (by kernel_rfl) rfl rfl ?_
    refine va_skip 22 rfl (by kernel_rfl) (by kernel_rfl) (by kernel_rfl) rfl rfl ?_
    refine va_skip 23 rfl (by kernel_rfl) (by kernel_rfl) (by kernel_rfl) rfl rfl ?_
    refine va_skip 24 rfl (by kernel_rfl) (by kernel_rfl) (by kernel_rfl) rfl rfl ?_
    refine va_pure 25 rfl (by kernel_rfl) (by kernel_rfl) (by kernel_rfl) (fun w => (os_pick_t rfl rfl)) ?_
    refine va_done (by kernel_rfl) ?_
    refine v_cond_t rfl ?_
    refine v_seq ?_
    refine v_region ?_
    refine vl_val (os_assign rfl) ?_
    refine vl_nil ?_
    refine v_ret ?_
    exact post_ret rfl rfl (⟨rfl, 1, rfl⟩)
  · refine v_seq ?_
    refine v_region ?_
    refine vl_val (os_assign rfl) ?_
    refine vl_nil ?_
    refine v_seq ?_
    refine v_seq ?_
    refine v_region_a mixed ?_
    refine va_pure 0 rfl (by kernel_rfl) (by kernel_rfl) (by kernel_rfl) (fun w => (os_move rfl)) ?_
    refine va_pure 1 rfl (by kernel_rfl) (by kernel_rfl) (by kernel_rfl) (fun w => (os_is (os_eqlnil (by kernel_rfl) rfl rfl) (rfl))) ?_
    refine va_pure 2 rfl (by kernel_rfl) (by kernel_rfl) (by kernel_rfl) (fun w => (os_move rfl)) ?_
    refine va_pure 3 rfl (by kernel_rfl) (by kernel_rfl) (by kernel_rfl) (fun w => (os_move rfl)) ?_
    refine va_pure 4 rfl (by kernel_rfl) (by kernel_rfl) (by kernel_rfl) (fun w => (os_nilCheck rfl)) ?_
    refine va_pure 5 rfl (by kernel_rfl) (by kernel_rfl) (by kernel_rfl) (fun w => (os_fa (o := 0) (k := 2) (by kernel_rfl) rfl)) ?_
    refine va_pure 6 rfl (by kernel_rfl) (by kernel_rfl) (by kernel_rfl) (fun w => (os_move rfl)) ?_
    refine va_pure 7 rfl (by kernel_rfl) (by kernel_rfl) (by kernel_rfl) (fun w => (os_geq rfl rfl)) ?_
    refine va_one 8 (by kernel_rfl) ?_
    refine vn_call rfl (pk_unless0 g _ _ 2 _ (Bk.led hB ⟨1, rfl⟩)) rfl ?_
    rintro v2 w2 ⟨rfl, rfl⟩
    refine va_pure 9 rfl (by kernel_rfl) (by kernel_rfl) (by kernel_rfl) (fun w => (os_not rfl)) ?_
    refine va_pure 10 rfl (by kernel_rfl) (by kernel_rfl) (by kernel_rfl) (fun w => (os_pick_f rfl rfl)) ?_
    refine va_pure 11 rfl (by kernel_rfl) (by kernel_rfl) (by kernel_rfl) (fun w => (os_move rfl)) ?_
    refine va_skip 12 rfl (by kernel_rfl) (by kernel_rfl) (by kernel_rfl) rfl rfl ?_
    refine va_skip 13 rfl (by kernel_rfl) (by kernel_rfl) (by kernel_rfl) rfl rfl ?_
    refine va_skip 14 rfl (by kernel_rfl) (by kernel_rfl) (by kernel_rfl) rfl rfl ?_
    refine va_skip 15 rfl (by kernel_rfl) (by kernel_rfl) (by kernel_rfl) rfl rfl ?_
    refine va_skip 16 rfl (by kernel_rfl) (by kernel_rfl) (by kernel_rfl) rfl rfl ?_
    refine va_skip 17 rfl (by kernel_rfl) (by kernel_rfl) (by kernel_rfl) rfl rfl ?_
    refine va_skip 18 rfl (by kernel_rfl) (by kernel_rfl) (by kernel_rfl) rfl rfl ?_
    refine va_skip 19 rfl (by kernel_rfl) (by kernel_rfl) (by kernel_rfl) rfl rfl ?_
    refine va_skip 20 rfl (by kernel_rfl) (by kernel_rfl) (by kernel_rfl) rfl rfl ?_
    refine va_skip 21 rfl (by kernel_rfl) (by kernel_rfl) (by kernel_rfl) rfl rfl ?_
    refine va_skip 22 rfl (by kernel_rfl) (by kernel_rfl) (by kernel_rfl) rfl rfl ?_
    refine va_skip 23 rfl (by kernel_rfl) (by kernel_rfl) (by kernel_rfl) rfl rfl ?_
    refine va_skip 24 rfl (by kernel_rfl) (by kernel_rfl) (by kernel_rfl) rfl rfl ?_
    refine va_pure 25 rfl (by kernel_rfl) (by kernel_rfl) (by kernel_rfl) (fun w => (os_pick_t rfl rfl)) ?_
    refine va_done (by kernel_rfl) ?_
    refine v_cond_t rfl ?_
    refine v_seq ?_
    refine v_region ?_
    refine vl_val (os_assign rfl) ?_
    refine vl_nil ?_
    refine v_ret ?_
    exact post_ret rfl rfl (⟨rfl, 1, rfl⟩)
theorem pk_Left0 (A : Option Addr) (w : World) (hE : Emp w 107 A) : Gives Try.prog 49 #[.pointer A] w fun u w' => u = .int .i64 0 ∧ w' = w := by
  refine gives_enter Try.call49 Try.func49 rfl rfl rfl (by kernel_rfl) ?_
  rcases hE with rfl | ⟨g, rfl, hB⟩
  · refine v_seq ?_
    refine v_region ?_
    refine vl_val (os_assign rfl) ?_
    refine vl_nil ?_
    refine v_seq ?_
    refine v_seq ?_
    refine v_region ?_
    refine vl_val (os_move rfl) ?_
    refine vl_val (os_is (os_eqlnil (by kernel_rfl) rfl rfl) (rfl)) ?_
    refine vl_val (os_move rfl) ?_
    refine vl_skip rfl rfl ?_
    refine vl_skip rfl rfl ?_
    refine vl_skip rfl rfl ?_
    refine vl_skip rfl rfl ?_
    refine vl_skip rfl rfl ?_
    refine vl_val (os_pick_t rfl rfl) ?_
    refine vl_nil ?_
    refine v_cond_t rfl ?_
    refine v_seq ?_
    refine v_region ?_
    refine vl_val (os_assign rfl) ?_
    refine vl_nil ?_
    refine v_ret ?_
    exact post_ret rfl rfl (⟨rfl, rfl⟩)
  · refine v_seq ?_
    refine v_region ?_
    refine vl_val (os_assign rfl) ?_
    refine vl_nil ?_
    refine v_seq ?_
    refine v_seq ?_
    refine v_region ?_
    refine vl_val (os_move rfl) ?_
    refine vl_val (os_is (os_eqlnil (by kernel_rfl) rfl rfl) (rfl)) ?_
    refine vl_val (os_move rfl) ?_
    refine vl_valg rfl (os_move rfl) ?_
    refine vl_valg rfl (os_nilCheck rfl) ?_
    refine vl_valg rfl (os_fa (o := 0) (k := 2) (by kernel_rfl) rfl) ?_
    refine vl_callg rfl (pk_able0 g _ w hB) rfl ?_
    rintro v1 w ⟨rfl, rfl⟩
    refine vl_valg rfl (os_not rfl) ?_
    refine vl_val (os_pick_f rfl rfl) ?_
    refine vl_nil ?_
    refine v_cond_t rfl ?_
    refine v_seq ?_
    refine v_region ?_
    refine vl_val (os_assign rfl) ?_
    refine vl_nil ?_
    refine v_ret ?_
    exact post_ret rfl rfl (⟨rfl, rfl⟩)
theorem pk_End0 (A : Option Addr) (w : World) (hE : Emp w 107 A) : Gives Try.prog 51 #[.pointer A] w fun u w' => u = .int .i64 1 ∧ w' = w := by
  refine gives_enter Try.call51 Try.func51 rfl rfl rfl (by kernel_rfl) ?_
  rcases hE with rfl | ⟨g, rfl, hB⟩
  · refine v_seq ?_
    refine v_region ?_
    refine vl_val (os_assign rfl) ?_
    refine vl_nil ?_
    refine v_seq ?_
    refine v_seq ?_
    refine v_region ?_
    refine vl_val (os_move rfl) ?_
    refine vl_val (os_is (os_eqlnil (by kernel_rfl) rfl rfl) (rfl)) ?_
    refine vl_val (os_move rfl) ?_
    refine vl_skip rfl rfl ?_
    refine vl_skip rfl rfl ?_
    refine vl_skip rfl rfl ?_
    refine vl_skip rfl rfl ?_
    refine vl_skip rfl rfl ?_
    refine vl_skip rfl rfl ?_
    refine vl_val (os_pick_t rfl rfl) ?_
    refine vl_nil ?_
    refine v_cond_t rfl ?_
    refine v_seq ?_
    refine v_region ?_
    refine vl_val (os_assign rfl) ?_
    refine vl_nil ?_
    refine v_ret ?_
    exact post_ret rfl rfl (⟨rfl, rfl⟩)
  · refine v_seq ?_
    refine v_region ?_
    refine vl_val (os_assign rfl) ?_
    refine vl_nil ?_
    refine v_seq ?_
    refine v_seq ?_
    refine v_region ?_
    refine vl_val (os_move rfl) ?_
    refine vl_val (os_is (os_eqlnil (by kernel_rfl) rfl rfl) (rfl)) ?_
    refine vl_val (os_move rfl) ?_
    refine vl_valg rfl (os_move rfl) ?_
    refine vl_valg rfl (os_nilCheck rfl) ?_
    refine vl_valg rfl (os_fa (o := 0) (k := 2) (by kernel_rfl) rfl) ?_
    refine vl_valg rfl (os_fa (o := 2) (k := 0) (by kernel_rfl) rfl) ?_
    refine vl_valg rfl (os_load Try.isAgg4 rfl (Bk.cell (i := 2) hB rfl)) ?_
    refine vl_valg rfl (os_not rfl) ?_
    refine vl_val (os_pick_f rfl rfl) ?_
    refine vl_nil ?_
    refine v_cond_t rfl ?_
    refine v_seq ?_
    refine v_region ?_
    refine vl_val (os_assign rfl) ?_
    refine vl_nil ?_
    refine v_ret ?_
    exact post_ret rfl rfl (⟨rfl, rfl⟩)

theorem kcell {w w' : World} {p : Addr} {v : Value} (hb : Below w.heap.size w w') (h : w.cell? p = some v) : w'.cell? p = some v := (hb.cell (World.block_lt_of_cell? _ _ h)).trans h
def zCells : List Value := [.slice none 0 0, .int .i64 0, .bool false]
def empW (w : World) (t tt : TypeId) : World := (w.alloc (.cells zCells.toArray t)).alloc (.cells [Value.pointer none, .pointer (some ⟨w.heap.size, 0, none⟩)].toArray tt)
theorem empW_below (w : World) (t tt : TypeId) : Below w.heap.size w (empW w t tt) := ((Below.refl _ _).alloc (Nat.le_refl _) _).alloc (by simp) _
theorem empW_rdc (w : World) (t tt : TypeId) : RdC (empW w t tt) (some ⟨(w.alloc (.cells zCells.toArray t)).heap.size, 0, none⟩) [Value.pointer none, .pointer (some ⟨w.heap.size, 0, none⟩)] := rdc_alloc _ _ _
theorem empW_bk (w : World) (t tt : TypeId) : Bk (empW w t tt) w.heap.size zCells t := (bk_new w zCells t).keep ((Below.refl _ _).alloc (Nat.le_refl _) _)
theorem ptr_at {w : World} {b g : Nat} {t : TypeId} (h : RdC w (some ⟨b, 0, none⟩) [Value.pointer none, .pointer (some ⟨g, 0, none⟩)]) (hB : Bk w g zCells t) {i : Nat} (hi : i < 2) : ∃ A, w.cell? ⟨b, 0 + i, none⟩ = some (.pointer A) ∧ Emp w t A := by
  obtain ⟨b', o', e, hc⟩ := h (by simp)
  cases e
  rcases (by omega : i = 0 ∨ i = 1) with rfl | rfl
  · exact ⟨none, hc 0 (by simp), .inl rfl⟩
  · exact ⟨_, hc 1 (by simp), .inr ⟨g, rfl, hB⟩⟩
set_option maxHeartbeats 1000000 in
theorem law08_none (w : World) : Gives Try.prog 63 #[] w fun v w' => v = .bool true ∧ Below w.heap.size w w' := by
  have x1 := empW_below w 113 68
  have x2 := empW_rdc w 113 68
  have x3 := empW_bk w 113 68
  have y1 := empW_below (empW w 113 68) 107 51
  have y2 := empW_rdc (empW w 113 68) 107 51
  have y3 := empW_bk (empW w 113 68) 107 51
  refine gives_enter Try.call63 Try.func63 rfl rfl rfl (by kernel_rfl) ?_
  refine v_seq ?_
  refine v_region ?_
  refine vl_val (os_assign rfl) ?_
  refine vl_nil ?_
  refine v_seq ?_
  refine v_region ?_
  refine vl_val (os_build (cs := [.slice none 0 0, .int .i64 0, .bool false]) rfl (by kernel_rfl)) ?_
  refine vl_val (os_box rfl) ?_
  refine vl_val (os_lit Try.underlying115 Try.sizeOf68 Try.zeroValue68 rfl rfl rfl rfl (by decide)) ?_
  refine vl_val (os_build (cs := [.slice none 0 0, .int .i64 0, .bool false]) rfl (by kernel_rfl)) ?_
  refine vl_val (os_box rfl) ?_
  refine vl_val (os_lit Try.underlying116 Try.sizeOf51 Try.zeroValue51 rfl rfl rfl rfl (by decide)) ?_
  refine vl_val (os_assign rfl) ?_
  refine vl_val (os_assign rfl) ?_
  refine vl_nil ?_
  refine v_seq ?_
  refine v_seq ?_
  refine v_region ?_
  refine vl_val (os_assign rfl) ?_
  refine vl_nil ?_
  refine v_block ?_
  refine v_loop [(1, _), (2, _)] (fun (i : Nat) => [(3, .int .i64 i)]) (fun i w' => i ≤ 2 ∧ Below w.heap.size w w' ∧ Below (empW w 113 68).heap.size (empW w 113 68) w' ∧ Below (empW (empW w 113 68) 107 51).heap.size (empW (empW w 113 68) 107 51) w') (fun i => 2 - i) (0) ⟨rfl, rfl, trivial⟩ ⟨rfl, trivial⟩ (⟨by omega, x1.trans (y1.mono x1.size), y1, Below.refl _ _⟩) ?_
  rintro i w' ⟨hi, bw, bw1, bw2⟩
  refine v_seq ?_
  refine v_seq ?_
  refine v_region ?_
  refine vl_val (os_move rfl) ?_
  refine vl_val (os_lss rfl rfl) ?_
  refine vl_nil ?_
  refine v_cond_d rfl (fun hlt => ?_) (fun hlt => ?_)
  · obtain ⟨pa, ca, Ea⟩ := ptr_at (x2.keep bw1) (x3.keep bw1) (i := i) (by omega)
    obtain ⟨pb, cb, Eb⟩ := ptr_at (y2.keep bw2) (y3.keep bw2) (i := i) (by omega)
    refine v_skip ?_
    refine v_seq ?_
    refine v_block ?_
    refine v_seq ?_
    refine v_region ?_
    refine vl_val (os_move rfl) ?_
    refine vl_val (os_move rfl) ?_
    refine vl_val (os_ix Try.underlying115 Try.sizeOf68 rfl rfl (i := i) (by omega) (by omega)) ?_
    refine vl_val (os_load Try.isAgg68 rfl (ca)) ?_
    refine vl_call (pk_Number0 pa 1 1 w' Ea) rfl ?_
    rintro v1 w1 d1
    have e1 : Below w'.heap.size w' w1 := led_below d1
    refine vl_nil ?_
    refine v_seq ?_
    refine v_region ?_
    refine vl_val (os_move rfl) ?_
    refine vl_val (os_move rfl) ?_
    refine vl_val (os_ix Try.underlying115 Try.sizeOf68 rfl rfl (i := i) (by omega) (by omega)) ?_
    refine vl_val (os_load Try.isAgg68 rfl (kcell e1 ca)) ?_
    obtain ⟨wl, hwl⟩ : ∃ wl, wl = w1.alloc (.cells [Value.int .u8 1].toArray 5) := ⟨_, rfl⟩
    have e2 : Below w'.heap.size w' wl := hwl ▸ e1.alloc e1.size _
    refine vl_val (os_lit Try.underlying22 Try.sizeOf5 Try.zeroValue5 rfl rfl rfl rfl (by decide)) ?_
    refine vl_call (pk_Put0 pa _ _ _ _ (hwl ▸ Ea.keep e2)) rfl ?_
    rintro v2 w2 e
    have e : w2 = wl := e.trans hwl.symm
    subst e
    refine vl_nil ?_
    refine v_seq ?_
    refine v_region ?_
    refine vl_val (os_move rfl) ?_
    refine vl_val (os_move rfl) ?_
    refine vl_val (os_ix Try.underlying115 Try.sizeOf68 rfl rfl (i := i) (by omega) (by omega)) ?_
    refine vl_val (os_load Try.isAgg68 rfl (kcell e2 ca)) ?_
    refine vl_call (pk_Bytes0 pa w2 (Ea.keep e2)) rfl ?_
    rintro v3 w2 ⟨rfl, rfl⟩
    refine vl_val (os_move rfl) ?_
    refine vl_val (os_extract rfl rfl) ?_
    refine vl_val (os_extract rfl rfl) ?_
    refine vl_val (os_assign rfl) ?_
    refine vl_val (os_assign rfl) ?_
    refine vl_nil ?_
    refine v_seq ?_
    refine v_region ?_
    refine vl_val (os_move rfl) ?_
    refine vl_val (os_len Try.underlying22 rfl) ?_
    refine vl_val (os_f (os_neq rfl rfl) (by simp)) ?_
    refine vl_val (os_move rfl) ?_
    refine vl_valg rfl (os_move rfl) ?_
    refine vl_valg rfl (os_f (os_neq rfl rfl) (by simp)) ?_
    refine vl_val (os_pick_f rfl rfl) ?_
    refine vl_val (os_move rfl) ?_
    refine vl_valg rfl (os_move rfl) ?_
    refine vl_valg rfl (os_move rfl) ?_
    refine vl_valg rfl (os_ix Try.underlying116 Try.sizeOf51 rfl rfl (i := i) (by omega) (by omega)) ?_
    refine vl_valg rfl (os_load Try.isAgg51 rfl (kcell e2 cb)) ?_
    refine vl_callg rfl (pk_RNumber0 pb 1 w2 (Eb.keep e2) rfl) rfl ?_
    rintro v3 w2 ⟨rfl, rfl⟩
    refine vl_valg rfl (os_f (os_neq rfl rfl) (by simp)) ?_
    refine vl_val (os_pick_f rfl rfl) ?_
    refine vl_val (os_move rfl) ?_
    refine vl_valg rfl (os_move rfl) ?_
    refine vl_valg rfl (os_move rfl) ?_
    refine vl_valg rfl (os_ix Try.underlying116 Try.sizeOf51 rfl rfl (i := i) (by omega) (by omega)) ?_
    refine vl_valg rfl (os_load Try.isAgg51 rfl (kcell e2 cb)) ?_
    refine vl_callg rfl (pk_Take0 pb 0 w2 (Eb.keep e2)) rfl ?_
    rintro v3 w3 ⟨rfl, d3⟩
    have e3 := e2.trans ((led_below d3).mono e2.size)
    refine vl_valg rfl (os_len Try.underlying22 rfl) ?_
    refine vl_valg rfl (os_f (os_neq rfl rfl) (by simp)) ?_
    refine vl_val (os_pick_f rfl rfl) ?_
    refine vl_val (os_move rfl) ?_
    refine vl_valg rfl (os_move rfl) ?_
    refine vl_valg rfl (os_move rfl) ?_
    refine vl_valg rfl (os_ix Try.underlying116 Try.sizeOf51 rfl rfl (i := i) (by omega) (by omega)) ?_
    refine vl_valg rfl (os_load Try.isAgg51 rfl (kcell e3 cb)) ?_
    refine vl_callg rfl (pk_Left0 pb w3 (Eb.keep e3)) rfl ?_
    rintro v4 w3 ⟨rfl, rfl⟩
    refine vl_valg rfl (os_f (os_neq rfl rfl) (by simp)) ?_
    refine vl_val (os_pick_f rfl rfl) ?_
    refine vl_val (os_move rfl) ?_
    refine vl_valg rfl (os_move rfl) ?_
    refine vl_valg rfl (os_move rfl) ?_
    refine vl_valg rfl (os_ix Try.underlying116 Try.sizeOf51 rfl rfl (i := i) (by omega) (by omega)) ?_
    refine vl_valg rfl (os_load Try.isAgg51 rfl (kcell e3 cb)) ?_
    refine vl_callg rfl (pk_End0 pb w3 (Eb.keep e3)) rfl ?_
    rintro v5 w3 ⟨rfl, rfl⟩
    refine vl_valg rfl (os_neq rfl rfl) ?_
    refine vl_val (os_pick_f rfl rfl) ?_
    refine vl_nil ?_
    refine v_cond_no rfl (by simp) ?_
    refine v_skip ?_
    refine v_region ?_
    refine vl_val (os_move rfl) ?_
    refine vl_val (os_addi rfl rfl (by omega)) ?_
    refine vl_val (os_assign rfl) ?_
    refine vl_nil ?_
    exact ⟨i + 1, ⟨rfl, rfl, trivial⟩, ⟨rfl, trivial⟩, ⟨by omega, bw.trans (e3.mono bw.size), bw1.trans (e3.mono bw1.size), bw2.trans (e3.mono bw2.size)⟩, by dsimp only; omega⟩
  · refine v_exit ?_
    refine v_seq ?_
    refine v_region ?_
    refine vl_val (os_assign rfl) ?_
    refine vl_nil ?_
    refine v_ret ?_
    exact post_ret rfl rfl (⟨rfl, bw⟩)
end Go.Proofs.Ytpcfifheegfjiaa
