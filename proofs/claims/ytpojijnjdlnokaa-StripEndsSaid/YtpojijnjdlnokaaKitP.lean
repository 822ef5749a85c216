/- The statements' own helpers: Pick. -/
import Derived.Test.YtpojijnjdlnokaaProg
import Derived.Test.YtpojijnjdlnokaaV2
namespace Go.Proofs.Ytpojijnjdlnokaa
open Go.RowKit

def pickV (x n : Int) : Int := if n < 1 then 0 else x % n
theorem pick_neg {x n : Int} (hn : ¬ n < 1) (h : x.tmod n < 0) : x.tmod n + n = x % n := by
  have h1 := Int.tmod_eq_emod (a := x) (b := n)
  rw [h1] at h ⊢
  have h2 : (n.natAbs : Int) = n := by omega
  split at h
  · have := Int.emod_nonneg x (show n ≠ 0 by omega); omega
  · rename_i hh; rw [if_neg hh, h2]; omega
theorem pick_pos {x n : Int} (hn : ¬ n < 1) (h : ¬ x.tmod n < 0) : x.tmod n = x % n := by
  have h1 := Int.tmod_eq_emod (a := x) (b := n)
  rw [h1] at h ⊢
  have h2 : (n.natAbs : Int) = n := by omega
  split at h
  · rename_i hh; rw [if_pos hh]; omega
  · rename_i hh; rw [if_neg hh, h2] 
    have := Int.emod_lt_of_pos x (show 0 < n by omega)
    omega
theorem tmod_fit {x n : Int} (hn : ¬ n < 1) (h2 : n ≤ 9223372036854775807) (h : x.tmod n < 0) : -9223372036854775808 ≤ x.tmod n + n ∧ x.tmod n + n ≤ 9223372036854775807 := by
  rw [pick_neg hn h]
  have := Int.emod_nonneg x (show n ≠ 0 by omega)
  have := Int.emod_lt_of_pos x (show 0 < n by omega)
  omega

theorem kit_Pick (x m : Int) (w : World) (hm : m ≤ 9223372036854775807) : Gives Try.prog 47 #[.int .i64 x, .int .i64 m] w fun v w' => v = .int .i64 (pickV x m) ∧ w' = w := by
  refine gives_enter Try.call47 Try.func47 rfl rfl rfl (by kernel_rfl) ?_
  refine v_seq ?_
  refine v_region ?_
  refine vl_val (os_assign rfl) ?_
  refine vl_nil ?_
  refine v_seq ?_
  refine v_seq ?_
  refine v_region ?_
  refine vl_val (os_move rfl) ?_
  refine vl_val (os_lss rfl rfl) ?_
  refine vl_nil ?_
  refine v_cond_d rfl (fun h => ?_) (fun h => ?_)
  · refine v_seq ?_
    refine v_region ?_
    refine vl_val (os_assign rfl) ?_
    refine vl_nil ?_
    refine v_ret ?_
    exact post_ret rfl rfl ⟨by rw [pickV, if_pos h], rfl⟩
  · refine v_skip ?_
    refine v_seq ?_
    refine v_region ?_
    refine vl_val (os_move rfl) ?_
    refine vl_val (os_move rfl) ?_
    refine vl_val (os_rem rfl rfl (by omega) rfl) ?_
    refine vl_val (os_assign rfl) ?_
    refine vl_nil ?_
    refine v_seq ?_
    refine v_seq ?_
    refine v_region ?_
    refine vl_val (os_move rfl) ?_
    refine vl_val (os_lss rfl rfl) ?_
    refine vl_nil ?_
    refine v_cond_d rfl (fun h2 => ?_) (fun h2 => ?_)
    · refine v_region ?_
      refine vl_val (os_move rfl) ?_
      refine vl_val (os_move rfl) ?_
      refine vl_val (os_addi rfl rfl (tmod_fit h hm h2)) ?_
      refine vl_val (os_assign rfl) ?_
      refine vl_nil ?_
      refine v_seq ?_
      refine v_region ?_
      refine vl_val (os_move rfl) ?_
      refine vl_val (os_assign rfl) ?_
      refine vl_nil ?_
      refine v_ret ?_
      exact post_ret rfl rfl ⟨by rw [pickV, if_neg h, pick_neg h h2], rfl⟩
    · refine v_skip ?_
      refine v_seq ?_
      refine v_region ?_
      refine vl_val (os_move rfl) ?_
      refine vl_val (os_assign rfl) ?_
      refine vl_nil ?_
      refine v_ret ?_
      exact post_ret rfl rfl ⟨by rw [pickV, if_neg h, pick_pos h h2], rfl⟩
end Go.Proofs.Ytpojijnjdlnokaa
