/- slices.Clone of bytes. -/
import Derived.Test.YtpojijnjdlnokaaTy
import Derived.Test.YtpojijnjdlnokaaV4
import Derived.Lib.SliceRun
namespace Go.Proofs.Ytpojijnjdlnokaa
open Go.RowKit
set_option linter.unusedVariables false

section
variable {P : Program} {n : Cx} {fr : Fr} {w w' : World} {ty : TypeId} {x y z : Operand} {v u : Value} {T T2 e : TypeId} {op : Op}
theorem os_eqlsnil {A : Option Addr} {l c : Nat} (hT : P.underlying T = some (.slice e)) (hx : Fr.ev fr x = some (.slice A l c)) (hy : Fr.ev fr y = some (.slice none 0 0)) : OS P n (.binOp .eql T x y T2) ty fr w (.bool A.isNone) w := os_of fun a ha => by
  simp [execOp, ha.ev hx, ha.ev hy, eqGuard, Lib.run_eql_slice_nil w T e A l c 0 0 hT]
end

set_option maxHeartbeats 1000000 in
theorem sl_Clone (A : Option Addr) (n c : Nat) (bs : List Int) (w : World) (ha : Rd w .u8 A bs) (hn : n = bs.length) (hl : n ≤ 140737488351232) : Gives Try.prog 161 #[.slice A n c] w fun v w' => OwnK w' w.heap.size 5 .u8 v bs ∧ Below w.heap.size w w' := by
  refine gives_enter Try.call161 Try.func161 rfl rfl rfl (by kernel_rfl) ?_
  rcases Option.eq_none_or_eq_some A with rfl | ⟨a, rfl⟩
  · refine v_seq ?_
    refine v_region ?_
    refine vl_val (os_assign rfl) ?_
    refine vl_nil ?_
    refine v_seq ?_
    refine v_seq ?_
    refine v_region ?_
    refine vl_val (os_move rfl) ?_
    refine vl_val (os_eqlsnil Try.underlying22 rfl rfl) ?_
    refine vl_nil ?_
    refine v_cond_t rfl ?_
    have e : bs = [] := by
      cases bs with
      | nil => rfl
      | cons x r => obtain ⟨b, o, h, _⟩ := ha (by simp); cases h
    refine v_seq ?_
    refine v_region ?_
    refine vl_val (os_assign rfl) ?_
    refine vl_nil ?_
    refine v_ret ?_
    exact post_ret rfl rfl (⟨by subst e; exact Own.nil _ _ _, Below.refl _ _⟩)
  · refine v_seq ?_
    refine v_region ?_
    refine vl_val (os_assign rfl) ?_
    refine vl_nil ?_
    refine v_seq ?_
    refine v_seq ?_
    refine v_region ?_
    refine vl_val (os_move rfl) ?_
    refine vl_val (os_eqlsnil Try.underlying22 rfl rfl) ?_
    refine vl_nil ?_
    refine v_cond_f rfl ?_
    have s0 := own_alloc w [] 5 (Nat.le_refl w.heap.size) (by simp [maxLen])
    have s0b : Below w.heap.size w (w.alloc (.cells #[] 5)) := (Below.refl _ w).alloc (Nat.le_refl _) _
    refine v_skip ?_
    refine v_seq ?_
    refine v_region ?_
    refine vl_val (os_lit Try.underlying22 Try.sizeOf5 Try.zeroValue5 rfl rfl rfl rfl (by decide)) ?_
    refine vl_val (os_move rfl) ?_
    refine vl_some (ot_append Try.underlying22 ti_u8 rfl rfl rfl s0 (ha.keep s0b).toC (by simp [hn]) (by intro u hu; obtain ⟨z, _, rfl⟩ := List.mem_map.1 hu; rfl) (by simp; omega) (by simp [maxLen]; omega) (by simp)) ?_
    rintro v6 w6 ⟨so, sg⟩
    refine vl_val (os_assign rfl) ?_
    refine vl_nil ?_
    refine v_ret ?_
    exact post_ret rfl rfl (⟨by simpa [OwnK] using so, s0.below s0b sg (Nat.le_refl _) (by simp)⟩)

end Go.Proofs.Ytpojijnjdlnokaa
