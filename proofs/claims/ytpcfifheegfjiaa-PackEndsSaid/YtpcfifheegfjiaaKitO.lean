/- The law's kit: lists are written over, their spare room too. -/
import Derived.Test.YtpcfifheegfjiaaKitL
import Derived.Test.YtpcfifheegfjiaaKb
namespace Go.Proofs.Ytpcfifheegfjiaa
open Go.RowKit
set_option linter.unusedVariables false

theorem Own.stretch {w : World} {B : Nat} {t : TypeId} {g n c m : Nat} {cs : List Value} (h : Own w B t (.slice (some ⟨g, 0, none⟩) n c) cs) (hm : m ≤ c) : ∃ ds, ds.length = m ∧ Own w B t (.slice (some ⟨g, 0, none⟩) m c) ds := by
  rcases h.2 with ⟨h1, _⟩ | ⟨g', cap, cur, h1, hB, hg, hnc, hcm, hs, ht⟩
  · cases h1
  · cases h1
    have hl : (cur.toList.take m).length = m := by rw [List.length_take, Array.length_toList, hs]; omega
    exact ⟨cur.toList.take m, hl, by simp, .inr ⟨g, c, cur, by rw [hl], hB, hg, by omega, hcm, hs, by rw [hl]; simp⟩⟩
theorem kit_OverBytes (v : Value) (B : Nat) (cs : List Value) (w : World) (ho : Own w B 5 v cs) (hl : cs.length ≤ 100000000) : Gives Try.prog 43 #[v] w fun u w' => Kb v.ownBlock.toList w w' := by
  obtain ⟨A, c, rfl, hc, hm, _⟩ := ho.form
  obtain ⟨m, hmin⟩ : ∃ m : Nat, min (c : Int) ((cs.length : Int) + 12) = m := ⟨min c (cs.length + 12), by omega⟩
  have hmc : m ≤ c := by omega
  have hst : 0 < m → ∃ g ds, A = some ⟨g, 0, none⟩ ∧ ds.length = m ∧ Own w B 5 (.slice (some ⟨g, 0, none⟩) m c) ds := fun h0 => by
    have ho' := ho
    rcases ho'.2 with ⟨h1, _⟩ | ⟨g, cap, cur, h1, _⟩
    · injection h1 with _ _ h2; omega
    · injection h1 with h2 _ h3; subst h2; subst h3
      obtain ⟨ds, h2, h3⟩ := Own.stretch ho hmc
      exact ⟨g, ds, rfl, h2, h3⟩
  refine gives_enter Try.call43 Try.func43 rfl rfl rfl (by kernel_rfl) ?_
  refine v_seq ?_
  refine v_region ?_
  refine vl_val (os_move rfl) ?_
  refine vl_val (os_move rfl) ?_
  refine vl_val (os_cap Try.underlying22 rfl) ?_
  refine vl_val (os_move rfl) ?_
  refine vl_val (os_len Try.underlying22 rfl) ?_
  refine vl_val (os_addi rfl rfl (by omega)) ?_
  refine vl_val (os_min rfl rfl) ?_
  refine vl_val (os_slice_h Try.underlying22 Try.sizeOf5 rfl rfl (h := m) (by omega) (by omega)) ?_
  refine vl_val (os_assign rfl) ?_
  refine vl_nil ?_
  refine v_seq ?_
  refine v_region ?_
  refine vl_val (os_assign rfl) ?_
  refine vl_nil ?_
  refine v_block ?_
  refine v_loop [(2, _)] (fun (i : Nat) => [(3, .int .i64 i)]) (fun i w' => i ≤ m ∧ Kb (Value.slice A cs.length c).ownBlock.toList w w' ∧ (0 < m → ∃ g ds, A = some ⟨g, 0, none⟩ ∧ ds.length = m ∧ Own w' B 5 (.slice (some ⟨g, 0, none⟩) m c) ds)) (fun i => m - i) (0) ⟨rfl, trivial⟩ ⟨rfl, trivial⟩ (⟨by omega, Kb.refl _ _, hst⟩) ?_
  rintro i w' ⟨hi, hk, hs⟩
  refine v_seq ?_
  refine v_seq ?_
  refine v_region ?_
  refine vl_val (os_move rfl) ?_
  refine vl_val (os_move rfl) ?_
  refine vl_val (os_len Try.underlying22 rfl) ?_
  refine vl_val (os_lss rfl rfl) ?_
  refine vl_nil ?_
  refine v_cond_d rfl (fun h => ?_) (fun h => ?_)
  · obtain ⟨g, ds, rfl, hd, ho'⟩ := hs (by omega)
    refine v_skip ?_
    refine v_seq ?_
    refine v_block ?_
    refine v_region ?_
    refine vl_val (os_move rfl) ?_
    refine vl_val (os_move rfl) ?_
    refine vl_val (os_move rfl) ?_
    refine vl_call (kit_markByte 2 i w' (by omega) (by omega)) rfl ?_
    rintro v1 w' ⟨rfl, rfl⟩
    refine vl_val (os_ix Try.underlying22 Try.sizeOf5 rfl rfl (i := i) (by omega) (by omega)) ?_
    refine vl_unit (ou_store Try.sizeOf5 rfl rfl rfl ((by rw [Nat.zero_add, Own.cell ho' (i := i) (by omega)])) ((Own.free ho' _))) ?_
    refine vl_nil ?_
    refine v_region ?_
    refine vl_val (os_move rfl) ?_
    refine vl_val (os_addi rfl rfl (by omega)) ?_
    refine vl_val (os_assign rfl) ?_
    refine vl_nil ?_
    exact ⟨i + 1, ⟨rfl, trivial⟩, ⟨rfl, trivial⟩, ⟨by omega, hk.trans (Kb.set (S := [g]) (by simp) _ _) (fun k hk => .inl (by simpa [Value.ownBlock] using hk)), fun _ => ⟨g, ds.set (0 + i) _, rfl, by simpa using hd, Own.set ho' _ _⟩⟩, by dsimp only; omega⟩
  · refine v_exit ?_
    exact post_end0 rfl (hk)
end Go.Proofs.Ytpcfifheegfjiaa
