/- slices.Grow of nothing, slices.Concat, slices.Equal, of bytes. -/
import Derived.Test.YtpojijnjdlnokaaSlC
import Derived.Test.YtpojijnjdlnokaaCrc
import Derived.Test.YtpojijnjdlnokaaLib
import Derived.Lib.AppendZeros
namespace Go.Proofs.Ytpojijnjdlnokaa
open Go.RowKit
set_option linter.unusedVariables false

section
variable {P : Program} {n : Cx} {fr : Fr} {w w' : World} {ty : TypeId} {x y z : Operand} {v u : Value} {T T2 e : TypeId} {op : Op}
/-- append(nil, make([]T, k)...) -/
theorem ot_append_zeros {k : Nat} {kq kn : IntKind} {z0 : Value} {bytes : Nat} {B : Nat} {m : Int} (hT : P.underlying T = some (.slice e)) (hT2 : P.underlying T2 = some (.int kn)) (hi : TyInfo P e z0 1 bytes) (hz : z0.cells = #[z0]) (hx : Fr.ev fr x = some (.slice none 0 0)) (hy : Fr.ev fr y = some (.int kq m)) (hm : m = k)
    (h0 : 0 < k) (hb : k * bytes ≤ 281474976710656) (hl : k ≤ maxLen) (hB : B ≤ w.heap.size) :
    OT P n (.call ⟨.builtin .append, #[x, y], #[T, T2]⟩) ty fr w fun v' w' => ∃ c, v' = .slice (some ⟨w.heap.size, 0, none⟩) k c ∧ Own w' B e v' (List.replicate k z0) ∧ w.grownBy w' none := by
  subst hm
  obtain ⟨i, i1, i2, i3, i4⟩ := info_parts hi
  have hl' : (k : Int) ≤ 9223372036854775807 := by simp only [maxLen] at hl; omega
  have hrun := Lib.run_append_nil_zeros (P := P) w T T2 ty e i z0 kq kn hT hT2 i1 i2 k h0 (by omega) hl' (by rw [i4]; exact hb)
  have hge := grownCap_ge w k 0 e
  have hcm : grownCap w k 0 e ≤ maxLen := grownCap_le_maxLen w k 0 e hl
  have hzc : ∀ m, Builtin.zeroCells z0.cells m = (List.replicate m z0).toArray := fun m => by
    rw [hz]
    apply Array.ext'
    apply List.ext_getElem
    · have := size_zeroCells #[z0] m; simp at this; simp [this]
    · intro i h1 h2; simp [Builtin.zeroCells, Nat.mod_one]
  refine ot_of fun a ha => ⟨_, _, by simp [execOp, resolve, invoke, builtin, ha.ev hx, ha.ev hy, hrun, Result.andThen]; exact ⟨rfl, rfl⟩, _, rfl, ⟨by simp, .inr ⟨w.heap.size, _, _, by rw [List.length_replicate], hB, heap_alloc_new w.drew _, by rw [List.length_replicate]; exact hge, hcm, ?_, ?_⟩⟩, ⟨rfl, rfl, rfl, by simp, fun k hk _ => heap_alloc_old w.drew _ hk⟩⟩
  · rw [hzc, hzc]; simp; omega
  · rw [hzc, hzc]; simp
end

set_option maxHeartbeats 1000000 in
theorem sl_GrowNil (k : Nat) (w : World) (hk : k ≤ 100000000) : Gives Try.prog 96 #[.slice none 0 0, .int .i64 k] w fun v w' => OwnK w' w.heap.size 5 .u8 v [] ∧ Below w.heap.size w w' := by
  refine gives_enter Try.call96 Try.func96 rfl rfl rfl (by kernel_rfl) ?_
  refine v_seq ?_
  refine v_region ?_
  refine vl_val (os_assign rfl) ?_
  refine vl_nil ?_
  refine v_seq ?_
  refine v_seq ?_
  refine v_region ?_
  refine vl_val (os_move rfl) ?_
  refine vl_val (os_lss rfl rfl) ?_
  refine vl_nil ?_
  refine v_cond_no rfl (by omega) ?_
  refine v_skip ?_
  refine v_seq ?_
  refine v_seq ?_
  refine v_region ?_
  refine vl_val (os_move rfl) ?_
  refine vl_val (os_move rfl) ?_
  refine vl_val (os_cap Try.underlying22 rfl) ?_
  refine vl_val (os_move rfl) ?_
  refine vl_val (os_len Try.underlying22 rfl) ?_
  refine vl_val (os_subi rfl rfl (by omega)) ?_
  refine vl_val (os_subi rfl rfl (by omega)) ?_
  refine vl_val (os_assign rfl) ?_
  refine vl_nil ?_
  refine v_seq ?_
  refine v_region ?_
  refine vl_val (os_move rfl) ?_
  refine vl_val (os_gtr rfl rfl) ?_
  refine vl_nil ?_
  refine v_cond_d rfl (fun h => ?_) (fun h => ?_)
  · refine v_region ?_
    refine vl_val (os_move rfl) ?_
    refine vl_val (os_move rfl) ?_
    refine vl_val (os_cap Try.underlying22 rfl) ?_
    refine vl_val (os_slice_h Try.underlying22 Try.sizeOf5 rfl rfl (h := 0) (by omega) (by omega)) ?_
    refine vl_val (os_move rfl) ?_
    refine vl_some (ot_append_zeros (k := k) Try.underlying22 Try.underlying3 ti_u8 rfl rfl rfl (by omega) (by omega) (by omega) (by simp only [maxLen]; omega) (Nat.le_refl w.heap.size)) ?_
    rintro v1 w1 ⟨c, rfl, ho, hg⟩
    refine vl_val (os_move rfl) ?_
    refine vl_val (os_len Try.underlying22 rfl) ?_
    refine vl_val (os_slice_h Try.underlying22 Try.sizeOf5 rfl rfl (h := 0) (by omega) (by omega)) ?_
    refine vl_val (os_assign rfl) ?_
    refine vl_nil ?_
    refine v_seq ?_
    refine v_region ?_
    refine vl_val (os_move rfl) ?_
    refine vl_val (os_assign rfl) ?_
    refine vl_nil ?_
    refine v_ret ?_
    exact post_ret rfl rfl (⟨by have := Own.cut ho (m := 0) (Nat.zero_le _); simpa [OwnK] using this, (Below.refl _ _).grown hg (Nat.le_refl _) (fun k hk => by cases hk)⟩)
  · refine v_skip ?_
    refine v_seq ?_
    refine v_region ?_
    refine vl_val (os_move rfl) ?_
    refine vl_val (os_assign rfl) ?_
    refine vl_nil ?_
    refine v_ret ?_
    exact post_ret rfl rfl (⟨Own.nil _ _ _, Below.refl _ _⟩)
theorem flat_take {ls : List (List Int)} {k : Nat} (hk : k < ls.length) : (ls.take (k + 1)).flatten = (ls.take k).flatten ++ ls.getD k [] := by
  rw [List.take_succ_eq_append_getElem hk, List.flatten_append]
  simp [hk]
theorem flat_take_le (ls : List (List Int)) (k : Nat) : (ls.take k).flatten.length ≤ ls.flatten.length := by
  conv => rhs; rw [← List.take_append_drop k ls, List.flatten_append, List.length_append]
  omega
set_option maxHeartbeats 1000000 in
theorem sl_Concat (A : Option Addr) (n c : Nat) (ls : List (List Int)) (w : World) (ha : RdS w .u8 A ls) (hn : n = ls.length) (hn' : n ≤ 9223372036854775807) (ht : ls.flatten.length ≤ 100000000) :
    Gives Try.prog 55 #[.slice A n c] w fun v w' => OwnK w' w.heap.size 5 .u8 v ls.flatten ∧ Below w.heap.size w w' := by
  refine gives_enter Try.call55 Try.func55 rfl rfl rfl (by kernel_rfl) ?_
  refine v_seq ?_
  refine v_region ?_
  refine vl_val (os_assign rfl) ?_
  refine vl_nil ?_
  refine v_seq ?_
  refine v_region ?_
  refine vl_val (os_assign rfl) ?_
  refine vl_nil ?_
  refine v_seq ?_
  refine v_seq ?_
  refine v_region ?_
  refine vl_val (os_move rfl) ?_
  refine vl_val (os_len Try.underlying23 rfl) ?_
  refine vl_val (os_move rfl) ?_
  refine vl_nil ?_
  refine v_block ?_
  refine v_loop [(0, _), (9, _), (10, _)] (fun (k : Nat) => [(3, .int .i64 ((ls.take k).flatten.length : Int)), (11, .int .i64 k)]) (fun k w' => k ≤ n ∧ w' = w) (fun k => n - k) (0) ⟨rfl, rfl, rfl, trivial⟩ ⟨rfl, rfl, trivial⟩ (⟨by omega, rfl⟩) ?_
  rintro k w ⟨hk, rfl⟩
  refine v_seq ?_
  refine v_region ?_
  refine vl_val (os_lss rfl rfl) ?_
  refine vl_nil ?_
  refine v_seq ?_
  refine v_cond_d rfl (fun h => ?_) (fun h => ?_)
  · obtain ⟨b, o, Ai, ci, rfl, hc, -, -, -⟩ := ha.at_ (i := k) (by omega)
    have hf := flat_take (ls := ls) (k := k) (by omega)
    have hle := flat_take_le ls (k + 1)
    rw [hf, List.length_append] at hle
    refine v_skip ?_
    refine v_seq ?_
    refine v_block ?_
    refine v_seq ?_
    refine v_region ?_
    refine vl_val (os_ix Try.underlying23 Try.sizeOf22 rfl rfl (i := k) (by omega) (by omega)) ?_
    refine vl_val (os_load Try.isAgg22 rfl (hc)) ?_
    refine vl_val (os_assign rfl) ?_
    refine vl_nil ?_
    refine v_seq ?_
    refine v_region ?_
    refine vl_val (os_move rfl) ?_
    refine vl_val (os_move rfl) ?_
    refine vl_val (os_len Try.underlying22 rfl) ?_
    refine vl_val (os_addi rfl rfl (by omega)) ?_
    refine vl_val (os_assign rfl) ?_
    refine vl_nil ?_
    refine v_seq ?_
    refine v_region ?_
    refine vl_val (os_move rfl) ?_
    refine vl_val (os_lss rfl rfl) ?_
    refine vl_nil ?_
    refine v_cond_no rfl (by omega) ?_
    refine v_skip ?_
    refine v_region ?_
    refine vl_val (os_addi rfl rfl (by omega)) ?_
    refine vl_val (os_move rfl) ?_
    refine vl_nil ?_
    exact ⟨k + 1, ⟨rfl, rfl, rfl, trivial⟩, ⟨get_int rfl (by rw [hf, List.length_append]; omega), rfl, trivial⟩, ⟨by omega, rfl⟩, by dsimp only; omega⟩
  · obtain rfl : n = k := by omega
    rw [List.take_of_length_le (show ls.length ≤ n by omega)]
    refine v_exit ?_
    refine v_seq ?_
    refine v_region ?_
    refine vl_val (os_move rfl) ?_
    refine vl_call (sl_GrowNil _ w ht) rfl ?_
    rintro v1 w1 ⟨ho, hb⟩
    refine vl_val (os_assign rfl) ?_
    refine vl_nil ?_
    refine v_seq ?_
    refine v_seq ?_
    refine v_region ?_
    refine vl_val (os_move rfl) ?_
    refine vl_val (os_len Try.underlying23 rfl) ?_
    refine vl_val (os_move rfl) ?_
    refine vl_nil ?_
    refine v_block ?_
    refine v_loop2 [(25, _), (26, _)] (fun (v : Value) (k : Nat) => [(6, v), (27, .int .i64 k)]) (fun v k w' => k ≤ n ∧ OwnK w' w.heap.size 5 .u8 v (ls.take k).flatten ∧ Below w.heap.size w w') (fun v k => n - k) (v1) (0) ⟨rfl, rfl, trivial⟩ ⟨rfl, rfl, trivial⟩ (⟨by omega, by simpa using ho, hb⟩) ?_
    rintro v k w' ⟨hk, ho, hb⟩
    refine v_seq ?_
    refine v_region ?_
    refine vl_val (os_lss rfl rfl) ?_
    refine vl_nil ?_
    refine v_seq ?_
    refine v_cond_d rfl (fun h2 => ?_) (fun h2 => ?_)
    · obtain ⟨b, o, Ai, ci, rfl, hc, hri, -, -⟩ := (ha.keep hb).at_ (i := k) (by omega)
      have hf := flat_take (ls := ls) (k := k) (by omega)
      have hle := flat_take_le ls (k + 1)
      rw [hf, List.length_append] at hle
      refine v_skip ?_
      refine v_seq ?_
      refine v_block ?_
      refine v_seq ?_
      refine v_region ?_
      refine vl_val (os_ix Try.underlying23 Try.sizeOf22 rfl rfl (i := k) (by omega) (by omega)) ?_
      refine vl_val (os_load Try.isAgg22 rfl (hc)) ?_
      refine vl_val (os_assign rfl) ?_
      refine vl_nil ?_
      refine v_region ?_
      refine vl_val (os_move rfl) ?_
      refine vl_val (os_move rfl) ?_
      refine vl_some (ot_append Try.underlying22 ti_u8 rfl rfl rfl ho hri.toC (by simp) (by intro u hu; obtain ⟨z, _, rfl⟩ := List.mem_map.1 hu; rfl) (by rw [List.length_map]; omega) (by rw [List.length_map]; simp only [maxLen]; omega) hb.size) ?_
      rintro v5 w5 ⟨ho5, hg5⟩
      refine vl_val (os_assign rfl) ?_
      refine vl_nil ?_
      refine v_region ?_
      refine vl_val (os_addi rfl rfl (by omega)) ?_
      refine vl_val (os_move rfl) ?_
      refine vl_nil ?_
      exact ⟨⟨v5, k + 1⟩, ⟨rfl, rfl, trivial⟩, ⟨rfl, rfl, trivial⟩, ⟨by omega, by rw [hf]; simpa [OwnK] using ho5, Own.below hb ho hg5 (Nat.le_refl _) hb.size⟩, by dsimp only; omega⟩
    · obtain rfl : n = k := by omega
      rw [List.take_of_length_le (show ls.length ≤ n by omega)] at ho
      refine v_exit ?_
      refine v_seq ?_
      refine v_region ?_
      refine vl_val (os_move rfl) ?_
      refine vl_val (os_assign rfl) ?_
      refine vl_nil ?_
      refine v_ret ?_
      exact post_ret rfl rfl (⟨ho, hb⟩)
theorem sl_Equal (A B : Option Addr) (n m c d : Nat) (xs ys : List Int) (w : World) (ha : Rd w .u8 A xs) (hb : Rd w .u8 B ys) (hn : n = xs.length) (hm : m = ys.length) (hn' : n ≤ 9223372036854775807) (hm' : m ≤ 9223372036854775807) :
    Gives Try.prog 164 #[.slice A n c, .slice B m d] w fun v w' => v = .bool (decide (xs = ys)) ∧ LeD w w' := by
  refine gives_enter Try.call164 Try.func164 rfl rfl rfl (by kernel_rfl) ?_
  refine v_seq ?_
  refine v_region ?_
  refine vl_val (os_assign rfl) ?_
  refine vl_nil ?_
  refine v_seq ?_
  refine v_seq ?_
  refine v_region ?_
  refine vl_val (os_move rfl) ?_
  refine vl_val (os_len Try.underlying22 rfl) ?_
  refine vl_val (os_move rfl) ?_
  refine vl_val (os_len Try.underlying22 rfl) ?_
  refine vl_val (os_neq rfl rfl) ?_
  refine vl_nil ?_
  refine v_cond_d rfl (fun h => ?_) (fun h => ?_)
  · refine v_seq ?_
    refine v_region ?_
    refine vl_val (os_assign rfl) ?_
    refine vl_nil ?_
    refine v_ret ?_
    exact post_ret rfl rfl (⟨by rw [decide_eq_false]; intro he; subst he; omega, lee_d.refl _⟩)
  · refine v_skip ?_
    refine v_seq ?_
    refine v_seq ?_
    refine v_region ?_
    refine vl_val (os_move rfl) ?_
    refine vl_val (os_len Try.underlying22 rfl) ?_
    refine vl_val (os_move rfl) ?_
    refine vl_nil ?_
    refine v_block ?_
    refine v_loop [(0, _), (1, _), (12, _)] (fun (k : Nat) => [(13, .int .i64 k)]) (fun k w' => k ≤ n ∧ xs.take k = ys.take k ∧ LeD w w') (fun k => n - k) (0) ⟨rfl, rfl, rfl, trivial⟩ ⟨rfl, trivial⟩ (⟨by omega, rfl, lee_d.refl _⟩) ?_
    rintro k w' ⟨hk, htk, q, rfl⟩
    refine v_seq ?_
    refine v_region ?_
    refine vl_val (os_lss rfl rfl) ?_
    refine vl_nil ?_
    refine v_seq ?_
    refine v_cond_d rfl (fun hlt => ?_) (fun hlt => ?_)
    · obtain ⟨b1, o1, rfl, c1⟩ := (ha.drewN q).at_ (i := k) (by omega)
      obtain ⟨b2, o2, rfl, c2⟩ := (hb.drewN q).at_ (i := k) (by omega)
      refine v_skip ?_
      refine v_seq ?_
      refine v_block ?_
      refine v_seq ?_
      refine v_region ?_
      refine vl_val (os_move rfl) ?_
      refine vl_val (os_assign rfl) ?_
      refine vl_nil ?_
      refine v_seq ?_
      refine v_region_t LeD _ mixed (by kernel_rfl) lee_d (led_start _) ?_
      refine vt_val (fun w hw => os_move rfl) ?_
      refine vt_val (fun w hw => os_move rfl) ?_
      refine vt_val (fun w hw => os_ix Try.underlying22 Try.sizeOf5 rfl rfl (i := k) (by omega) (by omega)) ?_
      refine vt_val (fun w hw => os_load Try.isAgg5 rfl (led_cell hw (c1))) ?_
      refine vt_val (fun w hw => os_move rfl) ?_
      refine vt_val (fun w hw => os_move rfl) ?_
      refine vt_val (fun w hw => os_ix Try.underlying22 Try.sizeOf5 rfl rfl (i := k) (by omega) (by omega)) ?_
      refine vt_val (fun w hw => os_load Try.isAgg5 rfl (led_cell hw (c2))) ?_
      refine vt_val (fun w hw => os_neq rfl rfl) ?_
      refine vt_nil (fun w hw => ?_)
      obtain ⟨q2, rfl⟩ := hw
      refine v_cond_d rfl (fun hne => ?_) (fun hne => ?_)
      · refine v_seq ?_
        refine v_region ?_
        refine vl_val (os_assign rfl) ?_
        refine vl_nil ?_
        refine v_ret ?_
        exact post_ret rfl rfl (⟨by rw [decide_eq_false]; intro he; subst he; exact hne rfl, _, World.drewN_drewN ..⟩)
      · refine v_skip ?_
        refine v_region ?_
        refine vl_val (os_addi rfl rfl (by omega)) ?_
        refine vl_val (os_move rfl) ?_
        refine vl_nil ?_
        exact ⟨k + 1, ⟨rfl, rfl, rfl, trivial⟩, ⟨rfl, trivial⟩, ⟨by omega, take_succ_eq (n := n) hn (by omega) (by omega) htk 0 (by simpa using hne), _, World.drewN_drewN ..⟩, by dsimp only; omega⟩
    · obtain rfl : k = n := by omega
      refine v_exit ?_
      refine v_seq ?_
      refine v_region ?_
      refine vl_val (os_assign rfl) ?_
      refine vl_nil ?_
      refine v_ret ?_
      exact post_ret rfl rfl (⟨by rw [decide_eq_true]; exact eq_of_take hn (by omega) htk, _, rfl⟩)
end Go.Proofs.Ytpojijnjdlnokaa
