/- Texts joined: SlD KitP CrcL KitS Sm Str SmO. -/
import Derived.Test.YtpojijnjdlnokaaM9
import Derived.Lib.AppendZeros
import Derived.Test.YtpojijnjdlnokaaProg
import Derived.Lib.SlBytesConst
/- slices.Grow of nothing, slices.Concat, slices.Equal, of bytes. -/
namespace Go.Proofs.Ytpojijnjdlnokaa
open Go.RowKit
set_option linter.unusedVariables false

section
variable {P : Program} {n : Cx} {fr : Fr} {w w' : World} {ty : TypeId} {x y z : Operand} {v u : Value} {T T2 e : TypeId} {op : Op}
/-- append(nil, make([]T, k)...) -/
theorem ot_append_zeros {k : Nat} {kq kn : IntKind} {z0 : Value} {bytes : Nat} {B : Nat} {m : Int} (hT : P.underlying T = some (.slice e)) (hT2 : P.underlying T2 = some (.int kn)) (hi : TyInfo P e z0 1 bytes) (hz : z0.cells = #[z0]) (hx : Fr.ev fr x = some (.slice none 0 0)) (hy : Fr.ev fr y = some (.int kq m)) (hm : m = k)
    (h0 : 0 < k) (hb : k * bytes ≤ 281474976710656) (hl : k ≤ maxLen) (hB : B ≤ w.heap.size) :
    OT P n (.call ⟨.builtin .append, #[x, y], #[T, T2]⟩) ty fr w fun v' w' => ∃ c, v' = .slice (some ⟨w.heap.size, 0, none⟩) k c ∧ Own w' B e v' (List.replicate k z0) ∧ w.grownBy w' none := by
  subst hm
  obtain ⟨i, i1, i2, i3, i4⟩ := info_parts hi
  have hl' : (k : Int) ≤ 9223372036854775807 := by simp only [maxLen] at hl; omega
  have hrun := Lib.run_append_nil_zeros (P := P) w T T2 ty e i z0 kq kn hT hT2 i1 i2 k h0 (by omega) hl' (by rw [i4]; exact hb)
  have hge := grownCap_ge w k 0 e
  have hcm : grownCap w k 0 e ≤ maxLen := grownCap_le_maxLen w k 0 e hl
  have hzc : ∀ m, Builtin.zeroCells z0.cells m = (List.replicate m z0).toArray := fun m => by
    rw [hz]
    apply Array.ext'
    apply List.ext_getElem
    · have := size_zeroCells #[z0] m; simp at this; simp [this]
    · intro i h1 h2; simp [Builtin.zeroCells, Nat.mod_one]
  refine ot_of fun a ha => ⟨_, _, by simp [execOp, resolve, invoke, builtin, ha.ev hx, ha.ev hy, hrun, Result.andThen]; exact ⟨rfl, rfl⟩, _, rfl, ⟨by simp, .inr ⟨w.heap.size, _, _, by rw [List.length_replicate], hB, heap_alloc_new w.drew _, by rw [List.length_replicate]; exact hge, hcm, ?_, ?_⟩⟩, ⟨rfl, rfl, rfl, by simp, fun k hk _ => heap_alloc_old w.drew _ hk⟩⟩
  · rw [hzc, hzc]; simp; omega
  · rw [hzc, hzc]; simp
end

set_option maxHeartbeats 1000000 in
theorem sl_GrowNil (k : Nat) (w : World) (hk : k ≤ 100000000) : Gives Try.prog 96 #[.slice none 0 0, .int .i64 k] w fun v w' => OwnK w' w.heap.size 5 .u8 v [] ∧ Below w.heap.size w w' := by
  refine gives_enter Try.call96 Try.func96 rfl rfl rfl (by kernel_rfl) ?_
  refine v_seq ?_
  refine v_region ?_
  refine vl_val (os_assign rfl) ?_
  refine vl_nil ?_
  refine v_seq ?_
  refine v_seq ?_
  refine v_region ?_
  refine vl_val (os_move rfl) ?_
  refine vl_val (os_lss rfl rfl) ?_
  refine vl_nil ?_
  refine v_cond_no rfl (by omega) ?_
  refine v_skip ?_
  refine v_seq ?_
  refine v_seq ?_
  refine v_region ?_
  refine vl_val (os_move rfl) ?_
  refine vl_val (os_move rfl) ?_
  refine vl_val (os_cap Try.underlying22 rfl) ?_
  refine vl_val (os_move rfl) ?_
  refine vl_val (os_len Try.underlying22 rfl) ?_
  refine vl_val (os_subi rfl rfl (by omega)) ?_
  refine vl_val (os_subi rfl rfl (by omega)) ?_
  refine vl_val (os_assign rfl) ?_
  refine vl_nil ?_
  refine v_seq ?_
  refine v_region ?_
  refine vl_val (os_move rfl) ?_
  refine vl_val (os_gtr rfl rfl) ?_
  refine vl_nil ?_
  refine v_cond_d rfl (fun h => ?_) (fun h => ?_)
  · refine v_region ?_
    refine vl_val (os_move rfl) ?_
    refine vl_val (os_move rfl) ?_
    refine vl_val (os_cap Try.underlying22 rfl) ?_
    refine vl_val (os_slice_h Try.underlying22 Try.sizeOf5 rfl rfl (h := 0) (by omega) (by omega)) ?_
    refine vl_val (os_move rfl) ?_
    refine vl_some (ot_append_zeros (k := k) Try.underlying22 Try.underlying3 ti_u8 rfl rfl rfl (by omega) (by omega) (by omega) (by simp only [maxLen]; omega) (Nat.le_refl w.heap.size)) ?_
    rintro v1 w1 ⟨c, rfl, ho, hg⟩
    refine vl_val (os_move rfl) ?_
    refine vl_val (os_len Try.underlying22 rfl) ?_
    refine vl_val (os_slice_h Try.underlying22 Try.sizeOf5 rfl rfl (h := 0) (by omega) (by omega)) ?_
    refine vl_val (os_assign rfl) ?_
    refine vl_nil ?_
    refine v_seq ?_
    refine v_region ?_
    refine vl_val (os_move rfl) ?_
    refine vl_val (os_assign rfl) ?_
    refine vl_nil ?_
    refine v_ret ?_
    exact post_ret rfl rfl (⟨by have := Own.cut ho (m := 0) (Nat.zero_le _); simpa [OwnK] using this, (Below.refl _ _).grown hg (Nat.le_refl _) (fun k hk => by cases hk)⟩)
  · refine v_skip ?_
    refine v_seq ?_
    refine v_region ?_
    refine vl_val (os_move rfl) ?_
    refine vl_val (os_assign rfl) ?_
    refine vl_nil ?_
    refine v_ret ?_
    exact post_ret rfl rfl (⟨Own.nil _ _ _, Below.refl _ _⟩)
theorem flat_take {ls : List (List Int)} {k : Nat} (hk : k < ls.length) : (ls.take (k + 1)).flatten = (ls.take k).flatten ++ ls.getD k [] := by
  rw [List.take_succ_eq_append_getElem hk, List.flatten_append]
  simp [hk]
theorem flat_take_le (ls : List (List Int)) (k : Nat) : (ls.take k).flatten.length ≤ ls.flatten.length := by
  conv => rhs; rw [← List.take_append_drop k ls, List.flatten_append, List.length_append]
  omega
set_option maxHeartbeats 1000000 in
theorem sl_Concat (A : Option Addr) (n c : Nat) (ls : List (List Int)) (w : World) (ha : RdS w .u8 A ls) (hn : n = ls.length) (hn' : n ≤ 9223372036854775807) (ht : ls.flatten.length ≤ 100000000) :
    Gives Try.prog 55 #[.slice A n c] w fun v w' => OwnK w' w.heap.size 5 .u8 v ls.flatten ∧ Below w.heap.size w w' := by
  refine gives_enter Try.call55 Try.func55 rfl rfl rfl (by kernel_rfl) ?_
  refine v_seq ?_
  refine v_region ?_
  refine vl_val (os_assign rfl) ?_
  refine vl_nil ?_
  refine v_seq ?_
  refine v_region ?_
  refine vl_val (os_assign rfl) ?_
  refine vl_nil ?_
  refine v_seq ?_
  refine v_seq ?_
  refine v_region ?_
  refine vl_val (os_move rfl) ?_
  refine vl_val (os_len Try.underlying23 rfl) ?_
  refine vl_val (os_move rfl) ?_
  refine vl_nil ?_
  refine v_block ?_
  refine v_loop [(0, _), (9, _), (10, _)] (fun (k : Nat) => [(3, .int .i64 ((ls.take k).flatten.length : Int)), (11, .int .i64 k)]) (fun k w' => k ≤ n ∧ w' = w) (fun k => n - k) (0) ⟨rfl, rfl, rfl, trivial⟩ ⟨rfl, rfl, trivial⟩ (⟨by omega, rfl⟩) ?_
  rintro k w ⟨hk, rfl⟩
  refine v_seq ?_
  refine v_region ?_
  refine vl_val (os_lss rfl rfl) ?_
  refine vl_nil ?_
  refine v_seq ?_
  refine v_cond_d rfl (fun h => ?_) (fun h => ?_)
  · obtain ⟨b, o, Ai, ci, rfl, hc, -, -, -⟩ := ha.at_ (i := k) (by omega)
    have hf := flat_take (ls := ls) (k := k) (by omega)
    have hle := flat_take_le ls (k + 1)
    rw [hf, List.length_append] at hle
    refine v_skip ?_
    refine v_seq ?_
    refine v_block ?_
    refine v_seq ?_
    refine v_region ?_
    refine vl_val (os_ix Try.underlying23 Try.sizeOf22 rfl rfl (i := k) (by omega) (by omega)) ?_
    refine vl_val (os_load Try.isAgg22 rfl (hc)) ?_
    refine vl_val (os_assign rfl) ?_
    refine vl_nil ?_
    refine v_seq ?_
    refine v_region ?_
    refine vl_val (os_move rfl) ?_
    refine vl_val (os_move rfl) ?_
    refine vl_val (os_len Try.underlying22 rfl) ?_
    refine vl_val (os_addi rfl rfl (by omega)) ?_
    refine vl_val (os_assign rfl) ?_
    refine vl_nil ?_
    refine v_seq ?_
    refine v_region ?_
    refine vl_val (os_move rfl) ?_
    refine vl_val (os_lss rfl rfl) ?_
    refine vl_nil ?_
    refine v_cond_no rfl (by omega) ?_
    refine v_skip ?_
    refine v_region ?_
    refine vl_val (os_addi rfl rfl (by omega)) ?_
    refine vl_val (os_move rfl) ?_
    refine vl_nil ?_
    exact ⟨k + 1, ⟨rfl, rfl, rfl, trivial⟩, ⟨get_int rfl (by rw [hf, List.length_append]; omega), rfl, trivial⟩, ⟨by omega, rfl⟩, by dsimp only; omega⟩
  · obtain rfl : n = k := by omega
    rw [List.take_of_length_le (show ls.length ≤ n by omega)]
    refine v_exit ?_
    refine v_seq ?_
    refine v_region ?_
    refine vl_val (os_move rfl) ?_
    refine vl_call (sl_GrowNil _ w ht) rfl ?_
    rintro v1 w1 ⟨ho, hb⟩
    refine vl_val (os_assign rfl) ?_
    refine vl_nil ?_
    refine v_seq ?_
    refine v_seq ?_
    refine v_region ?_
    refine vl_val (os_move rfl) ?_
    refine vl_val (os_len Try.underlying23 rfl) ?_
    refine vl_val (os_move rfl) ?_
    refine vl_nil ?_
    refine v_block ?_
    refine v_loop2 [(25, _), (26, _)] (fun (v : Value) (k : Nat) => [(6, v), (27, .int .i64 k)]) (fun v k w' => k ≤ n ∧ OwnK w' w.heap.size 5 .u8 v (ls.take k).flatten ∧ Below w.heap.size w w') (fun v k => n - k) (v1) (0) ⟨rfl, rfl, trivial⟩ ⟨rfl, rfl, trivial⟩ (⟨by omega, by simpa using ho, hb⟩) ?_
    rintro v k w' ⟨hk, ho, hb⟩
    refine v_seq ?_
    refine v_region ?_
    refine vl_val (os_lss rfl rfl) ?_
    refine vl_nil ?_
    refine v_seq ?_
    refine v_cond_d rfl (fun h2 => ?_) (fun h2 => ?_)
    · obtain ⟨b, o, Ai, ci, rfl, hc, hri, -, -⟩ := (ha.keep hb).at_ (i := k) (by omega)
      have hf := flat_take (ls := ls) (k := k) (by omega)
      have hle := flat_take_le ls (k + 1)
      rw [hf, List.length_append] at hle
      refine v_skip ?_
      refine v_seq ?_
      refine v_block ?_
      refine v_seq ?_
      refine v_region ?_
      refine vl_val (os_ix Try.underlying23 Try.sizeOf22 rfl rfl (i := k) (by omega) (by omega)) ?_
      refine vl_val (os_load Try.isAgg22 rfl (hc)) ?_
      refine vl_val (os_assign rfl) ?_
      refine vl_nil ?_
      refine v_region ?_
      refine vl_val (os_move rfl) ?_
      refine vl_val (os_move rfl) ?_
      refine vl_some (ot_append Try.underlying22 ti_u8 rfl rfl rfl ho hri.toC (by simp) (by intro u hu; obtain ⟨z, _, rfl⟩ := List.mem_map.1 hu; rfl) (by rw [List.length_map]; omega) (by rw [List.length_map]; simp only [maxLen]; omega) hb.size) ?_
      rintro v5 w5 ⟨ho5, hg5⟩
      refine vl_val (os_assign rfl) ?_
      refine vl_nil ?_
      refine v_region ?_
      refine vl_val (os_addi rfl rfl (by omega)) ?_
      refine vl_val (os_move rfl) ?_
      refine vl_nil ?_
      exact ⟨⟨v5, k + 1⟩, ⟨rfl, rfl, trivial⟩, ⟨rfl, rfl, trivial⟩, ⟨by omega, by rw [hf]; simpa [OwnK] using ho5, Own.below hb ho hg5 (Nat.le_refl _) hb.size⟩, by dsimp only; omega⟩
    · obtain rfl : n = k := by omega
      rw [List.take_of_length_le (show ls.length ≤ n by omega)] at ho
      refine v_exit ?_
      refine v_seq ?_
      refine v_region ?_
      refine vl_val (os_move rfl) ?_
      refine vl_val (os_assign rfl) ?_
      refine vl_nil ?_
      refine v_ret ?_
      exact post_ret rfl rfl (⟨ho, hb⟩)
theorem sl_Equal (A B : Option Addr) (n m c d : Nat) (xs ys : List Int) (w : World) (ha : Rd w .u8 A xs) (hb : Rd w .u8 B ys) (hn : n = xs.length) (hm : m = ys.length) (hn' : n ≤ 9223372036854775807) (hm' : m ≤ 9223372036854775807) :
    Gives Try.prog 164 #[.slice A n c, .slice B m d] w fun v w' => v = .bool (decide (xs = ys)) ∧ LeD w w' := by
  refine gives_enter Try.call164 Try.func164 rfl rfl rfl (by kernel_rfl) ?_
  refine v_seq ?_
  refine v_region ?_
  refine vl_val (os_assign rfl) ?_
  refine vl_nil ?_
  refine v_seq ?_
  refine v_seq ?_
  refine v_region ?_
  refine vl_val (os_move rfl) ?_
  refine vl_val (os_len Try.underlying22 rfl) ?_
  refine vl_val (os_move rfl) ?_
  refine vl_val (os_len Try.underlying22 rfl) ?_
  refine vl_val (os_neq rfl rfl) ?_
  refine vl_nil ?_
  refine v_cond_d rfl (fun h => ?_) (fun h => ?_)
  · refine v_seq ?_
    refine v_region ?_
    refine vl_val (os_assign rfl) ?_
    refine vl_nil ?_
    refine v_ret ?_
    exact post_ret rfl rfl (⟨by rw [decide_eq_false]; intro he; subst he; omega, lee_d.refl _⟩)
  · refine v_skip ?_
    refine v_seq ?_
    refine v_seq ?_
    refine v_region ?_
    refine vl_val (os_move rfl) ?_
    refine vl_val (os_len Try.underlying22 rfl) ?_
    refine vl_val (os_move rfl) ?_
    refine vl_nil ?_
    refine v_block ?_
    refine v_loop [(0, _), (1, _), (12, _)] (fun (k : Nat) => [(13, .int .i64 k)]) (fun k w' => k ≤ n ∧ xs.take k = ys.take k ∧ LeD w w') (fun k => n - k) (0) ⟨rfl, rfl, rfl, trivial⟩ ⟨rfl, trivial⟩ (⟨by omega, rfl, lee_d.refl _⟩) ?_
    rintro k w' ⟨hk, htk, q, rfl⟩
    refine v_seq ?_
    refine v_region ?_
    refine vl_val (os_lss rfl rfl) ?_
    refine vl_nil ?_
    refine v_seq ?_
    refine v_cond_d rfl (fun hlt => ?_) (fun hlt => ?_)
    · obtain ⟨b1, o1, rfl, c1⟩ := (ha.drewN q).at_ (i := k) (by omega)
      obtain ⟨b2, o2, rfl, c2⟩ := (hb.drewN q).at_ (i := k) (by omega)
      refine v_skip ?_
      refine v_seq ?_
      refine v_block ?_
      refine v_seq ?_
      refine v_region ?_
      refine vl_val (os_move rfl) ?_
      refine vl_val (os_assign rfl) ?_
      refine vl_nil ?_
      refine v_seq ?_
      refine v_region_t LeD _ mixed (by kernel_rfl) lee_d (led_start _) ?_
      refine vt_val (fun w hw => os_move rfl) ?_
      refine vt_val (fun w hw => os_move rfl) ?_
      refine vt_val (fun w hw => os_ix Try.underlying22 Try.sizeOf5 rfl rfl (i := k) (by omega) (by omega)) ?_
      refine vt_val (fun w hw => os_load Try.isAgg5 rfl (led_cell hw (c1))) ?_
      refine vt_val (fun w hw => os_move rfl) ?_
      refine vt_val (fun w hw => os_move rfl) ?_
      refine vt_val (fun w hw => os_ix Try.underlying22 Try.sizeOf5 rfl rfl (i := k) (by omega) (by omega)) ?_
      refine vt_val (fun w hw => os_load Try.isAgg5 rfl (led_cell hw (c2))) ?_
      refine vt_val (fun w hw => os_neq rfl rfl) ?_
      refine vt_nil (fun w hw => ?_)
      obtain ⟨q2, rfl⟩ := hw
      refine v_cond_d rfl (fun hne => ?_) (fun hne => ?_)
      · refine v_seq ?_
        refine v_region ?_
        refine vl_val (os_assign rfl) ?_
        refine vl_nil ?_
        refine v_ret ?_
        exact post_ret rfl rfl (⟨by rw [decide_eq_false]; intro he; subst he; exact hne rfl, _, World.drewN_drewN ..⟩)
      · refine v_skip ?_
        refine v_region ?_
        refine vl_val (os_addi rfl rfl (by omega)) ?_
        refine vl_val (os_move rfl) ?_
        refine vl_nil ?_
        exact ⟨k + 1, ⟨rfl, rfl, rfl, trivial⟩, ⟨rfl, trivial⟩, ⟨by omega, take_succ_eq (n := n) hn (by omega) (by omega) htk 0 (by simpa using hne), _, World.drewN_drewN ..⟩, by dsimp only; omega⟩
    · obtain rfl : k = n := by omega
      refine v_exit ?_
      refine v_seq ?_
      refine v_region ?_
      refine vl_val (os_assign rfl) ?_
      refine vl_nil ?_
      refine v_ret ?_
      exact post_ret rfl rfl (⟨by rw [decide_eq_true]; exact eq_of_take hn (by omega) htk, _, rfl⟩)
end Go.Proofs.Ytpojijnjdlnokaa

/- The statements' own helpers: Pick. -/
namespace Go.Proofs.Ytpojijnjdlnokaa
open Go.RowKit

def pickV (x n : Int) : Int := if n < 1 then 0 else x % n
theorem pick_neg {x n : Int} (hn : ¬ n < 1) (h : x.tmod n < 0) : x.tmod n + n = x % n := by
  have h1 := Int.tmod_eq_emod (a := x) (b := n)
  rw [h1] at h ⊢
  have h2 : (n.natAbs : Int) = n := by omega
  split at h
  · have := Int.emod_nonneg x (show n ≠ 0 by omega); omega
  · rename_i hh; rw [if_neg hh, h2]; omega
theorem pick_pos {x n : Int} (hn : ¬ n < 1) (h : ¬ x.tmod n < 0) : x.tmod n = x % n := by
  have h1 := Int.tmod_eq_emod (a := x) (b := n)
  rw [h1] at h ⊢
  have h2 : (n.natAbs : Int) = n := by omega
  split at h
  · rename_i hh; rw [if_pos hh]; omega
  · rename_i hh; rw [if_neg hh, h2] 
    have := Int.emod_lt_of_pos x (show 0 < n by omega)
    omega
theorem tmod_fit {x n : Int} (hn : ¬ n < 1) (h2 : n ≤ 9223372036854775807) (h : x.tmod n < 0) : -9223372036854775808 ≤ x.tmod n + n ∧ x.tmod n + n ≤ 9223372036854775807 := by
  rw [pick_neg hn h]
  have := Int.emod_nonneg x (show n ≠ 0 by omega)
  have := Int.emod_lt_of_pos x (show 0 < n by omega)
  omega

theorem kit_Pick (x m : Int) (w : World) (hm : m ≤ 9223372036854775807) : Gives Try.prog 47 #[.int .i64 x, .int .i64 m] w fun v w' => v = .int .i64 (pickV x m) ∧ w' = w := by
  refine gives_enter Try.call47 Try.func47 rfl rfl rfl (by kernel_rfl) ?_
  refine v_seq ?_
  refine v_region ?_
  refine vl_val (os_assign rfl) ?_
  refine vl_nil ?_
  refine v_seq ?_
  refine v_seq ?_
  refine v_region ?_
  refine vl_val (os_move rfl) ?_
  refine vl_val (os_lss rfl rfl) ?_
  refine vl_nil ?_
  refine v_cond_d rfl (fun h => ?_) (fun h => ?_)
  · refine v_seq ?_
    refine v_region ?_
    refine vl_val (os_assign rfl) ?_
    refine vl_nil ?_
    refine v_ret ?_
    exact post_ret rfl rfl ⟨by rw [pickV, if_pos h], rfl⟩
  · refine v_skip ?_
    refine v_seq ?_
    refine v_region ?_
    refine vl_val (os_move rfl) ?_
    refine vl_val (os_move rfl) ?_
    refine vl_val (os_rem rfl rfl (by omega) rfl) ?_
    refine vl_val (os_assign rfl) ?_
    refine vl_nil ?_
    refine v_seq ?_
    refine v_seq ?_
    refine v_region ?_
    refine vl_val (os_move rfl) ?_
    refine vl_val (os_lss rfl rfl) ?_
    refine vl_nil ?_
    refine v_cond_d rfl (fun h2 => ?_) (fun h2 => ?_)
    · refine v_region ?_
      refine vl_val (os_move rfl) ?_
      refine vl_val (os_move rfl) ?_
      refine vl_val (os_addi rfl rfl (tmod_fit h hm h2)) ?_
      refine vl_val (os_assign rfl) ?_
      refine vl_nil ?_
      refine v_seq ?_
      refine v_region ?_
      refine vl_val (os_move rfl) ?_
      refine vl_val (os_assign rfl) ?_
      refine vl_nil ?_
      refine v_ret ?_
      exact post_ret rfl rfl ⟨by rw [pickV, if_neg h, pick_neg h h2], rfl⟩
    · refine v_skip ?_
      refine v_seq ?_
      refine v_region ?_
      refine vl_val (os_move rfl) ?_
      refine vl_val (os_assign rfl) ?_
      refine vl_nil ?_
      refine v_ret ?_
      exact post_ret rfl rfl ⟨by rw [pickV, if_neg h, pick_pos h h2], rfl⟩
end Go.Proofs.Ytpojijnjdlnokaa

/- Layer 7: awake, and the walk of SumParts. -/
namespace Go.Proofs.Ytpojijnjdlnokaa
open Go.RowKit
set_option linter.unusedVariables false

section
variable {P : Program} {n : Cx} {fr : Fr} {w : World} {ty : TypeId} {x : Operand} {T e : TypeId}
/-- []byte of a constant text -/
theorem os_text {vs : List Value} {l c : Nat} (hT : P.underlying T = some (.slice e)) (he : P.underlying e = some (.int .u8)) (hx : Fr.ev fr x = some (.slice (some ⟨w.heap.size, 0, none⟩) l c)) :
    OS P n (.convert T T x) ty fr (w.alloc (.cells vs.toArray e)) (.slice (some ⟨w.heap.size, 0, none⟩) l c) (w.alloc (.cells vs.toArray e (vs.length, vs.length + 1))) := os_of fun a ha => by
  have := Lib.run_convert_bytes_const (P := P) w T e vs.toArray l c hT he
  simp [execOp, ha.ev hx, this]
end
theorem rd_text (w : World) (zs : List Int) (e : TypeId) (f : Nat × Nat) : Rd (w.alloc (.cells (zs.map (Value.int .u8)).toArray e f)) .u8 (some ⟨w.heap.size, 0, none⟩) zs := fun _ => by
  refine ⟨_, 0, rfl, fun i hi => ?_⟩
  rw [cell_of_row _ w.heap.size (0 + i) (zs.map (Value.int .u8)).toArray e f (heap_alloc_new w _)]
  simp [hi]
theorem below_text (w : World) (o : Obj) : Below w.heap.size w (w.alloc o) := (Below.refl _ w).alloc (Nat.le_refl _) o

/-- a list of lists, written out -/
theorem rds_lit' (w : World) (k : IntKind) (T : TypeId) (hs : List (Option Addr × Nat × Nat × List Int)) (h : ∀ x ∈ hs, Rd w k x.1 x.2.2.2 ∧ x.2.1 = x.2.2.2.length ∧ x.2.1 ≤ x.2.2.1 ∧ x.2.1 ≤ 140737488351232) :
    RdS (w.alloc (.cells (hs.map fun x => Value.slice x.1 x.2.1 x.2.2.1).toArray T)) k (some ⟨w.heap.size, 0, none⟩) (hs.map fun x => x.2.2.2) := fun _ => by
  refine ⟨_, 0, rfl, fun i hi => ?_⟩
  have hi' : i < hs.length := by simpa using hi
  obtain ⟨h1, h0, h2, h3⟩ := h hs[i] (List.getElem_mem _)
  have e1 : (hs.map fun x => x.2.2.2).getD i [] = hs[i].2.2.2 := by simp [hi']
  rw [e1]
  refine ⟨hs[i].1, hs[i].2.2.1, ?_, h1.keep (below_text w _), by omega, by omega⟩
  rw [cell_of_row _ w.heap.size (0 + i) _ T (0, 0) (heap_alloc_new w _)]
  simp [hi', h0]
theorem rds_lit (w : World) (k : IntKind) (T : TypeId) (hs : List (Option Addr × Nat × List Int)) (h : ∀ x ∈ hs, Rd w k x.1 x.2.2 ∧ x.2.2.length ≤ x.2.1 ∧ x.2.2.length ≤ 140737488351232) :
    RdS (w.alloc (.cells (hs.map fun x => Value.slice x.1 x.2.2.length x.2.1).toArray T)) k (some ⟨w.heap.size, 0, none⟩) (hs.map fun x => x.2.2) := by
  have := rds_lit' w k T (hs.map fun x => (x.1, x.2.2.length, x.2.1, x.2.2)) (by
    intro x hx
    obtain ⟨y, hy, rfl⟩ := List.mem_map.1 hx
    obtain ⟨h1, h2, h3⟩ := h y hy
    exact ⟨h1, rfl, h2, h3⟩)
  simpa [Function.comp_def] using this

def text9 : List Int := [49, 50, 51, 52, 53, 54, 55, 56, 57]
theorem crc_text : crcOf [[49, 50, 51, 52, 53, 54, 55, 56, 57]] = 0xCBF43926#32 := by decide +kernel
theorem crc_none : crcOf [] = 0#32 := by decide +kernel
theorem crc_go : crcGo (crcOf [[49, 50, 51, 52]]) [53, 54, 55, 56, 57] = 0xCBF43926#32 := by decide +kernel
theorem allB_lit {zs : List Int} (h : zs.all (fun z => decide (0 ≤ z ∧ z ≤ 255)) = true) : AllB zs := by
  intro z hz; simpa using List.all_eq_true.1 h z hz

end Go.Proofs.Ytpojijnjdlnokaa

/- The statements' own helpers: lists held against each other. -/
namespace Go.Proofs.Ytpojijnjdlnokaa
open Go.RowKit
set_option linter.unusedVariables false

theorem kit_SameInts (A B : Option Addr) (n m c d : Nat) (xs ys : List Int) (w : World) (ha : Rd w .i64 A xs) (hb : Rd w .i64 B ys) (hn : n = xs.length) (hm : m = ys.length)
   (hn' : n ≤ 9223372036854775807) (hm' : m ≤ 9223372036854775807) :
    Gives Try.prog 34 #[.slice A n c, .slice B m d] w fun v w' => v = .bool (decide (xs = ys)) ∧ LeD w w' := by
  refine gives_enter Try.call34 Try.func34 rfl rfl rfl (by kernel_rfl) ?_
  refine v_seq ?_
  refine v_region ?_
  refine vl_val (os_assign rfl) ?_
  refine vl_nil ?_
  refine v_seq ?_
  refine v_seq ?_
  refine v_region ?_
  refine vl_val (os_move rfl) ?_
  refine vl_val (os_len Try.underlying40 rfl) ?_
  refine vl_val (os_move rfl) ?_
  refine vl_val (os_len Try.underlying40 rfl) ?_
  refine vl_val (os_neq rfl rfl) ?_
  refine vl_nil ?_
  refine v_cond_d rfl (fun h => ?_) (fun h => ?_)
  · refine v_seq ?_
    refine v_region ?_
    refine vl_val (os_assign rfl) ?_
    refine vl_nil ?_
    refine v_ret ?_
    exact post_ret rfl rfl (⟨by rw [decide_eq_false]; intro he; subst he; omega, lee_d.refl _⟩)
  · refine v_skip ?_
    refine v_seq ?_
    refine v_seq ?_
    refine v_region ?_
    refine vl_val (os_assign rfl) ?_
    refine vl_nil ?_
    refine v_block ?_
    refine v_loop [(0, _), (1, _)] (fun (k : Nat) => [(5, .int .i64 k)]) (fun k w' => k ≤ n ∧ xs.take k = ys.take k ∧ LeD w w') (fun k => n - k) (0) ⟨rfl, rfl, trivial⟩ ⟨rfl, trivial⟩ (⟨by omega, rfl, lee_d.refl _⟩) ?_
    rintro k w' ⟨hk, htk, q, rfl⟩
    refine v_seq ?_
    refine v_seq ?_
    refine v_region ?_
    refine vl_val (os_move rfl) ?_
    refine vl_val (os_move rfl) ?_
    refine vl_val (os_len Try.underlying40 rfl) ?_
    refine vl_val (os_lss rfl rfl) ?_
    refine vl_nil ?_
    refine v_cond_d rfl (fun hlt => ?_) (fun hlt => ?_)
    · obtain ⟨b1, o1, rfl, c1⟩ := (ha.drewN q).at_ (i := k) (by omega)
      obtain ⟨b2, o2, rfl, c2⟩ := (hb.drewN q).at_ (i := k) (by omega)
      refine v_skip ?_
      refine v_seq ?_
      refine v_block ?_
      refine v_seq ?_
      refine v_region_t LeD _ mixed (by kernel_rfl) lee_d (led_start _) ?_
      refine vt_val (fun w hw => os_move rfl) ?_
      refine vt_val (fun w hw => os_move rfl) ?_
      refine vt_val (fun w hw => os_ix Try.underlying40 Try.sizeOf3 rfl rfl (i := k) (by omega) (by omega)) ?_
      refine vt_val (fun w hw => os_load Try.isAgg3 rfl (led_cell hw (c1))) ?_
      refine vt_val (fun w hw => os_move rfl) ?_
      refine vt_val (fun w hw => os_move rfl) ?_
      refine vt_val (fun w hw => os_ix Try.underlying40 Try.sizeOf3 rfl rfl (i := k) (by omega) (by omega)) ?_
      refine vt_val (fun w hw => os_load Try.isAgg3 rfl (led_cell hw (c2))) ?_
      refine vt_val (fun w hw => os_neq rfl rfl) ?_
      refine vt_nil (fun w hw => ?_)
      obtain ⟨q2, rfl⟩ := hw
      refine v_cond_d rfl (fun hne => ?_) (fun hne => ?_)
      · refine v_seq ?_
        refine v_region ?_
        refine vl_val (os_assign rfl) ?_
        refine vl_nil ?_
        refine v_ret ?_
        exact post_ret rfl rfl (⟨by rw [decide_eq_false]; intro he; subst he; exact hne rfl, _, World.drewN_drewN ..⟩)
      · refine v_skip ?_
        refine v_region ?_
        refine vl_val (os_move rfl) ?_
        refine vl_val (os_addi rfl rfl (by omega)) ?_
        refine vl_val (os_assign rfl) ?_
        refine vl_nil ?_
        exact ⟨k + 1, ⟨rfl, rfl, trivial⟩, ⟨rfl, trivial⟩, ⟨by omega, take_succ_eq (n := n) hn (by omega) (by omega) htk 0 (by simpa using hne), _, World.drewN_drewN ..⟩, by dsimp only; omega⟩
    · obtain rfl : k = n := by omega
      refine v_exit ?_
      refine v_seq ?_
      refine v_region ?_
      refine vl_val (os_assign rfl) ?_
      refine vl_nil ?_
      refine v_ret ?_
      exact post_ret rfl rfl (⟨by rw [decide_eq_true]; exact eq_of_take hn (by omega) htk, _, rfl⟩)

theorem kit_SameBytes (A B : Option Addr) (n m c d : Nat) (xs ys : List Int) (w : World) (ha : Rd w .u8 A xs) (hb : Rd w .u8 B ys) (hn : n = xs.length) (hm : m = ys.length)
   (hn' : n ≤ 9223372036854775807) (hm' : m ≤ 9223372036854775807) :
    Gives Try.prog 23 #[.slice A n c, .slice B m d] w fun v w' => v = .bool (decide (xs = ys)) ∧ LeD w w' := by
  refine gives_enter Try.call23 Try.func23 rfl rfl rfl (by kernel_rfl) ?_
  refine v_seq ?_
  refine v_region ?_
  refine vl_val (os_assign rfl) ?_
  refine vl_nil ?_
  refine v_seq ?_
  refine v_seq ?_
  refine v_region ?_
  refine vl_val (os_move rfl) ?_
  refine vl_val (os_len Try.underlying22 rfl) ?_
  refine vl_val (os_move rfl) ?_
  refine vl_val (os_len Try.underlying22 rfl) ?_
  refine vl_val (os_neq rfl rfl) ?_
  refine vl_nil ?_
  refine v_cond_d rfl (fun h => ?_) (fun h => ?_)
  · refine v_seq ?_
    refine v_region ?_
    refine vl_val (os_assign rfl) ?_
    refine vl_nil ?_
    refine v_ret ?_
    exact post_ret rfl rfl (⟨by rw [decide_eq_false]; intro he; subst he; omega, lee_d.refl _⟩)
  · refine v_skip ?_
    refine v_seq ?_
    refine v_seq ?_
    refine v_region ?_
    refine vl_val (os_assign rfl) ?_
    refine vl_nil ?_
    refine v_block ?_
    refine v_loop [(0, _), (1, _)] (fun (k : Nat) => [(5, .int .i64 k)]) (fun k w' => k ≤ n ∧ xs.take k = ys.take k ∧ LeD w w') (fun k => n - k) (0) ⟨rfl, rfl, trivial⟩ ⟨rfl, trivial⟩ (⟨by omega, rfl, lee_d.refl _⟩) ?_
    rintro k w' ⟨hk, htk, q, rfl⟩
    refine v_seq ?_
    refine v_seq ?_
    refine v_region ?_
    refine vl_val (os_move rfl) ?_
    refine vl_val (os_move rfl) ?_
    refine vl_val (os_len Try.underlying22 rfl) ?_
    refine vl_val (os_lss rfl rfl) ?_
    refine vl_nil ?_
    refine v_cond_d rfl (fun hlt => ?_) (fun hlt => ?_)
    · obtain ⟨b1, o1, rfl, c1⟩ := (ha.drewN q).at_ (i := k) (by omega)
      obtain ⟨b2, o2, rfl, c2⟩ := (hb.drewN q).at_ (i := k) (by omega)
      refine v_skip ?_
      refine v_seq ?_
      refine v_block ?_
      refine v_seq ?_
      refine v_region_t LeD _ mixed (by kernel_rfl) lee_d (led_start _) ?_
      refine vt_val (fun w hw => os_move rfl) ?_
      refine vt_val (fun w hw => os_move rfl) ?_
      refine vt_val (fun w hw => os_ix Try.underlying22 Try.sizeOf5 rfl rfl (i := k) (by omega) (by omega)) ?_
      refine vt_val (fun w hw => os_load Try.isAgg5 rfl (led_cell hw (c1))) ?_
      refine vt_val (fun w hw => os_move rfl) ?_
      refine vt_val (fun w hw => os_move rfl) ?_
      refine vt_val (fun w hw => os_ix Try.underlying22 Try.sizeOf5 rfl rfl (i := k) (by omega) (by omega)) ?_
      refine vt_val (fun w hw => os_load Try.isAgg5 rfl (led_cell hw (c2))) ?_
      refine vt_val (fun w hw => os_neq rfl rfl) ?_
      refine vt_nil (fun w hw => ?_)
      obtain ⟨q2, rfl⟩ := hw
      refine v_cond_d rfl (fun hne => ?_) (fun hne => ?_)
      · refine v_seq ?_
        refine v_region ?_
        refine vl_val (os_assign rfl) ?_
        refine vl_nil ?_
        refine v_ret ?_
        exact post_ret rfl rfl (⟨by rw [decide_eq_false]; intro he; subst he; exact hne rfl, _, World.drewN_drewN ..⟩)
      · refine v_skip ?_
        refine v_region ?_
        refine vl_val (os_move rfl) ?_
        refine vl_val (os_addi rfl rfl (by omega)) ?_
        refine vl_val (os_assign rfl) ?_
        refine vl_nil ?_
        exact ⟨k + 1, ⟨rfl, rfl, trivial⟩, ⟨rfl, trivial⟩, ⟨by omega, take_succ_eq (n := n) hn (by omega) (by omega) htk 0 (by simpa using hne), _, World.drewN_drewN ..⟩, by dsimp only; omega⟩
    · obtain rfl : k = n := by omega
      refine v_exit ?_
      refine v_seq ?_
      refine v_region ?_
      refine vl_val (os_assign rfl) ?_
      refine vl_nil ?_
      refine v_ret ?_
      exact post_ret rfl rfl (⟨by rw [decide_eq_true]; exact eq_of_take hn (by omega) htk, _, rfl⟩)

end Go.Proofs.Ytpojijnjdlnokaa

/- Layer 7: the document's sums, seals; the program's. -/
namespace Go.Proofs.Ytpojijnjdlnokaa
open Go.RowKit
set_option linter.unusedVariables false

theorem low1 (s : BitVec 32) : (((s &&& 1#32).toNat : Int) = 1) ↔ s.getLsbD 0 = true := by
  have h1 : (s &&& 1#32).toNat = s.toNat % 2 := by
    rw [BitVec.toNat_and]
    exact Nat.and_one_is_mod _
  rw [h1, BitVec.getLsbD, Nat.testBit_zero]
  simp only [decide_eq_true_eq]
  omega
theorem crcRun_step {s : BitVec 32} {zs : List Int} {k : Nat} (hk : k < zs.length) : crcRun s (zs.take (k + 1)) = crcRnds 8 (crcRun s (zs.take k) ^^^ BitVec.setWidth 32 (BitVec.ofInt 8 (zs.getD k 0))) := by
  rw [crcRun_take hk, crcStep_rnds]
theorem byte32 {z : Int} (h : 0 ≤ z ∧ z ≤ 255) : IntKind.u32.wrap z = ((BitVec.setWidth 32 (BitVec.ofInt 8 z)).toNat : Int) := by
  have h1 := u8_int h.1 h.2
  rw [BitVec.toNat_setWidth, Nat.mod_eq_of_lt (by have := (BitVec.ofInt 8 z).isLt; omega), h1, IntKind.wrap_u32]
  omega
set_option maxHeartbeats 1000000 in
theorem r7_Go (st : BitVec 32) (A : Option Addr) (n c : Nat) (zs : List Int) (w : World) (ha : Rd w .u8 A zs) (hn : n = zs.length) (hn' : n ≤ 9223372036854775806) (hz : AllB zs) :
    Gives Try.prog 132 #[.int .u32 (st.toNat : Int), .slice A n c] w fun v w' => v = .int .u32 ((crcGo st zs).toNat : Int) ∧ w' = w := by
  refine gives_enter Try.call132 Try.func132 rfl rfl rfl (by kernel_rfl) ?_
  refine v_seq ?_
  refine v_region ?_
  refine vl_val (os_assign rfl) ?_
  refine vl_nil ?_
  refine v_seq ?_
  refine v_region ?_
  refine vl_val (os_move rfl) ?_
  refine vl_val (os_com32 st rfl rfl) ?_
  refine vl_val (os_assign rfl) ?_
  refine vl_nil ?_
  refine v_seq ?_
  refine v_seq ?_
  refine v_region ?_
  refine vl_val (os_assign rfl) ?_
  refine vl_nil ?_
  refine v_block ?_
  refine v_loop [(1, _)] (fun (i : Nat) => [(5, .int .u32 ((crcRun (~~~ st) (zs.take i)).toNat : Int)), (6, .int .i64 i)]) (fun i w' => i ≤ n ∧ w' = w) (fun i => n - i) (0) ⟨rfl, trivial⟩ ⟨rfl, rfl, trivial⟩ (⟨by omega, rfl⟩) ?_
  rintro i w ⟨hi, rfl⟩
  refine v_seq ?_
  refine v_seq ?_
  refine v_region ?_
  refine vl_val (os_move rfl) ?_
  refine vl_val (os_move rfl) ?_
  refine vl_val (os_len Try.underlying22 rfl) ?_
  refine vl_val (os_lss rfl rfl) ?_
  refine vl_nil ?_
  refine v_cond_d rfl (fun h => ?_) (fun h => ?_)
  · obtain ⟨b, o, rfl, hc⟩ := ha.at_ (i := i) (by omega)
    have hnx := crcRun_step (s := ~~~ st) (zs := zs) (k := i) (by omega)
    refine v_skip ?_
    refine v_seq ?_
    refine v_block ?_
    refine v_seq ?_
    refine v_region ?_
    refine vl_val (os_move rfl) ?_
    refine vl_val (os_move rfl) ?_
    refine vl_val (os_move rfl) ?_
    refine vl_val (os_ix Try.underlying22 Try.sizeOf5 rfl rfl (i := i) (by omega) (by omega)) ?_
    refine vl_val (os_load Try.isAgg5 rfl (hc)) ?_
    refine vl_val (os_conv Try.underlying5 Try.underlying171 rfl (byte32 (hz.at_ i))) ?_
    refine vl_val (os_xor32 (crcRun (~~~ st) (zs.take i)) (BitVec.setWidth 32 (BitVec.ofInt 8 (zs.getD i 0))) rfl rfl rfl rfl) ?_
    obtain ⟨s, hs⟩ : ∃ s, s = crcRun (~~~ st) (zs.take i) ^^^ BitVec.setWidth 32 (BitVec.ofInt 8 (zs.getD i 0)) := ⟨_, rfl⟩
    rw [← hs] at hnx ⊢
    refine vl_val (os_assign rfl) ?_
    refine vl_nil ?_
    refine v_seq ?_
    refine v_region ?_
    refine vl_val (os_assign rfl) ?_
    refine vl_nil ?_
    refine v_block ?_
    refine v_loop [(1, _), (6, _)] (fun (k : Nat) => [(5, .int .u32 ((crcRnds k s).toNat : Int)), (7, .int .i64 k)]) (fun k w' => k ≤ 8 ∧ w' = w) (fun k => 8 - k) (0) ⟨rfl, rfl, trivial⟩ ⟨rfl, rfl, trivial⟩ (⟨by omega, rfl⟩) ?_
    rintro k w ⟨hk, rfl⟩
    refine v_seq ?_
    refine v_seq ?_
    refine v_region ?_
    refine vl_val (os_move rfl) ?_
    refine vl_val (os_lss rfl rfl) ?_
    refine vl_nil ?_
    refine v_cond_d rfl (fun hk8 => ?_) (fun hk8 => ?_)
    · refine v_skip ?_
      refine v_seq ?_
      refine v_block ?_
      refine v_seq ?_
      refine v_region ?_
      refine vl_val (os_move rfl) ?_
      refine vl_val (os_and32 (crcRnds k s) 1#32 rfl rfl rfl rfl) ?_
      refine vl_val (os_assign rfl) ?_
      refine vl_nil ?_
      refine v_seq ?_
      refine v_region ?_
      refine vl_val (os_move rfl) ?_
      refine vl_val (os_shr32 (crcRnds k s) 1 rfl rfl rfl rfl) ?_
      refine vl_val (os_assign rfl) ?_
      refine vl_nil ?_
      refine v_seq ?_
      refine v_region ?_
      refine vl_val (os_move rfl) ?_
      refine vl_val (os_eql rfl rfl) ?_
      refine vl_nil ?_
      refine v_cond_d rfl (fun hg => ?_) (fun hg => ?_)
      · have hb := (low1 (crcRnds k s)).1 hg
        have he : crcRnds (k + 1) s = crcRnds k s >>> 1 ^^^ crcPoly := by rw [show crcRnds (k + 1) s = crcRnd (crcRnds k s) from rfl, crcRnd_eq, if_pos hb]
        refine v_region ?_
        refine vl_val (os_move rfl) ?_
        refine vl_val (os_xor32 (crcRnds k s >>> 1) crcPoly rfl rfl rfl rfl) ?_
        refine vl_val (os_assign rfl) ?_
        refine vl_nil ?_
        refine v_region ?_
        refine vl_val (os_move rfl) ?_
        refine vl_val (os_addi rfl rfl (by omega)) ?_
        refine vl_val (os_assign rfl) ?_
        refine vl_nil ?_
        exact ⟨k + 1, ⟨rfl, rfl, trivial⟩, ⟨by rw [he]; rfl, rfl, trivial⟩, ⟨by omega, rfl⟩, by dsimp only; omega⟩
      · have hb : ¬ (crcRnds k s).getLsbD 0 = true := fun h => hg ((low1 (crcRnds k s)).2 h)
        have he : crcRnds (k + 1) s = crcRnds k s >>> 1 := by rw [show crcRnds (k + 1) s = crcRnd (crcRnds k s) from rfl, crcRnd_eq, if_neg hb]; simp
        refine v_skip ?_
        refine v_region ?_
        refine vl_val (os_move rfl) ?_
        refine vl_val (os_addi rfl rfl (by omega)) ?_
        refine vl_val (os_assign rfl) ?_
        refine vl_nil ?_
        exact ⟨k + 1, ⟨rfl, rfl, trivial⟩, ⟨by rw [he]; rfl, rfl, trivial⟩, ⟨by omega, rfl⟩, by dsimp only; omega⟩
    · obtain rfl : k = 8 := by omega
      refine v_exit ?_
      refine v_region ?_
      refine vl_val (os_move rfl) ?_
      refine vl_val (os_addi rfl rfl (by omega)) ?_
      refine vl_val (os_assign rfl) ?_
      refine vl_nil ?_
      exact ⟨i + 1, ⟨rfl, trivial⟩, ⟨by rw [hnx]; rfl, rfl, trivial⟩, ⟨by omega, rfl⟩, by dsimp only; omega⟩
  · refine v_exit ?_
    refine v_seq ?_
    refine v_region ?_
    refine vl_val (os_move rfl) ?_
    refine vl_val (os_com32 (crcRun (~~~ st) (zs.take i)) rfl rfl) ?_
    refine vl_val (os_assign rfl) ?_
    refine vl_nil ?_
    refine v_ret ?_
    exact post_ret rfl rfl (⟨by rw [List.take_of_length_le (by omega)]; rfl, rfl⟩)
theorem crcGo_chain (ls : List (List Int)) (k : Nat) (hk : k < ls.length) : crcGo (crcOf (ls.take k)) (ls.getD k []) = crcOf (ls.take (k + 1)) := by
  rw [List.take_succ_eq_append_getElem hk]
  unfold crcGo crcOf
  rw [List.foldl_append]
  simp [hk]
/-- a sum as bytes -/
def le4 (x : BitVec 32) : List Int := [((x.setWidth 8).toNat : Int), (((x >>> 8).setWidth 8).toNat : Int), (((x >>> 16).setWidth 8).toNat : Int), (((x >>> 24).setWidth 8).toNat : Int)]
theorem le4_B (x : BitVec 32) : AllB (le4 x) := fun z hz => by
  simp only [le4, List.mem_cons, List.not_mem_nil, or_false] at hz
  rcases hz with rfl | rfl | rfl | rfl
  · have := (x.setWidth 8).isLt; omega
  · have := ((x >>> 8).setWidth 8).isLt; omega
  · have := ((x >>> 16).setWidth 8).isLt; omega
  · have := ((x >>> 24).setWidth 8).isLt; omega
def sealL (zs : List Int) : List Int := zs ++ le4 (crcOf [zs])
theorem ints8 (zs : List Int) : ∀ u ∈ zs.map (Value.int .u8), u.oneCell' = true := by
  intro u hu; obtain ⟨z, _, rfl⟩ := List.mem_map.1 hu; rfl
theorem r7_Seal (A : Option Addr) (n c : Nat) (zs : List Int) (w : World) (ha : Rd w .u8 A zs) (hn : n = zs.length) (hn' : n ≤ 100000000) (hz : AllB zs) :
    Gives Try.prog 84 #[.slice A n c] w fun v w' => OwnK w' w.heap.size 5 .u8 v (sealL zs) ∧ Below w.heap.size w w' := by
  refine gives_enter Try.call84 Try.func84 rfl rfl rfl (by kernel_rfl) ?_
  refine v_seq ?_
  refine v_region ?_
  refine vl_val (os_assign rfl) ?_
  refine vl_nil ?_
  refine v_seq ?_
  refine v_region ?_
  refine vl_val (os_move rfl) ?_
  refine vl_call (r7_Go 0#32 A n c zs w ha hn (by omega) hz) rfl ?_
  rintro v1 w ⟨rfl, rfl⟩
  have s0 := own_alloc w [] 5 (Nat.le_refl w.heap.size) (by simp [maxLen])
  have s0b : Below w.heap.size w (w.alloc (.cells #[] 5)) := (Below.refl _ w).alloc (Nat.le_refl _) _
  refine vl_val (os_assign rfl) ?_
  refine vl_nil ?_
  refine v_seq ?_
  refine v_region ?_
  refine vl_val (os_lit Try.underlying22 Try.sizeOf5 Try.zeroValue5 rfl rfl rfl rfl (by decide)) ?_
  refine vl_val (os_move rfl) ?_
  refine vl_some (ot_append Try.underlying22 ti_u8 rfl rfl rfl s0 (ha.keep s0b).toC (by simp [hn]) (ints8 _) (by simp; omega) (by simp [maxLen]; omega) (by simp)) ?_
  rintro v2 w2 ⟨so, sg⟩
  have hb := s0.below s0b sg (Nat.le_refl _) (by simp)
  refine vl_val (os_move rfl) ?_
  refine vl_val (os_low8 (crcGo 0#32 zs) Try.underlying171 Try.underlying5 rfl rfl) ?_
  refine vl_val (os_move rfl) ?_
  refine vl_val (os_shr32 (crcGo 0#32 zs) 8 rfl rfl rfl rfl) ?_
  refine vl_val (os_low8 (crcGo 0#32 zs >>> 8) Try.underlying171 Try.underlying5 rfl rfl) ?_
  refine vl_val (os_move rfl) ?_
  refine vl_val (os_shr32 (crcGo 0#32 zs) 16 rfl rfl rfl rfl) ?_
  refine vl_val (os_low8 (crcGo 0#32 zs >>> 16) Try.underlying171 Try.underlying5 rfl rfl) ?_
  refine vl_val (os_move rfl) ?_
  refine vl_val (os_shr32 (crcGo 0#32 zs) 24 rfl rfl rfl rfl) ?_
  refine vl_val (os_low8 (crcGo 0#32 zs >>> 24) Try.underlying171 Try.underlying5 rfl rfl) ?_
  have so2 := Own.alloc so (.cells ((le4 (crcGo 0#32 zs)).map (Value.int .u8)).toArray 5)
  have hb2 := hb.alloc hb.size (.cells ((le4 (crcGo 0#32 zs)).map (Value.int .u8)).toArray 5)
  refine vl_val (os_lit Try.underlying22 Try.sizeOf5 Try.zeroValue5 rfl rfl rfl rfl (by decide)) ?_
  refine vl_some (ot_append Try.underlying22 ti_u8 rfl rfl rfl so2 (rd_alloc w2 .u8 (le4 (crcGo 0#32 zs)) 5).toC rfl (ints8 _) (by simp; omega) (by simp [maxLen]; omega) hb2.size) ?_
  rintro v3 w3 ⟨so3, sg3⟩
  refine vl_val (os_assign rfl) ?_
  refine vl_nil ?_
  refine v_ret ?_
  exact post_ret rfl rfl (⟨by rw [show sealL zs = zs ++ le4 (crcGo 0#32 zs) from rfl]; unfold OwnK; rw [List.map_append]; simpa using so3, Own.below hb2 so2 sg3 (Nat.le_refl _) hb2.size⟩)
end Go.Proofs.Ytpojijnjdlnokaa

/- Bytes as texts. No program in sight. -/
namespace Go.Proofs.Ytpojijnjdlnokaa
open Go.RowKit
set_option linter.unusedVariables false

/-! ### bytes as texts, which of two is less -/
section
variable {P : Program} {n : Cx} {fr : Fr} {w : World} {ty : TypeId} {x y z : Operand} {T T2 e : TypeId}
theorem os_string {A : Option Addr} {l c : Nat} {zs : List Int} (hs : P.underlying T = some (.slice e)) (he : P.underlying e = some (.int .u8)) (hd : P.underlying T2 = some .string) (hx : Fr.ev fr x = some (.slice A l c)) (hr : Rd w .u8 A zs) (hl : zs.length = l) (h0 : 0 < l) :
    OS P n (.convert T T2 x) ty fr w (.string (strOfNums zs)) w := os_of fun a ha => by
  obtain ⟨b, o, rfl, hc⟩ := hr (by omega)
  have := run_convert_bytes_arg (P := P) w T e hs he b o l c zs hl (fun i hi => hc i (by omega)) T2 hd
  simp [execOp, ha.ev hx, this]
theorem os_lss_string {a b : ByteArray} (hx : Fr.ev fr x = some (.string a)) (hy : Fr.ev fr y = some (.string b)) : OS P n (.binOp .lss T x y T2) ty fr w (.bool (Op.bytesLess a.toList b.toList)) w := os_of fun a ha => by
  simp [execOp, ha.ev hx, ha.ev hy, eqGuard, binOp, Op.stringOp]
theorem os_neq_string {a b : ByteArray} (hx : Fr.ev fr x = some (.string a)) (hy : Fr.ev fr y = some (.string b)) : OS P n (.binOp .neq T x y T2) ty fr w (.bool (!(a.toList == b.toList))) w := os_of fun a ha => by
  simp [execOp, ha.ev hx, ha.ev hy, eqGuard, binOp, Op.stringOp]
end
theorem str_eq : ∀ (xs ys : List Int), (∀ z ∈ xs, 0 ≤ z ∧ z ≤ 255) → (∀ z ∈ ys, 0 ≤ z ∧ z ≤ 255) → ((xs.map fun n => UInt8.ofNat n.toNat) == (ys.map fun n => UInt8.ofNat n.toNat)) = decide (xs = ys)
  | [], [], _, _ => rfl
  | [], y :: ys, _, _ => rfl
  | x :: xs, [], _, _ => rfl
  | x :: xs, y :: ys, hx, hy => by
    have ih := str_eq xs ys (fun z hz => hx z (by simp [hz])) (fun z hz => hy z (by simp [hz]))
    have h1 := hx x (by simp)
    have h2 := hy y (by simp)
    have t8 : ∀ z : Int, 0 ≤ z ∧ z ≤ 255 → (UInt8.ofNat z.toNat).toNat = z.toNat := fun z hz => UInt8.toNat_ofNat_of_lt (by show z.toNat < 256; omega)
    have e2 : (UInt8.ofNat x.toNat == UInt8.ofNat y.toNat) = decide (x = y) := by
      rw [Bool.eq_iff_iff, beq_iff_eq, decide_eq_true_iff, ← UInt8.toNat_inj, t8 x h1, t8 y h2]; omega
    simp only [List.map_cons, List.cons_beq_cons, e2, ih, List.cons.injEq]
    rw [Bool.decide_and]
end Go.Proofs.Ytpojijnjdlnokaa

/- Layer 7: what is sealed, opened. -/
namespace Go.Proofs.Ytpojijnjdlnokaa
open Go.RowKit
set_option linter.unusedVariables false

def openE (zs : List Int) : Int := if zs.length < 4 then 4 else if sealL (zs.take (zs.length - 4)) = zs then 0 else 10
def openV (zs : List Int) : List Int := if openE zs = 0 then zs.take (zs.length - 4) else []
theorem sealL_len (zs : List Int) : (sealL zs).length = zs.length + 4 := by simp [sealL, le4]
theorem sealL_B {zs : List Int} (h : AllB zs) : AllB (sealL zs) := fun z hz => by
  rcases List.mem_append.1 hz with h1 | h1
  · exact h z h1
  · exact le4_B _ z h1
theorem AllB.take {zs : List Int} (h : AllB zs) (n : Nat) : AllB (zs.take n) := fun z hz => h z (List.mem_of_mem_take hz)
theorem AllB.drop {zs : List Int} (h : AllB zs) (n : Nat) : AllB (zs.drop n) := fun z hz => h z (List.mem_of_mem_drop hz)
theorem seal_iff (zs : List Int) (n : Nat) : (le4 (crcOf [zs.take n]) = zs.drop n) ↔ sealL (zs.take n) = zs := by
  unfold sealL
  constructor
  · intro h; rw [h, List.take_append_drop]
  · intro h
    have h2 : zs.take n ++ le4 (crcOf [zs.take n]) = zs.take n ++ zs.drop n := by rw [h, List.take_append_drop]
    exact List.append_cancel_left h2
set_option maxHeartbeats 1000000 in
theorem r7_Open (A : Option Addr) (n c : Nat) (zs : List Int) (w : World) (ha : Rd w .u8 A zs) (hn : n = zs.length) (hc : n ≤ c) (hn' : n ≤ 100000000) (hz : AllB zs) :
    Gives Try.prog 140 #[.slice A n c] w fun v w' => ∃ s, v = .tuple #[s, .int .i64 (openE zs)] ∧ OwnK w' w.heap.size 5 .u8 s (openV zs) ∧ Below w.heap.size w w' := by
  refine gives_enter Try.call140 Try.func140 rfl rfl rfl (by kernel_rfl) ?_
  rcases Nat.lt_or_ge n 4 with h | h
  · refine v_seq ?_
    refine v_region ?_
    refine vl_val (os_assign rfl) ?_
    refine vl_val (os_assign rfl) ?_
    refine vl_nil ?_
    refine v_seq ?_
    refine v_region ?_
    refine vl_val (os_move rfl) ?_
    refine vl_val (os_len Try.underlying22 rfl) ?_
    refine vl_val (os_subi rfl rfl (by omega)) ?_
    refine vl_val (os_assign rfl) ?_
    refine vl_nil ?_
    refine v_seq ?_
    refine v_seq ?_
    refine v_region ?_
    refine vl_val (os_move rfl) ?_
    refine vl_val (os_lss rfl rfl) ?_
    refine vl_nil ?_
    refine v_cond_yes rfl (by omega) ?_
    have e1 : openE zs = 4 := by unfold openE; rw [if_pos (by omega)]
    refine v_seq ?_
    refine v_region ?_
    refine vl_val (os_assign rfl) ?_
    refine vl_val (os_assign rfl) ?_
    refine vl_nil ?_
    refine v_ret ?_
    exact post_ret2 rfl rfl rfl (⟨_, by rw [e1], by unfold openV; rw [e1]; exact Own.nil _ _ _, Below.refl _ _⟩)
  · refine v_seq ?_
    refine v_region ?_
    refine vl_val (os_assign rfl) ?_
    refine vl_val (os_assign rfl) ?_
    refine vl_nil ?_
    refine v_seq ?_
    refine v_region ?_
    refine vl_val (os_move rfl) ?_
    refine vl_val (os_len Try.underlying22 rfl) ?_
    refine vl_val (os_subi rfl rfl (by omega)) ?_
    refine vl_val (os_assign rfl) ?_
    refine vl_nil ?_
    refine v_seq ?_
    refine v_seq ?_
    refine v_region ?_
    refine vl_val (os_move rfl) ?_
    refine vl_val (os_lss rfl rfl) ?_
    refine vl_nil ?_
    refine v_cond_no rfl (by omega) ?_
    obtain ⟨m, hm⟩ : ∃ m, n = m + 4 := ⟨n - 4, by omega⟩
    have e0 : openE zs = if sealL (zs.take m) = zs then 0 else 10 := by unfold openE; rw [if_neg (by omega), show zs.length - 4 = m by omega]
    have hneq : (!((strOfNums (sealL (zs.take m))).toList == (strOfNums zs).toList)) = decide (sealL (zs.take m) ≠ zs) := by
      rw [ByteArray.toList_eq, ByteArray.toList_eq, strOfNums_data, strOfNums_data, str_eq _ _ (sealL_B (hz.take m)) hz, ← decide_not]
    refine v_skip ?_
    refine v_seq ?_
    refine v_seq ?_
    refine v_region_a mixed ?_
    refine va_pure 0 rfl (by kernel_rfl) (by kernel_rfl) (by kernel_rfl) (fun w => (os_move rfl)) ?_
    refine va_pure 1 rfl (by kernel_rfl) (by kernel_rfl) (by kernel_rfl) (fun w => (os_move rfl)) ?_
    refine va_pure 2 rfl (by kernel_rfl) (by kernel_rfl) (by kernel_rfl) (fun w => (os_slice_h Try.underlying22 Try.sizeOf5 rfl rfl (h := m) (by omega) (by omega))) ?_
    refine va_pure 5 rfl (by kernel_rfl) (by kernel_rfl) (by kernel_rfl) (fun w => (os_move rfl)) ?_
    refine va_two 3 6 (by kernel_rfl) ?_ ?_
    · refine vn_call rfl (r7_Seal A m c (zs.take m) _ ((ha.led ⟨1, rfl⟩).take m) (by rw [List.length_take]; omega) (by omega) (hz.take m)) rfl ?_
      rintro v1 w1 ⟨ho, hb⟩
      obtain ⟨A1, c1, rfl, _, _, r1, _⟩ := OwnK.form ho
      have hb1 : Below w.heap.size w w1 := (led_below (w := w) ⟨1, rfl⟩).trans hb
      refine va_two 4 6 (by kernel_rfl) ?_ ?_
      · refine vn_val rfl (os_string Try.underlying22 Try.underlying5 Try.underlying9 rfl r1 rfl (by rw [sealL_len]; omega)) ?_
        refine va_one 6 (by kernel_rfl) ?_
        refine vn_val rfl (os_string Try.underlying22 Try.underlying5 Try.underlying9 rfl (by first | exact ha.keep hb1 | exact ha.led ⟨1, rfl⟩) hn.symm (by omega)) ?_
        refine va_pure 7 rfl (by kernel_rfl) (by kernel_rfl) (by kernel_rfl) (fun w => (os_is (os_neq_string rfl rfl) hneq)) ?_
        refine va_done (by kernel_rfl) ?_
        refine v_cond_d rfl (fun hs => ?_) (fun hs => ?_)
        · have e1 : openE zs = 10 := by rw [e0, if_neg hs]
          refine v_seq ?_
          refine v_region ?_
          refine vl_val (os_assign rfl) ?_
          refine vl_val (os_assign rfl) ?_
          refine vl_nil ?_
          refine v_ret ?_
          exact post_ret2 rfl rfl rfl (⟨_, by rw [e1], by unfold openV; rw [e1]; exact Own.nil _ _ _, hb1⟩)
        · have e1 : openE zs = 0 := by rw [e0, if_pos (by simpa using hs)]
          have e2 : openV zs = zs.take m := by unfold openV; rw [if_pos e1, show zs.length - 4 = m by omega]
          have s0 := own_alloc w1 [] 5 (Nat.le_refl w1.heap.size) (by simp [maxLen])
          have s0b : Below w1.heap.size w1 (w1.alloc (.cells #[] 5)) := (Below.refl _ w1).alloc (Nat.le_refl _) _
          refine v_skip ?_
          refine v_seq ?_
          refine v_region ?_
          refine vl_val (os_lit Try.underlying22 Try.sizeOf5 Try.zeroValue5 rfl rfl rfl rfl (by decide)) ?_
          refine vl_val (os_move rfl) ?_
          refine vl_val (os_move rfl) ?_
          refine vl_val (os_slice_h Try.underlying22 Try.sizeOf5 rfl rfl (h := m) (by omega) (by omega)) ?_
          refine vl_some (ot_append Try.underlying22 ti_u8 rfl rfl rfl s0 (((ha.keep hb1).take m).keep s0b).toC (by simp; omega) (ints8 _) (by simp; omega) (by simp [maxLen]; omega) (by simp)) ?_
          rintro v6 w6 ⟨so, sg⟩
          refine vl_val (os_assign rfl) ?_
          refine vl_val (os_assign rfl) ?_
          refine vl_nil ?_
          refine v_ret ?_
          exact post_ret2 rfl rfl rfl (⟨_, by rw [e1], by rw [e2]; exact Own.mono (by simpa [OwnK] using so) hb1.size, hb1.trans ((s0.below s0b sg (Nat.le_refl _) (by simp)).mono hb1.size)⟩)
      · refine vn_val rfl (os_string Try.underlying22 Try.underlying5 Try.underlying9 rfl (by first | exact ha.keep hb1 | exact ha.led ⟨1, rfl⟩) hn.symm (by omega)) ?_
        refine va_one 4 (by kernel_rfl) ?_
        refine vn_val rfl (os_string Try.underlying22 Try.underlying5 Try.underlying9 rfl r1 rfl (by rw [sealL_len]; omega)) ?_
        refine va_pure 7 rfl (by kernel_rfl) (by kernel_rfl) (by kernel_rfl) (fun w => (os_is (os_neq_string rfl rfl) hneq)) ?_
        refine va_done (by kernel_rfl) ?_
        refine v_cond_d rfl (fun hs => ?_) (fun hs => ?_)
        · have e1 : openE zs = 10 := by rw [e0, if_neg hs]
          refine v_seq ?_
          refine v_region ?_
          refine vl_val (os_assign rfl) ?_
          refine vl_val (os_assign rfl) ?_
          refine vl_nil ?_
          refine v_ret ?_
          exact post_ret2 rfl rfl rfl (⟨_, by rw [e1], by unfold openV; rw [e1]; exact Own.nil _ _ _, hb1⟩)
        · have e1 : openE zs = 0 := by rw [e0, if_pos (by simpa using hs)]
          have e2 : openV zs = zs.take m := by unfold openV; rw [if_pos e1, show zs.length - 4 = m by omega]
          have s0 := own_alloc w1 [] 5 (Nat.le_refl w1.heap.size) (by simp [maxLen])
          have s0b : Below w1.heap.size w1 (w1.alloc (.cells #[] 5)) := (Below.refl _ w1).alloc (Nat.le_refl _) _
          refine v_skip ?_
          refine v_seq ?_
          refine v_region ?_
          refine vl_val (os_lit Try.underlying22 Try.sizeOf5 Try.zeroValue5 rfl rfl rfl rfl (by decide)) ?_
          refine vl_val (os_move rfl) ?_
          refine vl_val (os_move rfl) ?_
          refine vl_val (os_slice_h Try.underlying22 Try.sizeOf5 rfl rfl (h := m) (by omega) (by omega)) ?_
          refine vl_some (ot_append Try.underlying22 ti_u8 rfl rfl rfl s0 (((ha.keep hb1).take m).keep s0b).toC (by simp; omega) (ints8 _) (by simp; omega) (by simp [maxLen]; omega) (by simp)) ?_
          rintro v6 w6 ⟨so, sg⟩
          refine vl_val (os_assign rfl) ?_
          refine vl_val (os_assign rfl) ?_
          refine vl_nil ?_
          refine v_ret ?_
          exact post_ret2 rfl rfl rfl (⟨_, by rw [e1], by rw [e2]; exact Own.mono (by simpa [OwnK] using so) hb1.size, hb1.trans ((s0.below s0b sg (Nat.le_refl _) (by simp)).mono hb1.size)⟩)
    · refine vn_val rfl (os_string Try.underlying22 Try.underlying5 Try.underlying9 rfl (by first | exact ha.keep hb1 | exact ha.led ⟨1, rfl⟩) hn.symm (by omega)) ?_
      refine va_one 3 (by kernel_rfl) ?_
      refine vn_call rfl (r7_Seal A m c (zs.take m) _ ((ha.led ⟨1, rfl⟩).take m) (by rw [List.length_take]; omega) (by omega) (hz.take m)) rfl ?_
      rintro v1 w1 ⟨ho, hb⟩
      obtain ⟨A1, c1, rfl, _, _, r1, _⟩ := OwnK.form ho
      have hb1 : Below w.heap.size w w1 := (led_below (w := w) ⟨1, rfl⟩).trans hb
      refine va_one 4 (by kernel_rfl) ?_
      refine vn_val rfl (os_string Try.underlying22 Try.underlying5 Try.underlying9 rfl r1 rfl (by rw [sealL_len]; omega)) ?_
      refine va_pure 7 rfl (by kernel_rfl) (by kernel_rfl) (by kernel_rfl) (fun w => (os_is (os_neq_string rfl rfl) hneq)) ?_
      refine va_done (by kernel_rfl) ?_
      refine v_cond_d rfl (fun hs => ?_) (fun hs => ?_)
      · have e1 : openE zs = 10 := by rw [e0, if_neg hs]
        refine v_seq ?_
        refine v_region ?_
        refine vl_val (os_assign rfl) ?_
        refine vl_val (os_assign rfl) ?_
        refine vl_nil ?_
        refine v_ret ?_
        exact post_ret2 rfl rfl rfl (⟨_, by rw [e1], by unfold openV; rw [e1]; exact Own.nil _ _ _, hb1⟩)
      · have e1 : openE zs = 0 := by rw [e0, if_pos (by simpa using hs)]
        have e2 : openV zs = zs.take m := by unfold openV; rw [if_pos e1, show zs.length - 4 = m by omega]
        have s0 := own_alloc w1 [] 5 (Nat.le_refl w1.heap.size) (by simp [maxLen])
        have s0b : Below w1.heap.size w1 (w1.alloc (.cells #[] 5)) := (Below.refl _ w1).alloc (Nat.le_refl _) _
        refine v_skip ?_
        refine v_seq ?_
        refine v_region ?_
        refine vl_val (os_lit Try.underlying22 Try.sizeOf5 Try.zeroValue5 rfl rfl rfl rfl (by decide)) ?_
        refine vl_val (os_move rfl) ?_
        refine vl_val (os_move rfl) ?_
        refine vl_val (os_slice_h Try.underlying22 Try.sizeOf5 rfl rfl (h := m) (by omega) (by omega)) ?_
        refine vl_some (ot_append Try.underlying22 ti_u8 rfl rfl rfl s0 (((ha.keep hb1).take m).keep s0b).toC (by simp; omega) (ints8 _) (by simp; omega) (by simp [maxLen]; omega) (by simp)) ?_
        rintro v6 w6 ⟨so, sg⟩
        refine vl_val (os_assign rfl) ?_
        refine vl_val (os_assign rfl) ?_
        refine vl_nil ?_
        refine v_ret ?_
        exact post_ret2 rfl rfl rfl (⟨_, by rw [e1], by rw [e2]; exact Own.mono (by simpa [OwnK] using so) hb1.size, hb1.trans ((s0.below s0b sg (Nat.le_refl _) (by simp)).mono hb1.size)⟩)
def mixP (x : BitVec 32) (k : Nat) : List Int := (le4 x).take k ++ List.replicate (4 - k) 0
theorem mixP_set (x : BitVec 32) {k : Nat} (hk : k < 4) : (mixP x k).set k (((x >>> (8 * k)).setWidth 8).toNat : Int) = mixP x (k + 1) := by
  rcases (by omega : k = 0 ∨ k = 1 ∨ k = 2 ∨ k = 3) with rfl | rfl | rfl | rfl <;> simp [mixP, le4, List.replicate]
theorem mixP_len (x : BitVec 32) {k : Nat} (hk : k ≤ 4) : (mixP x k).length = 4 := by simp [mixP, le4]; omega
theorem sum_put (x : BitVec 32) (w : World) : Gives Try.prog 162 #[.int .u32 (x.toNat : Int)] w fun v w' => (∃ g, v = .slice (some ⟨g, 0, none⟩) 4 4) ∧ OwnK w' w.heap.size 5 .u8 v (le4 x) ∧ Below w.heap.size w w' := by
  refine gives_enter Try.call162 Try.func162 rfl rfl rfl (by kernel_rfl) ?_
  refine v_seq ?_
  refine v_region ?_
  refine vl_val (os_assign rfl) ?_
  refine vl_nil ?_
  refine v_seq ?_
  refine v_region ?_
  refine vl_some (ot_make (l := 4) Try.underlying22 ti_u8 rfl rfl rfl rfl rfl (by omega) (by simp [maxLen]) w.heap.size (Nat.le_refl _)) ?_
  rintro v1 w1 ⟨rfl, o1, g1⟩
  have b1 : Below w.heap.size w w1 := (Below.refl _ _).grown g1 (Nat.le_refl _) (fun k hk => by cases hk)
  obtain ⟨g, hg⟩ : ∃ g, g = w.heap.size := ⟨_, rfl⟩
  rw [← hg] at o1 ⊢
  refine vl_val (os_assign rfl) ?_
  refine vl_nil ?_
  refine v_seq ?_
  refine v_seq ?_
  refine v_region ?_
  refine vl_val (os_move rfl) ?_
  refine vl_nil ?_
  refine v_block ?_
  refine v_loop [(0, _), (3, _)] (fun (k : Nat) => [(6, .int .i64 k)]) (fun k w' => k ≤ 4 ∧ OwnK w' g 5 .u8 (.slice (some ⟨g, 0, none⟩) 4 4) (mixP x k) ∧ Below g w w') (fun k => 4 - k) (0) ⟨rfl, rfl, trivial⟩ ⟨rfl, trivial⟩ (⟨by omega, by unfold OwnK; simpa [mixP] using o1, hg ▸ b1⟩) ?_
  rintro k w' ⟨hk, ho, hb⟩
  refine v_seq ?_
  refine v_region ?_
  refine vl_val (os_lss rfl rfl) ?_
  refine vl_nil ?_
  refine v_seq ?_
  refine v_cond_d rfl (fun h => ?_) (fun h => ?_)
  · refine v_skip ?_
    refine v_seq ?_
    refine v_block ?_
    refine v_seq ?_
    refine v_region ?_
    refine vl_val (os_move rfl) ?_
    refine vl_val (os_assign rfl) ?_
    refine vl_nil ?_
    refine v_region ?_
    refine vl_val (os_move rfl) ?_
    refine vl_val (os_move rfl) ?_
    refine vl_val (os_move rfl) ?_
    refine vl_val (os_move rfl) ?_
    refine vl_val (os_muli rfl rfl (by omega)) ?_
    refine vl_val (os_shr32 x (8 * k) rfl rfl rfl (by simp)) ?_
    refine vl_val (os_low8 (x >>> (8 * k)) Try.underlying171 Try.underlying5 rfl rfl) ?_
    refine vl_val (os_ix Try.underlying22 Try.sizeOf5 rfl rfl (i := k) (by omega) (by omega)) ?_
    refine vl_unit (ou_store Try.sizeOf5 rfl rfl rfl ((OwnK.cell ho (by rw [mixP_len x (by omega)]; omega))) ((Own.free ho _))) ?_
    refine vl_nil ?_
    refine v_region ?_
    refine vl_val (os_addi rfl rfl (by omega)) ?_
    refine vl_val (os_move rfl) ?_
    refine vl_nil ?_
    exact ⟨k + 1, ⟨rfl, rfl, trivial⟩, ⟨rfl, trivial⟩, ⟨by omega, by rw [Nat.zero_add, ← mixP_set x (by omega)]; exact OwnK.set ho k _, below_set hb (Nat.le_refl _) _ _⟩, by dsimp only; omega⟩
  · obtain rfl : k = 4 := by omega
    refine v_exit ?_
    refine v_seq ?_
    refine v_region ?_
    refine vl_val (os_move rfl) ?_
    refine vl_val (os_assign rfl) ?_
    refine vl_nil ?_
    refine v_ret ?_
    exact post_ret rfl rfl (⟨⟨g, rfl⟩, by rw [show mixP x 4 = le4 x by simp [mixP, le4]] at ho; exact hg ▸ ho, hg ▸ hb⟩)
end Go.Proofs.Ytpojijnjdlnokaa
