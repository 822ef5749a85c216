/- Texts joined: KitL Ls Rg. -/
import Derived.Test.YtpojijnjdlnokaaM5
import Derived.RangeFuncIn
import Derived.RangeFuncOwn
/- The law's kit: lists that are lent, with marks behind their ends; whether they, and the marks, are still as they were. -/
namespace Go.Proofs.Ytpojijnjdlnokaa
open Go.RowKit
set_option linter.unusedVariables false

def markZ (k i : Int) : Int := 1000003 * (k + 7) + i
def markB (k i : Int) : Int := IntKind.u8.wrap ((IntKind.u64.wrap (IntKind.u64.wrap (markZ k i) * 11400714819323198485)).fdiv (2 ^ min (56 : Int).toNat IntKind.u64.bits))

theorem kit_mark (k i : Int) (w : World) (hk : 0 ≤ k ∧ k ≤ 1000000000) (hi : 0 ≤ i ∧ i ≤ 1000000000000000) : Gives Try.prog 57 #[.int .i64 k, .int .i64 i] w fun v w' => v = .int .i64 (markZ k i) ∧ w' = w := by
  refine gives_enter Try.call57 Try.func57 rfl rfl rfl (by kernel_rfl) ?_
  refine v_seq ?_
  refine v_region ?_
  refine vl_val (os_assign rfl) ?_
  refine vl_nil ?_
  refine v_seq ?_
  refine v_region ?_
  refine vl_val (os_move rfl) ?_
  refine vl_val (os_addi rfl rfl (by omega)) ?_
  refine vl_val (os_muli rfl rfl (by omega)) ?_
  refine vl_val (os_move rfl) ?_
  refine vl_val (os_addi rfl rfl (by omega)) ?_
  refine vl_val (os_assign rfl) ?_
  refine vl_nil ?_
  refine v_ret ?_
  exact post_ret rfl rfl (⟨rfl, rfl⟩)
theorem kit_markByte (k i : Int) (w : World) (hk : 0 ≤ k ∧ k ≤ 1000000000) (hi : 0 ≤ i ∧ i ≤ 1000000000000000) : Gives Try.prog 51 #[.int .i64 k, .int .i64 i] w fun v w' => v = .int .u8 (markB k i) ∧ w' = w := by
  refine gives_enter Try.call51 Try.func51 rfl rfl rfl (by kernel_rfl) ?_
  refine v_seq ?_
  refine v_region ?_
  refine vl_val (os_assign rfl) ?_
  refine vl_nil ?_
  refine v_seq ?_
  refine v_region ?_
  refine vl_val (os_move rfl) ?_
  refine vl_val (os_move rfl) ?_
  refine vl_call (kit_mark k i w hk hi) rfl ?_
  rintro v w ⟨rfl, rfl⟩
  refine vl_val (os_conv Try.underlying3 Try.underlying132 rfl (rfl)) ?_
  refine vl_val (os_mul rfl rfl (rfl)) ?_
  refine vl_val (os_shr rfl rfl (by omega) (rfl)) ?_
  refine vl_val (os_conv Try.underlying132 Try.underlying5 rfl (rfl)) ?_
  refine vl_val (os_assign rfl) ?_
  refine vl_nil ?_
  refine v_ret ?_
  exact post_ret rfl rfl (⟨rfl, rfl⟩)

def marks (f : Int → Int → Int) (n : Nat) : List Int := (List.range n).map fun (i : Nat) => f 1 (i : Int)
theorem marks_len (f : Int → Int → Int) (n : Nat) : (marks f n).length = n := by simp [marks]
theorem marks_succ (f : Int → Int → Int) (n : Nat) : marks f (n + 1) = marks f n ++ [f 1 n] := by simp [marks, List.range_succ]
theorem marks_at (f : Int → Int → Int) {n i : Nat} (hi : i < n) : (marks f n).getD i 0 = f 1 i := by simp [marks, hi]
/-- v is a list that the kit has lent: a row of its own that holds zs, and the marks behind -/
def Lent (w : World) (B : Nat) (t : TypeId) (k : IntKind) (f : Int → Int → Int) (v : Value) (zs : List Int) : Prop :=
  ∃ g C, v = .slice (some ⟨g, 0, none⟩) zs.length C ∧ zs.length + 12 ≤ C ∧ OwnK w B t k (.slice (some ⟨g, 0, none⟩) (zs ++ marks f 12).length C) (zs ++ marks f 12)
theorem Lent.keep {w w' B t k f v zs} (h : Lent w B t k f v zs) (hb : Below w.heap.size w w') : Lent w' B t k f v zs := by
  obtain ⟨g, C, e, hc, ho⟩ := h
  exact ⟨g, C, e, hc, Own.keepAll ho hb⟩
theorem Lent.form {w B t k f v zs} (h : Lent w B t k f v zs) : ∃ g C, v = .slice (some ⟨g, 0, none⟩) zs.length C ∧ zs.length + 12 ≤ C ∧ C ≤ maxLen ∧ B ≤ g ∧ g < w.heap.size ∧ Rd w k (some ⟨g, 0, none⟩) zs := by
  obtain ⟨g, C, e, hc, ho⟩ := h
  have h1 := World.ownsRow.lt ho g rfl
  have h2 := (OwnK.rd ho).take zs.length
  rw [List.take_left] at h2
  obtain ⟨g', c', e', _, _, _, hm⟩ := ho.row (by rw [List.length_append, marks_len]; omega)
  cases e'
  exact ⟨g, C, e, hc, hm, h1.1, h1.2, h2⟩
theorem ints_one (k : IntKind) (zs : List Int) : ∀ u ∈ zs.map (Value.int k), u.oneCell' = true := by
  intro u hu
  obtain ⟨z, _, rfl⟩ := List.mem_map.1 hu
  rfl

set_option maxHeartbeats 1000000 in
theorem kit_LentInts (A : Option Addr) (n c : Nat) (zs : List Int) (w : World) (ha : Rd w .i64 A zs) (hn : n = zs.length) (hb : (n + 12) * 8 ≤ 140737488355328) : Gives Try.prog 28 #[.slice A n c] w fun v w' => Lent w' w.heap.size 3 .i64 markZ v zs ∧ Below w.heap.size w w' := by
  refine gives_enter Try.call28 Try.func28 rfl rfl rfl (by kernel_rfl) ?_
  refine v_seq ?_
  refine v_region ?_
  refine vl_val (os_assign rfl) ?_
  refine vl_nil ?_
  refine v_seq ?_
  refine v_region ?_
  refine vl_val (os_move rfl) ?_
  refine vl_val (os_len Try.underlying40 rfl) ?_
  refine vl_val (os_addi rfl rfl (by omega)) ?_
  refine vl_some (ot_make0 (l := n + 12) Try.underlying40 ti_int rfl rfl rfl rfl (by omega) (by simp [maxLen]; omega) w.heap.size (Nat.le_refl _)) ?_
  rintro v1 w1 ⟨rfl, ho, hg⟩
  have hb1 : Below w.heap.size w w1 := (Below.refl _ _).grown hg (Nat.le_refl _) (fun k hk => by cases hk)
  refine vl_val (os_assign rfl) ?_
  refine vl_nil ?_
  refine v_seq ?_
  refine v_region ?_
  refine vl_val (os_move rfl) ?_
  refine vl_val (os_move rfl) ?_
  refine vl_some (ot_append Try.underlying40 ti_int rfl rfl rfl ho (ha.keep hb1).toC (by simp [hn]) (ints_one _ _) (by simp; omega) (by simp [maxLen]; omega) hb1.size) ?_
  rintro v2 w2 ⟨ho2, hg2⟩
  have hb2 := Own.below hb1 ho hg2 (Nat.le_refl _) hb1.size
  refine vl_val (os_assign rfl) ?_
  refine vl_nil ?_
  refine v_seq ?_
  refine v_seq ?_
  refine v_region ?_
  refine vl_val (os_assign rfl) ?_
  refine vl_nil ?_
  refine v_block ?_
  refine v_loop2 [(0, _)] (fun (v : Value) (i : Nat) => [(3, v), (4, .int .i64 i)]) (fun v i w' => i ≤ 12 ∧ OwnK w' w.heap.size 3 .i64 v (zs ++ marks markZ i) ∧ Below w.heap.size w w') (fun v i => 12 - i) (v2) (0) ⟨rfl, trivial⟩ ⟨rfl, rfl, trivial⟩ (⟨by omega, by simpa [OwnK, marks] using ho2, hb2⟩) ?_
  rintro v i w' ⟨hi, ho3, hb3⟩
  refine v_seq ?_
  refine v_seq ?_
  refine v_region ?_
  refine vl_val (os_move rfl) ?_
  refine vl_val (os_lss rfl rfl) ?_
  refine vl_nil ?_
  refine v_cond_d rfl (fun h => ?_) (fun h => ?_)
  · refine v_skip ?_
    refine v_seq ?_
    refine v_block ?_
    refine v_region ?_
    refine vl_val (os_move rfl) ?_
    refine vl_val (os_move rfl) ?_
    refine vl_call (kit_mark 1 i w' (by omega) (by omega)) rfl ?_
    rintro v4 w' ⟨rfl, rfl⟩
    have ho4 := Own.alloc ho3 (.cells [Value.int .i64 (markZ 1 i)].toArray 3)
    have hb4 := hb3.alloc hb3.size (.cells [Value.int .i64 (markZ 1 i)].toArray 3)
    refine vl_val (os_lit Try.underlying40 Try.sizeOf3 Try.zeroValue3 rfl rfl rfl rfl (by decide)) ?_
    refine vl_some (ot_append Try.underlying40 ti_int rfl rfl rfl ho4 (rdc_alloc w' [Value.int .i64 (markZ 1 i)] _) rfl (by simp [Value.oneCell']) (by simp [marks_len]; omega) (by simp [maxLen, marks_len]; omega) hb4.size) ?_
    rintro v5 w5 ⟨ho5, hg5⟩
    refine vl_val (os_assign rfl) ?_
    refine vl_nil ?_
    refine v_region ?_
    refine vl_val (os_move rfl) ?_
    refine vl_val (os_addi rfl rfl (by omega)) ?_
    refine vl_val (os_assign rfl) ?_
    refine vl_nil ?_
    exact ⟨⟨v5, i + 1⟩, ⟨rfl, trivial⟩, ⟨rfl, rfl, trivial⟩, ⟨by omega, by rw [marks_succ, ← List.append_assoc]; simpa [OwnK] using ho5, Own.below hb4 ho4 hg5 (Nat.le_refl _) hb4.size⟩, by dsimp only; omega⟩
  · obtain rfl : i = 12 := by omega
    obtain ⟨g, C, rfl, h1, h2, h3, h4⟩ := ho3.row (by simp [marks_len])
    rw [List.length_append, marks_len] at h3
    refine v_exit ?_
    refine v_seq ?_
    refine v_region ?_
    refine vl_val (os_move rfl) ?_
    refine vl_val (os_move rfl) ?_
    refine vl_val (os_len Try.underlying40 rfl) ?_
    refine vl_val (os_slice_h Try.underlying40 Try.sizeOf3 rfl rfl (h := n) (by omega) (by omega)) ?_
    refine vl_val (os_assign rfl) ?_
    refine vl_nil ?_
    refine v_ret ?_
    exact post_ret rfl rfl (⟨⟨g, C, by rw [hn], h3, ho3⟩, hb3⟩)
set_option maxHeartbeats 1000000 in
theorem kit_KeptInts (v : Value) (B : Nat) (A : Option Addr) (n c : Nat) (zs : List Int) (w : World) (hv : Lent w B 3 .i64 markZ v zs) (ha : Rd w .i64 A zs) (hn : n = zs.length) (hb : (n + 12) * 8 ≤ 140737488355328) : Gives Try.prog 37 #[v, .slice A n c] w fun v w' => v = .bool true ∧ LeD w w' := by
  obtain ⟨g, C, rfl, hC, ho⟩ := hv
  refine gives_enter Try.call37 Try.func37 rfl rfl rfl (by kernel_rfl) ?_
  refine v_seq ?_
  refine v_region ?_
  refine vl_val (os_assign rfl) ?_
  refine vl_nil ?_
  refine v_seq ?_
  refine v_seq ?_
  refine v_region ?_
  refine vl_val (os_move rfl) ?_
  refine vl_val (os_len Try.underlying40 rfl) ?_
  refine vl_val (os_move rfl) ?_
  refine vl_val (os_len Try.underlying40 rfl) ?_
  refine vl_val (os_neq rfl rfl) ?_
  refine vl_nil ?_
  refine v_cond_no rfl (by omega) ?_
  refine v_skip ?_
  refine v_seq ?_
  refine v_region ?_
  refine vl_val (os_move rfl) ?_
  refine vl_val (os_move rfl) ?_
  refine vl_val (os_len Try.underlying40 rfl) ?_
  refine vl_val (os_addi rfl rfl (by omega)) ?_
  refine vl_val (os_slice_h Try.underlying40 Try.sizeOf3 rfl rfl (h := n + 12) (by omega) (by omega)) ?_
  refine vl_val (os_assign rfl) ?_
  refine vl_nil ?_
  refine v_seq ?_
  refine v_seq ?_
  refine v_region ?_
  refine vl_val (os_assign rfl) ?_
  refine vl_nil ?_
  refine v_block ?_
  refine v_loop [(1, _), (5, _)] (fun (i : Nat) => [(6, .int .i64 i)]) (fun i w' => i ≤ n + 12 ∧ LeD w w') (fun i => n + 12 - i) (0) ⟨rfl, rfl, trivial⟩ ⟨rfl, trivial⟩ (⟨by omega, lee_d.refl _⟩) ?_
  rintro i w' ⟨hi, hq⟩
  refine v_seq ?_
  refine v_seq ?_
  refine v_region ?_
  refine vl_val (os_move rfl) ?_
  refine vl_val (os_move rfl) ?_
  refine vl_val (os_len Try.underlying40 rfl) ?_
  refine vl_val (os_lss rfl rfl) ?_
  refine vl_nil ?_
  refine v_cond_d rfl (fun h => ?_) (fun h => ?_)
  · have hc := OwnK.cell (Own.led ho hq : OwnK w' B _ _ _ _) (i := i) (by rw [List.length_append, marks_len]; omega)
    rcases Nat.lt_or_ge i n with hlt | hge
    · obtain ⟨bA, oA, rfl, hcA⟩ := (ha.led hq) (by omega)
      have hcA := hcA i (by omega)
      rw [show (zs ++ marks markZ 12).getD i 0 = zs.getD i 0 by simp [List.getElem?_append, show i < zs.length by omega]] at hc
      refine v_skip ?_
      refine v_seq ?_
      refine v_block ?_
      refine v_seq ?_
      refine v_region_t LeD _ mixed (by kernel_rfl) lee_d (led_start _) ?_
      refine vt_val (fun w hw => os_move rfl) ?_
      refine vt_val (fun w hw => os_move rfl) ?_
      refine vt_val (fun w hw => os_len Try.underlying40 rfl) ?_
      refine vt_val (fun w hw => os_t (os_lss rfl rfl) (by omega)) ?_
      refine vt_val (fun w hw => os_move rfl) ?_
      refine vt_valg rfl (fun w hw => os_move rfl) ?_
      refine vt_valg rfl (fun w hw => os_move rfl) ?_
      refine vt_valg rfl (fun w hw => os_ix Try.underlying40 Try.sizeOf3 rfl rfl (i := i) (by omega) (by omega)) ?_
      refine vt_valg rfl (fun w hw => os_load Try.isAgg3 rfl (led_cell hw (by rw [Nat.zero_add]; exact hc))) ?_
      refine vt_valg rfl (fun w hw => os_move rfl) ?_
      refine vt_valg rfl (fun w hw => os_move rfl) ?_
      refine vt_valg rfl (fun w hw => os_ix Try.underlying40 Try.sizeOf3 rfl rfl (i := i) (by omega) (by omega)) ?_
      refine vt_valg rfl (fun w hw => os_load Try.isAgg3 rfl (led_cell hw (hcA))) ?_
      refine vt_valg rfl (fun w hw => os_t (os_eql rfl rfl) (rfl)) ?_
      refine vt_valg rfl (fun w hw => os_not rfl) ?_
      refine vt_val (fun w hw => os_pick_t rfl rfl) ?_
      refine vt_val (fun w hw => os_move rfl) ?_
      refine vt_valg rfl (fun w hw => os_move rfl) ?_
      refine vt_valg rfl (fun w hw => os_move rfl) ?_
      refine vt_valg rfl (fun w hw => os_len Try.underlying40 rfl) ?_
      refine vt_valg rfl (fun w hw => os_f (os_geq rfl rfl) (by omega)) ?_
      refine vt_valg rfl (fun w hw => os_move rfl) ?_
      refine vt_skip rfl rfl ?_
      refine vt_skip rfl rfl ?_
      refine vt_skip rfl rfl ?_
      refine vt_skip rfl rfl ?_
      refine vt_skip rfl rfl ?_
      refine vt_skip rfl rfl ?_
      refine vt_skip rfl rfl ?_
      refine vt_skip rfl rfl ?_
      refine vt_skip rfl rfl ?_
      refine vt_skip rfl rfl ?_
      refine vt_skip rfl rfl ?_
      refine vt_valg rfl (fun w hw => os_pick_f rfl rfl) ?_
      refine vt_val (fun w hw => os_pick_f rfl rfl) ?_
      refine vt_nil (fun w hw => ?_)
      obtain ⟨q, rfl⟩ := hw
      refine v_cond_f rfl ?_
      refine v_skip ?_
      refine v_region ?_
      refine vl_val (os_move rfl) ?_
      refine vl_val (os_addi rfl rfl (by omega)) ?_
      refine vl_val (os_assign rfl) ?_
      refine vl_nil ?_
      exact ⟨i + 1, ⟨rfl, rfl, trivial⟩, ⟨rfl, trivial⟩, ⟨by omega, lee_d.trans hq ⟨q, rfl⟩⟩, by dsimp only; omega⟩
    · rw [show (zs ++ marks markZ 12).getD i 0 = markZ 1 ((i : Int) - (n : Int)) by
        have e : (zs ++ marks markZ 12).getD i 0 = (marks markZ 12).getD (i - zs.length) 0 := by simp [List.getElem?_append, show ¬ i < zs.length by omega]
        rw [e, marks_at _ (by omega)]; congr 1; omega] at hc
      refine v_skip ?_
      refine v_seq ?_
      refine v_block ?_
      refine v_seq ?_
      refine v_region_t LeD _ mixed (by kernel_rfl) lee_d (led_start _) ?_
      refine vt_val (fun w hw => os_move rfl) ?_
      refine vt_val (fun w hw => os_move rfl) ?_
      refine vt_val (fun w hw => os_len Try.underlying40 rfl) ?_
      refine vt_val (fun w hw => os_f (os_lss rfl rfl) (by omega)) ?_
      refine vt_val (fun w hw => os_move rfl) ?_
      refine vt_skip rfl rfl ?_
      refine vt_skip rfl rfl ?_
      refine vt_skip rfl rfl ?_
      refine vt_skip rfl rfl ?_
      refine vt_skip rfl rfl ?_
      refine vt_skip rfl rfl ?_
      refine vt_skip rfl rfl ?_
      refine vt_skip rfl rfl ?_
      refine vt_skip rfl rfl ?_
      refine vt_skip rfl rfl ?_
      refine vt_val (fun w hw => os_pick_f rfl rfl) ?_
      refine vt_val (fun w hw => os_move rfl) ?_
      refine vt_valg rfl (fun w hw => os_move rfl) ?_
      refine vt_valg rfl (fun w hw => os_move rfl) ?_
      refine vt_valg rfl (fun w hw => os_len Try.underlying40 rfl) ?_
      refine vt_valg rfl (fun w hw => os_t (os_geq rfl rfl) (by omega)) ?_
      refine vt_valg rfl (fun w hw => os_move rfl) ?_
      refine vt_valg rfl (fun w hw => os_move rfl) ?_
      refine vt_valg rfl (fun w hw => os_move rfl) ?_
      refine vt_valg rfl (fun w hw => os_ix Try.underlying40 Try.sizeOf3 rfl rfl (i := i) (by omega) (by omega)) ?_
      refine vt_valg rfl (fun w hw => os_load Try.isAgg3 rfl (led_cell hw (by rw [Nat.zero_add]; exact hc))) ?_
      refine vt_valg rfl (fun w hw => os_move rfl) ?_
      refine vt_valg rfl (fun w hw => os_move rfl) ?_
      refine vt_valg rfl (fun w hw => os_len Try.underlying40 rfl) ?_
      refine vt_valg rfl (fun w hw => os_subi rfl rfl (by omega)) ?_
      refine vt_callg rfl (v := _) (fun w hw => (kit_mark 1 ((i : Int) - (n : Int)) w (by omega) (by omega)).mono fun v w' hh => ⟨hh.1, by rw [hh.2]; exact lee_d.refl _⟩) rfl ?_
      refine vt_valg rfl (fun w hw => os_t (os_eql rfl rfl) (rfl)) ?_
      refine vt_valg rfl (fun w hw => os_not rfl) ?_
      refine vt_valg rfl (fun w hw => os_pick_t rfl rfl) ?_
      refine vt_val (fun w hw => os_pick_f rfl rfl) ?_
      refine vt_nil (fun w hw => ?_)
      obtain ⟨q, rfl⟩ := hw
      refine v_cond_f rfl ?_
      refine v_skip ?_
      refine v_region ?_
      refine vl_val (os_move rfl) ?_
      refine vl_val (os_addi rfl rfl (by omega)) ?_
      refine vl_val (os_assign rfl) ?_
      refine vl_nil ?_
      exact ⟨i + 1, ⟨rfl, rfl, trivial⟩, ⟨rfl, trivial⟩, ⟨by omega, lee_d.trans hq ⟨q, rfl⟩⟩, by dsimp only; omega⟩
  · refine v_exit ?_
    refine v_seq ?_
    refine v_region ?_
    refine vl_val (os_assign rfl) ?_
    refine vl_nil ?_
    refine v_ret ?_
    exact post_ret rfl rfl (⟨rfl, hq⟩)
set_option maxHeartbeats 1000000 in
theorem kit_LentBytes (A : Option Addr) (n c : Nat) (zs : List Int) (w : World) (ha : Rd w .u8 A zs) (hn : n = zs.length) (hb : (n + 12) * 8 ≤ 140737488355328) : Gives Try.prog 12 #[.slice A n c] w fun v w' => Lent w' w.heap.size 5 .u8 markB v zs ∧ Below w.heap.size w w' := by
  refine gives_enter Try.call12 Try.func12 rfl rfl rfl (by kernel_rfl) ?_
  refine v_seq ?_
  refine v_region ?_
  refine vl_val (os_assign rfl) ?_
  refine vl_nil ?_
  refine v_seq ?_
  refine v_region ?_
  refine vl_val (os_move rfl) ?_
  refine vl_val (os_len Try.underlying22 rfl) ?_
  refine vl_val (os_addi rfl rfl (by omega)) ?_
  refine vl_some (ot_make0 (l := n + 12) Try.underlying22 ti_u8 rfl rfl rfl rfl (by omega) (by simp [maxLen]; omega) w.heap.size (Nat.le_refl _)) ?_
  rintro v1 w1 ⟨rfl, ho, hg⟩
  have hb1 : Below w.heap.size w w1 := (Below.refl _ _).grown hg (Nat.le_refl _) (fun k hk => by cases hk)
  refine vl_val (os_assign rfl) ?_
  refine vl_nil ?_
  refine v_seq ?_
  refine v_region ?_
  refine vl_val (os_move rfl) ?_
  refine vl_val (os_move rfl) ?_
  refine vl_some (ot_append Try.underlying22 ti_u8 rfl rfl rfl ho (ha.keep hb1).toC (by simp [hn]) (ints_one _ _) (by simp; omega) (by simp [maxLen]; omega) hb1.size) ?_
  rintro v2 w2 ⟨ho2, hg2⟩
  have hb2 := Own.below hb1 ho hg2 (Nat.le_refl _) hb1.size
  refine vl_val (os_assign rfl) ?_
  refine vl_nil ?_
  refine v_seq ?_
  refine v_seq ?_
  refine v_region ?_
  refine vl_val (os_assign rfl) ?_
  refine vl_nil ?_
  refine v_block ?_
  refine v_loop2 [(0, _)] (fun (v : Value) (i : Nat) => [(3, v), (4, .int .i64 i)]) (fun v i w' => i ≤ 12 ∧ OwnK w' w.heap.size 5 .u8 v (zs ++ marks markB i) ∧ Below w.heap.size w w') (fun v i => 12 - i) (v2) (0) ⟨rfl, trivial⟩ ⟨rfl, rfl, trivial⟩ (⟨by omega, by simpa [OwnK, marks] using ho2, hb2⟩) ?_
  rintro v i w' ⟨hi, ho3, hb3⟩
  refine v_seq ?_
  refine v_seq ?_
  refine v_region ?_
  refine vl_val (os_move rfl) ?_
  refine vl_val (os_lss rfl rfl) ?_
  refine vl_nil ?_
  refine v_cond_d rfl (fun h => ?_) (fun h => ?_)
  · refine v_skip ?_
    refine v_seq ?_
    refine v_block ?_
    refine v_region ?_
    refine vl_val (os_move rfl) ?_
    refine vl_val (os_move rfl) ?_
    refine vl_call (kit_markByte 1 i w' (by omega) (by omega)) rfl ?_
    rintro v4 w' ⟨rfl, rfl⟩
    have ho4 := Own.alloc ho3 (.cells [Value.int .u8 (markB 1 i)].toArray 5)
    have hb4 := hb3.alloc hb3.size (.cells [Value.int .u8 (markB 1 i)].toArray 5)
    refine vl_val (os_lit Try.underlying22 Try.sizeOf5 Try.zeroValue5 rfl rfl rfl rfl (by decide)) ?_
    refine vl_some (ot_append Try.underlying22 ti_u8 rfl rfl rfl ho4 (rdc_alloc w' [Value.int .u8 (markB 1 i)] _) rfl (by simp [Value.oneCell']) (by simp [marks_len]; omega) (by simp [maxLen, marks_len]; omega) hb4.size) ?_
    rintro v5 w5 ⟨ho5, hg5⟩
    refine vl_val (os_assign rfl) ?_
    refine vl_nil ?_
    refine v_region ?_
    refine vl_val (os_move rfl) ?_
    refine vl_val (os_addi rfl rfl (by omega)) ?_
    refine vl_val (os_assign rfl) ?_
    refine vl_nil ?_
    exact ⟨⟨v5, i + 1⟩, ⟨rfl, trivial⟩, ⟨rfl, rfl, trivial⟩, ⟨by omega, by rw [marks_succ, ← List.append_assoc]; simpa [OwnK] using ho5, Own.below hb4 ho4 hg5 (Nat.le_refl _) hb4.size⟩, by dsimp only; omega⟩
  · obtain rfl : i = 12 := by omega
    obtain ⟨g, C, rfl, h1, h2, h3, h4⟩ := ho3.row (by simp [marks_len])
    rw [List.length_append, marks_len] at h3
    refine v_exit ?_
    refine v_seq ?_
    refine v_region ?_
    refine vl_val (os_move rfl) ?_
    refine vl_val (os_move rfl) ?_
    refine vl_val (os_len Try.underlying22 rfl) ?_
    refine vl_val (os_slice_h Try.underlying22 Try.sizeOf5 rfl rfl (h := n) (by omega) (by omega)) ?_
    refine vl_val (os_assign rfl) ?_
    refine vl_nil ?_
    refine v_ret ?_
    exact post_ret rfl rfl (⟨⟨g, C, by rw [hn], h3, ho3⟩, hb3⟩)
set_option maxHeartbeats 1000000 in
theorem kit_KeptBytes (v : Value) (B : Nat) (A : Option Addr) (n c : Nat) (zs : List Int) (w : World) (hv : Lent w B 5 .u8 markB v zs) (ha : Rd w .u8 A zs) (hn : n = zs.length) (hb : (n + 12) * 8 ≤ 140737488355328) : Gives Try.prog 24 #[v, .slice A n c] w fun v w' => v = .bool true ∧ LeD w w' := by
  obtain ⟨g, C, rfl, hC, ho⟩ := hv
  refine gives_enter Try.call24 Try.func24 rfl rfl rfl (by kernel_rfl) ?_
  refine v_seq ?_
  refine v_region ?_
  refine vl_val (os_assign rfl) ?_
  refine vl_nil ?_
  refine v_seq ?_
  refine v_seq ?_
  refine v_region ?_
  refine vl_val (os_move rfl) ?_
  refine vl_val (os_len Try.underlying22 rfl) ?_
  refine vl_val (os_move rfl) ?_
  refine vl_val (os_len Try.underlying22 rfl) ?_
  refine vl_val (os_neq rfl rfl) ?_
  refine vl_nil ?_
  refine v_cond_no rfl (by omega) ?_
  refine v_skip ?_
  refine v_seq ?_
  refine v_region ?_
  refine vl_val (os_move rfl) ?_
  refine vl_val (os_move rfl) ?_
  refine vl_val (os_len Try.underlying22 rfl) ?_
  refine vl_val (os_addi rfl rfl (by omega)) ?_
  refine vl_val (os_slice_h Try.underlying22 Try.sizeOf5 rfl rfl (h := n + 12) (by omega) (by omega)) ?_
  refine vl_val (os_assign rfl) ?_
  refine vl_nil ?_
  refine v_seq ?_
  refine v_seq ?_
  refine v_region ?_
  refine vl_val (os_assign rfl) ?_
  refine vl_nil ?_
  refine v_block ?_
  refine v_loop [(1, _), (5, _)] (fun (i : Nat) => [(6, .int .i64 i)]) (fun i w' => i ≤ n + 12 ∧ LeD w w') (fun i => n + 12 - i) (0) ⟨rfl, rfl, trivial⟩ ⟨rfl, trivial⟩ (⟨by omega, lee_d.refl _⟩) ?_
  rintro i w' ⟨hi, hq⟩
  refine v_seq ?_
  refine v_seq ?_
  refine v_region ?_
  refine vl_val (os_move rfl) ?_
  refine vl_val (os_move rfl) ?_
  refine vl_val (os_len Try.underlying22 rfl) ?_
  refine vl_val (os_lss rfl rfl) ?_
  refine vl_nil ?_
  refine v_cond_d rfl (fun h => ?_) (fun h => ?_)
  · have hc := OwnK.cell (Own.led ho hq : OwnK w' B _ _ _ _) (i := i) (by rw [List.length_append, marks_len]; omega)
    rcases Nat.lt_or_ge i n with hlt | hge
    · obtain ⟨bA, oA, rfl, hcA⟩ := (ha.led hq) (by omega)
      have hcA := hcA i (by omega)
      rw [show (zs ++ marks markB 12).getD i 0 = zs.getD i 0 by simp [List.getElem?_append, show i < zs.length by omega]] at hc
      refine v_skip ?_
      refine v_seq ?_
      refine v_block ?_
      refine v_seq ?_
      refine v_region_t LeD _ mixed (by kernel_rfl) lee_d (led_start _) ?_
      refine vt_val (fun w hw => os_move rfl) ?_
      refine vt_val (fun w hw => os_move rfl) ?_
      refine vt_val (fun w hw => os_len Try.underlying22 rfl) ?_
      refine vt_val (fun w hw => os_t (os_lss rfl rfl) (by omega)) ?_
      refine vt_val (fun w hw => os_move rfl) ?_
      refine vt_valg rfl (fun w hw => os_move rfl) ?_
      refine vt_valg rfl (fun w hw => os_move rfl) ?_
      refine vt_valg rfl (fun w hw => os_ix Try.underlying22 Try.sizeOf5 rfl rfl (i := i) (by omega) (by omega)) ?_
      refine vt_valg rfl (fun w hw => os_load Try.isAgg5 rfl (led_cell hw (by rw [Nat.zero_add]; exact hc))) ?_
      refine vt_valg rfl (fun w hw => os_move rfl) ?_
      refine vt_valg rfl (fun w hw => os_move rfl) ?_
      refine vt_valg rfl (fun w hw => os_ix Try.underlying22 Try.sizeOf5 rfl rfl (i := i) (by omega) (by omega)) ?_
      refine vt_valg rfl (fun w hw => os_load Try.isAgg5 rfl (led_cell hw (hcA))) ?_
      refine vt_valg rfl (fun w hw => os_t (os_eql rfl rfl) (rfl)) ?_
      refine vt_valg rfl (fun w hw => os_not rfl) ?_
      refine vt_val (fun w hw => os_pick_t rfl rfl) ?_
      refine vt_val (fun w hw => os_move rfl) ?_
      refine vt_valg rfl (fun w hw => os_move rfl) ?_
      refine vt_valg rfl (fun w hw => os_move rfl) ?_
      refine vt_valg rfl (fun w hw => os_len Try.underlying22 rfl) ?_
      refine vt_valg rfl (fun w hw => os_f (os_geq rfl rfl) (by omega)) ?_
      refine vt_valg rfl (fun w hw => os_move rfl) ?_
      refine vt_skip rfl rfl ?_
      refine vt_skip rfl rfl ?_
      refine vt_skip rfl rfl ?_
      refine vt_skip rfl rfl ?_
      refine vt_skip rfl rfl ?_
      refine vt_skip rfl rfl ?_
      refine vt_skip rfl rfl ?_
      refine vt_skip rfl rfl ?_
      refine vt_skip rfl rfl ?_
      refine vt_skip rfl rfl ?_
      refine vt_skip rfl rfl ?_
      refine vt_valg rfl (fun w hw => os_pick_f rfl rfl) ?_
      refine vt_val (fun w hw => os_pick_f rfl rfl) ?_
      refine vt_nil (fun w hw => ?_)
      obtain ⟨q, rfl⟩ := hw
      refine v_cond_f rfl ?_
      refine v_skip ?_
      refine v_region ?_
      refine vl_val (os_move rfl) ?_
      refine vl_val (os_addi rfl rfl (by omega)) ?_
      refine vl_val (os_assign rfl) ?_
      refine vl_nil ?_
      exact ⟨i + 1, ⟨rfl, rfl, trivial⟩, ⟨rfl, trivial⟩, ⟨by omega, lee_d.trans hq ⟨q, rfl⟩⟩, by dsimp only; omega⟩
    · rw [show (zs ++ marks markB 12).getD i 0 = markB 1 ((i : Int) - (n : Int)) by
        have e : (zs ++ marks markB 12).getD i 0 = (marks markB 12).getD (i - zs.length) 0 := by simp [List.getElem?_append, show ¬ i < zs.length by omega]
        rw [e, marks_at _ (by omega)]; congr 1; omega] at hc
      refine v_skip ?_
      refine v_seq ?_
      refine v_block ?_
      refine v_seq ?_
      refine v_region_t LeD _ mixed (by kernel_rfl) lee_d (led_start _) ?_
      refine vt_val (fun w hw => os_move rfl) ?_
      refine vt_val (fun w hw => os_move rfl) ?_
      refine vt_val (fun w hw => os_len Try.underlying22 rfl) ?_
      refine vt_val (fun w hw => os_f (os_lss rfl rfl) (by omega)) ?_
      refine vt_val (fun w hw => os_move rfl) ?_
      refine vt_skip rfl rfl ?_
      refine vt_skip rfl rfl ?_
      refine vt_skip rfl rfl ?_
      refine vt_skip rfl rfl ?_
      refine vt_skip rfl rfl ?_
      refine vt_skip rfl rfl ?_
      refine vt_skip rfl rfl ?_
      refine vt_skip rfl rfl ?_
      refine vt_skip rfl rfl ?_
      refine vt_skip rfl rfl ?_
      refine vt_val (fun w hw => os_pick_f rfl rfl) ?_
      refine vt_val (fun w hw => os_move rfl) ?_
      refine vt_valg rfl (fun w hw => os_move rfl) ?_
      refine vt_valg rfl (fun w hw => os_move rfl) ?_
      refine vt_valg rfl (fun w hw => os_len Try.underlying22 rfl) ?_
      refine vt_valg rfl (fun w hw => os_t (os_geq rfl rfl) (by omega)) ?_
      refine vt_valg rfl (fun w hw => os_move rfl) ?_
      refine vt_valg rfl (fun w hw => os_move rfl) ?_
      refine vt_valg rfl (fun w hw => os_move rfl) ?_
      refine vt_valg rfl (fun w hw => os_ix Try.underlying22 Try.sizeOf5 rfl rfl (i := i) (by omega) (by omega)) ?_
      refine vt_valg rfl (fun w hw => os_load Try.isAgg5 rfl (led_cell hw (by rw [Nat.zero_add]; exact hc))) ?_
      refine vt_valg rfl (fun w hw => os_move rfl) ?_
      refine vt_valg rfl (fun w hw => os_move rfl) ?_
      refine vt_valg rfl (fun w hw => os_len Try.underlying22 rfl) ?_
      refine vt_valg rfl (fun w hw => os_subi rfl rfl (by omega)) ?_
      refine vt_callg rfl (v := _) (fun w hw => (kit_markByte 1 ((i : Int) - (n : Int)) w (by omega) (by omega)).mono fun v w' hh => ⟨hh.1, by rw [hh.2]; exact lee_d.refl _⟩) rfl ?_
      refine vt_valg rfl (fun w hw => os_t (os_eql rfl rfl) (rfl)) ?_
      refine vt_valg rfl (fun w hw => os_not rfl) ?_
      refine vt_valg rfl (fun w hw => os_pick_t rfl rfl) ?_
      refine vt_val (fun w hw => os_pick_f rfl rfl) ?_
      refine vt_nil (fun w hw => ?_)
      obtain ⟨q, rfl⟩ := hw
      refine v_cond_f rfl ?_
      refine v_skip ?_
      refine v_region ?_
      refine vl_val (os_move rfl) ?_
      refine vl_val (os_addi rfl rfl (by omega)) ?_
      refine vl_val (os_assign rfl) ?_
      refine vl_nil ?_
      exact ⟨i + 1, ⟨rfl, rfl, trivial⟩, ⟨rfl, trivial⟩, ⟨by omega, lee_d.trans hq ⟨q, rfl⟩⟩, by dsimp only; omega⟩
  · refine v_exit ?_
    refine v_seq ?_
    refine v_region ?_
    refine vl_val (os_assign rfl) ?_
    refine vl_nil ?_
    refine v_ret ?_
    exact post_ret rfl rfl (⟨rfl, hq⟩)
end Go.Proofs.Ytpojijnjdlnokaa

/- Literals of lists of structs. No program in sight. -/
namespace Go.Proofs.Ytpojijnjdlnokaa
open Go.RowKit
set_option linter.unusedVariables false

theorem fold_set (off : Nat) : ∀ (cs : List Value) (k : Nat) (a : Array Value), off + k + cs.length ≤ a.size →
    ((cs.zipIdx k).foldl (fun (a : Array Value) (x : Value × Nat) => a.setIfInBounds (off + x.2) x.1) a).toList = a.toList.take (off + k) ++ cs ++ a.toList.drop (off + k + cs.length)
  | [], k, a, _ => by simp
  | c :: r, k, a, h => by
    simp only [List.length_cons] at h
    rw [List.zipIdx_cons, List.foldl_cons, fold_set off r (k + 1) _ (by simp; omega)]
    have h1 : off + k < a.toList.length := by simp; omega
    rw [Array.toList_setIfInBounds, show off + (k + 1) = off + k + 1 by omega]
    have h2 : (a.toList.set (off + k) c).take (off + k + 1) = a.toList.take (off + k) ++ [c] := by
      rw [List.take_succ_eq_append_getElem (by simpa using h1), List.take_set, List.set_eq_of_length_le (by simp; omega)]
      simp
    rw [h2, List.drop_set, if_pos (by omega)]
    simp only [List.length_cons, List.append_assoc, List.singleton_append]
    rw [show off + k + 1 + r.length = off + k + (r.length + 1) by omega]
def aggs (css : List (List Value)) : List Value := css.map fun cs => .agg cs.toArray
theorem fill_many {s : Nat} (hs : 0 < s) : ∀ (css : List (List Value)) (i : Nat) (cells : Array Value), (∀ cs ∈ css, cs.length = s) → i * s + css.length * s = cells.size →
    Instr.fill (fun i => some (i * s, s)) cells (partsOf (aggs css) i) = some (cells.toList.take (i * s) ++ css.flatten).toArray
  | [], i, cells, _, hl => by
    simp only [aggs, List.map_nil, partsOf, Instr.fill, List.flatten_nil, List.append_nil]
    have : i * s = cells.toList.length := by simpa using hl
    rw [this, List.take_length]
  | cs :: r, i, cells, h1, hl => by
    have h2 := h1 cs (by simp)
    simp only [List.length_cons, Nat.add_mul, Nat.one_mul] at hl
    have hc : (Value.agg cs.toArray).cells = cs.toArray := rfl
    have hfold : (cs.toArray.zipIdx.foldl (fun (a : Array Value) (x : Value × Nat) => a.setIfInBounds (i * s + x.2) x.1) cells).toList = cells.toList.take (i * s) ++ cs ++ cells.toList.drop (i * s + s) := by
      have := fold_set (i * s) cs 0 cells (by omega)
      rw [Nat.add_zero, h2] at this
      rw [← this]
      simp
    have hsz : (cs.toArray.zipIdx.foldl (fun (a : Array Value) (x : Value × Nat) => a.setIfInBounds (i * s + x.2) x.1) cells).size = cells.size := by
      rw [← Array.length_toList, hfold]
      simp only [List.length_append, List.length_take, List.length_drop, Array.length_toList]
      omega
    have ih := fill_many hs r (i + 1) _ (fun c hc => h1 c (by simp [hc])) (by rw [hsz, Nat.add_mul, Nat.one_mul]; omega)
    simp only [aggs, List.map_cons, partsOf, Instr.fill, hc]
    rw [if_neg (by simp [h2]; omega)]
    simp only [aggs] at ih
    rw [ih, hfold]
    congr 2
    rw [Nat.add_mul, Nat.one_mul, List.take_append_of_le_length (by simp; omega), List.take_of_length_le (by simp; omega)]
    simp
theorem flat_at {s : Nat} : ∀ (css : List (List Value)) (i j : Nat) (c : List Value), (∀ cs ∈ css, cs.length = s) → css[i]? = some c → j < s → css.flatten[i * s + j]? = c[j]?
  | cs :: r, 0, j, c, h, hc, hj => by
    cases hc
    have := h cs (by simp)
    rw [List.flatten_cons, Nat.zero_mul, Nat.zero_add, List.getElem?_append_left (by omega)]
  | cs :: r, i + 1, j, c, h, hc, hj => by
    have h1 := h cs (by simp)
    rw [List.flatten_cons, List.getElem?_append_right (by rw [Nat.add_mul]; omega), h1, show (i + 1) * s + j - s = i * s + j by rw [Nat.add_mul]; omega]
    exact flat_at r i j c (fun c hc => h c (by simp [hc])) hc hj
theorem flat_len {s : Nat} : ∀ (css : List (List Value)), (∀ cs ∈ css, cs.length = s) → css.flatten.length = css.length * s
  | [], _ => by simp
  | cs :: r, h => by
    rw [List.flatten_cons, List.length_append, flat_len r (fun c hc => h c (by simp [hc])), h cs (by simp), List.length_cons, Nat.add_mul]; omega
theorem rdp_alloc (w : World) {s : Nat} (css : List (List Value)) (e : TypeId) (h : ∀ cs ∈ css, cs.length = s) : RdP (w.alloc (.cells css.flatten.toArray e)) s (some ⟨w.heap.size, 0, none⟩) css := fun i c hc => by
  refine ⟨_, 0, rfl, fun j v hv => ?_⟩
  have hj := (List.getElem?_eq_some_iff.1 hv).1
  rw [h c (List.mem_of_getElem? hc)] at hj
  rw [cell_of_row _ w.heap.size (0 + i * s + j) css.flatten.toArray e (0, 0) (heap_alloc_new w _)]
  simp only [List.getElem?_toArray]
  rw [Nat.zero_add, flat_at css i j c h hc hj]; exact hv
section
variable {P : Program} {n : Cx} {fr : Fr} {w : World} {ty : TypeId} {x y z : Operand} {T T2 e : TypeId}
/-- []T{..} of structs, all its elements written out -/
theorem os_litS {l s : Nat} {ps : List (Nat × Operand)} {css : List (List Value)} {z0 : Value} (hT : P.underlying T = some (.slice e)) (hs : ∀ w, (sizeOf e).run P w = .ok s w) (hz : ∀ w, (zeroValue e).run P w = .ok z0 w) (hx : evP fr ps 0 = some (aggs css)) (hl : l = css.length) (h1 : ∀ cs ∈ css, cs.length = s) (h0 : 0 < l) (hs0 : 0 < s) (h2 : l * s ≤ 16777216) :
    OS P n (.buildSlice T l ps.toArray) ty fr w (.slice (some ⟨w.heap.size, 0, none⟩) l l) (w.alloc (.cells css.flatten.toArray e)) := by
  subst hl
  refine os_of fun a ha => ?_
  have hp := ha.evP hx
  have hfill := fill_many hs0 css 0 ((Array.range (css.length * s)).map (fun i => z0.cells[i % z0.cells.size]!)) h1 (by simp)
  simp only [Nat.zero_mul, List.take_zero, List.nil_append] at hfill
  have hgt : ¬ css.length * s > 2 ^ 24 := by omega
  have hne : ¬ css.length * s = 0 := by
    have := Nat.mul_pos h0 hs0; omega
  have hps : List.map (fun p : Nat × Operand => (p.1, a.eval p.2)) ps = partsOf (aggs css) 0 := hp
  simp only [execOp, Instr.buildSlice, run_underlying hT, hs, hz, newRow, Result.andThen, Sem.run_bind, Sem.run_pure, hgt, hne, if_false, hps, hfill, List.map_toArray]
  rfl
end
end Go.Proofs.Ytpojijnjdlnokaa

/- Ranging over a function: the rounds of an iterator; a loop over it. No program in sight. -/
namespace Go.Proofs.Ytpojijnjdlnokaa
open Go.RowKit
set_option linter.unusedVariables false

/-- W' is W grown; of what lay there, blocks that are no cells may have turned, from B on -/
structure Nc (B : Nat) (W W' : World) : Prop where
  os : W'.os = W.os
  tape : W'.tape = W.tape
  output : W'.output = W.output
  size : W.heap.size ≤ W'.heap.size
  block : ∀ (k : Nat) (o : Obj), W.heap[k]? = some o → (k < B ∨ o.isCells = true) → W'.heap[k]? = some o
theorem Nc.refl (B : Nat) (W : World) : Nc B W W := ⟨rfl, rfl, rfl, Nat.le_refl _, fun _ _ h _ => h⟩
theorem Nc.trans {B : Nat} {a b c : World} (h : Nc B a b) (h' : Nc B b c) : Nc B a c := ⟨h'.os.trans h.os, h'.tape.trans h.tape, h'.output.trans h.output, Nat.le_trans h.size h'.size, fun k o hk ho => h'.block k o (h.block k o hk ho) ho⟩
theorem Nc.of_leg {B : Nat} {a b : World} (h : LeG a b) : Nc B a b := ⟨h.os, h.tape, h.output, h.size, fun k o hk _ => (h.block k (Array.getElem?_eq_some_iff.1 hk).1).trans hk⟩
theorem Nc.put {B l : Nat} {W : World} {o : Obj} (o' : Obj) (hl : B ≤ l) (ho : W.heap[l]? = some o) (hc : o.isCells = false) : Nc B W (W.putObj l o') :=
  ⟨rfl, rfl, rfl, by simp, fun k x hk hx => by
    rw [World.putObj_heap_other, hk]
    rintro rfl
    rw [ho] at hk; cases hk
    rcases hx with h | h
    · omega
    · rw [hc] at h; cases h⟩
theorem Nc.below {B n0 : Nat} {w0 W W' : World} (h : Nc B W W') (hb : Below n0 w0 W) (hB : n0 ≤ B) (hn : n0 ≤ w0.heap.size) : Below n0 w0 W' :=
  ⟨h.os.trans hb.os, h.tape.trans hb.tape, h.output.trans hb.output, Nat.le_trans hb.size h.size, fun k hk => by
    have hlt : k < w0.heap.size := by omega
    rw [← hb.block k hk]
    have : k < W.heap.size := Nat.lt_of_lt_of_le hlt hb.size
    rw [Array.getElem?_eq_getElem this]
    exact h.block k _ (Array.getElem?_eq_getElem this) (.inl (by omega))⟩
theorem Nc.cell {B : Nat} {W W' : World} (h : Nc B W W') {a : Addr} {v : Value} (hc : W.cell? a = some v) : W'.cell? a = some v := by
  obtain ⟨o, ho, hc'⟩ := cells_of_cell hc
  rw [World.cell?_of_block (a := a) ((h.block _ o ho (.inr hc')).trans ho.symm)]; exact hc
theorem Nc.frozen {B : Nat} {W W' : World} (h : Nc B W W') {a : Addr} {v : Value} (hc : W.cell? a = some v) : W'.frozen? a = W.frozen? a := by
  obtain ⟨o, ho, hc'⟩ := cells_of_cell hc
  exact World.frozen?_of_block (a := a) ((h.block _ o ho (.inr hc')).trans ho.symm)
theorem Nc.own {B B' : Nat} {W W' : World} (h : Nc B W W') {t : TypeId} {v : Value} {cs : List Value} (ho : Own W B' t v cs) : Own W' B' t v cs := by
  refine ⟨ho.1, ?_⟩
  rcases ho.2 with hn | ⟨g, cap, cur, rfl, hB0, hgg, rest⟩
  · exact .inl hn
  · exact .inr ⟨g, cap, cur, rfl, hB0, h.block _ _ hgg (.inr rfl), rest⟩
theorem Nc.bk {B : Nat} {W W' : World} (h : Nc B W W') {g : Nat} {cs : List Value} {t : TypeId} (hb : Bk W g cs t) : Bk W' g cs t := h.block _ _ hb (.inr rfl)
theorem Nc.rdc {B : Nat} {W W' : World} (h : Nc B W W') {A : Option Addr} {cs : List Value} (hr : RdC W A cs) : RdC W' A cs := fun h0 => by
  obtain ⟨b, o, e, hc⟩ := hr h0
  exact ⟨b, o, e, fun i hi => by rw [List.getElem?_eq_getElem hi]; exact h.cell (by rw [hc i hi, List.getElem?_eq_getElem hi])⟩
theorem Nc.rd {B : Nat} {W W' : World} (h : Nc B W W') {k : IntKind} {A : Option Addr} {zs : List Int} (hr : Rd W k A zs) : Rd W' k A zs := fun h0 => by
  obtain ⟨b, o, e, hc⟩ := hr h0
  exact ⟨b, o, e, fun i hi => h.cell (hc i hi)⟩
theorem Bk.setOther {w : World} {g g' : Nat} {cs : List Value} {t : TypeId} (h : Bk w g cs t) (hne : g' ≠ g) (i : Nat) (u : Value) : Bk (w.setCell ⟨g', i, none⟩ u) g cs t := (Below.heap_setCell _ _ _ _ (fun e => hne e.symm)).trans h
/-- what abides such turns -/
def Abd (B : Nat) (I : World → Prop) : Prop := ∀ W W', I W → Nc B W W' → I W'
theorem Abd.and {B : Nat} {I J : World → Prop} (h : Abd B I) (h' : Abd B J) : Abd B (fun W => I W ∧ J W) := fun W W' hh hn => ⟨h W W' hh.1 hn, h' W W' hh.2 hn⟩
theorem Abd.no {B : Nat} : Abd B (fun _ => False) := fun _ _ h _ => h

/-- blocks that are no cells stay, from B on -/
structure Kn (B : Nat) (W W' : World) : Prop where
  size : W.heap.size ≤ W'.heap.size
  block : ∀ (k : Nat) (o : Obj), B ≤ k → W.heap[k]? = some o → o.isCells = false → W'.heap[k]? = some o
theorem Kn.refl (B : Nat) (W : World) : Kn B W W := ⟨Nat.le_refl _, fun _ _ _ h _ => h⟩
theorem Kn.trans {B : Nat} {a b c : World} (h : Kn B a b) (h' : Kn B b c) : Kn B a c := ⟨Nat.le_trans h.size h'.size, fun k o hB hk ho => h'.block k o hB (h.block k o hB hk ho) ho⟩
theorem Kn.of_leg {B : Nat} {a b : World} (h : LeG a b) : Kn B a b := ⟨h.size, fun k o _ hk _ => (h.block k (Array.getElem?_eq_some_iff.1 hk).1).trans hk⟩
theorem Kn.alloc {B : Nat} (W : World) (o : Obj) : Kn B W (W.alloc o) := Kn.of_leg ((Below.refl _ _).alloc (Nat.le_refl _) _)
theorem Kn.grown {B : Nat} {W W' : World} {row : Option Nat} (h : W.grownBy W' row) (hr : ∀ r, row = some r → ∃ o : Obj, W.heap[r]? = some o ∧ o.isCells = true) : Kn B W W' :=
  ⟨h.size, fun k o _ hk ho => (h.block k (Array.getElem?_eq_some_iff.1 hk).1 (fun e => by
    obtain ⟨o', h1, h2⟩ := hr k e.symm
    rw [hk] at h1; cases h1; rw [ho] at h2; cases h2)).trans hk⟩
theorem Own.row_cells {W : World} {B : Nat} {t : TypeId} {v : Value} {cs : List Value} (ho : Own W B t v cs) : ∀ r, v.ownBlock = some r → ∃ o : Obj, W.heap[r]? = some o ∧ o.isCells = true := fun r e => by
  rcases ho.2 with hn | ⟨g, cap, cur, rfl, hB0, hgg, rest⟩
  · rw [hn.1] at e; cases e
  · cases e; exact ⟨_, hgg, rfl⟩
theorem Kn.set {B : Nat} {W : World} {a : Addr} {v : Value} (hc : W.cell? a = some v) (u : Value) : Kn B W (W.setCell a u) := by
  obtain ⟨o, ho, hc'⟩ := cells_of_cell hc
  refine ⟨by simp [World.setCell], fun k x _ hk hx => ?_⟩
  rw [Below.heap_setCell _ _ _ _ (fun e => ?_)]
  · exact hk
  · rw [e] at hk; rw [ho] at hk; cases hk; rw [hc'] at hx; cases hx

section
variable {P : Program} {n : Cx} {all rest : List Oper} {fr : Fr} {w w' : World} {Q : Exit → Fr → World → Prop} {d : Nat} {op : Op} {ty : TypeId} {pos : String} {aft : Array Edge} {v : Value}

/-- yield, called so in W, tells whether to go on -/
def YieldsAt (P : Program) (l : Nat) (args : Array Value) (W : World) (R : Bool → World → Prop) : Prop :=
  YieldAt (fw none) 0 P l args W fun e W' => ∃ b, e = .returned (.bool b) ∧ R b W'
/-- the rounds of a loop over an iterator -/
def Rounds (P : Program) (l : Nat) (args : Nat → List Value) (N : Nat) (J Jx : Nat → World → Prop) : Prop :=
  ∀ k W, J k W → k < N → YieldsAt P l (args k).toArray W fun b W' => (b = true → J (k + 1) W') ∧ (b = false → Jx k W')

theorem vl_yield {l : Nat} {c : Operand} {xs : List Operand} {ts : Array TypeId} {args : List Value} {R : Bool → World → Prop} (hc : Fr.ev fr c = some (.func (.yield l) #[] #[])) (hx : evL fr xs = some args) (h : YieldsAt P l args.toArray w R)
    (k : ∀ b w', R b w' → VL P n all rest ((d, .bool b) :: fr) w' Q) (hro : n.ro = none := by rfl) : VL P n all (⟨some d, .call ⟨.value c, xs.toArray, ts⟩, ty, pos, aft, none⟩ :: rest) fr w Q := by
  unfold VL at k ⊢
  intro hok a ha
  obtain ⟨h1, h2⟩ := dst_lt hok rfl
  obtain ⟨fn, tmps, ac, body, hy, hR⟩ := h
  unfold wpListIn
  simp only [Region.wanted, if_true]
  refine ⟨fun _ _ => trivial, ?_⟩
  have hrun : (execOp a.eval ⟨some d, .call ⟨.value c, xs.toArray, ts⟩, ty, pos, aft, none⟩).run P w = .ok (.round l fn tmps ac body) w := by
    simp [execOp, resolve, ha.ev hc, ha.evL hx, Deferred.ofValue, invoke, hy]
  rw [show (Oper.semAt (fw n.ro).round a.eval ⟨some d, .call ⟨.value c, xs.toArray, ts⟩, ty, pos, aft, none⟩).run P w = _ from semAt_run hrun (fun d w' e => by cases e)]
  rw [Oper.uponIn_round]
  refine ⟨fun h => by simp [fw] at h, ?_⟩
  rw [hro]
  refine RoundIn.mono hR ?_
  rintro e w' ⟨b, rfl, hb⟩
  have := k b w' hb h2 _ (ha.put h1 (.bool b))
  rw [hro] at this
  exact this

/-- what stands behind the first half of a sequence -/
def VR (P : Program) (n : Cx) (B y : Code) (fr : Fr) (w : World) (Q : Exit → Fr → World → Prop) : Prop :=
  codeOk n.sz B = true → codeOk n.sz y = true → ∀ a, Ag n fr a → B.wpIn (fw n.ro) 0 P (Exit.then (y.wpIn (fw n.ro) 0 P (up n Q)) (up n Q)) a w
def ThnR (P : Program) (n : Cx) (B y : Code) (Q : Exit → Fr → World → Prop) : Exit → Fr → World → Prop
  | .normal, fr, w => VR P n B y fr w Q
  | e, fr, w => Q e fr w
theorem v_range_seq {A B y : Code} (h : V P n A fr w (ThnR P n B y Q)) : V P n (.seq (.seq A B) y) fr w Q := by
  unfold V at h ⊢
  intro hok a ha
  simp only [codeOk, Bool.and_eq_true] at hok
  refine wpIn_seq (wpIn_seq (wpIn_mono (h hok.1.1 a ha) (fun e a' w' hh => ?_)))
  rcases hh with ⟨fr', h1, h2⟩ | ⟨rfl, h2⟩
  · cases e with
    | normal => exact h2 hok.1.2 hok.2 a' h1
    | _ => exact .inl ⟨fr', h1, h2⟩
  · exact .inr ⟨rfl, h2⟩

def zipFr : List Nat → List Value → Fr → Fr
  | p :: ps, v :: vs, fr => zipFr ps vs ((p, v) :: fr)
  | _, _, fr => fr
theorem zipFr_ag {C : Cx} (hds : C.ds = []) : ∀ (ps : List Nat) (vs : List Value) (fr : Fr) (t : Array Value), (ps.all fun p => Nat.blt p C.sz) = true → ps.length = vs.length → Ag C fr { tmps := t, defers := [] } →
    Ag C (zipFr ps vs fr) { tmps := (ps.zip vs).foldl (fun t (p, a) => t.setIfInBounds p a) t, defers := [] }
  | [], [], fr, t, _, _, h => h
  | p :: ps, v :: vs, fr, t, hp, hl, h => by
    simp only [List.all_cons, Bool.and_eq_true] at hp
    have h1 : p < C.sz := (Nat.blt_eq ..).mp hp.1
    have h2 := h.put h1 v
    exact zipFr_ag hds ps vs ((p, v) :: fr) (t.setIfInBounds p v) hp.2 (by simpa using hl) h2
  | [], _ :: _, _, _, _, hl, _ => by simp at hl
  | _ :: _, [], _, _, _, hl, _ => by simp at hl

/-- the jump by which a round leaves the loop -/
def jumpOf : Exit → Option Code
  | .ret => some .ret
  | .exit k => some (.exit k)
  | _ => none
/-- how a round may be left -/
def RPost (B : Nat) (J : World → Prop) (Ix : Exit → World → Prop) (W : World) : Exit → Fr → World → Prop
  | .normal, _, W' => Kn B W W' ∧ J W'
  | .ret, _, W' => Kn B W W' ∧ Ix .ret W'
  | .exit k, _, W' => Kn B W W' ∧ Ix (.exit k) W'
  | _, _, _ => False
def collD (D : Nat) : List Deferred := [{ target := .collected D, args := #[] }]
/-- the function's end behind a loop over a function -/
def PostE (n : Cx) (D : Nat) : Exit → Fr → World → Prop := fun e fr W => e = .ret ∧ ∀ a, Ag ⟨n.sz, none, collD D, n.esc⟩ fr a → n.esc a W

attribute [reducible] ThnR RPost
section
variable {fn : Func} {T : Value → World → Prop} {t t2 : Nat} {A : Addr} {u v2 : Value} {T1 : TypeId} {D : Nat}
theorem post_m {z : Nat} {ro : Option Nat} {ds : List Deferred} (hK : w.heap[D]? = some (.deferred (some []))) (hr : ∀ a, Ag ⟨z, none, collD D, EndM P fn T⟩ fr a → (results fn a.tmps).run P (w.putObj D (.deferred none)) = .ok v (w.putObj D (.deferred none)))
    (hT : T v (w.putObj D (.deferred none))) : PostE ⟨z, ro, ds, EndM P fn T⟩ D .ret fr w := ⟨rfl, fun a ha => ⟨D, v, ha.defers, hK, hr a ha, hT⟩⟩
theorem post_of (hr : ∀ a, Ag n fr a → (results fn a.tmps).run P w = .ok v w) (hT : T v w) : Post P n fn T .ret fr w := by unfold Post; exact ⟨v, hr, hT⟩
theorem res_ct (hf : fn.results = #[.cell t T1, .tmp t2]) (hg : Fr.get fr t = some (.pointer (some A))) (hg2 : Fr.get fr t2 = some v2) (hagg : ∀ w, (isAgg T1).run P w = .ok false w) (hc : w.cell? A = some u) {a : Act} (ha : Ag n fr a) : (results fn a.tmps).run P w = .ok (.tuple #[u, v2]) w := by
  have h1 : a.tmps.getD t undef = .pointer (some A) := by simp [Array.getD_eq_getD_getElem?, ha.at_ t _ hg]
  have h2 : a.tmps.getD t2 undef = v2 := by simp [Array.getD_eq_getD_getElem?, ha.at_ t2 _ hg2]
  simp only [Array.getD_eq_getD_getElem?] at h1 h2
  simp [results, hf, h1, h2, asAddr, loadVar, hagg, hc]
theorem res_cc {A2 : Addr} {u2 : Value} {T2 : TypeId} (hf : fn.results = #[.cell t T1, .cell t2 T2]) (hg : Fr.get fr t = some (.pointer (some A))) (hg2 : Fr.get fr t2 = some (.pointer (some A2))) (hagg : ∀ w, (isAgg T1).run P w = .ok false w) (hagg2 : ∀ w, (isAgg T2).run P w = .ok false w) (hc : w.cell? A = some u) (hc2 : w.cell? A2 = some u2) {a : Act} (ha : Ag n fr a) : (results fn a.tmps).run P w = .ok (.tuple #[u, u2]) w := by
  have h1 : a.tmps.getD t undef = .pointer (some A) := by simp [Array.getD_eq_getD_getElem?, ha.at_ t _ hg]
  have h2 : a.tmps.getD t2 undef = .pointer (some A2) := by simp [Array.getD_eq_getD_getElem?, ha.at_ t2 _ hg2]
  simp only [Array.getD_eq_getD_getElem?] at h1 h2
  simp [results, hf, h1, h2, asAddr, loadVar, hagg, hagg2, hc, hc2]
theorem res_c (hf : fn.results = #[.cell t T1]) (hg : Fr.get fr t = some (.pointer (some A))) (hagg : ∀ w, (isAgg T1).run P w = .ok false w) (hc : w.cell? A = some u) {a : Act} (ha : Ag n fr a) : (results fn a.tmps).run P w = .ok u w := by
  have h1 : a.tmps.getD t undef = .pointer (some A) := by simp [Array.getD_eq_getD_getElem?, ha.at_ t _ hg]
  simp only [Array.getD_eq_getD_getElem?] at h1
  simp [results, hf, h1, asAddr, loadVar, hagg, hc]
theorem res_t (hf : fn.results = #[.tmp t]) (hg : Fr.get fr t = some v) {a : Act} (ha : Ag n fr a) : (results fn a.tmps).run P w = .ok v w := by
  rw [results_tmp hf]; simp [Array.getD_eq_getD_getElem?, ha.at_ t v hg]
theorem res_tt (hf : fn.results = #[.tmp t, .tmp t2]) (hg : Fr.get fr t = some v) (hg2 : Fr.get fr t2 = some v2) {a : Act} (ha : Ag n fr a) : (results fn a.tmps).run P w = .ok (.tuple #[v, v2]) w := by
  rw [results_tmp2 hf]; simp [Array.getD_eq_getD_getElem?, ha.at_ t v hg, ha.at_ t2 v2 hg2]
end

set_option maxHeartbeats 1000000 in
theorem v_range {id : Nat} {g : Operand} {ps : List Nat} {ac body y : Code} {gf : FuncId} {lb : List Value} (N : Nat) (args : Nat → List Value) (I : Nat → World → Prop) (Ix : Exit → World → Prop) (FB : Nat → Fr)
    (he : Enters P gf) (hg : Fr.ev fr g = some (.func (.func gf) #[] lb.toArray)) (hps : ∀ k, ps.length = (args k).length) (hI : ∀ k, Abd w.heap.size (I k)) (hIx : ∀ e, Abd w.heap.size (Ix e)) (h0 : I 0 w)
    (hiter : ∀ (l : Nat) (J Jx : Nat → World → Prop) (W : World), LeG w W → (∀ k W, J k W → I k W) → (∀ k W W', J k W → LeG W W' → J k W') → (∀ k W W', Jx k W → LeG W W' → Jx k W') → Rounds P l args N J Jx → J 0 W →
      Gives P gf (Value.func (.yield l) #[] #[] :: lb).toArray W fun _ W' => J N W' ∨ ∃ k, Jx k W')
    (hassign : ∀ l k W, V P ⟨n.sz, some l, [], fun _ _ => False⟩ ac (zipFr ps (args k) fr) W fun e fr' W' => e = .normal ∧ W' = W ∧ Sub (FB k) fr')
    (hbody : ∀ l k W, k < N → I k W → V P ⟨n.sz, some l, [], fun _ _ => False⟩ body (FB k) W (RPost w.heap.size (I (k + 1)) Ix W))
    (hdone : ∀ D W, w.heap.size ≤ D → W.heap[D]? = some (.deferred (some [])) → I N W → V P ⟨n.sz, none, collD D, n.esc⟩ y fr W (PostE n D))
    (hret : ∀ D W, w.heap.size ≤ D → W.heap[D]? = some (.deferred (some [])) → Ix .ret W → PostE n D .ret fr W)
    (hexit : ∀ j D W, w.heap.size ≤ D → W.heap[D]? = some (.deferred (some [])) → Ix (.exit j) W → j = id ∧ V P ⟨n.sz, none, collD D, n.esc⟩ y fr W (PostE n D))
    (hro : n.ro = none := by rfl) (hds : n.ds = [] := by rfl) (hps2 : (ps.all fun p => Nat.blt p n.sz) = true := by rfl) (hok1 : codeOk n.sz ac = true := by kernel_rfl) (hok2 : codeOk n.sz body = true := by kernel_rfl) :
    VR P n (.block id (.rangeFunc g ps.toArray ac body)) y fr w Q := by
  unfold V at hassign hbody
  intro _ hokY a ha
  rw [fw_none hro]
  refine wpIn_block (wpIn_rangeFunc fun fn _ => ?_)
  obtain ⟨rec, hrec⟩ : ∃ rec : LoopState → Option Code → Loop, rec = fun st pe => { state := st, pending := pe, fn, tmps := a.tmps, params := ps.toArray, assign := ac, body, defers := w.heap.size } := ⟨_, rfl⟩
  obtain ⟨W1, hW1⟩ : ∃ W1, (w.alloc (.deferred (some []))).alloc (.loop (rec .ready none)) = W1 := ⟨_, rfl⟩
  obtain ⟨l, hl⟩ : ∃ l, l = w.heap.size + 1 := ⟨_, rfl⟩
  have hL1 : W1.heap[l]? = some (.loop (rec .ready none)) := by
    rw [← hW1, hl]; have := World.alloc_heap_new (w.alloc (.deferred (some []))) (.loop (rec .ready none)); rwa [World.size_alloc] at this
  have hK1 : W1.heap[w.heap.size]? = some (.deferred (some [])) := by
    rw [← hW1]; exact (Below.heap_alloc _ _ _ (by simp)).trans (World.alloc_heap_new w _)
  have hg1 : LeG w W1 := by
    rw [← hW1]; exact ((Below.refl _ w).alloc (Nat.le_refl _) _).alloc (by simp) _
  have hact : Ag ⟨n.sz, none, collD w.heap.size, n.esc⟩ fr { a with defers := collD w.heap.size ++ a.defers } := ⟨by rw [ha.defers, hds]; rfl, ha.size, ha.at_⟩
  -- behind the loop
  have hend : ∀ W, W.heap[w.heap.size]? = some (.deferred (some [])) → (V P ⟨n.sz, none, collD w.heap.size, n.esc⟩ y fr W (PostE n w.heap.size)) → y.wpIn Fence.wide 0 P (up n Q) { a with defers := collD w.heap.size ++ a.defers } W := by
    intro W hD hV
    unfold V at hV
    refine wpIn_mono (hV hokY _ hact) ?_
    rintro e a' w' (⟨fr', h1, rfl, h2⟩ | ⟨rfl, h2⟩)
    · exact .inr ⟨rfl, h2 a' h1⟩
    · exact .inr ⟨rfl, h2⟩
  have hendR : ∀ W, PostE n w.heap.size .ret fr W → up n Q .ret { a with defers := collD w.heap.size ++ a.defers } W := fun W h => .inr ⟨rfl, h.2 _ hact⟩
  refine ⟨l, collD w.heap.size, W1, { target := .fn (.func gf) lb.toArray, args := #[.func (.yield l) #[] #[]] }, W1, gf, #[.func (.yield l) #[] #[]] ++ lb.toArray, W1, ?_, ?_, fun _ _ => trivial, ?_, fun h => by simp [Fence.wide] at h, ?_⟩
  · rw [← hW1, hrec, hl]; exact run_enterLoop_outer _ _ _ _ _
  · simp only [resolve, ha.ev hg]
    simp [go_sem]
  · simp [invoke, he _ W1]
  · -- the rounds
    have hJ : ∀ (k : Nat) (st : LoopState) (pe : Option Code) (X : World → Prop), Abd w.heap.size X → ∀ W W', (X W ∧ W.heap[l]? = some (.loop (rec st pe)) ∧ W.heap[w.heap.size]? = some (.deferred (some []))) → LeG W W' →
        (X W' ∧ W'.heap[l]? = some (.loop (rec st pe)) ∧ W'.heap[w.heap.size]? = some (.deferred (some []))) := fun k st pe X hX W W' h hh =>
      ⟨hX W W' h.1 (Nc.of_leg hh), (hh.block _ (Array.getElem?_eq_some_iff.1 h.2.1).1).trans h.2.1, (hh.block _ (Array.getElem?_eq_some_iff.1 h.2.2).1).trans h.2.2⟩
    have hlw : w.heap.size ≤ l := by omega
    have hit := hiter l (fun k W => I k W ∧ W.heap[l]? = some (.loop (rec .ready none)) ∧ W.heap[w.heap.size]? = some (.deferred (some [])))
      (fun _ W => ∃ e c, jumpOf e = some c ∧ Ix e W ∧ W.heap[l]? = some (.loop (rec .done (some c))) ∧ W.heap[w.heap.size]? = some (.deferred (some []))) W1 hg1 (fun k W h => h.1)
      (fun k => hJ k .ready none (I k) (hI k)) (fun k W W' ⟨e, c, h1, h2⟩ hh => ⟨e, c, h1, hJ k .done (some c) (Ix e) (hIx e) W W' h2 hh⟩) ?_ ⟨hI 0 w W1 h0 (Nc.of_leg hg1), hL1, hK1⟩
    · unfold Gives at hit
      have hc := hit.2
      rw [show (Value.func (.yield l) #[] #[] :: lb).toArray = (#[.func (.yield l) #[] #[]] ++ lb.toArray : Array Value) by simp] at hc
      refine callsIn_wide.2 (hc.mono ?_)
      rintro e W2 ⟨v, rfl, hh⟩
      rcases hh with ⟨hi, hL, hK⟩ | ⟨k, e, c, hj, hi, hL, hK⟩
      · refine ⟨none, _, by have := run_endLoop (P := P) hL (by rw [hrec]; simp); rw [hrec] at this; exact this, ?_⟩
        exact hend _ ((World.putObj_heap_other (by omega)).trans hK) (hdone _ _ (Nat.le_refl _) ((World.putObj_heap_other (by omega)).trans hK) (hI N _ _ hi (Nc.put _ hlw hL rfl)))
      · refine ⟨some c, _, by have := run_endLoop (P := P) hL (by rw [hrec]; simp); rw [hrec] at this; exact this, ?_⟩
        have hi' := hIx e _ _ hi (Nc.put (.loop { rec .done (some c) with state := .exhausted }) hlw hL rfl)
        have hK' : (W2.putObj l (.loop { rec .done (some c) with state := .exhausted })).heap[w.heap.size]? = some (.deferred (some [])) := (World.putObj_heap_other (by omega)).trans hK
        rw [hrec] at hi' hK'
        cases e with
        | ret => cases hj; exact wpIn_ret (hendR _ (hret _ _ (Nat.le_refl _) hK' hi'))
        | exit j =>
          cases hj
          obtain ⟨rfl, hV⟩ := hexit j _ _ (Nat.le_refl _) hK' hi'
          refine wpIn_exit ?_
          have := hend _ hK' hV
          simpa [Exit.inBlock, Exit.then] using this
        | _ => cases hj
    · rintro k W ⟨hi, hL, hK⟩ hk
      have hy := run_yield (P := P) (args := (args k).toArray) hL (by rw [hrec]; simpa using (hps k).symm)
      rw [hrec] at hy
      refine ⟨fn, _, ac, body, hy, roundIn_of_wpIn trivial ?_⟩
      have hag0 : Ag ⟨n.sz, some l, [], fun _ _ => False⟩ fr { tmps := a.tmps, defers := [] } := ⟨rfl, ha.size, ha.at_⟩
      have hag := zipFr_ag (C := ⟨n.sz, some l, [], fun _ _ => False⟩) rfl ps (args k) fr a.tmps hps2 (hps k) hag0
      have ht : ((ps.toArray.zip (args k).toArray).foldl (fun tmps (t, a) => tmps.setIfInBounds t a) a.tmps) = (ps.zip (args k)).foldl (fun t (p, a) => t.setIfInBounds p a) a.tmps := by simp
      have hlt : l < W.heap.size := (Array.getElem?_eq_some_iff.1 hL).1
      have hb := run_beginRound (P := P) hL (by rw [hrec])
      show Code.wpIn (fw (some l)) 0 P _ _ _ W
      have hkL : (W.putObj l (.loop { rec .ready none with state := .busy })).heap[l]? = some (.loop { rec .ready none with state := .busy }) := World.putObj_heap_same hlt
      have hkK : (W.putObj l (.loop { rec .ready none with state := .busy })).heap[w.heap.size]? = some (.deferred (some [])) := (World.putObj_heap_other (by omega)).trans hK
      have hkI := hI k _ _ hi (Nc.put (.loop { rec .ready none with state := .busy }) hlw hL rfl)
      rw [ht]
      refine wpIn_mono (hassign l k W hok1 _ hag) ?_
      rintro e a1 W' (⟨fr1, h1, rfl, rfl, h3⟩ | ⟨_, h⟩)
      · refine ⟨_, hb, wpIn_mono (hbody l k _ hk hkI hok2 a1 (h1.sub h3)) ?_⟩
        have fin : ∀ (jump : Option Code) (W3 : World), Kn w.heap.size (W'.putObj l (.loop { rec .ready none with state := .busy })) W3 →
            (Instr.endRound l jump).run P W3 = .ok (.bool jump.isNone) (W3.putObj l (.loop (rec (if jump.isNone then .ready else .done) jump))) ∧ Nc w.heap.size W3 (W3.putObj l (.loop (rec (if jump.isNone then .ready else .done) jump))) ∧
            (W3.putObj l (.loop (rec (if jump.isNone then .ready else .done) jump))).heap[l]? = some (.loop (rec (if jump.isNone then .ready else .done) jump)) ∧
            (W3.putObj l (.loop (rec (if jump.isNone then .ready else .done) jump))).heap[w.heap.size]? = some (.deferred (some [])) := fun jump W3 hk3 => by
          have hl3 := hk3.block _ _ hlw hkL rfl
          have hd3 := hk3.block _ _ (Nat.le_refl _) hkK rfl
          have := run_endRound (P := P) jump hl3
          refine ⟨?_, Nc.put _ hlw hl3 rfl, World.putObj_heap_same (Array.getElem?_eq_some_iff.1 hl3).1, (World.putObj_heap_other (by omega)).trans hd3⟩
          rw [hrec] at this ⊢
          exact this
        rintro e a3 W3 (⟨fr3, h4, h5⟩ | ⟨_, h⟩)
        · cases e with
          | normal =>
            obtain ⟨h6, h7⟩ := h5
            obtain ⟨r1, r2, r3, r4⟩ := fin none W3 h6
            exact ⟨_, _, r1, true, rfl, fun _ => ⟨hI _ _ _ h7 r2, r3, r4⟩, fun h => by cases h⟩
          | ret =>
            obtain ⟨h6, h7⟩ := h5
            obtain ⟨r1, r2, r3, r4⟩ := fin (some .ret) W3 h6
            exact ⟨_, _, r1, (some Code.ret).isNone, rfl, fun h => by simp at h, fun _ => ⟨.ret, .ret, rfl, hIx .ret _ _ h7 r2, r3, r4⟩⟩
          | exit j =>
            obtain ⟨h6, h7⟩ := h5
            obtain ⟨r1, r2, r3, r4⟩ := fin (some (.exit j)) W3 h6
            exact ⟨_, _, r1, (some (Code.exit j)).isNone, rfl, fun h => by simp at h, fun _ => ⟨.exit j, .exit j, rfl, hIx (.exit j) _ _ h7 r2, r3, r4⟩⟩
          | _ => exact h5.elim
        · exact h.elim
      · exact h.elim
end
section
variable {P : Program} {n : Cx} {fr : Fr} {w : World} {ty T : TypeId}
theorem os_alloc1 {z0 : Value} (hz : ∀ w, (zeroValue T).run P w = .ok z0 w) (h1 : z0.cells = #[z0]) : OS P n (.alloc T) ty fr w (.pointer (some ⟨w.heap.size, 0, none⟩)) (w.alloc (.cells [z0].toArray T)) := by
  have := os_alloc (P := P) (n := n) (ty := ty) (fr := fr) (w := w) hz
  rw [h1] at this
  exact this
end
end Go.Proofs.Ytpojijnjdlnokaa
