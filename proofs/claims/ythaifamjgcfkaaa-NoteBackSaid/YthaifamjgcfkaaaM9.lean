/- Texts joined: KitL Tw KitO KitC. -/
import Derived.Test.YthaifamjgcfkaaaM8
import Derived.Laws.StructEq
import Derived.Deep.MidRow
/- The law's kit: lists that are lent, with marks behind their ends; whether they, and the marks, are still as they were. -/
namespace Go.Proofs.Ythaifamjgcfkaaa
open Go.RowKit
set_option linter.unusedVariables false

def markZ (k i : Int) : Int := 1000003 * (k + 7) + i
def markB (k i : Int) : Int := IntKind.u8.wrap ((IntKind.u64.wrap (IntKind.u64.wrap (markZ k i) * 11400714819323198485)).fdiv (2 ^ min (56 : Int).toNat IntKind.u64.bits))

theorem kit_mark (k i : Int) (w : World) (hk : 0 ≤ k ∧ k ≤ 1000000000) (hi : 0 ≤ i ∧ i ≤ 1000000000000000) : Gives Try.prog 59 #[.int .i64 k, .int .i64 i] w fun v w' => v = .int .i64 (markZ k i) ∧ w' = w := by
  refine gives_enter Try.call59 Try.func59 rfl rfl rfl (by kernel_rfl) ?_
  refine v_seq ?_
  refine v_region ?_
  refine vl_val (os_assign rfl) ?_
  refine vl_nil ?_
  refine v_seq ?_
  refine v_region ?_
  refine vl_val (os_move rfl) ?_
  refine vl_val (os_addi rfl rfl (by omega)) ?_
  refine vl_val (os_muli rfl rfl (by omega)) ?_
  refine vl_val (os_move rfl) ?_
  refine vl_val (os_addi rfl rfl (by omega)) ?_
  refine vl_val (os_assign rfl) ?_
  refine vl_nil ?_
  refine v_ret ?_
  exact post_ret rfl rfl (⟨rfl, rfl⟩)
theorem kit_markByte (k i : Int) (w : World) (hk : 0 ≤ k ∧ k ≤ 1000000000) (hi : 0 ≤ i ∧ i ≤ 1000000000000000) : Gives Try.prog 84 #[.int .i64 k, .int .i64 i] w fun v w' => v = .int .u8 (markB k i) ∧ w' = w := by
  refine gives_enter Try.call84 Try.func84 rfl rfl rfl (by kernel_rfl) ?_
  refine v_seq ?_
  refine v_region ?_
  refine vl_val (os_assign rfl) ?_
  refine vl_nil ?_
  refine v_seq ?_
  refine v_region ?_
  refine vl_val (os_move rfl) ?_
  refine vl_val (os_move rfl) ?_
  refine vl_call (kit_mark k i w hk hi) rfl ?_
  rintro v w ⟨rfl, rfl⟩
  refine vl_val (os_conv Try.underlying3 Try.underlying183 rfl (rfl)) ?_
  refine vl_val (os_mul rfl rfl (rfl)) ?_
  refine vl_val (os_shr rfl rfl (by omega) (rfl)) ?_
  refine vl_val (os_conv Try.underlying183 Try.underlying5 rfl (rfl)) ?_
  refine vl_val (os_assign rfl) ?_
  refine vl_nil ?_
  refine v_ret ?_
  exact post_ret rfl rfl (⟨rfl, rfl⟩)

def marks (f : Int → Int → Int) (n : Nat) : List Int := (List.range n).map fun (i : Nat) => f 1 (i : Int)
theorem marks_len (f : Int → Int → Int) (n : Nat) : (marks f n).length = n := by simp [marks]
theorem marks_succ (f : Int → Int → Int) (n : Nat) : marks f (n + 1) = marks f n ++ [f 1 n] := by simp [marks, List.range_succ]
theorem marks_at (f : Int → Int → Int) {n i : Nat} (hi : i < n) : (marks f n).getD i 0 = f 1 i := by simp [marks, hi]
/-- v is a list that the kit has lent: a row of its own that holds zs, and the marks behind -/
def Lent (w : World) (B : Nat) (t : TypeId) (k : IntKind) (f : Int → Int → Int) (v : Value) (zs : List Int) : Prop :=
  ∃ g C, v = .slice (some ⟨g, 0, none⟩) zs.length C ∧ zs.length + 12 ≤ C ∧ OwnK w B t k (.slice (some ⟨g, 0, none⟩) (zs ++ marks f 12).length C) (zs ++ marks f 12)
theorem Lent.keep {w w' B t k f v zs} (h : Lent w B t k f v zs) (hb : Below w.heap.size w w') : Lent w' B t k f v zs := by
  obtain ⟨g, C, e, hc, ho⟩ := h
  exact ⟨g, C, e, hc, Own.keepAll ho hb⟩
theorem Lent.form {w B t k f v zs} (h : Lent w B t k f v zs) : ∃ g C, v = .slice (some ⟨g, 0, none⟩) zs.length C ∧ zs.length + 12 ≤ C ∧ C ≤ maxLen ∧ B ≤ g ∧ g < w.heap.size ∧ Rd w k (some ⟨g, 0, none⟩) zs := by
  obtain ⟨g, C, e, hc, ho⟩ := h
  have h1 := World.ownsRow.lt ho g rfl
  have h2 := (OwnK.rd ho).take zs.length
  rw [List.take_left] at h2
  obtain ⟨g', c', e', _, _, _, hm⟩ := ho.row (by rw [List.length_append, marks_len]; omega)
  cases e'
  exact ⟨g, C, e, hc, hm, h1.1, h1.2, h2⟩
theorem ints_one (k : IntKind) (zs : List Int) : ∀ u ∈ zs.map (Value.int k), u.oneCell' = true := by
  intro u hu
  obtain ⟨z, _, rfl⟩ := List.mem_map.1 hu
  rfl

set_option maxHeartbeats 1000000 in
theorem kit_LentInts (A : Option Addr) (n c : Nat) (zs : List Int) (w : World) (ha : Rd w .i64 A zs) (hn : n = zs.length) (hb : (n + 12) * 8 ≤ 140737488355328) : Gives Try.prog 24 #[.slice A n c] w fun v w' => Lent w' w.heap.size 3 .i64 markZ v zs ∧ Below w.heap.size w w' := by
  refine gives_enter Try.call24 Try.func24 rfl rfl rfl (by kernel_rfl) ?_
  refine v_seq ?_
  refine v_region ?_
  refine vl_val (os_assign rfl) ?_
  refine vl_nil ?_
  refine v_seq ?_
  refine v_region ?_
  refine vl_val (os_move rfl) ?_
  refine vl_val (os_len Try.underlying47 rfl) ?_
  refine vl_val (os_addi rfl rfl (by omega)) ?_
  refine vl_some (ot_make0 (l := n + 12) Try.underlying47 ti_int rfl rfl rfl rfl (by omega) (by simp [maxLen]; omega) w.heap.size (Nat.le_refl _)) ?_
  rintro v1 w1 ⟨rfl, ho, hg⟩
  have hb1 : Below w.heap.size w w1 := (Below.refl _ _).grown hg (Nat.le_refl _) (fun k hk => by cases hk)
  refine vl_val (os_assign rfl) ?_
  refine vl_nil ?_
  refine v_seq ?_
  refine v_region ?_
  refine vl_val (os_move rfl) ?_
  refine vl_val (os_move rfl) ?_
  refine vl_some (ot_append Try.underlying47 ti_int rfl rfl rfl ho (ha.keep hb1).toC (by simp [hn]) (ints_one _ _) (by simp; omega) (by simp [maxLen]; omega) hb1.size) ?_
  rintro v2 w2 ⟨ho2, hg2⟩
  have hb2 := Own.below hb1 ho hg2 (Nat.le_refl _) hb1.size
  refine vl_val (os_assign rfl) ?_
  refine vl_nil ?_
  refine v_seq ?_
  refine v_seq ?_
  refine v_region ?_
  refine vl_val (os_assign rfl) ?_
  refine vl_nil ?_
  refine v_block ?_
  refine v_loop2 [(0, _)] (fun (v : Value) (i : Nat) => [(3, v), (4, .int .i64 i)]) (fun v i w' => i ≤ 12 ∧ OwnK w' w.heap.size 3 .i64 v (zs ++ marks markZ i) ∧ Below w.heap.size w w') (fun v i => 12 - i) (v2) (0) ⟨rfl, trivial⟩ ⟨rfl, rfl, trivial⟩ (⟨by omega, by simpa [OwnK, marks] using ho2, hb2⟩) ?_
  rintro v i w' ⟨hi, ho3, hb3⟩
  refine v_seq ?_
  refine v_seq ?_
  refine v_region ?_
  refine vl_val (os_move rfl) ?_
  refine vl_val (os_lss rfl rfl) ?_
  refine vl_nil ?_
  refine v_cond_d rfl (fun h => ?_) (fun h => ?_)
  · refine v_skip ?_
    refine v_seq ?_
    refine v_block ?_
    refine v_region ?_
    refine vl_val (os_move rfl) ?_
    refine vl_val (os_move rfl) ?_
    refine vl_call (kit_mark 1 i w' (by omega) (by omega)) rfl ?_
    rintro v4 w' ⟨rfl, rfl⟩
    have ho4 := Own.alloc ho3 (.cells [Value.int .i64 (markZ 1 i)].toArray 3)
    have hb4 := hb3.alloc hb3.size (.cells [Value.int .i64 (markZ 1 i)].toArray 3)
    refine vl_val (os_lit Try.underlying47 Try.sizeOf3 Try.zeroValue3 rfl rfl rfl rfl (by decide)) ?_
    refine vl_some (ot_append Try.underlying47 ti_int rfl rfl rfl ho4 (rdc_alloc w' [Value.int .i64 (markZ 1 i)] _) rfl (by simp [Value.oneCell']) (by simp [marks_len]; omega) (by simp [maxLen, marks_len]; omega) hb4.size) ?_
    rintro v5 w5 ⟨ho5, hg5⟩
    refine vl_val (os_assign rfl) ?_
    refine vl_nil ?_
    refine v_region ?_
    refine vl_val (os_move rfl) ?_
    refine vl_val (os_addi rfl rfl (by omega)) ?_
    refine vl_val (os_assign rfl) ?_
    refine vl_nil ?_
    exact ⟨⟨v5, i + 1⟩, ⟨rfl, trivial⟩, ⟨rfl, rfl, trivial⟩, ⟨by omega, by rw [marks_succ, ← List.append_assoc]; simpa [OwnK] using ho5, Own.below hb4 ho4 hg5 (Nat.le_refl _) hb4.size⟩, by dsimp only; omega⟩
  · obtain rfl : i = 12 := by omega
    obtain ⟨g, C, rfl, h1, h2, h3, h4⟩ := ho3.row (by simp [marks_len])
    rw [List.length_append, marks_len] at h3
    refine v_exit ?_
    refine v_seq ?_
    refine v_region ?_
    refine vl_val (os_move rfl) ?_
    refine vl_val (os_move rfl) ?_
    refine vl_val (os_len Try.underlying47 rfl) ?_
    refine vl_val (os_slice_h Try.underlying47 Try.sizeOf3 rfl rfl (h := n) (by omega) (by omega)) ?_
    refine vl_val (os_assign rfl) ?_
    refine vl_nil ?_
    refine v_ret ?_
    exact post_ret rfl rfl (⟨⟨g, C, by rw [hn], h3, ho3⟩, hb3⟩)
set_option maxHeartbeats 1000000 in
theorem kit_KeptInts (v : Value) (B : Nat) (A : Option Addr) (n c : Nat) (zs : List Int) (w : World) (hv : Lent w B 3 .i64 markZ v zs) (ha : Rd w .i64 A zs) (hn : n = zs.length) (hb : (n + 12) * 8 ≤ 140737488355328) : Gives Try.prog 33 #[v, .slice A n c] w fun v w' => v = .bool true ∧ LeD w w' := by
  obtain ⟨g, C, rfl, hC, ho⟩ := hv
  refine gives_enter Try.call33 Try.func33 rfl rfl rfl (by kernel_rfl) ?_
  refine v_seq ?_
  refine v_region ?_
  refine vl_val (os_assign rfl) ?_
  refine vl_nil ?_
  refine v_seq ?_
  refine v_seq ?_
  refine v_region ?_
  refine vl_val (os_move rfl) ?_
  refine vl_val (os_len Try.underlying47 rfl) ?_
  refine vl_val (os_move rfl) ?_
  refine vl_val (os_len Try.underlying47 rfl) ?_
  refine vl_val (os_neq rfl rfl) ?_
  refine vl_nil ?_
  refine v_cond_no rfl (by omega) ?_
  refine v_skip ?_
  refine v_seq ?_
  refine v_region ?_
  refine vl_val (os_move rfl) ?_
  refine vl_val (os_move rfl) ?_
  refine vl_val (os_len Try.underlying47 rfl) ?_
  refine vl_val (os_addi rfl rfl (by omega)) ?_
  refine vl_val (os_slice_h Try.underlying47 Try.sizeOf3 rfl rfl (h := n + 12) (by omega) (by omega)) ?_
  refine vl_val (os_assign rfl) ?_
  refine vl_nil ?_
  refine v_seq ?_
  refine v_seq ?_
  refine v_region ?_
  refine vl_val (os_assign rfl) ?_
  refine vl_nil ?_
  refine v_block ?_
  refine v_loop [(1, _), (5, _)] (fun (i : Nat) => [(6, .int .i64 i)]) (fun i w' => i ≤ n + 12 ∧ LeD w w') (fun i => n + 12 - i) (0) ⟨rfl, rfl, trivial⟩ ⟨rfl, trivial⟩ (⟨by omega, lee_d.refl _⟩) ?_
  rintro i w' ⟨hi, hq⟩
  refine v_seq ?_
  refine v_seq ?_
  refine v_region ?_
  refine vl_val (os_move rfl) ?_
  refine vl_val (os_move rfl) ?_
  refine vl_val (os_len Try.underlying47 rfl) ?_
  refine vl_val (os_lss rfl rfl) ?_
  refine vl_nil ?_
  refine v_cond_d rfl (fun h => ?_) (fun h => ?_)
  · have hc := OwnK.cell (Own.led ho hq : OwnK w' B _ _ _ _) (i := i) (by rw [List.length_append, marks_len]; omega)
    rcases Nat.lt_or_ge i n with hlt | hge
    · obtain ⟨bA, oA, rfl, hcA⟩ := (ha.led hq) (by omega)
      have hcA := hcA i (by omega)
      rw [show (zs ++ marks markZ 12).getD i 0 = zs.getD i 0 by simp [List.getElem?_append, show i < zs.length by omega]] at hc
      refine v_skip ?_
      refine v_seq ?_
      refine v_block ?_
      refine v_seq ?_
      refine v_region_t LeD _ mixed (by kernel_rfl) lee_d (led_start _) ?_
      refine vt_val (fun w hw => os_move rfl) ?_
      refine vt_val (fun w hw => os_move rfl) ?_
      refine vt_val (fun w hw => os_len Try.underlying47 rfl) ?_
      refine vt_val (fun w hw => os_t (os_lss rfl rfl) (by omega)) ?_
      refine vt_val (fun w hw => os_move rfl) ?_
      refine vt_valg rfl (fun w hw => os_move rfl) ?_
      refine vt_valg rfl (fun w hw => os_move rfl) ?_
      refine vt_valg rfl (fun w hw => os_ix Try.underlying47 Try.sizeOf3 rfl rfl (i := i) (by omega) (by omega)) ?_
      refine vt_valg rfl (fun w hw => os_load Try.isAgg3 rfl (led_cell hw (by rw [Nat.zero_add]; exact hc))) ?_
      refine vt_valg rfl (fun w hw => os_move rfl) ?_
      refine vt_valg rfl (fun w hw => os_move rfl) ?_
      refine vt_valg rfl (fun w hw => os_ix Try.underlying47 Try.sizeOf3 rfl rfl (i := i) (by omega) (by omega)) ?_
      refine vt_valg rfl (fun w hw => os_load Try.isAgg3 rfl (led_cell hw (hcA))) ?_
      refine vt_valg rfl (fun w hw => os_t (os_eql rfl rfl) (rfl)) ?_
      refine vt_valg rfl (fun w hw => os_not rfl) ?_
      refine vt_val (fun w hw => os_pick_t rfl rfl) ?_
      refine vt_val (fun w hw => os_move rfl) ?_
      refine vt_valg rfl (fun w hw => os_move rfl) ?_
      refine vt_valg rfl (fun w hw => os_move rfl) ?_
      refine vt_valg rfl (fun w hw => os_len Try.underlying47 rfl) ?_
      refine vt_valg rfl (fun w hw => os_f (os_geq rfl rfl) (by omega)) ?_
      refine vt_valg rfl (fun w hw => os_move rfl) ?_
      refine vt_skip rfl rfl ?_
      refine vt_skip rfl rfl ?_
      refine vt_skip rfl rfl ?_
      refine vt_skip rfl rfl ?_
      refine vt_skip rfl rfl ?_
      refine vt_skip rfl rfl ?_
      refine vt_skip rfl rfl ?_
      refine vt_skip rfl rfl ?_
      refine vt_skip rfl rfl ?_
      refine vt_skip rfl rfl ?_
      refine vt_skip rfl rfl ?_
      refine vt_valg rfl (fun w hw => os_pick_f rfl rfl) ?_
      refine vt_val (fun w hw => os_pick_f rfl rfl) ?_
      refine vt_nil (fun w hw => ?_)
      obtain ⟨q, rfl⟩ := hw
      refine v_cond_f rfl ?_
      refine v_skip ?_
      refine v_region ?_
      refine vl_val (os_move rfl) ?_
      refine vl_val (os_addi rfl rfl (by omega)) ?_
      refine vl_val (os_assign rfl) ?_
      refine vl_nil ?_
      exact ⟨i + 1, ⟨rfl, rfl, trivial⟩, ⟨rfl, trivial⟩, ⟨by omega, lee_d.trans hq ⟨q, rfl⟩⟩, by dsimp only; omega⟩
    · rw [show (zs ++ marks markZ 12).getD i 0 = markZ 1 ((i : Int) - (n : Int)) by
        have e : (zs ++ marks markZ 12).getD i 0 = (marks markZ 12).getD (i - zs.length) 0 := by simp [List.getElem?_append, show ¬ i < zs.length by omega]
        rw [e, marks_at _ (by omega)]; congr 1; omega] at hc
      refine v_skip ?_
      refine v_seq ?_
      refine v_block ?_
      refine v_seq ?_
      refine v_region_t LeD _ mixed (by kernel_rfl) lee_d (led_start _) ?_
      refine vt_val (fun w hw => os_move rfl) ?_
      refine vt_val (fun w hw => os_move rfl) ?_
      refine vt_val (fun w hw => os_len Try.underlying47 rfl) ?_
      refine vt_val (fun w hw => os_f (os_lss rfl rfl) (by omega)) ?_
      refine vt_val (fun w hw => os_move rfl) ?_
      refine vt_skip rfl rfl ?_
      refine vt_skip rfl rfl ?_
      refine vt_skip rfl rfl ?_
      refine vt_skip rfl rfl ?_
      refine vt_skip rfl rfl ?_
      refine vt_skip rfl rfl ?_
      refine vt_skip rfl rfl ?_
      refine vt_skip rfl rfl ?_
      refine vt_skip rfl rfl ?_
      refine vt_skip rfl rfl ?_
      refine vt_val (fun w hw => os_pick_f rfl rfl) ?_
      refine vt_val (fun w hw => os_move rfl) ?_
      refine vt_valg rfl (fun w hw => os_move rfl) ?_
      refine vt_valg rfl (fun w hw => os_move rfl) ?_
      refine vt_valg rfl (fun w hw => os_len Try.underlying47 rfl) ?_
      refine vt_valg rfl (fun w hw => os_t (os_geq rfl rfl) (by omega)) ?_
      refine vt_valg rfl (fun w hw => os_move rfl) ?_
      refine vt_valg rfl (fun w hw => os_move rfl) ?_
      refine vt_valg rfl (fun w hw => os_move rfl) ?_
      refine vt_valg rfl (fun w hw => os_ix Try.underlying47 Try.sizeOf3 rfl rfl (i := i) (by omega) (by omega)) ?_
      refine vt_valg rfl (fun w hw => os_load Try.isAgg3 rfl (led_cell hw (by rw [Nat.zero_add]; exact hc))) ?_
      refine vt_valg rfl (fun w hw => os_move rfl) ?_
      refine vt_valg rfl (fun w hw => os_move rfl) ?_
      refine vt_valg rfl (fun w hw => os_len Try.underlying47 rfl) ?_
      refine vt_valg rfl (fun w hw => os_subi rfl rfl (by omega)) ?_
      refine vt_callg rfl (v := _) (fun w hw => (kit_mark 1 ((i : Int) - (n : Int)) w (by omega) (by omega)).mono fun v w' hh => ⟨hh.1, by rw [hh.2]; exact lee_d.refl _⟩) rfl ?_
      refine vt_valg rfl (fun w hw => os_t (os_eql rfl rfl) (rfl)) ?_
      refine vt_valg rfl (fun w hw => os_not rfl) ?_
      refine vt_valg rfl (fun w hw => os_pick_t rfl rfl) ?_
      refine vt_val (fun w hw => os_pick_f rfl rfl) ?_
      refine vt_nil (fun w hw => ?_)
      obtain ⟨q, rfl⟩ := hw
      refine v_cond_f rfl ?_
      refine v_skip ?_
      refine v_region ?_
      refine vl_val (os_move rfl) ?_
      refine vl_val (os_addi rfl rfl (by omega)) ?_
      refine vl_val (os_assign rfl) ?_
      refine vl_nil ?_
      exact ⟨i + 1, ⟨rfl, rfl, trivial⟩, ⟨rfl, trivial⟩, ⟨by omega, lee_d.trans hq ⟨q, rfl⟩⟩, by dsimp only; omega⟩
  · refine v_exit ?_
    refine v_seq ?_
    refine v_region ?_
    refine vl_val (os_assign rfl) ?_
    refine vl_nil ?_
    refine v_ret ?_
    exact post_ret rfl rfl (⟨rfl, hq⟩)
set_option maxHeartbeats 1000000 in
theorem kit_LentBytes (A : Option Addr) (n c : Nat) (zs : List Int) (w : World) (ha : Rd w .u8 A zs) (hn : n = zs.length) (hb : (n + 12) * 8 ≤ 140737488355328) : Gives Try.prog 40 #[.slice A n c] w fun v w' => Lent w' w.heap.size 5 .u8 markB v zs ∧ Below w.heap.size w w' := by
  refine gives_enter Try.call40 Try.func40 rfl rfl rfl (by kernel_rfl) ?_
  refine v_seq ?_
  refine v_region ?_
  refine vl_val (os_assign rfl) ?_
  refine vl_nil ?_
  refine v_seq ?_
  refine v_region ?_
  refine vl_val (os_move rfl) ?_
  refine vl_val (os_len Try.underlying22 rfl) ?_
  refine vl_val (os_addi rfl rfl (by omega)) ?_
  refine vl_some (ot_make0 (l := n + 12) Try.underlying22 ti_u8 rfl rfl rfl rfl (by omega) (by simp [maxLen]; omega) w.heap.size (Nat.le_refl _)) ?_
  rintro v1 w1 ⟨rfl, ho, hg⟩
  have hb1 : Below w.heap.size w w1 := (Below.refl _ _).grown hg (Nat.le_refl _) (fun k hk => by cases hk)
  refine vl_val (os_assign rfl) ?_
  refine vl_nil ?_
  refine v_seq ?_
  refine v_region ?_
  refine vl_val (os_move rfl) ?_
  refine vl_val (os_move rfl) ?_
  refine vl_some (ot_append Try.underlying22 ti_u8 rfl rfl rfl ho (ha.keep hb1).toC (by simp [hn]) (ints_one _ _) (by simp; omega) (by simp [maxLen]; omega) hb1.size) ?_
  rintro v2 w2 ⟨ho2, hg2⟩
  have hb2 := Own.below hb1 ho hg2 (Nat.le_refl _) hb1.size
  refine vl_val (os_assign rfl) ?_
  refine vl_nil ?_
  refine v_seq ?_
  refine v_seq ?_
  refine v_region ?_
  refine vl_val (os_assign rfl) ?_
  refine vl_nil ?_
  refine v_block ?_
  refine v_loop2 [(0, _)] (fun (v : Value) (i : Nat) => [(3, v), (4, .int .i64 i)]) (fun v i w' => i ≤ 12 ∧ OwnK w' w.heap.size 5 .u8 v (zs ++ marks markB i) ∧ Below w.heap.size w w') (fun v i => 12 - i) (v2) (0) ⟨rfl, trivial⟩ ⟨rfl, rfl, trivial⟩ (⟨by omega, by simpa [OwnK, marks] using ho2, hb2⟩) ?_
  rintro v i w' ⟨hi, ho3, hb3⟩
  refine v_seq ?_
  refine v_seq ?_
  refine v_region ?_
  refine vl_val (os_move rfl) ?_
  refine vl_val (os_lss rfl rfl) ?_
  refine vl_nil ?_
  refine v_cond_d rfl (fun h => ?_) (fun h => ?_)
  · refine v_skip ?_
    refine v_seq ?_
    refine v_block ?_
    refine v_region ?_
    refine vl_val (os_move rfl) ?_
    refine vl_val (os_move rfl) ?_
    refine vl_call (kit_markByte 1 i w' (by omega) (by omega)) rfl ?_
    rintro v4 w' ⟨rfl, rfl⟩
    have ho4 := Own.alloc ho3 (.cells [Value.int .u8 (markB 1 i)].toArray 5)
    have hb4 := hb3.alloc hb3.size (.cells [Value.int .u8 (markB 1 i)].toArray 5)
    refine vl_val (os_lit Try.underlying22 Try.sizeOf5 Try.zeroValue5 rfl rfl rfl rfl (by decide)) ?_
    refine vl_some (ot_append Try.underlying22 ti_u8 rfl rfl rfl ho4 (rdc_alloc w' [Value.int .u8 (markB 1 i)] _) rfl (by simp [Value.oneCell']) (by simp [marks_len]; omega) (by simp [maxLen, marks_len]; omega) hb4.size) ?_
    rintro v5 w5 ⟨ho5, hg5⟩
    refine vl_val (os_assign rfl) ?_
    refine vl_nil ?_
    refine v_region ?_
    refine vl_val (os_move rfl) ?_
    refine vl_val (os_addi rfl rfl (by omega)) ?_
    refine vl_val (os_assign rfl) ?_
    refine vl_nil ?_
    exact ⟨⟨v5, i + 1⟩, ⟨rfl, trivial⟩, ⟨rfl, rfl, trivial⟩, ⟨by omega, by rw [marks_succ, ← List.append_assoc]; simpa [OwnK] using ho5, Own.below hb4 ho4 hg5 (Nat.le_refl _) hb4.size⟩, by dsimp only; omega⟩
  · obtain rfl : i = 12 := by omega
    obtain ⟨g, C, rfl, h1, h2, h3, h4⟩ := ho3.row (by simp [marks_len])
    rw [List.length_append, marks_len] at h3
    refine v_exit ?_
    refine v_seq ?_
    refine v_region ?_
    refine vl_val (os_move rfl) ?_
    refine vl_val (os_move rfl) ?_
    refine vl_val (os_len Try.underlying22 rfl) ?_
    refine vl_val (os_slice_h Try.underlying22 Try.sizeOf5 rfl rfl (h := n) (by omega) (by omega)) ?_
    refine vl_val (os_assign rfl) ?_
    refine vl_nil ?_
    refine v_ret ?_
    exact post_ret rfl rfl (⟨⟨g, C, by rw [hn], h3, ho3⟩, hb3⟩)
set_option maxHeartbeats 1000000 in
theorem kit_KeptBytes (v : Value) (B : Nat) (A : Option Addr) (n c : Nat) (zs : List Int) (w : World) (hv : Lent w B 5 .u8 markB v zs) (ha : Rd w .u8 A zs) (hn : n = zs.length) (hb : (n + 12) * 8 ≤ 140737488355328) : Gives Try.prog 42 #[v, .slice A n c] w fun v w' => v = .bool true ∧ LeD w w' := by
  obtain ⟨g, C, rfl, hC, ho⟩ := hv
  refine gives_enter Try.call42 Try.func42 rfl rfl rfl (by kernel_rfl) ?_
  refine v_seq ?_
  refine v_region ?_
  refine vl_val (os_assign rfl) ?_
  refine vl_nil ?_
  refine v_seq ?_
  refine v_seq ?_
  refine v_region ?_
  refine vl_val (os_move rfl) ?_
  refine vl_val (os_len Try.underlying22 rfl) ?_
  refine vl_val (os_move rfl) ?_
  refine vl_val (os_len Try.underlying22 rfl) ?_
  refine vl_val (os_neq rfl rfl) ?_
  refine vl_nil ?_
  refine v_cond_no rfl (by omega) ?_
  refine v_skip ?_
  refine v_seq ?_
  refine v_region ?_
  refine vl_val (os_move rfl) ?_
  refine vl_val (os_move rfl) ?_
  refine vl_val (os_len Try.underlying22 rfl) ?_
  refine vl_val (os_addi rfl rfl (by omega)) ?_
  refine vl_val (os_slice_h Try.underlying22 Try.sizeOf5 rfl rfl (h := n + 12) (by omega) (by omega)) ?_
  refine vl_val (os_assign rfl) ?_
  refine vl_nil ?_
  refine v_seq ?_
  refine v_seq ?_
  refine v_region ?_
  refine vl_val (os_assign rfl) ?_
  refine vl_nil ?_
  refine v_block ?_
  refine v_loop [(1, _), (5, _)] (fun (i : Nat) => [(6, .int .i64 i)]) (fun i w' => i ≤ n + 12 ∧ LeD w w') (fun i => n + 12 - i) (0) ⟨rfl, rfl, trivial⟩ ⟨rfl, trivial⟩ (⟨by omega, lee_d.refl _⟩) ?_
  rintro i w' ⟨hi, hq⟩
  refine v_seq ?_
  refine v_seq ?_
  refine v_region ?_
  refine vl_val (os_move rfl) ?_
  refine vl_val (os_move rfl) ?_
  refine vl_val (os_len Try.underlying22 rfl) ?_
  refine vl_val (os_lss rfl rfl) ?_
  refine vl_nil ?_
  refine v_cond_d rfl (fun h => ?_) (fun h => ?_)
  · have hc := OwnK.cell (Own.led ho hq : OwnK w' B _ _ _ _) (i := i) (by rw [List.length_append, marks_len]; omega)
    rcases Nat.lt_or_ge i n with hlt | hge
    · obtain ⟨bA, oA, rfl, hcA⟩ := (ha.led hq) (by omega)
      have hcA := hcA i (by omega)
      rw [show (zs ++ marks markB 12).getD i 0 = zs.getD i 0 by simp [List.getElem?_append, show i < zs.length by omega]] at hc
      refine v_skip ?_
      refine v_seq ?_
      refine v_block ?_
      refine v_seq ?_
      refine v_region_t LeD _ mixed (by kernel_rfl) lee_d (led_start _) ?_
      refine vt_val (fun w hw => os_move rfl) ?_
      refine vt_val (fun w hw => os_move rfl) ?_
      refine vt_val (fun w hw => os_len Try.underlying22 rfl) ?_
      refine vt_val (fun w hw => os_t (os_lss rfl rfl) (by omega)) ?_
      refine vt_val (fun w hw => os_move rfl) ?_
      refine vt_valg rfl (fun w hw => os_move rfl) ?_
      refine vt_valg rfl (fun w hw => os_move rfl) ?_
      refine vt_valg rfl (fun w hw => os_ix Try.underlying22 Try.sizeOf5 rfl rfl (i := i) (by omega) (by omega)) ?_
      refine vt_valg rfl (fun w hw => os_load Try.isAgg5 rfl (led_cell hw (by rw [Nat.zero_add]; exact hc))) ?_
      refine vt_valg rfl (fun w hw => os_move rfl) ?_
      refine vt_valg rfl (fun w hw => os_move rfl) ?_
      refine vt_valg rfl (fun w hw => os_ix Try.underlying22 Try.sizeOf5 rfl rfl (i := i) (by omega) (by omega)) ?_
      refine vt_valg rfl (fun w hw => os_load Try.isAgg5 rfl (led_cell hw (hcA))) ?_
      refine vt_valg rfl (fun w hw => os_t (os_eql rfl rfl) (rfl)) ?_
      refine vt_valg rfl (fun w hw => os_not rfl) ?_
      refine vt_val (fun w hw => os_pick_t rfl rfl) ?_
      refine vt_val (fun w hw => os_move rfl) ?_
      refine vt_valg rfl (fun w hw => os_move rfl) ?_
      refine vt_valg rfl (fun w hw => os_move rfl) ?_
      refine vt_valg rfl (fun w hw => os_len Try.underlying22 rfl) ?_
      refine vt_valg rfl (fun w hw => os_f (os_geq rfl rfl) (by omega)) ?_
      refine vt_valg rfl (fun w hw => os_move rfl) ?_
      refine vt_skip rfl rfl ?_
      refine vt_skip rfl rfl ?_
      refine vt_skip rfl rfl ?_
      refine vt_skip rfl rfl ?_
      refine vt_skip rfl rfl ?_
      refine vt_skip rfl rfl ?_
      refine vt_skip rfl rfl ?_
      refine vt_skip rfl rfl ?_
      refine vt_skip rfl rfl ?_
      refine vt_skip rfl rfl ?_
      refine vt_skip rfl rfl ?_
      refine vt_valg rfl (fun w hw => os_pick_f rfl rfl) ?_
      refine vt_val (fun w hw => os_pick_f rfl rfl) ?_
      refine vt_nil (fun w hw => ?_)
      obtain ⟨q, rfl⟩ := hw
      refine v_cond_f rfl ?_
      refine v_skip ?_
      refine v_region ?_
      refine vl_val (os_move rfl) ?_
      refine vl_val (os_addi rfl rfl (by omega)) ?_
      refine vl_val (os_assign rfl) ?_
      refine vl_nil ?_
      exact ⟨i + 1, ⟨rfl, rfl, trivial⟩, ⟨rfl, trivial⟩, ⟨by omega, lee_d.trans hq ⟨q, rfl⟩⟩, by dsimp only; omega⟩
    · rw [show (zs ++ marks markB 12).getD i 0 = markB 1 ((i : Int) - (n : Int)) by
        have e : (zs ++ marks markB 12).getD i 0 = (marks markB 12).getD (i - zs.length) 0 := by simp [List.getElem?_append, show ¬ i < zs.length by omega]
        rw [e, marks_at _ (by omega)]; congr 1; omega] at hc
      refine v_skip ?_
      refine v_seq ?_
      refine v_block ?_
      refine v_seq ?_
      refine v_region_t LeD _ mixed (by kernel_rfl) lee_d (led_start _) ?_
      refine vt_val (fun w hw => os_move rfl) ?_
      refine vt_val (fun w hw => os_move rfl) ?_
      refine vt_val (fun w hw => os_len Try.underlying22 rfl) ?_
      refine vt_val (fun w hw => os_f (os_lss rfl rfl) (by omega)) ?_
      refine vt_val (fun w hw => os_move rfl) ?_
      refine vt_skip rfl rfl ?_
      refine vt_skip rfl rfl ?_
      refine vt_skip rfl rfl ?_
      refine vt_skip rfl rfl ?_
      refine vt_skip rfl rfl ?_
      refine vt_skip rfl rfl ?_
      refine vt_skip rfl rfl ?_
      refine vt_skip rfl rfl ?_
      refine vt_skip rfl rfl ?_
      refine vt_skip rfl rfl ?_
      refine vt_val (fun w hw => os_pick_f rfl rfl) ?_
      refine vt_val (fun w hw => os_move rfl) ?_
      refine vt_valg rfl (fun w hw => os_move rfl) ?_
      refine vt_valg rfl (fun w hw => os_move rfl) ?_
      refine vt_valg rfl (fun w hw => os_len Try.underlying22 rfl) ?_
      refine vt_valg rfl (fun w hw => os_t (os_geq rfl rfl) (by omega)) ?_
      refine vt_valg rfl (fun w hw => os_move rfl) ?_
      refine vt_valg rfl (fun w hw => os_move rfl) ?_
      refine vt_valg rfl (fun w hw => os_move rfl) ?_
      refine vt_valg rfl (fun w hw => os_ix Try.underlying22 Try.sizeOf5 rfl rfl (i := i) (by omega) (by omega)) ?_
      refine vt_valg rfl (fun w hw => os_load Try.isAgg5 rfl (led_cell hw (by rw [Nat.zero_add]; exact hc))) ?_
      refine vt_valg rfl (fun w hw => os_move rfl) ?_
      refine vt_valg rfl (fun w hw => os_move rfl) ?_
      refine vt_valg rfl (fun w hw => os_len Try.underlying22 rfl) ?_
      refine vt_valg rfl (fun w hw => os_subi rfl rfl (by omega)) ?_
      refine vt_callg rfl (v := _) (fun w hw => (kit_markByte 1 ((i : Int) - (n : Int)) w (by omega) (by omega)).mono fun v w' hh => ⟨hh.1, by rw [hh.2]; exact lee_d.refl _⟩) rfl ?_
      refine vt_valg rfl (fun w hw => os_t (os_eql rfl rfl) (rfl)) ?_
      refine vt_valg rfl (fun w hw => os_not rfl) ?_
      refine vt_valg rfl (fun w hw => os_pick_t rfl rfl) ?_
      refine vt_val (fun w hw => os_pick_f rfl rfl) ?_
      refine vt_nil (fun w hw => ?_)
      obtain ⟨q, rfl⟩ := hw
      refine v_cond_f rfl ?_
      refine v_skip ?_
      refine v_region ?_
      refine vl_val (os_move rfl) ?_
      refine vl_val (os_addi rfl rfl (by omega)) ?_
      refine vl_val (os_assign rfl) ?_
      refine vl_nil ?_
      exact ⟨i + 1, ⟨rfl, rfl, trivial⟩, ⟨rfl, trivial⟩, ⟨by omega, lee_d.trans hq ⟨q, rfl⟩⟩, by dsimp only; omega⟩
  · refine v_exit ?_
    refine v_seq ?_
    refine v_region ?_
    refine vl_val (os_assign rfl) ?_
    refine vl_nil ?_
    refine v_ret ?_
    exact post_ret rfl rfl (⟨rfl, hq⟩)
end Go.Proofs.Ythaifamjgcfkaaa

/- Structs of two numbers: how they compare; the law's kit: lists of such that are lent, with marks behind their ends; whether they, and the marks, are still as they were. -/
namespace Go.Proofs.Ythaifamjgcfkaaa
open Go.RowKit
set_option linter.unusedVariables false

section
variable {P : Program} {n : Cx} {fr : Fr} {w w' : World} {ty : TypeId} {x y z : Operand} {v u : Value} {T T2 e : TypeId} {op : Op}
theorem run_part_int {t : TypeId} {cs : Array Value} {i : Nat} {v : Value} (h : ∀ w, (isAgg t).run P w = .ok false w) (hv : cs[i]? = some v) (w : World) : (part t cs i).run P w = .ok v w := by
  simp [part, h, hv]
theorem run_eqS2 {tI : TypeId} {x1 x2 y1 y2 : Int} (d : Nat) (hu : P.underlying T = some (.struct (P.fieldsOf T))) (hp : P.stoodInHeld T = false)
    (hf : (P.fieldsOf T).toList.map (fun f => (f.name == "_", f.type, f.offset)) = [(false, tI, 0), (false, tI, 1)]) (hI : P.underlying tI = some (.int .i64)) (hA : ∀ w, (isAgg tI).run P w = .ok false w) :
    (Op.equalIn (d + 1 + 1) T (.agg #[.int .i64 x1, .int .i64 x2]) (.agg #[.int .i64 y1, .int .i64 y2])).run P w = .ok (decide (x1 = y1 ∧ x2 = y2)) w := by
  rw [run_equalIn_agg (P := P) w (d + 1) T _ _ hu hp]
  obtain ⟨f1, f2, e, n1, t1, o1, n2, t2, o2⟩ : ∃ f1 f2, (P.fieldsOf T).toList = [f1, f2] ∧ f1.name ≠ "_" ∧ f1.type = tI ∧ f1.offset = 0 ∧ f2.name ≠ "_" ∧ f2.type = tI ∧ f2.offset = 1 := by
    match h : (P.fieldsOf T).toList with
    | [] => rw [h] at hf; simp at hf
    | [f1] => rw [h] at hf; simp at hf
    | f1 :: f2 :: f3 :: r => rw [h] at hf; simp at hf
    | [f1, f2] =>
      rw [h] at hf
      simp at hf
      exact ⟨f1, f2, rfl, hf.1.1, hf.1.2.1, hf.1.2.2, hf.2.1, hf.2.2.1, hf.2.2.2⟩
  rw [e]
  have q1 : ∀ w, (part tI #[.int .i64 x1, .int .i64 x2] 0).run P w = .ok (.int .i64 x1) w := run_part_int hA rfl
  have q2 : ∀ w, (part tI #[.int .i64 x1, .int .i64 x2] 1).run P w = .ok (.int .i64 x2) w := run_part_int hA rfl
  have q3 : ∀ w, (part tI #[.int .i64 y1, .int .i64 y2] 0).run P w = .ok (.int .i64 y1) w := run_part_int hA rfl
  have q4 : ∀ w, (part tI #[.int .i64 y1, .int .i64 y2] 1).run P w = .ok (.int .i64 y2) w := run_part_int hA rfl
  have e1 := fun (a b : Int) (w : World) => run_equalIn_int (P := P) w d tI .i64 .i64 a b hI
  simp only [Op.eqFields, ne_eq, n1, n2, not_false_eq_true, if_true, t1, o1, t2, o2, Sem.run_bind, q1, q2, q3, q4, e1, Result.andThen_ok, Sem.run_ite, Sem.run_pure]
  by_cases c1 : x1 = y1 <;> by_cases c2 : x2 = y2 <;> simp [c1, c2]

/-- two structs of two integers each -/
theorem os_eqlS2 {tI : TypeId} {x1 x2 y1 y2 : Int} (hg : P.eqGuardType P.depth T = false) (hu : P.underlying T = some (.struct (P.fieldsOf T))) (hp : P.stoodInHeld T = false)
    (hf : (P.fieldsOf T).toList.map (fun f => (f.name == "_", f.type, f.offset)) = [(false, tI, 0), (false, tI, 1)]) (hI : P.underlying tI = some (.int .i64)) (hA : ∀ w, (isAgg tI).run P w = .ok false w)
    (hx : Fr.ev fr x = some (.agg #[.int .i64 x1, .int .i64 x2])) (hy : Fr.ev fr y = some (.agg #[.int .i64 y1, .int .i64 y2])) :
    OS P n (.binOp .eql T x y T2) ty fr w (.bool (decide (x1 = y1 ∧ x2 = y2))) w := os_of fun a ha => by
  have h1 := run_eqGuard_agg (P := P) w .eql T x y #[.int .i64 x1, .int .i64 x2] #[.int .i64 y1, .int .i64 y2] hg
  have h2 : (Op.equalIn 10000 T (.agg #[.int .i64 x1, .int .i64 x2]) (.agg #[.int .i64 y1, .int .i64 y2])).run P w = .ok (decide (x1 = y1 ∧ x2 = y2)) w := by
    exact run_eqS2 9998 hu hp hf hI hA
  have h3 := run_eql_struct (P := P) w T #[.int .i64 x1, .int .i64 x2] #[.int .i64 y1, .int .i64 y2]
  rw [h2] at h3
  simp [execOp, ha.ev hx, ha.ev hy, h1, h3, Result.andThen]

/-- make([]T, 0, n) of structs -/
theorem ot_make0_p {k k2 : IntKind} {m c : Int} {l s : Nat} {z0 : Value} {bytes : Nat} (hT : P.underlying T = some (.slice e)) (hi : TyInfo P e z0 s bytes) (hx : Fr.ev fr x = some (.int k m)) (hy : Fr.ev fr y = some (.int k2 c)) (hm : m = 0) (hc : c = (l : Int))
    (hb : bytes * l ≤ 281474976710656) (hl : l ≤ maxLen) (B : Nat) (hB : B ≤ w.heap.size) : OT P n (.makeSlice T x y) ty fr w fun v w' => v = .slice (some ⟨w.heap.size, 0, none⟩) 0 l ∧ OwnP w' B e s v [] ∧ w.grownBy w' none := by
  subst hm; subst hc
  obtain ⟨i, h1, h2, h3, h4⟩ := info_parts hi
  obtain ⟨w', hr, ho, hg⟩ := run_make_own (P := P) w B T e i z0 s hT h1 h2 h3 k k2 l (by rw [h4]; exact hb) hl hB
  exact ot_of fun a ha => ⟨_, w', by simp [execOp, ha.ev hx, ha.ev hy, hr, Result.andThen], rfl, ⟨fun c hc => (by cases hc), ho⟩, hg⟩
/-- append(s, x...) of structs; x may be empty -/
theorem ot_append_pn {A : Option Addr} {m c s : Nat} {ps news : List (List Value)} {z0 : Value} {bytes : Nat} {B : Nat} (hT : P.underlying T = some (.slice e)) (hi : TyInfo P e z0 s bytes) (hz : z0.cells.size = s) (hs0 : 0 < s) (hx : Fr.ev fr x = some v) (hy : Fr.ev fr y = some (.slice A m c))
    (ho : OwnP w B e s v ps) (hr : RdP w s A news) (hnl : ∀ c ∈ news, c.length = s) (hm : m = news.length) (h1 : ∀ c ∈ news, ∀ u ∈ c, u.oneCell' = true) (hb : (ps.length + m) * bytes ≤ 140737488355328) (hl : ps.length + m ≤ maxLen) (hB : B ≤ w.heap.size) :
    OT P n (.call ⟨.builtin .append, #[x, y], #[T, T]⟩) ty fr w fun v' w' => OwnP w' B e s v' (ps ++ news) ∧ w.grownBy w' v.ownBlock := by
  by_cases h0 : 0 < news.length
  · exact (ot_append_p hT hi hz hs0 hx hy ho hr hnl hm h0 h1 hb hl hB).mono fun v w' ⟨a, b, _⟩ => ⟨a, b⟩
  · have hnil : news = [] := List.eq_nil_of_length_eq_zero (by omega)
    subst hnil
    have hm0 : m = 0 := by simpa using hm
    subst hm0
    obtain ⟨i, i1, i2, i3, i4⟩ := info_parts hi
    have hrun : (Builtin.append_ #[T, T] ty #[v, .slice A 0 c]).run P w = .ok v w := by
      rcases ho.2.2 with ⟨rfl, h2⟩ | ⟨g, cap, cur, rfl, _, _, hnc, _⟩
      · cases A <;> simp [Builtin.append_, run_underlying hT, sizeOf, typeInfo, i1, Builtin.lenOf, Builtin.firstCells, loadCells, loadCellsFrom]
      · cases A <;> simp [Builtin.append_, run_underlying hT, sizeOf, typeInfo, i1, Builtin.lenOf, Builtin.firstCells, hnc, storeCells, loadCells, loadCellsFrom]
    refine ot_of fun a ha => ⟨v, w, by simp [execOp, resolve, invoke, builtin, ha.ev hx, ha.ev hy, hrun, Result.andThen], by simpa using ho, World.grownBy.refl _ _⟩
end

def marksP (n : Nat) : List (Int × Int) := (List.range n).map fun (i : Nat) => (markZ 1 (i : Int), 0)
theorem marksP_len (n : Nat) : (marksP n).length = n := by simp [marksP]
theorem marksP_succ (n : Nat) : marksP (n + 1) = marksP n ++ [(markZ 1 n, 0)] := by simp [marksP, List.range_succ]
theorem marksP_at {n i : Nat} (hi : i < n) : (marksP n).getD i (0, 0) = (markZ 1 i, 0) := by simp [marksP, hi]
/-- v is a list of structs of two numbers that the kit has lent -/
def LentW (w : World) (B : Nat) (t : TypeId) (v : Value) (ps : List (Int × Int)) : Prop :=
  ∃ g C, v = .slice (some ⟨g, 0, none⟩) ps.length C ∧ ps.length + 12 ≤ C ∧ OwnP w B t 2 (.slice (some ⟨g, 0, none⟩) (ps ++ marksP 12).length C) ((ps ++ marksP 12).map rowC)
theorem LentW.keep {w w' B t v ps} (h : LentW w B t v ps) (hb : Below w.heap.size w w') : LentW w' B t v ps := by
  obtain ⟨g, C, e, hc, ho⟩ := h
  exact ⟨g, C, e, hc, OwnP.keepAll ho hb⟩
theorem LentW.led {w w' B t v ps} (h : LentW w B t v ps) (hb : LeD w w') : LentW w' B t v ps := by
  obtain ⟨g, C, e, hc, ho⟩ := h
  exact ⟨g, C, e, hc, OwnP.led ho hb⟩
theorem OwnP.rdp {w B t s A n c ps} (h : OwnP w B t s (.slice A n c) ps) : RdP w s A ps := by
  obtain ⟨A', c', e, _, _, hr⟩ := h.form
  cases e
  exact hr
theorem OwnP.row {w B t s v ps} (h : OwnP w B t s v ps) (h0 : 0 < ps.length) : ∃ g c, v = .slice (some ⟨g, 0, none⟩) ps.length c ∧ ps.length ≤ c ∧ c ≤ maxLen := by
  rcases h.2.2 with ⟨rfl, h1⟩ | ⟨g, cap, cur, rfl, hB, hg, hn, hm, hs, ht⟩
  · omega
  · exact ⟨g, cap, rfl, hn, hm⟩
theorem LentW.form {w B t v ps} (h : LentW w B t v ps) : ∃ g C, v = .slice (some ⟨g, 0, none⟩) ps.length C ∧ ps.length + 12 ≤ C ∧ B ≤ g ∧ g < w.heap.size ∧ RdP w 2 (some ⟨g, 0, none⟩) (ps.map rowC) := by
  obtain ⟨g, C, e, hc, ho⟩ := h
  have h1 := OwnP.lt ho g rfl
  have h2 := (OwnP.rdp ho).take ps.length
  rw [List.map_append, show (ps.map rowC ++ (marksP 12).map rowC).take ps.length = ps.map rowC by rw [show ps.length = (ps.map rowC).length by simp, List.take_left]] at h2
  exact ⟨g, C, e, hc, h1.1, h1.2, h2⟩

theorem lent_b0 {n : Nat} (h : n ≤ 100000000) : 16 * (n + 12) ≤ 281474976710656 := by omega
theorem lent_b1 {n : Nat} (h : n ≤ 100000000) : n + 12 ≤ maxLen := by simp [maxLen]; omega
theorem lent_b2 {n i : Nat} (h : n ≤ 100000000) (hi : i < 12) : (n + i + 1) * 16 ≤ 140737488355328 := by omega
theorem lent_b3 {n i : Nat} (h : n ≤ 100000000) (hi : i < 12) : n + i + 1 ≤ maxLen := by simp [maxLen]; omega
theorem lent_b4 {n : Nat} (h : n ≤ 100000000) : n * 16 ≤ 140737488355328 := by omega
theorem lent_b5 {n : Nat} (h : n ≤ 100000000) : n ≤ maxLen := by simp [maxLen]; omega
theorem ti_wTable : TyInfo Try.prog 74 (.agg #[.int .i64 0, .int .i64 0]) 2 16 := by unfold TyInfo; kernel_rfl
theorem kit_markRow (k i : Int) (w : World) (hk : 0 ≤ k ∧ k ≤ 1000000000) (hi : 0 ≤ i ∧ i ≤ 1000000000000000) : Gives Try.prog 132 #[.int .i64 k, .int .i64 i] w fun v w' => v = .agg #[.int .i64 (markZ k i), .int .i64 0] ∧ Below w.heap.size w w' := by
  have hB0 := bk_new w [.int .i64 0, .int .i64 0] 74
  have hb0 : Below w.heap.size w (w.alloc (.cells [Value.int .i64 0, .int .i64 0].toArray 74)) := (Below.refl _ w).alloc (Nat.le_refl _) _
  refine gives_enter Try.call132 Try.func132 rfl rfl rfl (by kernel_rfl) ?_
  refine v_seq ?_
  refine v_region ?_
  refine vl_val (os_allocB Try.zeroValue74 (zc := _) (cs := [.int .i64 0, .int .i64 0]) rfl) ?_
  refine vl_nil ?_
  refine v_seq ?_
  refine v_region ?_
  refine vl_val (os_move rfl) ?_
  refine vl_val (os_move rfl) ?_
  refine vl_call (kit_mark k i _ hk hi) rfl ?_
  rintro v1 w1 ⟨rfl, rfl⟩
  refine vl_val (os_build (cs := [.int .i64 (markZ k i), .int .i64 0]) rfl (by kernel_rfl)) ?_
  refine vl_unit (ou_storeB (by kernel_rfl) rfl rfl hB0 rfl rfl) ?_
  refine vl_nil ?_
  refine v_ret ?_
  exact post_cell rfl rfl Try.underlying74 rfl (by kernel_rfl) (setRow_bk hB0 [.int .i64 (markZ k i), .int .i64 0]) ⟨rfl, below_setRow hb0 (Nat.le_refl _) _⟩
theorem ti_wCounts : TyInfo Try.prog 42 (.agg #[.int .i64 0, .int .i64 0]) 2 16 := by unfold TyInfo; kernel_rfl
theorem kit_markCount (k i : Int) (w : World) (hk : 0 ≤ k ∧ k ≤ 1000000000) (hi : 0 ≤ i ∧ i ≤ 1000000000000000) : Gives Try.prog 135 #[.int .i64 k, .int .i64 i] w fun v w' => v = .agg #[.int .i64 (markZ k i), .int .i64 0] ∧ Below w.heap.size w w' := by
  have hB0 := bk_new w [.int .i64 0, .int .i64 0] 42
  have hb0 : Below w.heap.size w (w.alloc (.cells [Value.int .i64 0, .int .i64 0].toArray 42)) := (Below.refl _ w).alloc (Nat.le_refl _) _
  refine gives_enter Try.call135 Try.func135 rfl rfl rfl (by kernel_rfl) ?_
  refine v_seq ?_
  refine v_region ?_
  refine vl_val (os_allocB Try.zeroValue42 (zc := _) (cs := [.int .i64 0, .int .i64 0]) rfl) ?_
  refine vl_nil ?_
  refine v_seq ?_
  refine v_region ?_
  refine vl_val (os_move rfl) ?_
  refine vl_val (os_move rfl) ?_
  refine vl_call (kit_mark k i _ hk hi) rfl ?_
  rintro v1 w1 ⟨rfl, rfl⟩
  refine vl_val (os_build (cs := [.int .i64 (markZ k i), .int .i64 0]) rfl (by kernel_rfl)) ?_
  refine vl_unit (ou_storeB (by kernel_rfl) rfl rfl hB0 rfl rfl) ?_
  refine vl_nil ?_
  refine v_ret ?_
  exact post_cell rfl rfl Try.underlying42 rfl (by kernel_rfl) (setRow_bk hB0 [.int .i64 (markZ k i), .int .i64 0]) ⟨rfl, below_setRow hb0 (Nat.le_refl _) _⟩
end Go.Proofs.Ythaifamjgcfkaaa

/- The law's kit: lists are written over, their spare room too. -/
namespace Go.Proofs.Ythaifamjgcfkaaa
open Go.RowKit
set_option linter.unusedVariables false

theorem Own.stretch {w : World} {B : Nat} {t : TypeId} {g n c m : Nat} {cs : List Value} (h : Own w B t (.slice (some ⟨g, 0, none⟩) n c) cs) (hm : m ≤ c) : ∃ ds, ds.length = m ∧ Own w B t (.slice (some ⟨g, 0, none⟩) m c) ds := by
  rcases h.2 with ⟨h1, _⟩ | ⟨g', cap, cur, h1, hB, hg, hnc, hcm, hs, ht⟩
  · cases h1
  · cases h1
    have hl : (cur.toList.take m).length = m := by rw [List.length_take, Array.length_toList, hs]; omega
    exact ⟨cur.toList.take m, hl, by simp, .inr ⟨g, c, cur, by rw [hl], hB, hg, by omega, hcm, hs, by rw [hl]; simp⟩⟩
end Go.Proofs.Ythaifamjgcfkaaa

/- The law's kit: reports that are lent; whether they are still as they were; lists of counts, written over, their spare room too. -/
namespace Go.Proofs.Ythaifamjgcfkaaa
open Go.RowKit
set_option linter.unusedVariables false

section
variable {P : Program} {n : Cx} {fr : Fr} {w : World} {ty : TypeId} {x y : Operand} {T : TypeId}
/-- a struct of two cells is written in a block's midst -/
theorem ou_store2 {g o : Nat} {a b : Value} {cs : List Value} {t : TypeId} (hs : (P.info? T).map (·.size) = some 2) (hx : Fr.ev fr x = some (.pointer (some ⟨g, o, none⟩))) (hy : Fr.ev fr y = some (.agg #[a, b])) (hg : Bk w g cs t) (hl : o + 2 ≤ cs.length) (h1 : a.oneCell' = true) (h2 : b.oneCell' = true) :
    OU P n (.store T x y) ty fr w ((w.setCell ⟨g, o, none⟩ a).setCell ⟨g, o + 1, none⟩ b) := by
  have ht : w.there g o (#[a, b] : Array Value).size := fun j hj => ⟨by
    have hj : o + j < cs.length := by simp at hj; omega
    have := cell_of_row w g (o + j) cs.toArray t (0, 0) hg
    rw [this]; simp [hj], by have := hg.free (o + j); simpa using this⟩
  have h3 := run_storeAt_mid (P := P) w g o T #[a, b] ht hs (by simp [h1, h2])
  unfold OU
  intro a' ha
  simp [execOp, ha.ev hx, ha.ev hy, h3, World.setCells]
/-- two structs of two integers each, held apart -/
theorem os_neqS2 {T2 : TypeId} {tI : TypeId} {x1 x2 y1 y2 : Int} (hg : P.eqGuardType P.depth T = false) (hu : P.underlying T = some (.struct (P.fieldsOf T))) (hp : P.stoodInHeld T = false)
    (hf : (P.fieldsOf T).toList.map (fun f => (f.name == "_", f.type, f.offset)) = [(false, tI, 0), (false, tI, 1)]) (hI : P.underlying tI = some (.int .i64)) (hA : ∀ w, (isAgg tI).run P w = .ok false w)
    (hx : Fr.ev fr x = some (.agg #[.int .i64 x1, .int .i64 x2])) (hy : Fr.ev fr y = some (.agg #[.int .i64 y1, .int .i64 y2])) :
    OS P n (.binOp .neq T x y T2) ty fr w (.bool (decide (¬ (x1 = y1 ∧ x2 = y2)))) w := os_of fun a ha => by
  have h1 := run_eqGuard_agg (P := P) w .neq T x y #[.int .i64 x1, .int .i64 x2] #[.int .i64 y1, .int .i64 y2] hg
  have h2 : (Op.equalIn 10000 T (.agg #[.int .i64 x1, .int .i64 x2]) (.agg #[.int .i64 y1, .int .i64 y2])).run P w = .ok (decide (x1 = y1 ∧ x2 = y2)) w := by
    exact run_eqS2 9998 hu hp hf hI hA
  have h3 := run_neq_struct (P := P) w T #[.int .i64 x1, .int .i64 x2] #[.int .i64 y1, .int .i64 y2]
  rw [h2] at h3
  simp [execOp, ha.ev hx, ha.ev hy, h1, h3, Result.andThen, -not_and]
end

theorem kit_SameCounts (A B : Option Addr) (n m c d : Nat) (xs ys : List (Int × Int)) (w : World) (ha : RdP w 2 A (xs.map rowC)) (hb : RdP w 2 B (ys.map rowC)) (hn : n = xs.length) (hm : m = ys.length) (he : xs = ys) (hn' : n ≤ 9223372036854775807) :
    Gives Try.prog 57 #[.slice A n c, .slice B m d] w fun v w' => v = .bool true ∧ LeD w w' := by
  subst he
  refine gives_enter Try.call57 Try.func57 rfl rfl rfl (by kernel_rfl) ?_
  refine v_seq ?_
  refine v_region ?_
  refine vl_val (os_assign rfl) ?_
  refine vl_nil ?_
  refine v_seq ?_
  refine v_seq ?_
  refine v_region ?_
  refine vl_val (os_move rfl) ?_
  refine vl_val (os_len Try.underlying26 rfl) ?_
  refine vl_val (os_move rfl) ?_
  refine vl_val (os_len Try.underlying26 rfl) ?_
  refine vl_val (os_neq rfl rfl) ?_
  refine vl_nil ?_
  refine v_cond_no rfl (by omega) ?_
  refine v_skip ?_
  refine v_seq ?_
  refine v_seq ?_
  refine v_region ?_
  refine vl_val (os_assign rfl) ?_
  refine vl_nil ?_
  refine v_block ?_
  refine v_loop [(0, _), (1, _)] (fun (k : Nat) => [(5, .int .i64 k)]) (fun k w' => k ≤ n ∧ LeD w w') (fun k => n - k) (0) ⟨rfl, rfl, trivial⟩ ⟨rfl, trivial⟩ (⟨by omega, lee_d.refl _⟩) ?_
  rintro k w' ⟨hk, q, rfl⟩
  refine v_seq ?_
  refine v_seq ?_
  refine v_region ?_
  refine vl_val (os_move rfl) ?_
  refine vl_val (os_move rfl) ?_
  refine vl_val (os_len Try.underlying26 rfl) ?_
  refine vl_val (os_lss rfl rfl) ?_
  refine vl_nil ?_
  refine v_cond_d rfl (fun hlt => ?_) (fun hlt => ?_)
  · obtain ⟨b1, o1, rfl, -, -, c1⟩ := (ha.led ⟨q, rfl⟩).at2 (i := k) (by omega)
    obtain ⟨b2, o2, rfl, -, -, c2⟩ := (hb.led ⟨q, rfl⟩).at2 (i := k) (by omega)
    refine v_skip ?_
    refine v_seq ?_
    refine v_block ?_
    refine v_seq ?_
    refine v_region_t LeD _ mixed (by kernel_rfl) lee_d (led_start _) ?_
    refine vt_val (fun w hw => os_move rfl) ?_
    refine vt_val (fun w hw => os_move rfl) ?_
    refine vt_val (fun w hw => os_ixs Try.underlying26 Try.sizeOf42 rfl rfl (i := k) (by omega) (by omega)) ?_
    refine vt_val (fun w hw => os_loadP Try.underlying42 rfl (by kernel_rfl) rfl (c1.led hw)) ?_
    refine vt_val (fun w hw => os_move rfl) ?_
    refine vt_val (fun w hw => os_move rfl) ?_
    refine vt_val (fun w hw => os_ixs Try.underlying26 Try.sizeOf42 rfl rfl (i := k) (by omega) (by omega)) ?_
    refine vt_val (fun w hw => os_loadP Try.underlying42 rfl (by kernel_rfl) rfl (c2.led hw)) ?_
    refine vt_val (fun w hw => os_f (os_neqS2 Try.eqGuardType42 (by kernel_rfl) Try.stoodInHeld42 (by kernel_rfl) Try.underlying3 Try.isAgg3 rfl rfl) (by simp)) ?_
    refine vt_nil (fun w hw => ?_)
    obtain ⟨q2, rfl⟩ := hw
    refine v_cond_f rfl ?_
    refine v_skip ?_
    refine v_region ?_
    refine vl_val (os_move rfl) ?_
    refine vl_val (os_addi rfl rfl (by omega)) ?_
    refine vl_val (os_assign rfl) ?_
    refine vl_nil ?_
    exact ⟨k + 1, ⟨rfl, rfl, trivial⟩, ⟨rfl, trivial⟩, ⟨by omega, _, World.drewN_drewN ..⟩, by dsimp only; omega⟩
  · refine v_exit ?_
    refine v_seq ?_
    refine v_region ?_
    refine vl_val (os_assign rfl) ?_
    refine vl_nil ?_
    refine v_ret ?_
    exact post_ret rfl rfl (⟨rfl, _, rfl⟩)
theorem LentW.mono {w B B' t v ps} (h : LentW w B t v ps) (hb : B' ≤ B) : LentW w B' t v ps := by
  obtain ⟨g, C, e, hc, ho⟩ := h
  exact ⟨g, C, e, hc, OwnP.mono ho hb⟩
theorem LentW.kb {w w' B t v ps S} (h : LentW w B t v ps) (hb : Kb S w w') (hS : ∀ g, v.ownBlock = some g → g ∉ S) : LentW w' B t v ps := by
  obtain ⟨g, C, rfl, hc, ho⟩ := h
  exact ⟨g, C, rfl, hc, ho.blk fun k hk => hb.block k (ho.lt k hk).2 (hS k hk)⟩
set_option maxHeartbeats 1000000 in
theorem kit_SameNote (d e : NoteV) (w : World) (hd : NoteOk w d) (he : NoteOk w e) (h1 : d.st = e.st) (h2 : d.sq = e.sq) (h3 : d.n = e.n) (h4 : d.cs = e.cs) : Gives Try.prog 18 #[.agg d.cells.toArray, .agg e.cells.toArray] w fun v w' => v = .bool true ∧ Below w.heap.size w w' := by
  have hA0 := bk_new w d.cells 28
  have hb0 : Below w.heap.size w (w.alloc (.cells d.cells.toArray 28)) := (Below.refl _ w).alloc (Nat.le_refl _) _
  have hA := hA0.alloc (.cells e.cells.toArray 28)
  have hB := bk_new (w.alloc (.cells d.cells.toArray 28)) e.cells 28
  have hb1 := hb0.alloc hb0.size (.cells e.cells.toArray 28)
  have hd1 := hd.keep hb1
  have he1 := he.keep hb1
  have l1 := hd.2.1
  have l2 := he.2.1
  have l3 := hd.2.2.1
  refine gives_enter Try.call18 Try.func18 rfl rfl rfl (by kernel_rfl) ?_
  refine v_seq ?_
  refine v_region ?_
  refine vl_val (os_box rfl) ?_
  refine vl_val (os_box rfl) ?_
  refine vl_val (os_assign rfl) ?_
  refine vl_nil ?_
  refine v_seq ?_
  refine v_region ?_
  refine vl_val (os_fa (o := 0) (k := 0) (by kernel_rfl) rfl) ?_
  refine vl_val (os_load Try.isAgg3 rfl (hA.cell (i := 0) rfl)) ?_
  refine vl_val (os_fa (o := 0) (k := 0) (by kernel_rfl) rfl) ?_
  refine vl_val (os_load Try.isAgg3 rfl (hB.cell (i := 0) rfl)) ?_
  refine vl_val (os_t (os_eql rfl rfl) (h1)) ?_
  refine vl_val (os_move rfl) ?_
  refine vl_valg rfl (os_fa (o := 1) (k := 0) (by kernel_rfl) rfl) ?_
  refine vl_valg rfl (os_load Try.isAgg3 rfl (hA.cell (i := 1) rfl)) ?_
  refine vl_valg rfl (os_fa (o := 1) (k := 0) (by kernel_rfl) rfl) ?_
  refine vl_valg rfl (os_load Try.isAgg3 rfl (hB.cell (i := 1) rfl)) ?_
  refine vl_valg rfl (os_t (os_eql rfl rfl) (h2)) ?_
  refine vl_val (os_pick_t rfl rfl) ?_
  refine vl_val (os_move rfl) ?_
  refine vl_valg rfl (os_fa (o := 2) (k := 0) (by kernel_rfl) rfl) ?_
  refine vl_valg rfl (os_load Try.isAgg3 rfl (hA.cell (i := 2) rfl)) ?_
  refine vl_valg rfl (os_fa (o := 2) (k := 0) (by kernel_rfl) rfl) ?_
  refine vl_valg rfl (os_load Try.isAgg3 rfl (hB.cell (i := 2) rfl)) ?_
  refine vl_valg rfl (os_t (os_eql rfl rfl) (h3)) ?_
  refine vl_val (os_pick_t rfl rfl) ?_
  refine vl_val (os_move rfl) ?_
  refine vl_valg rfl (os_fa (o := 3) (k := 0) (by kernel_rfl) rfl) ?_
  refine vl_valg rfl (os_load Try.isAgg26 rfl (hA.cell (i := 3) rfl)) ?_
  refine vl_valg rfl (os_fa (o := 3) (k := 0) (by kernel_rfl) rfl) ?_
  refine vl_valg rfl (os_load Try.isAgg26 rfl (hB.cell (i := 3) rfl)) ?_
  refine vl_callg rfl (kit_SameCounts d.A e.A d.l e.l d.c e.c d.cs e.cs _ hd1.1 he1.1 l1 l2 h4 (by omega)) rfl ?_
  rintro v1 w1 ⟨rfl, b1⟩
  refine vl_val (os_pick_t rfl rfl) ?_
  refine vl_val (os_assign rfl) ?_
  refine vl_nil ?_
  refine v_ret ?_
  exact post_ret rfl rfl (⟨rfl, hb1.trans ((led_below b1).mono hb1.size)⟩)
/-- a report that the kit has lent -/
def lentN (d : NoteV) (g C : Nat) : NoteV := ⟨d.st, d.sq, d.n, some ⟨g, 0, none⟩, d.cs.length, C, d.cs⟩
end Go.Proofs.Ythaifamjgcfkaaa
