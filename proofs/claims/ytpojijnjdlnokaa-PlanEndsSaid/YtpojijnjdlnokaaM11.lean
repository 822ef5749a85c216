/- Texts joined: WgB KitL WgE. -/
import Derived.Test.YtpojijnjdlnokaaM10
/- Layer 12: which thresholds are better; the chapter's example; the order. -/
namespace Go.Proofs.Ytpojijnjdlnokaa
open Go.RowKit
set_option linter.unusedVariables false

theorem drop_cons {xs : List Int} {k : Nat} (h : k < xs.length) : xs.drop k = xs.getD k 0 :: xs.drop (k + 1) := by
  rw [List.drop_eq_getElem_cons h]; simp [h]
theorem sl_Compare (A B : Option Addr) (n m c d : Nat) (xs ys : List Int) (w : World) (ha : Rd w .i64 A xs) (hb : Rd w .i64 B ys) (hn : n = xs.length) (hm : m = ys.length) (hn' : n ≤ 9000000000000000) (hm' : m ≤ 9000000000000000) :
    Gives Try.prog 145 #[.slice A n c, .slice B m d] w fun v w' => ∃ z, v = .int .i64 z ∧ (decide (z < 0)) = lessL xs ys ∧ w' = w := by
  refine gives_enter Try.call145 Try.func145 rfl rfl rfl (by kernel_rfl) ?_
  refine v_seq ?_
  refine v_region ?_
  refine vl_val (os_assign rfl) ?_
  refine vl_nil ?_
  refine v_seq ?_
  refine v_seq ?_
  refine v_region ?_
  refine vl_val (os_move rfl) ?_
  refine vl_val (os_len Try.underlying40 rfl) ?_
  refine vl_val (os_move rfl) ?_
  refine vl_nil ?_
  refine v_block ?_
  refine v_loop [(0, _), (1, _), (9, _), (10, _)] (fun (k : Nat) => [(11, .int .i64 k)]) (fun k w' => k ≤ n ∧ k ≤ m ∧ lessL xs ys = lessL (xs.drop k) (ys.drop k) ∧ w' = w) (fun k => n - k) (0) ⟨rfl, rfl, rfl, rfl, trivial⟩ ⟨rfl, trivial⟩ (⟨by omega, by omega, by simp, rfl⟩) ?_
  rintro k w ⟨hk, hk2, hgo, rfl⟩
  refine v_seq ?_
  refine v_region ?_
  refine vl_val (os_lss rfl rfl) ?_
  refine vl_nil ?_
  refine v_seq ?_
  refine v_cond_d rfl (fun hlt => ?_) (fun hlt => ?_)
  · obtain ⟨b1, o1, rfl, c1⟩ := ha.at_ (i := k) (by omega)
    refine v_skip ?_
    refine v_seq ?_
    refine v_block ?_
    refine v_seq ?_
    refine v_region ?_
    refine vl_val (os_move rfl) ?_
    refine vl_val (os_ix Try.underlying40 Try.sizeOf3 rfl rfl (i := k) (by omega) (by omega)) ?_
    refine vl_val (os_load Try.isAgg3 rfl (c1)) ?_
    refine vl_val (os_assign rfl) ?_
    refine vl_val (os_assign rfl) ?_
    refine vl_nil ?_
    refine v_seq ?_
    refine v_seq ?_
    refine v_region ?_
    refine vl_val (os_move rfl) ?_
    refine vl_val (os_move rfl) ?_
    refine vl_val (os_len Try.underlying40 rfl) ?_
    refine vl_val (os_geq rfl rfl) ?_
    refine vl_nil ?_
    refine v_cond_d rfl (fun h2 => ?_) (fun h2 => ?_)
    · refine v_seq ?_
      refine v_region ?_
      refine vl_val (os_assign rfl) ?_
      refine vl_nil ?_
      refine v_ret ?_
      exact post_ret rfl rfl (⟨_, rfl, by rw [hgo, List.drop_eq_nil_of_le (by omega : ys.length ≤ k)]; simp [lessL], rfl⟩)
    · obtain ⟨b2, o2, rfl, c2⟩ := hb.at_ (i := k) (by omega)
      refine v_skip ?_
      refine v_seq ?_
      refine v_region ?_
      refine vl_val (os_move rfl) ?_
      refine vl_val (os_move rfl) ?_
      refine vl_val (os_ix Try.underlying40 Try.sizeOf3 rfl rfl (i := k) (by omega) (by omega)) ?_
      refine vl_val (os_load Try.isAgg3 rfl (c2)) ?_
      rw [drop_cons (by omega : k < xs.length), drop_cons (by omega : k < ys.length)] at hgo
      refine vl_val (os_assign rfl) ?_
      refine vl_nil ?_
      refine v_seq ?_
      refine v_region ?_
      refine vl_val (os_move rfl) ?_
      refine vl_val (os_move rfl) ?_
      refine vl_call (cmp_Compare (xs.getD k 0) (ys.getD k 0) w) rfl ?_
      rintro v w ⟨rfl, rfl⟩
      refine vl_val (os_assign rfl) ?_
      refine vl_nil ?_
      refine v_seq ?_
      refine v_region ?_
      refine vl_val (os_move rfl) ?_
      refine vl_val (os_neq rfl rfl) ?_
      refine vl_nil ?_
      refine v_cond_d rfl (fun h3 => ?_) (fun h3 => ?_)
      · refine v_seq ?_
        refine v_region ?_
        refine vl_val (os_move rfl) ?_
        refine vl_val (os_assign rfl) ?_
        refine vl_nil ?_
        refine v_ret ?_
        exact post_ret rfl rfl (⟨_, rfl, by rw [hgo]; simp only [lessL, cmpV] at h3 ⊢; by_cases h4 : xs.getD k 0 < ys.getD k 0 <;> by_cases h5 : ys.getD k 0 < xs.getD k 0 <;> by_cases h6 : xs.getD k 0 = ys.getD k 0 <;> simp_all <;> omega, rfl⟩)
      · refine v_skip ?_
        refine v_region ?_
        refine vl_val (os_addi rfl rfl (by omega)) ?_
        refine vl_val (os_move rfl) ?_
        refine vl_nil ?_
        exact ⟨k + 1, ⟨rfl, rfl, rfl, rfl, trivial⟩, ⟨rfl, trivial⟩, ⟨by omega, by omega, by rw [hgo]; simp only [lessL, cmpV] at h3 ⊢; by_cases h4 : xs.getD k 0 < ys.getD k 0 <;> by_cases h5 : ys.getD k 0 < xs.getD k 0 <;> by_cases h6 : xs.getD k 0 = ys.getD k 0 <;> simp_all <;> omega, rfl⟩, by dsimp only; omega⟩
  · refine v_exit ?_
    refine v_seq ?_
    refine v_seq ?_
    refine v_region ?_
    refine vl_val (os_move rfl) ?_
    refine vl_val (os_len Try.underlying40 rfl) ?_
    refine vl_val (os_move rfl) ?_
    refine vl_val (os_len Try.underlying40 rfl) ?_
    refine vl_val (os_lss rfl rfl) ?_
    refine vl_nil ?_
    refine v_cond_d rfl (fun h2 => ?_) (fun h2 => ?_)
    · refine v_seq ?_
      refine v_region ?_
      refine vl_val (os_assign rfl) ?_
      refine vl_nil ?_
      refine v_ret ?_
      exact post_ret rfl rfl (⟨_, rfl, by rw [hgo, List.drop_eq_nil_of_le (by omega : xs.length ≤ k), drop_cons (by omega : k < ys.length)]; simp [lessL], rfl⟩)
    · refine v_skip ?_
      refine v_seq ?_
      refine v_region ?_
      refine vl_val (os_assign rfl) ?_
      refine vl_nil ?_
      refine v_ret ?_
      exact post_ret rfl rfl (⟨_, rfl, by rw [hgo, List.drop_eq_nil_of_le (by omega : xs.length ≤ k), List.drop_eq_nil_of_le (by omega : ys.length ≤ k)]; simp [lessL], rfl⟩)
theorem wg_less (A B : Option Addr) (n m c d : Nat) (xs ys : List Int) (w : World) (ha : Rd w .i64 A xs) (hb : Rd w .i64 B ys) (hn : n = xs.length) (hm : m = ys.length) (hn' : n ≤ 9000000000000000) (hm' : m ≤ 9000000000000000) :
    Gives Try.prog 91 #[.slice A n c, .slice B m d] w fun v w' => v = .bool (lessL xs ys) ∧ w' = w := by
  refine gives_enter Try.call91 Try.func91 rfl rfl rfl (by kernel_rfl) ?_
  refine v_seq ?_
  refine v_region ?_
  refine vl_val (os_assign rfl) ?_
  refine vl_nil ?_
  refine v_seq ?_
  refine v_region ?_
  refine vl_val (os_move rfl) ?_
  refine vl_val (os_move rfl) ?_
  refine vl_call (sl_Compare A B n m c d xs ys w ha hb hn hm hn' hm') rfl ?_
  rintro v w ⟨z, rfl, hz, rfl⟩
  refine vl_val (os_lss rfl rfl) ?_
  refine vl_val (os_assign rfl) ?_
  refine vl_nil ?_
  refine v_ret ?_
  exact post_ret rfl rfl (⟨by rw [hz], rfl⟩)

theorem wg_Better (A B C D : Option Addr) (l m o n c d e f : Nat) (worths ks other ws : List Int) (w : World) (ha : Rd w .i64 A worths) (hb : Rd w .i64 B ks) (hc : Rd w .i64 C other) (hd : Rd w .i64 D ws) (hl : l = worths.length) (hm : m = ks.length) (ho : o = other.length) (hn : n = ws.length) (hl' : l ≤ 9000000000000000) (hm' : m ≤ 9000000000000000) (ho' : o ≤ 9000000000000000) (hn' : n ≤ 9000000000000000) :
    Gives Try.prog 46 #[.slice A l c, .slice B m d, .slice C o e, .slice D n f] w fun v w' => v = .tuple #[.bool (betV worths ks other ws), .int .i64 (errA (betOk worths ks other ws))] ∧ LeD w w' := by
  refine gives_enter Try.call46 Try.func46 rfl rfl rfl (by kernel_rfl) ?_
  refine v_seq ?_
  refine v_region ?_
  refine vl_val (os_assign rfl) ?_
  refine vl_val (os_assign rfl) ?_
  refine vl_nil ?_
  refine v_seq ?_
  refine v_region ?_
  refine vl_val (os_move rfl) ?_
  refine vl_val (os_move rfl) ?_
  refine vl_val (os_move rfl) ?_
  refine vl_call (wg_Score A B D l m n c d f worths ks ws w ha hb hd hl hm hn hl' hm' hn') rfl ?_
  rintro v w ⟨rfl, q, rfl⟩
  refine vl_val (os_move rfl) ?_
  refine vl_val (os_extract rfl rfl) ?_
  refine vl_val (os_extract rfl rfl) ?_
  refine vl_val (os_assign rfl) ?_
  refine vl_val (os_assign rfl) ?_
  refine vl_nil ?_
  refine v_seq ?_
  refine v_seq ?_
  refine v_region ?_
  refine vl_val (os_move rfl) ?_
  refine vl_val (os_neq rfl rfl) ?_
  refine vl_nil ?_
  refine v_cond_d rfl (fun h1 => ?_) (fun h1 => ?_)
  · have h1 : scOk worths ks ws = false := by cases hh : scOk worths ks ws <;> simp_all [errA]
    refine v_seq ?_
    refine v_region ?_
    refine vl_val (os_move rfl) ?_
    refine vl_val (os_assign rfl) ?_
    refine vl_val (os_assign rfl) ?_
    refine vl_nil ?_
    refine v_ret ?_
    exact post_ret2 rfl rfl rfl (⟨by simp [betV, betOk, h1], q, rfl⟩)
  · have h1 : scOk worths ks ws = true := errA_zero.1 (by omega)
    refine v_skip ?_
    refine v_seq ?_
    refine v_region ?_
    refine vl_val (os_move rfl) ?_
    refine vl_val (os_move rfl) ?_
    refine vl_val (os_move rfl) ?_
    refine vl_call (wg_Score A C D l o n c e f worths other ws _ (ha.drewN q) (hc.drewN q) (hd.drewN q) hl ho hn hl' ho' hn') rfl ?_
    rintro v w' ⟨rfl, q2, rfl⟩
    refine vl_val (os_move rfl) ?_
    refine vl_val (os_extract rfl rfl) ?_
    refine vl_val (os_extract rfl rfl) ?_
    refine vl_val (os_assign rfl) ?_
    refine vl_val (os_assign rfl) ?_
    refine vl_nil ?_
    refine v_seq ?_
    refine v_seq ?_
    refine v_region ?_
    refine vl_val (os_move rfl) ?_
    refine vl_val (os_neq rfl rfl) ?_
    refine vl_nil ?_
    refine v_cond_d rfl (fun h2 => ?_) (fun h2 => ?_)
    · have h2 : scOk worths other ws = false := by cases hh : scOk worths other ws <;> simp_all [errA]
      refine v_seq ?_
      refine v_region ?_
      refine vl_val (os_move rfl) ?_
      refine vl_val (os_assign rfl) ?_
      refine vl_val (os_assign rfl) ?_
      refine vl_nil ?_
      refine v_ret ?_
      exact post_ret2 rfl rfl rfl (⟨by simp [betV, betOk, h1, h2], _, World.drewN_drewN ..⟩)
    · have h2 : scOk worths other ws = true := errA_zero.1 (by omega)
      have hok : betOk worths ks other ws = true := by simp [betOk, h1, h2]
      rcases (by omega : scV worths other ws < scV worths ks ws ∨ (scV worths ks ws < scV worths other ws) ∨ scV worths ks ws = scV worths other ws) with g | g | g
      · refine v_skip ?_
        refine v_seq ?_
        refine v_region ?_
        refine vl_val (os_move rfl) ?_
        refine vl_val (os_move rfl) ?_
        refine vl_val (os_t (os_gtr rfl rfl) (by omega)) ?_
        refine vl_val (os_move rfl) ?_
        refine vl_skip rfl rfl ?_
        refine vl_skip rfl rfl ?_
        refine vl_skip rfl rfl ?_
        refine vl_skip rfl rfl ?_
        refine vl_skipu rfl ?_
        refine vl_skipu rfl ?_
        refine vl_skipu rfl ?_
        refine vl_skip rfl rfl ?_
        refine vl_val (os_pick_t rfl rfl) ?_
        refine vl_val (os_assign rfl) ?_
        refine vl_val (os_assign rfl) ?_
        refine vl_nil ?_
        refine v_ret ?_
        exact post_ret2 rfl rfl rfl (⟨by rw [betV, hok, decide_eq_true g]; rfl, _, World.drewN_drewN ..⟩)
      · refine v_skip ?_
        refine v_seq ?_
        refine v_region ?_
        refine vl_val (os_move rfl) ?_
        refine vl_val (os_move rfl) ?_
        refine vl_val (os_f (os_gtr rfl rfl) (by omega)) ?_
        refine vl_val (os_move rfl) ?_
        refine vl_valg rfl (os_move rfl) ?_
        refine vl_valg rfl (os_move rfl) ?_
        refine vl_valg rfl (os_f (os_eql rfl rfl) (by omega)) ?_
        refine vl_valg rfl (os_move rfl) ?_
        refine vl_skip rfl rfl ?_
        refine vl_skip rfl rfl ?_
        refine vl_skip rfl rfl ?_
        refine vl_valg rfl (os_pick_f rfl rfl) ?_
        refine vl_val (os_pick_f rfl rfl) ?_
        refine vl_val (os_assign rfl) ?_
        refine vl_val (os_assign rfl) ?_
        refine vl_nil ?_
        refine v_ret ?_
        exact post_ret2 rfl rfl rfl (⟨by rw [betV, hok, decide_eq_false (by omega), decide_eq_false (by omega)]; rfl, _, World.drewN_drewN ..⟩)
      · refine v_skip ?_
        refine v_seq ?_
        refine v_region ?_
        refine vl_val (os_move rfl) ?_
        refine vl_val (os_move rfl) ?_
        refine vl_val (os_f (os_gtr rfl rfl) (by omega)) ?_
        refine vl_val (os_move rfl) ?_
        refine vl_valg rfl (os_move rfl) ?_
        refine vl_valg rfl (os_move rfl) ?_
        refine vl_valg rfl (os_t (os_eql rfl rfl) (by omega)) ?_
        refine vl_valg rfl (os_move rfl) ?_
        refine vl_valg rfl (os_move rfl) ?_
        refine vl_valg rfl (os_move rfl) ?_
        refine vl_callg rfl (wg_less B C m o d e ks other _ ((hb.drewN q).drewN q2) ((hc.drewN q).drewN q2) hm ho hm' ho') rfl ?_
        rintro v w' ⟨rfl, rfl⟩
        refine vl_valg rfl (os_pick_t rfl rfl) ?_
        refine vl_val (os_pick_f rfl rfl) ?_
        refine vl_val (os_assign rfl) ?_
        refine vl_val (os_assign rfl) ?_
        refine vl_nil ?_
        refine v_ret ?_
        exact post_ret2 rfl rfl rfl (⟨by rw [betV, hok, decide_eq_false (by omega), decide_eq_true g]; rfl, _, World.drewN_drewN ..⟩)

end Go.Proofs.Ytpojijnjdlnokaa

/- The law's kit: lists that are lent, with marks behind their ends; whether they, and the marks, are still as they were. -/
namespace Go.Proofs.Ytpojijnjdlnokaa
open Go.RowKit
set_option linter.unusedVariables false

def markZ (k i : Int) : Int := 1000003 * (k + 7) + i
def markB (k i : Int) : Int := IntKind.u8.wrap ((IntKind.u64.wrap (IntKind.u64.wrap (markZ k i) * 11400714819323198485)).fdiv (2 ^ min (56 : Int).toNat IntKind.u64.bits))

theorem kit_mark (k i : Int) (w : World) (hk : 0 ≤ k ∧ k ≤ 1000000000) (hi : 0 ≤ i ∧ i ≤ 1000000000000000) : Gives Try.prog 57 #[.int .i64 k, .int .i64 i] w fun v w' => v = .int .i64 (markZ k i) ∧ w' = w := by
  refine gives_enter Try.call57 Try.func57 rfl rfl rfl (by kernel_rfl) ?_
  refine v_seq ?_
  refine v_region ?_
  refine vl_val (os_assign rfl) ?_
  refine vl_nil ?_
  refine v_seq ?_
  refine v_region ?_
  refine vl_val (os_move rfl) ?_
  refine vl_val (os_addi rfl rfl (by omega)) ?_
  refine vl_val (os_muli rfl rfl (by omega)) ?_
  refine vl_val (os_move rfl) ?_
  refine vl_val (os_addi rfl rfl (by omega)) ?_
  refine vl_val (os_assign rfl) ?_
  refine vl_nil ?_
  refine v_ret ?_
  exact post_ret rfl rfl (⟨rfl, rfl⟩)
theorem kit_markByte (k i : Int) (w : World) (hk : 0 ≤ k ∧ k ≤ 1000000000) (hi : 0 ≤ i ∧ i ≤ 1000000000000000) : Gives Try.prog 51 #[.int .i64 k, .int .i64 i] w fun v w' => v = .int .u8 (markB k i) ∧ w' = w := by
  refine gives_enter Try.call51 Try.func51 rfl rfl rfl (by kernel_rfl) ?_
  refine v_seq ?_
  refine v_region ?_
  refine vl_val (os_assign rfl) ?_
  refine vl_nil ?_
  refine v_seq ?_
  refine v_region ?_
  refine vl_val (os_move rfl) ?_
  refine vl_val (os_move rfl) ?_
  refine vl_call (kit_mark k i w hk hi) rfl ?_
  rintro v w ⟨rfl, rfl⟩
  refine vl_val (os_conv Try.underlying3 Try.underlying132 rfl (rfl)) ?_
  refine vl_val (os_mul rfl rfl (rfl)) ?_
  refine vl_val (os_shr rfl rfl (by omega) (rfl)) ?_
  refine vl_val (os_conv Try.underlying132 Try.underlying5 rfl (rfl)) ?_
  refine vl_val (os_assign rfl) ?_
  refine vl_nil ?_
  refine v_ret ?_
  exact post_ret rfl rfl (⟨rfl, rfl⟩)

def marks (f : Int → Int → Int) (n : Nat) : List Int := (List.range n).map fun (i : Nat) => f 1 (i : Int)
theorem marks_len (f : Int → Int → Int) (n : Nat) : (marks f n).length = n := by simp [marks]
theorem marks_succ (f : Int → Int → Int) (n : Nat) : marks f (n + 1) = marks f n ++ [f 1 n] := by simp [marks, List.range_succ]
theorem marks_at (f : Int → Int → Int) {n i : Nat} (hi : i < n) : (marks f n).getD i 0 = f 1 i := by simp [marks, hi]
/-- v is a list that the kit has lent: a row of its own that holds zs, and the marks behind -/
def Lent (w : World) (B : Nat) (t : TypeId) (k : IntKind) (f : Int → Int → Int) (v : Value) (zs : List Int) : Prop :=
  ∃ g C, v = .slice (some ⟨g, 0, none⟩) zs.length C ∧ zs.length + 12 ≤ C ∧ OwnK w B t k (.slice (some ⟨g, 0, none⟩) (zs ++ marks f 12).length C) (zs ++ marks f 12)
theorem Lent.keep {w w' B t k f v zs} (h : Lent w B t k f v zs) (hb : Below w.heap.size w w') : Lent w' B t k f v zs := by
  obtain ⟨g, C, e, hc, ho⟩ := h
  exact ⟨g, C, e, hc, Own.keepAll ho hb⟩
theorem Lent.form {w B t k f v zs} (h : Lent w B t k f v zs) : ∃ g C, v = .slice (some ⟨g, 0, none⟩) zs.length C ∧ zs.length + 12 ≤ C ∧ C ≤ maxLen ∧ B ≤ g ∧ g < w.heap.size ∧ Rd w k (some ⟨g, 0, none⟩) zs := by
  obtain ⟨g, C, e, hc, ho⟩ := h
  have h1 := World.ownsRow.lt ho g rfl
  have h2 := (OwnK.rd ho).take zs.length
  rw [List.take_left] at h2
  obtain ⟨g', c', e', _, _, _, hm⟩ := ho.row (by rw [List.length_append, marks_len]; omega)
  cases e'
  exact ⟨g, C, e, hc, hm, h1.1, h1.2, h2⟩
theorem ints_one (k : IntKind) (zs : List Int) : ∀ u ∈ zs.map (Value.int k), u.oneCell' = true := by
  intro u hu
  obtain ⟨z, _, rfl⟩ := List.mem_map.1 hu
  rfl

set_option maxHeartbeats 1000000 in
theorem kit_LentInts (A : Option Addr) (n c : Nat) (zs : List Int) (w : World) (ha : Rd w .i64 A zs) (hn : n = zs.length) (hb : (n + 12) * 8 ≤ 140737488355328) : Gives Try.prog 28 #[.slice A n c] w fun v w' => Lent w' w.heap.size 3 .i64 markZ v zs ∧ Below w.heap.size w w' := by
  refine gives_enter Try.call28 Try.func28 rfl rfl rfl (by kernel_rfl) ?_
  refine v_seq ?_
  refine v_region ?_
  refine vl_val (os_assign rfl) ?_
  refine vl_nil ?_
  refine v_seq ?_
  refine v_region ?_
  refine vl_val (os_move rfl) ?_
  refine vl_val (os_len Try.underlying40 rfl) ?_
  refine vl_val (os_addi rfl rfl (by omega)) ?_
  refine vl_some (ot_make0 (l := n + 12) Try.underlying40 ti_int rfl rfl rfl rfl (by omega) (by simp [maxLen]; omega) w.heap.size (Nat.le_refl _)) ?_
  rintro v1 w1 ⟨rfl, ho, hg⟩
  have hb1 : Below w.heap.size w w1 := (Below.refl _ _).grown hg (Nat.le_refl _) (fun k hk => by cases hk)
  refine vl_val (os_assign rfl) ?_
  refine vl_nil ?_
  refine v_seq ?_
  refine v_region ?_
  refine vl_val (os_move rfl) ?_
  refine vl_val (os_move rfl) ?_
  refine vl_some (ot_append Try.underlying40 ti_int rfl rfl rfl ho (ha.keep hb1).toC (by simp [hn]) (ints_one _ _) (by simp; omega) (by simp [maxLen]; omega) hb1.size) ?_
  rintro v2 w2 ⟨ho2, hg2⟩
  have hb2 := Own.below hb1 ho hg2 (Nat.le_refl _) hb1.size
  refine vl_val (os_assign rfl) ?_
  refine vl_nil ?_
  refine v_seq ?_
  refine v_seq ?_
  refine v_region ?_
  refine vl_val (os_assign rfl) ?_
  refine vl_nil ?_
  refine v_block ?_
  refine v_loop2 [(0, _)] (fun (v : Value) (i : Nat) => [(3, v), (4, .int .i64 i)]) (fun v i w' => i ≤ 12 ∧ OwnK w' w.heap.size 3 .i64 v (zs ++ marks markZ i) ∧ Below w.heap.size w w') (fun v i => 12 - i) (v2) (0) ⟨rfl, trivial⟩ ⟨rfl, rfl, trivial⟩ (⟨by omega, by simpa [OwnK, marks] using ho2, hb2⟩) ?_
  rintro v i w' ⟨hi, ho3, hb3⟩
  refine v_seq ?_
  refine v_seq ?_
  refine v_region ?_
  refine vl_val (os_move rfl) ?_
  refine vl_val (os_lss rfl rfl) ?_
  refine vl_nil ?_
  refine v_cond_d rfl (fun h => ?_) (fun h => ?_)
  · refine v_skip ?_
    refine v_seq ?_
    refine v_block ?_
    refine v_region ?_
    refine vl_val (os_move rfl) ?_
    refine vl_val (os_move rfl) ?_
    refine vl_call (kit_mark 1 i w' (by omega) (by omega)) rfl ?_
    rintro v4 w' ⟨rfl, rfl⟩
    have ho4 := Own.alloc ho3 (.cells [Value.int .i64 (markZ 1 i)].toArray 3)
    have hb4 := hb3.alloc hb3.size (.cells [Value.int .i64 (markZ 1 i)].toArray 3)
    refine vl_val (os_lit Try.underlying40 Try.sizeOf3 Try.zeroValue3 rfl rfl rfl rfl (by decide)) ?_
    refine vl_some (ot_append Try.underlying40 ti_int rfl rfl rfl ho4 (rdc_alloc w' [Value.int .i64 (markZ 1 i)] _) rfl (by simp [Value.oneCell']) (by simp [marks_len]; omega) (by simp [maxLen, marks_len]; omega) hb4.size) ?_
    rintro v5 w5 ⟨ho5, hg5⟩
    refine vl_val (os_assign rfl) ?_
    refine vl_nil ?_
    refine v_region ?_
    refine vl_val (os_move rfl) ?_
    refine vl_val (os_addi rfl rfl (by omega)) ?_
    refine vl_val (os_assign rfl) ?_
    refine vl_nil ?_
    exact ⟨⟨v5, i + 1⟩, ⟨rfl, trivial⟩, ⟨rfl, rfl, trivial⟩, ⟨by omega, by rw [marks_succ, ← List.append_assoc]; simpa [OwnK] using ho5, Own.below hb4 ho4 hg5 (Nat.le_refl _) hb4.size⟩, by dsimp only; omega⟩
  · obtain rfl : i = 12 := by omega
    obtain ⟨g, C, rfl, h1, h2, h3, h4⟩ := ho3.row (by simp [marks_len])
    rw [List.length_append, marks_len] at h3
    refine v_exit ?_
    refine v_seq ?_
    refine v_region ?_
    refine vl_val (os_move rfl) ?_
    refine vl_val (os_move rfl) ?_
    refine vl_val (os_len Try.underlying40 rfl) ?_
    refine vl_val (os_slice_h Try.underlying40 Try.sizeOf3 rfl rfl (h := n) (by omega) (by omega)) ?_
    refine vl_val (os_assign rfl) ?_
    refine vl_nil ?_
    refine v_ret ?_
    exact post_ret rfl rfl (⟨⟨g, C, by rw [hn], h3, ho3⟩, hb3⟩)
set_option maxHeartbeats 1000000 in
theorem kit_KeptInts (v : Value) (B : Nat) (A : Option Addr) (n c : Nat) (zs : List Int) (w : World) (hv : Lent w B 3 .i64 markZ v zs) (ha : Rd w .i64 A zs) (hn : n = zs.length) (hb : (n + 12) * 8 ≤ 140737488355328) : Gives Try.prog 37 #[v, .slice A n c] w fun v w' => v = .bool true ∧ LeD w w' := by
  obtain ⟨g, C, rfl, hC, ho⟩ := hv
  refine gives_enter Try.call37 Try.func37 rfl rfl rfl (by kernel_rfl) ?_
  refine v_seq ?_
  refine v_region ?_
  refine vl_val (os_assign rfl) ?_
  refine vl_nil ?_
  refine v_seq ?_
  refine v_seq ?_
  refine v_region ?_
  refine vl_val (os_move rfl) ?_
  refine vl_val (os_len Try.underlying40 rfl) ?_
  refine vl_val (os_move rfl) ?_
  refine vl_val (os_len Try.underlying40 rfl) ?_
  refine vl_val (os_neq rfl rfl) ?_
  refine vl_nil ?_
  refine v_cond_no rfl (by omega) ?_
  refine v_skip ?_
  refine v_seq ?_
  refine v_region ?_
  refine vl_val (os_move rfl) ?_
  refine vl_val (os_move rfl) ?_
  refine vl_val (os_len Try.underlying40 rfl) ?_
  refine vl_val (os_addi rfl rfl (by omega)) ?_
  refine vl_val (os_slice_h Try.underlying40 Try.sizeOf3 rfl rfl (h := n + 12) (by omega) (by omega)) ?_
  refine vl_val (os_assign rfl) ?_
  refine vl_nil ?_
  refine v_seq ?_
  refine v_seq ?_
  refine v_region ?_
  refine vl_val (os_assign rfl) ?_
  refine vl_nil ?_
  refine v_block ?_
  refine v_loop [(1, _), (5, _)] (fun (i : Nat) => [(6, .int .i64 i)]) (fun i w' => i ≤ n + 12 ∧ LeD w w') (fun i => n + 12 - i) (0) ⟨rfl, rfl, trivial⟩ ⟨rfl, trivial⟩ (⟨by omega, lee_d.refl _⟩) ?_
  rintro i w' ⟨hi, hq⟩
  refine v_seq ?_
  refine v_seq ?_
  refine v_region ?_
  refine vl_val (os_move rfl) ?_
  refine vl_val (os_move rfl) ?_
  refine vl_val (os_len Try.underlying40 rfl) ?_
  refine vl_val (os_lss rfl rfl) ?_
  refine vl_nil ?_
  refine v_cond_d rfl (fun h => ?_) (fun h => ?_)
  · have hc := OwnK.cell (Own.led ho hq : OwnK w' B _ _ _ _) (i := i) (by rw [List.length_append, marks_len]; omega)
    rcases Nat.lt_or_ge i n with hlt | hge
    · obtain ⟨bA, oA, rfl, hcA⟩ := (ha.led hq) (by omega)
      have hcA := hcA i (by omega)
      rw [show (zs ++ marks markZ 12).getD i 0 = zs.getD i 0 by simp [List.getElem?_append, show i < zs.length by omega]] at hc
      refine v_skip ?_
      refine v_seq ?_
      refine v_block ?_
      refine v_seq ?_
      refine v_region_t LeD _ mixed (by kernel_rfl) lee_d (led_start _) ?_
      refine vt_val (fun w hw => os_move rfl) ?_
      refine vt_val (fun w hw => os_move rfl) ?_
      refine vt_val (fun w hw => os_len Try.underlying40 rfl) ?_
      refine vt_val (fun w hw => os_t (os_lss rfl rfl) (by omega)) ?_
      refine vt_val (fun w hw => os_move rfl) ?_
      refine vt_valg rfl (fun w hw => os_move rfl) ?_
      refine vt_valg rfl (fun w hw => os_move rfl) ?_
      refine vt_valg rfl (fun w hw => os_ix Try.underlying40 Try.sizeOf3 rfl rfl (i := i) (by omega) (by omega)) ?_
      refine vt_valg rfl (fun w hw => os_load Try.isAgg3 rfl (led_cell hw (by rw [Nat.zero_add]; exact hc))) ?_
      refine vt_valg rfl (fun w hw => os_move rfl) ?_
      refine vt_valg rfl (fun w hw => os_move rfl) ?_
      refine vt_valg rfl (fun w hw => os_ix Try.underlying40 Try.sizeOf3 rfl rfl (i := i) (by omega) (by omega)) ?_
      refine vt_valg rfl (fun w hw => os_load Try.isAgg3 rfl (led_cell hw (hcA))) ?_
      refine vt_valg rfl (fun w hw => os_t (os_eql rfl rfl) (rfl)) ?_
      refine vt_valg rfl (fun w hw => os_not rfl) ?_
      refine vt_val (fun w hw => os_pick_t rfl rfl) ?_
      refine vt_val (fun w hw => os_move rfl) ?_
      refine vt_valg rfl (fun w hw => os_move rfl) ?_
      refine vt_valg rfl (fun w hw => os_move rfl) ?_
      refine vt_valg rfl (fun w hw => os_len Try.underlying40 rfl) ?_
      refine vt_valg rfl (fun w hw => os_f (os_geq rfl rfl) (by omega)) ?_
      refine vt_valg rfl (fun w hw => os_move rfl) ?_
      refine vt_skip rfl rfl ?_
      refine vt_skip rfl rfl ?_
      refine vt_skip rfl rfl ?_
      refine vt_skip rfl rfl ?_
      refine vt_skip rfl rfl ?_
      refine vt_skip rfl rfl ?_
      refine vt_skip rfl rfl ?_
      refine vt_skip rfl rfl ?_
      refine vt_skip rfl rfl ?_
      refine vt_skip rfl rfl ?_
      refine vt_skip rfl rfl ?_
      refine vt_valg rfl (fun w hw => os_pick_f rfl rfl) ?_
      refine vt_val (fun w hw => os_pick_f rfl rfl) ?_
      refine vt_nil (fun w hw => ?_)
      obtain ⟨q, rfl⟩ := hw
      refine v_cond_f rfl ?_
      refine v_skip ?_
      refine v_region ?_
      refine vl_val (os_move rfl) ?_
      refine vl_val (os_addi rfl rfl (by omega)) ?_
      refine vl_val (os_assign rfl) ?_
      refine vl_nil ?_
      exact ⟨i + 1, ⟨rfl, rfl, trivial⟩, ⟨rfl, trivial⟩, ⟨by omega, lee_d.trans hq ⟨q, rfl⟩⟩, by dsimp only; omega⟩
    · rw [show (zs ++ marks markZ 12).getD i 0 = markZ 1 ((i : Int) - (n : Int)) by
        have e : (zs ++ marks markZ 12).getD i 0 = (marks markZ 12).getD (i - zs.length) 0 := by simp [List.getElem?_append, show ¬ i < zs.length by omega]
        rw [e, marks_at _ (by omega)]; congr 1; omega] at hc
      refine v_skip ?_
      refine v_seq ?_
      refine v_block ?_
      refine v_seq ?_
      refine v_region_t LeD _ mixed (by kernel_rfl) lee_d (led_start _) ?_
      refine vt_val (fun w hw => os_move rfl) ?_
      refine vt_val (fun w hw => os_move rfl) ?_
      refine vt_val (fun w hw => os_len Try.underlying40 rfl) ?_
      refine vt_val (fun w hw => os_f (os_lss rfl rfl) (by omega)) ?_
      refine vt_val (fun w hw => os_move rfl) ?_
      refine vt_skip rfl rfl ?_
      refine vt_skip rfl rfl ?_
      refine vt_skip rfl rfl ?_
      refine vt_skip rfl rfl ?_
      refine vt_skip rfl rfl ?_
      refine vt_skip rfl rfl ?_
      refine vt_skip rfl rfl ?_
      refine vt_skip rfl rfl ?_
      refine vt_skip rfl rfl ?_
      refine vt_skip rfl rfl ?_
      refine vt_val (fun w hw => os_pick_f rfl rfl) ?_
      refine vt_val (fun w hw => os_move rfl) ?_
      refine vt_valg rfl (fun w hw => os_move rfl) ?_
      refine vt_valg rfl (fun w hw => os_move rfl) ?_
      refine vt_valg rfl (fun w hw => os_len Try.underlying40 rfl) ?_
      refine vt_valg rfl (fun w hw => os_t (os_geq rfl rfl) (by omega)) ?_
      refine vt_valg rfl (fun w hw => os_move rfl) ?_
      refine vt_valg rfl (fun w hw => os_move rfl) ?_
      refine vt_valg rfl (fun w hw => os_move rfl) ?_
      refine vt_valg rfl (fun w hw => os_ix Try.underlying40 Try.sizeOf3 rfl rfl (i := i) (by omega) (by omega)) ?_
      refine vt_valg rfl (fun w hw => os_load Try.isAgg3 rfl (led_cell hw (by rw [Nat.zero_add]; exact hc))) ?_
      refine vt_valg rfl (fun w hw => os_move rfl) ?_
      refine vt_valg rfl (fun w hw => os_move rfl) ?_
      refine vt_valg rfl (fun w hw => os_len Try.underlying40 rfl) ?_
      refine vt_valg rfl (fun w hw => os_subi rfl rfl (by omega)) ?_
      refine vt_callg rfl (v := _) (fun w hw => (kit_mark 1 ((i : Int) - (n : Int)) w (by omega) (by omega)).mono fun v w' hh => ⟨hh.1, by rw [hh.2]; exact lee_d.refl _⟩) rfl ?_
      refine vt_valg rfl (fun w hw => os_t (os_eql rfl rfl) (rfl)) ?_
      refine vt_valg rfl (fun w hw => os_not rfl) ?_
      refine vt_valg rfl (fun w hw => os_pick_t rfl rfl) ?_
      refine vt_val (fun w hw => os_pick_f rfl rfl) ?_
      refine vt_nil (fun w hw => ?_)
      obtain ⟨q, rfl⟩ := hw
      refine v_cond_f rfl ?_
      refine v_skip ?_
      refine v_region ?_
      refine vl_val (os_move rfl) ?_
      refine vl_val (os_addi rfl rfl (by omega)) ?_
      refine vl_val (os_assign rfl) ?_
      refine vl_nil ?_
      exact ⟨i + 1, ⟨rfl, rfl, trivial⟩, ⟨rfl, trivial⟩, ⟨by omega, lee_d.trans hq ⟨q, rfl⟩⟩, by dsimp only; omega⟩
  · refine v_exit ?_
    refine v_seq ?_
    refine v_region ?_
    refine vl_val (os_assign rfl) ?_
    refine vl_nil ?_
    refine v_ret ?_
    exact post_ret rfl rfl (⟨rfl, hq⟩)
set_option maxHeartbeats 1000000 in
theorem kit_LentBytes (A : Option Addr) (n c : Nat) (zs : List Int) (w : World) (ha : Rd w .u8 A zs) (hn : n = zs.length) (hb : (n + 12) * 8 ≤ 140737488355328) : Gives Try.prog 12 #[.slice A n c] w fun v w' => Lent w' w.heap.size 5 .u8 markB v zs ∧ Below w.heap.size w w' := by
  refine gives_enter Try.call12 Try.func12 rfl rfl rfl (by kernel_rfl) ?_
  refine v_seq ?_
  refine v_region ?_
  refine vl_val (os_assign rfl) ?_
  refine vl_nil ?_
  refine v_seq ?_
  refine v_region ?_
  refine vl_val (os_move rfl) ?_
  refine vl_val (os_len Try.underlying22 rfl) ?_
  refine vl_val (os_addi rfl rfl (by omega)) ?_
  refine vl_some (ot_make0 (l := n + 12) Try.underlying22 ti_u8 rfl rfl rfl rfl (by omega) (by simp [maxLen]; omega) w.heap.size (Nat.le_refl _)) ?_
  rintro v1 w1 ⟨rfl, ho, hg⟩
  have hb1 : Below w.heap.size w w1 := (Below.refl _ _).grown hg (Nat.le_refl _) (fun k hk => by cases hk)
  refine vl_val (os_assign rfl) ?_
  refine vl_nil ?_
  refine v_seq ?_
  refine v_region ?_
  refine vl_val (os_move rfl) ?_
  refine vl_val (os_move rfl) ?_
  refine vl_some (ot_append Try.underlying22 ti_u8 rfl rfl rfl ho (ha.keep hb1).toC (by simp [hn]) (ints_one _ _) (by simp; omega) (by simp [maxLen]; omega) hb1.size) ?_
  rintro v2 w2 ⟨ho2, hg2⟩
  have hb2 := Own.below hb1 ho hg2 (Nat.le_refl _) hb1.size
  refine vl_val (os_assign rfl) ?_
  refine vl_nil ?_
  refine v_seq ?_
  refine v_seq ?_
  refine v_region ?_
  refine vl_val (os_assign rfl) ?_
  refine vl_nil ?_
  refine v_block ?_
  refine v_loop2 [(0, _)] (fun (v : Value) (i : Nat) => [(3, v), (4, .int .i64 i)]) (fun v i w' => i ≤ 12 ∧ OwnK w' w.heap.size 5 .u8 v (zs ++ marks markB i) ∧ Below w.heap.size w w') (fun v i => 12 - i) (v2) (0) ⟨rfl, trivial⟩ ⟨rfl, rfl, trivial⟩ (⟨by omega, by simpa [OwnK, marks] using ho2, hb2⟩) ?_
  rintro v i w' ⟨hi, ho3, hb3⟩
  refine v_seq ?_
  refine v_seq ?_
  refine v_region ?_
  refine vl_val (os_move rfl) ?_
  refine vl_val (os_lss rfl rfl) ?_
  refine vl_nil ?_
  refine v_cond_d rfl (fun h => ?_) (fun h => ?_)
  · refine v_skip ?_
    refine v_seq ?_
    refine v_block ?_
    refine v_region ?_
    refine vl_val (os_move rfl) ?_
    refine vl_val (os_move rfl) ?_
    refine vl_call (kit_markByte 1 i w' (by omega) (by omega)) rfl ?_
    rintro v4 w' ⟨rfl, rfl⟩
    have ho4 := Own.alloc ho3 (.cells [Value.int .u8 (markB 1 i)].toArray 5)
    have hb4 := hb3.alloc hb3.size (.cells [Value.int .u8 (markB 1 i)].toArray 5)
    refine vl_val (os_lit Try.underlying22 Try.sizeOf5 Try.zeroValue5 rfl rfl rfl rfl (by decide)) ?_
    refine vl_some (ot_append Try.underlying22 ti_u8 rfl rfl rfl ho4 (rdc_alloc w' [Value.int .u8 (markB 1 i)] _) rfl (by simp [Value.oneCell']) (by simp [marks_len]; omega) (by simp [maxLen, marks_len]; omega) hb4.size) ?_
    rintro v5 w5 ⟨ho5, hg5⟩
    refine vl_val (os_assign rfl) ?_
    refine vl_nil ?_
    refine v_region ?_
    refine vl_val (os_move rfl) ?_
    refine vl_val (os_addi rfl rfl (by omega)) ?_
    refine vl_val (os_assign rfl) ?_
    refine vl_nil ?_
    exact ⟨⟨v5, i + 1⟩, ⟨rfl, trivial⟩, ⟨rfl, rfl, trivial⟩, ⟨by omega, by rw [marks_succ, ← List.append_assoc]; simpa [OwnK] using ho5, Own.below hb4 ho4 hg5 (Nat.le_refl _) hb4.size⟩, by dsimp only; omega⟩
  · obtain rfl : i = 12 := by omega
    obtain ⟨g, C, rfl, h1, h2, h3, h4⟩ := ho3.row (by simp [marks_len])
    rw [List.length_append, marks_len] at h3
    refine v_exit ?_
    refine v_seq ?_
    refine v_region ?_
    refine vl_val (os_move rfl) ?_
    refine vl_val (os_move rfl) ?_
    refine vl_val (os_len Try.underlying22 rfl) ?_
    refine vl_val (os_slice_h Try.underlying22 Try.sizeOf5 rfl rfl (h := n) (by omega) (by omega)) ?_
    refine vl_val (os_assign rfl) ?_
    refine vl_nil ?_
    refine v_ret ?_
    exact post_ret rfl rfl (⟨⟨g, C, by rw [hn], h3, ho3⟩, hb3⟩)
set_option maxHeartbeats 1000000 in
theorem kit_KeptBytes (v : Value) (B : Nat) (A : Option Addr) (n c : Nat) (zs : List Int) (w : World) (hv : Lent w B 5 .u8 markB v zs) (ha : Rd w .u8 A zs) (hn : n = zs.length) (hb : (n + 12) * 8 ≤ 140737488355328) : Gives Try.prog 24 #[v, .slice A n c] w fun v w' => v = .bool true ∧ LeD w w' := by
  obtain ⟨g, C, rfl, hC, ho⟩ := hv
  refine gives_enter Try.call24 Try.func24 rfl rfl rfl (by kernel_rfl) ?_
  refine v_seq ?_
  refine v_region ?_
  refine vl_val (os_assign rfl) ?_
  refine vl_nil ?_
  refine v_seq ?_
  refine v_seq ?_
  refine v_region ?_
  refine vl_val (os_move rfl) ?_
  refine vl_val (os_len Try.underlying22 rfl) ?_
  refine vl_val (os_move rfl) ?_
  refine vl_val (os_len Try.underlying22 rfl) ?_
  refine vl_val (os_neq rfl rfl) ?_
  refine vl_nil ?_
  refine v_cond_no rfl (by omega) ?_
  refine v_skip ?_
  refine v_seq ?_
  refine v_region ?_
  refine vl_val (os_move rfl) ?_
  refine vl_val (os_move rfl) ?_
  refine vl_val (os_len Try.underlying22 rfl) ?_
  refine vl_val (os_addi rfl rfl (by omega)) ?_
  refine vl_val (os_slice_h Try.underlying22 Try.sizeOf5 rfl rfl (h := n + 12) (by omega) (by omega)) ?_
  refine vl_val (os_assign rfl) ?_
  refine vl_nil ?_
  refine v_seq ?_
  refine v_seq ?_
  refine v_region ?_
  refine vl_val (os_assign rfl) ?_
  refine vl_nil ?_
  refine v_block ?_
  refine v_loop [(1, _), (5, _)] (fun (i : Nat) => [(6, .int .i64 i)]) (fun i w' => i ≤ n + 12 ∧ LeD w w') (fun i => n + 12 - i) (0) ⟨rfl, rfl, trivial⟩ ⟨rfl, trivial⟩ (⟨by omega, lee_d.refl _⟩) ?_
  rintro i w' ⟨hi, hq⟩
  refine v_seq ?_
  refine v_seq ?_
  refine v_region ?_
  refine vl_val (os_move rfl) ?_
  refine vl_val (os_move rfl) ?_
  refine vl_val (os_len Try.underlying22 rfl) ?_
  refine vl_val (os_lss rfl rfl) ?_
  refine vl_nil ?_
  refine v_cond_d rfl (fun h => ?_) (fun h => ?_)
  · have hc := OwnK.cell (Own.led ho hq : OwnK w' B _ _ _ _) (i := i) (by rw [List.length_append, marks_len]; omega)
    rcases Nat.lt_or_ge i n with hlt | hge
    · obtain ⟨bA, oA, rfl, hcA⟩ := (ha.led hq) (by omega)
      have hcA := hcA i (by omega)
      rw [show (zs ++ marks markB 12).getD i 0 = zs.getD i 0 by simp [List.getElem?_append, show i < zs.length by omega]] at hc
      refine v_skip ?_
      refine v_seq ?_
      refine v_block ?_
      refine v_seq ?_
      refine v_region_t LeD _ mixed (by kernel_rfl) lee_d (led_start _) ?_
      refine vt_val (fun w hw => os_move rfl) ?_
      refine vt_val (fun w hw => os_move rfl) ?_
      refine vt_val (fun w hw => os_len Try.underlying22 rfl) ?_
      refine vt_val (fun w hw => os_t (os_lss rfl rfl) (by omega)) ?_
      refine vt_val (fun w hw => os_move rfl) ?_
      refine vt_valg rfl (fun w hw => os_move rfl) ?_
      refine vt_valg rfl (fun w hw => os_move rfl) ?_
      refine vt_valg rfl (fun w hw => os_ix Try.underlying22 Try.sizeOf5 rfl rfl (i := i) (by omega) (by omega)) ?_
      refine vt_valg rfl (fun w hw => os_load Try.isAgg5 rfl (led_cell hw (by rw [Nat.zero_add]; exact hc))) ?_
      refine vt_valg rfl (fun w hw => os_move rfl) ?_
      refine vt_valg rfl (fun w hw => os_move rfl) ?_
      refine vt_valg rfl (fun w hw => os_ix Try.underlying22 Try.sizeOf5 rfl rfl (i := i) (by omega) (by omega)) ?_
      refine vt_valg rfl (fun w hw => os_load Try.isAgg5 rfl (led_cell hw (hcA))) ?_
      refine vt_valg rfl (fun w hw => os_t (os_eql rfl rfl) (rfl)) ?_
      refine vt_valg rfl (fun w hw => os_not rfl) ?_
      refine vt_val (fun w hw => os_pick_t rfl rfl) ?_
      refine vt_val (fun w hw => os_move rfl) ?_
      refine vt_valg rfl (fun w hw => os_move rfl) ?_
      refine vt_valg rfl (fun w hw => os_move rfl) ?_
      refine vt_valg rfl (fun w hw => os_len Try.underlying22 rfl) ?_
      refine vt_valg rfl (fun w hw => os_f (os_geq rfl rfl) (by omega)) ?_
      refine vt_valg rfl (fun w hw => os_move rfl) ?_
      refine vt_skip rfl rfl ?_
      refine vt_skip rfl rfl ?_
      refine vt_skip rfl rfl ?_
      refine vt_skip rfl rfl ?_
      refine vt_skip rfl rfl ?_
      refine vt_skip rfl rfl ?_
      refine vt_skip rfl rfl ?_
      refine vt_skip rfl rfl ?_
      refine vt_skip rfl rfl ?_
      refine vt_skip rfl rfl ?_
      refine vt_skip rfl rfl ?_
      refine vt_valg rfl (fun w hw => os_pick_f rfl rfl) ?_
      refine vt_val (fun w hw => os_pick_f rfl rfl) ?_
      refine vt_nil (fun w hw => ?_)
      obtain ⟨q, rfl⟩ := hw
      refine v_cond_f rfl ?_
      refine v_skip ?_
      refine v_region ?_
      refine vl_val (os_move rfl) ?_
      refine vl_val (os_addi rfl rfl (by omega)) ?_
      refine vl_val (os_assign rfl) ?_
      refine vl_nil ?_
      exact ⟨i + 1, ⟨rfl, rfl, trivial⟩, ⟨rfl, trivial⟩, ⟨by omega, lee_d.trans hq ⟨q, rfl⟩⟩, by dsimp only; omega⟩
    · rw [show (zs ++ marks markB 12).getD i 0 = markB 1 ((i : Int) - (n : Int)) by
        have e : (zs ++ marks markB 12).getD i 0 = (marks markB 12).getD (i - zs.length) 0 := by simp [List.getElem?_append, show ¬ i < zs.length by omega]
        rw [e, marks_at _ (by omega)]; congr 1; omega] at hc
      refine v_skip ?_
      refine v_seq ?_
      refine v_block ?_
      refine v_seq ?_
      refine v_region_t LeD _ mixed (by kernel_rfl) lee_d (led_start _) ?_
      refine vt_val (fun w hw => os_move rfl) ?_
      refine vt_val (fun w hw => os_move rfl) ?_
      refine vt_val (fun w hw => os_len Try.underlying22 rfl) ?_
      refine vt_val (fun w hw => os_f (os_lss rfl rfl) (by omega)) ?_
      refine vt_val (fun w hw => os_move rfl) ?_
      refine vt_skip rfl rfl ?_
      refine vt_skip rfl rfl ?_
      refine vt_skip rfl rfl ?_
      refine vt_skip rfl rfl ?_
      refine vt_skip rfl rfl ?_
      refine vt_skip rfl rfl ?_
      refine vt_skip rfl rfl ?_
      refine vt_skip rfl rfl ?_
      refine vt_skip rfl rfl ?_
      refine vt_skip rfl rfl ?_
      refine vt_val (fun w hw => os_pick_f rfl rfl) ?_
      refine vt_val (fun w hw => os_move rfl) ?_
      refine vt_valg rfl (fun w hw => os_move rfl) ?_
      refine vt_valg rfl (fun w hw => os_move rfl) ?_
      refine vt_valg rfl (fun w hw => os_len Try.underlying22 rfl) ?_
      refine vt_valg rfl (fun w hw => os_t (os_geq rfl rfl) (by omega)) ?_
      refine vt_valg rfl (fun w hw => os_move rfl) ?_
      refine vt_valg rfl (fun w hw => os_move rfl) ?_
      refine vt_valg rfl (fun w hw => os_move rfl) ?_
      refine vt_valg rfl (fun w hw => os_ix Try.underlying22 Try.sizeOf5 rfl rfl (i := i) (by omega) (by omega)) ?_
      refine vt_valg rfl (fun w hw => os_load Try.isAgg5 rfl (led_cell hw (by rw [Nat.zero_add]; exact hc))) ?_
      refine vt_valg rfl (fun w hw => os_move rfl) ?_
      refine vt_valg rfl (fun w hw => os_move rfl) ?_
      refine vt_valg rfl (fun w hw => os_len Try.underlying22 rfl) ?_
      refine vt_valg rfl (fun w hw => os_subi rfl rfl (by omega)) ?_
      refine vt_callg rfl (v := _) (fun w hw => (kit_markByte 1 ((i : Int) - (n : Int)) w (by omega) (by omega)).mono fun v w' hh => ⟨hh.1, by rw [hh.2]; exact lee_d.refl _⟩) rfl ?_
      refine vt_valg rfl (fun w hw => os_t (os_eql rfl rfl) (rfl)) ?_
      refine vt_valg rfl (fun w hw => os_not rfl) ?_
      refine vt_valg rfl (fun w hw => os_pick_t rfl rfl) ?_
      refine vt_val (fun w hw => os_pick_f rfl rfl) ?_
      refine vt_nil (fun w hw => ?_)
      obtain ⟨q, rfl⟩ := hw
      refine v_cond_f rfl ?_
      refine v_skip ?_
      refine v_region ?_
      refine vl_val (os_move rfl) ?_
      refine vl_val (os_addi rfl rfl (by omega)) ?_
      refine vl_val (os_assign rfl) ?_
      refine vl_nil ?_
      exact ⟨i + 1, ⟨rfl, rfl, trivial⟩, ⟨rfl, trivial⟩, ⟨by omega, lee_d.trans hq ⟨q, rfl⟩⟩, by dsimp only; omega⟩
  · refine v_exit ?_
    refine v_seq ?_
    refine v_region ?_
    refine vl_val (os_assign rfl) ?_
    refine vl_nil ?_
    refine v_ret ?_
    exact post_ret rfl rfl (⟨rfl, hq⟩)
end Go.Proofs.Ytpojijnjdlnokaa

/- Layer 12: even weights; the document's order; WeighDoes. -/
namespace Go.Proofs.Ytpojijnjdlnokaa
open Go.RowKit
set_option linter.unusedVariables false

def evenOk (n : Int) : Bool := decide (1 ≤ n ∧ n ≤ 255)
def evenL (n : Int) : List Int := if evenOk n then List.replicate (n + 1).toNat 65536 else []
theorem evenL_len (n : Int) : (evenL n).length ≤ 256 := by
  unfold evenL evenOk
  split
  · rename_i h
    have := of_decide_eq_true h
    simp; omega
  · simp
theorem wg_Even (n : Int) (w : World) (hn : I64 n) : Gives Try.prog 50 #[.int .i64 n] w fun v w' => ∃ s, v = .tuple #[s, .int .i64 (errA (evenOk n))] ∧ OwnK w' w.heap.size 3 .i64 s (evenL n) ∧ Below w.heap.size w w' := by
  refine gives_enter Try.call50 Try.func50 rfl rfl rfl (by kernel_rfl) ?_
  rcases (by omega : n < 1 ∨ 255 < n ∨ (1 ≤ n ∧ n ≤ 255)) with h | h | h
  · refine v_seq ?_
    refine v_region ?_
    refine vl_val (os_assign rfl) ?_
    refine vl_val (os_assign rfl) ?_
    refine vl_nil ?_
    refine v_seq ?_
    refine v_seq ?_
    refine v_region ?_
    refine vl_val (os_move rfl) ?_
    refine vl_val (os_t (os_lss rfl rfl) (by omega)) ?_
    have e : evenOk n = false := decide_eq_false (by omega)
    refine vl_val (os_move rfl) ?_
    refine vl_skip rfl rfl ?_
    refine vl_skip rfl rfl ?_
    refine vl_val (os_pick_t rfl rfl) ?_
    refine vl_nil ?_
    refine v_cond_t rfl ?_
    refine v_seq ?_
    refine v_region ?_
    refine vl_val (os_assign rfl) ?_
    refine vl_val (os_assign rfl) ?_
    refine vl_nil ?_
    refine v_ret ?_
    exact post_ret2 rfl rfl rfl (⟨_, by rw [e]; rfl, by rw [evenL, e]; exact Own.nil _ _ _, Below.refl _ _⟩)
  · refine v_seq ?_
    refine v_region ?_
    refine vl_val (os_assign rfl) ?_
    refine vl_val (os_assign rfl) ?_
    refine vl_nil ?_
    refine v_seq ?_
    refine v_seq ?_
    refine v_region ?_
    refine vl_val (os_move rfl) ?_
    refine vl_val (os_f (os_lss rfl rfl) (by omega)) ?_
    refine vl_val (os_move rfl) ?_
    refine vl_valg rfl (os_move rfl) ?_
    refine vl_valg rfl (os_gtr rfl rfl) ?_
    refine vl_val (os_pick_f rfl rfl) ?_
    refine vl_nil ?_
    refine v_cond_yes rfl (by omega) ?_
    have e : evenOk n = false := decide_eq_false (by omega)
    refine v_seq ?_
    refine v_region ?_
    refine vl_val (os_assign rfl) ?_
    refine vl_val (os_assign rfl) ?_
    refine vl_nil ?_
    refine v_ret ?_
    exact post_ret2 rfl rfl rfl (⟨_, by rw [e]; rfl, by rw [evenL, e]; exact Own.nil _ _ _, Below.refl _ _⟩)
  · refine v_seq ?_
    refine v_region ?_
    refine vl_val (os_assign rfl) ?_
    refine vl_val (os_assign rfl) ?_
    refine vl_nil ?_
    refine v_seq ?_
    refine v_seq ?_
    refine v_region ?_
    refine vl_val (os_move rfl) ?_
    refine vl_val (os_f (os_lss rfl rfl) (by omega)) ?_
    refine vl_val (os_move rfl) ?_
    refine vl_valg rfl (os_move rfl) ?_
    refine vl_valg rfl (os_gtr rfl rfl) ?_
    refine vl_val (os_pick_f rfl rfl) ?_
    refine vl_nil ?_
    refine v_cond_no rfl (by omega) ?_
    have e : evenOk n = true := decide_eq_true h
    obtain ⟨k, hk⟩ : ∃ k : Nat, n + 1 = k := ⟨(n + 1).toNat, by omega⟩
    have hb0 : Below w.heap.size w (w.alloc (.cells ([65536].map (Value.int .i64)).toArray 3)) := (Below.refl _ _).alloc (Nat.le_refl _) _
    refine v_skip ?_
    refine v_seq ?_
    refine v_region ?_
    refine vl_val (os_lit Try.underlying40 Try.sizeOf3 Try.zeroValue3 rfl rfl rfl rfl (by decide)) ?_
    refine vl_val (os_move rfl) ?_
    refine vl_val (os_addi rfl rfl (by omega)) ?_
    refine vl_call ((hk ▸ sl_Repeat _ _ k 65536 _ (rd_alloc w .i64 [65536] _) (by omega))) rfl ?_
    rintro v1 w1 ⟨g, rfl, ho, hb1⟩
    refine vl_val (os_assign rfl) ?_
    refine vl_val (os_assign rfl) ?_
    refine vl_nil ?_
    refine v_ret ?_
    exact post_ret2 rfl rfl rfl (⟨_, by rw [e]; rfl, by rw [evenL, e, if_pos rfl, hk]; exact Own.mono ho (by simp), hb0.trans (hb1.mono (by simp))⟩)
theorem lessL_neq : ∀ {a b : List Int}, a.length = b.length → ∀ {i : Nat}, i < a.length → a.take i = b.take i → a.getD i 0 ≠ b.getD i 0 → lessL a b = decide (a.getD i 0 < b.getD i 0)
  | [], _, _, i, hi, _, _ => by simp at hi
  | x :: xs, [], hl, _, _, _, _ => by simp at hl
  | x :: xs, y :: ys, hl, 0, _, _, hne => by
    have hne' : x ≠ y := by simpa using hne
    simp [lessL, hne']
  | x :: xs, y :: ys, hl, i + 1, hi, ht, hne => by
    have h1 : x = y ∧ xs.take i = ys.take i := by simpa using ht
    have ih := lessL_neq (a := xs) (b := ys) (by simpa using hl) (i := i) (by simpa using hi) h1.2 (by simpa using hne)
    simp only [List.getD_cons_succ]
    rw [← ih]
    simp [lessL, h1.1]
theorem lessL_self (a : List Int) : lessL a a = false := by have := (lessL_tri a a).2; simpa using this

end Go.Proofs.Ytpojijnjdlnokaa
