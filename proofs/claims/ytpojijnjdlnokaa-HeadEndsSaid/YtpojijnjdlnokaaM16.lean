/- Texts joined: HdW HdX NtS Nt NtX. -/
import Derived.Test.YtpojijnjdlnokaaM15
/- Layer 14: the document's headers: whether one is right; a header's bytes. -/
namespace Go.Proofs.Ytpojijnjdlnokaa
open Go.RowKit
set_option linter.unusedVariables false

section
variable {P : Program} {n : Cx} {fr : Fr} {w : World} {x y : Operand} {ty T e : TypeId} {v : Value}
theorem ot_appB {A : Option Addr} {m c : Nat} {zs xs : List Int} {z0 : Value} {W0 : World} (hT : P.underlying T = some (.slice e)) (hi : TyInfo P e z0 1 1) (hz : z0.cells.size = 1) (hx : Fr.ev fr x = some v) (hy : Fr.ev fr y = some (.slice A m c))
    (ho : OwnK w W0.heap.size e .u8 v zs) (hb0 : Below W0.heap.size W0 w) (hr : Rd w .u8 A xs) (hm : m = xs.length) (hl : zs.length + m ≤ 100000000) :
    OT P n (.call ⟨.builtin .append, #[x, y], #[T, T]⟩) ty fr w fun v' w' => OwnK w' W0.heap.size e .u8 v' (zs ++ xs) ∧ Below W0.heap.size W0 w' :=
  (ot_append hT hi hz hx hy ho hr.toC (by simp [hm]) (ints8 _) (by simp; omega) (by simp [maxLen]; omega) hb0.size).mono fun v' w' ⟨h1, h2⟩ => ⟨by unfold OwnK; rw [List.map_append]; exact h1, Own.below hb0 ho h2 (Nat.le_refl _) hb0.size⟩
end
theorem nb1 (z : Int) : numBytes z 1 = [z % 256] := by simp [numBytes]
theorem ref14_Right (d : HeadV) (w : World) (hd : HeadOk w d) : Gives Try.prog 79 #[.agg d.cells.toArray] w fun v w' => v = .bool (rightH d.q) ∧ Below w.heap.size w w' := by
  have hl := hd.2.1
  have hB0 := bk_new w d.cells 65
  have hb0 : Below w.heap.size w (w.alloc (.cells d.cells.toArray 65)) := (Below.refl _ w).alloc (Nat.le_refl _) _
  have hd0 := hd.keep hb0
  by_cases hall : 0 ≤ d.q.st ∧ d.q.st ≤ 65535 ∧ 1 ≤ d.q.fr ∧ d.q.fr ≤ 2147483647 ∧ 0 ≤ d.q.ix ∧ d.q.ix < d.q.n ∧ 0 ≤ d.q.dl ∧ d.q.dl ≤ 2147483647
  · obtain ⟨g1, g2, g3, g4, g5, g6, g7, g8⟩ := hall
    have hE : rightH d.q = layOk d.q.n d.q.rows := by unfold rightH betw; rw [decide_eq_true (by omega), decide_eq_true (by omega), decide_eq_true (by omega), decide_eq_true (by omega)]; simp
    rw [hE]
    refine gives_enter Try.call79 Try.func79 rfl rfl rfl (by kernel_rfl) ?_
    refine v_seq ?_
    refine v_region ?_
    refine vl_val (os_box rfl) ?_
    refine vl_val (os_assign rfl) ?_
    refine vl_nil ?_
    refine v_seq ?_
    refine v_region ?_
    refine vl_val (os_fa (o := 0) (k := 0) (by kernel_rfl) rfl) ?_
    refine vl_val (os_load Try.isAgg3 rfl (hB0.cell (i := 0) rfl)) ?_
    refine vl_val (os_t (os_geq rfl rfl) (by omega)) ?_
    refine vl_val (os_move rfl) ?_
    refine vl_valg rfl (os_fa (o := 0) (k := 0) (by kernel_rfl) rfl) ?_
    refine vl_valg rfl (os_load Try.isAgg3 rfl (hB0.cell (i := 0) rfl)) ?_
    refine vl_valg rfl (os_t (os_leq rfl rfl) (by omega)) ?_
    refine vl_val (os_pick_t rfl rfl) ?_
    refine vl_val (os_move rfl) ?_
    refine vl_valg rfl (os_fa (o := 1) (k := 0) (by kernel_rfl) rfl) ?_
    refine vl_valg rfl (os_load Try.isAgg3 rfl (hB0.cell (i := 1) rfl)) ?_
    refine vl_valg rfl (os_t (os_geq rfl rfl) (by omega)) ?_
    refine vl_val (os_pick_t rfl rfl) ?_
    refine vl_val (os_move rfl) ?_
    refine vl_valg rfl (os_fa (o := 1) (k := 0) (by kernel_rfl) rfl) ?_
    refine vl_valg rfl (os_load Try.isAgg3 rfl (hB0.cell (i := 1) rfl)) ?_
    refine vl_valg rfl (os_t (os_leq rfl rfl) (by omega)) ?_
    refine vl_val (os_pick_t rfl rfl) ?_
    refine vl_val (os_move rfl) ?_
    refine vl_valg rfl (os_fa (o := 2) (k := 0) (by kernel_rfl) rfl) ?_
    refine vl_valg rfl (os_load Try.isAgg3 rfl (hB0.cell (i := 2) rfl)) ?_
    refine vl_valg rfl (os_t (os_geq rfl rfl) (by omega)) ?_
    refine vl_val (os_pick_t rfl rfl) ?_
    refine vl_val (os_move rfl) ?_
    refine vl_valg rfl (os_fa (o := 2) (k := 0) (by kernel_rfl) rfl) ?_
    refine vl_valg rfl (os_load Try.isAgg3 rfl (hB0.cell (i := 2) rfl)) ?_
    refine vl_valg rfl (os_fa (o := 3) (k := 0) (by kernel_rfl) rfl) ?_
    refine vl_valg rfl (os_load Try.isAgg3 rfl (hB0.cell (i := 3) rfl)) ?_
    refine vl_valg rfl (os_t (os_lss rfl rfl) (by omega)) ?_
    refine vl_val (os_pick_t rfl rfl) ?_
    refine vl_val (os_move rfl) ?_
    refine vl_valg rfl (os_fa (o := 4) (k := 0) (by kernel_rfl) rfl) ?_
    refine vl_valg rfl (os_load Try.isAgg3 rfl (hB0.cell (i := 4) rfl)) ?_
    refine vl_valg rfl (os_t (os_geq rfl rfl) (by omega)) ?_
    refine vl_val (os_pick_t rfl rfl) ?_
    refine vl_val (os_move rfl) ?_
    refine vl_valg rfl (os_fa (o := 4) (k := 0) (by kernel_rfl) rfl) ?_
    refine vl_valg rfl (os_load Try.isAgg3 rfl (hB0.cell (i := 4) rfl)) ?_
    refine vl_valg rfl (os_t (os_leq rfl rfl) (by omega)) ?_
    refine vl_val (os_pick_t rfl rfl) ?_
    refine vl_val (os_move rfl) ?_
    refine vl_valg rfl (os_fa (o := 3) (k := 0) (by kernel_rfl) rfl) ?_
    refine vl_valg rfl (os_load Try.isAgg3 rfl (hB0.cell (i := 3) rfl)) ?_
    refine vl_valg rfl (os_fa (o := 5) (k := 0) (by kernel_rfl) rfl) ?_
    refine vl_valg rfl (os_load Try.isAgg63 rfl (hB0.cell (i := 5) rfl)) ?_
    refine vl_callg rfl (ref10_Right d.q.n d.A d.l d.c d.q.rows _ hd0.1 hl) rfl ?_
    rintro v1 w1 ⟨rfl, b1⟩
    refine vl_val (os_pick_t rfl rfl) ?_
    refine vl_val (os_assign rfl) ?_
    refine vl_nil ?_
    refine v_ret ?_
    exact post_ret rfl rfl (⟨rfl, hb0.trans ((led_below b1).mono hb0.size)⟩)
  · have hE : rightH d.q = false := by
      unfold rightH betw
      rcases (by omega : ¬ (0 ≤ d.q.st ∧ d.q.st ≤ 65535) ∨ ¬ (1 ≤ d.q.fr ∧ d.q.fr ≤ 2147483647) ∨ ¬ (0 ≤ d.q.ix ∧ d.q.ix ≤ d.q.n - 1) ∨ ¬ (0 ≤ d.q.dl ∧ d.q.dl ≤ 2147483647)) with h | h | h | h <;> simp [decide_eq_false h]
    rw [hE]
    refine gives_enter Try.call79 Try.func79 rfl rfl rfl (by kernel_rfl) ?_
    by_cases c1 : 0 ≤ d.q.st
    · by_cases c2 : d.q.st ≤ 65535
      · by_cases c3 : 1 ≤ d.q.fr
        · by_cases c4 : d.q.fr ≤ 2147483647
          · by_cases c5 : 0 ≤ d.q.ix
            · by_cases c6 : d.q.ix < d.q.n
              · by_cases c7 : 0 ≤ d.q.dl
                · refine v_seq ?_
                  refine v_region ?_
                  refine vl_val (os_box rfl) ?_
                  refine vl_val (os_assign rfl) ?_
                  refine vl_nil ?_
                  refine v_seq ?_
                  refine v_region ?_
                  refine vl_val (os_fa (o := 0) (k := 0) (by kernel_rfl) rfl) ?_
                  refine vl_val (os_load Try.isAgg3 rfl (hB0.cell (i := 0) rfl)) ?_
                  refine vl_val (os_t (os_geq rfl rfl) (by omega)) ?_
                  refine vl_val (os_move rfl) ?_
                  refine vl_valg rfl (os_fa (o := 0) (k := 0) (by kernel_rfl) rfl) ?_
                  refine vl_valg rfl (os_load Try.isAgg3 rfl (hB0.cell (i := 0) rfl)) ?_
                  refine vl_valg rfl (os_t (os_leq rfl rfl) (by omega)) ?_
                  refine vl_val (os_pick_t rfl rfl) ?_
                  refine vl_val (os_move rfl) ?_
                  refine vl_valg rfl (os_fa (o := 1) (k := 0) (by kernel_rfl) rfl) ?_
                  refine vl_valg rfl (os_load Try.isAgg3 rfl (hB0.cell (i := 1) rfl)) ?_
                  refine vl_valg rfl (os_t (os_geq rfl rfl) (by omega)) ?_
                  refine vl_val (os_pick_t rfl rfl) ?_
                  refine vl_val (os_move rfl) ?_
                  refine vl_valg rfl (os_fa (o := 1) (k := 0) (by kernel_rfl) rfl) ?_
                  refine vl_valg rfl (os_load Try.isAgg3 rfl (hB0.cell (i := 1) rfl)) ?_
                  refine vl_valg rfl (os_t (os_leq rfl rfl) (by omega)) ?_
                  refine vl_val (os_pick_t rfl rfl) ?_
                  refine vl_val (os_move rfl) ?_
                  refine vl_valg rfl (os_fa (o := 2) (k := 0) (by kernel_rfl) rfl) ?_
                  refine vl_valg rfl (os_load Try.isAgg3 rfl (hB0.cell (i := 2) rfl)) ?_
                  refine vl_valg rfl (os_t (os_geq rfl rfl) (by omega)) ?_
                  refine vl_val (os_pick_t rfl rfl) ?_
                  refine vl_val (os_move rfl) ?_
                  refine vl_valg rfl (os_fa (o := 2) (k := 0) (by kernel_rfl) rfl) ?_
                  refine vl_valg rfl (os_load Try.isAgg3 rfl (hB0.cell (i := 2) rfl)) ?_
                  refine vl_valg rfl (os_fa (o := 3) (k := 0) (by kernel_rfl) rfl) ?_
                  refine vl_valg rfl (os_load Try.isAgg3 rfl (hB0.cell (i := 3) rfl)) ?_
                  refine vl_valg rfl (os_t (os_lss rfl rfl) (by omega)) ?_
                  refine vl_val (os_pick_t rfl rfl) ?_
                  refine vl_val (os_move rfl) ?_
                  refine vl_valg rfl (os_fa (o := 4) (k := 0) (by kernel_rfl) rfl) ?_
                  refine vl_valg rfl (os_load Try.isAgg3 rfl (hB0.cell (i := 4) rfl)) ?_
                  refine vl_valg rfl (os_t (os_geq rfl rfl) (by omega)) ?_
                  refine vl_val (os_pick_t rfl rfl) ?_
                  refine vl_val (os_move rfl) ?_
                  refine vl_valg rfl (os_fa (o := 4) (k := 0) (by kernel_rfl) rfl) ?_
                  refine vl_valg rfl (os_load Try.isAgg3 rfl (hB0.cell (i := 4) rfl)) ?_
                  refine vl_valg rfl (os_f (os_leq rfl rfl) (by omega)) ?_
                  refine vl_val (os_pick_t rfl rfl) ?_
                  refine vl_val (os_move rfl) ?_
                  refine vl_skip rfl rfl ?_
                  refine vl_skip rfl rfl ?_
                  refine vl_skip rfl rfl ?_
                  refine vl_skip rfl rfl ?_
                  refine vl_skip rfl rfl ?_
                  refine vl_val (os_pick_f rfl rfl) ?_
                  refine vl_val (os_assign rfl) ?_
                  refine vl_nil ?_
                  refine v_ret ?_
                  exact post_ret rfl rfl (⟨rfl, hb0⟩)
                · refine v_seq ?_
                  refine v_region ?_
                  refine vl_val (os_box rfl) ?_
                  refine vl_val (os_assign rfl) ?_
                  refine vl_nil ?_
                  refine v_seq ?_
                  refine v_region ?_
                  refine vl_val (os_fa (o := 0) (k := 0) (by kernel_rfl) rfl) ?_
                  refine vl_val (os_load Try.isAgg3 rfl (hB0.cell (i := 0) rfl)) ?_
                  refine vl_val (os_t (os_geq rfl rfl) (by omega)) ?_
                  refine vl_val (os_move rfl) ?_
                  refine vl_valg rfl (os_fa (o := 0) (k := 0) (by kernel_rfl) rfl) ?_
                  refine vl_valg rfl (os_load Try.isAgg3 rfl (hB0.cell (i := 0) rfl)) ?_
                  refine vl_valg rfl (os_t (os_leq rfl rfl) (by omega)) ?_
                  refine vl_val (os_pick_t rfl rfl) ?_
                  refine vl_val (os_move rfl) ?_
                  refine vl_valg rfl (os_fa (o := 1) (k := 0) (by kernel_rfl) rfl) ?_
                  refine vl_valg rfl (os_load Try.isAgg3 rfl (hB0.cell (i := 1) rfl)) ?_
                  refine vl_valg rfl (os_t (os_geq rfl rfl) (by omega)) ?_
                  refine vl_val (os_pick_t rfl rfl) ?_
                  refine vl_val (os_move rfl) ?_
                  refine vl_valg rfl (os_fa (o := 1) (k := 0) (by kernel_rfl) rfl) ?_
                  refine vl_valg rfl (os_load Try.isAgg3 rfl (hB0.cell (i := 1) rfl)) ?_
                  refine vl_valg rfl (os_t (os_leq rfl rfl) (by omega)) ?_
                  refine vl_val (os_pick_t rfl rfl) ?_
                  refine vl_val (os_move rfl) ?_
                  refine vl_valg rfl (os_fa (o := 2) (k := 0) (by kernel_rfl) rfl) ?_
                  refine vl_valg rfl (os_load Try.isAgg3 rfl (hB0.cell (i := 2) rfl)) ?_
                  refine vl_valg rfl (os_t (os_geq rfl rfl) (by omega)) ?_
                  refine vl_val (os_pick_t rfl rfl) ?_
                  refine vl_val (os_move rfl) ?_
                  refine vl_valg rfl (os_fa (o := 2) (k := 0) (by kernel_rfl) rfl) ?_
                  refine vl_valg rfl (os_load Try.isAgg3 rfl (hB0.cell (i := 2) rfl)) ?_
                  refine vl_valg rfl (os_fa (o := 3) (k := 0) (by kernel_rfl) rfl) ?_
                  refine vl_valg rfl (os_load Try.isAgg3 rfl (hB0.cell (i := 3) rfl)) ?_
                  refine vl_valg rfl (os_t (os_lss rfl rfl) (by omega)) ?_
                  refine vl_val (os_pick_t rfl rfl) ?_
                  refine vl_val (os_move rfl) ?_
                  refine vl_valg rfl (os_fa (o := 4) (k := 0) (by kernel_rfl) rfl) ?_
                  refine vl_valg rfl (os_load Try.isAgg3 rfl (hB0.cell (i := 4) rfl)) ?_
                  refine vl_valg rfl (os_f (os_geq rfl rfl) (by omega)) ?_
                  refine vl_val (os_pick_t rfl rfl) ?_
                  refine vl_val (os_move rfl) ?_
                  refine vl_skip rfl rfl ?_
                  refine vl_skip rfl rfl ?_
                  refine vl_skip rfl rfl ?_
                  refine vl_val (os_pick_f rfl rfl) ?_
                  refine vl_val (os_move rfl) ?_
                  refine vl_skip rfl rfl ?_
                  refine vl_skip rfl rfl ?_
                  refine vl_skip rfl rfl ?_
                  refine vl_skip rfl rfl ?_
                  refine vl_skip rfl rfl ?_
                  refine vl_val (os_pick_f rfl rfl) ?_
                  refine vl_val (os_assign rfl) ?_
                  refine vl_nil ?_
                  refine v_ret ?_
                  exact post_ret rfl rfl (⟨rfl, hb0⟩)
              · refine v_seq ?_
                refine v_region ?_
                refine vl_val (os_box rfl) ?_
                refine vl_val (os_assign rfl) ?_
                refine vl_nil ?_
                refine v_seq ?_
                refine v_region ?_
                refine vl_val (os_fa (o := 0) (k := 0) (by kernel_rfl) rfl) ?_
                refine vl_val (os_load Try.isAgg3 rfl (hB0.cell (i := 0) rfl)) ?_
                refine vl_val (os_t (os_geq rfl rfl) (by omega)) ?_
                refine vl_val (os_move rfl) ?_
                refine vl_valg rfl (os_fa (o := 0) (k := 0) (by kernel_rfl) rfl) ?_
                refine vl_valg rfl (os_load Try.isAgg3 rfl (hB0.cell (i := 0) rfl)) ?_
                refine vl_valg rfl (os_t (os_leq rfl rfl) (by omega)) ?_
                refine vl_val (os_pick_t rfl rfl) ?_
                refine vl_val (os_move rfl) ?_
                refine vl_valg rfl (os_fa (o := 1) (k := 0) (by kernel_rfl) rfl) ?_
                refine vl_valg rfl (os_load Try.isAgg3 rfl (hB0.cell (i := 1) rfl)) ?_
                refine vl_valg rfl (os_t (os_geq rfl rfl) (by omega)) ?_
                refine vl_val (os_pick_t rfl rfl) ?_
                refine vl_val (os_move rfl) ?_
                refine vl_valg rfl (os_fa (o := 1) (k := 0) (by kernel_rfl) rfl) ?_
                refine vl_valg rfl (os_load Try.isAgg3 rfl (hB0.cell (i := 1) rfl)) ?_
                refine vl_valg rfl (os_t (os_leq rfl rfl) (by omega)) ?_
                refine vl_val (os_pick_t rfl rfl) ?_
                refine vl_val (os_move rfl) ?_
                refine vl_valg rfl (os_fa (o := 2) (k := 0) (by kernel_rfl) rfl) ?_
                refine vl_valg rfl (os_load Try.isAgg3 rfl (hB0.cell (i := 2) rfl)) ?_
                refine vl_valg rfl (os_t (os_geq rfl rfl) (by omega)) ?_
                refine vl_val (os_pick_t rfl rfl) ?_
                refine vl_val (os_move rfl) ?_
                refine vl_valg rfl (os_fa (o := 2) (k := 0) (by kernel_rfl) rfl) ?_
                refine vl_valg rfl (os_load Try.isAgg3 rfl (hB0.cell (i := 2) rfl)) ?_
                refine vl_valg rfl (os_fa (o := 3) (k := 0) (by kernel_rfl) rfl) ?_
                refine vl_valg rfl (os_load Try.isAgg3 rfl (hB0.cell (i := 3) rfl)) ?_
                refine vl_valg rfl (os_f (os_lss rfl rfl) (by omega)) ?_
                refine vl_val (os_pick_t rfl rfl) ?_
                refine vl_val (os_move rfl) ?_
                refine vl_skip rfl rfl ?_
                refine vl_skip rfl rfl ?_
                refine vl_skip rfl rfl ?_
                refine vl_val (os_pick_f rfl rfl) ?_
                refine vl_val (os_move rfl) ?_
                refine vl_skip rfl rfl ?_
                refine vl_skip rfl rfl ?_
                refine vl_skip rfl rfl ?_
                refine vl_val (os_pick_f rfl rfl) ?_
                refine vl_val (os_move rfl) ?_
                refine vl_skip rfl rfl ?_
                refine vl_skip rfl rfl ?_
                refine vl_skip rfl rfl ?_
                refine vl_skip rfl rfl ?_
                refine vl_skip rfl rfl ?_
                refine vl_val (os_pick_f rfl rfl) ?_
                refine vl_val (os_assign rfl) ?_
                refine vl_nil ?_
                refine v_ret ?_
                exact post_ret rfl rfl (⟨rfl, hb0⟩)
            · refine v_seq ?_
              refine v_region ?_
              refine vl_val (os_box rfl) ?_
              refine vl_val (os_assign rfl) ?_
              refine vl_nil ?_
              refine v_seq ?_
              refine v_region ?_
              refine vl_val (os_fa (o := 0) (k := 0) (by kernel_rfl) rfl) ?_
              refine vl_val (os_load Try.isAgg3 rfl (hB0.cell (i := 0) rfl)) ?_
              refine vl_val (os_t (os_geq rfl rfl) (by omega)) ?_
              refine vl_val (os_move rfl) ?_
              refine vl_valg rfl (os_fa (o := 0) (k := 0) (by kernel_rfl) rfl) ?_
              refine vl_valg rfl (os_load Try.isAgg3 rfl (hB0.cell (i := 0) rfl)) ?_
              refine vl_valg rfl (os_t (os_leq rfl rfl) (by omega)) ?_
              refine vl_val (os_pick_t rfl rfl) ?_
              refine vl_val (os_move rfl) ?_
              refine vl_valg rfl (os_fa (o := 1) (k := 0) (by kernel_rfl) rfl) ?_
              refine vl_valg rfl (os_load Try.isAgg3 rfl (hB0.cell (i := 1) rfl)) ?_
              refine vl_valg rfl (os_t (os_geq rfl rfl) (by omega)) ?_
              refine vl_val (os_pick_t rfl rfl) ?_
              refine vl_val (os_move rfl) ?_
              refine vl_valg rfl (os_fa (o := 1) (k := 0) (by kernel_rfl) rfl) ?_
              refine vl_valg rfl (os_load Try.isAgg3 rfl (hB0.cell (i := 1) rfl)) ?_
              refine vl_valg rfl (os_t (os_leq rfl rfl) (by omega)) ?_
              refine vl_val (os_pick_t rfl rfl) ?_
              refine vl_val (os_move rfl) ?_
              refine vl_valg rfl (os_fa (o := 2) (k := 0) (by kernel_rfl) rfl) ?_
              refine vl_valg rfl (os_load Try.isAgg3 rfl (hB0.cell (i := 2) rfl)) ?_
              refine vl_valg rfl (os_f (os_geq rfl rfl) (by omega)) ?_
              refine vl_val (os_pick_t rfl rfl) ?_
              refine vl_val (os_move rfl) ?_
              refine vl_skip rfl rfl ?_
              refine vl_skip rfl rfl ?_
              refine vl_skip rfl rfl ?_
              refine vl_skip rfl rfl ?_
              refine vl_skip rfl rfl ?_
              refine vl_val (os_pick_f rfl rfl) ?_
              refine vl_val (os_move rfl) ?_
              refine vl_skip rfl rfl ?_
              refine vl_skip rfl rfl ?_
              refine vl_skip rfl rfl ?_
              refine vl_val (os_pick_f rfl rfl) ?_
              refine vl_val (os_move rfl) ?_
              refine vl_skip rfl rfl ?_
              refine vl_skip rfl rfl ?_
              refine vl_skip rfl rfl ?_
              refine vl_val (os_pick_f rfl rfl) ?_
              refine vl_val (os_move rfl) ?_
              refine vl_skip rfl rfl ?_
              refine vl_skip rfl rfl ?_
              refine vl_skip rfl rfl ?_
              refine vl_skip rfl rfl ?_
              refine vl_skip rfl rfl ?_
              refine vl_val (os_pick_f rfl rfl) ?_
              refine vl_val (os_assign rfl) ?_
              refine vl_nil ?_
              refine v_ret ?_
              exact post_ret rfl rfl (⟨rfl, hb0⟩)
          · refine v_seq ?_
            refine v_region ?_
            refine vl_val (os_box rfl) ?_
            refine vl_val (os_assign rfl) ?_
            refine vl_nil ?_
            refine v_seq ?_
            refine v_region ?_
            refine vl_val (os_fa (o := 0) (k := 0) (by kernel_rfl) rfl) ?_
            refine vl_val (os_load Try.isAgg3 rfl (hB0.cell (i := 0) rfl)) ?_
            refine vl_val (os_t (os_geq rfl rfl) (by omega)) ?_
            refine vl_val (os_move rfl) ?_
            refine vl_valg rfl (os_fa (o := 0) (k := 0) (by kernel_rfl) rfl) ?_
            refine vl_valg rfl (os_load Try.isAgg3 rfl (hB0.cell (i := 0) rfl)) ?_
            refine vl_valg rfl (os_t (os_leq rfl rfl) (by omega)) ?_
            refine vl_val (os_pick_t rfl rfl) ?_
            refine vl_val (os_move rfl) ?_
            refine vl_valg rfl (os_fa (o := 1) (k := 0) (by kernel_rfl) rfl) ?_
            refine vl_valg rfl (os_load Try.isAgg3 rfl (hB0.cell (i := 1) rfl)) ?_
            refine vl_valg rfl (os_t (os_geq rfl rfl) (by omega)) ?_
            refine vl_val (os_pick_t rfl rfl) ?_
            refine vl_val (os_move rfl) ?_
            refine vl_valg rfl (os_fa (o := 1) (k := 0) (by kernel_rfl) rfl) ?_
            refine vl_valg rfl (os_load Try.isAgg3 rfl (hB0.cell (i := 1) rfl)) ?_
            refine vl_valg rfl (os_f (os_leq rfl rfl) (by omega)) ?_
            refine vl_val (os_pick_t rfl rfl) ?_
            refine vl_val (os_move rfl) ?_
            refine vl_skip rfl rfl ?_
            refine vl_skip rfl rfl ?_
            refine vl_skip rfl rfl ?_
            refine vl_val (os_pick_f rfl rfl) ?_
            refine vl_val (os_move rfl) ?_
            refine vl_skip rfl rfl ?_
            refine vl_skip rfl rfl ?_
            refine vl_skip rfl rfl ?_
            refine vl_skip rfl rfl ?_
            refine vl_skip rfl rfl ?_
            refine vl_val (os_pick_f rfl rfl) ?_
            refine vl_val (os_move rfl) ?_
            refine vl_skip rfl rfl ?_
            refine vl_skip rfl rfl ?_
            refine vl_skip rfl rfl ?_
            refine vl_val (os_pick_f rfl rfl) ?_
            refine vl_val (os_move rfl) ?_
            refine vl_skip rfl rfl ?_
            refine vl_skip rfl rfl ?_
            refine vl_skip rfl rfl ?_
            refine vl_val (os_pick_f rfl rfl) ?_
            refine vl_val (os_move rfl) ?_
            refine vl_skip rfl rfl ?_
            refine vl_skip rfl rfl ?_
            refine vl_skip rfl rfl ?_
            refine vl_skip rfl rfl ?_
            refine vl_skip rfl rfl ?_
            refine vl_val (os_pick_f rfl rfl) ?_
            refine vl_val (os_assign rfl) ?_
            refine vl_nil ?_
            refine v_ret ?_
            exact post_ret rfl rfl (⟨rfl, hb0⟩)
        · refine v_seq ?_
          refine v_region ?_
          refine vl_val (os_box rfl) ?_
          refine vl_val (os_assign rfl) ?_
          refine vl_nil ?_
          refine v_seq ?_
          refine v_region ?_
          refine vl_val (os_fa (o := 0) (k := 0) (by kernel_rfl) rfl) ?_
          refine vl_val (os_load Try.isAgg3 rfl (hB0.cell (i := 0) rfl)) ?_
          refine vl_val (os_t (os_geq rfl rfl) (by omega)) ?_
          refine vl_val (os_move rfl) ?_
          refine vl_valg rfl (os_fa (o := 0) (k := 0) (by kernel_rfl) rfl) ?_
          refine vl_valg rfl (os_load Try.isAgg3 rfl (hB0.cell (i := 0) rfl)) ?_
          refine vl_valg rfl (os_t (os_leq rfl rfl) (by omega)) ?_
          refine vl_val (os_pick_t rfl rfl) ?_
          refine vl_val (os_move rfl) ?_
          refine vl_valg rfl (os_fa (o := 1) (k := 0) (by kernel_rfl) rfl) ?_
          refine vl_valg rfl (os_load Try.isAgg3 rfl (hB0.cell (i := 1) rfl)) ?_
          refine vl_valg rfl (os_f (os_geq rfl rfl) (by omega)) ?_
          refine vl_val (os_pick_t rfl rfl) ?_
          refine vl_val (os_move rfl) ?_
          refine vl_skip rfl rfl ?_
          refine vl_skip rfl rfl ?_
          refine vl_skip rfl rfl ?_
          refine vl_val (os_pick_f rfl rfl) ?_
          refine vl_val (os_move rfl) ?_
          refine vl_skip rfl rfl ?_
          refine vl_skip rfl rfl ?_
          refine vl_skip rfl rfl ?_
          refine vl_val (os_pick_f rfl rfl) ?_
          refine vl_val (os_move rfl) ?_
          refine vl_skip rfl rfl ?_
          refine vl_skip rfl rfl ?_
          refine vl_skip rfl rfl ?_
          refine vl_skip rfl rfl ?_
          refine vl_skip rfl rfl ?_
          refine vl_val (os_pick_f rfl rfl) ?_
          refine vl_val (os_move rfl) ?_
          refine vl_skip rfl rfl ?_
          refine vl_skip rfl rfl ?_
          refine vl_skip rfl rfl ?_
          refine vl_val (os_pick_f rfl rfl) ?_
          refine vl_val (os_move rfl) ?_
          refine vl_skip rfl rfl ?_
          refine vl_skip rfl rfl ?_
          refine vl_skip rfl rfl ?_
          refine vl_val (os_pick_f rfl rfl) ?_
          refine vl_val (os_move rfl) ?_
          refine vl_skip rfl rfl ?_
          refine vl_skip rfl rfl ?_
          refine vl_skip rfl rfl ?_
          refine vl_skip rfl rfl ?_
          refine vl_skip rfl rfl ?_
          refine vl_val (os_pick_f rfl rfl) ?_
          refine vl_val (os_assign rfl) ?_
          refine vl_nil ?_
          refine v_ret ?_
          exact post_ret rfl rfl (⟨rfl, hb0⟩)
      · refine v_seq ?_
        refine v_region ?_
        refine vl_val (os_box rfl) ?_
        refine vl_val (os_assign rfl) ?_
        refine vl_nil ?_
        refine v_seq ?_
        refine v_region ?_
        refine vl_val (os_fa (o := 0) (k := 0) (by kernel_rfl) rfl) ?_
        refine vl_val (os_load Try.isAgg3 rfl (hB0.cell (i := 0) rfl)) ?_
        refine vl_val (os_t (os_geq rfl rfl) (by omega)) ?_
        refine vl_val (os_move rfl) ?_
        refine vl_valg rfl (os_fa (o := 0) (k := 0) (by kernel_rfl) rfl) ?_
        refine vl_valg rfl (os_load Try.isAgg3 rfl (hB0.cell (i := 0) rfl)) ?_
        refine vl_valg rfl (os_f (os_leq rfl rfl) (by omega)) ?_
        refine vl_val (os_pick_t rfl rfl) ?_
        refine vl_val (os_move rfl) ?_
        refine vl_skip rfl rfl ?_
        refine vl_skip rfl rfl ?_
        refine vl_skip rfl rfl ?_
        refine vl_val (os_pick_f rfl rfl) ?_
        refine vl_val (os_move rfl) ?_
        refine vl_skip rfl rfl ?_
        refine vl_skip rfl rfl ?_
        refine vl_skip rfl rfl ?_
        refine vl_val (os_pick_f rfl rfl) ?_
        refine vl_val (os_move rfl) ?_
        refine vl_skip rfl rfl ?_
        refine vl_skip rfl rfl ?_
        refine vl_skip rfl rfl ?_
        refine vl_val (os_pick_f rfl rfl) ?_
        refine vl_val (os_move rfl) ?_
        refine vl_skip rfl rfl ?_
        refine vl_skip rfl rfl ?_
        refine vl_skip rfl rfl ?_
        refine vl_skip rfl rfl ?_
        refine vl_skip rfl rfl ?_
        refine vl_val (os_pick_f rfl rfl) ?_
        refine vl_val (os_move rfl) ?_
        refine vl_skip rfl rfl ?_
        refine vl_skip rfl rfl ?_
        refine vl_skip rfl rfl ?_
        refine vl_val (os_pick_f rfl rfl) ?_
        refine vl_val (os_move rfl) ?_
        refine vl_skip rfl rfl ?_
        refine vl_skip rfl rfl ?_
        refine vl_skip rfl rfl ?_
        refine vl_val (os_pick_f rfl rfl) ?_
        refine vl_val (os_move rfl) ?_
        refine vl_skip rfl rfl ?_
        refine vl_skip rfl rfl ?_
        refine vl_skip rfl rfl ?_
        refine vl_skip rfl rfl ?_
        refine vl_skip rfl rfl ?_
        refine vl_val (os_pick_f rfl rfl) ?_
        refine vl_val (os_assign rfl) ?_
        refine vl_nil ?_
        refine v_ret ?_
        exact post_ret rfl rfl (⟨rfl, hb0⟩)
    · refine v_seq ?_
      refine v_region ?_
      refine vl_val (os_box rfl) ?_
      refine vl_val (os_assign rfl) ?_
      refine vl_nil ?_
      refine v_seq ?_
      refine v_region ?_
      refine vl_val (os_fa (o := 0) (k := 0) (by kernel_rfl) rfl) ?_
      refine vl_val (os_load Try.isAgg3 rfl (hB0.cell (i := 0) rfl)) ?_
      refine vl_val (os_f (os_geq rfl rfl) (by omega)) ?_
      refine vl_val (os_move rfl) ?_
      refine vl_skip rfl rfl ?_
      refine vl_skip rfl rfl ?_
      refine vl_skip rfl rfl ?_
      refine vl_val (os_pick_f rfl rfl) ?_
      refine vl_val (os_move rfl) ?_
      refine vl_skip rfl rfl ?_
      refine vl_skip rfl rfl ?_
      refine vl_skip rfl rfl ?_
      refine vl_val (os_pick_f rfl rfl) ?_
      refine vl_val (os_move rfl) ?_
      refine vl_skip rfl rfl ?_
      refine vl_skip rfl rfl ?_
      refine vl_skip rfl rfl ?_
      refine vl_val (os_pick_f rfl rfl) ?_
      refine vl_val (os_move rfl) ?_
      refine vl_skip rfl rfl ?_
      refine vl_skip rfl rfl ?_
      refine vl_skip rfl rfl ?_
      refine vl_val (os_pick_f rfl rfl) ?_
      refine vl_val (os_move rfl) ?_
      refine vl_skip rfl rfl ?_
      refine vl_skip rfl rfl ?_
      refine vl_skip rfl rfl ?_
      refine vl_skip rfl rfl ?_
      refine vl_skip rfl rfl ?_
      refine vl_val (os_pick_f rfl rfl) ?_
      refine vl_val (os_move rfl) ?_
      refine vl_skip rfl rfl ?_
      refine vl_skip rfl rfl ?_
      refine vl_skip rfl rfl ?_
      refine vl_val (os_pick_f rfl rfl) ?_
      refine vl_val (os_move rfl) ?_
      refine vl_skip rfl rfl ?_
      refine vl_skip rfl rfl ?_
      refine vl_skip rfl rfl ?_
      refine vl_val (os_pick_f rfl rfl) ?_
      refine vl_val (os_move rfl) ?_
      refine vl_skip rfl rfl ?_
      refine vl_skip rfl rfl ?_
      refine vl_skip rfl rfl ?_
      refine vl_skip rfl rfl ?_
      refine vl_skip rfl rfl ?_
      refine vl_val (os_pick_f rfl rfl) ?_
      refine vl_val (os_assign rfl) ?_
      refine vl_nil ?_
      refine v_ret ?_
      exact post_ret rfl rfl (⟨rfl, hb0⟩)
theorem ref14_number (z size : Int) (s : Nat) (w : World) (hs : size = (s : Int) ∧ 1 ≤ s ∧ s ≤ 4) : Gives Try.prog 133 #[.int .i64 z, .int .i64 size] w fun v w' => OwnK w' w.heap.size 5 .u8 v (numBytes z s) ∧ Below w.heap.size w w' := by
  obtain ⟨rfl, hs⟩ := hs
  refine gives_enter Try.call133 Try.func133 rfl rfl rfl (by kernel_rfl) ?_
  refine v_seq ?_
  refine v_region ?_
  refine vl_val (os_assign rfl) ?_
  refine vl_nil ?_
  refine v_seq ?_
  refine v_region ?_
  refine vl_val (os_assign rfl) ?_
  refine vl_nil ?_
  refine v_seq ?_
  refine v_seq ?_
  refine v_region ?_
  refine vl_val (os_move rfl) ?_
  refine vl_val (os_subi rfl rfl (by omega)) ?_
  refine vl_val (os_assign rfl) ?_
  refine vl_nil ?_
  refine v_block ?_
  refine v_loop3 [(0, _)] (fun (l : Value) (k : Nat) (j : Int) => [(5, l), (6, .int .i64 j)]) (fun l k j w' => k ≤ s ∧ OwnK w' w.heap.size 5 .u8 l ((numBytes z s).take k) ∧ Below w.heap.size w w' ∧ j = (s : Int) - 1 - k) (fun l k j => s - k) (.slice none 0 0) (0) ((s : Int) - 1) ⟨rfl, trivial⟩ ⟨rfl, rfl, trivial⟩ (⟨by omega, by simp only [List.take_zero]; exact Own.nil _ _ _, Below.refl _ _, by omega⟩) ?_
  rintro l k j w1 ⟨hk, ho, hb, rfl⟩
  by_cases hlt : k < s
  · refine v_seq ?_
    refine v_seq ?_
    refine v_region ?_
    refine vl_val (os_move rfl) ?_
    refine vl_val (os_geq rfl rfl) ?_
    refine vl_nil ?_
    refine v_cond_yes rfl (by omega) ?_
    have hlb : ((numBytes z s).take k).length ≤ 4 := by rw [List.length_take, numBytes_len]; omega
    refine v_skip ?_
    refine v_seq ?_
    refine v_block ?_
    refine v_region ?_
    refine vl_val (os_move rfl) ?_
    refine vl_val (os_move rfl) ?_
    refine vl_val (os_move rfl) ?_
    refine vl_val (os_muli rfl rfl (by omega)) ?_
    refine vl_val (os_shr (r := z / 256 ^ (s - 1 - k)) rfl rfl (by omega) (shr_byte z (by omega) (by omega))) ?_
    refine vl_val (os_conv Try.underlying3 Try.underlying5 rfl (IntKind.wrap_u8 _)) ?_
    have ba : Below w1.heap.size w1 (w1.alloc (.cells [Value.int .u8 (z / 256 ^ (s - 1 - k) % 256)].toArray 5)) := (Below.refl _ _).alloc (Nat.le_refl _) _
    refine vl_val (os_lit Try.underlying22 Try.sizeOf5 Try.zeroValue5 rfl rfl rfl rfl (by decide)) ?_
    refine vl_some (ot_appB (W0 := w) Try.underlying22 ti_u8 rfl rfl rfl (Own.keepAll ho ba) (hb.trans (ba.mono hb.size)) (rd_alloc w1 .u8 [z / 256 ^ (s - 1 - k) % 256] 5) rfl (by omega)) ?_
    rintro v2 w2 ⟨o2, b2⟩
    refine vl_val (os_assign rfl) ?_
    refine vl_nil ?_
    refine v_region ?_
    refine vl_val (os_move rfl) ?_
    refine vl_val (os_subi rfl rfl (by omega)) ?_
    refine vl_val (os_assign rfl) ?_
    refine vl_nil ?_
    exact ⟨⟨v2, k + 1, (s : Int) - 1 - k - 1⟩, ⟨rfl, trivial⟩, ⟨rfl, rfl, trivial⟩, ⟨(by dsimp only; omega), (by dsimp only; rw [numBytes_succ z hlt]; exact o2), b2, (by dsimp only; omega)⟩, by dsimp only; omega⟩
  · refine v_seq ?_
    refine v_seq ?_
    refine v_region ?_
    refine vl_val (os_move rfl) ?_
    refine vl_val (os_geq rfl rfl) ?_
    refine vl_nil ?_
    refine v_cond_no rfl (by omega) ?_
    obtain rfl : k = s := by omega
    refine v_exit ?_
    refine v_seq ?_
    refine v_region ?_
    refine vl_val (os_move rfl) ?_
    refine vl_val (os_assign rfl) ?_
    refine vl_nil ?_
    refine v_ret ?_
    exact post_ret rfl rfl (⟨by have e : (numBytes z k).take k = numBytes z k := List.take_of_length_le (by rw [numBytes_len]; exact Nat.le_refl _); rw [e] at ho; exact ho, hb⟩)
theorem numAt_step {p : List Int} {i k : Nat} (h : i + k < p.length) : numAt p i (k + 1) = numAt p i k * 256 + p.getD (i + k) 0 := by
  unfold numAt
  rw [← numOf_snoc]
  congr 1
  rw [List.take_succ_eq_append_getElem (by rw [List.length_drop]; omega), List.getElem_drop]
  simp [h]
theorem ref14_at (A : Option Addr) (n c : Nat) (zs : List Int) (i s : Nat) (fi si : Int) (w : World) (ha : Rd w .u8 A zs) (hn : n = zs.length) (hz : AllY zs) (hi : fi = (i : Int)) (hs : si = (s : Int) ∧ s ≤ 4) (hl : i + s ≤ n) (hn' : n ≤ 10000000) :
    Gives Try.prog 141 #[.slice A n c, .int .i64 fi, .int .i64 si] w fun v w' => v = .int .i64 (numAt zs i s) ∧ w' = w := by
  obtain ⟨rfl, hs⟩ := hs
  subst hi
  refine gives_enter Try.call141 Try.func141 rfl rfl rfl (by kernel_rfl) ?_
  refine v_seq ?_
  refine v_region ?_
  refine vl_val (os_assign rfl) ?_
  refine vl_nil ?_
  refine v_seq ?_
  refine v_region ?_
  refine vl_val (os_assign rfl) ?_
  refine vl_nil ?_
  refine v_seq ?_
  refine v_seq ?_
  refine v_region ?_
  refine vl_val (os_assign rfl) ?_
  refine vl_nil ?_
  refine v_block ?_
  refine v_loop2 [(0, _), (1, _), (2, _)] (fun (q : Int) (k : Nat) => [(7, .int .i64 q), (8, .int .i64 k)]) (fun q k w' => k ≤ s ∧ q = numAt zs i k ∧ w' = w) (fun q k => s - k) (0) (0) ⟨rfl, rfl, rfl, trivial⟩ ⟨rfl, rfl, trivial⟩ (⟨by omega, by simp [numAt, numOf], rfl⟩) ?_
  rintro q k w ⟨hk, hq, rfl⟩
  by_cases hlt : k < s
  · refine v_seq ?_
    refine v_seq ?_
    refine v_region ?_
    refine vl_val (os_move rfl) ?_
    refine vl_val (os_move rfl) ?_
    refine vl_val (os_lss rfl rfl) ?_
    refine vl_nil ?_
    refine v_cond_yes rfl (by omega) ?_
    have hb := numAt_bd hz i k
    have hp : (256 : Int) ^ k ≤ 16777216 := by rcases (by omega : k = 0 ∨ k = 1 ∨ k = 2 ∨ k = 3) with h | h | h | h <;> rw [h] <;> decide
    have hy := hz.at_ (i + k)
    obtain ⟨b, o, eA, hc⟩ := ha.at_ (i := i + k) (by omega)
    have hst := numAt_step (p := zs) (i := i) (k := k) (by omega)
    refine v_skip ?_
    refine v_seq ?_
    refine v_block ?_
    refine v_region ?_
    refine vl_val (os_move rfl) ?_
    refine vl_val (os_muli rfl rfl (by omega)) ?_
    refine vl_val (os_move rfl) ?_
    refine vl_val (os_move rfl) ?_
    refine vl_val (os_move rfl) ?_
    refine vl_val (os_addi rfl rfl (by omega)) ?_
    refine vl_val (os_ix Try.underlying22 Try.sizeOf5 (by rw [eA]; rfl) rfl (i := i + k) (by omega) (by omega)) ?_
    refine vl_val (os_load Try.isAgg5 rfl (hc)) ?_
    refine vl_val (os_conv Try.underlying5 Try.underlying3 rfl (i64_fit (by omega))) ?_
    refine vl_val (os_addi rfl rfl (by omega)) ?_
    refine vl_val (os_assign rfl) ?_
    refine vl_nil ?_
    refine v_region ?_
    refine vl_val (os_move rfl) ?_
    refine vl_val (os_addi rfl rfl (by omega)) ?_
    refine vl_val (os_assign rfl) ?_
    refine vl_nil ?_
    exact ⟨⟨256 * q + zs.getD (i + k) 0, k + 1⟩, ⟨rfl, rfl, rfl, trivial⟩, ⟨rfl, rfl, trivial⟩, ⟨(by dsimp only; omega), (by dsimp only; omega), rfl⟩, by dsimp only; omega⟩
  · refine v_seq ?_
    refine v_seq ?_
    refine v_region ?_
    refine vl_val (os_move rfl) ?_
    refine vl_val (os_move rfl) ?_
    refine vl_val (os_lss rfl rfl) ?_
    refine vl_nil ?_
    refine v_cond_no rfl (by omega) ?_
    obtain rfl : k = s := by omega
    refine v_exit ?_
    refine v_seq ?_
    refine v_region ?_
    refine vl_val (os_move rfl) ?_
    refine vl_val (os_assign rfl) ?_
    refine vl_nil ?_
    refine v_ret ?_
    exact post_ret rfl rfl (⟨by rw [hq], rfl⟩)
end Go.Proofs.Ytpojijnjdlnokaa

/- Layer 14: the document's datagram of a header and its body. -/
namespace Go.Proofs.Ytpojijnjdlnokaa
open Go.RowKit
set_option linter.unusedVariables false

def plainB (q : HeadP) : List Int := ((([1] ++ numBytes q.st 2) ++ numBytes q.fr 4) ++ [q.ix % 256, q.n % 256, (q.rows.length : Int) % 256]) ++ numBytes q.dl 4
theorem plainB_all (q : HeadP) : plainB q ++ cntB q.rows = headB q := by
  unfold plainB headB
  rw [nb1, nb1, nb1, nb1]
  simp [List.append_assoc]
theorem plainB_len (q : HeadP) : (plainB q).length = 14 := by
  unfold plainB
  simp only [List.length_append, numBytes_len]; rfl
set_option maxHeartbeats 2000000 in
theorem ref14_plain (d : HeadV) (A : Option Addr) (n c : Nat) (zs : List Int) (w : World) (hd : HeadOk w d) (ha : Rd w .u8 A zs) (hn : n = zs.length) (hn' : n ≤ 10000000) (hl' : d.l ≤ 1000000) :
    Gives Try.prog 85 #[.agg d.cells.toArray, .slice A n c] w fun v w' => OwnK w' w.heap.size 5 .u8 v (headB d.q ++ zs) ∧ Below w.heap.size w w' := by
  have hl := hd.2.1
  have hB0 := bk_new w d.cells 65
  have hb0 : Below w.heap.size w (w.alloc (.cells d.cells.toArray 65)) := (Below.refl _ w).alloc (Nat.le_refl _) _
  obtain ⟨W, hW⟩ : ∃ W, W = w.alloc (.cells d.cells.toArray 65) := ⟨_, rfl⟩
  have o1 := own_alloc (B := W.heap.size) W [Value.int .u8 1] 5 (Nat.le_refl _) (by simp [maxLen])
  have b1 : Below W.heap.size W (W.alloc (.cells [Value.int .u8 1].toArray 5)) := (Below.refl _ W).alloc (Nat.le_refl _) _
  have o1' : OwnK _ W.heap.size 5 .u8 _ [1] := o1
  rw [← hW] at hB0 hb0
  have hR := hB0.lt
  have hdW := hd.keep hb0
  subst hW
  refine gives_enter Try.call85 Try.func85 rfl rfl rfl (by kernel_rfl) ?_
  have hB1 := hB0.below b1 hR
  refine v_seq ?_
  refine v_region ?_
  refine vl_val (os_box rfl) ?_
  refine vl_val (os_assign rfl) ?_
  refine vl_nil ?_
  refine v_seq ?_
  refine v_region ?_
  refine vl_val (os_lit Try.underlying22 Try.sizeOf5 Try.zeroValue5 rfl rfl rfl rfl (by decide)) ?_
  refine vl_val (os_assign rfl) ?_
  refine vl_nil ?_
  refine v_seq ?_
  refine v_region ?_
  refine vl_val (os_move rfl) ?_
  refine vl_val (os_fa (o := 0) (k := 0) (by kernel_rfl) rfl) ?_
  refine vl_val (os_load Try.isAgg3 rfl (hB1.cell (i := 0) rfl)) ?_
  refine vl_call (ref14_number d.q.st 2 2 _ ⟨rfl, by omega, by omega⟩) rfl ?_
  rintro v2 w2 ⟨o2, b2⟩
  obtain ⟨A2, c2, rfl, -, -, r2, -⟩ := OwnK.form o2
  refine vl_some (ot_appB Try.underlying22 ti_u8 rfl rfl rfl (Own.keepAll o1' b2) (b1.trans (b2.mono b1.size)) r2 rfl (by simp [numBytes_len])) ?_
  rintro v3 w3 ⟨o3, b3⟩
  have hB3 := hB0.below b3 hR
  refine vl_val (os_assign rfl) ?_
  refine vl_nil ?_
  refine v_seq ?_
  refine v_region ?_
  refine vl_val (os_move rfl) ?_
  refine vl_val (os_fa (o := 1) (k := 0) (by kernel_rfl) rfl) ?_
  refine vl_val (os_load Try.isAgg3 rfl (hB3.cell (i := 1) rfl)) ?_
  refine vl_call (ref14_number d.q.fr 4 4 w3 ⟨rfl, by omega, by omega⟩) rfl ?_
  rintro v4 w4 ⟨o4, b4⟩
  obtain ⟨A4, c4, rfl, -, -, r4, -⟩ := OwnK.form o4
  refine vl_some (ot_appB Try.underlying22 ti_u8 rfl rfl rfl (Own.keepAll o3 b4) (b3.trans (b4.mono b3.size)) r4 rfl (by simp [numBytes_len])) ?_
  rintro v5 w5 ⟨o5, b5⟩
  have hB5 := hB0.below b5 hR
  refine vl_val (os_assign rfl) ?_
  refine vl_nil ?_
  refine v_seq ?_
  refine v_region ?_
  refine vl_val (os_move rfl) ?_
  refine vl_val (os_fa (o := 2) (k := 0) (by kernel_rfl) rfl) ?_
  refine vl_val (os_load Try.isAgg3 rfl (hB5.cell (i := 2) rfl)) ?_
  refine vl_val (os_conv Try.underlying3 Try.underlying5 rfl (IntKind.wrap_u8 _)) ?_
  refine vl_val (os_fa (o := 3) (k := 0) (by kernel_rfl) rfl) ?_
  refine vl_val (os_load Try.isAgg3 rfl (hB5.cell (i := 3) rfl)) ?_
  refine vl_val (os_conv Try.underlying3 Try.underlying5 rfl (IntKind.wrap_u8 _)) ?_
  refine vl_val (os_fa (o := 5) (k := 0) (by kernel_rfl) rfl) ?_
  refine vl_val (os_load Try.isAgg63 rfl (hB5.cell (i := 5) rfl)) ?_
  refine vl_val (os_len Try.underlying63 rfl) ?_
  refine vl_val (os_conv Try.underlying3 Try.underlying5 rfl (IntKind.wrap_u8 _)) ?_
  have b6 : Below w5.heap.size w5 (w5.alloc (.cells ([d.q.ix % 256, d.q.n % 256, (d.l : Int) % 256].map (Value.int .u8)).toArray 5)) := (Below.refl _ _).alloc (Nat.le_refl _) _
  refine vl_val (os_lit Try.underlying22 Try.sizeOf5 Try.zeroValue5 rfl rfl rfl rfl (by decide)) ?_
  refine vl_some (ot_appB Try.underlying22 ti_u8 rfl rfl rfl (Own.keepAll o5 b6) (b5.trans (b6.mono b5.size)) (rd_alloc w5 .u8 [d.q.ix % 256, d.q.n % 256, (d.l : Int) % 256] 5) rfl (by simp [numBytes_len])) ?_
  rintro v7 w7 ⟨o7, b7⟩
  have hB7 := hB0.below b7 hR
  refine vl_val (os_assign rfl) ?_
  refine vl_nil ?_
  refine v_seq ?_
  refine v_region ?_
  refine vl_val (os_move rfl) ?_
  refine vl_val (os_fa (o := 4) (k := 0) (by kernel_rfl) rfl) ?_
  refine vl_val (os_load Try.isAgg3 rfl (hB7.cell (i := 4) rfl)) ?_
  refine vl_call (ref14_number d.q.dl 4 4 w7 ⟨rfl, by omega, by omega⟩) rfl ?_
  rintro v8 w8 ⟨o8, b8⟩
  obtain ⟨A8, c8, rfl, -, -, r8, -⟩ := OwnK.form o8
  refine vl_some (ot_appB Try.underlying22 ti_u8 rfl rfl rfl (Own.keepAll o7 b8) (b7.trans (b8.mono b7.size)) r8 rfl (by simp [numBytes_len])) ?_
  rintro v9 w9 ⟨o9, b9⟩
  rw [hl] at o9
  have o9' : OwnK w9 (w.alloc (.cells d.cells.toArray 65)).heap.size 5 .u8 v9 (plainB d.q) := o9
  refine vl_val (os_assign rfl) ?_
  refine vl_nil ?_
  refine v_seq ?_
  refine v_seq ?_
  refine v_region ?_
  refine vl_val (os_assign rfl) ?_
  refine vl_nil ?_
  refine v_block ?_
  refine v_loop2 [(1, _), (2, _)] (fun (v : Value) (i : Nat) => [(5, v), (6, .int .i64 i)]) (fun v i w' => i ≤ d.l ∧ OwnK w' (w.alloc (.cells d.cells.toArray 65)).heap.size 5 .u8 v (plainB d.q ++ cntB (d.q.rows.take i)) ∧ Below (w.alloc (.cells d.cells.toArray 65)).heap.size (w.alloc (.cells d.cells.toArray 65)) w') (fun v i => d.l - i) (v9) (0) ⟨rfl, rfl, trivial⟩ ⟨rfl, rfl, trivial⟩ (⟨by omega, by simpa [cntB] using o9', b9⟩) ?_
  rintro v i w10 ⟨hi, o10, b10⟩
  have hB10 := hB0.below b10 hR
  have hlk : (plainB d.q ++ cntB (d.q.rows.take i)).length ≤ 4000000 := by rw [List.length_append, plainB_len, cntB_len, List.length_take]; omega
  refine v_seq ?_
  refine v_seq ?_
  refine v_region ?_
  refine vl_val (os_move rfl) ?_
  refine vl_val (os_fa (o := 5) (k := 0) (by kernel_rfl) rfl) ?_
  refine vl_val (os_load Try.isAgg63 rfl (hB10.cell (i := 5) rfl)) ?_
  refine vl_val (os_len Try.underlying63 rfl) ?_
  refine vl_val (os_lss rfl rfl) ?_
  refine vl_nil ?_
  refine v_cond_d rfl (fun h => ?_) (fun h => ?_)
  · obtain ⟨b, o, eA, q1, q2, q3⟩ := (hdW.keep b10).1.at2 (i := i) (by omega)
    have hsu := cntB_suc (cs := d.q.rows) (i := i) (by omega)
    obtain ⟨X, hX⟩ : ∃ X, (d.q.rows.getD i (0, 0)).1 = X := ⟨_, rfl⟩
    obtain ⟨Y, hY⟩ : ∃ Y, (d.q.rows.getD i (0, 0)).2 = Y := ⟨_, rfl⟩
    rw [hX] at q1
    rw [hX, hY] at hsu
    refine v_skip ?_
    refine v_seq ?_
    refine v_block ?_
    refine v_seq ?_
    refine v_region ?_
    refine vl_val (os_move rfl) ?_
    refine vl_val (os_fa (o := 5) (k := 0) (by kernel_rfl) rfl) ?_
    refine vl_val (os_load Try.isAgg63 rfl (hB10.cell (i := 5) rfl)) ?_
    refine vl_val (os_move rfl) ?_
    refine vl_val (os_ixs Try.underlying63 Try.sizeOf62 (by rw [eA]; rfl) rfl (i := i) (by omega) (by omega)) ?_
    refine vl_val (os_fa (o := 0) (k := 0) (by kernel_rfl) rfl) ?_
    refine vl_val (os_load Try.isAgg3 rfl (q1)) ?_
    refine vl_val (os_conv Try.underlying3 Try.underlying5 rfl (IntKind.wrap_u8 _)) ?_
    have b11 : Below w10.heap.size w10 (w10.alloc (.cells ([X % 256].map (Value.int .u8)).toArray 5)) := (Below.refl _ _).alloc (Nat.le_refl _) _
    refine vl_val (os_lit Try.underlying22 Try.sizeOf5 Try.zeroValue5 rfl rfl rfl rfl (by decide)) ?_
    refine vl_some (ot_appB Try.underlying22 ti_u8 rfl rfl rfl (Own.keepAll o10 b11) (b10.trans (b11.mono b10.size)) (rd_alloc w10 .u8 [X % 256] 5) rfl (by omega)) ?_
    rintro v12 w12 ⟨o12, b12⟩
    have hB12 := hB0.below b12 hR
    obtain ⟨b', o', eA', -, q2', -⟩ := (hdW.keep b12).1.at2 (i := i) (by omega)
    rw [hY] at q2'
    refine vl_val (os_assign rfl) ?_
    refine vl_nil ?_
    refine v_region ?_
    refine vl_val (os_move rfl) ?_
    refine vl_val (os_fa (o := 5) (k := 0) (by kernel_rfl) rfl) ?_
    refine vl_val (os_load Try.isAgg63 rfl (hB12.cell (i := 5) rfl)) ?_
    refine vl_val (os_move rfl) ?_
    refine vl_val (os_ixs Try.underlying63 Try.sizeOf62 (by rw [eA']; rfl) rfl (i := i) (by omega) (by omega)) ?_
    refine vl_val (os_fa (o := 1) (k := 0) (by kernel_rfl) rfl) ?_
    refine vl_val (os_load Try.isAgg3 rfl (q2')) ?_
    refine vl_call (ref14_number Y 2 2 w12 ⟨rfl, by omega, by omega⟩) rfl ?_
    rintro v13 w13 ⟨o13, b13⟩
    obtain ⟨A13, c13, rfl, -, -, r13, -⟩ := OwnK.form o13
    refine vl_some (ot_appB Try.underlying22 ti_u8 rfl rfl rfl (Own.keepAll o12 b13) (b12.trans (b13.mono b12.size)) r13 rfl (by rw [List.length_append, numBytes_len]; simp only [List.length_singleton]; omega)) ?_
    rintro v14 w14 ⟨o14, b14⟩
    refine vl_val (os_assign rfl) ?_
    refine vl_nil ?_
    refine v_region ?_
    refine vl_val (os_move rfl) ?_
    refine vl_val (os_addi rfl rfl (by omega)) ?_
    refine vl_val (os_assign rfl) ?_
    refine vl_nil ?_
    exact ⟨⟨v14, i + 1⟩, ⟨rfl, rfl, trivial⟩, ⟨rfl, rfl, trivial⟩, ⟨(by dsimp only; omega), (by dsimp only; rw [hsu, nb1, ← List.append_assoc, ← List.append_assoc]; exact o14), b14⟩, by dsimp only; omega⟩
  · obtain rfl : i = d.l := by omega
    rw [List.take_of_length_le (by omega), plainB_all] at o10
    have hhl := headB_len d.q
    refine v_exit ?_
    refine v_seq ?_
    refine v_region ?_
    refine vl_val (os_move rfl) ?_
    refine vl_val (os_move rfl) ?_
    refine vl_some (ot_appB Try.underlying22 ti_u8 rfl rfl rfl o10 b10 ((ha.keep hb0).keep b10) hn (by omega)) ?_
    rintro v15 w15 ⟨o15, b15⟩
    refine vl_val (os_assign rfl) ?_
    refine vl_nil ?_
    refine v_ret ?_
    exact post_ret rfl rfl (⟨Own.mono o15 hb0.size, hb0.trans (b15.mono hb0.size)⟩)
theorem ref14_Put (d : HeadV) (A : Option Addr) (n c : Nat) (zs : List Int) (w : World) (hd : HeadOk w d) (ha : Rd w .u8 A zs) (hn : n = zs.length) (hn' : n ≤ 10000000) (hz : AllB zs) (hc : n ≤ c) :
    Gives Try.prog 41 #[.agg d.cells.toArray, .slice A n c] w fun v w' => ∃ s, v = .tuple #[s, .int .i64 (hpE d.q zs)] ∧ OwnK w' w.heap.size 5 .u8 s (hpV d.q zs) ∧ Below w.heap.size w w' := by
  have hl := hd.2.1
  have hB0 := bk_new w d.cells 65
  have hb0 : Below w.heap.size w (w.alloc (.cells d.cells.toArray 65)) := (Below.refl _ w).alloc (Nat.le_refl _) _
  have hd0 := hd.keep hb0
  refine gives_enter Try.call41 Try.func41 rfl rfl rfl (by kernel_rfl) ?_
  refine v_seq ?_
  refine v_region ?_
  refine vl_val (os_box rfl) ?_
  refine vl_val (os_assign rfl) ?_
  refine vl_val (os_assign rfl) ?_
  refine vl_nil ?_
  refine v_seq ?_
  refine v_region ?_
  refine vl_val (os_fa (o := 3) (k := 0) (by kernel_rfl) rfl) ?_
  refine vl_val (os_load Try.isAgg3 rfl (hB0.cell (i := 3) rfl)) ?_
  refine vl_val (os_fa (o := 5) (k := 0) (by kernel_rfl) rfl) ?_
  refine vl_val (os_load Try.isAgg63 rfl (hB0.cell (i := 5) rfl)) ?_
  refine vl_call (ref10_Long d.q.n d.A d.l d.c d.q.rows _ hd0.1 hl) rfl ?_
  rintro v1 w1 ⟨rfl, b1⟩
  have hB1 := hB0.keep b1
  have hd1 := hd0.keep b1
  have b1w := hb0.trans (b1.mono hb0.size)
  refine vl_val (os_move rfl) ?_
  refine vl_val (os_extract rfl rfl) ?_
  refine vl_val (os_extract rfl rfl) ?_
  refine vl_val (os_assign rfl) ?_
  refine vl_val (os_assign rfl) ?_
  refine vl_nil ?_
  cases hr : rightH d.q
  · refine v_seq ?_
    refine v_seq ?_
    refine v_region ?_
    refine vl_val (os_loadB Try.underlying65 rfl (by kernel_rfl) rfl (hB1)) ?_
    refine vl_call (gives_boolb (ref14_Right d _ hd1) hr) rfl ?_
    rintro v2 w2 ⟨rfl, b2⟩
    have hp : putH d.q zs = false := by unfold putH; rw [hr]; rfl
    refine vl_val (os_not rfl) ?_
    refine vl_val (os_move rfl) ?_
    refine vl_skip rfl rfl ?_
    refine vl_skip rfl rfl ?_
    refine vl_val (os_pick_t rfl rfl) ?_
    refine vl_val (os_move rfl) ?_
    refine vl_skip rfl rfl ?_
    refine vl_skip rfl rfl ?_
    refine vl_skip rfl rfl ?_
    refine vl_skip rfl rfl ?_
    refine vl_val (os_pick_t rfl rfl) ?_
    refine vl_nil ?_
    refine v_cond_t rfl ?_
    refine v_seq ?_
    refine v_region ?_
    refine vl_val (os_assign rfl) ?_
    refine vl_val (os_assign rfl) ?_
    refine vl_nil ?_
    refine v_ret ?_
    exact post_ret2 rfl rfl rfl (⟨.slice none 0 0, by simp [hpE, hp], by simp only [hpV, hp]; exact Own.nil _ _ _, b1w.trans (b2.mono b1w.size)⟩)
  · have hrr := rightH_iff.1 hr
    obtain ⟨l1, l2, l3, l4, l5⟩ := layOk_parts hrr.lay
    have he : errE (layOk d.q.n d.q.rows) = 0 := by rw [hrr.lay]; rfl
    rw [he]
    by_cases hlg : (n : Int) = longV d.q.n d.q.rows
    · have hp : putH d.q zs = true := by unfold putH; rw [hr, ← hn, hlg]; simp
      refine v_seq ?_
      refine v_seq ?_
      refine v_region ?_
      refine vl_val (os_loadB Try.underlying65 rfl (by kernel_rfl) rfl (hB1)) ?_
      refine vl_call (gives_boolb (ref14_Right d _ hd1) hr) rfl ?_
      rintro v2 w2 ⟨rfl, b2⟩
      refine vl_val (os_not rfl) ?_
      refine vl_val (os_move rfl) ?_
      refine vl_valg rfl (os_move rfl) ?_
      refine vl_valg rfl (os_f (os_neq rfl rfl) (by decide)) ?_
      refine vl_val (os_pick_f rfl rfl) ?_
      refine vl_val (os_move rfl) ?_
      refine vl_valg rfl (os_move rfl) ?_
      refine vl_valg rfl (os_len Try.underlying22 rfl) ?_
      refine vl_valg rfl (os_move rfl) ?_
      refine vl_valg rfl (os_neq rfl rfl) ?_
      refine vl_val (os_pick_f rfl rfl) ?_
      refine vl_nil ?_
      refine v_cond_no rfl (fun h => h hlg) ?_
      have hB2 := hB1.keep b2
      have b2w := b1w.trans (b2.mono b1w.size)
      refine v_skip ?_
      refine v_seq ?_
      refine v_region ?_
      refine vl_val (os_loadB Try.underlying65 rfl (by kernel_rfl) rfl (hB2)) ?_
      refine vl_val (os_move rfl) ?_
      refine vl_call (ref14_plain d A n c zs w2 (hd.keep b2w) (ha.keep b2w) hn hn' (by omega)) rfl ?_
      rintro v3 w3 ⟨o3, b3⟩
      obtain ⟨A3, c3, rfl, hc3, -, r3, -⟩ := OwnK.form o3
      have b3w := b2w.trans (b3.mono b2w.size)
      have hhl := headB_len d.q
      have hal : (headB d.q ++ zs).length = 14 + 3 * d.q.rows.length + n := by rw [List.length_append, hhl, hn]
      refine vl_call (r7_Seal A3 _ c3 (headB d.q ++ zs) w3 r3 rfl (by omega) (fun z hm => by rcases List.mem_append.1 hm with hm | hm; (exact headB_Y z hm); (exact hz z hm))) rfl ?_
      rintro v4 w4 ⟨o4, b4⟩
      refine vl_val (os_assign rfl) ?_
      refine vl_val (os_assign rfl) ?_
      refine vl_nil ?_
      refine v_ret ?_
      exact post_ret2 rfl rfl rfl (⟨_, by unfold hpE; rw [hp]; rfl, by unfold hpV; rw [hp]; exact Own.mono o4 b3w.size, b3w.trans (b4.mono b3w.size)⟩)
    · have hp : putH d.q zs = false := by unfold putH; rw [← hn, decide_eq_false hlg, Bool.and_false]
      refine v_seq ?_
      refine v_seq ?_
      refine v_region ?_
      refine vl_val (os_loadB Try.underlying65 rfl (by kernel_rfl) rfl (hB1)) ?_
      refine vl_call (gives_boolb (ref14_Right d _ hd1) hr) rfl ?_
      rintro v2 w2 ⟨rfl, b2⟩
      refine vl_val (os_not rfl) ?_
      refine vl_val (os_move rfl) ?_
      refine vl_valg rfl (os_move rfl) ?_
      refine vl_valg rfl (os_f (os_neq rfl rfl) (by decide)) ?_
      refine vl_val (os_pick_f rfl rfl) ?_
      refine vl_val (os_move rfl) ?_
      refine vl_valg rfl (os_move rfl) ?_
      refine vl_valg rfl (os_len Try.underlying22 rfl) ?_
      refine vl_valg rfl (os_move rfl) ?_
      refine vl_valg rfl (os_neq rfl rfl) ?_
      refine vl_val (os_pick_f rfl rfl) ?_
      refine vl_nil ?_
      refine v_cond_yes rfl (hlg) ?_
      refine v_seq ?_
      refine v_region ?_
      refine vl_val (os_assign rfl) ?_
      refine vl_val (os_assign rfl) ?_
      refine vl_nil ?_
      refine v_ret ?_
      exact post_ret2 rfl rfl rfl (⟨.slice none 0 0, by simp [hpE, hp], by simp only [hpV, hp]; exact Own.nil _ _ _, b1w.trans (b2.mono b1w.size)⟩)
end Go.Proofs.Ytpojijnjdlnokaa

/- Layer 15, plain: how many frames a report tells of, and how often of so many datagrams. No program in sight. -/
namespace Go.Proofs.Ytpojijnjdlnokaa
open Go.RowKit
set_option linter.unusedVariables false

/-- the times of the count of so many -/
def cntV : List (Int × Int) → Int → Int
  | [], _ => 0
  | c :: r, k => if c.1 = k then c.2 else cntV r k
def sumK (f : Int → Int) : Nat → Int
  | 0 => 0
  | m + 1 => sumK f m + f ((m : Int) + 1)
theorem sumK_add (f g : Int → Int) : ∀ m, sumK (fun k => f k + g k) m = sumK f m + sumK g m
  | 0 => rfl
  | m + 1 => by simp only [sumK]; rw [sumK_add f g m]; omega
theorem sumK_zero : ∀ m, sumK (fun _ => 0) m = 0
  | 0 => rfl
  | m + 1 => by simp only [sumK]; rw [sumK_zero m]; rfl
theorem sumK_pick (x v : Int) : ∀ m : Nat, sumK (fun k => if x = k then v else 0) m = if 1 ≤ x ∧ x ≤ m then v else 0
  | 0 => by simp only [sumK]; rw [if_neg (by omega)]
  | m + 1 => by
    simp only [sumK]
    rw [sumK_pick x v m]
    by_cases h : x = (m : Int) + 1
    · rw [if_neg (by omega), if_pos h, if_pos (by omega)]; omega
    · rw [if_neg h]
      by_cases h2 : 1 ≤ x ∧ x ≤ m
      · rw [if_pos h2, if_pos (by omega)]; omega
      · rw [if_neg h2, if_neg (by omega)]; rfl
theorem cntV_out {cs : List (Int × Int)} {k : Int} (h : ∀ c ∈ cs, c.1 ≠ k) : cntV cs k = 0 := by
  induction cs with
  | nil => rfl
  | cons c r ih =>
    rw [cntV, if_neg (h c (by simp)), ih fun x hx => h x (by simp [hx])]
theorem cntV_split {n last : Int} {c : Int × Int} {r : List (Int × Int)} (h : cntOk n last (c :: r) = true) (k : Int) : cntV (c :: r) k = (if c.1 = k then c.2 else 0) + cntV r k := by
  simp only [cntOk, Bool.and_eq_true] at h
  rw [cntV]
  split
  · rename_i e
    rw [cntV_out (cs := r) fun x hx => by have := (cnt_all h.2).1 x hx; omega]; omega
  · omega
theorem cntV_sum {n last : Int} {cs : List (Int × Int)} (h : cntOk n last cs = true) (h0 : 0 ≤ last) (m : Nat) (hm : n = m) : sumK (cntV cs) m = timesL cs := by
  induction cs generalizing last with
  | nil => exact sumK_zero m
  | cons c r ih =>
    have hc := (cnt_all h).1 c (by simp)
    have e : cntV (c :: r) = fun k => (if c.1 = k then c.2 else 0) + cntV r k := funext (cntV_split h)
    simp only [cntOk, Bool.and_eq_true] at h
    rw [e, sumK_add, sumK_pick, if_pos (by omega), ih h.2 (by omega)]
    simp [timesL]
theorem cntV_in {n last : Int} {cs : List (Int × Int)} (h : cntOk n last cs = true) : ∀ c ∈ cs, cntV cs c.1 = c.2 := by
  induction cs generalizing last with
  | nil => intro c hc; cases hc
  | cons x r ih =>
    intro c hc
    rcases List.mem_cons.1 hc with rfl | hc
    · rw [cntV, if_pos rfl]
    · simp only [cntOk, Bool.and_eq_true] at h
      have := (cnt_all h.2).1 c hc
      rw [cntV, if_neg (by omega), ih h.2 c hc]
theorem cntV_bd {n last : Int} {cs : List (Int × Int)} (h : cntOk n last cs = true) (k : Int) : 0 ≤ cntV cs k ∧ cntV cs k ≤ 65535 := by
  by_cases hk : ∃ c ∈ cs, c.1 = k
  · obtain ⟨c, hc, rfl⟩ := hk
    rw [cntV_in h c hc]
    have := (cnt_all h).1 c hc
    omega
  · rw [cntV_out fun c hc e => hk ⟨c, hc, e⟩]; omega
theorem cntV_step {cs : List (Int × Int)} {k : Int} {i : Nat} (hi : i < cs.length) : cntV (cs.drop i) k = if (cs.getD i (0, 0)).1 = k then (cs.getD i (0, 0)).2 else cntV (cs.drop (i + 1)) k := by
  have e : cs.getD i (0, 0) = cs[i] := by simp [hi]
  rw [List.drop_eq_getElem_cons hi, cntV, e]
theorem cnt_take {n last : Int} {cs : List (Int × Int)} (h : cntOk n last cs = true) (i : Nat) : cntOk n last (cs.take i) = true := by
  induction cs generalizing last i with
  | nil => simpa using h
  | cons c r ih =>
    cases i with
    | zero => rfl
    | succ i =>
      simp only [cntOk, Bool.and_eq_true, List.take_succ_cons] at h ⊢
      exact ⟨h.1, ih h.2 i⟩
theorem sumK_bd {n last : Int} {cs : List (Int × Int)} (h : cntOk n last cs = true) : ∀ m : Nat, 0 ≤ sumK (cntV cs) m ∧ sumK (cntV cs) m ≤ m * 65535
  | 0 => by simp [sumK]
  | m + 1 => by
    have h1 := sumK_bd h m
    have h2 := cntV_bd h ((m : Int) + 1)
    simp only [sumK]
    omega
/-- what the program tells: of a report that is not right nothing -/
def ntSum (d : NoteV) : Int := if rightN d then timesL d.cs else 0
def ntCnt (d : NoteV) (k : Int) : Int := if rightN d then cntV d.cs k else 0
end Go.Proofs.Ytpojijnjdlnokaa

/- Layer 15: the program's reports: whether one is right; its counts, gone through. -/
namespace Go.Proofs.Ytpojijnjdlnokaa
open Go.RowKit
set_option linter.unusedVariables false

/-- how often a report's counts are told -/
def ntN (d : NoteV) : Nat := if rightN d then d.l else 0
end Go.Proofs.Ytpojijnjdlnokaa

/- Layer 15: how many frames a report tells of, and how often of so many datagrams. -/
namespace Go.Proofs.Ytpojijnjdlnokaa
open Go.RowKit
set_option linter.unusedVariables false

theorem times_all {d : NoteV} (h : rightN d = true) (k : Nat) : 0 ≤ timesL (d.cs.take k) ∧ timesL (d.cs.take k) ≤ 255 * 65535 := by
  have hr := right_iff.1 h
  have h1 := times_take hr.cnt k
  have h2 := (cnt_all hr.cnt).2 (by have := hr.n; omega)
  have h3 := hr.n
  omega
theorem ntN_right {d : NoteV} {k : Nat} (h : k < ntN d) : rightN d = true ∧ k < d.l := by
  unfold ntN at h
  split at h
  · rename_i hr; exact ⟨hr, h⟩
  · omega
theorem ntN_sum {d : NoteV} (hl : d.l = d.cs.length) : timesL (d.cs.take (ntN d)) = ntSum d := by
  unfold ntN ntSum
  split
  · rw [List.take_of_length_le (by omega)]
  · rfl
theorem cnt_none {d : NoteV} {k : Int} (hl : d.l = d.cs.length) (h : ∀ j, j < ntN d → (d.cs.getD j (0, 0)).1 ≠ k) : ntCnt d k = 0 := by
  unfold ntCnt
  split
  · rename_i hr
    refine cntV_out fun c hc => ?_
    obtain ⟨j, hj, rfl⟩ := List.mem_iff_getElem.1 hc
    have := h j (by unfold ntN; rw [hr]; simp; omega)
    simpa [hj] using this
  · rfl
theorem cnt_some {d : NoteV} {k : Int} (hl : d.l = d.cs.length) {j : Nat} (hj : j < ntN d) (h : (d.cs.getD j (0, 0)).1 = k) : ntCnt d k = (d.cs.getD j (0, 0)).2 := by
  obtain ⟨hr, hj2⟩ := ntN_right hj
  unfold ntCnt
  rw [hr, ← h]
  exact cntV_in (right_iff.1 hr).cnt _ (by rw [List.getD_eq_getElem?_getD, List.getElem?_eq_getElem (by omega)]; exact List.getElem_mem _)
end Go.Proofs.Ytpojijnjdlnokaa
