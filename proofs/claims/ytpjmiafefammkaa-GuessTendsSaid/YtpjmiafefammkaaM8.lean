/- Texts joined: GsW. -/
import Derived.Test.YtpjmiafefammkaaM7
/- Layer 24: the program's guesser: why a report is not heard: the first of its reasons, over an iterator. -/
namespace Go.Proofs.Ytpjmiafefammkaa
open Go.RowKit
set_option linter.unusedVariables false

section
variable {P : Program} {n : Cx} {all rest : List Oper} {fr : Fr} {w w' : World} {Q : Exit → Fr → World → Prop} {d : Nat} {ty : TypeId} {pos : String} {aft : Array Edge}
theorem vl_yieldg {l : Nat} {c : Operand} {xs : List Operand} {ts : Array TypeId} {args : List Value} {R : Bool → World → Prop} {j : Nat} {bg : Bool} (hg : guardF all fr j = some (.bool bg)) (hc : Fr.ev fr c = some (.func (.yield l) #[] #[])) (hx : evL fr xs = some args) (h : YieldsAt P l args.toArray w R)
    (k : ∀ b w', R b w' → VL P n all rest ((d, .bool b) :: fr) w' Q) (hro : n.ro = none := by rfl) : VL P n all (⟨some d, .call ⟨.value c, xs.toArray, ts⟩, ty, pos, aft, some (j, bg)⟩ :: rest) fr w Q := by
  unfold VL at k ⊢
  intro hok a ha
  obtain ⟨h1, h2⟩ := dst_lt hok rfl
  obtain ⟨fn, tmps, ac, body, hy, hR⟩ := h
  unfold wpListIn
  simp only [Region.wanted, guardF_yields ha hg, BEq.rfl, if_true]
  refine ⟨fun _ _ => trivial, ?_⟩
  have hrun : (execOp a.eval ⟨some d, .call ⟨.value c, xs.toArray, ts⟩, ty, pos, aft, some (j, bg)⟩).run P w = .ok (.round l fn tmps ac body) w := by
    simp [execOp, resolve, ha.ev hc, ha.evL hx, Deferred.ofValue, invoke, hy]
  rw [show (Oper.semAt (fw n.ro).round a.eval ⟨some d, .call ⟨.value c, xs.toArray, ts⟩, ty, pos, aft, some (j, bg)⟩).run P w = _ from semAt_run hrun (fun d w' e => by cases e)]
  rw [Oper.uponIn_round]
  refine ⟨fun h => by simp [fw] at h, ?_⟩
  rw [hro]
  refine RoundIn.mono hR ?_
  rintro e w' ⟨b, rfl, hb⟩
  have := k b w' hb h2 _ (ha.put h1 (.bool b))
  rw [hro] at this
  exact this
end

theorem guess_why1 (d : NoteV) (w : World) (hd : NoteOk w d) : Gives Try.prog 99 #[.agg d.cells.toArray] w fun v w' => v = .bool (!rightN d) ∧ Below w.heap.size w w' := by
  have hB0 := bk_new w d.cells 35
  have hb0 : Below w.heap.size w (w.alloc (.cells d.cells.toArray 35)) := (Below.refl _ w).alloc (Nat.le_refl _) _
  refine gives_enter Try.call99 Try.func99 rfl rfl rfl (by kernel_rfl) ?_
  refine v_seq ?_
  refine v_region ?_
  refine vl_val (os_box rfl) ?_
  refine vl_val (os_assign rfl) ?_
  refine vl_nil ?_
  refine v_seq ?_
  refine v_region ?_
  refine vl_val (os_loadB Try.underlying35 rfl (by kernel_rfl) rfl (hB0)) ?_
  refine vl_call (guess_Right d _ (hd.keep hb0)) rfl ?_
  rintro v1 w1 ⟨rfl, b1⟩
  refine vl_val (os_not rfl) ?_
  refine vl_val (os_assign rfl) ?_
  refine vl_nil ?_
  refine v_ret ?_
  exact post_ret rfl rfl (⟨rfl, hb0.trans (b1.mono hb0.size)⟩)
theorem guess_why2 (d : NoteV) (p g : Nat) (ps : List Int) (st n sq : Int) (w : World) (hP : Bk w p [.pointer (some ⟨g, 0, none⟩)] 25) (hG : GS w g ps st n sq) : Gives Try.prog 100 #[.agg d.cells.toArray, .pointer (some ⟨p, 0, none⟩)] w fun v w' => v = .bool (decide (d.st ≠ st ∨ d.n ≠ n)) ∧ Below w.heap.size w w' := by
  have hB0 := bk_new w d.cells 35
  have hb0 : Below w.heap.size w (w.alloc (.cells d.cells.toArray 35)) := (Below.refl _ w).alloc (Nat.le_refl _) _
  have hP0 := hP.keep hb0
  have hG0 := hG.keep hb0
  refine gives_enter Try.call100 Try.func100 rfl rfl rfl (by kernel_rfl) ?_
  by_cases h1 : d.st = st
  · refine v_seq ?_
    refine v_region ?_
    refine vl_val (os_box rfl) ?_
    refine vl_val (os_assign rfl) ?_
    refine vl_nil ?_
    refine v_seq ?_
    refine v_region_t LeD _ mixed (by kernel_rfl) lee_d (led_start _) ?_
    refine vt_val (fun w hw => os_fa (o := 0) (k := 0) (by kernel_rfl) rfl) ?_
    refine vt_val (fun w hw => os_load Try.isAgg3 rfl (led_cell hw (hB0.cell (i := 0) rfl))) ?_
    refine vt_val (fun w hw => os_load Try.isAgg25 rfl (led_cell hw (hP0.cell (i := 0) rfl))) ?_
    refine vt_val (fun w hw => os_nilCheck rfl) ?_
    refine vt_val (fun w hw => os_fa (o := 256) (k := 0) (by kernel_rfl) rfl) ?_
    refine vt_val (fun w hw => os_load Try.isAgg3 rfl (led_cell hw (hG0.st))) ?_
    refine vt_val (fun w hw => os_f (os_neq rfl rfl) (by omega)) ?_
    refine vt_val (fun w hw => os_move rfl) ?_
    refine vt_valg rfl (fun w hw => os_fa (o := 2) (k := 0) (by kernel_rfl) rfl) ?_
    refine vt_valg rfl (fun w hw => os_load Try.isAgg3 rfl (led_cell hw (hB0.cell (i := 2) rfl))) ?_
    refine vt_valg rfl (fun w hw => os_load Try.isAgg25 rfl (led_cell hw (hP0.cell (i := 0) rfl))) ?_
    refine vt_valg rfl (fun w hw => os_nilCheck rfl) ?_
    refine vt_valg rfl (fun w hw => os_fa (o := 257) (k := 0) (by kernel_rfl) rfl) ?_
    refine vt_valg rfl (fun w hw => os_load Try.isAgg3 rfl (led_cell hw (hG0.cn))) ?_
    refine vt_valg rfl (fun w hw => os_neq rfl rfl) ?_
    refine vt_val (fun w hw => os_pick_f rfl rfl) ?_
    refine vt_val (fun w hw => os_assign rfl) ?_
    refine vt_nil (fun w hw => ?_)
    obtain ⟨q, rfl⟩ := hw
    refine v_ret ?_
    exact post_ret rfl rfl (⟨by simp [h1], below_drewN_ hb0 q⟩)
  · refine v_seq ?_
    refine v_region ?_
    refine vl_val (os_box rfl) ?_
    refine vl_val (os_assign rfl) ?_
    refine vl_nil ?_
    refine v_seq ?_
    refine v_region_t LeD _ mixed (by kernel_rfl) lee_d (led_start _) ?_
    refine vt_val (fun w hw => os_fa (o := 0) (k := 0) (by kernel_rfl) rfl) ?_
    refine vt_val (fun w hw => os_load Try.isAgg3 rfl (led_cell hw (hB0.cell (i := 0) rfl))) ?_
    refine vt_val (fun w hw => os_load Try.isAgg25 rfl (led_cell hw (hP0.cell (i := 0) rfl))) ?_
    refine vt_val (fun w hw => os_nilCheck rfl) ?_
    refine vt_val (fun w hw => os_fa (o := 256) (k := 0) (by kernel_rfl) rfl) ?_
    refine vt_val (fun w hw => os_load Try.isAgg3 rfl (led_cell hw (hG0.st))) ?_
    refine vt_val (fun w hw => os_t (os_neq rfl rfl) (by omega)) ?_
    refine vt_val (fun w hw => os_move rfl) ?_
    refine vt_skip rfl rfl ?_
    refine vt_skip rfl rfl ?_
    refine vt_skip rfl rfl ?_
    refine vt_skip rfl rfl ?_
    refine vt_skip rfl rfl ?_
    refine vt_skip rfl rfl ?_
    refine vt_skip rfl rfl ?_
    refine vt_val (fun w hw => os_pick_t rfl rfl) ?_
    refine vt_val (fun w hw => os_assign rfl) ?_
    refine vt_nil (fun w hw => ?_)
    obtain ⟨q, rfl⟩ := hw
    refine v_ret ?_
    exact post_ret rfl rfl (⟨by simp [h1], below_drewN_ hb0 q⟩)
theorem guess_why3 (d : NoteV) (p g : Nat) (ps : List Int) (st n sq : Int) (w : World) (hP : Bk w p [.pointer (some ⟨g, 0, none⟩)] 25) (hG : GS w g ps st n sq) : Gives Try.prog 101 #[.agg d.cells.toArray, .pointer (some ⟨p, 0, none⟩)] w fun v w' => v = .bool (decide (d.sq ≤ sq)) ∧ Below w.heap.size w w' := by
  have hB0 := bk_new w d.cells 35
  have hb0 : Below w.heap.size w (w.alloc (.cells d.cells.toArray 35)) := (Below.refl _ w).alloc (Nat.le_refl _) _
  have hP0 := hP.keep hb0
  have hG0 := hG.keep hb0
  refine gives_enter Try.call101 Try.func101 rfl rfl rfl (by kernel_rfl) ?_
  refine v_seq ?_
  refine v_region ?_
  refine vl_val (os_box rfl) ?_
  refine vl_val (os_assign rfl) ?_
  refine vl_nil ?_
  refine v_seq ?_
  refine v_region_t LeD _ mixed (by kernel_rfl) lee_d (led_start _) ?_
  refine vt_val (fun w hw => os_fa (o := 1) (k := 0) (by kernel_rfl) rfl) ?_
  refine vt_val (fun w hw => os_load Try.isAgg3 rfl (led_cell hw (hB0.cell (i := 1) rfl))) ?_
  refine vt_val (fun w hw => os_load Try.isAgg25 rfl (led_cell hw (hP0.cell (i := 0) rfl))) ?_
  refine vt_val (fun w hw => os_nilCheck rfl) ?_
  refine vt_val (fun w hw => os_fa (o := 258) (k := 0) (by kernel_rfl) rfl) ?_
  refine vt_val (fun w hw => os_load Try.isAgg3 rfl (led_cell hw (hG0.sq))) ?_
  refine vt_val (fun w hw => os_leq rfl rfl) ?_
  refine vt_val (fun w hw => os_assign rfl) ?_
  refine vt_nil (fun w hw => ?_)
  obtain ⟨q, rfl⟩ := hw
  refine v_ret ?_
  exact post_ret rfl rfl (⟨rfl, below_drewN_ hb0 q⟩)
theorem guess_why4 (d : NoteV) (w : World) : Gives Try.prog 102 #[.agg d.cells.toArray] w fun v w' => v = .bool (decide (d.l = 0)) ∧ Below w.heap.size w w' := by
  have hB0 := bk_new w d.cells 35
  have hb0 : Below w.heap.size w (w.alloc (.cells d.cells.toArray 35)) := (Below.refl _ w).alloc (Nat.le_refl _) _
  refine gives_enter Try.call102 Try.func102 rfl rfl rfl (by kernel_rfl) ?_
  refine v_seq ?_
  refine v_region ?_
  refine vl_val (os_box rfl) ?_
  refine vl_val (os_assign rfl) ?_
  refine vl_nil ?_
  refine v_seq ?_
  refine v_region ?_
  refine vl_val (os_fa (o := 3) (k := 0) (by kernel_rfl) rfl) ?_
  refine vl_val (os_load Try.isAgg33 rfl (hB0.cell (i := 3) rfl)) ?_
  refine vl_val (os_len Try.underlying33 rfl) ?_
  refine vl_val (os_eql rfl rfl) ?_
  refine vl_val (os_assign rfl) ?_
  refine vl_nil ?_
  refine v_ret ?_
  exact post_ret rfl rfl (⟨by simp, hb0⟩)

/-- the reasons, as they lie in memory -/
def reasC (p : Nat) : List (List Value) := [[.func (.func 99) #[] #[], .int .i64 2], [.func (.func 100) #[] #[.pointer (some ⟨p, 0, none⟩)], .int .i64 13], [.func (.func 101) #[] #[.pointer (some ⟨p, 0, none⟩)], .int .i64 14], [.func (.func 102) #[] #[], .int .i64 5]]
theorem reasC_len (p : Nat) : ∀ c ∈ reasC p, c.length = 2 := by intro c hc; simp [reasC] at hc; rcases hc with rfl | rfl | rfl | rfl <;> rfl
def whyB (st n sq : Int) (d : NoteV) : Nat → Bool
  | 0 => !rightN d
  | 1 => decide (d.st ≠ st ∨ d.n ≠ n)
  | 2 => decide (d.sq ≤ sq)
  | _ => decide (d.l = 0)
def whyE : Nat → Int
  | 0 => 2
  | 1 => 13
  | 2 => 14
  | _ => 5
def errsW (b : Nat → Bool) : Nat → List Int
  | 0 => []
  | i + 1 => errsW b i ++ (if b i then [whyE i] else [])
theorem errsW_pre (b : Nat → Bool) (i : Nat) : ∀ j, ∃ r, errsW b (i + j) = errsW b i ++ r
  | 0 => ⟨[], by simp⟩
  | j + 1 => by
    obtain ⟨r, hr⟩ := errsW_pre b i j
    exact ⟨r ++ (if b (i + j) then [whyE (i + j)] else []), by rw [← Nat.add_assoc, errsW, hr, List.append_assoc]⟩
theorem errsW_at {b : Nat → Bool} {i N : Nat} (h : b i = true) (hi : i < N) : (errsW b i).length < (errsW b N).length ∧ (errsW b N).getD (errsW b i).length 0 = whyE i ∧ (errsW b (i + 1)).length = (errsW b i).length + 1 := by
  obtain ⟨r, hr⟩ := errsW_pre b (i + 1) (N - (i + 1))
  rw [show i + 1 + (N - (i + 1)) = N by omega] at hr
  have e : errsW b (i + 1) = errsW b i ++ [whyE i] := by simp [errsW, h]
  rw [hr, e]
  refine ⟨by simp, by simp [List.getElem?_append], by simp⟩
theorem errsW_no {b : Nat → Bool} {i : Nat} (h : b i = false) : errsW b (i + 1) = errsW b i := by simp [errsW, h]
theorem why_errs (st n sq : Int) (d : NoteV) : whyN st n sq d = (errsW (whyB st n sq d) 4).getD 0 0 := by
  unfold whyN
  simp only [errsW, whyB, whyE, List.nil_append]
  cases rightN d
  · simp
  · by_cases h1 : d.st ≠ st ∨ d.n ≠ n
    · rw [if_neg (by simp), if_pos h1]; simp [h1]
    · rw [if_neg (by simp), if_neg h1]
      by_cases h2 : d.sq ≤ sq
      · rw [if_pos h2]; simp [h1, h2]
      · rw [if_neg h2]
        by_cases h3 : d.l = 0
        · rw [if_pos h3]; simp [h1, h2, h3]
        · rw [if_neg h3]; simp [h1, h2, h3]

theorem guess_of (A : Option Addr) (l c : Nat) (d : NoteV) (w : World) : Gives Try.prog 103 #[.slice A l c, .agg d.cells.toArray] w fun v w' => v = .func (.func 137) #[] #[.pointer (some ⟨w.heap.size, 0, none⟩), .pointer (some ⟨w.heap.size + 1, 0, none⟩)] ∧ w' = (w.alloc (.cells #[.slice A l c] 129)).alloc (.cells d.cells.toArray 35) := by
  refine gives_enter Try.call103 Try.func103 rfl rfl rfl (by kernel_rfl) ?_
  refine v_seq ?_
  refine v_region ?_
  refine vl_val (os_box rfl) ?_
  refine vl_val (os_box rfl) ?_
  refine vl_val (os_assign rfl) ?_
  refine vl_nil ?_
  refine v_seq ?_
  refine v_region ?_
  refine vl_val (os_makeFunc rfl) ?_
  refine vl_val (os_assign rfl) ?_
  refine vl_nil ?_
  refine v_ret ?_
  exact post_ret rfl rfl (⟨by simp, rfl⟩)

set_option maxHeartbeats 4000000 in
theorem guess_of_fn (y p1 p2 p g : Nat) (A : Option Addr) (c : Nat) (d : NoteV) (ps : List Int) (st n sq : Int) (J Jx : Nat → World → Prop) (W : World)
    (hJI : ∀ k W, J k W → Bk W p1 [.slice A 4 c] 129 ∧ Bk W p2 d.cells 35 ∧ RdP W 2 A (reasC p) ∧ Bk W p [.pointer (some ⟨g, 0, none⟩)] 25 ∧ GS W g ps st n sq ∧ NoteOk W d) (hJ : ∀ k W W', J k W → LeG W W' → J k W')
    (hR : Rounds Try.prog y (fun k => [.int .i64 ((errsW (whyB st n sq d) 4).getD k 0)]) (errsW (whyB st n sq d) 4).length J Jx) (hJ0 : J 0 W) :
    Gives Try.prog 137 #[.func (.yield y) #[] #[], .pointer (some ⟨p1, 0, none⟩), .pointer (some ⟨p2, 0, none⟩)] W fun _ W' => J (errsW (whyB st n sq d) 4).length W' ∨ ∃ k, Jx k W' := by
  refine gives_enter Try.call137 Try.func137 rfl rfl rfl (by kernel_rfl) ?_
  refine v_seq ?_
  refine v_region ?_
  refine vl_val (os_load Try.isAgg129 rfl ((hJI 0 W hJ0).1.cell (i := 0) rfl)) ?_
  refine vl_val (os_len Try.underlying129 rfl) ?_
  refine vl_val (os_move rfl) ?_
  refine vl_nil ?_
  refine v_block ?_
  refine v_loop [(0, _), (2, _), (6, _), (7, _)] (fun (i : Nat) => [(8, .int .i64 i)]) (fun i w' => i ≤ 4 ∧ J (errsW (whyB st n sq d) i).length w') (fun i => 4 - i) (0) ⟨rfl, rfl, rfl, rfl, trivial⟩ ⟨rfl, trivial⟩ (⟨by omega, hJ0⟩) ?_
  rintro i w1 ⟨hi, hj⟩
  refine v_seq ?_
  refine v_region ?_
  refine vl_val (os_lss rfl rfl) ?_
  refine vl_nil ?_
  refine v_seq ?_
  refine v_cond_d rfl (fun h => ?_) (fun h => ?_)
  · obtain ⟨k1, k2, k3, k4, k5, k6⟩ := hJI _ w1 hj
    rcases (by omega : i = 0 ∨ i = 1 ∨ i = 2 ∨ i = 3) with hi0 | hi1 | hi2 | hi3
    · subst hi0
      obtain ⟨bo, oo, eA, hcell⟩ := k3 0 _ rfl
      have q3 : RdC w1 (some ⟨bo, oo + 0 * 2, none⟩) ((reasC p).getD 0 []) := fun _ => ⟨bo, _, rfl, fun j hj2 => by rw [List.getElem?_eq_getElem hj2]; exact hcell j _ (List.getElem?_eq_getElem hj2)⟩
      rw [eA]
      cases hb : !rightN d
      · refine v_skip ?_
        refine v_seq ?_
        refine v_block ?_
        refine v_seq ?_
        refine v_region ?_
        refine vl_val (os_ixs Try.underlying129 Try.sizeOf127 rfl rfl (i := 0) (by omega) (by omega)) ?_
        refine vl_val (os_loadP (cs := (reasC p).getD 0 []) Try.underlying127 rfl (by kernel_rfl) rfl q3) ?_
        refine vl_val (os_allocB Try.zeroValue127 (zc := _) (cs := [.nilFunc, .int .i64 0]) rfl) ?_
        have hC0 := bk_new w1 [.nilFunc, .int .i64 0] 127
        have b2 : Below w1.heap.size w1 (w1.alloc (.cells [Value.nilFunc, .int .i64 0].toArray 127)) := (Below.refl _ _).alloc (Nat.le_refl _) _
        refine vl_unit (ou_storeB (by kernel_rfl) rfl rfl hC0 rfl rfl) ?_
        have hC := setRow_bk hC0 ((reasC p).getD 0 [])
        have b3 := below_setRow b2 (Nat.le_refl _) ((reasC p).getD 0 []).toArray
        generalize hw3 : (w1.alloc (.cells [Value.nilFunc, .int .i64 0].toArray 127)).setRow w1.heap.size ((reasC p).getD 0 []).toArray = w3 at *
        refine vl_nil ?_
        refine v_seq ?_
        refine v_region ?_
        refine vl_val (os_fa (o := 0) (k := 0) (by kernel_rfl) rfl) ?_
        refine vl_val (os_load Try.isAgg32 rfl (hC.cell (i := 0) rfl)) ?_
        refine vl_val (os_loadB Try.underlying35 rfl (by kernel_rfl) rfl (k2.keep b3)) ?_
        refine vl_callv rfl (gives_boolb (guess_why1 d w3 (k6.keep b3)) hb) rfl ?_
        rintro v4 w4 ⟨rfl, b4⟩
        have eN := errsW_no (b := whyB st n sq d) (i := 0) hb
        refine vl_val (os_move rfl) ?_
        refine vl_skip rfl rfl ?_
        refine vl_skip rfl rfl ?_
        refine vl_skip rfl rfl ?_
        refine vl_skip rfl rfl ?_
        refine vl_skip rfl rfl ?_
        refine vl_val (os_pick_f rfl rfl) ?_
        refine vl_nil ?_
        refine v_cond_f rfl ?_
        refine v_skip ?_
        refine v_region ?_
        refine vl_val (os_addi rfl rfl (by omega)) ?_
        refine vl_val (os_move rfl) ?_
        refine vl_nil ?_
        exact ⟨0 + 1, ⟨rfl, rfl, rfl, rfl, trivial⟩, ⟨rfl, trivial⟩, ⟨by omega, by rw [eN]; exact hJ _ _ _ hj (b3.trans (b4.mono b3.size))⟩, by dsimp only; omega⟩
      · refine v_skip ?_
        refine v_seq ?_
        refine v_block ?_
        refine v_seq ?_
        refine v_region ?_
        refine vl_val (os_ixs Try.underlying129 Try.sizeOf127 rfl rfl (i := 0) (by omega) (by omega)) ?_
        refine vl_val (os_loadP (cs := (reasC p).getD 0 []) Try.underlying127 rfl (by kernel_rfl) rfl q3) ?_
        refine vl_val (os_allocB Try.zeroValue127 (zc := _) (cs := [.nilFunc, .int .i64 0]) rfl) ?_
        have hC0 := bk_new w1 [.nilFunc, .int .i64 0] 127
        have b2 : Below w1.heap.size w1 (w1.alloc (.cells [Value.nilFunc, .int .i64 0].toArray 127)) := (Below.refl _ _).alloc (Nat.le_refl _) _
        refine vl_unit (ou_storeB (by kernel_rfl) rfl rfl hC0 rfl rfl) ?_
        have hC := setRow_bk hC0 ((reasC p).getD 0 [])
        have b3 := below_setRow b2 (Nat.le_refl _) ((reasC p).getD 0 []).toArray
        generalize hw3 : (w1.alloc (.cells [Value.nilFunc, .int .i64 0].toArray 127)).setRow w1.heap.size ((reasC p).getD 0 []).toArray = w3 at *
        refine vl_nil ?_
        refine v_seq ?_
        refine v_region ?_
        refine vl_val (os_fa (o := 0) (k := 0) (by kernel_rfl) rfl) ?_
        refine vl_val (os_load Try.isAgg32 rfl (hC.cell (i := 0) rfl)) ?_
        refine vl_val (os_loadB Try.underlying35 rfl (by kernel_rfl) rfl (k2.keep b3)) ?_
        refine vl_callv rfl (gives_boolb (guess_why1 d w3 (k6.keep b3)) hb) rfl ?_
        rintro v4 w4 ⟨rfl, b4⟩
        obtain ⟨e1, e2, e3⟩ := errsW_at (b := whyB st n sq d) (i := 0) (N := 4) hb (by omega)
        refine vl_val (os_move rfl) ?_
        refine vl_valg rfl (os_move rfl) ?_
        refine vl_valg rfl (os_fa (o := 1) (k := 0) (by kernel_rfl) rfl) ?_
        refine vl_valg rfl (os_load Try.isAgg26 rfl ((hC.keep b4).cell (i := 1) rfl)) ?_
        refine vl_yieldg rfl rfl rfl ((by have := hR _ _ (hJ _ _ _ hj (b3.trans (b4.mono b3.size))) e1; simp only [e2] at this; exact this)) ?_
        rintro bo w5 ⟨hy, hn⟩
        refine vl_valg rfl (os_not rfl) ?_
        refine vl_val (os_pick_t rfl rfl) ?_
        refine vl_nil ?_
        refine v_cond rfl (fun hbv => ?_) (fun hbv => ?_)
        · refine v_ret ?_
          exact post_ret0 rfl (.inr ⟨_, hn (by simpa using hbv)⟩)
        · refine v_skip ?_
          refine v_region ?_
          refine vl_val (os_addi rfl rfl (by omega)) ?_
          refine vl_val (os_move rfl) ?_
          refine vl_nil ?_
          exact ⟨0 + 1, ⟨rfl, rfl, rfl, rfl, trivial⟩, ⟨rfl, trivial⟩, ⟨by omega, by rw [e3]; exact hy (by simpa using hbv)⟩, by dsimp only; omega⟩
    · subst hi1
      obtain ⟨bo, oo, eA, hcell⟩ := k3 1 _ rfl
      have q3 : RdC w1 (some ⟨bo, oo + 1 * 2, none⟩) ((reasC p).getD 1 []) := fun _ => ⟨bo, _, rfl, fun j hj2 => by rw [List.getElem?_eq_getElem hj2]; exact hcell j _ (List.getElem?_eq_getElem hj2)⟩
      rw [eA]
      cases hb : decide (d.st ≠ st ∨ d.n ≠ n)
      · refine v_skip ?_
        refine v_seq ?_
        refine v_block ?_
        refine v_seq ?_
        refine v_region ?_
        refine vl_val (os_ixs Try.underlying129 Try.sizeOf127 rfl rfl (i := 1) (by omega) (by omega)) ?_
        refine vl_val (os_loadP (cs := (reasC p).getD 1 []) Try.underlying127 rfl (by kernel_rfl) rfl q3) ?_
        refine vl_val (os_allocB Try.zeroValue127 (zc := _) (cs := [.nilFunc, .int .i64 0]) rfl) ?_
        have hC0 := bk_new w1 [.nilFunc, .int .i64 0] 127
        have b2 : Below w1.heap.size w1 (w1.alloc (.cells [Value.nilFunc, .int .i64 0].toArray 127)) := (Below.refl _ _).alloc (Nat.le_refl _) _
        refine vl_unit (ou_storeB (by kernel_rfl) rfl rfl hC0 rfl rfl) ?_
        have hC := setRow_bk hC0 ((reasC p).getD 1 [])
        have b3 := below_setRow b2 (Nat.le_refl _) ((reasC p).getD 1 []).toArray
        generalize hw3 : (w1.alloc (.cells [Value.nilFunc, .int .i64 0].toArray 127)).setRow w1.heap.size ((reasC p).getD 1 []).toArray = w3 at *
        refine vl_nil ?_
        refine v_seq ?_
        refine v_region ?_
        refine vl_val (os_fa (o := 0) (k := 0) (by kernel_rfl) rfl) ?_
        refine vl_val (os_load Try.isAgg32 rfl (hC.cell (i := 0) rfl)) ?_
        refine vl_val (os_loadB Try.underlying35 rfl (by kernel_rfl) rfl (k2.keep b3)) ?_
        refine vl_callv rfl (gives_boolb (guess_why2 d p g ps st n sq w3 (k4.keep b3) (k5.keep b3)) hb) rfl ?_
        rintro v4 w4 ⟨rfl, b4⟩
        have eN := errsW_no (b := whyB st n sq d) (i := 1) hb
        refine vl_val (os_move rfl) ?_
        refine vl_skip rfl rfl ?_
        refine vl_skip rfl rfl ?_
        refine vl_skip rfl rfl ?_
        refine vl_skip rfl rfl ?_
        refine vl_skip rfl rfl ?_
        refine vl_val (os_pick_f rfl rfl) ?_
        refine vl_nil ?_
        refine v_cond_f rfl ?_
        refine v_skip ?_
        refine v_region ?_
        refine vl_val (os_addi rfl rfl (by omega)) ?_
        refine vl_val (os_move rfl) ?_
        refine vl_nil ?_
        exact ⟨1 + 1, ⟨rfl, rfl, rfl, rfl, trivial⟩, ⟨rfl, trivial⟩, ⟨by omega, by rw [eN]; exact hJ _ _ _ hj (b3.trans (b4.mono b3.size))⟩, by dsimp only; omega⟩
      · refine v_skip ?_
        refine v_seq ?_
        refine v_block ?_
        refine v_seq ?_
        refine v_region ?_
        refine vl_val (os_ixs Try.underlying129 Try.sizeOf127 rfl rfl (i := 1) (by omega) (by omega)) ?_
        refine vl_val (os_loadP (cs := (reasC p).getD 1 []) Try.underlying127 rfl (by kernel_rfl) rfl q3) ?_
        refine vl_val (os_allocB Try.zeroValue127 (zc := _) (cs := [.nilFunc, .int .i64 0]) rfl) ?_
        have hC0 := bk_new w1 [.nilFunc, .int .i64 0] 127
        have b2 : Below w1.heap.size w1 (w1.alloc (.cells [Value.nilFunc, .int .i64 0].toArray 127)) := (Below.refl _ _).alloc (Nat.le_refl _) _
        refine vl_unit (ou_storeB (by kernel_rfl) rfl rfl hC0 rfl rfl) ?_
        have hC := setRow_bk hC0 ((reasC p).getD 1 [])
        have b3 := below_setRow b2 (Nat.le_refl _) ((reasC p).getD 1 []).toArray
        generalize hw3 : (w1.alloc (.cells [Value.nilFunc, .int .i64 0].toArray 127)).setRow w1.heap.size ((reasC p).getD 1 []).toArray = w3 at *
        refine vl_nil ?_
        refine v_seq ?_
        refine v_region ?_
        refine vl_val (os_fa (o := 0) (k := 0) (by kernel_rfl) rfl) ?_
        refine vl_val (os_load Try.isAgg32 rfl (hC.cell (i := 0) rfl)) ?_
        refine vl_val (os_loadB Try.underlying35 rfl (by kernel_rfl) rfl (k2.keep b3)) ?_
        refine vl_callv rfl (gives_boolb (guess_why2 d p g ps st n sq w3 (k4.keep b3) (k5.keep b3)) hb) rfl ?_
        rintro v4 w4 ⟨rfl, b4⟩
        obtain ⟨e1, e2, e3⟩ := errsW_at (b := whyB st n sq d) (i := 1) (N := 4) hb (by omega)
        refine vl_val (os_move rfl) ?_
        refine vl_valg rfl (os_move rfl) ?_
        refine vl_valg rfl (os_fa (o := 1) (k := 0) (by kernel_rfl) rfl) ?_
        refine vl_valg rfl (os_load Try.isAgg26 rfl ((hC.keep b4).cell (i := 1) rfl)) ?_
        refine vl_yieldg rfl rfl rfl ((by have := hR _ _ (hJ _ _ _ hj (b3.trans (b4.mono b3.size))) e1; simp only [e2] at this; exact this)) ?_
        rintro bo w5 ⟨hy, hn⟩
        refine vl_valg rfl (os_not rfl) ?_
        refine vl_val (os_pick_t rfl rfl) ?_
        refine vl_nil ?_
        refine v_cond rfl (fun hbv => ?_) (fun hbv => ?_)
        · refine v_ret ?_
          exact post_ret0 rfl (.inr ⟨_, hn (by simpa using hbv)⟩)
        · refine v_skip ?_
          refine v_region ?_
          refine vl_val (os_addi rfl rfl (by omega)) ?_
          refine vl_val (os_move rfl) ?_
          refine vl_nil ?_
          exact ⟨1 + 1, ⟨rfl, rfl, rfl, rfl, trivial⟩, ⟨rfl, trivial⟩, ⟨by omega, by rw [e3]; exact hy (by simpa using hbv)⟩, by dsimp only; omega⟩
    · subst hi2
      obtain ⟨bo, oo, eA, hcell⟩ := k3 2 _ rfl
      have q3 : RdC w1 (some ⟨bo, oo + 2 * 2, none⟩) ((reasC p).getD 2 []) := fun _ => ⟨bo, _, rfl, fun j hj2 => by rw [List.getElem?_eq_getElem hj2]; exact hcell j _ (List.getElem?_eq_getElem hj2)⟩
      rw [eA]
      cases hb : decide (d.sq ≤ sq)
      · refine v_skip ?_
        refine v_seq ?_
        refine v_block ?_
        refine v_seq ?_
        refine v_region ?_
        refine vl_val (os_ixs Try.underlying129 Try.sizeOf127 rfl rfl (i := 2) (by omega) (by omega)) ?_
        refine vl_val (os_loadP (cs := (reasC p).getD 2 []) Try.underlying127 rfl (by kernel_rfl) rfl q3) ?_
        refine vl_val (os_allocB Try.zeroValue127 (zc := _) (cs := [.nilFunc, .int .i64 0]) rfl) ?_
        have hC0 := bk_new w1 [.nilFunc, .int .i64 0] 127
        have b2 : Below w1.heap.size w1 (w1.alloc (.cells [Value.nilFunc, .int .i64 0].toArray 127)) := (Below.refl _ _).alloc (Nat.le_refl _) _
        refine vl_unit (ou_storeB (by kernel_rfl) rfl rfl hC0 rfl rfl) ?_
        have hC := setRow_bk hC0 ((reasC p).getD 2 [])
        have b3 := below_setRow b2 (Nat.le_refl _) ((reasC p).getD 2 []).toArray
        generalize hw3 : (w1.alloc (.cells [Value.nilFunc, .int .i64 0].toArray 127)).setRow w1.heap.size ((reasC p).getD 2 []).toArray = w3 at *
        refine vl_nil ?_
        refine v_seq ?_
        refine v_region ?_
        refine vl_val (os_fa (o := 0) (k := 0) (by kernel_rfl) rfl) ?_
        refine vl_val (os_load Try.isAgg32 rfl (hC.cell (i := 0) rfl)) ?_
        refine vl_val (os_loadB Try.underlying35 rfl (by kernel_rfl) rfl (k2.keep b3)) ?_
        refine vl_callv rfl (gives_boolb (guess_why3 d p g ps st n sq w3 (k4.keep b3) (k5.keep b3)) hb) rfl ?_
        rintro v4 w4 ⟨rfl, b4⟩
        have eN := errsW_no (b := whyB st n sq d) (i := 2) hb
        refine vl_val (os_move rfl) ?_
        refine vl_skip rfl rfl ?_
        refine vl_skip rfl rfl ?_
        refine vl_skip rfl rfl ?_
        refine vl_skip rfl rfl ?_
        refine vl_skip rfl rfl ?_
        refine vl_val (os_pick_f rfl rfl) ?_
        refine vl_nil ?_
        refine v_cond_f rfl ?_
        refine v_skip ?_
        refine v_region ?_
        refine vl_val (os_addi rfl rfl (by omega)) ?_
        refine vl_val (os_move rfl) ?_
        refine vl_nil ?_
        exact ⟨2 + 1, ⟨rfl, rfl, rfl, rfl, trivial⟩, ⟨rfl, trivial⟩, ⟨by omega, by rw [eN]; exact hJ _ _ _ hj (b3.trans (b4.mono b3.size))⟩, by dsimp only; omega⟩
      · refine v_skip ?_
        refine v_seq ?_
        refine v_block ?_
        refine v_seq ?_
        refine v_region ?_
        refine vl_val (os_ixs Try.underlying129 Try.sizeOf127 rfl rfl (i := 2) (by omega) (by omega)) ?_
        refine vl_val (os_loadP (cs := (reasC p).getD 2 []) Try.underlying127 rfl (by kernel_rfl) rfl q3) ?_
        refine vl_val (os_allocB Try.zeroValue127 (zc := _) (cs := [.nilFunc, .int .i64 0]) rfl) ?_
        have hC0 := bk_new w1 [.nilFunc, .int .i64 0] 127
        have b2 : Below w1.heap.size w1 (w1.alloc (.cells [Value.nilFunc, .int .i64 0].toArray 127)) := (Below.refl _ _).alloc (Nat.le_refl _) _
        refine vl_unit (ou_storeB (by kernel_rfl) rfl rfl hC0 rfl rfl) ?_
        have hC := setRow_bk hC0 ((reasC p).getD 2 [])
        have b3 := below_setRow b2 (Nat.le_refl _) ((reasC p).getD 2 []).toArray
        generalize hw3 : (w1.alloc (.cells [Value.nilFunc, .int .i64 0].toArray 127)).setRow w1.heap.size ((reasC p).getD 2 []).toArray = w3 at *
        refine vl_nil ?_
        refine v_seq ?_
        refine v_region ?_
        refine vl_val (os_fa (o := 0) (k := 0) (by kernel_rfl) rfl) ?_
        refine vl_val (os_load Try.isAgg32 rfl (hC.cell (i := 0) rfl)) ?_
        refine vl_val (os_loadB Try.underlying35 rfl (by kernel_rfl) rfl (k2.keep b3)) ?_
        refine vl_callv rfl (gives_boolb (guess_why3 d p g ps st n sq w3 (k4.keep b3) (k5.keep b3)) hb) rfl ?_
        rintro v4 w4 ⟨rfl, b4⟩
        obtain ⟨e1, e2, e3⟩ := errsW_at (b := whyB st n sq d) (i := 2) (N := 4) hb (by omega)
        refine vl_val (os_move rfl) ?_
        refine vl_valg rfl (os_move rfl) ?_
        refine vl_valg rfl (os_fa (o := 1) (k := 0) (by kernel_rfl) rfl) ?_
        refine vl_valg rfl (os_load Try.isAgg26 rfl ((hC.keep b4).cell (i := 1) rfl)) ?_
        refine vl_yieldg rfl rfl rfl ((by have := hR _ _ (hJ _ _ _ hj (b3.trans (b4.mono b3.size))) e1; simp only [e2] at this; exact this)) ?_
        rintro bo w5 ⟨hy, hn⟩
        refine vl_valg rfl (os_not rfl) ?_
        refine vl_val (os_pick_t rfl rfl) ?_
        refine vl_nil ?_
        refine v_cond rfl (fun hbv => ?_) (fun hbv => ?_)
        · refine v_ret ?_
          exact post_ret0 rfl (.inr ⟨_, hn (by simpa using hbv)⟩)
        · refine v_skip ?_
          refine v_region ?_
          refine vl_val (os_addi rfl rfl (by omega)) ?_
          refine vl_val (os_move rfl) ?_
          refine vl_nil ?_
          exact ⟨2 + 1, ⟨rfl, rfl, rfl, rfl, trivial⟩, ⟨rfl, trivial⟩, ⟨by omega, by rw [e3]; exact hy (by simpa using hbv)⟩, by dsimp only; omega⟩
    · subst hi3
      obtain ⟨bo, oo, eA, hcell⟩ := k3 3 _ rfl
      have q3 : RdC w1 (some ⟨bo, oo + 3 * 2, none⟩) ((reasC p).getD 3 []) := fun _ => ⟨bo, _, rfl, fun j hj2 => by rw [List.getElem?_eq_getElem hj2]; exact hcell j _ (List.getElem?_eq_getElem hj2)⟩
      rw [eA]
      cases hb : decide (d.l = 0)
      · refine v_skip ?_
        refine v_seq ?_
        refine v_block ?_
        refine v_seq ?_
        refine v_region ?_
        refine vl_val (os_ixs Try.underlying129 Try.sizeOf127 rfl rfl (i := 3) (by omega) (by omega)) ?_
        refine vl_val (os_loadP (cs := (reasC p).getD 3 []) Try.underlying127 rfl (by kernel_rfl) rfl q3) ?_
        refine vl_val (os_allocB Try.zeroValue127 (zc := _) (cs := [.nilFunc, .int .i64 0]) rfl) ?_
        have hC0 := bk_new w1 [.nilFunc, .int .i64 0] 127
        have b2 : Below w1.heap.size w1 (w1.alloc (.cells [Value.nilFunc, .int .i64 0].toArray 127)) := (Below.refl _ _).alloc (Nat.le_refl _) _
        refine vl_unit (ou_storeB (by kernel_rfl) rfl rfl hC0 rfl rfl) ?_
        have hC := setRow_bk hC0 ((reasC p).getD 3 [])
        have b3 := below_setRow b2 (Nat.le_refl _) ((reasC p).getD 3 []).toArray
        generalize hw3 : (w1.alloc (.cells [Value.nilFunc, .int .i64 0].toArray 127)).setRow w1.heap.size ((reasC p).getD 3 []).toArray = w3 at *
        refine vl_nil ?_
        refine v_seq ?_
        refine v_region ?_
        refine vl_val (os_fa (o := 0) (k := 0) (by kernel_rfl) rfl) ?_
        refine vl_val (os_load Try.isAgg32 rfl (hC.cell (i := 0) rfl)) ?_
        refine vl_val (os_loadB Try.underlying35 rfl (by kernel_rfl) rfl (k2.keep b3)) ?_
        refine vl_callv rfl (gives_boolb (guess_why4 d w3) hb) rfl ?_
        rintro v4 w4 ⟨rfl, b4⟩
        have eN := errsW_no (b := whyB st n sq d) (i := 3) hb
        refine vl_val (os_move rfl) ?_
        refine vl_skip rfl rfl ?_
        refine vl_skip rfl rfl ?_
        refine vl_skip rfl rfl ?_
        refine vl_skip rfl rfl ?_
        refine vl_skip rfl rfl ?_
        refine vl_val (os_pick_f rfl rfl) ?_
        refine vl_nil ?_
        refine v_cond_f rfl ?_
        refine v_skip ?_
        refine v_region ?_
        refine vl_val (os_addi rfl rfl (by omega)) ?_
        refine vl_val (os_move rfl) ?_
        refine vl_nil ?_
        exact ⟨3 + 1, ⟨rfl, rfl, rfl, rfl, trivial⟩, ⟨rfl, trivial⟩, ⟨by omega, by rw [eN]; exact hJ _ _ _ hj (b3.trans (b4.mono b3.size))⟩, by dsimp only; omega⟩
      · refine v_skip ?_
        refine v_seq ?_
        refine v_block ?_
        refine v_seq ?_
        refine v_region ?_
        refine vl_val (os_ixs Try.underlying129 Try.sizeOf127 rfl rfl (i := 3) (by omega) (by omega)) ?_
        refine vl_val (os_loadP (cs := (reasC p).getD 3 []) Try.underlying127 rfl (by kernel_rfl) rfl q3) ?_
        refine vl_val (os_allocB Try.zeroValue127 (zc := _) (cs := [.nilFunc, .int .i64 0]) rfl) ?_
        have hC0 := bk_new w1 [.nilFunc, .int .i64 0] 127
        have b2 : Below w1.heap.size w1 (w1.alloc (.cells [Value.nilFunc, .int .i64 0].toArray 127)) := (Below.refl _ _).alloc (Nat.le_refl _) _
        refine vl_unit (ou_storeB (by kernel_rfl) rfl rfl hC0 rfl rfl) ?_
        have hC := setRow_bk hC0 ((reasC p).getD 3 [])
        have b3 := below_setRow b2 (Nat.le_refl _) ((reasC p).getD 3 []).toArray
        generalize hw3 : (w1.alloc (.cells [Value.nilFunc, .int .i64 0].toArray 127)).setRow w1.heap.size ((reasC p).getD 3 []).toArray = w3 at *
        refine vl_nil ?_
        refine v_seq ?_
        refine v_region ?_
        refine vl_val (os_fa (o := 0) (k := 0) (by kernel_rfl) rfl) ?_
        refine vl_val (os_load Try.isAgg32 rfl (hC.cell (i := 0) rfl)) ?_
        refine vl_val (os_loadB Try.underlying35 rfl (by kernel_rfl) rfl (k2.keep b3)) ?_
        refine vl_callv rfl (gives_boolb (guess_why4 d w3) hb) rfl ?_
        rintro v4 w4 ⟨rfl, b4⟩
        obtain ⟨e1, e2, e3⟩ := errsW_at (b := whyB st n sq d) (i := 3) (N := 4) hb (by omega)
        refine vl_val (os_move rfl) ?_
        refine vl_valg rfl (os_move rfl) ?_
        refine vl_valg rfl (os_fa (o := 1) (k := 0) (by kernel_rfl) rfl) ?_
        refine vl_valg rfl (os_load Try.isAgg26 rfl ((hC.keep b4).cell (i := 1) rfl)) ?_
        refine vl_yieldg rfl rfl rfl ((by have := hR _ _ (hJ _ _ _ hj (b3.trans (b4.mono b3.size))) e1; simp only [e2] at this; exact this)) ?_
        rintro bo w5 ⟨hy, hn⟩
        refine vl_valg rfl (os_not rfl) ?_
        refine vl_val (os_pick_t rfl rfl) ?_
        refine vl_nil ?_
        refine v_cond rfl (fun hbv => ?_) (fun hbv => ?_)
        · refine v_ret ?_
          exact post_ret0 rfl (.inr ⟨_, hn (by simpa using hbv)⟩)
        · refine v_skip ?_
          refine v_region ?_
          refine vl_val (os_addi rfl rfl (by omega)) ?_
          refine vl_val (os_move rfl) ?_
          refine vl_nil ?_
          exact ⟨3 + 1, ⟨rfl, rfl, rfl, rfl, trivial⟩, ⟨rfl, trivial⟩, ⟨by omega, by rw [e3]; exact hy (by simpa using hbv)⟩, by dsimp only; omega⟩
  · obtain rfl : i = 4 := by omega
    refine v_exit ?_
    exact post_end0 rfl (.inl hj)

end Go.Proofs.Ytpjmiafefammkaa
