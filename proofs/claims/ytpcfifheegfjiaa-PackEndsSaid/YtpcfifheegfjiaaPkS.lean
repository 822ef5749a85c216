/- Layer 8: the document's reader. -/
import Derived.Test.YtpcfifheegfjiaaPkR
namespace Go.Proofs.Ytpcfifheegfjiaa
open Go.RowKit
set_option linter.unusedVariables false

structure RfS (w : World) (B : Nat) (g : Nat) (v : Value) (bs : List Int) (e : Int) : Prop where
  bk : Bk w g [v, .int .i64 e] 109
  form : ∃ A c, v = .slice A bs.length c ∧ bs.length ≤ c ∧ c ≤ maxLen ∧ Rd w .u8 A bs
  low : B ≤ g
  row : ∀ b, v.ownBlock = some b → B ≤ b ∧ b < w.heap.size ∧ b ≠ g
theorem RfS.keep {w w' : World} {B g : Nat} {v : Value} {bs : List Int} {e : Int} (h : RfS w B g v bs e) (hb : Below w.heap.size w w') : RfS w' B g v bs e :=
  ⟨h.bk.keep hb, let ⟨A, c, e1, h1, h2, r⟩ := h.form; ⟨A, c, e1, h1, h2, r.keep hb⟩, h.low, fun b hv => ⟨(h.row b hv).1, Nat.lt_of_lt_of_le (h.row b hv).2.1 hb.size, (h.row b hv).2.2⟩⟩
theorem RfS.err {w : World} {B g : Nat} {v : Value} {bs : List Int} {e : Int} (h : RfS w B g v bs e) (x : Int) : RfS (w.setCell ⟨g, 0 + 1, none⟩ (.int .i64 x)) B g v bs x := by
  obtain ⟨A, c, rfl, hc, hm, hR⟩ := h.form
  have hk : Kb [g] w (w.setCell ⟨g, 0 + 1, none⟩ (.int .i64 x)) := Kb.set (by simp) _ _
  exact ⟨Bk.set h.bk 1 _, ⟨A, c, rfl, hc, hm, hR.kb hk (fun b o e => by subst e; have := (h.row b rfl).2.2; simpa using this)⟩, h.low, fun b hb => ⟨(h.row b hb).1, by simpa [World.setCell] using (h.row b hb).2.1, (h.row b hb).2.2⟩⟩
theorem RfS.lo {w : World} {B g : Nat} {v : Value} {bs : List Int} {e : Int} (h : RfS w B g v bs e) : ∀ k ∈ [g], B ≤ k := by
  intro k hk
  rw [List.mem_singleton.1 hk]; exact h.low
theorem rf_Over (A : Option Addr) (n c : Nat) (bs : List Int) (w : World) (ha : Rd w .u8 A bs) (hn : n = bs.length) (hl : n ≤ 140737488351232) :
    Gives Try.prog 41 #[.slice A n c] w fun u w' => ∃ g v, u = .pointer (some ⟨g, 0, none⟩) ∧ RfS w' w.heap.size g v bs 0 ∧ Below w.heap.size w w' := by
  refine gives_enter Try.call41 Try.func41 rfl rfl rfl (by kernel_rfl) ?_
  have s0 := own_alloc w [] 5 (Nat.le_refl w.heap.size) (by simp [maxLen])
  have s0b : Below w.heap.size w (w.alloc (.cells #[] 5)) := (Below.refl _ w).alloc (Nat.le_refl _) _
  refine v_seq ?_
  refine v_region ?_
  refine vl_val (os_assign rfl) ?_
  refine vl_nil ?_
  refine v_seq ?_
  refine v_region ?_
  refine vl_val (os_lit Try.underlying22 Try.sizeOf5 Try.zeroValue5 rfl rfl rfl rfl (by decide)) ?_
  refine vl_val (os_move rfl) ?_
  refine vl_some (ot_append Try.underlying22 ti_u8 rfl rfl rfl s0 (ha.keep s0b).toC (by simp [hn]) (ints_one8 _) (by simp; omega) (by simp [maxLen]; omega) (by simp)) ?_
  rintro v1 w1 ⟨so, sg⟩
  have so : OwnK w1 w.heap.size 5 .u8 v1 bs := by simpa [OwnK] using so
  have hb := s0.below s0b sg (Nat.le_refl _) (by simp)
  obtain ⟨A1, c1, rfl, hc1, hm1, hR1, hB1⟩ := OwnK.form so
  refine vl_val (os_build (cs := [.slice A1 bs.length c1, .int .i64 0]) rfl (by kernel_rfl)) ?_
  refine vl_val (os_box rfl) ?_
  refine vl_val (os_assign rfl) ?_
  refine vl_nil ?_
  refine v_ret ?_
  exact post_ret rfl rfl (⟨_, _, rfl, ⟨bk_new w1 [.slice A1 bs.length c1, .int .i64 0] _, ⟨A1, c1, rfl, hc1, hm1, hR1.keep ((Below.refl _ _).alloc (Nat.le_refl _) _)⟩, hb.size, fun b hv => by have := World.ownsRow.lt so b hv; simp; omega⟩, hb.alloc hb.size _⟩)
set_option maxHeartbeats 1000000 in
theorem rf_take (g : Nat) (v : Value) (bs : List Int) (e : Int) (k : Nat) (B : Nat) (w : World) (hw : RfS w B g v bs e) (hB : B ≤ w.heap.size) (hl : bs.length ≤ 140737488351232) :
    Gives Try.prog 87 #[.pointer (some ⟨g, 0, none⟩), .int .i64 k] w fun u w' => ∃ s v', u = .tuple #[s, .bool (takeOk e k bs)] ∧ OwnK w' w.heap.size 5 .u8 s (if takeOk e k bs then bs.take k else []) ∧ RfS w' B g v' (if takeOk e k bs then bs.drop k else bs) (takeErr e k bs) ∧ Kb [g] w w' ∧ v'.ownBlock = v.ownBlock := by
  obtain ⟨A, c, rfl, hc, hm, hR⟩ := hw.form
  have hbk := hw.bk
  refine gives_enter Try.call87 Try.func87 rfl rfl rfl (by kernel_rfl) ?_
  rcases (by omega : e ≠ 0 ∨ (e = 0 ∧ bs.length < k) ∨ (e = 0 ∧ k ≤ bs.length)) with he | ⟨rfl, hn⟩ | ⟨rfl, hn⟩
  · refine v_seq ?_
    refine v_region ?_
    refine vl_val (os_assign rfl) ?_
    refine vl_val (os_assign rfl) ?_
    refine vl_nil ?_
    refine v_seq ?_
    refine v_seq ?_
    refine v_region ?_
    refine vl_val (os_move rfl) ?_
    refine vl_val (os_nilCheck rfl) ?_
    refine vl_val (os_fa (o := 1) (k := 0) (by kernel_rfl) rfl) ?_
    refine vl_val (os_load Try.isAgg29 rfl (hbk.cell (i := 1) rfl)) ?_
    refine vl_val (os_f (os_eql rfl rfl) (by omega)) ?_
    refine vl_val (os_move rfl) ?_
    refine vl_skip rfl rfl ?_
    refine vl_skip rfl rfl ?_
    refine vl_skip rfl rfl ?_
    refine vl_skip rfl rfl ?_
    refine vl_skip rfl rfl ?_
    refine vl_skip rfl rfl ?_
    refine vl_skip rfl rfl ?_
    refine vl_val (os_pick_f rfl rfl) ?_
    refine vl_nil ?_
    refine v_cond_f rfl ?_
    refine v_skip ?_
    refine v_seq ?_
    refine v_seq ?_
    refine v_region ?_
    refine vl_val (os_move rfl) ?_
    refine vl_val (os_nilCheck rfl) ?_
    refine vl_val (os_fa (o := 1) (k := 0) (by kernel_rfl) rfl) ?_
    refine vl_val (os_load Try.isAgg29 rfl (hbk.cell (i := 1) rfl)) ?_
    refine vl_val (os_neq rfl rfl) ?_
    refine vl_nil ?_
    refine v_cond_yes rfl (by omega) ?_
    have ho : takeOk e k bs = false := decide_eq_false (fun h => he h.1)
    refine v_seq ?_
    refine v_region ?_
    refine vl_val (os_assign rfl) ?_
    refine vl_val (os_assign rfl) ?_
    refine vl_nil ?_
    refine v_ret ?_
    exact post_ret2 rfl rfl rfl (⟨_, _, by rw [ho], by rw [ho]; exact Own.nil _ _ _, by rw [ho, takeErr, if_neg he]; exact hw, Kb.refl _ _, rfl⟩)
  · have ho : takeOk 0 k bs = false := decide_eq_false (by omega)
    have hte : takeErr 0 k bs = 4 := by unfold takeErr; rw [if_pos rfl, if_neg (show ¬ (k : Int) < 0 by omega), if_neg (show ¬ (k : Int) ≤ (bs.length : Int) by omega)]
    refine v_seq ?_
    refine v_region ?_
    refine vl_val (os_assign rfl) ?_
    refine vl_val (os_assign rfl) ?_
    refine vl_nil ?_
    refine v_seq ?_
    refine v_seq ?_
    refine v_region ?_
    refine vl_val (os_move rfl) ?_
    refine vl_val (os_nilCheck rfl) ?_
    refine vl_val (os_fa (o := 1) (k := 0) (by kernel_rfl) rfl) ?_
    refine vl_val (os_load Try.isAgg29 rfl (hbk.cell (i := 1) rfl)) ?_
    refine vl_val (os_t (os_eql rfl rfl) (rfl)) ?_
    refine vl_val (os_move rfl) ?_
    refine vl_valg rfl (os_move rfl) ?_
    refine vl_valg rfl (os_move rfl) ?_
    refine vl_valg rfl (os_nilCheck rfl) ?_
    refine vl_valg rfl (os_fa (o := 0) (k := 0) (by kernel_rfl) rfl) ?_
    refine vl_valg rfl (os_load Try.isAgg22 rfl (hbk.cell (i := 0) rfl)) ?_
    refine vl_valg rfl (os_len Try.underlying22 rfl) ?_
    refine vl_valg rfl (os_gtr rfl rfl) ?_
    refine vl_val (os_pick_t rfl rfl) ?_
    refine vl_nil ?_
    refine v_cond_yes rfl (by omega) ?_
    refine v_region ?_
    refine vl_val (os_move rfl) ?_
    refine vl_val (os_nilCheck rfl) ?_
    refine vl_val (os_fa (o := 1) (k := 0) (by kernel_rfl) rfl) ?_
    refine vl_unit (ou_store Try.sizeOf29 rfl rfl rfl (hbk.cell (i := 1) rfl) (hbk.free _)) ?_
    refine vl_nil ?_
    refine v_seq ?_
    refine v_seq ?_
    refine v_region ?_
    refine vl_val (os_move rfl) ?_
    refine vl_val (os_nilCheck rfl) ?_
    refine vl_val (os_fa (o := 1) (k := 0) (by kernel_rfl) rfl) ?_
    refine vl_val (os_load Try.isAgg29 rfl ((Bk.set hbk 1 _).cell (i := 1) rfl)) ?_
    refine vl_val (os_neq rfl rfl) ?_
    refine vl_nil ?_
    refine v_cond_yes rfl (by omega) ?_
    refine v_seq ?_
    refine v_region ?_
    refine vl_val (os_assign rfl) ?_
    refine vl_val (os_assign rfl) ?_
    refine vl_nil ?_
    refine v_ret ?_
    exact post_ret2 rfl rfl rfl (⟨_, _, by rw [ho], by rw [ho]; exact Own.nil _ _ _, by rw [ho, hte]; exact hw.err 4, Kb.set (by simp) _ _, rfl⟩)
  · have ho : takeOk 0 k bs = true := decide_eq_true ⟨rfl, by omega, by omega⟩
    have hte : takeErr 0 k bs = 0 := by unfold takeErr; rw [if_pos rfl, if_neg (show ¬ (k : Int) < 0 by omega), if_pos (show (k : Int) ≤ (bs.length : Int) by omega)]
    refine v_seq ?_
    refine v_region ?_
    refine vl_val (os_assign rfl) ?_
    refine vl_val (os_assign rfl) ?_
    refine vl_nil ?_
    refine v_seq ?_
    refine v_seq ?_
    refine v_region ?_
    refine vl_val (os_move rfl) ?_
    refine vl_val (os_nilCheck rfl) ?_
    refine vl_val (os_fa (o := 1) (k := 0) (by kernel_rfl) rfl) ?_
    refine vl_val (os_load Try.isAgg29 rfl (hbk.cell (i := 1) rfl)) ?_
    refine vl_val (os_t (os_eql rfl rfl) (rfl)) ?_
    refine vl_val (os_move rfl) ?_
    refine vl_valg rfl (os_move rfl) ?_
    refine vl_valg rfl (os_move rfl) ?_
    refine vl_valg rfl (os_nilCheck rfl) ?_
    refine vl_valg rfl (os_fa (o := 0) (k := 0) (by kernel_rfl) rfl) ?_
    refine vl_valg rfl (os_load Try.isAgg22 rfl (hbk.cell (i := 0) rfl)) ?_
    refine vl_valg rfl (os_len Try.underlying22 rfl) ?_
    refine vl_valg rfl (os_gtr rfl rfl) ?_
    refine vl_val (os_pick_t rfl rfl) ?_
    refine vl_nil ?_
    refine v_cond_no rfl (by omega) ?_
    refine v_skip ?_
    refine v_seq ?_
    refine v_seq ?_
    refine v_region ?_
    refine vl_val (os_move rfl) ?_
    refine vl_val (os_nilCheck rfl) ?_
    refine vl_val (os_fa (o := 1) (k := 0) (by kernel_rfl) rfl) ?_
    refine vl_val (os_load Try.isAgg29 rfl (hbk.cell (i := 1) rfl)) ?_
    refine vl_val (os_neq rfl rfl) ?_
    refine vl_nil ?_
    refine v_cond_no rfl (by simp) ?_
    have s0 := own_alloc w [] 5 (Nat.le_refl w.heap.size) (by simp [maxLen])
    have s0b : Below w.heap.size w (w.alloc (.cells #[] 5)) := (Below.refl _ w).alloc (Nat.le_refl _) _
    refine v_skip ?_
    refine v_seq ?_
    refine v_region ?_
    refine vl_val (os_lit Try.underlying22 Try.sizeOf5 Try.zeroValue5 rfl rfl rfl rfl (by decide)) ?_
    refine vl_val (os_move rfl) ?_
    refine vl_val (os_nilCheck rfl) ?_
    refine vl_val (os_fa (o := 0) (k := 0) (by kernel_rfl) rfl) ?_
    refine vl_val (os_load Try.isAgg22 rfl ((hbk.alloc _).cell (i := 0) rfl)) ?_
    refine vl_val (os_move rfl) ?_
    refine vl_val (os_slice_h Try.underlying22 Try.sizeOf5 rfl rfl (h := k) (by omega) (by omega)) ?_
    refine vl_some (ot_append Try.underlying22 ti_u8 rfl rfl rfl s0 ((hR.keep s0b).take k).toC (by simp; omega) (ints_one8 _) (by simp; omega) (by simp [maxLen]; omega) (by simp)) ?_
    rintro v1 w1 ⟨so, sg⟩
    have so : OwnK w1 w.heap.size 5 .u8 v1 (bs.take k) := by simpa [OwnK] using so
    have hb := s0.below s0b sg (Nat.le_refl _) (by simp)
    have hw4 := hw.keep hb
    have hlt := hbk.lt
    refine vl_val (os_assign rfl) ?_
    refine vl_nil ?_
    refine v_seq ?_
    refine v_region ?_
    refine vl_val (os_move rfl) ?_
    refine vl_val (os_move rfl) ?_
    refine vl_val (os_nilCheck rfl) ?_
    refine vl_val (os_fa (o := 0) (k := 0) (by kernel_rfl) rfl) ?_
    refine vl_val (os_load Try.isAgg22 rfl (hw4.bk.cell (i := 0) rfl)) ?_
    refine vl_val (os_move rfl) ?_
    refine vl_val (os_slice_l Try.underlying22 Try.sizeOf5 rfl rfl rfl (by omega)) ?_
    refine vl_val (os_nilCheck rfl) ?_
    refine vl_val (os_fa (o := 0) (k := 0) (by kernel_rfl) rfl) ?_
    refine vl_unit (ou_store Try.sizeOf22 rfl rfl rfl (hw4.bk.cell (i := 0) rfl) (hw4.bk.free _)) ?_
    have hob : (Value.slice (if c = k then A else A.map (·.add (k * 1))) (bs.length - k) (c - k)).ownBlock = (Value.slice A bs.length c).ownBlock := by
      split
      · cases A <;> rfl
      · cases A with
        | none => rfl
        | some a => simp [Value.ownBlock, add_block]
    have hk4 : Kb [g] w1 (w1.setCell ⟨g, 0 + 0, none⟩ (Value.slice (if c = k then A else A.map (·.add (k * 1))) (bs.length - k) (c - k))) := Kb.set (by simp) _ _
    have hrow := hw.row
    have hR5 := (hR.keep hb).sliced (c := c) (i := k) hc
    refine vl_nil ?_
    refine v_seq ?_
    refine v_region ?_
    refine vl_val (os_move rfl) ?_
    refine vl_val (os_assign rfl) ?_
    refine vl_val (os_assign rfl) ?_
    refine vl_nil ?_
    refine v_ret ?_
    exact post_ret2 rfl rfl rfl (⟨_, _, by rw [ho], by rw [ho, if_pos rfl]; exact Own.setOther so (fun g' e e2 => by have := World.ownsRow.lt so g' e; omega) _ _, by rw [ho, if_pos rfl, hte]; exact ⟨Bk.set hw4.bk 0 _, ⟨(if c = k then A else A.map (·.add (k * 1))), c - k, by rw [List.length_drop], by rw [List.length_drop]; omega, by omega, hR5.kb hk4 (fun b o e hb => by have h1 := (hrow b (by rw [← hob, e]; rfl)).2.2; simp at hb; omega)⟩, hw4.low, fun b hbb => by rw [hob] at hbb; have h1 := hrow b hbb; have h2 := hb.size; exact ⟨h1.1, by simp [World.setCell]; omega, h1.2.2⟩⟩, (Kb.of_below hb).trans hk4 (fun k hk => .inl hk), hob⟩)
theorem rf_Left (g : Nat) (v : Value) (bs : List Int) (e : Int) (B : Nat) (w : World) (hw : RfS w B g v bs e) :
    Gives Try.prog 50 #[.pointer (some ⟨g, 0, none⟩)] w fun u w' => u = .int .i64 (if e = 0 then bs.length else 0) ∧ w' = w := by
  obtain ⟨A, c, rfl, hc, hm, hR⟩ := hw.form
  have hbk := hw.bk
  refine gives_enter Try.call50 Try.func50 rfl rfl rfl (by kernel_rfl) ?_
  refine v_seq ?_
  refine v_region ?_
  refine vl_val (os_assign rfl) ?_
  refine vl_nil ?_
  refine v_seq ?_
  refine v_seq ?_
  refine v_region ?_
  refine vl_val (os_move rfl) ?_
  refine vl_val (os_nilCheck rfl) ?_
  refine vl_val (os_fa (o := 1) (k := 0) (by kernel_rfl) rfl) ?_
  refine vl_val (os_load Try.isAgg29 rfl (hbk.cell (i := 1) rfl)) ?_
  refine vl_val (os_neq rfl rfl) ?_
  refine vl_nil ?_
  refine v_cond_d rfl (fun h => ?_) (fun h => ?_)
  · refine v_seq ?_
    refine v_region ?_
    refine vl_val (os_assign rfl) ?_
    refine vl_nil ?_
    refine v_ret ?_
    exact post_ret rfl rfl (⟨by rw [if_neg (by simpa using h)], rfl⟩)
  · refine v_skip ?_
    refine v_seq ?_
    refine v_region ?_
    refine vl_val (os_move rfl) ?_
    refine vl_val (os_nilCheck rfl) ?_
    refine vl_val (os_fa (o := 0) (k := 0) (by kernel_rfl) rfl) ?_
    refine vl_val (os_load Try.isAgg22 rfl (hbk.cell (i := 0) rfl)) ?_
    refine vl_val (os_len Try.underlying22 rfl) ?_
    refine vl_val (os_assign rfl) ?_
    refine vl_nil ?_
    refine v_ret ?_
    exact post_ret rfl rfl (⟨by rw [if_pos (by simpa using h)], rfl⟩)
theorem rf_End (g : Nat) (v : Value) (bs : List Int) (e : Int) (B : Nat) (w : World) (hw : RfS w B g v bs e) :
    Gives Try.prog 52 #[.pointer (some ⟨g, 0, none⟩)] w fun u w' => u = .int .i64 (if 0 < (if e = 0 then (bs.length : Int) else 0) then 4 else e) ∧ w' = w := by
  obtain ⟨A, c, rfl, hc, hm, hR⟩ := hw.form
  have hbk := hw.bk
  refine gives_enter Try.call52 Try.func52 rfl rfl rfl (by kernel_rfl) ?_
  rcases Decidable.em (e = 0) with he | he
  · refine v_seq ?_
    refine v_region ?_
    refine vl_val (os_assign rfl) ?_
    refine vl_nil ?_
    refine v_seq ?_
    refine v_seq ?_
    refine v_region ?_
    refine vl_val (os_move rfl) ?_
    refine vl_val (os_nilCheck rfl) ?_
    refine vl_val (os_fa (o := 1) (k := 0) (by kernel_rfl) rfl) ?_
    refine vl_val (os_load Try.isAgg29 rfl (hbk.cell (i := 1) rfl)) ?_
    refine vl_val (os_t (os_eql rfl rfl) (he)) ?_
    refine vl_val (os_move rfl) ?_
    refine vl_valg rfl (os_move rfl) ?_
    refine vl_valg rfl (os_nilCheck rfl) ?_
    refine vl_valg rfl (os_fa (o := 0) (k := 0) (by kernel_rfl) rfl) ?_
    refine vl_valg rfl (os_load Try.isAgg22 rfl (hbk.cell (i := 0) rfl)) ?_
    refine vl_valg rfl (os_len Try.underlying22 rfl) ?_
    refine vl_valg rfl (os_gtr rfl rfl) ?_
    refine vl_val (os_pick_t rfl rfl) ?_
    refine vl_nil ?_
    refine v_cond_d rfl (fun h => ?_) (fun h => ?_)
    · refine v_seq ?_
      refine v_region ?_
      refine vl_val (os_assign rfl) ?_
      refine vl_nil ?_
      refine v_ret ?_
      exact post_ret rfl rfl (⟨by rw [if_pos (by rw [if_pos he]; omega)], rfl⟩)
    · refine v_skip ?_
      refine v_seq ?_
      refine v_region ?_
      refine vl_val (os_move rfl) ?_
      refine vl_val (os_nilCheck rfl) ?_
      refine vl_val (os_fa (o := 1) (k := 0) (by kernel_rfl) rfl) ?_
      refine vl_val (os_load Try.isAgg29 rfl (hbk.cell (i := 1) rfl)) ?_
      refine vl_val (os_assign rfl) ?_
      refine vl_nil ?_
      refine v_ret ?_
      exact post_ret rfl rfl (⟨by rw [if_neg (by rw [if_pos he]; omega)], rfl⟩)
  · refine v_seq ?_
    refine v_region ?_
    refine vl_val (os_assign rfl) ?_
    refine vl_nil ?_
    refine v_seq ?_
    refine v_seq ?_
    refine v_region ?_
    refine vl_val (os_move rfl) ?_
    refine vl_val (os_nilCheck rfl) ?_
    refine vl_val (os_fa (o := 1) (k := 0) (by kernel_rfl) rfl) ?_
    refine vl_val (os_load Try.isAgg29 rfl (hbk.cell (i := 1) rfl)) ?_
    refine vl_val (os_f (os_eql rfl rfl) (he)) ?_
    refine vl_val (os_move rfl) ?_
    refine vl_skip rfl rfl ?_
    refine vl_skip rfl rfl ?_
    refine vl_skip rfl rfl ?_
    refine vl_skip rfl rfl ?_
    refine vl_skip rfl rfl ?_
    refine vl_skip rfl rfl ?_
    refine vl_val (os_pick_f rfl rfl) ?_
    refine vl_nil ?_
    refine v_cond_f rfl ?_
    refine v_skip ?_
    refine v_seq ?_
    refine v_region ?_
    refine vl_val (os_move rfl) ?_
    refine vl_val (os_nilCheck rfl) ?_
    refine vl_val (os_fa (o := 1) (k := 0) (by kernel_rfl) rfl) ?_
    refine vl_val (os_load Try.isAgg29 rfl (hbk.cell (i := 1) rfl)) ?_
    refine vl_val (os_assign rfl) ?_
    refine vl_nil ?_
    refine v_ret ?_
    exact post_ret rfl rfl (⟨by rw [if_neg (by rw [if_neg he]; omega)], rfl⟩)

theorem rf_RTake (g : Nat) (v : Value) (bs : List Int) (e n : Int) (B : Nat) (w : World) (hw : RfS w B g v bs e) (hB : B ≤ w.heap.size) (hl : bs.length ≤ 140737488351232) :
    Gives Try.prog 47 #[.pointer (some ⟨g, 0, none⟩), .int .i64 n] w fun u w' => ∃ v', OwnK w' w.heap.size 5 .u8 u (if takeOk e n bs then bs.take n.toNat else []) ∧ RfS w' B g v' (if takeOk e n bs then bs.drop n.toNat else bs) (takeErr e n bs) ∧ Kb [g] w w' ∧ v'.ownBlock = v.ownBlock := by
  have hbk := hw.bk
  refine gives_enter Try.call47 Try.func47 rfl rfl rfl (by kernel_rfl) ?_
  rcases (by omega : e ≠ 0 ∨ (e = 0 ∧ n < 0) ∨ (e = 0 ∧ 0 ≤ n)) with he | ⟨rfl, hn⟩ | ⟨rfl, hn⟩
  · refine v_seq ?_
    refine v_region ?_
    refine vl_val (os_assign rfl) ?_
    refine vl_nil ?_
    refine v_seq ?_
    refine v_seq ?_
    refine v_region ?_
    refine vl_val (os_move rfl) ?_
    refine vl_val (os_nilCheck rfl) ?_
    refine vl_val (os_fa (o := 1) (k := 0) (by kernel_rfl) rfl) ?_
    refine vl_val (os_load Try.isAgg29 rfl (hbk.cell (i := 1) rfl)) ?_
    refine vl_val (os_f (os_eql rfl rfl) (he)) ?_
    refine vl_val (os_move rfl) ?_
    refine vl_skip rfl rfl ?_
    refine vl_skip rfl rfl ?_
    refine vl_val (os_pick_f rfl rfl) ?_
    refine vl_nil ?_
    refine v_cond_f rfl ?_
    refine v_skip ?_
    refine v_seq ?_
    refine v_seq ?_
    refine v_region ?_
    refine vl_val (os_move rfl) ?_
    refine vl_val (os_nilCheck rfl) ?_
    refine vl_val (os_fa (o := 1) (k := 0) (by kernel_rfl) rfl) ?_
    refine vl_val (os_load Try.isAgg29 rfl (hbk.cell (i := 1) rfl)) ?_
    refine vl_val (os_neq rfl rfl) ?_
    refine vl_nil ?_
    refine v_cond_yes rfl (he) ?_
    have ho : takeOk e n bs = false := decide_eq_false (fun h => he h.1)
    refine v_seq ?_
    refine v_region ?_
    refine vl_val (os_assign rfl) ?_
    refine vl_nil ?_
    refine v_ret ?_
    exact post_ret rfl rfl (⟨v, by rw [ho]; exact Own.nil _ _ _, by rw [ho, takeErr, if_neg he]; exact hw, Kb.refl _ _, rfl⟩)
  · refine v_seq ?_
    refine v_region ?_
    refine vl_val (os_assign rfl) ?_
    refine vl_nil ?_
    refine v_seq ?_
    refine v_seq ?_
    refine v_region ?_
    refine vl_val (os_move rfl) ?_
    refine vl_val (os_nilCheck rfl) ?_
    refine vl_val (os_fa (o := 1) (k := 0) (by kernel_rfl) rfl) ?_
    refine vl_val (os_load Try.isAgg29 rfl (hbk.cell (i := 1) rfl)) ?_
    refine vl_val (os_t (os_eql rfl rfl) (rfl)) ?_
    refine vl_val (os_move rfl) ?_
    refine vl_valg rfl (os_move rfl) ?_
    refine vl_valg rfl (os_lss rfl rfl) ?_
    refine vl_val (os_pick_t rfl rfl) ?_
    refine vl_nil ?_
    refine v_cond_yes rfl (by omega) ?_
    refine v_region ?_
    refine vl_val (os_move rfl) ?_
    refine vl_val (os_nilCheck rfl) ?_
    refine vl_val (os_fa (o := 1) (k := 0) (by kernel_rfl) rfl) ?_
    refine vl_unit (ou_store Try.sizeOf29 rfl rfl rfl (hbk.cell (i := 1) rfl) (hbk.free _)) ?_
    refine vl_nil ?_
    refine v_seq ?_
    refine v_seq ?_
    refine v_region ?_
    refine vl_val (os_move rfl) ?_
    refine vl_val (os_nilCheck rfl) ?_
    refine vl_val (os_fa (o := 1) (k := 0) (by kernel_rfl) rfl) ?_
    refine vl_val (os_load Try.isAgg29 rfl ((Bk.set hbk 1 _).cell (i := 1) rfl)) ?_
    refine vl_val (os_neq rfl rfl) ?_
    refine vl_nil ?_
    refine v_cond_yes rfl (by omega) ?_
    have ho : takeOk 0 n bs = false := decide_eq_false (fun h => by omega)
    refine v_seq ?_
    refine v_region ?_
    refine vl_val (os_assign rfl) ?_
    refine vl_nil ?_
    refine v_ret ?_
    exact post_ret rfl rfl (⟨v, by rw [ho]; exact Own.nil _ _ _, by rw [ho, takeErr, if_pos rfl, if_pos hn]; exact hw.err 2, Kb.set (by simp) _ _, rfl⟩)
  · obtain ⟨k, rfl⟩ : ∃ k : Nat, n = k := ⟨n.toNat, by omega⟩
    refine v_seq ?_
    refine v_region ?_
    refine vl_val (os_assign rfl) ?_
    refine vl_nil ?_
    refine v_seq ?_
    refine v_seq ?_
    refine v_region ?_
    refine vl_val (os_move rfl) ?_
    refine vl_val (os_nilCheck rfl) ?_
    refine vl_val (os_fa (o := 1) (k := 0) (by kernel_rfl) rfl) ?_
    refine vl_val (os_load Try.isAgg29 rfl (hbk.cell (i := 1) rfl)) ?_
    refine vl_val (os_t (os_eql rfl rfl) (rfl)) ?_
    refine vl_val (os_move rfl) ?_
    refine vl_valg rfl (os_move rfl) ?_
    refine vl_valg rfl (os_lss rfl rfl) ?_
    refine vl_val (os_pick_t rfl rfl) ?_
    refine vl_nil ?_
    refine v_cond_no rfl (by omega) ?_
    refine v_skip ?_
    refine v_seq ?_
    refine v_seq ?_
    refine v_region ?_
    refine vl_val (os_move rfl) ?_
    refine vl_val (os_nilCheck rfl) ?_
    refine vl_val (os_fa (o := 1) (k := 0) (by kernel_rfl) rfl) ?_
    refine vl_val (os_load Try.isAgg29 rfl (hbk.cell (i := 1) rfl)) ?_
    refine vl_val (os_neq rfl rfl) ?_
    refine vl_nil ?_
    refine v_cond_no rfl (by simp) ?_
    refine v_skip ?_
    refine v_seq ?_
    refine v_region ?_
    refine vl_val (os_move rfl) ?_
    refine vl_val (os_move rfl) ?_
    refine vl_call (rf_take g v bs 0 k B w hw hB hl) rfl ?_
    rintro u1 w1 ⟨s1, v1, rfl, o1, h1, k1, e1⟩
    refine vl_val (os_move rfl) ?_
    refine vl_val (os_extract rfl rfl) ?_
    refine vl_val (os_extract rfl rfl) ?_
    refine vl_val (os_assign rfl) ?_
    refine vl_val (os_assign rfl) ?_
    refine vl_nil ?_
    refine v_seq ?_
    refine v_region ?_
    refine vl_val (os_move rfl) ?_
    refine vl_val (os_assign rfl) ?_
    refine vl_nil ?_
    refine v_ret ?_
    exact post_ret rfl rfl (⟨v1, by rw [Int.toNat_natCast]; exact o1, by rw [Int.toNat_natCast]; exact h1, k1, e1⟩)
theorem bound0 (size : Int) : boundV size = 0 ↔ (size < 1 ∨ 4 < size) := by
  unfold boundV
  split
  · rename_i h; simp [h]
  · rename_i h
    have : (0 : Int) < 256 ^ size.toNat := Int.pow_pos (by omega)
    constructor
    · intro h2; omega
    · intro h2; exact absurd h2 h
set_option maxHeartbeats 1000000 in
theorem rf_RNumber (g : Nat) (v : Value) (bs : List Int) (e size : Int) (B : Nat) (w : World) (hw : RfS w B g v bs e) (hB : B ≤ w.heap.size) (hl : bs.length ≤ 140737488351232) (hy : AllY bs) :
    Gives Try.prog 45 #[.pointer (some ⟨g, 0, none⟩), .int .i64 size] w fun u w' => ∃ v', u = .int .i64 (if rnOk e size bs then numOf (bs.take size.toNat) else 0) ∧ RfS w' B g v' (if rnOk e size bs then bs.drop size.toNat else bs) (rnErr e size bs) ∧ Kb [g] w w' ∧ v'.ownBlock = v.ownBlock := by
  have hbk := hw.bk
  refine gives_enter Try.call45 Try.func45 rfl rfl rfl (by kernel_rfl) ?_
  rcases (by omega : e ≠ 0 ∨ (e = 0 ∧ (size < 1 ∨ 4 < size)) ∨ (e = 0 ∧ 1 ≤ size ∧ size ≤ 4)) with he | ⟨rfl, hn⟩ | ⟨rfl, hn, hn2⟩
  · refine v_seq ?_
    refine v_region ?_
    refine vl_val (os_assign rfl) ?_
    refine vl_nil ?_
    refine v_seq ?_
    refine v_seq ?_
    refine v_region ?_
    refine vl_val (os_move rfl) ?_
    refine vl_val (os_nilCheck rfl) ?_
    refine vl_val (os_fa (o := 1) (k := 0) (by kernel_rfl) rfl) ?_
    refine vl_val (os_load Try.isAgg29 rfl (hbk.cell (i := 1) rfl)) ?_
    refine vl_val (os_f (os_eql rfl rfl) (he)) ?_
    refine vl_val (os_move rfl) ?_
    refine vl_skip rfl rfl ?_
    refine vl_skip rfl rfl ?_
    refine vl_skip rfl rfl ?_
    refine vl_val (os_pick_f rfl rfl) ?_
    refine vl_nil ?_
    refine v_cond_f rfl ?_
    refine v_skip ?_
    refine v_seq ?_
    refine v_seq ?_
    refine v_region ?_
    refine vl_val (os_move rfl) ?_
    refine vl_val (os_nilCheck rfl) ?_
    refine vl_val (os_fa (o := 1) (k := 0) (by kernel_rfl) rfl) ?_
    refine vl_val (os_load Try.isAgg29 rfl (hbk.cell (i := 1) rfl)) ?_
    refine vl_val (os_neq rfl rfl) ?_
    refine vl_nil ?_
    refine v_cond_yes rfl (he) ?_
    have ho : rnOk e size bs = false := decide_eq_false (fun h => he h.1)
    refine v_seq ?_
    refine v_region ?_
    refine vl_val (os_assign rfl) ?_
    refine vl_nil ?_
    refine v_ret ?_
    exact post_ret rfl rfl (⟨v, by rw [ho]; rfl, by rw [ho, rnErr, if_neg he]; exact hw, Kb.refl _ _, rfl⟩)
  · refine v_seq ?_
    refine v_region ?_
    refine vl_val (os_assign rfl) ?_
    refine vl_nil ?_
    refine v_seq ?_
    refine v_seq ?_
    refine v_region ?_
    refine vl_val (os_move rfl) ?_
    refine vl_val (os_nilCheck rfl) ?_
    refine vl_val (os_fa (o := 1) (k := 0) (by kernel_rfl) rfl) ?_
    refine vl_val (os_load Try.isAgg29 rfl (hbk.cell (i := 1) rfl)) ?_
    refine vl_val (os_t (os_eql rfl rfl) (rfl)) ?_
    refine vl_val (os_move rfl) ?_
    refine vl_valg rfl (os_move rfl) ?_
    refine vl_callg rfl (rf_bound size w) rfl ?_
    rintro u1 w ⟨rfl, rfl⟩
    refine vl_valg rfl (os_eql rfl rfl) ?_
    refine vl_val (os_pick_t rfl rfl) ?_
    refine vl_nil ?_
    refine v_cond_yes rfl ((bound0 size).2 hn) ?_
    refine v_region ?_
    refine vl_val (os_move rfl) ?_
    refine vl_val (os_nilCheck rfl) ?_
    refine vl_val (os_fa (o := 1) (k := 0) (by kernel_rfl) rfl) ?_
    refine vl_unit (ou_store Try.sizeOf29 rfl rfl rfl (hbk.cell (i := 1) rfl) (hbk.free _)) ?_
    refine vl_nil ?_
    refine v_seq ?_
    refine v_seq ?_
    refine v_region ?_
    refine vl_val (os_move rfl) ?_
    refine vl_val (os_nilCheck rfl) ?_
    refine vl_val (os_fa (o := 1) (k := 0) (by kernel_rfl) rfl) ?_
    refine vl_val (os_load Try.isAgg29 rfl ((Bk.set hbk 1 _).cell (i := 1) rfl)) ?_
    refine vl_val (os_neq rfl rfl) ?_
    refine vl_nil ?_
    refine v_cond_yes rfl (by omega) ?_
    have ho : rnOk 0 size bs = false := decide_eq_false (fun h => by omega)
    refine v_seq ?_
    refine v_region ?_
    refine vl_val (os_assign rfl) ?_
    refine vl_nil ?_
    refine v_ret ?_
    exact post_ret rfl rfl (⟨v, by rw [ho]; rfl, by rw [ho, rnErr, if_pos rfl, if_neg (show ¬ (1 ≤ size ∧ size ≤ 4) by omega)]; exact hw.err 2, Kb.set (by simp) _ _, rfl⟩)
  · obtain ⟨s, rfl⟩ : ∃ s : Nat, size = s := ⟨size.toNat, by omega⟩
    refine v_seq ?_
    refine v_region ?_
    refine vl_val (os_assign rfl) ?_
    refine vl_nil ?_
    refine v_seq ?_
    refine v_seq ?_
    refine v_region ?_
    refine vl_val (os_move rfl) ?_
    refine vl_val (os_nilCheck rfl) ?_
    refine vl_val (os_fa (o := 1) (k := 0) (by kernel_rfl) rfl) ?_
    refine vl_val (os_load Try.isAgg29 rfl (hbk.cell (i := 1) rfl)) ?_
    refine vl_val (os_t (os_eql rfl rfl) (rfl)) ?_
    refine vl_val (os_move rfl) ?_
    refine vl_valg rfl (os_move rfl) ?_
    refine vl_callg rfl (rf_bound s w) rfl ?_
    rintro u1 w ⟨rfl, rfl⟩
    refine vl_valg rfl (os_eql rfl rfl) ?_
    refine vl_val (os_pick_t rfl rfl) ?_
    refine vl_nil ?_
    refine v_cond_no rfl (fun h => by have := (bound0 (s : Int)).1 h; omega) ?_
    refine v_skip ?_
    refine v_seq ?_
    refine v_seq ?_
    refine v_region ?_
    refine vl_val (os_move rfl) ?_
    refine vl_val (os_nilCheck rfl) ?_
    refine vl_val (os_fa (o := 1) (k := 0) (by kernel_rfl) rfl) ?_
    refine vl_val (os_load Try.isAgg29 rfl (hbk.cell (i := 1) rfl)) ?_
    refine vl_val (os_neq rfl rfl) ?_
    refine vl_nil ?_
    refine v_cond_no rfl (by simp) ?_
    refine v_skip ?_
    refine v_seq ?_
    refine v_region ?_
    refine vl_val (os_move rfl) ?_
    refine vl_val (os_move rfl) ?_
    refine vl_call (rf_take g v bs 0 s B w hw hB hl) rfl ?_
    rintro u1 w3 ⟨s1, v1, rfl, ho3, hr3, hk3, he3⟩
    refine vl_val (os_move rfl) ?_
    refine vl_val (os_extract rfl rfl) ?_
    refine vl_val (os_extract rfl rfl) ?_
    refine vl_val (os_assign rfl) ?_
    refine vl_val (os_assign rfl) ?_
    refine vl_nil ?_
    rcases Nat.lt_or_ge bs.length s with hlt | hge
    · have ht : takeOk 0 (s : Int) bs = false := decide_eq_false (by omega)
      have hr : rnOk 0 (s : Int) bs = false := decide_eq_false (by omega)
      have hte : takeErr 0 (s : Int) bs = 4 := by unfold takeErr; rw [if_pos rfl, if_neg (show ¬ (s : Int) < 0 by omega), if_neg (show ¬ (s : Int) ≤ (bs.length : Int) by omega)]
      have hre : rnErr 0 (s : Int) bs = 4 := by unfold rnErr; rw [if_pos rfl, if_pos (show 1 ≤ (s : Int) ∧ (s : Int) ≤ 4 by omega), if_neg (show ¬ (s : Int) ≤ (bs.length : Int) by omega)]
      rw [ht] at ho3 hr3 ⊢
      refine v_seq ?_
      refine v_region ?_
      refine vl_val (os_assign rfl) ?_
      refine vl_nil ?_
      refine v_seq ?_
      refine v_seq ?_
      refine v_region ?_
      refine vl_val (os_assign rfl) ?_
      refine vl_nil ?_
      refine v_block ?_
      refine v_loop [(5, _), (6, _)] (fun (k : Nat) => [(7, .int .i64 0), (8, .int .i64 k)]) (fun k w' => k = 0 ∧ w' = w3) (fun k => 0) (0) ⟨rfl, rfl, trivial⟩ ⟨rfl, rfl, trivial⟩ (⟨rfl, rfl⟩) ?_
      rintro k w' ⟨rfl, rfl⟩
      refine v_seq ?_
      refine v_seq ?_
      refine v_region ?_
      refine vl_val (os_move rfl) ?_
      refine vl_val (os_move rfl) ?_
      refine vl_skip rfl rfl ?_
      refine vl_skip rfl rfl ?_
      refine vl_skip rfl rfl ?_
      refine vl_skip rfl rfl ?_
      refine vl_val (os_pick_f rfl rfl) ?_
      refine vl_nil ?_
      refine v_cond_f rfl ?_
      refine v_exit ?_
      refine v_seq ?_
      refine v_region ?_
      refine vl_val (os_move rfl) ?_
      refine vl_val (os_assign rfl) ?_
      refine vl_nil ?_
      refine v_ret ?_
      exact post_ret rfl rfl (⟨v1, by rw [hr]; rfl, by rw [hr, hre]; rw [hte] at hr3; exact hr3, hk3, he3⟩)
    · have hys := hy.take s
      have ht : takeOk 0 (s : Int) bs = true := decide_eq_true ⟨rfl, by omega, by omega⟩
      have hr : rnOk 0 (s : Int) bs = true := decide_eq_true ⟨rfl, by omega, by omega, by omega⟩
      have hte : takeErr 0 (s : Int) bs = 0 := by unfold takeErr; rw [if_pos rfl, if_neg (show ¬ (s : Int) < 0 by omega), if_pos (show (s : Int) ≤ (bs.length : Int) by omega)]
      have hre : rnErr 0 (s : Int) bs = 0 := by unfold rnErr; rw [if_pos rfl, if_pos (show 1 ≤ (s : Int) ∧ (s : Int) ≤ 4 by omega), if_pos (show (s : Int) ≤ (bs.length : Int) by omega)]
      rw [ht, hte] at hr3
      rw [ht] at ho3 ⊢
      rw [if_pos rfl] at ho3 hr3
      obtain ⟨A3, c3, rfl, -⟩ := OwnK.form ho3
      have hls : (bs.take s).length = s := by rw [List.length_take]; omega
      rw [hls]
      refine v_seq ?_
      refine v_region ?_
      refine vl_val (os_assign rfl) ?_
      refine vl_nil ?_
      refine v_seq ?_
      refine v_seq ?_
      refine v_region ?_
      refine vl_val (os_assign rfl) ?_
      refine vl_nil ?_
      refine v_block ?_
      refine v_loop [(5, _), (6, _)] (fun (k : Nat) => [(7, .int .i64 (numOf ((bs.take s).take k))), (8, .int .i64 k)]) (fun k w' => k ≤ s ∧ w' = w3) (fun k => s - k) (0) ⟨rfl, rfl, trivial⟩ ⟨rfl, rfl, trivial⟩ (⟨by omega, rfl⟩) ?_
      rintro k w' ⟨hk, rfl⟩
      refine v_seq ?_
      refine v_seq ?_
      refine v_region ?_
      refine vl_val (os_move rfl) ?_
      refine vl_val (os_move rfl) ?_
      refine vl_valg rfl (os_move rfl) ?_
      refine vl_valg rfl (os_move rfl) ?_
      refine vl_valg rfl (os_len Try.underlying22 rfl) ?_
      refine vl_valg rfl (os_lss rfl rfl) ?_
      refine vl_val (os_pick_t rfl rfl) ?_
      refine vl_nil ?_
      refine v_cond_d rfl (fun hlt => ?_) (fun hlt => ?_)
      · obtain ⟨g3, c3', e3, -⟩ := OwnK.row ho3 (by omega)
        cases e3
        have hb0 := hys.at_ k
        have hb1 := numOf_bound _ (hys.take k)
        have hnx : numOf ((bs.take s).take (k + 1)) = numOf ((bs.take s).take k) * 256 + (bs.take s).getD k 0 := by rw [List.take_succ_eq_append_getElem (by omega), numOf_snoc]; congr 1; rw [List.getD_eq_getElem?_getD, List.getElem?_eq_getElem (by omega)]; rfl
        have hb2 : ((bs.take s).take k).length ≤ 3 := by rw [List.length_take]; omega
        have hb3 : numOf ((bs.take s).take k) < 16777216 := Int.lt_of_lt_of_le hb1.2 (by rcases (by omega : ((bs.take s).take k).length = 0 ∨ ((bs.take s).take k).length = 1 ∨ ((bs.take s).take k).length = 2 ∨ ((bs.take s).take k).length = 3) with h | h | h | h <;> rw [h] <;> decide)
        refine v_skip ?_
        refine v_seq ?_
        refine v_block ?_
        refine v_region ?_
        refine vl_val (os_move rfl) ?_
        refine vl_val (os_muli rfl rfl (by omega)) ?_
        refine vl_val (os_move rfl) ?_
        refine vl_val (os_move rfl) ?_
        refine vl_val (os_ix Try.underlying22 Try.sizeOf5 rfl rfl (i := k) (by omega) (by omega)) ?_
        refine vl_val (os_load Try.isAgg5 rfl (by rw [Nat.zero_add]; exact OwnK.cell ho3 (by omega))) ?_
        refine vl_val (os_conv Try.underlying5 Try.underlying3 rfl (by rw [i64_fit (by omega)])) ?_
        refine vl_val (os_addi rfl rfl (by omega)) ?_
        refine vl_val (os_assign rfl) ?_
        refine vl_nil ?_
        refine v_region ?_
        refine vl_val (os_move rfl) ?_
        refine vl_val (os_addi rfl rfl (by omega)) ?_
        refine vl_val (os_assign rfl) ?_
        refine vl_nil ?_
        exact ⟨k + 1, ⟨rfl, rfl, trivial⟩, ⟨by rw [hnx, Int.mul_comm]; rfl, rfl, trivial⟩, ⟨by omega, rfl⟩, by dsimp only; omega⟩
      · obtain rfl : s = k := by omega
        refine v_exit ?_
        refine v_seq ?_
        refine v_region ?_
        refine vl_val (os_move rfl) ?_
        refine vl_val (os_assign rfl) ?_
        refine vl_nil ?_
        refine v_ret ?_
        exact post_ret rfl rfl (⟨v1, by rw [hr, if_pos rfl, Int.toNat_natCast, List.take_of_length_le (by rw [hls]; exact Nat.le_refl _)], by rw [hr, if_pos rfl, Int.toNat_natCast, hre]; exact hr3, hk3, he3⟩)
end Go.Proofs.Ytpcfifheegfjiaa
