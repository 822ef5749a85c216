/- Layer 8: clones; what a writer tells; put; a reader. -/
import Derived.Test.YtpcfifheegfjiaaPk
import Derived.Lib.SliceRun
namespace Go.Proofs.Ytpcfifheegfjiaa
open Go.RowKit
set_option linter.unusedVariables false

section
variable {P : Program} {n : Nat} {fr : Fr} {w w' : World} {ty : TypeId} {x y z : Operand} {v u : Value} {T T2 e : TypeId} {op : Op}
theorem os_eqlsnil {A : Option Addr} {l c : Nat} (hT : P.underlying T = some (.slice e)) (hx : Fr.ev fr x = some (.slice A l c)) (hy : Fr.ev fr y = some (.slice none 0 0)) : OS P n (.binOp .eql T x y T2) ty fr w (.bool A.isNone) w := os_of fun a ha => by
  simp [execOp, ha.ev hx, ha.ev hy, eqGuard, Lib.run_eql_slice_nil w T e A l c 0 0 hT]
end

set_option maxHeartbeats 1000000 in
theorem sl_Clone (A : Option Addr) (n c : Nat) (bs : List Int) (w : World) (ha : Rd w .u8 A bs) (hn : n = bs.length) (hl : n ≤ 140737488351232) : Gives Try.prog 84 #[.slice A n c] w fun v w' => OwnK w' w.heap.size 5 .u8 v bs ∧ Below w.heap.size w w' := by
  refine gives_enter Try.call84 Try.func84 rfl rfl rfl (by kernel_rfl) ?_
  rcases Option.eq_none_or_eq_some A with rfl | ⟨a, rfl⟩
  · refine v_seq ?_
    refine v_region ?_
    refine vl_val (os_assign rfl) ?_
    refine vl_nil ?_
    refine v_seq ?_
    refine v_seq ?_
    refine v_region ?_
    refine vl_val (os_move rfl) ?_
    refine vl_val (os_eqlsnil Try.underlying22 rfl rfl) ?_
    refine vl_nil ?_
    refine v_cond_t rfl ?_
    have e : bs = [] := by
      cases bs with
      | nil => rfl
      | cons x r => obtain ⟨b, o, h, _⟩ := ha (by simp); cases h
    refine v_seq ?_
    refine v_region ?_
    refine vl_val (os_assign rfl) ?_
    refine vl_nil ?_
    refine v_ret ?_
    exact post_ret rfl rfl (⟨by subst e; exact Own.nil _ _ _, Below.refl _ _⟩)
  · refine v_seq ?_
    refine v_region ?_
    refine vl_val (os_assign rfl) ?_
    refine vl_nil ?_
    refine v_seq ?_
    refine v_seq ?_
    refine v_region ?_
    refine vl_val (os_move rfl) ?_
    refine vl_val (os_eqlsnil Try.underlying22 rfl rfl) ?_
    refine vl_nil ?_
    refine v_cond_f rfl ?_
    have s0 := own_alloc w [] 5 (Nat.le_refl w.heap.size) (by simp [maxLen])
    have s0b : Below w.heap.size w (w.alloc (.cells #[] 5)) := (Below.refl _ w).alloc (Nat.le_refl _) _
    refine v_skip ?_
    refine v_seq ?_
    refine v_region ?_
    refine vl_val (os_lit Try.underlying22 Try.sizeOf5 Try.zeroValue5 rfl rfl rfl rfl (by decide)) ?_
    refine vl_val (os_move rfl) ?_
    refine vl_some (ot_append Try.underlying22 ti_u8 rfl rfl rfl s0 (ha.keep s0b).toC (by simp [hn]) (by intro u hu; obtain ⟨z, _, rfl⟩ := List.mem_map.1 hu; rfl) (by simp; omega) (by simp [maxLen]; omega) (by simp)) ?_
    rintro v6 w6 ⟨so, sg⟩
    refine vl_val (os_assign rfl) ?_
    refine vl_nil ?_
    refine v_ret ?_
    exact post_ret rfl rfl (⟨by simpa [OwnK] using so, s0.below s0b sg (Nat.le_refl _) (by simp)⟩)

theorem pk_Bytes (g : Nat) (v : Value) (bs : List Int) (e : Int) (B : Nat) (w : World) (hw : WrS w B 113 g v bs e) (hl : bs.length ≤ 140737488351232) :
    Gives Try.prog 61 #[.pointer (some ⟨g, 0, none⟩)] w fun u w' => ∃ s, u = .tuple #[s, .int .i64 e] ∧ OwnK w' w.heap.size 5 .u8 s (if e = 0 then bs else []) ∧ Below w.heap.size w w' := by
  obtain ⟨A, c, rfl, hc, hm, hR, _⟩ := hw.own.form
  have hbk := hw.bk
  refine gives_enter Try.call61 Try.func61 rfl rfl rfl (by kernel_rfl) ?_
  refine v_seq ?_
  refine v_region ?_
  refine vl_val (os_assign rfl) ?_
  refine vl_val (os_assign rfl) ?_
  refine vl_nil ?_
  refine v_seq ?_
  refine v_block ?_
  refine v_seq ?_
  refine v_region ?_
  refine vl_val (os_move rfl) ?_
  refine vl_val (os_is (os_eqlnil (by kernel_rfl) rfl rfl) (rfl)) ?_
  refine vl_val (os_move rfl) ?_
  refine vl_valg rfl (os_move rfl) ?_
  refine vl_valg rfl (os_nilCheck rfl) ?_
  refine vl_valg rfl (os_fa (o := 0) (k := 2) (by kernel_rfl) rfl) ?_
  refine vl_valg rfl (os_fa (o := 2) (k := 0) (by kernel_rfl) rfl) ?_
  refine vl_valg rfl (os_load Try.isAgg4 rfl (Bk.cell (i := 2) hbk rfl)) ?_
  refine vl_valg rfl (os_not rfl) ?_
  refine vl_val (os_pick_f rfl rfl) ?_
  refine vl_val (os_assign rfl) ?_
  refine vl_nil ?_
  refine v_cond_f rfl ?_
  refine v_seq ?_
  refine v_region ?_
  refine vl_val (os_move rfl) ?_
  refine vl_val (os_nilCheck rfl) ?_
  refine vl_val (os_fa (o := 0) (k := 2) (by kernel_rfl) rfl) ?_
  refine vl_val (os_fa (o := 1) (k := 0) (by kernel_rfl) rfl) ?_
  refine vl_val (os_load Try.isAgg29 rfl (Bk.cell (i := 1) hbk rfl)) ?_
  refine vl_val (os_neq rfl rfl) ?_
  refine vl_val (os_assign rfl) ?_
  refine vl_nil ?_
  refine v_cond_d rfl (fun h => ?_) (fun h => ?_)
  · refine v_seq ?_
    refine v_region_t LeD _ mixed (by kernel_rfl) lee_d (led_start _) ?_
    refine vt_val (fun w hw => os_move rfl) ?_
    refine vt_val (fun w hw => os_nilCheck rfl) ?_
    refine vt_val (fun w hw => os_fa (o := 0) (k := 2) (by kernel_rfl) rfl) ?_
    refine vt_val (fun w hw => os_fa (o := 1) (k := 0) (by kernel_rfl) rfl) ?_
    refine vt_val (fun w hw => os_load Try.isAgg29 rfl (led_cell hw (Bk.cell (i := 1) hbk rfl))) ?_
    refine vt_val (fun w hw => os_assign rfl) ?_
    refine vt_val (fun w hw => os_assign rfl) ?_
    refine vt_nil (fun w hw => ?_)
    obtain ⟨q, rfl⟩ := hw
    refine v_ret ?_
    exact post_ret2 rfl rfl rfl (⟨_, rfl, by rw [if_neg h]; exact Own.nil _ _ _, led_below ⟨q, rfl⟩⟩)
  · have h' : e = 0 := by simpa using h
    refine v_skip ?_
    refine v_seq ?_
    refine v_region ?_
    refine vl_val (os_move rfl) ?_
    refine vl_val (os_nilCheck rfl) ?_
    refine vl_val (os_fa (o := 0) (k := 2) (by kernel_rfl) rfl) ?_
    refine vl_val (os_fa (o := 0) (k := 0) (by kernel_rfl) rfl) ?_
    refine vl_val (os_load Try.isAgg22 rfl (Bk.cell (i := 0) hbk rfl)) ?_
    refine vl_call (sl_Clone A _ c bs w hR rfl hl) rfl ?_
    rintro v1 w1 ⟨ho, hb⟩
    subst h'
    refine vl_val (os_assign rfl) ?_
    refine vl_val (os_assign rfl) ?_
    refine vl_nil ?_
    refine v_ret ?_
    exact post_ret2 rfl rfl rfl (⟨_, rfl, ho, hb⟩)

/-- what a reader is: its three cells; its bytes lie anywhere in a row at or behind B that is not its own block -/
structure RrS (w : World) (B : Nat) (g : Nat) (v : Value) (bs : List Int) (e : Int) : Prop where
  bk : Bk w g [v, .int .i64 e, .bool true] 107
  form : ∃ A c, v = .slice A bs.length c ∧ bs.length ≤ c ∧ c ≤ maxLen ∧ Rd w .u8 A bs
  low : B ≤ g
  row : ∀ b, v.ownBlock = some b → B ≤ b ∧ b < w.heap.size ∧ b ≠ g
theorem RrS.keep {w w' B g v bs e} (h : RrS w B g v bs e) (hb : Below w.heap.size w w') : RrS w' B g v bs e :=
  ⟨h.bk.keep hb, let ⟨A, c, e1, h1, h2, r⟩ := h.form; ⟨A, c, e1, h1, h2, r.keep hb⟩, h.low, fun b hv => ⟨(h.row b hv).1, Nat.lt_of_lt_of_le (h.row b hv).2.1 hb.size, (h.row b hv).2.2⟩⟩
theorem pk_Over (A : Option Addr) (n c : Nat) (bs : List Int) (w : World) (ha : Rd w .u8 A bs) (hn : n = bs.length) (hl : n ≤ 140737488351232) :
    Gives Try.prog 40 #[.slice A n c] w fun u w' => ∃ g v, u = .pointer (some ⟨g, 0, none⟩) ∧ RrS w' w.heap.size g v bs 0 ∧ Below w.heap.size w w' := by
  refine gives_enter Try.call40 Try.func40 rfl rfl rfl (by kernel_rfl) ?_
  refine v_seq ?_
  refine v_region ?_
  refine vl_val (os_assign rfl) ?_
  refine vl_nil ?_
  refine v_seq ?_
  refine v_region ?_
  refine vl_val (os_move rfl) ?_
  refine vl_call (sl_Clone A n c bs w ha hn hl) rfl ?_
  rintro v1 w1 ⟨ho, hb⟩
  obtain ⟨A1, c1, rfl, hc1, hm1, hR1, hB1⟩ := ho.form
  refine vl_val (os_build (cs := [.slice A1 bs.length c1, .int .i64 0, .bool true]) rfl (by kernel_rfl)) ?_
  refine vl_val (os_build (cs := [.slice A1 bs.length c1, .int .i64 0, .bool true]) rfl (by kernel_rfl)) ?_
  refine vl_val (os_box rfl) ?_
  refine vl_val (os_assign rfl) ?_
  refine vl_nil ?_
  refine v_ret ?_
  exact post_ret rfl rfl (⟨_, _, rfl, ⟨bk_new w1 [.slice A1 bs.length c1, .int .i64 0, .bool true] _, ⟨A1, c1, rfl, hc1, hm1, hR1.keep ((Below.refl _ _).alloc (Nat.le_refl _) _)⟩, hb.size, fun b hv => by have := World.ownsRow.lt ho b hv; simp; omega⟩, hb.alloc hb.size _⟩)
theorem pk_Left (g : Nat) (v : Value) (bs : List Int) (e : Int) (B : Nat) (w : World) (hw : RrS w B g v bs e) :
    Gives Try.prog 49 #[.pointer (some ⟨g, 0, none⟩)] w fun u w' => u = .int .i64 (if e = 0 then bs.length else 0) ∧ w' = w := by
  obtain ⟨A, c, rfl, hc, hm, hR⟩ := hw.form
  have hbk := hw.bk
  refine gives_enter Try.call49 Try.func49 rfl rfl rfl (by kernel_rfl) ?_
  rcases Decidable.em (e = 0) with he | he
  · refine v_seq ?_
    refine v_region ?_
    refine vl_val (os_assign rfl) ?_
    refine vl_nil ?_
    refine v_seq ?_
    refine v_seq ?_
    refine v_region ?_
    refine vl_val (os_move rfl) ?_
    refine vl_val (os_is (os_eqlnil (by kernel_rfl) rfl rfl) (rfl)) ?_
    refine vl_val (os_move rfl) ?_
    refine vl_valg rfl (os_move rfl) ?_
    refine vl_valg rfl (os_nilCheck rfl) ?_
    refine vl_valg rfl (os_fa (o := 0) (k := 2) (by kernel_rfl) rfl) ?_
    refine vl_callg rfl ((pk_able g _ e _ w hbk).mono fun u w' hh => (⟨by rw [hh.1, decide_eq_true he], hh.2⟩ : u = .bool true ∧ w' = w)) rfl ?_
    rintro v1 w ⟨rfl, rfl⟩
    refine vl_valg rfl (os_not rfl) ?_
    refine vl_val (os_pick_f rfl rfl) ?_
    refine vl_nil ?_
    refine v_cond_f rfl ?_
    refine v_skip ?_
    refine v_seq ?_
    refine v_region ?_
    refine vl_val (os_move rfl) ?_
    refine vl_val (os_nilCheck rfl) ?_
    refine vl_val (os_fa (o := 0) (k := 2) (by kernel_rfl) rfl) ?_
    refine vl_val (os_fa (o := 0) (k := 0) (by kernel_rfl) rfl) ?_
    refine vl_val (os_load Try.isAgg22 rfl (Bk.cell (i := 0) hbk rfl)) ?_
    refine vl_val (os_len Try.underlying22 rfl) ?_
    refine vl_val (os_assign rfl) ?_
    refine vl_nil ?_
    refine v_ret ?_
    exact post_ret rfl rfl (⟨by rw [if_pos he], rfl⟩)
  · refine v_seq ?_
    refine v_region ?_
    refine vl_val (os_assign rfl) ?_
    refine vl_nil ?_
    refine v_seq ?_
    refine v_seq ?_
    refine v_region ?_
    refine vl_val (os_move rfl) ?_
    refine vl_val (os_is (os_eqlnil (by kernel_rfl) rfl rfl) (rfl)) ?_
    refine vl_val (os_move rfl) ?_
    refine vl_valg rfl (os_move rfl) ?_
    refine vl_valg rfl (os_nilCheck rfl) ?_
    refine vl_valg rfl (os_fa (o := 0) (k := 2) (by kernel_rfl) rfl) ?_
    refine vl_callg rfl ((pk_able g _ e _ w hbk).mono fun u w' hh => (⟨by rw [hh.1, decide_eq_false he], hh.2⟩ : u = .bool false ∧ w' = w)) rfl ?_
    rintro v1 w ⟨rfl, rfl⟩
    refine vl_valg rfl (os_not rfl) ?_
    refine vl_val (os_pick_f rfl rfl) ?_
    refine vl_nil ?_
    refine v_cond_t rfl ?_
    refine v_seq ?_
    refine v_region ?_
    refine vl_val (os_assign rfl) ?_
    refine vl_nil ?_
    refine v_ret ?_
    exact post_ret rfl rfl (⟨by rw [if_neg he], rfl⟩)

theorem pk_End (g : Nat) (v : Value) (bs : List Int) (e : Int) (B : Nat) (w : World) (hw : RrS w B g v bs e) :
    Gives Try.prog 51 #[.pointer (some ⟨g, 0, none⟩)] w fun u w' => u = .int .i64 (if 0 < (if e = 0 then (bs.length : Int) else 0) then 4 else e) ∧ w' = w := by
  have hbk := hw.bk
  refine gives_enter Try.call51 Try.func51 rfl rfl rfl (by kernel_rfl) ?_
  refine v_seq ?_
  refine v_region ?_
  refine vl_val (os_assign rfl) ?_
  refine vl_nil ?_
  refine v_seq ?_
  refine v_seq ?_
  refine v_region ?_
  refine vl_val (os_move rfl) ?_
  refine vl_val (os_is (os_eqlnil (by kernel_rfl) rfl rfl) (rfl)) ?_
  refine vl_val (os_move rfl) ?_
  refine vl_valg rfl (os_move rfl) ?_
  refine vl_valg rfl (os_nilCheck rfl) ?_
  refine vl_valg rfl (os_fa (o := 0) (k := 2) (by kernel_rfl) rfl) ?_
  refine vl_valg rfl (os_fa (o := 2) (k := 0) (by kernel_rfl) rfl) ?_
  refine vl_valg rfl (os_load Try.isAgg4 rfl (Bk.cell (i := 2) hbk rfl)) ?_
  refine vl_valg rfl (os_not rfl) ?_
  refine vl_val (os_pick_f rfl rfl) ?_
  refine vl_nil ?_
  refine v_cond_f rfl ?_
  refine v_skip ?_
  refine v_seq ?_
  refine v_seq ?_
  refine v_region ?_
  refine vl_val (os_move rfl) ?_
  refine vl_call (pk_Left g v bs e B w hw) rfl ?_
  rintro v1 w ⟨rfl, rfl⟩
  refine vl_val (os_gtr rfl rfl) ?_
  refine vl_nil ?_
  refine v_cond_d rfl (fun h => ?_) (fun h => ?_)
  · refine v_seq ?_
    refine v_region ?_
    refine vl_val (os_assign rfl) ?_
    refine vl_nil ?_
    refine v_ret ?_
    exact post_ret rfl rfl (⟨by rw [if_pos h], rfl⟩)
  · refine v_skip ?_
    refine v_seq ?_
    refine v_region ?_
    refine vl_val (os_move rfl) ?_
    refine vl_val (os_nilCheck rfl) ?_
    refine vl_val (os_fa (o := 0) (k := 2) (by kernel_rfl) rfl) ?_
    refine vl_val (os_fa (o := 1) (k := 0) (by kernel_rfl) rfl) ?_
    refine vl_val (os_load Try.isAgg29 rfl (Bk.cell (i := 1) hbk rfl)) ?_
    refine vl_val (os_assign rfl) ?_
    refine vl_nil ?_
    refine v_ret ?_
    exact post_ret rfl rfl (⟨by rw [if_neg h], rfl⟩)

theorem pk_Put (g : Nat) (v : Value) (bs : List Int) (e : Int) (B : Nat) (A : Option Addr) (n c : Nat) (xs : List Int) (w : World) (hw : WrS w B 113 g v bs e) (ha : Rd w .u8 A xs) (hn : n = xs.length) (hB : B ≤ w.heap.size) (hl : bs.length + n ≤ 140737488355328) :
    Gives Try.prog 59 #[.pointer (some ⟨g, 0, none⟩), .slice A n c] w fun u w' => ∃ v', WrS w' B 113 g v' (if e = 0 then bs ++ xs else bs) e ∧ Kb (WrS.blocks g v) w w' ∧ (v'.ownBlock = v.ownBlock ∨ ∃ h, v'.ownBlock = some h ∧ w.heap.size ≤ h) := by
  have hbk := hw.bk
  refine gives_enter Try.call59 Try.func59 rfl rfl rfl (by kernel_rfl) ?_
  rcases Decidable.em (e = 0) with he | he
  · refine v_seq ?_
    refine v_region ?_
    refine vl_val (os_move rfl) ?_
    refine vl_val (os_is (os_neqnil (by kernel_rfl) rfl rfl) (rfl)) ?_
    refine vl_val (os_move rfl) ?_
    refine vl_valg rfl (os_move rfl) ?_
    refine vl_valg rfl (os_nilCheck rfl) ?_
    refine vl_valg rfl (os_fa (o := 0) (k := 2) (by kernel_rfl) rfl) ?_
    refine vl_callg rfl ((pk_able g _ e _ w hbk).mono fun u w' hh => (⟨by rw [hh.1, decide_eq_true he], hh.2⟩ : u = .bool true ∧ w' = w)) rfl ?_
    rintro v1 w ⟨rfl, rfl⟩
    refine vl_val (os_pick_t rfl rfl) ?_
    refine vl_nil ?_
    refine v_cond_t rfl ?_
    refine v_region ?_
    refine vl_val (os_move rfl) ?_
    refine vl_val (os_move rfl) ?_
    refine vl_val (os_nilCheck rfl) ?_
    refine vl_val (os_fa (o := 0) (k := 2) (by kernel_rfl) rfl) ?_
    refine vl_val (os_fa (o := 0) (k := 0) (by kernel_rfl) rfl) ?_
    refine vl_val (os_load Try.isAgg22 rfl (Bk.cell (i := 0) hbk rfl)) ?_
    refine vl_val (os_move rfl) ?_
    refine vl_some (ot_append_at Try.underlying22 ti_u8 rfl rfl rfl hw.own ha.toC (by simp [hn]) (by intro u hu; obtain ⟨z, _, rfl⟩ := List.mem_map.1 hu; rfl) (by rw [List.length_map]; omega) (by rw [List.length_map]; simp only [maxLen]; omega) hB) ?_
    rintro v6 w6 ⟨ho6, hg6, ha6⟩
    obtain ⟨A6, c6, rfl, -⟩ := Own.form ho6
    have hbk6 := Bk.grown hbk hg6 (fun e => hw.ne e.symm)
    have hlt := hbk.lt
    have hne6 : (Value.slice A6 _ c6).ownBlock ≠ some g := fun e => by
      rcases ha6 with h6 | h6
      · rw [h6] at e; exact hw.ne e
      · rw [h6] at e; simp at e; omega
    refine vl_val (os_nilCheck rfl) ?_
    refine vl_val (os_fa (o := 0) (k := 2) (by kernel_rfl) rfl) ?_
    refine vl_val (os_fa (o := 0) (k := 0) (by kernel_rfl) rfl) ?_
    refine vl_unit (ou_store Try.sizeOf22 rfl rfl rfl (Bk.cell (i := 0) hbk6 rfl) (Bk.free hbk6 _)) ?_
    refine vl_nil ?_
    exact post_end0 rfl (⟨_, ⟨Bk.set hbk6 0 _, by rw [if_pos he]; unfold OwnK; rw [show List.map (Value.int .u8) (bs ++ xs) = List.map (Value.int .u8) bs ++ List.map (Value.int .u8) xs from List.map_append ..]; exact Own.setOther ho6 (fun g' e e2 => hne6 (by rw [e, e2])) _ _, hw.low, hne6⟩, (Kb.grown hg6 (S := WrS.blocks g v) (fun k hk => by rw [WrS.blocks, hk]; simp)).trans (Kb.set (by simp [WrS.blocks]) _ _) (fun k hk => .inl hk), by rcases ha6 with h6 | h6; (rw [h6]; exact .inl rfl); exact .inr ⟨_, h6, Nat.le_refl _⟩⟩)
  · refine v_seq ?_
    refine v_region ?_
    refine vl_val (os_move rfl) ?_
    refine vl_val (os_is (os_neqnil (by kernel_rfl) rfl rfl) (rfl)) ?_
    refine vl_val (os_move rfl) ?_
    refine vl_valg rfl (os_move rfl) ?_
    refine vl_valg rfl (os_nilCheck rfl) ?_
    refine vl_valg rfl (os_fa (o := 0) (k := 2) (by kernel_rfl) rfl) ?_
    refine vl_callg rfl ((pk_able g _ e _ w hbk).mono fun u w' hh => (⟨by rw [hh.1, decide_eq_false he], hh.2⟩ : u = .bool false ∧ w' = w)) rfl ?_
    rintro v1 w ⟨rfl, rfl⟩
    refine vl_val (os_pick_t rfl rfl) ?_
    refine vl_nil ?_
    refine v_cond_f rfl ?_
    refine v_skip ?_
    exact post_end0 rfl (⟨v, by rw [if_neg he]; exact hw, Kb.refl _ _, .inl rfl⟩)
end Go.Proofs.Ytpcfifheegfjiaa
