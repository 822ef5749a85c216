/- Texts joined: PkB Cp PkC. -/
import Derived.Test.YtpojijnjdlnokaaM8
/- Layer 8: clones; what a writer tells; put; a reader. -/
namespace Go.Proofs.Ytpojijnjdlnokaa
open Go.RowKit
set_option linter.unusedVariables false

theorem WrS.keep {w w' : World} {B g : Nat} {t : TypeId} {v : Value} {bs : List Int} {e : Int} (h : WrS w B t g v bs e) (hb : Below w.heap.size w w') : WrS w' B t g v bs e := ⟨h.bk.keep hb, Own.keepAll h.own hb, h.low, h.ne⟩
theorem pk_Bytes (g : Nat) (v : Value) (bs : List Int) (e : Int) (B : Nat) (w : World) (hw : WrS w B 216 g v bs e) (hl : bs.length ≤ 140737488351232) :
    Gives Try.prog 124 #[.pointer (some ⟨g, 0, none⟩)] w fun u w' => ∃ s, u = .tuple #[s, .int .i64 e] ∧ OwnK w' w.heap.size 5 .u8 s (if e = 0 then bs else []) ∧ Below w.heap.size w w' := by
  obtain ⟨A, c, rfl, hc, hm, hR, _⟩ := hw.own.form
  have hbk := hw.bk
  refine gives_enter Try.call124 Try.func124 rfl rfl rfl (by kernel_rfl) ?_
  refine v_seq ?_
  refine v_region ?_
  refine vl_val (os_assign rfl) ?_
  refine vl_val (os_assign rfl) ?_
  refine vl_nil ?_
  refine v_seq ?_
  refine v_block ?_
  refine v_seq ?_
  refine v_region ?_
  refine vl_val (os_move rfl) ?_
  refine vl_val (os_is (os_eqlnil (by kernel_rfl) rfl rfl) (rfl)) ?_
  refine vl_val (os_move rfl) ?_
  refine vl_valg rfl (os_move rfl) ?_
  refine vl_valg rfl (os_nilCheck rfl) ?_
  refine vl_valg rfl (os_fa (o := 0) (k := 2) (by kernel_rfl) rfl) ?_
  refine vl_valg rfl (os_fa (o := 2) (k := 0) (by kernel_rfl) rfl) ?_
  refine vl_valg rfl (os_load Try.isAgg4 rfl (Bk.cell (i := 2) hbk rfl)) ?_
  refine vl_valg rfl (os_not rfl) ?_
  refine vl_val (os_pick_f rfl rfl) ?_
  refine vl_val (os_assign rfl) ?_
  refine vl_nil ?_
  refine v_cond_f rfl ?_
  refine v_seq ?_
  refine v_region ?_
  refine vl_val (os_move rfl) ?_
  refine vl_val (os_nilCheck rfl) ?_
  refine vl_val (os_fa (o := 0) (k := 2) (by kernel_rfl) rfl) ?_
  refine vl_val (os_fa (o := 1) (k := 0) (by kernel_rfl) rfl) ?_
  refine vl_val (os_load Try.isAgg28 rfl (Bk.cell (i := 1) hbk rfl)) ?_
  refine vl_val (os_neq rfl rfl) ?_
  refine vl_val (os_assign rfl) ?_
  refine vl_nil ?_
  refine v_cond_d rfl (fun h => ?_) (fun h => ?_)
  · refine v_seq ?_
    refine v_region_t LeD _ mixed (by kernel_rfl) lee_d (led_start _) ?_
    refine vt_val (fun w hw => os_move rfl) ?_
    refine vt_val (fun w hw => os_nilCheck rfl) ?_
    refine vt_val (fun w hw => os_fa (o := 0) (k := 2) (by kernel_rfl) rfl) ?_
    refine vt_val (fun w hw => os_fa (o := 1) (k := 0) (by kernel_rfl) rfl) ?_
    refine vt_val (fun w hw => os_load Try.isAgg28 rfl (led_cell hw (Bk.cell (i := 1) hbk rfl))) ?_
    refine vt_val (fun w hw => os_assign rfl) ?_
    refine vt_val (fun w hw => os_assign rfl) ?_
    refine vt_nil (fun w hw => ?_)
    obtain ⟨q, rfl⟩ := hw
    refine v_ret ?_
    exact post_ret2 rfl rfl rfl (⟨_, rfl, by rw [if_neg h]; exact Own.nil _ _ _, led_below ⟨q, rfl⟩⟩)
  · have h' : e = 0 := by simpa using h
    refine v_skip ?_
    refine v_seq ?_
    refine v_region ?_
    refine vl_val (os_move rfl) ?_
    refine vl_val (os_nilCheck rfl) ?_
    refine vl_val (os_fa (o := 0) (k := 2) (by kernel_rfl) rfl) ?_
    refine vl_val (os_fa (o := 0) (k := 0) (by kernel_rfl) rfl) ?_
    refine vl_val (os_load Try.isAgg22 rfl (Bk.cell (i := 0) hbk rfl)) ?_
    refine vl_call (sl_Clone A _ c bs w hR rfl hl) rfl ?_
    rintro v1 w1 ⟨ho, hb⟩
    subst h'
    refine vl_val (os_assign rfl) ?_
    refine vl_val (os_assign rfl) ?_
    refine vl_nil ?_
    refine v_ret ?_
    exact post_ret2 rfl rfl rfl (⟨_, rfl, ho, hb⟩)

/-- what a reader is: its three cells; its bytes lie anywhere in a row at or behind B that is not its own block -/
structure RrS (w : World) (B : Nat) (g : Nat) (v : Value) (bs : List Int) (e : Int) : Prop where
  bk : Bk w g [v, .int .i64 e, .bool true] 221
  form : ∃ A c, v = .slice A bs.length c ∧ bs.length ≤ c ∧ c ≤ maxLen ∧ Rd w .u8 A bs
  low : B ≤ g
  row : ∀ b, v.ownBlock = some b → B ≤ b ∧ b < w.heap.size ∧ b ≠ g
theorem RrS.keep {w w' B g v bs e} (h : RrS w B g v bs e) (hb : Below w.heap.size w w') : RrS w' B g v bs e :=
  ⟨h.bk.keep hb, let ⟨A, c, e1, h1, h2, r⟩ := h.form; ⟨A, c, e1, h1, h2, r.keep hb⟩, h.low, fun b hv => ⟨(h.row b hv).1, Nat.lt_of_lt_of_le (h.row b hv).2.1 hb.size, (h.row b hv).2.2⟩⟩
theorem pk_Over (A : Option Addr) (n c : Nat) (bs : List Int) (w : World) (ha : Rd w .u8 A bs) (hn : n = bs.length) (hl : n ≤ 140737488351232) :
    Gives Try.prog 135 #[.slice A n c] w fun u w' => ∃ g v, u = .pointer (some ⟨g, 0, none⟩) ∧ RrS w' w.heap.size g v bs 0 ∧ Below w.heap.size w w' := by
  refine gives_enter Try.call135 Try.func135 rfl rfl rfl (by kernel_rfl) ?_
  refine v_seq ?_
  refine v_region ?_
  refine vl_val (os_assign rfl) ?_
  refine vl_nil ?_
  refine v_seq ?_
  refine v_region ?_
  refine vl_val (os_move rfl) ?_
  refine vl_call (sl_Clone A n c bs w ha hn hl) rfl ?_
  rintro v1 w1 ⟨ho, hb⟩
  obtain ⟨A1, c1, rfl, hc1, hm1, hR1, hB1⟩ := ho.form
  refine vl_val (os_build (cs := [.slice A1 bs.length c1, .int .i64 0, .bool true]) rfl (by kernel_rfl)) ?_
  refine vl_val (os_build (cs := [.slice A1 bs.length c1, .int .i64 0, .bool true]) rfl (by kernel_rfl)) ?_
  refine vl_val (os_box rfl) ?_
  refine vl_val (os_assign rfl) ?_
  refine vl_nil ?_
  refine v_ret ?_
  exact post_ret rfl rfl (⟨_, _, rfl, ⟨bk_new w1 [.slice A1 bs.length c1, .int .i64 0, .bool true] _, ⟨A1, c1, rfl, hc1, hm1, hR1.keep ((Below.refl _ _).alloc (Nat.le_refl _) _)⟩, hb.size, fun b hv => by have := World.ownsRow.lt ho b hv; simp; omega⟩, hb.alloc hb.size _⟩)
theorem pk_Left (g : Nat) (v : Value) (bs : List Int) (e : Int) (B : Nat) (w : World) (hw : RrS w B g v bs e) :
    Gives Try.prog 166 #[.pointer (some ⟨g, 0, none⟩)] w fun u w' => u = .int .i64 (if e = 0 then bs.length else 0) ∧ w' = w := by
  obtain ⟨A, c, rfl, hc, hm, hR⟩ := hw.form
  have hbk := hw.bk
  refine gives_enter Try.call166 Try.func166 rfl rfl rfl (by kernel_rfl) ?_
  rcases Decidable.em (e = 0) with he | he
  · refine v_seq ?_
    refine v_region ?_
    refine vl_val (os_assign rfl) ?_
    refine vl_nil ?_
    refine v_seq ?_
    refine v_seq ?_
    refine v_region ?_
    refine vl_val (os_move rfl) ?_
    refine vl_val (os_is (os_eqlnil (by kernel_rfl) rfl rfl) (rfl)) ?_
    refine vl_val (os_move rfl) ?_
    refine vl_valg rfl (os_move rfl) ?_
    refine vl_valg rfl (os_nilCheck rfl) ?_
    refine vl_valg rfl (os_fa (o := 0) (k := 2) (by kernel_rfl) rfl) ?_
    refine vl_callg rfl ((pk_able g _ e _ w hbk).mono fun u w' hh => (⟨by rw [hh.1, decide_eq_true he], hh.2⟩ : u = .bool true ∧ w' = w)) rfl ?_
    rintro v1 w ⟨rfl, rfl⟩
    refine vl_valg rfl (os_not rfl) ?_
    refine vl_val (os_pick_f rfl rfl) ?_
    refine vl_nil ?_
    refine v_cond_f rfl ?_
    refine v_skip ?_
    refine v_seq ?_
    refine v_region ?_
    refine vl_val (os_move rfl) ?_
    refine vl_val (os_nilCheck rfl) ?_
    refine vl_val (os_fa (o := 0) (k := 2) (by kernel_rfl) rfl) ?_
    refine vl_val (os_fa (o := 0) (k := 0) (by kernel_rfl) rfl) ?_
    refine vl_val (os_load Try.isAgg22 rfl (Bk.cell (i := 0) hbk rfl)) ?_
    refine vl_val (os_len Try.underlying22 rfl) ?_
    refine vl_val (os_assign rfl) ?_
    refine vl_nil ?_
    refine v_ret ?_
    exact post_ret rfl rfl (⟨by rw [if_pos he], rfl⟩)
  · refine v_seq ?_
    refine v_region ?_
    refine vl_val (os_assign rfl) ?_
    refine vl_nil ?_
    refine v_seq ?_
    refine v_seq ?_
    refine v_region ?_
    refine vl_val (os_move rfl) ?_
    refine vl_val (os_is (os_eqlnil (by kernel_rfl) rfl rfl) (rfl)) ?_
    refine vl_val (os_move rfl) ?_
    refine vl_valg rfl (os_move rfl) ?_
    refine vl_valg rfl (os_nilCheck rfl) ?_
    refine vl_valg rfl (os_fa (o := 0) (k := 2) (by kernel_rfl) rfl) ?_
    refine vl_callg rfl ((pk_able g _ e _ w hbk).mono fun u w' hh => (⟨by rw [hh.1, decide_eq_false he], hh.2⟩ : u = .bool false ∧ w' = w)) rfl ?_
    rintro v1 w ⟨rfl, rfl⟩
    refine vl_valg rfl (os_not rfl) ?_
    refine vl_val (os_pick_f rfl rfl) ?_
    refine vl_nil ?_
    refine v_cond_t rfl ?_
    refine v_seq ?_
    refine v_region ?_
    refine vl_val (os_assign rfl) ?_
    refine vl_nil ?_
    refine v_ret ?_
    exact post_ret rfl rfl (⟨by rw [if_neg he], rfl⟩)

theorem pk_End (g : Nat) (v : Value) (bs : List Int) (e : Int) (B : Nat) (w : World) (hw : RrS w B g v bs e) :
    Gives Try.prog 139 #[.pointer (some ⟨g, 0, none⟩)] w fun u w' => u = .int .i64 (if 0 < (if e = 0 then (bs.length : Int) else 0) then 4 else e) ∧ w' = w := by
  have hbk := hw.bk
  refine gives_enter Try.call139 Try.func139 rfl rfl rfl (by kernel_rfl) ?_
  refine v_seq ?_
  refine v_region ?_
  refine vl_val (os_assign rfl) ?_
  refine vl_nil ?_
  refine v_seq ?_
  refine v_seq ?_
  refine v_region ?_
  refine vl_val (os_move rfl) ?_
  refine vl_val (os_is (os_eqlnil (by kernel_rfl) rfl rfl) (rfl)) ?_
  refine vl_val (os_move rfl) ?_
  refine vl_valg rfl (os_move rfl) ?_
  refine vl_valg rfl (os_nilCheck rfl) ?_
  refine vl_valg rfl (os_fa (o := 0) (k := 2) (by kernel_rfl) rfl) ?_
  refine vl_valg rfl (os_fa (o := 2) (k := 0) (by kernel_rfl) rfl) ?_
  refine vl_valg rfl (os_load Try.isAgg4 rfl (Bk.cell (i := 2) hbk rfl)) ?_
  refine vl_valg rfl (os_not rfl) ?_
  refine vl_val (os_pick_f rfl rfl) ?_
  refine vl_nil ?_
  refine v_cond_f rfl ?_
  refine v_skip ?_
  refine v_seq ?_
  refine v_seq ?_
  refine v_region ?_
  refine vl_val (os_move rfl) ?_
  refine vl_call (pk_Left g v bs e B w hw) rfl ?_
  rintro v1 w ⟨rfl, rfl⟩
  refine vl_val (os_gtr rfl rfl) ?_
  refine vl_nil ?_
  refine v_cond_d rfl (fun h => ?_) (fun h => ?_)
  · refine v_seq ?_
    refine v_region ?_
    refine vl_val (os_assign rfl) ?_
    refine vl_nil ?_
    refine v_ret ?_
    exact post_ret rfl rfl (⟨by rw [if_pos h], rfl⟩)
  · refine v_skip ?_
    refine v_seq ?_
    refine v_region ?_
    refine vl_val (os_move rfl) ?_
    refine vl_val (os_nilCheck rfl) ?_
    refine vl_val (os_fa (o := 0) (k := 2) (by kernel_rfl) rfl) ?_
    refine vl_val (os_fa (o := 1) (k := 0) (by kernel_rfl) rfl) ?_
    refine vl_val (os_load Try.isAgg28 rfl (Bk.cell (i := 1) hbk rfl)) ?_
    refine vl_val (os_assign rfl) ?_
    refine vl_nil ?_
    refine v_ret ?_
    exact post_ret rfl rfl (⟨by rw [if_neg h], rfl⟩)

theorem pk_Put (g : Nat) (v : Value) (bs : List Int) (e : Int) (B : Nat) (A : Option Addr) (n c : Nat) (xs : List Int) (w : World) (hw : WrS w B 216 g v bs e) (ha : Rd w .u8 A xs) (hn : n = xs.length) (hB : B ≤ w.heap.size) (hl : bs.length + n ≤ 140737488355328) :
    Gives Try.prog 123 #[.pointer (some ⟨g, 0, none⟩), .slice A n c] w fun u w' => ∃ v', WrS w' B 216 g v' (if e = 0 then bs ++ xs else bs) e ∧ Kb (WrS.blocks g v) w w' ∧ (v'.ownBlock = v.ownBlock ∨ ∃ h, v'.ownBlock = some h ∧ w.heap.size ≤ h) := by
  have hbk := hw.bk
  refine gives_enter Try.call123 Try.func123 rfl rfl rfl (by kernel_rfl) ?_
  rcases Decidable.em (e = 0) with he | he
  · refine v_seq ?_
    refine v_region ?_
    refine vl_val (os_move rfl) ?_
    refine vl_val (os_is (os_neqnil (by kernel_rfl) rfl rfl) (rfl)) ?_
    refine vl_val (os_move rfl) ?_
    refine vl_valg rfl (os_move rfl) ?_
    refine vl_valg rfl (os_nilCheck rfl) ?_
    refine vl_valg rfl (os_fa (o := 0) (k := 2) (by kernel_rfl) rfl) ?_
    refine vl_callg rfl ((pk_able g _ e _ w hbk).mono fun u w' hh => (⟨by rw [hh.1, decide_eq_true he], hh.2⟩ : u = .bool true ∧ w' = w)) rfl ?_
    rintro v1 w ⟨rfl, rfl⟩
    refine vl_val (os_pick_t rfl rfl) ?_
    refine vl_nil ?_
    refine v_cond_t rfl ?_
    refine v_region ?_
    refine vl_val (os_move rfl) ?_
    refine vl_val (os_move rfl) ?_
    refine vl_val (os_nilCheck rfl) ?_
    refine vl_val (os_fa (o := 0) (k := 2) (by kernel_rfl) rfl) ?_
    refine vl_val (os_fa (o := 0) (k := 0) (by kernel_rfl) rfl) ?_
    refine vl_val (os_load Try.isAgg22 rfl (Bk.cell (i := 0) hbk rfl)) ?_
    refine vl_val (os_move rfl) ?_
    refine vl_some (ot_append_at Try.underlying22 ti_u8 rfl rfl rfl hw.own ha.toC (by simp [hn]) (by intro u hu; obtain ⟨z, _, rfl⟩ := List.mem_map.1 hu; rfl) (by rw [List.length_map]; omega) (by rw [List.length_map]; simp only [maxLen]; omega) hB) ?_
    rintro v6 w6 ⟨ho6, hg6, ha6⟩
    obtain ⟨A6, c6, rfl, -⟩ := Own.form ho6
    have hbk6 := Bk.grown hbk hg6 (fun e => hw.ne e.symm)
    have hlt := hbk.lt
    have hne6 : (Value.slice A6 _ c6).ownBlock ≠ some g := fun e => by
      rcases ha6 with h6 | h6
      · rw [h6] at e; exact hw.ne e
      · rw [h6] at e; simp at e; omega
    refine vl_val (os_nilCheck rfl) ?_
    refine vl_val (os_fa (o := 0) (k := 2) (by kernel_rfl) rfl) ?_
    refine vl_val (os_fa (o := 0) (k := 0) (by kernel_rfl) rfl) ?_
    refine vl_unit (ou_store Try.sizeOf22 rfl rfl rfl (Bk.cell (i := 0) hbk6 rfl) (Bk.free hbk6 _)) ?_
    refine vl_nil ?_
    exact post_end0 rfl (⟨_, ⟨Bk.set hbk6 0 _, by rw [if_pos he]; unfold OwnK; rw [show List.map (Value.int .u8) (bs ++ xs) = List.map (Value.int .u8) bs ++ List.map (Value.int .u8) xs from List.map_append ..]; exact Own.setOther ho6 (fun g' e e2 => hne6 (by rw [e, e2])) _ _, hw.low, hne6⟩, (Kb.grown hg6 (S := WrS.blocks g v) (fun k hk => by rw [WrS.blocks, hk]; simp)).trans (Kb.set (by simp [WrS.blocks]) _ _) (fun k hk => .inl hk), by rcases ha6 with h6 | h6; (rw [h6]; exact .inl rfl); exact .inr ⟨_, h6, Nat.le_refl _⟩⟩)
  · refine v_seq ?_
    refine v_region ?_
    refine vl_val (os_move rfl) ?_
    refine vl_val (os_is (os_neqnil (by kernel_rfl) rfl rfl) (rfl)) ?_
    refine vl_val (os_move rfl) ?_
    refine vl_valg rfl (os_move rfl) ?_
    refine vl_valg rfl (os_nilCheck rfl) ?_
    refine vl_valg rfl (os_fa (o := 0) (k := 2) (by kernel_rfl) rfl) ?_
    refine vl_callg rfl ((pk_able g _ e _ w hbk).mono fun u w' hh => (⟨by rw [hh.1, decide_eq_false he], hh.2⟩ : u = .bool false ∧ w' = w)) rfl ?_
    rintro v1 w ⟨rfl, rfl⟩
    refine vl_val (os_pick_t rfl rfl) ?_
    refine vl_nil ?_
    refine v_cond_f rfl ?_
    refine v_skip ?_
    exact post_end0 rfl (⟨v, by rw [if_neg he]; exact hw, Kb.refl _ _, .inl rfl⟩)
end Go.Proofs.Ytpojijnjdlnokaa

/- copy, and slices from a place on. No program in sight. -/
namespace Go.Proofs.Ytpojijnjdlnokaa
open Go.RowKit
set_option linter.unusedVariables false

section
variable {P : Program} {n : Cx} {fr : Fr} {w : World} {ty : TypeId} {x y z : Operand} {v u : Value} {T T2 e : TypeId} {op : Op} {w' : World} {k : IntKind} {m : Int}
theorem Own.bk {B t g n c cs} (h : Own w B t (.slice (some ⟨g, 0, none⟩) n c) cs) (hc : c = cs.length) : Bk w g cs t := by
  rcases h.2 with ⟨h1, _⟩ | ⟨g', cap, cur, h1, hB, hg, hnc, hcm, hs, ht⟩
  · cases h1
  · cases h1
    unfold Bk
    rw [hg]
    have : cur = cs.toArray := by
      rw [← ht, ← hc]
      have hs' : cur.size = c := by simpa using hs
      rw [List.take_of_length_le (by simp [hs'])]
    rw [this]
theorem Bk.own {B t g cs} (h : Bk w g cs t) (hB : B ≤ g) (hl : cs.length ≤ maxLen) : Own w B t (.slice (some ⟨g, 0, none⟩) cs.length cs.length) cs :=
  ⟨by simp, .inr ⟨g, cs.length, cs.toArray, rfl, hB, h, Nat.le_refl _, hl, by simp, by simp⟩⟩
theorem os_copyB {g o dl dc sl sc q : Nat} {A : Addr} {cs ss : List Value} {t : TypeId} (hT : P.underlying T = some (.slice e)) (hs : (P.info? e).map (·.size) = some 1) (hx : Fr.ev fr x = some (.slice (some ⟨g, o, none⟩) dl dc)) (hy : Fr.ev fr y = some (.slice (some A) sl sc))
    (hB : Bk w g cs t) (hr : RdC w (some A) ss) (hq : ss.length = q) (hn : q = min sl dl) (hfit : o + q ≤ cs.length) (h1 : ∀ u ∈ ss, u.oneCell' = true) :
    OS P n (.call ⟨.builtin .copy, #[x, y], #[T, T2]⟩) ty fr w (.int .i64 q) (w.setRow g (cs.take o ++ ss ++ cs.drop (o + q)).toArray) := by
  subst hq
  have hrun := run_copy_row (P := P) w T T2 ty e g o dl dc A sl sc cs.toArray t ss hT hs hB hn (fun j u hu => by
    have hj := (List.getElem?_eq_some_iff.1 hu).1
    obtain ⟨b, off, e1, hc⟩ := hr (by omega)
    cases e1
    rw [addr_add, hc j hj]; exact hu) (by simpa using hfit) h1
  refine os_of fun a ha => ?_
  simp [execOp, resolve, invoke, builtin, ha.ev hx, ha.ev hy, hrun, Result.andThen, goInt]
theorem os_slice_l1 {b o l c i : Nat} {e : TypeId} (hT : P.underlying T = some (.slice e)) (hs : ∀ w, (sizeOf e).run P w = .ok 1 w) (hx : Fr.ev fr x = some (.slice (some ⟨b, o, none⟩) l c)) (hy : Fr.ev fr y = some (.int k m)) (hm : m = (i : Int)) (hh : i ≤ l) (hne : c ≠ i) :
    OS P n (.slice T x (some y) none none) ty fr w (.slice (some ⟨b, o + i, none⟩) (l - i) (c - i)) w := by
  have := os_slice_l (n := n) (w := w) (ty := ty) hT hs hx hy hm hh
  rw [if_neg hne] at this
  simpa [addr_add] using this
theorem grown_setRow (w : World) (g : Nat) (cs : Array Value) : w.grownBy (w.setRow g cs) (some g) :=
  ⟨rfl, rfl, rfl, by simp [World.setRow], fun k _ hk => setRow_other w g k cs (fun e => hk (by rw [e]))⟩
/-- copy(d, s): d a list of the call's own -/
theorem ot_copy {g dl dc sl sc q B : Nat} {A : Option Addr} {cs ss : List Value} {t : TypeId} (hT : P.underlying T = some (.slice e)) (hs : (P.info? e).map (·.size) = some 1) (hx : Fr.ev fr x = some (.slice (some ⟨g, 0, none⟩) dl dc)) (hy : Fr.ev fr y = some (.slice A sl sc))
    (ho : Own w B t (.slice (some ⟨g, 0, none⟩) dl dc) cs) (hr : RdC w A ss) (hq : ss.length = q) (hn : q = min sl dl) (h1 : ∀ u ∈ ss, u.oneCell' = true) :
    OT P n (.call ⟨.builtin .copy, #[x, y], #[T, T2]⟩) ty fr w fun v' w' => v' = .int .i64 q ∧ Own w' B t (.slice (some ⟨g, 0, none⟩) dl dc) (ss ++ cs.drop q) ∧ w.grownBy w' (some g) := by
  subst hq
  have hlen := ho.len
  rcases ho.2 with ⟨h0, _⟩ | ⟨g', cap, cur, h0, hB, hg, hnc, hcm, hcs, ht⟩
  · cases h0
  cases h0
  have hfit : 0 + ss.length ≤ cur.size := by rw [hcs]; omega
  have hset : ∀ a, A = some a → ∀ a', Ag n fr a' → (execOp a'.eval ⟨none, .call ⟨.builtin .copy, #[x, y], #[T, T2]⟩, ty, "", #[], none⟩).run P w = .ok (.value (.int .i64 ss.length)) (w.setRow g (cur.toList.take 0 ++ ss ++ cur.toList.drop (0 + ss.length)).toArray) := by
    rintro a rfl a' ha
    have hrun := run_copy_row (P := P) w T T2 ty e g 0 cs.length dc a sl sc cur t ss hT hs hg hn (fun j u hu => by
      have hj := (List.getElem?_eq_some_iff.1 hu).1
      obtain ⟨b, off, e1, hc⟩ := hr (by omega)
      cases e1
      rw [addr_add, hc j hj]; exact hu) hfit h1
    simp [execOp, resolve, invoke, builtin, ha.ev hx, ha.ev hy, hrun, Result.andThen, goInt]
  cases A with
  | some a =>
    refine ot_of fun a' ha => ⟨_, _, hset a rfl a' ha, rfl, ⟨?_, .inr ⟨g, dc, _, by simp only [List.length_append, List.length_drop]; congr 1; omega, hB, setRow_heap w g cur _ t _ hg, ?_, hcm, ?_, ?_⟩⟩, grown_setRow w g _⟩
    · simp
    · simp only [List.length_append, List.length_drop]; omega
    · simp only [List.take_zero, List.nil_append, List.size_toArray, List.length_append, List.length_drop, Array.length_toList]; omega
    · simp only [List.take_zero, List.nil_append, Nat.zero_add, List.length_append, List.length_drop, Nat.mul_one]
      have ht' : cs = cur.toList.take cs.length := by simpa using ht.symm
      rw [List.take_append, List.take_of_length_le (by omega), show ss.length + (cs.length - ss.length) - ss.length = cs.length - ss.length by omega]
      congr 1
      rw [ht', List.drop_take, ← ht']
  | none =>
    have h0 : ss = [] := by
      cases ss with
      | nil => rfl
      | cons a r => obtain ⟨b, o, e1, _⟩ := hr (by simp); cases e1
    subst h0
    have hmin : Nat.min sl cs.length = 0 := by simpa using hn.symm
    obtain ⟨i, hi, hi1⟩ : ∃ i, P.info? e = some i ∧ i.size = 1 := by
      cases hq : P.info? e with
      | none => simp [hq] at hs
      | some i => exact ⟨i, rfl, by simpa [hq] using hs⟩
    refine ot_of fun a' ha => ⟨.int .i64 0, w, ?_, rfl, by simpa using ho, ⟨rfl, rfl, rfl, Nat.le_refl _, fun _ _ _ => rfl⟩⟩
    simp [execOp, resolve, invoke, builtin, ha.ev hx, ha.ev hy, Builtin.copy_, run_underlying hT, Builtin.lenOf, Builtin.firstCells, sizeOf, typeInfo, hi, hi1, hmin, Result.andThen, goInt, storeCells, loadCells, loadCellsFrom]
end
end Go.Proofs.Ytpojijnjdlnokaa

/- Layer 8: a reader's Take and Number. -/
namespace Go.Proofs.Ytpojijnjdlnokaa
open Go.RowKit
set_option linter.unusedVariables false

theorem Rd.kb {S : List Nat} {w w' : World} {k : IntKind} {A : Option Addr} {zs : List Int} (h : Rd w k A zs) (hb : Kb S w w') (hA : ∀ b o, A = some ⟨b, o, none⟩ → b ∉ S) : Rd w' k A zs := by
  intro hl
  obtain ⟨b, off, e, hc⟩ := h hl
  refine ⟨b, off, e, fun i hi => ?_⟩
  have h1 := hc i hi
  have hlt := World.block_lt_of_cell? w ⟨b, off + i, none⟩ h1
  rw [← hc i hi]
  unfold World.cell?
  simp only [hb.block b hlt (hA b off e)]
/-- something was wrong: it is noted -/
theorem RrS.err {w : World} {B g : Nat} {v : Value} {bs : List Int} {e : Int} (h : RrS w B g v bs e) (x : Int) : RrS (w.setCell ⟨g, 0 + 1, none⟩ (.int .i64 x)) B g v bs x := by
  obtain ⟨A, c, rfl, hc, hm, hR⟩ := h.form
  have hk : Kb [g] w (w.setCell ⟨g, 0 + 1, none⟩ (.int .i64 x)) := Kb.set (by simp) _ _
  exact ⟨Bk.set h.bk 1 _, ⟨A, c, rfl, hc, hm, hR.kb hk (fun b o e => by subst e; have := (h.row b rfl).2.2; simpa using this)⟩, h.low, fun b hb => ⟨(h.row b hb).1, by simpa [World.setCell] using (h.row b hb).2.1, (h.row b hb).2.2⟩⟩
theorem add_block (a : Addr) (n : Nat) : (a.add n).block = a.block := by unfold Addr.add; split <;> rfl
theorem ints_one8 (zs : List Int) : ∀ u ∈ zs.map (Value.int .u8), u.oneCell' = true := by
  intro u hu
  obtain ⟨z, _, rfl⟩ := List.mem_map.1 hu
  rfl
def takeOk (e n : Int) (bs : List Int) : Bool := decide (e = 0 ∧ 0 ≤ n ∧ n ≤ bs.length)
def takeErr (e n : Int) (bs : List Int) : Int := if e = 0 then (if n < 0 then 2 else if n ≤ bs.length then 0 else 4) else e
set_option maxHeartbeats 1000000 in
theorem pk_Take (g : Nat) (v : Value) (bs : List Int) (e n : Int) (B : Nat) (w : World) (hw : RrS w B g v bs e) (hB : B ≤ w.heap.size) (hl : bs.length ≤ 140737488351232) :
    Gives Try.prog 138 #[.pointer (some ⟨g, 0, none⟩), .int .i64 n] w fun u w' => ∃ v', OwnK w' w.heap.size 5 .u8 u (if takeOk e n bs then bs.take n.toNat else []) ∧ RrS w' B g v' (if takeOk e n bs then bs.drop n.toNat else bs) (takeErr e n bs) ∧ Kb [g] w w' ∧ v'.ownBlock = v.ownBlock := by
  obtain ⟨A, c, rfl, hc, hm, hR⟩ := hw.form
  have hbk := hw.bk
  refine gives_enter Try.call138 Try.func138 rfl rfl rfl (by kernel_rfl) ?_
  rcases (by omega : e ≠ 0 ∨ (e = 0 ∧ n < 0) ∨ (e = 0 ∧ 0 ≤ n ∧ (bs.length : Int) < n) ∨ (e = 0 ∧ 0 ≤ n ∧ n ≤ bs.length)) with he | ⟨rfl, hn⟩ | ⟨rfl, hn, hn2⟩ | ⟨rfl, hn, hn2⟩
  · refine v_seq ?_
    refine v_region ?_
    refine vl_val (os_assign rfl) ?_
    refine vl_nil ?_
    refine v_seq ?_
    refine v_seq ?_
    refine v_region_a mixed ?_
    refine va_pure 0 rfl (by kernel_rfl) (by kernel_rfl) (by kernel_rfl) (fun w => (os_move rfl)) ?_
    refine va_pure 1 rfl (by kernel_rfl) (by kernel_rfl) (by kernel_rfl) (fun w => (os_is (os_eqlnil (by kernel_rfl) rfl rfl) (rfl))) ?_
    refine va_pure 2 rfl (by kernel_rfl) (by kernel_rfl) (by kernel_rfl) (fun w => (os_move rfl)) ?_
    refine va_pure 3 rfl (by kernel_rfl) (by kernel_rfl) (by kernel_rfl) (fun w => (os_move rfl)) ?_
    refine va_pure 4 rfl (by kernel_rfl) (by kernel_rfl) (by kernel_rfl) (fun w => (os_nilCheck rfl)) ?_
    refine va_pure 5 rfl (by kernel_rfl) (by kernel_rfl) (by kernel_rfl) (fun w => (os_fa (o := 0) (k := 2) (by kernel_rfl) rfl)) ?_
    refine va_pure 6 rfl (by kernel_rfl) (by kernel_rfl) (by kernel_rfl) (fun w => (os_move rfl)) ?_
    refine va_pure 7 rfl (by kernel_rfl) (by kernel_rfl) (by kernel_rfl) (fun w => (os_geq rfl rfl)) ?_
    refine va_one 8 (by kernel_rfl) ?_
    refine vn_call rfl ((pk_unless g _ e _ (decide (0 ≤ n)) 2 _ (Bk.led hbk ⟨1, rfl⟩) (by omega)).mono fun u w' hh => (⟨by rw [hh.1, decide_eq_false he]; rfl, by rw [hh.2, if_neg (fun h => he h.1)]⟩ : u = .bool false ∧ w' = _)) rfl ?_
    rintro v2 w2 ⟨rfl, rfl⟩
    have ho : takeOk e n bs = false := decide_eq_false (fun h => he h.1)
    refine va_pure 9 rfl (by kernel_rfl) (by kernel_rfl) (by kernel_rfl) (fun w => (os_not rfl)) ?_
    refine va_pure 10 rfl (by kernel_rfl) (by kernel_rfl) (by kernel_rfl) (fun w => (os_pick_f rfl rfl)) ?_
    refine va_pure 11 rfl (by kernel_rfl) (by kernel_rfl) (by kernel_rfl) (fun w => (os_move rfl)) ?_
    refine va_skip 12 rfl (by kernel_rfl) (by kernel_rfl) (by kernel_rfl) rfl rfl ?_
    refine va_skip 13 rfl (by kernel_rfl) (by kernel_rfl) (by kernel_rfl) rfl rfl ?_
    refine va_skip 14 rfl (by kernel_rfl) (by kernel_rfl) (by kernel_rfl) rfl rfl ?_
    refine va_skip 15 rfl (by kernel_rfl) (by kernel_rfl) (by kernel_rfl) rfl rfl ?_
    refine va_skip 16 rfl (by kernel_rfl) (by kernel_rfl) (by kernel_rfl) rfl rfl ?_
    refine va_skip 17 rfl (by kernel_rfl) (by kernel_rfl) (by kernel_rfl) rfl rfl ?_
    refine va_skip 18 rfl (by kernel_rfl) (by kernel_rfl) (by kernel_rfl) rfl rfl ?_
    refine va_skip 19 rfl (by kernel_rfl) (by kernel_rfl) (by kernel_rfl) rfl rfl ?_
    refine va_skip 20 rfl (by kernel_rfl) (by kernel_rfl) (by kernel_rfl) rfl rfl ?_
    refine va_skip 21 rfl (by kernel_rfl) (by kernel_rfl) (by kernel_rfl) rfl rfl ?_
    refine va_skip 22 rfl (by kernel_rfl) (by kernel_rfl) (by kernel_rfl) rfl rfl ?_
    refine va_skip 23 rfl (by kernel_rfl) (by kernel_rfl) (by kernel_rfl) rfl rfl ?_
    refine va_skip 24 rfl (by kernel_rfl) (by kernel_rfl) (by kernel_rfl) rfl rfl ?_
    refine va_pure 25 rfl (by kernel_rfl) (by kernel_rfl) (by kernel_rfl) (fun w => (os_pick_t rfl rfl)) ?_
    refine va_done (by kernel_rfl) ?_
    refine v_cond_t rfl ?_
    refine v_seq ?_
    refine v_region ?_
    refine vl_val (os_assign rfl) ?_
    refine vl_nil ?_
    refine v_ret ?_
    exact post_ret rfl rfl (⟨_, by rw [ho]; exact Own.nil _ _ _, by rw [ho, takeErr, if_neg he]; exact hw.keep (led_below ⟨1, rfl⟩), Kb.led ⟨1, rfl⟩, rfl⟩)
  · refine v_seq ?_
    refine v_region ?_
    refine vl_val (os_assign rfl) ?_
    refine vl_nil ?_
    refine v_seq ?_
    refine v_seq ?_
    refine v_region_a mixed ?_
    refine va_pure 0 rfl (by kernel_rfl) (by kernel_rfl) (by kernel_rfl) (fun w => (os_move rfl)) ?_
    refine va_pure 1 rfl (by kernel_rfl) (by kernel_rfl) (by kernel_rfl) (fun w => (os_is (os_eqlnil (by kernel_rfl) rfl rfl) (rfl))) ?_
    refine va_pure 2 rfl (by kernel_rfl) (by kernel_rfl) (by kernel_rfl) (fun w => (os_move rfl)) ?_
    refine va_pure 3 rfl (by kernel_rfl) (by kernel_rfl) (by kernel_rfl) (fun w => (os_move rfl)) ?_
    refine va_pure 4 rfl (by kernel_rfl) (by kernel_rfl) (by kernel_rfl) (fun w => (os_nilCheck rfl)) ?_
    refine va_pure 5 rfl (by kernel_rfl) (by kernel_rfl) (by kernel_rfl) (fun w => (os_fa (o := 0) (k := 2) (by kernel_rfl) rfl)) ?_
    refine va_pure 6 rfl (by kernel_rfl) (by kernel_rfl) (by kernel_rfl) (fun w => (os_move rfl)) ?_
    refine va_pure 7 rfl (by kernel_rfl) (by kernel_rfl) (by kernel_rfl) (fun w => (os_geq rfl rfl)) ?_
    refine va_one 8 (by kernel_rfl) ?_
    refine vn_call rfl ((pk_unless g _ 0 _ (decide (0 ≤ n)) 2 _ (Bk.led hbk ⟨1, rfl⟩) (by omega)).mono fun u w' hh => (⟨by rw [hh.1, decide_eq_false (by omega : ¬ 0 ≤ n)]; rfl, by rw [hh.2, if_pos ⟨rfl, decide_eq_false (by omega : ¬ 0 ≤ n)⟩]⟩ : u = .bool false ∧ w' = _)) rfl ?_
    rintro v2 w2 ⟨rfl, rfl⟩
    have ho : takeOk 0 n bs = false := decide_eq_false (fun h => by omega)
    refine va_pure 9 rfl (by kernel_rfl) (by kernel_rfl) (by kernel_rfl) (fun w => (os_not rfl)) ?_
    refine va_pure 10 rfl (by kernel_rfl) (by kernel_rfl) (by kernel_rfl) (fun w => (os_pick_f rfl rfl)) ?_
    refine va_pure 11 rfl (by kernel_rfl) (by kernel_rfl) (by kernel_rfl) (fun w => (os_move rfl)) ?_
    refine va_skip 12 rfl (by kernel_rfl) (by kernel_rfl) (by kernel_rfl) rfl rfl ?_
    refine va_skip 13 rfl (by kernel_rfl) (by kernel_rfl) (by kernel_rfl) rfl rfl ?_
    refine va_skip 14 rfl (by kernel_rfl) (by kernel_rfl) (by kernel_rfl) rfl rfl ?_
    refine va_skip 15 rfl (by kernel_rfl) (by kernel_rfl) (by kernel_rfl) rfl rfl ?_
    refine va_skip 16 rfl (by kernel_rfl) (by kernel_rfl) (by kernel_rfl) rfl rfl ?_
    refine va_skip 17 rfl (by kernel_rfl) (by kernel_rfl) (by kernel_rfl) rfl rfl ?_
    refine va_skip 18 rfl (by kernel_rfl) (by kernel_rfl) (by kernel_rfl) rfl rfl ?_
    refine va_skip 19 rfl (by kernel_rfl) (by kernel_rfl) (by kernel_rfl) rfl rfl ?_
    refine va_skip 20 rfl (by kernel_rfl) (by kernel_rfl) (by kernel_rfl) rfl rfl ?_
    refine va_skip 21 rfl (by kernel_rfl) (by kernel_rfl) (by kernel_rfl) rfl rfl ?_
    refine va_skip 22 rfl (by kernel_rfl) (by kernel_rfl) (by kernel_rfl) rfl rfl ?_
    refine va_skip 23 rfl (by kernel_rfl) (by kernel_rfl) (by kernel_rfl) rfl rfl ?_
    refine va_skip 24 rfl (by kernel_rfl) (by kernel_rfl) (by kernel_rfl) rfl rfl ?_
    refine va_pure 25 rfl (by kernel_rfl) (by kernel_rfl) (by kernel_rfl) (fun w => (os_pick_t rfl rfl)) ?_
    refine va_done (by kernel_rfl) ?_
    refine v_cond_t rfl ?_
    refine v_seq ?_
    refine v_region ?_
    refine vl_val (os_assign rfl) ?_
    refine vl_nil ?_
    refine v_ret ?_
    exact post_ret rfl rfl (⟨_, by rw [ho]; exact Own.nil _ _ _, by rw [ho, takeErr, if_pos rfl, if_pos hn]; exact (hw.keep (led_below ⟨1, rfl⟩)).err 2, (Kb.led ⟨1, rfl⟩).trans (Kb.set (by simp) _ _) (fun k hk => .inl hk), rfl⟩)
  · refine v_seq ?_
    refine v_region ?_
    refine vl_val (os_assign rfl) ?_
    refine vl_nil ?_
    refine v_seq ?_
    refine v_seq ?_
    refine v_region_a mixed ?_
    refine va_pure 0 rfl (by kernel_rfl) (by kernel_rfl) (by kernel_rfl) (fun w => (os_move rfl)) ?_
    refine va_pure 1 rfl (by kernel_rfl) (by kernel_rfl) (by kernel_rfl) (fun w => (os_is (os_eqlnil (by kernel_rfl) rfl rfl) (rfl))) ?_
    refine va_pure 2 rfl (by kernel_rfl) (by kernel_rfl) (by kernel_rfl) (fun w => (os_move rfl)) ?_
    refine va_pure 3 rfl (by kernel_rfl) (by kernel_rfl) (by kernel_rfl) (fun w => (os_move rfl)) ?_
    refine va_pure 4 rfl (by kernel_rfl) (by kernel_rfl) (by kernel_rfl) (fun w => (os_nilCheck rfl)) ?_
    refine va_pure 5 rfl (by kernel_rfl) (by kernel_rfl) (by kernel_rfl) (fun w => (os_fa (o := 0) (k := 2) (by kernel_rfl) rfl)) ?_
    refine va_pure 6 rfl (by kernel_rfl) (by kernel_rfl) (by kernel_rfl) (fun w => (os_move rfl)) ?_
    refine va_pure 7 rfl (by kernel_rfl) (by kernel_rfl) (by kernel_rfl) (fun w => (os_geq rfl rfl)) ?_
    refine va_one 8 (by kernel_rfl) ?_
    refine vn_call rfl ((pk_unless g _ 0 _ (decide (0 ≤ n)) 2 _ (Bk.led hbk ⟨1, rfl⟩) (by omega)).mono fun u w' hh => (⟨by rw [hh.1, decide_eq_true hn]; rfl, by rw [hh.2, if_neg (fun h => by have := h.2; rw [decide_eq_true hn] at this; cases this)]⟩ : u = .bool true ∧ w' = _)) rfl ?_
    rintro v2 w2 ⟨rfl, rfl⟩
    refine va_pure 9 rfl (by kernel_rfl) (by kernel_rfl) (by kernel_rfl) (fun w => (os_not rfl)) ?_
    refine va_pure 10 rfl (by kernel_rfl) (by kernel_rfl) (by kernel_rfl) (fun w => (os_pick_f rfl rfl)) ?_
    refine va_pure 11 rfl (by kernel_rfl) (by kernel_rfl) (by kernel_rfl) (fun w => (os_move rfl)) ?_
    refine va_pure 12 rfl (by kernel_rfl) (by kernel_rfl) (by kernel_rfl) (fun w => (os_move rfl)) ?_
    refine va_pure 13 rfl (by kernel_rfl) (by kernel_rfl) (by kernel_rfl) (fun w => (os_nilCheck rfl)) ?_
    refine va_pure 14 rfl (by kernel_rfl) (by kernel_rfl) (by kernel_rfl) (fun w => (os_fa (o := 0) (k := 2) (by kernel_rfl) rfl)) ?_
    refine va_pure 15 rfl (by kernel_rfl) (by kernel_rfl) (by kernel_rfl) (fun w => (os_move rfl)) ?_
    refine va_pure 16 rfl (by kernel_rfl) (by kernel_rfl) (by kernel_rfl) (fun w => (os_move rfl)) ?_
    refine va_pure 17 rfl (by kernel_rfl) (by kernel_rfl) (by kernel_rfl) (fun w => (os_nilCheck rfl)) ?_
    refine va_pure 18 rfl (by kernel_rfl) (by kernel_rfl) (by kernel_rfl) (fun w => (os_fa (o := 0) (k := 2) (by kernel_rfl) rfl)) ?_
    refine va_pure 19 rfl (by kernel_rfl) (by kernel_rfl) (by kernel_rfl) (fun w => (os_fa (o := 0) (k := 0) (by kernel_rfl) rfl)) ?_
    refine va_one 20 (by kernel_rfl) ?_
    refine vn_val rfl (os_load Try.isAgg22 rfl (Bk.cell (i := 0) (Bk.led hbk ⟨1, rfl⟩) rfl)) ?_
    refine va_pure 21 rfl (by kernel_rfl) (by kernel_rfl) (by kernel_rfl) (fun w => (os_len Try.underlying22 rfl)) ?_
    refine va_pure 22 rfl (by kernel_rfl) (by kernel_rfl) (by kernel_rfl) (fun w => (os_leq rfl rfl)) ?_
    refine va_one 23 (by kernel_rfl) ?_
    refine vn_call rfl ((pk_unless g _ 0 _ (decide (n ≤ (bs.length : Int))) 4 _ (Bk.led hbk ⟨1, rfl⟩) (by omega)).mono fun u w' hh => (⟨by rw [hh.1, decide_eq_false (by omega : ¬ n ≤ (bs.length : Int))]; rfl, by rw [hh.2, if_pos ⟨rfl, decide_eq_false (by omega : ¬ n ≤ (bs.length : Int))⟩]⟩ : u = .bool false ∧ w' = _)) rfl ?_
    rintro v2 w2 ⟨rfl, rfl⟩
    have ho : takeOk 0 n bs = false := decide_eq_false (fun h => by omega)
    refine va_pure 24 rfl (by kernel_rfl) (by kernel_rfl) (by kernel_rfl) (fun w => (os_not rfl)) ?_
    refine va_pure 25 rfl (by kernel_rfl) (by kernel_rfl) (by kernel_rfl) (fun w => (os_pick_f rfl rfl)) ?_
    refine va_done (by kernel_rfl) ?_
    refine v_cond_t rfl ?_
    refine v_seq ?_
    refine v_region ?_
    refine vl_val (os_assign rfl) ?_
    refine vl_nil ?_
    refine v_ret ?_
    exact post_ret rfl rfl (⟨_, by rw [ho]; exact Own.nil _ _ _, by rw [ho, takeErr, if_pos rfl, if_neg (show ¬ n < 0 by omega), if_neg (show ¬ n ≤ (bs.length : Int) by omega)]; exact (hw.keep (led_below ⟨1, rfl⟩)).err 4, (Kb.led ⟨1, rfl⟩).trans (Kb.set (by simp) _ _) (fun k hk => .inl hk), rfl⟩)
  · refine v_seq ?_
    refine v_region ?_
    refine vl_val (os_assign rfl) ?_
    refine vl_nil ?_
    refine v_seq ?_
    refine v_seq ?_
    refine v_region_a mixed ?_
    refine va_pure 0 rfl (by kernel_rfl) (by kernel_rfl) (by kernel_rfl) (fun w => (os_move rfl)) ?_
    refine va_pure 1 rfl (by kernel_rfl) (by kernel_rfl) (by kernel_rfl) (fun w => (os_is (os_eqlnil (by kernel_rfl) rfl rfl) (rfl))) ?_
    refine va_pure 2 rfl (by kernel_rfl) (by kernel_rfl) (by kernel_rfl) (fun w => (os_move rfl)) ?_
    refine va_pure 3 rfl (by kernel_rfl) (by kernel_rfl) (by kernel_rfl) (fun w => (os_move rfl)) ?_
    refine va_pure 4 rfl (by kernel_rfl) (by kernel_rfl) (by kernel_rfl) (fun w => (os_nilCheck rfl)) ?_
    refine va_pure 5 rfl (by kernel_rfl) (by kernel_rfl) (by kernel_rfl) (fun w => (os_fa (o := 0) (k := 2) (by kernel_rfl) rfl)) ?_
    refine va_pure 6 rfl (by kernel_rfl) (by kernel_rfl) (by kernel_rfl) (fun w => (os_move rfl)) ?_
    refine va_pure 7 rfl (by kernel_rfl) (by kernel_rfl) (by kernel_rfl) (fun w => (os_geq rfl rfl)) ?_
    refine va_one 8 (by kernel_rfl) ?_
    refine vn_call rfl ((pk_unless g _ 0 _ (decide (0 ≤ n)) 2 _ (Bk.led hbk ⟨1, rfl⟩) (by omega)).mono fun u w' hh => (⟨by rw [hh.1, decide_eq_true hn]; rfl, by rw [hh.2, if_neg (fun h => by have := h.2; rw [decide_eq_true hn] at this; cases this)]⟩ : u = .bool true ∧ w' = _)) rfl ?_
    rintro v2 w2 ⟨rfl, rfl⟩
    refine va_pure 9 rfl (by kernel_rfl) (by kernel_rfl) (by kernel_rfl) (fun w => (os_not rfl)) ?_
    refine va_pure 10 rfl (by kernel_rfl) (by kernel_rfl) (by kernel_rfl) (fun w => (os_pick_f rfl rfl)) ?_
    refine va_pure 11 rfl (by kernel_rfl) (by kernel_rfl) (by kernel_rfl) (fun w => (os_move rfl)) ?_
    refine va_pure 12 rfl (by kernel_rfl) (by kernel_rfl) (by kernel_rfl) (fun w => (os_move rfl)) ?_
    refine va_pure 13 rfl (by kernel_rfl) (by kernel_rfl) (by kernel_rfl) (fun w => (os_nilCheck rfl)) ?_
    refine va_pure 14 rfl (by kernel_rfl) (by kernel_rfl) (by kernel_rfl) (fun w => (os_fa (o := 0) (k := 2) (by kernel_rfl) rfl)) ?_
    refine va_pure 15 rfl (by kernel_rfl) (by kernel_rfl) (by kernel_rfl) (fun w => (os_move rfl)) ?_
    refine va_pure 16 rfl (by kernel_rfl) (by kernel_rfl) (by kernel_rfl) (fun w => (os_move rfl)) ?_
    refine va_pure 17 rfl (by kernel_rfl) (by kernel_rfl) (by kernel_rfl) (fun w => (os_nilCheck rfl)) ?_
    refine va_pure 18 rfl (by kernel_rfl) (by kernel_rfl) (by kernel_rfl) (fun w => (os_fa (o := 0) (k := 2) (by kernel_rfl) rfl)) ?_
    refine va_pure 19 rfl (by kernel_rfl) (by kernel_rfl) (by kernel_rfl) (fun w => (os_fa (o := 0) (k := 0) (by kernel_rfl) rfl)) ?_
    refine va_one 20 (by kernel_rfl) ?_
    refine vn_val rfl (os_load Try.isAgg22 rfl (Bk.cell (i := 0) (Bk.led hbk ⟨1, rfl⟩) rfl)) ?_
    refine va_pure 21 rfl (by kernel_rfl) (by kernel_rfl) (by kernel_rfl) (fun w => (os_len Try.underlying22 rfl)) ?_
    refine va_pure 22 rfl (by kernel_rfl) (by kernel_rfl) (by kernel_rfl) (fun w => (os_leq rfl rfl)) ?_
    refine va_one 23 (by kernel_rfl) ?_
    refine vn_call rfl ((pk_unless g _ 0 _ (decide (n ≤ (bs.length : Int))) 4 _ (Bk.led hbk ⟨1, rfl⟩) (by omega)).mono fun u w' hh => (⟨by rw [hh.1, decide_eq_true hn2]; rfl, by rw [hh.2, if_neg (fun h => by have := h.2; rw [decide_eq_true hn2] at this; cases this)]⟩ : u = .bool true ∧ w' = _)) rfl ?_
    rintro v2 w2 ⟨rfl, rfl⟩
    obtain ⟨k, rfl⟩ : ∃ k : Nat, n = k := ⟨n.toNat, by omega⟩
    have hw1 := hw.keep (led_below ⟨1, rfl⟩)
    have hl1 := Bk.lt hw1.bk
    refine va_pure 24 rfl (by kernel_rfl) (by kernel_rfl) (by kernel_rfl) (fun w => (os_not rfl)) ?_
    refine va_pure 25 rfl (by kernel_rfl) (by kernel_rfl) (by kernel_rfl) (fun w => (os_pick_f rfl rfl)) ?_
    refine va_done (by kernel_rfl) ?_
    refine v_cond_f rfl ?_
    refine v_skip ?_
    refine v_seq ?_
    refine v_region ?_
    refine vl_val (os_move rfl) ?_
    refine vl_some (ot_make (l := k) Try.underlying22 ti_u8 rfl rfl rfl rfl rfl (by omega) (by simp only [maxLen]; omega) w.heap.size (Nat.le_refl _)) ?_
    rintro v3 w3 ⟨rfl, o3, g3⟩
    have b3 : Below w.heap.size w w3 := (led_below (w := w) ⟨1, rfl⟩).trans ((Below.refl _ _).grown g3 (Nat.le_refl _) (fun k hk => by cases hk))
    have hw3 := hw.keep b3
    refine vl_val (os_assign rfl) ?_
    refine vl_nil ?_
    refine v_seq ?_
    refine v_region ?_
    refine vl_val (os_move rfl) ?_
    refine vl_val (os_move rfl) ?_
    refine vl_val (os_nilCheck rfl) ?_
    refine vl_val (os_fa (o := 0) (k := 2) (by kernel_rfl) rfl) ?_
    refine vl_val (os_fa (o := 0) (k := 0) (by kernel_rfl) rfl) ?_
    refine vl_val (os_load Try.isAgg22 rfl (Bk.cell (i := 0) hw3.bk rfl)) ?_
    have hR3 := hR.keep b3
    refine vl_some (ot_copy (q := k) Try.underlying22 (by kernel_rfl) rfl rfl o3 (hR3.take k).toC (by rw [List.length_map, List.length_take]; omega) (by omega) (ints_one8 _)) ?_
    rintro v4 w4 ⟨rfl, o4, g4⟩
    have hlt3 : g < w.heap.size := hbk.lt
    have b4 : Below w.heap.size w w4 := Own.below b3 o3 g4 (Nat.le_refl _) b3.size
    have hw4 := hw.keep b4
    refine vl_nil ?_
    refine v_seq ?_
    refine v_region ?_
    refine vl_val (os_move rfl) ?_
    refine vl_val (os_move rfl) ?_
    refine vl_val (os_nilCheck rfl) ?_
    refine vl_val (os_fa (o := 0) (k := 2) (by kernel_rfl) rfl) ?_
    refine vl_val (os_fa (o := 0) (k := 0) (by kernel_rfl) rfl) ?_
    refine vl_val (os_load Try.isAgg22 rfl (Bk.cell (i := 0) hw4.bk rfl)) ?_
    refine vl_val (os_move rfl) ?_
    refine vl_val (os_slice_l Try.underlying22 Try.sizeOf5 rfl rfl rfl (by omega)) ?_
    refine vl_val (os_nilCheck rfl) ?_
    refine vl_val (os_fa (o := 0) (k := 2) (by kernel_rfl) rfl) ?_
    refine vl_val (os_fa (o := 0) (k := 0) (by kernel_rfl) rfl) ?_
    refine vl_unit (ou_store Try.sizeOf22 rfl rfl rfl (Bk.cell (i := 0) hw4.bk rfl) (Bk.free hw4.bk _)) ?_
    have ho : takeOk 0 (k : Int) bs = true := decide_eq_true ⟨rfl, by omega, hn2⟩
    have hob : (Value.slice (if c = k then A else A.map (·.add (k * 1))) (bs.length - k) (c - k)).ownBlock = (Value.slice A bs.length c).ownBlock := by
      split
      · cases A <;> rfl
      · cases A with
        | none => rfl
        | some a => simp [Value.ownBlock, add_block]
    have hk4 : Kb [g] w4 (w4.setCell ⟨g, 0 + 0, none⟩ (Value.slice (if c = k then A else A.map (·.add (k * 1))) (bs.length - k) (c - k))) := Kb.set (by simp) _ _
    have hrow := hw.row
    have hR5 := (hR.keep b4).sliced (c := c) (i := k) hc
    refine vl_nil ?_
    refine v_seq ?_
    refine v_region ?_
    refine vl_val (os_move rfl) ?_
    refine vl_val (os_assign rfl) ?_
    refine vl_nil ?_
    refine v_ret ?_
    exact post_ret rfl rfl (⟨_, by rw [ho, if_pos rfl]; simp only [List.drop_replicate, Nat.sub_self, List.replicate_zero, List.append_nil] at o4; exact Own.setOther o4 (fun g' e e2 => by cases e; have := World.ownsRow.lt o4 _ rfl; simp at e2 this; omega) _ _, by rw [ho, if_pos rfl, takeErr, if_pos rfl, if_neg (show ¬ (k : Int) < 0 by omega), if_pos (show (k : Int) ≤ (bs.length : Int) by omega)]; rw [Int.toNat_natCast]; exact ⟨Bk.set hw4.bk 0 _, ⟨(if c = k then A else A.map (·.add (k * 1))), c - k, by rw [List.length_drop], by rw [List.length_drop]; omega, by omega, hR5.kb hk4 (fun b o e hb => by have h1 := (hrow b (by rw [← hob, e]; rfl)).2.2; simp at hb; omega)⟩, hw4.low, fun b hb => by rw [hob] at hb; have h1 := hrow b hb; have h2 := b4.size; exact ⟨h1.1, by simp [World.setCell]; omega, h1.2.2⟩⟩, (Kb.of_below b4).trans hk4 (fun k hk => .inl hk), hob⟩)

theorem or_byte {n b : Int} (hn : 0 ≤ n ∧ n < 16777216) (hb : 0 ≤ b ∧ b ≤ 255) : IntKind.i64.wrap ((BitVec.ofInt IntKind.i64.bits (n * 256) ||| BitVec.ofInt IntKind.i64.bits b).toNat : Nat) = n * 256 + b := by
  obtain ⟨N, rfl⟩ : ∃ N : Nat, n = N := ⟨n.toNat, by omega⟩
  obtain ⟨C, rfl⟩ : ∃ C : Nat, b = C := ⟨b.toNat, by omega⟩
  have e1 : BitVec.ofInt IntKind.i64.bits ((N : Int) * 256) = BitVec.ofNat 64 (N * 256) := by
    rw [show ((N : Int) * 256) = ((N * 256 : Nat) : Int) by simp]; exact BitVec.ofInt_natCast ..
  have e2 : BitVec.ofInt IntKind.i64.bits (C : Int) = BitVec.ofNat 64 C := BitVec.ofInt_natCast ..
  rw [e1, e2]
  have e3 : (BitVec.ofNat 64 (N * 256) ||| BitVec.ofNat 64 C).toNat = N * 256 + C := by
    rw [BitVec.toNat_or, BitVec.toNat_ofNat, BitVec.toNat_ofNat, Nat.mod_eq_of_lt (by omega), Nat.mod_eq_of_lt (by omega)]
    have := Nat.shiftLeft_add_eq_or_of_lt (a := N) (b := C) (i := 8) (by omega)
    rw [Nat.shiftLeft_eq] at this
    exact this.symm
  show IntKind.i64.wrap (((BitVec.ofNat 64 (N * 256) ||| BitVec.ofNat 64 C).toNat : Nat) : Int) = _
  rw [e3, i64_fit (by omega)]
  simp
theorem shl8 {n : Int} (hn : 0 ≤ n ∧ n < 16777216) : IntKind.i64.wrap (n * 2 ^ min (8 : Int).toNat IntKind.i64.bits) = n * 256 := by
  have e : (2 : Int) ^ min (8 : Int).toNat IntKind.i64.bits = 256 := by decide
  rw [e, i64_fit (by omega)]

def rnOk (e size : Int) (bs : List Int) : Bool := decide (e = 0 ∧ 1 ≤ size ∧ size ≤ 4 ∧ size ≤ bs.length)
def rnErr (e size : Int) (bs : List Int) : Int := if e = 0 then (if 1 ≤ size ∧ size ≤ 4 then (if size ≤ bs.length then 0 else 4) else 2) else e
set_option maxHeartbeats 1000000 in
theorem pk_RNumber (g : Nat) (v : Value) (bs : List Int) (e size : Int) (B : Nat) (w : World) (hw : RrS w B g v bs e) (hB : B ≤ w.heap.size) (hl : bs.length ≤ 140737488351232) (hy : AllY bs) :
    Gives Try.prog 136 #[.pointer (some ⟨g, 0, none⟩), .int .i64 size] w fun u w' => ∃ v', u = .int .i64 (if rnOk e size bs then numOf (bs.take size.toNat) else 0) ∧ RrS w' B g v' (if rnOk e size bs then bs.drop size.toNat else bs) (rnErr e size bs) ∧ Kb [g] w w' ∧ v'.ownBlock = v.ownBlock := by
  have hbk := hw.bk
  obtain ⟨W, hW⟩ : ∃ W, W = (if e = 0 ∧ false = false then w.setCell ⟨g, 0 + 1, none⟩ (.int .i64 2) else w) := ⟨_, rfl⟩
  have hbad : (size < 1 ∨ 4 < size) → rnOk e size bs = false ∧ RrS W B g v bs (rnErr e size bs) ∧ Kb [g] w W := fun h => by
    subst hW
    refine ⟨decide_eq_false (by omega), ?_⟩
    by_cases he : e = 0
    · rw [if_pos ⟨he, rfl⟩, rnErr, if_pos he, if_neg (by omega)]
      exact ⟨hw.err 2, Kb.set (by simp) _ _⟩
    · rw [if_neg (fun h => he h.1), rnErr, if_neg he]
      exact ⟨hw, Kb.refl _ _⟩
  refine gives_enter Try.call136 Try.func136 rfl rfl rfl (by kernel_rfl) ?_
  rcases (by omega : size < 1 ∨ 4 < size ∨ (e ≠ 0 ∧ 1 ≤ size ∧ size ≤ 4) ∨ (e = 0 ∧ 1 ≤ size ∧ size ≤ 4 ∧ (bs.length : Int) < size) ∨ (e = 0 ∧ 1 ≤ size ∧ size ≤ 4 ∧ size ≤ bs.length)) with hn | hn | ⟨he, hn, hn2⟩ | ⟨rfl, hn, hn2, hn3⟩ | ⟨rfl, hn, hn2, hn3⟩
  · refine v_seq ?_
    refine v_region ?_
    refine vl_val (os_assign rfl) ?_
    refine vl_nil ?_
    refine v_seq ?_
    refine v_seq ?_
    refine v_region ?_
    refine vl_val (os_move rfl) ?_
    refine vl_val (os_is (os_eqlnil (by kernel_rfl) rfl rfl) (rfl)) ?_
    refine vl_val (os_move rfl) ?_
    refine vl_valg rfl (os_move rfl) ?_
    refine vl_valg rfl (os_nilCheck rfl) ?_
    refine vl_valg rfl (os_fa (o := 0) (k := 2) (by kernel_rfl) rfl) ?_
    refine vl_valg rfl (os_move rfl) ?_
    refine vl_valg rfl (os_f (os_geq rfl rfl) (by omega)) ?_
    refine vl_valg rfl (os_move rfl) ?_
    refine vl_skip rfl rfl ?_
    refine vl_skip rfl rfl ?_
    refine vl_valg rfl (os_pick_f rfl rfl) ?_
    refine vl_callg rfl ((pk_unless g _ e _ false 2 _ hbk (by omega)).mono fun u w' hh => (⟨by rw [hh.1, Bool.and_false], hh.2.trans hW.symm⟩ : u = .bool false ∧ w' = W)) rfl ?_
    rintro v2 w2 ⟨rfl, rfl⟩
    refine vl_valg rfl (os_not rfl) ?_
    refine vl_val (os_pick_f rfl rfl) ?_
    refine vl_nil ?_
    refine v_cond_t rfl ?_
    refine v_seq ?_
    refine v_region ?_
    refine vl_val (os_assign rfl) ?_
    refine vl_nil ?_
    refine v_ret ?_
    exact post_ret rfl rfl (⟨v, by rw [(hbad (.inl hn)).1]; rfl, by rw [(hbad (.inl hn)).1]; exact (hbad (.inl hn)).2.1, (hbad (.inl hn)).2.2, rfl⟩)
  · refine v_seq ?_
    refine v_region ?_
    refine vl_val (os_assign rfl) ?_
    refine vl_nil ?_
    refine v_seq ?_
    refine v_seq ?_
    refine v_region ?_
    refine vl_val (os_move rfl) ?_
    refine vl_val (os_is (os_eqlnil (by kernel_rfl) rfl rfl) (rfl)) ?_
    refine vl_val (os_move rfl) ?_
    refine vl_valg rfl (os_move rfl) ?_
    refine vl_valg rfl (os_nilCheck rfl) ?_
    refine vl_valg rfl (os_fa (o := 0) (k := 2) (by kernel_rfl) rfl) ?_
    refine vl_valg rfl (os_move rfl) ?_
    refine vl_valg rfl (os_t (os_geq rfl rfl) (by omega)) ?_
    refine vl_valg rfl (os_move rfl) ?_
    refine vl_valg rfl (os_move rfl) ?_
    refine vl_valg rfl (os_leq rfl rfl) ?_
    refine vl_valg rfl (os_pick_t rfl rfl) ?_
    refine vl_callg rfl ((pk_unless g _ e _ (decide (size ≤ 4)) 2 _ hbk (by omega)).mono fun u w' hh => (⟨by rw [hh.1, decide_eq_false (show ¬ size ≤ 4 by omega), Bool.and_false], by rw [hh.2, decide_eq_false (show ¬ size ≤ 4 by omega), hW]⟩ : u = .bool false ∧ w' = W)) rfl ?_
    rintro v2 w2 ⟨rfl, rfl⟩
    refine vl_valg rfl (os_not rfl) ?_
    refine vl_val (os_pick_f rfl rfl) ?_
    refine vl_nil ?_
    refine v_cond_t rfl ?_
    refine v_seq ?_
    refine v_region ?_
    refine vl_val (os_assign rfl) ?_
    refine vl_nil ?_
    refine v_ret ?_
    exact post_ret rfl rfl (⟨v, by rw [(hbad (.inr hn)).1]; rfl, by rw [(hbad (.inr hn)).1]; exact (hbad (.inr hn)).2.1, (hbad (.inr hn)).2.2, rfl⟩)
  · refine v_seq ?_
    refine v_region ?_
    refine vl_val (os_assign rfl) ?_
    refine vl_nil ?_
    refine v_seq ?_
    refine v_seq ?_
    refine v_region ?_
    refine vl_val (os_move rfl) ?_
    refine vl_val (os_is (os_eqlnil (by kernel_rfl) rfl rfl) (rfl)) ?_
    refine vl_val (os_move rfl) ?_
    refine vl_valg rfl (os_move rfl) ?_
    refine vl_valg rfl (os_nilCheck rfl) ?_
    refine vl_valg rfl (os_fa (o := 0) (k := 2) (by kernel_rfl) rfl) ?_
    refine vl_valg rfl (os_move rfl) ?_
    refine vl_valg rfl (os_t (os_geq rfl rfl) (by omega)) ?_
    refine vl_valg rfl (os_move rfl) ?_
    refine vl_valg rfl (os_move rfl) ?_
    refine vl_valg rfl (os_leq rfl rfl) ?_
    refine vl_valg rfl (os_pick_t rfl rfl) ?_
    refine vl_callg rfl ((pk_unless g _ e _ (decide (size ≤ 4)) 2 _ hbk (by omega)).mono fun u w' hh => (⟨by rw [hh.1, decide_eq_false he]; rfl, by rw [hh.2, if_neg (fun h => he h.1)]⟩ : u = .bool false ∧ w' = w)) rfl ?_
    rintro v2 w ⟨rfl, rfl⟩
    have ho : rnOk e size bs = false := decide_eq_false (fun h => he h.1)
    refine vl_valg rfl (os_not rfl) ?_
    refine vl_val (os_pick_f rfl rfl) ?_
    refine vl_nil ?_
    refine v_cond_t rfl ?_
    refine v_seq ?_
    refine v_region ?_
    refine vl_val (os_assign rfl) ?_
    refine vl_nil ?_
    refine v_ret ?_
    exact post_ret rfl rfl (⟨v, by rw [ho]; rfl, by rw [ho, rnErr, if_neg he]; exact hw, Kb.refl _ _, rfl⟩)
  · refine v_seq ?_
    refine v_region ?_
    refine vl_val (os_assign rfl) ?_
    refine vl_nil ?_
    refine v_seq ?_
    refine v_seq ?_
    refine v_region ?_
    refine vl_val (os_move rfl) ?_
    refine vl_val (os_is (os_eqlnil (by kernel_rfl) rfl rfl) (rfl)) ?_
    refine vl_val (os_move rfl) ?_
    refine vl_valg rfl (os_move rfl) ?_
    refine vl_valg rfl (os_nilCheck rfl) ?_
    refine vl_valg rfl (os_fa (o := 0) (k := 2) (by kernel_rfl) rfl) ?_
    refine vl_valg rfl (os_move rfl) ?_
    refine vl_valg rfl (os_t (os_geq rfl rfl) (by omega)) ?_
    refine vl_valg rfl (os_move rfl) ?_
    refine vl_valg rfl (os_move rfl) ?_
    refine vl_valg rfl (os_leq rfl rfl) ?_
    refine vl_valg rfl (os_pick_t rfl rfl) ?_
    refine vl_callg rfl ((pk_unless g _ 0 _ (decide (size ≤ 4)) 2 _ hbk (by omega)).mono fun u w' hh => (⟨by rw [hh.1, decide_eq_true hn2]; rfl, by rw [hh.2, if_neg (fun h => by have := h.2; rw [decide_eq_true hn2] at this; cases this)]⟩ : u = .bool true ∧ w' = w)) rfl ?_
    rintro v2 w ⟨rfl, rfl⟩
    have ht : takeOk 0 size bs = false := decide_eq_false (by omega)
    have hr : rnOk 0 size bs = false := decide_eq_false (by omega)
    have hte : takeErr 0 size bs = 4 := by unfold takeErr; rw [if_pos rfl, if_neg (show ¬ size < 0 by omega), if_neg (show ¬ size ≤ (bs.length : Int) by omega)]
    have hre : rnErr 0 size bs = 4 := by unfold rnErr; rw [if_pos rfl, if_pos (show 1 ≤ size ∧ size ≤ 4 by omega), if_neg (show ¬ size ≤ (bs.length : Int) by omega)]
    refine vl_valg rfl (os_not rfl) ?_
    refine vl_val (os_pick_f rfl rfl) ?_
    refine vl_nil ?_
    refine v_cond_f rfl ?_
    refine v_skip ?_
    refine v_seq ?_
    refine v_seq ?_
    refine v_region ?_
    refine vl_val (os_move rfl) ?_
    refine vl_val (os_move rfl) ?_
    refine vl_call (pk_Take g v bs 0 size B w hw hB hl) rfl ?_
    rintro u3 w3 ⟨v3, ho3, hr3, hk3, hob3⟩
    rw [ht] at ho3 hr3
    obtain ⟨A3, c3, rfl, -⟩ := OwnK.form ho3
    refine vl_val (os_len Try.underlying22 rfl) ?_
    refine vl_val (os_move rfl) ?_
    refine vl_nil ?_
    refine v_block ?_
    refine v_loop [(24, _), (25, _)] (fun (k : Nat) => [(4, .int .i64 0), (26, .int .i64 k)]) (fun k w' => k = 0 ∧ w' = w3) (fun k => 0) (0) ⟨rfl, rfl, trivial⟩ ⟨rfl, rfl, trivial⟩ (⟨rfl, rfl⟩) ?_
    rintro k w' ⟨rfl, rfl⟩
    refine v_seq ?_
    refine v_region ?_
    refine vl_val (os_lss rfl rfl) ?_
    refine vl_nil ?_
    refine v_seq ?_
    refine v_cond_no rfl (by simp) ?_
    refine v_exit ?_
    refine v_seq ?_
    refine v_region ?_
    refine vl_val (os_move rfl) ?_
    refine vl_val (os_assign rfl) ?_
    refine vl_nil ?_
    refine v_ret ?_
    exact post_ret rfl rfl (⟨v3, by rw [hr]; rfl, by rw [hte] at hr3; rw [hr, hre]; exact hr3, hk3, hob3⟩)
  · refine v_seq ?_
    refine v_region ?_
    refine vl_val (os_assign rfl) ?_
    refine vl_nil ?_
    refine v_seq ?_
    refine v_seq ?_
    refine v_region ?_
    refine vl_val (os_move rfl) ?_
    refine vl_val (os_is (os_eqlnil (by kernel_rfl) rfl rfl) (rfl)) ?_
    refine vl_val (os_move rfl) ?_
    refine vl_valg rfl (os_move rfl) ?_
    refine vl_valg rfl (os_nilCheck rfl) ?_
    refine vl_valg rfl (os_fa (o := 0) (k := 2) (by kernel_rfl) rfl) ?_
    refine vl_valg rfl (os_move rfl) ?_
    refine vl_valg rfl (os_t (os_geq rfl rfl) (by omega)) ?_
    refine vl_valg rfl (os_move rfl) ?_
    refine vl_valg rfl (os_move rfl) ?_
    refine vl_valg rfl (os_leq rfl rfl) ?_
    refine vl_valg rfl (os_pick_t rfl rfl) ?_
    refine vl_callg rfl ((pk_unless g _ 0 _ (decide (size ≤ 4)) 2 _ hbk (by omega)).mono fun u w' hh => (⟨by rw [hh.1, decide_eq_true hn2]; rfl, by rw [hh.2, if_neg (fun h => by have := h.2; rw [decide_eq_true hn2] at this; cases this)]⟩ : u = .bool true ∧ w' = w)) rfl ?_
    rintro v2 w ⟨rfl, rfl⟩
    obtain ⟨s, rfl⟩ : ∃ s : Nat, size = s := ⟨size.toNat, by omega⟩
    have ht : takeOk 0 (s : Int) bs = true := decide_eq_true ⟨rfl, by omega, hn3⟩
    have hr : rnOk 0 (s : Int) bs = true := decide_eq_true ⟨rfl, hn, hn2, hn3⟩
    have hys := hy.take s
    have hte : takeErr 0 (s : Int) bs = 0 := by unfold takeErr; rw [if_pos rfl, if_neg (show ¬ (s : Int) < 0 by omega), if_pos (show (s : Int) ≤ (bs.length : Int) by omega)]
    have hre : rnErr 0 (s : Int) bs = 0 := by unfold rnErr; rw [if_pos rfl, if_pos (show 1 ≤ (s : Int) ∧ (s : Int) ≤ 4 by omega), if_pos (show (s : Int) ≤ (bs.length : Int) by omega)]
    refine vl_valg rfl (os_not rfl) ?_
    refine vl_val (os_pick_f rfl rfl) ?_
    refine vl_nil ?_
    refine v_cond_f rfl ?_
    refine v_skip ?_
    refine v_seq ?_
    refine v_seq ?_
    refine v_region ?_
    refine vl_val (os_move rfl) ?_
    refine vl_val (os_move rfl) ?_
    refine vl_call (pk_Take g v bs 0 s B w hw hB hl) rfl ?_
    rintro u3 w3 ⟨v3, ho3, hr3, hk3, hob3⟩
    rw [ht, if_pos rfl, Int.toNat_natCast] at ho3 hr3
    obtain ⟨A3, c3, rfl, -⟩ := OwnK.form ho3
    have hls : (bs.take s).length = s := by rw [List.length_take]; omega
    rw [hls]
    refine vl_val (os_len Try.underlying22 rfl) ?_
    refine vl_val (os_move rfl) ?_
    refine vl_nil ?_
    refine v_block ?_
    refine v_loop [(24, _), (25, _)] (fun (k : Nat) => [(4, .int .i64 (numOf ((bs.take s).take k))), (26, .int .i64 k)]) (fun k w' => k ≤ s ∧ w' = w3) (fun k => s - k) (0) ⟨rfl, rfl, trivial⟩ ⟨rfl, rfl, trivial⟩ (⟨by omega, rfl⟩) ?_
    rintro k w' ⟨hk, rfl⟩
    refine v_seq ?_
    refine v_region ?_
    refine vl_val (os_lss rfl rfl) ?_
    refine vl_nil ?_
    refine v_seq ?_
    refine v_cond_d rfl (fun hlt => ?_) (fun hlt => ?_)
    · obtain ⟨g3, c3', e3, -⟩ := OwnK.row ho3 (by omega)
      cases e3
      have hb0 := hys.at_ k
      have hb1 := numOf_bound _ (hys.take k)
      have hnx : numOf ((bs.take s).take (k + 1)) = numOf ((bs.take s).take k) * 256 + (bs.take s).getD k 0 := by rw [List.take_succ_eq_append_getElem (by omega), numOf_snoc]; congr 1; rw [List.getD_eq_getElem?_getD, List.getElem?_eq_getElem (by omega)]; rfl
      have hb2 : ((bs.take s).take k).length ≤ 3 := by rw [List.length_take]; omega
      have hb3 : numOf ((bs.take s).take k) < 16777216 := Int.lt_of_lt_of_le hb1.2 (by rcases (by omega : ((bs.take s).take k).length = 0 ∨ ((bs.take s).take k).length = 1 ∨ ((bs.take s).take k).length = 2 ∨ ((bs.take s).take k).length = 3) with h | h | h | h <;> rw [h] <;> decide)
      refine v_skip ?_
      refine v_seq ?_
      refine v_block ?_
      refine v_seq ?_
      refine v_region ?_
      refine vl_val (os_ix Try.underlying22 Try.sizeOf5 rfl rfl (i := k) (by omega) (by omega)) ?_
      refine vl_val (os_load Try.isAgg5 rfl (by rw [Nat.zero_add]; exact OwnK.cell ho3 (by omega))) ?_
      refine vl_val (os_assign rfl) ?_
      refine vl_nil ?_
      refine v_region ?_
      refine vl_val (os_move rfl) ?_
      refine vl_val (os_shl rfl rfl (by omega) (shl8 ⟨hb1.1, hb3⟩)) ?_
      refine vl_val (os_move rfl) ?_
      refine vl_val (os_conv Try.underlying5 Try.underlying3 rfl (by rw [i64_fit (by omega)])) ?_
      refine vl_val (os_or rfl rfl (or_byte ⟨hb1.1, hb3⟩ hb0)) ?_
      refine vl_val (os_assign rfl) ?_
      refine vl_nil ?_
      refine v_region ?_
      refine vl_val (os_addi rfl rfl (by omega)) ?_
      refine vl_val (os_move rfl) ?_
      refine vl_nil ?_
      exact ⟨k + 1, ⟨rfl, rfl, trivial⟩, ⟨by rw [hnx]; rfl, rfl, trivial⟩, ⟨by omega, rfl⟩, by dsimp only; omega⟩
    · obtain rfl : s = k := by omega
      refine v_exit ?_
      refine v_seq ?_
      refine v_region ?_
      refine vl_val (os_move rfl) ?_
      refine vl_val (os_assign rfl) ?_
      refine vl_nil ?_
      refine v_ret ?_
      exact post_ret rfl rfl (⟨v3, by rw [hr, if_pos rfl, Int.toNat_natCast]; congr 2; rw [List.take_of_length_le (by omega)], by rw [hte] at hr3; rw [hr, if_pos rfl, Int.toNat_natCast, hre]; exact hr3, hk3, hob3⟩)
end Go.Proofs.Ytpojijnjdlnokaa
