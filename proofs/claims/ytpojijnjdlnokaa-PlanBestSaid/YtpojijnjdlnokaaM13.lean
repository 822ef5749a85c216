/- Texts joined: Tw. -/
import Derived.Test.YtpojijnjdlnokaaM12
import Derived.Laws.StructEq
/- Structs of two numbers: how they compare; the law's kit: lists of such that are lent, with marks behind their ends; whether they, and the marks, are still as they were. -/
namespace Go.Proofs.Ytpojijnjdlnokaa
open Go.RowKit
set_option linter.unusedVariables false

section
variable {P : Program} {n : Cx} {fr : Fr} {w w' : World} {ty : TypeId} {x y z : Operand} {v u : Value} {T T2 e : TypeId} {op : Op}
theorem run_part_int {t : TypeId} {cs : Array Value} {i : Nat} {v : Value} (h : ∀ w, (isAgg t).run P w = .ok false w) (hv : cs[i]? = some v) (w : World) : (part t cs i).run P w = .ok v w := by
  simp [part, h, hv]
theorem run_eqS2 {tI : TypeId} {x1 x2 y1 y2 : Int} (d : Nat) (hu : P.underlying T = some (.struct (P.fieldsOf T))) (hp : P.stoodInHeld T = false)
    (hf : (P.fieldsOf T).toList.map (fun f => (f.name == "_", f.type, f.offset)) = [(false, tI, 0), (false, tI, 1)]) (hI : P.underlying tI = some (.int .i64)) (hA : ∀ w, (isAgg tI).run P w = .ok false w) :
    (Op.equalIn (d + 1 + 1) T (.agg #[.int .i64 x1, .int .i64 x2]) (.agg #[.int .i64 y1, .int .i64 y2])).run P w = .ok (decide (x1 = y1 ∧ x2 = y2)) w := by
  rw [run_equalIn_agg (P := P) w (d + 1) T _ _ hu hp]
  obtain ⟨f1, f2, e, n1, t1, o1, n2, t2, o2⟩ : ∃ f1 f2, (P.fieldsOf T).toList = [f1, f2] ∧ f1.name ≠ "_" ∧ f1.type = tI ∧ f1.offset = 0 ∧ f2.name ≠ "_" ∧ f2.type = tI ∧ f2.offset = 1 := by
    match h : (P.fieldsOf T).toList with
    | [] => rw [h] at hf; simp at hf
    | [f1] => rw [h] at hf; simp at hf
    | f1 :: f2 :: f3 :: r => rw [h] at hf; simp at hf
    | [f1, f2] =>
      rw [h] at hf
      simp at hf
      exact ⟨f1, f2, rfl, hf.1.1, hf.1.2.1, hf.1.2.2, hf.2.1, hf.2.2.1, hf.2.2.2⟩
  rw [e]
  have q1 : ∀ w, (part tI #[.int .i64 x1, .int .i64 x2] 0).run P w = .ok (.int .i64 x1) w := run_part_int hA rfl
  have q2 : ∀ w, (part tI #[.int .i64 x1, .int .i64 x2] 1).run P w = .ok (.int .i64 x2) w := run_part_int hA rfl
  have q3 : ∀ w, (part tI #[.int .i64 y1, .int .i64 y2] 0).run P w = .ok (.int .i64 y1) w := run_part_int hA rfl
  have q4 : ∀ w, (part tI #[.int .i64 y1, .int .i64 y2] 1).run P w = .ok (.int .i64 y2) w := run_part_int hA rfl
  have e1 := fun (a b : Int) (w : World) => run_equalIn_int (P := P) w d tI .i64 .i64 a b hI
  simp only [Op.eqFields, ne_eq, n1, n2, not_false_eq_true, if_true, t1, o1, t2, o2, Sem.run_bind, q1, q2, q3, q4, e1, Result.andThen_ok, Sem.run_ite, Sem.run_pure]
  by_cases c1 : x1 = y1 <;> by_cases c2 : x2 = y2 <;> simp [c1, c2]

/-- two structs of two integers each -/
theorem os_eqlS2 {tI : TypeId} {x1 x2 y1 y2 : Int} (hg : P.eqGuardType P.depth T = false) (hu : P.underlying T = some (.struct (P.fieldsOf T))) (hp : P.stoodInHeld T = false)
    (hf : (P.fieldsOf T).toList.map (fun f => (f.name == "_", f.type, f.offset)) = [(false, tI, 0), (false, tI, 1)]) (hI : P.underlying tI = some (.int .i64)) (hA : ∀ w, (isAgg tI).run P w = .ok false w)
    (hx : Fr.ev fr x = some (.agg #[.int .i64 x1, .int .i64 x2])) (hy : Fr.ev fr y = some (.agg #[.int .i64 y1, .int .i64 y2])) :
    OS P n (.binOp .eql T x y T2) ty fr w (.bool (decide (x1 = y1 ∧ x2 = y2))) w := os_of fun a ha => by
  have h1 := run_eqGuard_agg (P := P) w .eql T x y #[.int .i64 x1, .int .i64 x2] #[.int .i64 y1, .int .i64 y2] hg
  have h2 : (Op.equalIn 10000 T (.agg #[.int .i64 x1, .int .i64 x2]) (.agg #[.int .i64 y1, .int .i64 y2])).run P w = .ok (decide (x1 = y1 ∧ x2 = y2)) w := by
    exact run_eqS2 9998 hu hp hf hI hA
  have h3 := run_eql_struct (P := P) w T #[.int .i64 x1, .int .i64 x2] #[.int .i64 y1, .int .i64 y2]
  rw [h2] at h3
  simp [execOp, ha.ev hx, ha.ev hy, h1, h3, Result.andThen]

/-- make([]T, 0, n) of structs -/
theorem ot_make0_p {k k2 : IntKind} {m c : Int} {l s : Nat} {z0 : Value} {bytes : Nat} (hT : P.underlying T = some (.slice e)) (hi : TyInfo P e z0 s bytes) (hx : Fr.ev fr x = some (.int k m)) (hy : Fr.ev fr y = some (.int k2 c)) (hm : m = 0) (hc : c = (l : Int))
    (hb : bytes * l ≤ 281474976710656) (hl : l ≤ maxLen) (B : Nat) (hB : B ≤ w.heap.size) : OT P n (.makeSlice T x y) ty fr w fun v w' => v = .slice (some ⟨w.heap.size, 0, none⟩) 0 l ∧ OwnP w' B e s v [] ∧ w.grownBy w' none := by
  subst hm; subst hc
  obtain ⟨i, h1, h2, h3, h4⟩ := info_parts hi
  obtain ⟨w', hr, ho, hg⟩ := run_make_own (P := P) w B T e i z0 s hT h1 h2 h3 k k2 l (by rw [h4]; exact hb) hl hB
  exact ot_of fun a ha => ⟨_, w', by simp [execOp, ha.ev hx, ha.ev hy, hr, Result.andThen], rfl, ⟨fun c hc => (by cases hc), ho⟩, hg⟩
/-- append(s, x...) of structs; x may be empty -/
theorem ot_append_pn {A : Option Addr} {m c s : Nat} {ps news : List (List Value)} {z0 : Value} {bytes : Nat} {B : Nat} (hT : P.underlying T = some (.slice e)) (hi : TyInfo P e z0 s bytes) (hz : z0.cells.size = s) (hs0 : 0 < s) (hx : Fr.ev fr x = some v) (hy : Fr.ev fr y = some (.slice A m c))
    (ho : OwnP w B e s v ps) (hr : RdP w s A news) (hnl : ∀ c ∈ news, c.length = s) (hm : m = news.length) (h1 : ∀ c ∈ news, ∀ u ∈ c, u.oneCell' = true) (hb : (ps.length + m) * bytes ≤ 140737488355328) (hl : ps.length + m ≤ maxLen) (hB : B ≤ w.heap.size) :
    OT P n (.call ⟨.builtin .append, #[x, y], #[T, T]⟩) ty fr w fun v' w' => OwnP w' B e s v' (ps ++ news) ∧ w.grownBy w' v.ownBlock := by
  by_cases h0 : 0 < news.length
  · exact (ot_append_p hT hi hz hs0 hx hy ho hr hnl hm h0 h1 hb hl hB).mono fun v w' ⟨a, b, _⟩ => ⟨a, b⟩
  · have hnil : news = [] := List.eq_nil_of_length_eq_zero (by omega)
    subst hnil
    have hm0 : m = 0 := by simpa using hm
    subst hm0
    obtain ⟨i, i1, i2, i3, i4⟩ := info_parts hi
    have hrun : (Builtin.append_ #[T, T] ty #[v, .slice A 0 c]).run P w = .ok v w := by
      rcases ho.2.2 with ⟨rfl, h2⟩ | ⟨g, cap, cur, rfl, _, _, hnc, _⟩
      · cases A <;> simp [Builtin.append_, run_underlying hT, sizeOf, typeInfo, i1, Builtin.lenOf, Builtin.firstCells, loadCells, loadCellsFrom]
      · cases A <;> simp [Builtin.append_, run_underlying hT, sizeOf, typeInfo, i1, Builtin.lenOf, Builtin.firstCells, hnc, storeCells, loadCells, loadCellsFrom]
    refine ot_of fun a ha => ⟨v, w, by simp [execOp, resolve, invoke, builtin, ha.ev hx, ha.ev hy, hrun, Result.andThen], by simpa using ho, World.grownBy.refl _ _⟩
end

def marksP (n : Nat) : List (Int × Int) := (List.range n).map fun (i : Nat) => (markZ 1 (i : Int), 0)
theorem marksP_len (n : Nat) : (marksP n).length = n := by simp [marksP]
theorem marksP_succ (n : Nat) : marksP (n + 1) = marksP n ++ [(markZ 1 n, 0)] := by simp [marksP, List.range_succ]
theorem marksP_at {n i : Nat} (hi : i < n) : (marksP n).getD i (0, 0) = (markZ 1 i, 0) := by simp [marksP, hi]
/-- v is a list of structs of two numbers that the kit has lent -/
def LentW (w : World) (B : Nat) (t : TypeId) (v : Value) (ps : List (Int × Int)) : Prop :=
  ∃ g C, v = .slice (some ⟨g, 0, none⟩) ps.length C ∧ ps.length + 12 ≤ C ∧ OwnP w B t 2 (.slice (some ⟨g, 0, none⟩) (ps ++ marksP 12).length C) ((ps ++ marksP 12).map rowC)
theorem LentW.keep {w w' B t v ps} (h : LentW w B t v ps) (hb : Below w.heap.size w w') : LentW w' B t v ps := by
  obtain ⟨g, C, e, hc, ho⟩ := h
  exact ⟨g, C, e, hc, OwnP.keepAll ho hb⟩
theorem LentW.led {w w' B t v ps} (h : LentW w B t v ps) (hb : LeD w w') : LentW w' B t v ps := by
  obtain ⟨g, C, e, hc, ho⟩ := h
  exact ⟨g, C, e, hc, OwnP.led ho hb⟩
theorem OwnP.rdp {w B t s A n c ps} (h : OwnP w B t s (.slice A n c) ps) : RdP w s A ps := by
  obtain ⟨A', c', e, _, _, hr⟩ := h.form
  cases e
  exact hr
theorem OwnP.row {w B t s v ps} (h : OwnP w B t s v ps) (h0 : 0 < ps.length) : ∃ g c, v = .slice (some ⟨g, 0, none⟩) ps.length c ∧ ps.length ≤ c ∧ c ≤ maxLen := by
  rcases h.2.2 with ⟨rfl, h1⟩ | ⟨g, cap, cur, rfl, hB, hg, hn, hm, hs, ht⟩
  · omega
  · exact ⟨g, cap, rfl, hn, hm⟩
theorem LentW.form {w B t v ps} (h : LentW w B t v ps) : ∃ g C, v = .slice (some ⟨g, 0, none⟩) ps.length C ∧ ps.length + 12 ≤ C ∧ B ≤ g ∧ g < w.heap.size ∧ RdP w 2 (some ⟨g, 0, none⟩) (ps.map rowC) := by
  obtain ⟨g, C, e, hc, ho⟩ := h
  have h1 := OwnP.lt ho g rfl
  have h2 := (OwnP.rdp ho).take ps.length
  rw [List.map_append, show (ps.map rowC ++ (marksP 12).map rowC).take ps.length = ps.map rowC by rw [show ps.length = (ps.map rowC).length by simp, List.take_left]] at h2
  exact ⟨g, C, e, hc, h1.1, h1.2, h2⟩

theorem lent_b0 {n : Nat} (h : n ≤ 100000000) : 16 * (n + 12) ≤ 281474976710656 := by omega
theorem lent_b1 {n : Nat} (h : n ≤ 100000000) : n + 12 ≤ maxLen := by simp [maxLen]; omega
theorem lent_b2 {n i : Nat} (h : n ≤ 100000000) (hi : i < 12) : (n + i + 1) * 16 ≤ 140737488355328 := by omega
theorem lent_b3 {n i : Nat} (h : n ≤ 100000000) (hi : i < 12) : n + i + 1 ≤ maxLen := by simp [maxLen]; omega
theorem lent_b4 {n : Nat} (h : n ≤ 100000000) : n * 16 ≤ 140737488355328 := by omega
theorem lent_b5 {n : Nat} (h : n ≤ 100000000) : n ≤ maxLen := by simp [maxLen]; omega
theorem ti_wTable : TyInfo Try.prog 62 (.agg #[.int .i64 0, .int .i64 0]) 2 16 := by unfold TyInfo; kernel_rfl
theorem kit_markRow (k i : Int) (w : World) (hk : 0 ≤ k ∧ k ≤ 1000000000) (hi : 0 ≤ i ∧ i ≤ 1000000000000000) : Gives Try.prog 153 #[.int .i64 k, .int .i64 i] w fun v w' => v = .agg #[.int .i64 (markZ k i), .int .i64 0] ∧ Below w.heap.size w w' := by
  have hB0 := bk_new w [.int .i64 0, .int .i64 0] 62
  have hb0 : Below w.heap.size w (w.alloc (.cells [Value.int .i64 0, .int .i64 0].toArray 62)) := (Below.refl _ w).alloc (Nat.le_refl _) _
  refine gives_enter Try.call153 Try.func153 rfl rfl rfl (by kernel_rfl) ?_
  refine v_seq ?_
  refine v_region ?_
  refine vl_val (os_allocB Try.zeroValue62 (zc := _) (cs := [.int .i64 0, .int .i64 0]) rfl) ?_
  refine vl_nil ?_
  refine v_seq ?_
  refine v_region ?_
  refine vl_val (os_move rfl) ?_
  refine vl_val (os_move rfl) ?_
  refine vl_call (kit_mark k i _ hk hi) rfl ?_
  rintro v1 w1 ⟨rfl, rfl⟩
  refine vl_val (os_build (cs := [.int .i64 (markZ k i), .int .i64 0]) rfl (by kernel_rfl)) ?_
  refine vl_unit (ou_storeB (by kernel_rfl) rfl rfl hB0 rfl rfl) ?_
  refine vl_nil ?_
  refine v_ret ?_
  exact post_cell rfl rfl Try.underlying62 rfl (by kernel_rfl) (setRow_bk hB0 [.int .i64 (markZ k i), .int .i64 0]) ⟨rfl, below_setRow hb0 (Nat.le_refl _) _⟩
set_option maxHeartbeats 1000000 in
theorem kit_LentTable (A : Option Addr) (n c : Nat) (ps : List (Int × Int)) (w : World) (ha : RdP w 2 A (ps.map rowC)) (hn : n = ps.length) (hb : n ≤ 100000000) : Gives Try.prog 120 #[.slice A n c] w fun v w' => LentW w' w.heap.size 62 v ps ∧ Below w.heap.size w w' := by
  refine gives_enter Try.call120 Try.func120 rfl rfl rfl (by kernel_rfl) ?_
  refine v_seq ?_
  refine v_region ?_
  refine vl_val (os_assign rfl) ?_
  refine vl_nil ?_
  refine v_seq ?_
  refine v_region ?_
  refine vl_val (os_move rfl) ?_
  refine vl_val (os_len Try.underlying63 rfl) ?_
  refine vl_val (os_addi rfl rfl (by omega)) ?_
  refine vl_some (ot_make0_p (l := n + 12) Try.underlying63 ti_wTable rfl rfl rfl rfl (lent_b0 hb) (lent_b1 hb) w.heap.size (Nat.le_refl _)) ?_
  rintro v1 w1 ⟨rfl, ho, hg⟩
  have hb1 : Below w.heap.size w w1 := (Below.refl _ _).grown hg (Nat.le_refl _) (fun k hk => by cases hk)
  refine vl_val (os_assign rfl) ?_
  refine vl_nil ?_
  refine v_seq ?_
  refine v_region ?_
  refine vl_val (os_move rfl) ?_
  refine vl_val (os_move rfl) ?_
  refine vl_some (ot_append_pn Try.underlying63 ti_wTable rfl (by decide) rfl rfl ho (ha.keep hb1) (rowC_len _) (by simp [hn]) (rowC_one _) (by simpa using lent_b4 hb) (by simpa using lent_b5 hb) hb1.size) ?_
  rintro v2 w2 ⟨ho2, hg2⟩
  have hb2 := OwnP.below hb1 ho hg2 (Nat.le_refl _) hb1.size
  refine vl_val (os_assign rfl) ?_
  refine vl_nil ?_
  refine v_seq ?_
  refine v_seq ?_
  refine v_region ?_
  refine vl_val (os_assign rfl) ?_
  refine vl_nil ?_
  refine v_block ?_
  refine v_loop2 [(0, _)] (fun (v : Value) (i : Nat) => [(3, v), (4, .int .i64 i)]) (fun v i w' => i ≤ 12 ∧ OwnP w' w.heap.size 62 2 v ((ps ++ marksP i).map rowC) ∧ Below w.heap.size w w') (fun v i => 12 - i) (v2) (0) ⟨rfl, trivial⟩ ⟨rfl, rfl, trivial⟩ (⟨by omega, by simpa [marksP] using ho2, hb2⟩) ?_
  rintro v i w3 ⟨hi, ho3, hb3⟩
  refine v_seq ?_
  refine v_seq ?_
  refine v_region ?_
  refine vl_val (os_move rfl) ?_
  refine vl_val (os_lss rfl rfl) ?_
  refine vl_nil ?_
  refine v_cond_d rfl (fun h => ?_) (fun h => ?_)
  · refine v_skip ?_
    refine v_seq ?_
    refine v_block ?_
    refine v_region ?_
    refine vl_val (os_move rfl) ?_
    refine vl_val (os_move rfl) ?_
    refine vl_call (kit_markRow 1 i w3 (by omega) (by omega)) rfl ?_
    rintro v4 w4 ⟨rfl, hb34⟩
    have hb4 := hb3.trans (hb34.mono hb3.size)
    have eln : ((ps ++ marksP i).map rowC).length = n + i := by simp [marksP_len, hn]
    refine vl_val (os_litS (css := [[.int .i64 (markZ 1 i), .int .i64 0]]) Try.underlying63 Try.sizeOf62 Try.zeroValue62 rfl rfl (by intro c hc; simp at hc; subst hc; rfl) (by decide) (by decide) (by decide)) ?_
    refine vl_some (ot_append_pn Try.underlying63 ti_wTable rfl (by decide) rfl rfl (OwnP.alloc (OwnP.keepAll ho3 hb34) _) (rdp_alloc _ _ _ (by intro c hc; simp at hc; subst hc; rfl)) (by intro c hc; simp at hc; subst hc; rfl) rfl (by intro c hc u hu; simp at hc; subst hc; simp at hu; rcases hu with rfl | rfl <;> rfl) (by rw [eln]; exact lent_b2 hb (by omega)) (by rw [eln]; exact lent_b3 hb (by omega)) (hb4.alloc hb4.size _).size) ?_
    rintro v5 w5 ⟨ho5, hg5⟩
    refine vl_val (os_assign rfl) ?_
    refine vl_nil ?_
    refine v_region ?_
    refine vl_val (os_move rfl) ?_
    refine vl_val (os_addi rfl rfl (by omega)) ?_
    refine vl_val (os_assign rfl) ?_
    refine vl_nil ?_
    exact ⟨⟨v5, i + 1⟩, ⟨rfl, trivial⟩, ⟨rfl, rfl, trivial⟩, ⟨by omega, by rw [marksP_succ, ← List.append_assoc, List.map_append]; exact ho5, OwnP.below (hb4.alloc hb4.size _) (OwnP.alloc (OwnP.keepAll ho3 hb34) _) hg5 (Nat.le_refl _) (hb4.alloc hb4.size _).size⟩, by dsimp only; omega⟩
  · obtain rfl : i = 12 := by omega
    have h12 : 0 < ((ps ++ marksP 12).map rowC).length := by simp [marksP_len]
    obtain ⟨g, C, rfl, h1, h2⟩ := OwnP.row ho3 h12
    have e12 : ((ps ++ marksP 12).map rowC).length = n + 12 := by simp [marksP_len, hn]
    rw [e12] at h1
    refine v_exit ?_
    refine v_seq ?_
    refine v_region ?_
    refine vl_val (os_move rfl) ?_
    refine vl_val (os_move rfl) ?_
    refine vl_val (os_len Try.underlying63 rfl) ?_
    refine vl_val (os_slice_h Try.underlying63 Try.sizeOf62 rfl rfl (h := n) (by omega) (by omega)) ?_
    refine vl_val (os_assign rfl) ?_
    refine vl_nil ?_
    refine v_ret ?_
    exact post_ret rfl rfl (⟨⟨g, C, by rw [hn], by omega, by simpa [marksP_len] using ho3⟩, hb3⟩)
set_option maxHeartbeats 1000000 in
theorem kit_KeptTable (v : Value) (B : Nat) (A : Option Addr) (n c : Nat) (ps : List (Int × Int)) (w : World) (hv : LentW w B 62 v ps) (ha : RdP w 2 A (ps.map rowC)) (hn : n = ps.length) (hb : n ≤ 100000000) : Gives Try.prog 130 #[v, .slice A n c] w fun v w' => v = .bool true ∧ Below w.heap.size w w' := by
  obtain ⟨g, C, rfl, hC, ho⟩ := hv
  refine gives_enter Try.call130 Try.func130 rfl rfl rfl (by kernel_rfl) ?_
  refine v_seq ?_
  refine v_region ?_
  refine vl_val (os_assign rfl) ?_
  refine vl_nil ?_
  refine v_seq ?_
  refine v_seq ?_
  refine v_region ?_
  refine vl_val (os_move rfl) ?_
  refine vl_val (os_len Try.underlying63 rfl) ?_
  refine vl_val (os_move rfl) ?_
  refine vl_val (os_len Try.underlying63 rfl) ?_
  refine vl_val (os_neq rfl rfl) ?_
  refine vl_nil ?_
  refine v_cond_no rfl (by omega) ?_
  refine v_skip ?_
  refine v_seq ?_
  refine v_region ?_
  refine vl_val (os_move rfl) ?_
  refine vl_val (os_move rfl) ?_
  refine vl_val (os_len Try.underlying63 rfl) ?_
  refine vl_val (os_addi rfl rfl (by omega)) ?_
  refine vl_val (os_slice_h Try.underlying63 Try.sizeOf62 rfl rfl (h := n + 12) (by omega) (by omega)) ?_
  refine vl_val (os_assign rfl) ?_
  refine vl_nil ?_
  refine v_seq ?_
  refine v_seq ?_
  refine v_region ?_
  refine vl_val (os_assign rfl) ?_
  refine vl_nil ?_
  refine v_block ?_
  refine v_loop [(1, _), (5, _)] (fun (i : Nat) => [(6, .int .i64 i)]) (fun i w' => i ≤ n + 12 ∧ Below w.heap.size w w') (fun i => n + 12 - i) (0) ⟨rfl, rfl, trivial⟩ ⟨rfl, trivial⟩ (⟨by omega, Below.refl _ _⟩) ?_
  rintro i w1 ⟨hi, hq⟩
  refine v_seq ?_
  refine v_seq ?_
  refine v_region ?_
  refine vl_val (os_move rfl) ?_
  refine vl_val (os_move rfl) ?_
  refine vl_val (os_len Try.underlying63 rfl) ?_
  refine vl_val (os_lss rfl rfl) ?_
  refine vl_nil ?_
  refine v_cond_d rfl (fun h => ?_) (fun h => ?_)
  · have hr := OwnP.rdp (OwnP.keepAll ho hq)
    obtain ⟨bg, og, eg, c1, c2, hrc⟩ := RdP.at2 hr (i := i) (by rw [List.length_append, marksP_len]; omega)
    cases eg
    rcases Nat.lt_or_ge i n with hlt | hge
    · obtain ⟨bA, oA, rfl, d1, d2, hra⟩ := RdP.at2 (show RdP w1 2 A (ps.map rowC) from ha.keep hq) (i := i) (by omega)
      rw [show (ps ++ marksP 12).getD i (0, 0) = ps.getD i (0, 0) by simp [List.getElem?_append, show i < ps.length by omega]] at hrc
      refine v_skip ?_
      refine v_seq ?_
      refine v_block ?_
      refine v_seq ?_
      refine v_region_t LeG _ mixed (by kernel_rfl) lee_g (leg_start _) ?_
      refine vt_val (fun w hw => os_move rfl) ?_
      refine vt_val (fun w hw => os_move rfl) ?_
      refine vt_val (fun w hw => os_len Try.underlying63 rfl) ?_
      refine vt_val (fun w hw => os_t (os_lss rfl rfl) (by omega)) ?_
      refine vt_val (fun w hw => os_move rfl) ?_
      refine vt_valg rfl (fun w hw => os_move rfl) ?_
      refine vt_valg rfl (fun w hw => os_move rfl) ?_
      refine vt_valg rfl (fun w hw => os_ixs Try.underlying63 Try.sizeOf62 rfl rfl (i := i) (by omega) (by omega)) ?_
      refine vt_valg rfl (fun w hw => os_loadP Try.underlying62 rfl (by kernel_rfl) rfl (hrc.keep hw)) ?_
      refine vt_valg rfl (fun w hw => os_move rfl) ?_
      refine vt_valg rfl (fun w hw => os_move rfl) ?_
      refine vt_valg rfl (fun w hw => os_ixs Try.underlying63 Try.sizeOf62 rfl rfl (i := i) (by omega) (by omega)) ?_
      refine vt_valg rfl (fun w hw => os_loadP Try.underlying62 rfl (by kernel_rfl) rfl (hra.keep hw)) ?_
      refine vt_valg rfl (fun w hw => os_t (os_eqlS2 Try.eqGuardType62 (by kernel_rfl) Try.stoodInHeld62 (by kernel_rfl) Try.underlying3 Try.isAgg3 rfl rfl) ((by simp))) ?_
      refine vt_valg rfl (fun w hw => os_not rfl) ?_
      refine vt_val (fun w hw => os_pick_t rfl rfl) ?_
      refine vt_val (fun w hw => os_move rfl) ?_
      refine vt_valg rfl (fun w hw => os_move rfl) ?_
      refine vt_valg rfl (fun w hw => os_move rfl) ?_
      refine vt_valg rfl (fun w hw => os_len Try.underlying63 rfl) ?_
      refine vt_valg rfl (fun w hw => os_f (os_geq rfl rfl) (by omega)) ?_
      refine vt_valg rfl (fun w hw => os_move rfl) ?_
      refine vt_skip rfl rfl ?_
      refine vt_skip rfl rfl ?_
      refine vt_skip rfl rfl ?_
      refine vt_skip rfl rfl ?_
      refine vt_skip rfl rfl ?_
      refine vt_skip rfl rfl ?_
      refine vt_skip rfl rfl ?_
      refine vt_skip rfl rfl ?_
      refine vt_skip rfl rfl ?_
      refine vt_skip rfl rfl ?_
      refine vt_skip rfl rfl ?_
      refine vt_valg rfl (fun w hw => os_pick_f rfl rfl) ?_
      refine vt_val (fun w hw => os_pick_f rfl rfl) ?_
      refine vt_nil (fun Hw H => ?_)
      refine v_cond_f rfl ?_
      refine v_skip ?_
      refine v_region ?_
      refine vl_val (os_move rfl) ?_
      refine vl_val (os_addi rfl rfl (by omega)) ?_
      refine vl_val (os_assign rfl) ?_
      refine vl_nil ?_
      exact ⟨i + 1, ⟨rfl, rfl, trivial⟩, ⟨rfl, trivial⟩, ⟨by omega, hq.trans (H.mono hq.size)⟩, by dsimp only; omega⟩
    · rw [show (ps ++ marksP 12).getD i (0, 0) = (markZ 1 ((i : Int) - (n : Int)), 0) by
        have e : (ps ++ marksP 12).getD i (0, 0) = (marksP 12).getD (i - ps.length) (0, 0) := by simp [List.getElem?_append, show ¬ i < ps.length by omega]
        rw [e, marksP_at (by omega)]; congr 2; omega] at hrc
      refine v_skip ?_
      refine v_seq ?_
      refine v_block ?_
      refine v_seq ?_
      refine v_region_t LeG _ mixed (by kernel_rfl) lee_g (leg_start _) ?_
      refine vt_val (fun w hw => os_move rfl) ?_
      refine vt_val (fun w hw => os_move rfl) ?_
      refine vt_val (fun w hw => os_len Try.underlying63 rfl) ?_
      refine vt_val (fun w hw => os_f (os_lss rfl rfl) (by omega)) ?_
      refine vt_val (fun w hw => os_move rfl) ?_
      refine vt_skip rfl rfl ?_
      refine vt_skip rfl rfl ?_
      refine vt_skip rfl rfl ?_
      refine vt_skip rfl rfl ?_
      refine vt_skip rfl rfl ?_
      refine vt_skip rfl rfl ?_
      refine vt_skip rfl rfl ?_
      refine vt_skip rfl rfl ?_
      refine vt_skip rfl rfl ?_
      refine vt_skip rfl rfl ?_
      refine vt_val (fun w hw => os_pick_f rfl rfl) ?_
      refine vt_val (fun w hw => os_move rfl) ?_
      refine vt_valg rfl (fun w hw => os_move rfl) ?_
      refine vt_valg rfl (fun w hw => os_move rfl) ?_
      refine vt_valg rfl (fun w hw => os_len Try.underlying63 rfl) ?_
      refine vt_valg rfl (fun w hw => os_t (os_geq rfl rfl) (by omega)) ?_
      refine vt_valg rfl (fun w hw => os_move rfl) ?_
      refine vt_valg rfl (fun w hw => os_move rfl) ?_
      refine vt_valg rfl (fun w hw => os_move rfl) ?_
      refine vt_valg rfl (fun w hw => os_ixs Try.underlying63 Try.sizeOf62 rfl rfl (i := i) (by omega) (by omega)) ?_
      refine vt_valg rfl (fun w hw => os_loadP Try.underlying62 rfl (by kernel_rfl) rfl (hrc.keep hw)) ?_
      refine vt_valg rfl (fun w hw => os_move rfl) ?_
      refine vt_valg rfl (fun w hw => os_move rfl) ?_
      refine vt_valg rfl (fun w hw => os_len Try.underlying63 rfl) ?_
      refine vt_valg rfl (fun w hw => os_subi rfl rfl (by omega)) ?_
      refine vt_callg rfl (v := _) (fun w hw => kit_markRow 1 ((i : Int) - (n : Int)) w (by omega) (by omega)) rfl ?_
      refine vt_valg rfl (fun w hw => os_t (os_eqlS2 Try.eqGuardType62 (by kernel_rfl) Try.stoodInHeld62 (by kernel_rfl) Try.underlying3 Try.isAgg3 rfl rfl) ((by simp))) ?_
      refine vt_valg rfl (fun w hw => os_not rfl) ?_
      refine vt_valg rfl (fun w hw => os_pick_t rfl rfl) ?_
      refine vt_val (fun w hw => os_pick_f rfl rfl) ?_
      refine vt_nil (fun Hw H => ?_)
      refine v_cond_f rfl ?_
      refine v_skip ?_
      refine v_region ?_
      refine vl_val (os_move rfl) ?_
      refine vl_val (os_addi rfl rfl (by omega)) ?_
      refine vl_val (os_assign rfl) ?_
      refine vl_nil ?_
      exact ⟨i + 1, ⟨rfl, rfl, trivial⟩, ⟨rfl, trivial⟩, ⟨by omega, hq.trans (H.mono hq.size)⟩, by dsimp only; omega⟩
  · refine v_exit ?_
    refine v_seq ?_
    refine v_region ?_
    refine vl_val (os_assign rfl) ?_
    refine vl_nil ?_
    refine v_ret ?_
    exact post_ret rfl rfl (⟨rfl, hq⟩)
theorem ti_wCounts : TyInfo Try.prog 201 (.agg #[.int .i64 0, .int .i64 0]) 2 16 := by unfold TyInfo; kernel_rfl
theorem kit_markCount (k i : Int) (w : World) (hk : 0 ≤ k ∧ k ≤ 1000000000) (hi : 0 ≤ i ∧ i ≤ 1000000000000000) : Gives Try.prog 155 #[.int .i64 k, .int .i64 i] w fun v w' => v = .agg #[.int .i64 (markZ k i), .int .i64 0] ∧ Below w.heap.size w w' := by
  have hB0 := bk_new w [.int .i64 0, .int .i64 0] 201
  have hb0 : Below w.heap.size w (w.alloc (.cells [Value.int .i64 0, .int .i64 0].toArray 201)) := (Below.refl _ w).alloc (Nat.le_refl _) _
  refine gives_enter Try.call155 Try.func155 rfl rfl rfl (by kernel_rfl) ?_
  refine v_seq ?_
  refine v_region ?_
  refine vl_val (os_allocB Try.zeroValue201 (zc := _) (cs := [.int .i64 0, .int .i64 0]) rfl) ?_
  refine vl_nil ?_
  refine v_seq ?_
  refine v_region ?_
  refine vl_val (os_move rfl) ?_
  refine vl_val (os_move rfl) ?_
  refine vl_call (kit_mark k i _ hk hi) rfl ?_
  rintro v1 w1 ⟨rfl, rfl⟩
  refine vl_val (os_build (cs := [.int .i64 (markZ k i), .int .i64 0]) rfl (by kernel_rfl)) ?_
  refine vl_unit (ou_storeB (by kernel_rfl) rfl rfl hB0 rfl rfl) ?_
  refine vl_nil ?_
  refine v_ret ?_
  exact post_cell rfl rfl Try.underlying201 rfl (by kernel_rfl) (setRow_bk hB0 [.int .i64 (markZ k i), .int .i64 0]) ⟨rfl, below_setRow hb0 (Nat.le_refl _) _⟩
end Go.Proofs.Ytpojijnjdlnokaa
