/- Texts joined: Tw PeP. -/
import Derived.Test.YtpojijnjdlnokaaM15
import Derived.Laws.StructEq
/- Structs of two numbers: how they compare; the law's kit: lists of such that are lent, with marks behind their ends; whether they, and the marks, are still as they were. -/
namespace Go.Proofs.Ytpojijnjdlnokaa
open Go.RowKit
set_option linter.unusedVariables false

section
variable {P : Program} {n : Cx} {fr : Fr} {w w' : World} {ty : TypeId} {x y z : Operand} {v u : Value} {T T2 e : TypeId} {op : Op}
theorem run_part_int {t : TypeId} {cs : Array Value} {i : Nat} {v : Value} (h : ∀ w, (isAgg t).run P w = .ok false w) (hv : cs[i]? = some v) (w : World) : (part t cs i).run P w = .ok v w := by
  simp [part, h, hv]
theorem run_eqS2 {tI : TypeId} {x1 x2 y1 y2 : Int} (d : Nat) (hu : P.underlying T = some (.struct (P.fieldsOf T))) (hp : P.stoodInHeld T = false)
    (hf : (P.fieldsOf T).toList.map (fun f => (f.name == "_", f.type, f.offset)) = [(false, tI, 0), (false, tI, 1)]) (hI : P.underlying tI = some (.int .i64)) (hA : ∀ w, (isAgg tI).run P w = .ok false w) :
    (Op.equalIn (d + 1 + 1) T (.agg #[.int .i64 x1, .int .i64 x2]) (.agg #[.int .i64 y1, .int .i64 y2])).run P w = .ok (decide (x1 = y1 ∧ x2 = y2)) w := by
  rw [run_equalIn_agg (P := P) w (d + 1) T _ _ hu hp]
  obtain ⟨f1, f2, e, n1, t1, o1, n2, t2, o2⟩ : ∃ f1 f2, (P.fieldsOf T).toList = [f1, f2] ∧ f1.name ≠ "_" ∧ f1.type = tI ∧ f1.offset = 0 ∧ f2.name ≠ "_" ∧ f2.type = tI ∧ f2.offset = 1 := by
    match h : (P.fieldsOf T).toList with
    | [] => rw [h] at hf; simp at hf
    | [f1] => rw [h] at hf; simp at hf
    | f1 :: f2 :: f3 :: r => rw [h] at hf; simp at hf
    | [f1, f2] =>
      rw [h] at hf
      simp at hf
      exact ⟨f1, f2, rfl, hf.1.1, hf.1.2.1, hf.1.2.2, hf.2.1, hf.2.2.1, hf.2.2.2⟩
  rw [e]
  have q1 : ∀ w, (part tI #[.int .i64 x1, .int .i64 x2] 0).run P w = .ok (.int .i64 x1) w := run_part_int hA rfl
  have q2 : ∀ w, (part tI #[.int .i64 x1, .int .i64 x2] 1).run P w = .ok (.int .i64 x2) w := run_part_int hA rfl
  have q3 : ∀ w, (part tI #[.int .i64 y1, .int .i64 y2] 0).run P w = .ok (.int .i64 y1) w := run_part_int hA rfl
  have q4 : ∀ w, (part tI #[.int .i64 y1, .int .i64 y2] 1).run P w = .ok (.int .i64 y2) w := run_part_int hA rfl
  have e1 := fun (a b : Int) (w : World) => run_equalIn_int (P := P) w d tI .i64 .i64 a b hI
  simp only [Op.eqFields, ne_eq, n1, n2, not_false_eq_true, if_true, t1, o1, t2, o2, Sem.run_bind, q1, q2, q3, q4, e1, Result.andThen_ok, Sem.run_ite, Sem.run_pure]
  by_cases c1 : x1 = y1 <;> by_cases c2 : x2 = y2 <;> simp [c1, c2]

/-- two structs of two integers each -/
theorem os_eqlS2 {tI : TypeId} {x1 x2 y1 y2 : Int} (hg : P.eqGuardType P.depth T = false) (hu : P.underlying T = some (.struct (P.fieldsOf T))) (hp : P.stoodInHeld T = false)
    (hf : (P.fieldsOf T).toList.map (fun f => (f.name == "_", f.type, f.offset)) = [(false, tI, 0), (false, tI, 1)]) (hI : P.underlying tI = some (.int .i64)) (hA : ∀ w, (isAgg tI).run P w = .ok false w)
    (hx : Fr.ev fr x = some (.agg #[.int .i64 x1, .int .i64 x2])) (hy : Fr.ev fr y = some (.agg #[.int .i64 y1, .int .i64 y2])) :
    OS P n (.binOp .eql T x y T2) ty fr w (.bool (decide (x1 = y1 ∧ x2 = y2))) w := os_of fun a ha => by
  have h1 := run_eqGuard_agg (P := P) w .eql T x y #[.int .i64 x1, .int .i64 x2] #[.int .i64 y1, .int .i64 y2] hg
  have h2 : (Op.equalIn 10000 T (.agg #[.int .i64 x1, .int .i64 x2]) (.agg #[.int .i64 y1, .int .i64 y2])).run P w = .ok (decide (x1 = y1 ∧ x2 = y2)) w := by
    exact run_eqS2 9998 hu hp hf hI hA
  have h3 := run_eql_struct (P := P) w T #[.int .i64 x1, .int .i64 x2] #[.int .i64 y1, .int .i64 y2]
  rw [h2] at h3
  simp [execOp, ha.ev hx, ha.ev hy, h1, h3, Result.andThen]

/-- make([]T, 0, n) of structs -/
theorem ot_make0_p {k k2 : IntKind} {m c : Int} {l s : Nat} {z0 : Value} {bytes : Nat} (hT : P.underlying T = some (.slice e)) (hi : TyInfo P e z0 s bytes) (hx : Fr.ev fr x = some (.int k m)) (hy : Fr.ev fr y = some (.int k2 c)) (hm : m = 0) (hc : c = (l : Int))
    (hb : bytes * l ≤ 281474976710656) (hl : l ≤ maxLen) (B : Nat) (hB : B ≤ w.heap.size) : OT P n (.makeSlice T x y) ty fr w fun v w' => v = .slice (some ⟨w.heap.size, 0, none⟩) 0 l ∧ OwnP w' B e s v [] ∧ w.grownBy w' none := by
  subst hm; subst hc
  obtain ⟨i, h1, h2, h3, h4⟩ := info_parts hi
  obtain ⟨w', hr, ho, hg⟩ := run_make_own (P := P) w B T e i z0 s hT h1 h2 h3 k k2 l (by rw [h4]; exact hb) hl hB
  exact ot_of fun a ha => ⟨_, w', by simp [execOp, ha.ev hx, ha.ev hy, hr, Result.andThen], rfl, ⟨fun c hc => (by cases hc), ho⟩, hg⟩
/-- append(s, x...) of structs; x may be empty -/
theorem ot_append_pn {A : Option Addr} {m c s : Nat} {ps news : List (List Value)} {z0 : Value} {bytes : Nat} {B : Nat} (hT : P.underlying T = some (.slice e)) (hi : TyInfo P e z0 s bytes) (hz : z0.cells.size = s) (hs0 : 0 < s) (hx : Fr.ev fr x = some v) (hy : Fr.ev fr y = some (.slice A m c))
    (ho : OwnP w B e s v ps) (hr : RdP w s A news) (hnl : ∀ c ∈ news, c.length = s) (hm : m = news.length) (h1 : ∀ c ∈ news, ∀ u ∈ c, u.oneCell' = true) (hb : (ps.length + m) * bytes ≤ 140737488355328) (hl : ps.length + m ≤ maxLen) (hB : B ≤ w.heap.size) :
    OT P n (.call ⟨.builtin .append, #[x, y], #[T, T]⟩) ty fr w fun v' w' => OwnP w' B e s v' (ps ++ news) ∧ w.grownBy w' v.ownBlock := by
  by_cases h0 : 0 < news.length
  · exact (ot_append_p hT hi hz hs0 hx hy ho hr hnl hm h0 h1 hb hl hB).mono fun v w' ⟨a, b, _⟩ => ⟨a, b⟩
  · have hnil : news = [] := List.eq_nil_of_length_eq_zero (by omega)
    subst hnil
    have hm0 : m = 0 := by simpa using hm
    subst hm0
    obtain ⟨i, i1, i2, i3, i4⟩ := info_parts hi
    have hrun : (Builtin.append_ #[T, T] ty #[v, .slice A 0 c]).run P w = .ok v w := by
      rcases ho.2.2 with ⟨rfl, h2⟩ | ⟨g, cap, cur, rfl, _, _, hnc, _⟩
      · cases A <;> simp [Builtin.append_, run_underlying hT, sizeOf, typeInfo, i1, Builtin.lenOf, Builtin.firstCells, loadCells, loadCellsFrom]
      · cases A <;> simp [Builtin.append_, run_underlying hT, sizeOf, typeInfo, i1, Builtin.lenOf, Builtin.firstCells, hnc, storeCells, loadCells, loadCellsFrom]
    refine ot_of fun a ha => ⟨v, w, by simp [execOp, resolve, invoke, builtin, ha.ev hx, ha.ev hy, hrun, Result.andThen], by simpa using ho, World.grownBy.refl _ _⟩
end

def marksP (n : Nat) : List (Int × Int) := (List.range n).map fun (i : Nat) => (markZ 1 (i : Int), 0)
theorem marksP_len (n : Nat) : (marksP n).length = n := by simp [marksP]
theorem marksP_succ (n : Nat) : marksP (n + 1) = marksP n ++ [(markZ 1 n, 0)] := by simp [marksP, List.range_succ]
theorem marksP_at {n i : Nat} (hi : i < n) : (marksP n).getD i (0, 0) = (markZ 1 i, 0) := by simp [marksP, hi]
/-- v is a list of structs of two numbers that the kit has lent -/
def LentW (w : World) (B : Nat) (t : TypeId) (v : Value) (ps : List (Int × Int)) : Prop :=
  ∃ g C, v = .slice (some ⟨g, 0, none⟩) ps.length C ∧ ps.length + 12 ≤ C ∧ OwnP w B t 2 (.slice (some ⟨g, 0, none⟩) (ps ++ marksP 12).length C) ((ps ++ marksP 12).map rowC)
theorem LentW.keep {w w' B t v ps} (h : LentW w B t v ps) (hb : Below w.heap.size w w') : LentW w' B t v ps := by
  obtain ⟨g, C, e, hc, ho⟩ := h
  exact ⟨g, C, e, hc, OwnP.keepAll ho hb⟩
theorem LentW.led {w w' B t v ps} (h : LentW w B t v ps) (hb : LeD w w') : LentW w' B t v ps := by
  obtain ⟨g, C, e, hc, ho⟩ := h
  exact ⟨g, C, e, hc, OwnP.led ho hb⟩
theorem OwnP.rdp {w B t s A n c ps} (h : OwnP w B t s (.slice A n c) ps) : RdP w s A ps := by
  obtain ⟨A', c', e, _, _, hr⟩ := h.form
  cases e
  exact hr
theorem OwnP.row {w B t s v ps} (h : OwnP w B t s v ps) (h0 : 0 < ps.length) : ∃ g c, v = .slice (some ⟨g, 0, none⟩) ps.length c ∧ ps.length ≤ c ∧ c ≤ maxLen := by
  rcases h.2.2 with ⟨rfl, h1⟩ | ⟨g, cap, cur, rfl, hB, hg, hn, hm, hs, ht⟩
  · omega
  · exact ⟨g, cap, rfl, hn, hm⟩
theorem LentW.form {w B t v ps} (h : LentW w B t v ps) : ∃ g C, v = .slice (some ⟨g, 0, none⟩) ps.length C ∧ ps.length + 12 ≤ C ∧ B ≤ g ∧ g < w.heap.size ∧ RdP w 2 (some ⟨g, 0, none⟩) (ps.map rowC) := by
  obtain ⟨g, C, e, hc, ho⟩ := h
  have h1 := OwnP.lt ho g rfl
  have h2 := (OwnP.rdp ho).take ps.length
  rw [List.map_append, show (ps.map rowC ++ (marksP 12).map rowC).take ps.length = ps.map rowC by rw [show ps.length = (ps.map rowC).length by simp, List.take_left]] at h2
  exact ⟨g, C, e, hc, h1.1, h1.2, h2⟩

theorem lent_b0 {n : Nat} (h : n ≤ 100000000) : 16 * (n + 12) ≤ 281474976710656 := by omega
theorem lent_b1 {n : Nat} (h : n ≤ 100000000) : n + 12 ≤ maxLen := by simp [maxLen]; omega
theorem lent_b2 {n i : Nat} (h : n ≤ 100000000) (hi : i < 12) : (n + i + 1) * 16 ≤ 140737488355328 := by omega
theorem lent_b3 {n i : Nat} (h : n ≤ 100000000) (hi : i < 12) : n + i + 1 ≤ maxLen := by simp [maxLen]; omega
theorem lent_b4 {n : Nat} (h : n ≤ 100000000) : n * 16 ≤ 140737488355328 := by omega
theorem lent_b5 {n : Nat} (h : n ≤ 100000000) : n ≤ maxLen := by simp [maxLen]; omega
theorem ti_wTable : TyInfo Try.prog 62 (.agg #[.int .i64 0, .int .i64 0]) 2 16 := by unfold TyInfo; kernel_rfl
theorem kit_markRow (k i : Int) (w : World) (hk : 0 ≤ k ∧ k ≤ 1000000000) (hi : 0 ≤ i ∧ i ≤ 1000000000000000) : Gives Try.prog 153 #[.int .i64 k, .int .i64 i] w fun v w' => v = .agg #[.int .i64 (markZ k i), .int .i64 0] ∧ Below w.heap.size w w' := by
  have hB0 := bk_new w [.int .i64 0, .int .i64 0] 62
  have hb0 : Below w.heap.size w (w.alloc (.cells [Value.int .i64 0, .int .i64 0].toArray 62)) := (Below.refl _ w).alloc (Nat.le_refl _) _
  refine gives_enter Try.call153 Try.func153 rfl rfl rfl (by kernel_rfl) ?_
  refine v_seq ?_
  refine v_region ?_
  refine vl_val (os_allocB Try.zeroValue62 (zc := _) (cs := [.int .i64 0, .int .i64 0]) rfl) ?_
  refine vl_nil ?_
  refine v_seq ?_
  refine v_region ?_
  refine vl_val (os_move rfl) ?_
  refine vl_val (os_move rfl) ?_
  refine vl_call (kit_mark k i _ hk hi) rfl ?_
  rintro v1 w1 ⟨rfl, rfl⟩
  refine vl_val (os_build (cs := [.int .i64 (markZ k i), .int .i64 0]) rfl (by kernel_rfl)) ?_
  refine vl_unit (ou_storeB (by kernel_rfl) rfl rfl hB0 rfl rfl) ?_
  refine vl_nil ?_
  refine v_ret ?_
  exact post_cell rfl rfl Try.underlying62 rfl (by kernel_rfl) (setRow_bk hB0 [.int .i64 (markZ k i), .int .i64 0]) ⟨rfl, below_setRow hb0 (Nat.le_refl _) _⟩
set_option maxHeartbeats 1000000 in
theorem kit_LentTable (A : Option Addr) (n c : Nat) (ps : List (Int × Int)) (w : World) (ha : RdP w 2 A (ps.map rowC)) (hn : n = ps.length) (hb : n ≤ 100000000) : Gives Try.prog 120 #[.slice A n c] w fun v w' => LentW w' w.heap.size 62 v ps ∧ Below w.heap.size w w' := by
  refine gives_enter Try.call120 Try.func120 rfl rfl rfl (by kernel_rfl) ?_
  refine v_seq ?_
  refine v_region ?_
  refine vl_val (os_assign rfl) ?_
  refine vl_nil ?_
  refine v_seq ?_
  refine v_region ?_
  refine vl_val (os_move rfl) ?_
  refine vl_val (os_len Try.underlying63 rfl) ?_
  refine vl_val (os_addi rfl rfl (by omega)) ?_
  refine vl_some (ot_make0_p (l := n + 12) Try.underlying63 ti_wTable rfl rfl rfl rfl (lent_b0 hb) (lent_b1 hb) w.heap.size (Nat.le_refl _)) ?_
  rintro v1 w1 ⟨rfl, ho, hg⟩
  have hb1 : Below w.heap.size w w1 := (Below.refl _ _).grown hg (Nat.le_refl _) (fun k hk => by cases hk)
  refine vl_val (os_assign rfl) ?_
  refine vl_nil ?_
  refine v_seq ?_
  refine v_region ?_
  refine vl_val (os_move rfl) ?_
  refine vl_val (os_move rfl) ?_
  refine vl_some (ot_append_pn Try.underlying63 ti_wTable rfl (by decide) rfl rfl ho (ha.keep hb1) (rowC_len _) (by simp [hn]) (rowC_one _) (by simpa using lent_b4 hb) (by simpa using lent_b5 hb) hb1.size) ?_
  rintro v2 w2 ⟨ho2, hg2⟩
  have hb2 := OwnP.below hb1 ho hg2 (Nat.le_refl _) hb1.size
  refine vl_val (os_assign rfl) ?_
  refine vl_nil ?_
  refine v_seq ?_
  refine v_seq ?_
  refine v_region ?_
  refine vl_val (os_assign rfl) ?_
  refine vl_nil ?_
  refine v_block ?_
  refine v_loop2 [(0, _)] (fun (v : Value) (i : Nat) => [(3, v), (4, .int .i64 i)]) (fun v i w' => i ≤ 12 ∧ OwnP w' w.heap.size 62 2 v ((ps ++ marksP i).map rowC) ∧ Below w.heap.size w w') (fun v i => 12 - i) (v2) (0) ⟨rfl, trivial⟩ ⟨rfl, rfl, trivial⟩ (⟨by omega, by simpa [marksP] using ho2, hb2⟩) ?_
  rintro v i w3 ⟨hi, ho3, hb3⟩
  refine v_seq ?_
  refine v_seq ?_
  refine v_region ?_
  refine vl_val (os_move rfl) ?_
  refine vl_val (os_lss rfl rfl) ?_
  refine vl_nil ?_
  refine v_cond_d rfl (fun h => ?_) (fun h => ?_)
  · refine v_skip ?_
    refine v_seq ?_
    refine v_block ?_
    refine v_region ?_
    refine vl_val (os_move rfl) ?_
    refine vl_val (os_move rfl) ?_
    refine vl_call (kit_markRow 1 i w3 (by omega) (by omega)) rfl ?_
    rintro v4 w4 ⟨rfl, hb34⟩
    have hb4 := hb3.trans (hb34.mono hb3.size)
    have eln : ((ps ++ marksP i).map rowC).length = n + i := by simp [marksP_len, hn]
    refine vl_val (os_litS (css := [[.int .i64 (markZ 1 i), .int .i64 0]]) Try.underlying63 Try.sizeOf62 Try.zeroValue62 rfl rfl (by intro c hc; simp at hc; subst hc; rfl) (by decide) (by decide) (by decide)) ?_
    refine vl_some (ot_append_pn Try.underlying63 ti_wTable rfl (by decide) rfl rfl (OwnP.alloc (OwnP.keepAll ho3 hb34) _) (rdp_alloc _ _ _ (by intro c hc; simp at hc; subst hc; rfl)) (by intro c hc; simp at hc; subst hc; rfl) rfl (by intro c hc u hu; simp at hc; subst hc; simp at hu; rcases hu with rfl | rfl <;> rfl) (by rw [eln]; exact lent_b2 hb (by omega)) (by rw [eln]; exact lent_b3 hb (by omega)) (hb4.alloc hb4.size _).size) ?_
    rintro v5 w5 ⟨ho5, hg5⟩
    refine vl_val (os_assign rfl) ?_
    refine vl_nil ?_
    refine v_region ?_
    refine vl_val (os_move rfl) ?_
    refine vl_val (os_addi rfl rfl (by omega)) ?_
    refine vl_val (os_assign rfl) ?_
    refine vl_nil ?_
    exact ⟨⟨v5, i + 1⟩, ⟨rfl, trivial⟩, ⟨rfl, rfl, trivial⟩, ⟨by omega, by rw [marksP_succ, ← List.append_assoc, List.map_append]; exact ho5, OwnP.below (hb4.alloc hb4.size _) (OwnP.alloc (OwnP.keepAll ho3 hb34) _) hg5 (Nat.le_refl _) (hb4.alloc hb4.size _).size⟩, by dsimp only; omega⟩
  · obtain rfl : i = 12 := by omega
    have h12 : 0 < ((ps ++ marksP 12).map rowC).length := by simp [marksP_len]
    obtain ⟨g, C, rfl, h1, h2⟩ := OwnP.row ho3 h12
    have e12 : ((ps ++ marksP 12).map rowC).length = n + 12 := by simp [marksP_len, hn]
    rw [e12] at h1
    refine v_exit ?_
    refine v_seq ?_
    refine v_region ?_
    refine vl_val (os_move rfl) ?_
    refine vl_val (os_move rfl) ?_
    refine vl_val (os_len Try.underlying63 rfl) ?_
    refine vl_val (os_slice_h Try.underlying63 Try.sizeOf62 rfl rfl (h := n) (by omega) (by omega)) ?_
    refine vl_val (os_assign rfl) ?_
    refine vl_nil ?_
    refine v_ret ?_
    exact post_ret rfl rfl (⟨⟨g, C, by rw [hn], by omega, by simpa [marksP_len] using ho3⟩, hb3⟩)
set_option maxHeartbeats 1000000 in
theorem kit_KeptTable (v : Value) (B : Nat) (A : Option Addr) (n c : Nat) (ps : List (Int × Int)) (w : World) (hv : LentW w B 62 v ps) (ha : RdP w 2 A (ps.map rowC)) (hn : n = ps.length) (hb : n ≤ 100000000) : Gives Try.prog 130 #[v, .slice A n c] w fun v w' => v = .bool true ∧ Below w.heap.size w w' := by
  obtain ⟨g, C, rfl, hC, ho⟩ := hv
  refine gives_enter Try.call130 Try.func130 rfl rfl rfl (by kernel_rfl) ?_
  refine v_seq ?_
  refine v_region ?_
  refine vl_val (os_assign rfl) ?_
  refine vl_nil ?_
  refine v_seq ?_
  refine v_seq ?_
  refine v_region ?_
  refine vl_val (os_move rfl) ?_
  refine vl_val (os_len Try.underlying63 rfl) ?_
  refine vl_val (os_move rfl) ?_
  refine vl_val (os_len Try.underlying63 rfl) ?_
  refine vl_val (os_neq rfl rfl) ?_
  refine vl_nil ?_
  refine v_cond_no rfl (by omega) ?_
  refine v_skip ?_
  refine v_seq ?_
  refine v_region ?_
  refine vl_val (os_move rfl) ?_
  refine vl_val (os_move rfl) ?_
  refine vl_val (os_len Try.underlying63 rfl) ?_
  refine vl_val (os_addi rfl rfl (by omega)) ?_
  refine vl_val (os_slice_h Try.underlying63 Try.sizeOf62 rfl rfl (h := n + 12) (by omega) (by omega)) ?_
  refine vl_val (os_assign rfl) ?_
  refine vl_nil ?_
  refine v_seq ?_
  refine v_seq ?_
  refine v_region ?_
  refine vl_val (os_assign rfl) ?_
  refine vl_nil ?_
  refine v_block ?_
  refine v_loop [(1, _), (5, _)] (fun (i : Nat) => [(6, .int .i64 i)]) (fun i w' => i ≤ n + 12 ∧ Below w.heap.size w w') (fun i => n + 12 - i) (0) ⟨rfl, rfl, trivial⟩ ⟨rfl, trivial⟩ (⟨by omega, Below.refl _ _⟩) ?_
  rintro i w1 ⟨hi, hq⟩
  refine v_seq ?_
  refine v_seq ?_
  refine v_region ?_
  refine vl_val (os_move rfl) ?_
  refine vl_val (os_move rfl) ?_
  refine vl_val (os_len Try.underlying63 rfl) ?_
  refine vl_val (os_lss rfl rfl) ?_
  refine vl_nil ?_
  refine v_cond_d rfl (fun h => ?_) (fun h => ?_)
  · have hr := OwnP.rdp (OwnP.keepAll ho hq)
    obtain ⟨bg, og, eg, c1, c2, hrc⟩ := RdP.at2 hr (i := i) (by rw [List.length_append, marksP_len]; omega)
    cases eg
    rcases Nat.lt_or_ge i n with hlt | hge
    · obtain ⟨bA, oA, rfl, d1, d2, hra⟩ := RdP.at2 (show RdP w1 2 A (ps.map rowC) from ha.keep hq) (i := i) (by omega)
      rw [show (ps ++ marksP 12).getD i (0, 0) = ps.getD i (0, 0) by simp [List.getElem?_append, show i < ps.length by omega]] at hrc
      refine v_skip ?_
      refine v_seq ?_
      refine v_block ?_
      refine v_seq ?_
      refine v_region_t LeG _ mixed (by kernel_rfl) lee_g (leg_start _) ?_
      refine vt_val (fun w hw => os_move rfl) ?_
      refine vt_val (fun w hw => os_move rfl) ?_
      refine vt_val (fun w hw => os_len Try.underlying63 rfl) ?_
      refine vt_val (fun w hw => os_t (os_lss rfl rfl) (by omega)) ?_
      refine vt_val (fun w hw => os_move rfl) ?_
      refine vt_valg rfl (fun w hw => os_move rfl) ?_
      refine vt_valg rfl (fun w hw => os_move rfl) ?_
      refine vt_valg rfl (fun w hw => os_ixs Try.underlying63 Try.sizeOf62 rfl rfl (i := i) (by omega) (by omega)) ?_
      refine vt_valg rfl (fun w hw => os_loadP Try.underlying62 rfl (by kernel_rfl) rfl (hrc.keep hw)) ?_
      refine vt_valg rfl (fun w hw => os_move rfl) ?_
      refine vt_valg rfl (fun w hw => os_move rfl) ?_
      refine vt_valg rfl (fun w hw => os_ixs Try.underlying63 Try.sizeOf62 rfl rfl (i := i) (by omega) (by omega)) ?_
      refine vt_valg rfl (fun w hw => os_loadP Try.underlying62 rfl (by kernel_rfl) rfl (hra.keep hw)) ?_
      refine vt_valg rfl (fun w hw => os_t (os_eqlS2 Try.eqGuardType62 (by kernel_rfl) Try.stoodInHeld62 (by kernel_rfl) Try.underlying3 Try.isAgg3 rfl rfl) ((by simp))) ?_
      refine vt_valg rfl (fun w hw => os_not rfl) ?_
      refine vt_val (fun w hw => os_pick_t rfl rfl) ?_
      refine vt_val (fun w hw => os_move rfl) ?_
      refine vt_valg rfl (fun w hw => os_move rfl) ?_
      refine vt_valg rfl (fun w hw => os_move rfl) ?_
      refine vt_valg rfl (fun w hw => os_len Try.underlying63 rfl) ?_
      refine vt_valg rfl (fun w hw => os_f (os_geq rfl rfl) (by omega)) ?_
      refine vt_valg rfl (fun w hw => os_move rfl) ?_
      refine vt_skip rfl rfl ?_
      refine vt_skip rfl rfl ?_
      refine vt_skip rfl rfl ?_
      refine vt_skip rfl rfl ?_
      refine vt_skip rfl rfl ?_
      refine vt_skip rfl rfl ?_
      refine vt_skip rfl rfl ?_
      refine vt_skip rfl rfl ?_
      refine vt_skip rfl rfl ?_
      refine vt_skip rfl rfl ?_
      refine vt_skip rfl rfl ?_
      refine vt_valg rfl (fun w hw => os_pick_f rfl rfl) ?_
      refine vt_val (fun w hw => os_pick_f rfl rfl) ?_
      refine vt_nil (fun Hw H => ?_)
      refine v_cond_f rfl ?_
      refine v_skip ?_
      refine v_region ?_
      refine vl_val (os_move rfl) ?_
      refine vl_val (os_addi rfl rfl (by omega)) ?_
      refine vl_val (os_assign rfl) ?_
      refine vl_nil ?_
      exact ⟨i + 1, ⟨rfl, rfl, trivial⟩, ⟨rfl, trivial⟩, ⟨by omega, hq.trans (H.mono hq.size)⟩, by dsimp only; omega⟩
    · rw [show (ps ++ marksP 12).getD i (0, 0) = (markZ 1 ((i : Int) - (n : Int)), 0) by
        have e : (ps ++ marksP 12).getD i (0, 0) = (marksP 12).getD (i - ps.length) (0, 0) := by simp [List.getElem?_append, show ¬ i < ps.length by omega]
        rw [e, marksP_at (by omega)]; congr 2; omega] at hrc
      refine v_skip ?_
      refine v_seq ?_
      refine v_block ?_
      refine v_seq ?_
      refine v_region_t LeG _ mixed (by kernel_rfl) lee_g (leg_start _) ?_
      refine vt_val (fun w hw => os_move rfl) ?_
      refine vt_val (fun w hw => os_move rfl) ?_
      refine vt_val (fun w hw => os_len Try.underlying63 rfl) ?_
      refine vt_val (fun w hw => os_f (os_lss rfl rfl) (by omega)) ?_
      refine vt_val (fun w hw => os_move rfl) ?_
      refine vt_skip rfl rfl ?_
      refine vt_skip rfl rfl ?_
      refine vt_skip rfl rfl ?_
      refine vt_skip rfl rfl ?_
      refine vt_skip rfl rfl ?_
      refine vt_skip rfl rfl ?_
      refine vt_skip rfl rfl ?_
      refine vt_skip rfl rfl ?_
      refine vt_skip rfl rfl ?_
      refine vt_skip rfl rfl ?_
      refine vt_val (fun w hw => os_pick_f rfl rfl) ?_
      refine vt_val (fun w hw => os_move rfl) ?_
      refine vt_valg rfl (fun w hw => os_move rfl) ?_
      refine vt_valg rfl (fun w hw => os_move rfl) ?_
      refine vt_valg rfl (fun w hw => os_len Try.underlying63 rfl) ?_
      refine vt_valg rfl (fun w hw => os_t (os_geq rfl rfl) (by omega)) ?_
      refine vt_valg rfl (fun w hw => os_move rfl) ?_
      refine vt_valg rfl (fun w hw => os_move rfl) ?_
      refine vt_valg rfl (fun w hw => os_move rfl) ?_
      refine vt_valg rfl (fun w hw => os_ixs Try.underlying63 Try.sizeOf62 rfl rfl (i := i) (by omega) (by omega)) ?_
      refine vt_valg rfl (fun w hw => os_loadP Try.underlying62 rfl (by kernel_rfl) rfl (hrc.keep hw)) ?_
      refine vt_valg rfl (fun w hw => os_move rfl) ?_
      refine vt_valg rfl (fun w hw => os_move rfl) ?_
      refine vt_valg rfl (fun w hw => os_len Try.underlying63 rfl) ?_
      refine vt_valg rfl (fun w hw => os_subi rfl rfl (by omega)) ?_
      refine vt_callg rfl (v := _) (fun w hw => kit_markRow 1 ((i : Int) - (n : Int)) w (by omega) (by omega)) rfl ?_
      refine vt_valg rfl (fun w hw => os_t (os_eqlS2 Try.eqGuardType62 (by kernel_rfl) Try.stoodInHeld62 (by kernel_rfl) Try.underlying3 Try.isAgg3 rfl rfl) ((by simp))) ?_
      refine vt_valg rfl (fun w hw => os_not rfl) ?_
      refine vt_valg rfl (fun w hw => os_pick_t rfl rfl) ?_
      refine vt_val (fun w hw => os_pick_f rfl rfl) ?_
      refine vt_nil (fun Hw H => ?_)
      refine v_cond_f rfl ?_
      refine v_skip ?_
      refine v_region ?_
      refine vl_val (os_move rfl) ?_
      refine vl_val (os_addi rfl rfl (by omega)) ?_
      refine vl_val (os_assign rfl) ?_
      refine vl_nil ?_
      exact ⟨i + 1, ⟨rfl, rfl, trivial⟩, ⟨rfl, trivial⟩, ⟨by omega, hq.trans (H.mono hq.size)⟩, by dsimp only; omega⟩
  · refine v_exit ?_
    refine v_seq ?_
    refine v_region ?_
    refine vl_val (os_assign rfl) ?_
    refine vl_nil ?_
    refine v_ret ?_
    exact post_ret rfl rfl (⟨rfl, hq⟩)
theorem ti_wCounts : TyInfo Try.prog 201 (.agg #[.int .i64 0, .int .i64 0]) 2 16 := by unfold TyInfo; kernel_rfl
theorem kit_markCount (k i : Int) (w : World) (hk : 0 ≤ k ∧ k ≤ 1000000000) (hi : 0 ≤ i ∧ i ≤ 1000000000000000) : Gives Try.prog 155 #[.int .i64 k, .int .i64 i] w fun v w' => v = .agg #[.int .i64 (markZ k i), .int .i64 0] ∧ Below w.heap.size w w' := by
  have hB0 := bk_new w [.int .i64 0, .int .i64 0] 201
  have hb0 : Below w.heap.size w (w.alloc (.cells [Value.int .i64 0, .int .i64 0].toArray 201)) := (Below.refl _ w).alloc (Nat.le_refl _) _
  refine gives_enter Try.call155 Try.func155 rfl rfl rfl (by kernel_rfl) ?_
  refine v_seq ?_
  refine v_region ?_
  refine vl_val (os_allocB Try.zeroValue201 (zc := _) (cs := [.int .i64 0, .int .i64 0]) rfl) ?_
  refine vl_nil ?_
  refine v_seq ?_
  refine v_region ?_
  refine vl_val (os_move rfl) ?_
  refine vl_val (os_move rfl) ?_
  refine vl_call (kit_mark k i _ hk hi) rfl ?_
  rintro v1 w1 ⟨rfl, rfl⟩
  refine vl_val (os_build (cs := [.int .i64 (markZ k i), .int .i64 0]) rfl (by kernel_rfl)) ?_
  refine vl_unit (ou_storeB (by kernel_rfl) rfl rfl hB0 rfl rfl) ?_
  refine vl_nil ?_
  refine v_ret ?_
  exact post_cell rfl rfl Try.underlying201 rfl (by kernel_rfl) (setRow_bk hB0 [.int .i64 (markZ k i), .int .i64 0]) ⟨rfl, below_setRow hb0 (Nat.le_refl _) _⟩
end Go.Proofs.Ytpojijnjdlnokaa

/- Layer 13: a task whose lists are the call's own; a list of tasks into which is written. -/
namespace Go.Proofs.Ytpojijnjdlnokaa
open Go.RowKit
set_option linter.unusedVariables false

theorem Rd.ownK {w : World} {B n c : Nat} {t : TypeId} {k : IntKind} {A : Option Addr} {zs : List Int} (h : OwnK w B t k (.slice A n c) zs) : Rd w k A zs ∧ n = zs.length := by
  obtain ⟨A', c', e, -, -, r, -⟩ := OwnK.form h
  simp only [Value.slice.injEq] at e
  obtain ⟨rfl, h2, -⟩ := e
  exact ⟨r, h2⟩
theorem Rd.set_ {w : World} {k : IntKind} {A : Option Addr} {zs : List Int} {g : Nat} (h : Rd w k A zs) (hA : ∀ b o, A = some ⟨b, o, none⟩ → b ≠ g) (i : Nat) (u : Value) : Rd (w.setCell ⟨g, i, none⟩ u) k A zs := by
  intro hl
  obtain ⟨b, off, e, hc⟩ := h hl
  have hne := hA b off e
  refine ⟨b, off, e, fun j hj => ?_⟩
  have h1 := hc j hj
  have hlt := World.block_lt_of_cell? w ⟨b, off + j, none⟩ h1
  have hb : Kb [g] w (w.setCell ⟨g, i, none⟩ u) := Kb.set (by simp) i u
  rw [← hc j hj]
  unfold World.cell?
  simp only [hb.block b hlt (by simpa using hne)]
theorem small_I {z : Int} (h : -100000000 ≤ z ∧ z ≤ 100000000) : I64 z := ⟨by omega, by omega⟩
/-! ### a task of one's own -/
structure TB (w0 w : World) (T : Nat) (d : TaskV) (q : TaskP) : Prop where
  bk : Bk w T d.cells 44
  hT : w0.heap.size ≤ T
  L : OwnK w w0.heap.size 3 .i64 (.slice d.AL d.ll d.lc) q.lens
  W : OwnK w w0.heap.size 3 .i64 (.slice d.AW d.wl d.wc) q.worths
  V : Rd w0 .i64 d.AV q.ws
  vl : d.vl = q.ws.length
  sep : ∀ k, (Value.slice d.AL d.ll d.lc).ownBlock = some k → (Value.slice d.AW d.wl d.wc).ownBlock ≠ some k
  sm : q.lens.length ≤ 9 ∧ q.worths.length ≤ 9 ∧ q.ws.length ≤ 9
  n : d.n = q.n
  m : d.m = q.m
  b : d.b = q.b
  iN : I64 q.n ∧ I64 q.m ∧ I64 q.b
  iL : AllI q.lens
  iW : AllI q.worths
  iV : AllI q.ws
  bel : Below w0.heap.size w0 w
theorem TB.ok {w0 w : World} {T : Nat} {d : TaskV} {q : TaskP} (h : TB w0 w T d q) : TaskOk w d q := by
  have l := Rd.ownK h.L
  have r := Rd.ownK h.W
  have s := h.sm
  exact ⟨l.1, r.1, h.V.keep h.bel, l.2, r.2, h.vl, by rw [l.2]; omega, by rw [r.2]; omega, by rw [h.vl]; omega, h.n, h.m, h.b, h.iN, h.iL, h.iW, h.iV⟩
theorem TB.keep {w0 w w' : World} {T : Nat} {d : TaskV} {q : TaskP} (h : TB w0 w T d q) (hb : Below w.heap.size w w') : TB w0 w' T d q :=
  { h with bk := h.bk.keep hb, L := Own.keepAll h.L hb, W := Own.keepAll h.W hb, bel := h.bel.trans (hb.mono h.bel.size) }
theorem TB.ne {w : World} {B T n c : Nat} {A : Option Addr} {cs zs : List Value} (h : Bk w T cs 44) (hc : cs.length ≤ maxLen) (hL : Own w B 3 (.slice A n c) zs) : ∀ k, (Value.slice A n c).ownBlock = some k → k ≠ T := by
  intro k hk e
  subst e
  exact rows_sepT (h.own (Nat.zero_le _) hc) hL (by decide) k hk rfl
theorem TB.bkL {w0 w w1 w2 : World} {T : Nat} {d : TaskV} {q : TaskP} (h : TB w0 w T d q) (a : Below w.heap.size w w1) (g : w1.grownBy w2 (Value.slice d.AL d.ll d.lc).ownBlock) : Bk w2 T d.cells 44 :=
  (h.keep a).bk.kb (Kb.grown (S := (Value.slice d.AL d.ll d.lc).ownBlock.toList) g (fun k hk => by simp [hk])) (fun hm => TB.ne (h.keep a).bk (by simp [TaskV.cells, maxLen]) (h.keep a).L T (by simpa using hm) rfl)
theorem TB.bkW {w0 w w1 w2 : World} {T : Nat} {d : TaskV} {q : TaskP} (h : TB w0 w T d q) (a : Below w.heap.size w w1) (g : w1.grownBy w2 (Value.slice d.AW d.wl d.wc).ownBlock) : Bk w2 T d.cells 44 :=
  (h.keep a).bk.kb (Kb.grown (S := (Value.slice d.AW d.wl d.wc).ownBlock.toList) g (fun k hk => by simp [hk])) (fun hm => TB.ne (h.keep a).bk (by simp [TaskV.cells, maxLen]) (h.keep a).W T (by simpa using hm) rfl)
theorem TB.stepL {w0 w w1 w2 : World} {T n c : Nat} {A : Option Addr} {d : TaskV} {q : TaskP} {z : Int} (h : TB w0 w T d q) (hl : q.lens.length ≤ 8) (hz : I64 z) (a : Below w.heap.size w w1) (o : OwnK w2 w0.heap.size 3 .i64 (.slice A n c) (q.lens ++ [z]))
    (g : w1.grownBy w2 (Value.slice d.AL d.ll d.lc).ownBlock) (e : (Value.slice A n c).ownBlock = (Value.slice d.AL d.ll d.lc).ownBlock ∨ (Value.slice A n c).ownBlock = some w1.heap.size) :
    TB w0 (w2.setCell ⟨T, 0 + 3, none⟩ (.slice A n c)) T {d with AL := A, ll := n, lc := c} {q with lens := q.lens ++ [z]} := by
  have h1 := h.keep a
  have hW := h1.W
  have hk := Kb.grown (S := (Value.slice d.AL d.ll d.lc).ownBlock.toList) g (fun k hk => by simp [hk])
  have hT1 : T ∉ (Value.slice d.AL d.ll d.lc).ownBlock.toList := fun hm => TB.ne h1.bk (by simp [TaskV.cells, maxLen]) h1.L T (by simpa using hm) rfl
  have hb2 := h1.bk.kb hk hT1
  have hW2 : OwnK w2 w0.heap.size 3 .i64 (.slice d.AW d.wl d.wc) q.worths := Own.kb hW hk (fun b hb hm => h.sep b (by simpa using hm) hb)
  have hWlt := World.ownsRow.lt hW
  refine ⟨hb2.set 3 _, h.hT, Own.setOther o (TB.ne hb2 (by simp [TaskV.cells, maxLen]) o) _ _, Own.setOther hW2 (TB.ne hb2 (by simp [TaskV.cells, maxLen]) hW2) _ _, h.V, h.vl, fun k hk hw => ?_, by have := h.sm; simp; omega, h.n, h.m, h.b, h.iN, fun x hx => ?_, h.iW, h.iV, ?_⟩
  · rcases e with e | e
    · exact h.sep k (e ▸ hk) hw
    · have e2 : k = w1.heap.size := by have := e.symm.trans hk; simpa using this.symm
      have := (hWlt k hw).2
      omega
  · rcases List.mem_append.1 hx with hx | hx
    · exact h.iL x hx
    · rw [List.mem_singleton.1 hx]; exact hz
  · exact below_set (Own.below h1.bel h1.L g (Nat.le_refl _) h1.bel.size) h.hT _ _
theorem TB.stepW {w0 w w1 w2 : World} {T n c : Nat} {A : Option Addr} {d : TaskV} {q : TaskP} {z : Int} (h : TB w0 w T d q) (hl : q.worths.length ≤ 8) (hz : I64 z) (a : Below w.heap.size w w1) (o : OwnK w2 w0.heap.size 3 .i64 (.slice A n c) (q.worths ++ [z]))
    (g : w1.grownBy w2 (Value.slice d.AW d.wl d.wc).ownBlock) (e : (Value.slice A n c).ownBlock = (Value.slice d.AW d.wl d.wc).ownBlock ∨ (Value.slice A n c).ownBlock = some w1.heap.size) :
    TB w0 (w2.setCell ⟨T, 0 + 4, none⟩ (.slice A n c)) T {d with AW := A, wl := n, wc := c} {q with worths := q.worths ++ [z]} := by
  have h1 := h.keep a
  have hL := h1.L
  have hk := Kb.grown (S := (Value.slice d.AW d.wl d.wc).ownBlock.toList) g (fun k hk => by simp [hk])
  have hT1 : T ∉ (Value.slice d.AW d.wl d.wc).ownBlock.toList := fun hm => TB.ne h1.bk (by simp [TaskV.cells, maxLen]) h1.W T (by simpa using hm) rfl
  have hb2 := h1.bk.kb hk hT1
  have hL2 : OwnK w2 w0.heap.size 3 .i64 (.slice d.AL d.ll d.lc) q.lens := Own.kb hL hk (fun b hb hm => h.sep b hb (by simpa using hm))
  have hLlt := World.ownsRow.lt hL
  refine ⟨hb2.set 4 _, h.hT, Own.setOther hL2 (TB.ne hb2 (by simp [TaskV.cells, maxLen]) hL2) _ _, Own.setOther o (TB.ne hb2 (by simp [TaskV.cells, maxLen]) o) _ _, h.V, h.vl, fun k hk hw => ?_, by have := h.sm; simp; omega, h.n, h.m, h.b, h.iN, h.iL, fun x hx => ?_, h.iV, ?_⟩
  · rcases e with e | e
    · exact h.sep k hk (e ▸ hw)
    · have e2 : k = w1.heap.size := by have := e.symm.trans hw; simpa using this.symm
      have := (hLlt k hk).2
      omega
  · rcases List.mem_append.1 hx with hx | hx
    · exact h.iW x hx
    · rw [List.mem_singleton.1 hx]; exact hz
  · exact below_set (Own.below h1.bel h1.W g (Nat.le_refl _) h1.bel.size) h.hT _ _
/-! ### tasks in a list into which is written -/
theorem pe_flat (cs : List (List Value)) (s : Nat) (h : ∀ c ∈ cs, c.length = s) : ∀ (k i : Nat) (u : Value), k < cs.length → i < s → cs.flatten.set (k * s + i) u = (cs.set k ((cs.getD k []).set i u)).flatten := by
  induction cs with
  | nil => intro k i u hk; simp at hk
  | cons c r ih =>
    intro k i u hk hi
    have hc := h c (by simp)
    rcases k with _ | k
    · simp only [List.flatten_cons, List.set_cons_zero, List.getD_cons_zero, Nat.zero_mul, Nat.zero_add]
      rw [List.set_append_left (h := by omega)]
    · have h' := ih (fun x hx => h x (by simp [hx])) k i u (by simpa using hk) hi
      simp only [List.flatten_cons, List.set_cons_succ, List.getD_cons_succ]
      have e : (k + 1) * s = k * s + s := Nat.succ_mul k s
      rw [List.set_append_right (h := by omega), ← h']
      congr 2
      omega
/-- a list of fourteen tasks, in the row g: what each reads lies elsewhere -/
def BL (w : World) (B g : Nat) : Prop := ∃ (c : Nat) (ds : List TaskV), ds.length = 14 ∧ OwnP w B 44 6 (.slice (some ⟨g, 0, none⟩) 14 c) (ds.map TaskV.cells) ∧ ∀ d ∈ ds, ∃ q, TaskOk w d q ∧ ∀ b o, (d.AL = some ⟨b, o, none⟩ ∨ d.AW = some ⟨b, o, none⟩ ∨ d.AV = some ⟨b, o, none⟩) → b ≠ g
theorem BL.low {w : World} {B g : Nat} (h : BL w B g) : B ≤ g ∧ g < w.heap.size := by
  obtain ⟨c, ds, h1, h2, h3⟩ := h
  exact h2.lt g rfl
theorem BL.keep {w w' : World} {B g : Nat} (h : BL w B g) (hb : Below w.heap.size w w') : BL w' B g := by
  obtain ⟨c, ds, h1, h2, h3⟩ := h
  exact ⟨c, ds, h1, h2.keepAll hb, fun d hd => by obtain ⟨q, hq, hn⟩ := h3 d hd; exact ⟨q, hq.keep hb, hn⟩⟩
theorem BL.cell {w : World} {B g : Nat} (h : BL w B g) {k i : Nat} (hk : k < 14) (hi : i < 6) : ∃ u, w.cell? ⟨g, 0 + k * 6 + i, none⟩ = some u ∧ w.frozen? ⟨g, 0 + k * 6 + i, none⟩ = false := by
  obtain ⟨c, ds, h1, h2, h3⟩ := h
  have hc : (ds.map TaskV.cells)[k]? = some (ds[k]'(by omega)).cells := by simp [show k < ds.length by omega]
  refine ⟨(ds[k]'(by omega)).cells[i]'(by simpa [TaskV.cells] using hi), RdP.cell (OwnP.rdp h2) hc (by rw [nthV_eq]; exact List.getElem?_eq_getElem _), ?_⟩
  rcases h2.2.2 with ⟨e1, _⟩ | ⟨g', cap, cur, e1, _, hg, _⟩
  · cases e1
  · simp only [Value.slice.injEq, Option.some.injEq, Addr.mk.injEq, and_true] at e1
    obtain ⟨rfl, _⟩ := e1
    simp [World.frozen?, hg]
theorem BL.at_ {w : World} {B g : Nat} (h : BL w B g) {k : Nat} (hk : k < 14) : ∃ (d : TaskV) (q : TaskP), TaskOk w d q ∧ RdC w (some ⟨g, 0 + k * 6, none⟩) d.cells := by
  obtain ⟨c, ds, h1, h2, h3⟩ := h
  obtain ⟨q, hq, -⟩ := h3 _ (List.getElem_mem (show k < ds.length by omega))
  exact ⟨_, q, hq, (OwnP.rdp h2).part (by simp [show k < ds.length by omega])⟩
theorem BL.stp {w : World} {B g : Nat} (h : BL w B g) {k i : Nat} (hk : k < 14) (hi : i < 6) {u : Value} (hu : ∀ (d : TaskV) (q : TaskP), (TaskOk w d q ∧ ∀ b o, (d.AL = some ⟨b, o, none⟩ ∨ d.AW = some ⟨b, o, none⟩ ∨ d.AV = some ⟨b, o, none⟩) → b ≠ g) → ∃ d' q', d'.cells = d.cells.set i u ∧ TaskOk w d' q' ∧ ∀ b o, (d'.AL = some ⟨b, o, none⟩ ∨ d'.AW = some ⟨b, o, none⟩ ∨ d'.AV = some ⟨b, o, none⟩) → b ≠ g) :
    BL (w.setCell ⟨g, 0 + k * 6 + i, none⟩ u) B g := by
  obtain ⟨c, ds, h1, h2, h3⟩ := h
  have hkl : k < ds.length := by omega
  obtain ⟨q, hq, hn⟩ := h3 _ (List.getElem_mem hkl)
  obtain ⟨d', q', e', hq', hn'⟩ := hu _ q ⟨hq, hn⟩
  have hs : ∀ d q, (TaskOk w d q ∧ ∀ b o, (d.AL = some ⟨b, o, none⟩ ∨ d.AW = some ⟨b, o, none⟩ ∨ d.AV = some ⟨b, o, none⟩) → b ≠ g) → TaskOk (w.setCell ⟨g, 0 + k * 6 + i, none⟩ u) d q := fun d q ⟨h, hn⟩ => { h with L := h.L.set_ (fun b o e => hn b o (.inl e)) _ _, W := h.W.set_ (fun b o e => hn b o (.inr (.inl e))) _ _, V := h.V.set_ (fun b o e => hn b o (.inr (.inr e))) _ _ }
  refine ⟨c, ds.set k d', by simp [h1], ?_, fun d hd => ?_⟩
  · have hl6 : ∀ d : TaskV, d.cells.length = 6 := fun d => rfl
    refine ⟨fun x hx => ?_, ?_⟩
    · obtain ⟨d, hd, rfl⟩ := List.mem_map.1 hx
      rfl
    · have hl : (ds.map TaskV.cells).length = 14 := by simp [h1]
      have h22 : w.ownsRow B 44 6 (.slice (some ⟨g, 0, none⟩) (ds.map TaskV.cells).length c) (ds.map TaskV.cells).length (ds.map TaskV.cells).flatten := by have := h2.2; rw [hl] at this ⊢; exact this
      have := (World.ownsRow.stored h22 (k * 6 + i) u).1
      rw [pe_flat _ 6 h2.1 k i u (by simpa using hkl) hi] at this
      have e : (ds.map TaskV.cells).getD k [] = (ds[k]'hkl).cells := by simp [hkl]
      rw [e, ← e', ← List.map_set, List.length_map, h1] at this
      rw [List.length_map, List.length_set, Nat.zero_add, h1]
      exact this
  · rcases List.mem_or_eq_of_mem_set hd with hd | hd
    · obtain ⟨q2, hq2⟩ := h3 d hd
      exact ⟨q2, hs d q2 hq2, hq2.2⟩
    · subst hd
      exact ⟨q', hs d q' ⟨hq', hn'⟩, hn'⟩
theorem BL.setN {w : World} {B g : Nat} (h : BL w B g) {k i : Nat} (hk : k < 14) (hi : i < 3) {z : Int} (hz : I64 z) : BL (w.setCell ⟨g, 0 + k * 6 + i, none⟩ (.int .i64 z)) B g :=
  h.stp hk (by omega) fun d q ⟨hq, hn⟩ => by
    rcases i with _ | _ | _ | i
    · exact ⟨{d with n := z}, {q with n := z}, rfl, { hq with n := rfl, iN := ⟨hz, hq.iN.2⟩ }, hn⟩
    · exact ⟨{d with m := z}, {q with m := z}, rfl, { hq with m := rfl, iN := ⟨hq.iN.1, hz, hq.iN.2.2⟩ }, hn⟩
    · exact ⟨{d with b := z}, {q with b := z}, rfl, { hq with b := rfl, iN := ⟨hq.iN.1, hq.iN.2.1, hz⟩ }, hn⟩
    · omega
theorem BL.setL {w : World} {B g : Nat} (h : BL w B g) {k i : Nat} (hk : k < 14) (hi : 3 ≤ i ∧ i < 6) {A : Option Addr} {n c : Nat} {zs : List Int} (hr : Rd w .i64 A zs) (hn : n = zs.length) (hn9 : n ≤ 9) (hI : AllI zs) (hne : ∀ b o, A = some ⟨b, o, none⟩ → b ≠ g) : BL (w.setCell ⟨g, 0 + k * 6 + i, none⟩ (.slice A n c)) B g :=
  h.stp hk (by omega) fun d q ⟨hq, hnn⟩ => by
    rcases i with _ | _ | _ | _ | _ | _ | i
    · omega
    · omega
    · omega
    · exact ⟨{d with AL := A, ll := n, lc := c}, {q with lens := zs}, rfl, { hq with L := hr, ll := hn, bl := by show n ≤ _; omega, iL := hI }, fun b o hb => by
        rcases hb with hb | hb | hb
        · exact hne b o hb
        · exact hnn b o (.inr (.inl hb))
        · exact hnn b o (.inr (.inr hb))⟩
    · exact ⟨{d with AW := A, wl := n, wc := c}, {q with worths := zs}, rfl, { hq with W := hr, wl := hn, bw := by show n ≤ _; omega, iW := hI }, fun b o hb => by
        rcases hb with hb | hb | hb
        · exact hnn b o (.inl hb)
        · exact hne b o hb
        · exact hnn b o (.inr (.inr hb))⟩
    · exact ⟨{d with AV := A, vl := n, vc := c}, {q with ws := zs}, rfl, { hq with V := hr, vl := hn, bv := by show n ≤ _; omega, iV := hI }, fun b o hb => by
        rcases hb with hb | hb | hb
        · exact hnn b o (.inl hb)
        · exact hnn b o (.inr (.inl hb))
        · exact hne b o hb⟩
    · omega
/-- copies of one task, whose lists lie below -/
theorem BL.of {w0 w : World} {v : Value} {d : TaskV} {q : TaskP} (h : OwnP w w0.heap.size 44 6 v (List.replicate 14 d.cells)) (hb : Below w0.heap.size w0 w) (hd : TaskOk w0 d q) (hlow : ∀ b o, (d.AL = some ⟨b, o, none⟩ ∨ d.AW = some ⟨b, o, none⟩ ∨ d.AV = some ⟨b, o, none⟩) → b < w0.heap.size) : ∃ g c, v = .slice (some ⟨g, 0, none⟩) 14 c ∧ BL w w0.heap.size g := by
  obtain ⟨g, c, rfl, hc⟩ := OwnP.row h (by simp)
  rw [List.length_replicate] at h ⊢
  have hg := h.lt g rfl
  refine ⟨g, c, rfl, c, List.replicate 14 d, by simp, by rw [List.map_replicate]; exact h, fun x hx => ?_⟩
  rw [(List.mem_replicate.1 hx).2]
  exact ⟨q, hd.keep hb, fun b o e => by have := hlow b o e; omega⟩
theorem ti_task : TyInfo Try.prog 44 (.agg zP.toArray) 6 96 := by unfold TyInfo; kernel_rfl
end Go.Proofs.Ytpojijnjdlnokaa
