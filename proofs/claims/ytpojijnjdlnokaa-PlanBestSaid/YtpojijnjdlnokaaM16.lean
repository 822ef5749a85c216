/- Texts joined: Pr PrR. -/
import Derived.Test.YtpojijnjdlnokaaM15
/- Layer 13: the document's tables; one layer of them. -/
namespace Go.Proofs.Ytpojijnjdlnokaa
open Go.RowKit
set_option linter.unusedVariables false

theorem mk2 (l : Nat) : (madeCells (Value.agg #[.int .i64 0, .int .i64 0]).cells (l * 2)).toList = List.replicate (l * 2) (.int .i64 0) := by
  apply List.ext_getElem
  · simp [madeCells]
  · intro i h1 h2
    have : i % 2 = 0 ∨ i % 2 = 1 := by omega
    rcases this with h | h <;> simp [madeCells, Value.cells, h]
section
variable {P : Program} {n : Cx} {fr : Fr} {w : World} {ty : TypeId} {x y : Operand} {T e : TypeId}
/-- make of structs of two numbers: a block known whole -/
theorem ot_make2 {k k2 : IntKind} {m c : Int} {l bytes : Nat} (hT : P.underlying T = some (.slice e)) (hi : TyInfo P e (.agg #[.int .i64 0, .int .i64 0]) 2 bytes) (hx : Fr.ev fr x = some (.int k m)) (hy : Fr.ev fr y = some (.int k2 c)) (hm : m = (l : Int)) (hc : c = (l : Int))
    (hb : bytes * l ≤ 281474976710656) (hl : l ≤ maxLen) : OT P n (.makeSlice T x y) ty fr w fun v w' => v = .slice (some ⟨w.heap.size, 0, none⟩) l l ∧ Bk w' w.heap.size (List.replicate (l * 2) (.int .i64 0)) e ∧ w.grownBy w' none := by
  subst hm; subst hc
  obtain ⟨i, h1, h2, h3, h4⟩ := info_parts hi
  obtain ⟨w', hr, ho, hg⟩ := run_make_full (P := P) w w.heap.size T e i _ 2 hT h1 h2 h3 k k2 l (by rw [h4]; exact hb) hl (Nat.le_refl _)
  refine ot_of fun a ha => ⟨_, w', by simp [execOp, ha.ev hx, ha.ev hy, hr, Result.andThen], rfl, ?_, hg⟩
  rw [mk2] at ho
  rcases ho.2 with ⟨h0, _⟩ | ⟨g, cap, cur, h0, _, hgg, _, _, hs, ht⟩
  · cases h0
  · injection h0 with e1 e2 e3
    injection e1 with e1
    injection e1 with e1
    subst e3
    unfold Bk
    rw [e1, hgg]
    have : cur = (List.replicate (l * 2) (Value.int .i64 0)).toArray := by
      rw [← ht, List.take_of_length_le (by simp [hs])]
    rw [this]
end
theorem ti_cell : TyInfo Try.prog 102 (.agg #[.int .i64 0, .int .i64 0]) 2 16 := by unfold TyInfo; kernel_rfl
theorem ti_cellss : TyInfo Try.prog 97 (.slice none 0 0) 1 24 := by unfold TyInfo; kernel_rfl
theorem ti_cells : TyInfo Try.prog 98 (.slice none 0 0) 1 24 := by unfold TyInfo; kernel_rfl

/-- v is a table of cells: its rows 1 to N, each of r + 1 cells; all in blocks from B on, ahead of Z -/
structure Tc (w : World) (B Z : Nat) (v : Value) (us : List Value) (N r : Nat) (cc : Nat → List Value) : Prop where
  own : Own w B 98 v us
  ob : ∀ g, v.ownBlock = some g → g < Z
  len : N ≤ us.length
  each : ∀ i, 1 ≤ i → i < N → ∃ g, us[i]? = some (.slice (some ⟨g, 0, none⟩) (r + 1) (r + 1)) ∧ Bk w g (cc i) 102 ∧ B ≤ g ∧ g < Z ∧ v.ownBlock ≠ some g
theorem Tc.below {w w' : World} {B Z : Nat} {v : Value} {us : List Value} {N r : Nat} {cc : Nat → List Value} (h : Tc w B Z v us N r cc) (hb : Below Z w w') : Tc w' B Z v us N r cc :=
  ⟨h.own.keep hb h.ob, h.ob, h.len, fun i h1 h2 => by
    obtain ⟨g, e, hg, hB, hZ, hn⟩ := h.each i h1 h2
    exact ⟨g, e, hg.below hb hZ, hB, hZ, hn⟩⟩
theorem Tc.keep {w w' : World} {B Z : Nat} {v : Value} {us : List Value} {N r : Nat} {cc : Nat → List Value} (h : Tc w B Z v us N r cc) (hb : Below w.heap.size w w') : Tc w' B Z v us N r cc :=
  ⟨h.own.keepAll hb, h.ob, h.len, fun i h1 h2 => by
    obtain ⟨g, e, hg, hB, hZ, hn⟩ := h.each i h1 h2
    exact ⟨g, e, hg.keep hb, hB, hZ, hn⟩⟩
theorem Tc.mono {w : World} {B B' Z Z' : Nat} {v : Value} {us : List Value} {N r : Nat} {cc : Nat → List Value} (h : Tc w B Z v us N r cc) (hB : B' ≤ B) (hZ : Z ≤ Z') : Tc w B' Z' v us N r cc :=
  ⟨h.own.mono hB, fun g hg => by have := h.ob g hg; omega, h.len, fun i h1 h2 => by
    obtain ⟨g, e, hg, h3, h4, hn⟩ := h.each i h1 h2
    exact ⟨g, e, hg, by omega, by omega, hn⟩⟩
theorem Tc.get {w : World} {B Z : Nat} {v : Value} {us : List Value} {N r : Nat} {cc : Nat → List Value} (h : Tc w B Z v us N r cc) {i : Nat} (h1 : 1 ≤ i) (h2 : i < N) : ∃ g, us[i]? = some (.slice (some ⟨g, 0, none⟩) (r + 1) (r + 1)) ∧ Bk w g (cc i) 102 := by
  obtain ⟨g, e, hg, _⟩ := h.each i h1 h2
  exact ⟨g, e, hg⟩
/-- a new row is hung in at place N -/
theorem Tc.hang {w : World} {B Z go n c : Nat} {us : List Value} {N r : Nat} {cc : Nat → List Value} (h : Tc w B Z (.slice (some ⟨go, 0, none⟩) n c) us N r cc) (u : Value) :
    Tc (w.setCell ⟨go, 0 + N, none⟩ u) B Z (.slice (some ⟨go, 0, none⟩) n c) (us.set N u) N r cc := by
  rw [Nat.zero_add]
  refine ⟨Own.set h.own N u, h.ob, by rw [List.length_set]; exact h.len, fun i h1 h2 => ?_⟩
  obtain ⟨g, e, hg, hB, hZ, hn⟩ := h.each i h1 h2
  exact ⟨g, by rw [List.getElem?_set_ne (by omega)]; exact e, Bk.other hg (fun e => hn (by simpa [Value.ownBlock] using e)) u, hB, hZ, hn⟩
/-- it is filled -/
theorem Tc.push {w : World} {B Z Z' : Nat} {v : Value} {us : List Value} {N r gf : Nat} {cc : Nat → List Value} {cs : List Value} (h : Tc w B Z v us N r cc) (hu : us[N]? = some (.slice (some ⟨gf, 0, none⟩) (r + 1) (r + 1))) (hb : Bk w gf cs 102) (hB : B ≤ gf) (hz : Z ≤ gf) (hz' : gf < Z') :
    Tc w B Z' v us (N + 1) r (fun j => if j = N then cs else cc j) := by
  refine ⟨h.own, fun g hg => by have := h.ob g hg; omega, (List.getElem?_eq_some_iff.1 hu).1, fun i h1 h2 => ?_⟩
  by_cases e : i = N
  · subst e
    exact ⟨gf, hu, by rw [if_pos rfl]; exact hb, hB, hz', fun e => by have := h.ob gf e; omega⟩
  · obtain ⟨g, e1, hg, h3, h4, hn⟩ := h.each i h1 (by omega)
    exact ⟨g, e1, by rw [if_neg e]; exact hg, h3, by omega, hn⟩

/-- what stands in a row of the document's table: the best score, and its first threshold -/
def puV (f : Nat → Nat → Int) (k d : Nat) (j : Nat) : Value := .int .i64 (if j % 2 = 0 then (upP (f (j / 2)) k d).1 else ((upP (f (j / 2)) k d).2 : Int))
theorem puV_0 (f : Nat → Nat → Int) (k d x : Nat) : puV f k d (2 * x) = .int .i64 (upP (f x) k d).1 := by
  unfold puV; rw [if_pos (by omega), show 2 * x / 2 = x by omega]
theorem puV_1 (f : Nat → Nat → Int) (k d x : Nat) : puV f k d (2 * x + 1) = .int .i64 ((upP (f x) k d).2 : Int) := by
  unfold puV; rw [if_neg (by omega), show (2 * x + 1) / 2 = x by omega]
theorem rowV_rep2 {r : Nat} : List.replicate ((r + 1) * 2) (Value.int .i64 0) = rowV (fun _ => .int .i64 0) (2 * r + 1) := by
  rw [← rowV_rep]; congr 1; omega

set_option maxHeartbeats 8000000 in
theorem r13_layer (d : TaskV) (q : TaskP) (n r a m sb Bb Zb : Nat) (ub : List Value) (cb : Nat → List Value) (w : World) (hd : TaskOk w d q) (hR : TaskR q n) (hL : q.lens.length = a + 1 + m) (hr : r ≤ 2000)
    (hT : Tc w Bb Zb (.slice (some ⟨sb, 0, none⟩) (n + 1) (n + 1)) ub (n + 1) r cb) (hcb : ∀ k, 1 ≤ k → k ≤ n → ∀ x, x ≤ r → nthV (cb k) (2 * x) = some (.int .i64 (scP n (lysF q m (a + 1)) k x))) :
    Gives Try.prog 65 #[.agg d.cells.toArray, .int .i64 a, .slice (some ⟨sb, 0, none⟩) (n + 1) (n + 1), .int .i64 r] w fun v w' => ∃ s2 u2 c2, v = .slice (some ⟨s2, 0, none⟩) (n + 1) (n + 1) ∧ Tc w' w.heap.size w'.heap.size v u2 (n + 1) r c2 ∧ (∀ k, 1 ≤ k → k ≤ n → c2 k = rowV (puV (FQ q n m a) k (n + 1 - k)) (2 * r + 1)) ∧ Below w.heap.size w w' := by
  have hdn : d.n = (n : Int) := hd.n.trans hR.n_
  have hn1 := hR.n1
  have hn2 := hR.n2
  have hl8 := hR.l2
  have hll := hd.ll
  have hwl := hd.wl
  have hvl := hd.vl
  have hlw := hR.lw
  have hlv := hR.lv
  have hlen := hR.len a (by omega)
  have hB := bk_new w d.cells 51
  have hb0 : Below w.heap.size w (w.alloc (.cells d.cells.toArray 51)) := (Below.refl _ w).alloc (Nat.le_refl _) _
  have cn : nthV d.cells 0 = some (.int .i64 (n : Int)) := by show some (Value.int .i64 d.n) = _; rw [hdn]
  refine gives_enter Try.call65 Try.func65 rfl rfl rfl (by kernel_rfl) ?_
  refine v_seq ?_
  refine v_region ?_
  refine vl_val (os_box rfl) ?_
  refine vl_val (os_assign rfl) ?_
  refine vl_nil ?_
  refine v_seq ?_
  refine v_region ?_
  refine vl_val (os_fa (o := 0) (k := 2) (by kernel_rfl) rfl) ?_
  refine vl_val (os_fa (o := 0) (k := 0) (by kernel_rfl) rfl) ?_
  refine vl_val (os_load Try.isAgg3 rfl (hB.cell (i := 0) cn)) ?_
  refine vl_val (os_addi rfl rfl (by omega)) ?_
  refine vl_some (ot_make (l := n + 1) Try.underlying97 ti_cells rfl rfl rfl (by omega) (by omega) (by omega) (by simp [maxLen]; omega) _ (Nat.le_refl _)) ?_
  rintro v1 w1 ⟨e1, o1, g1⟩
  have b1a := (Below.refl _ (w.alloc (.cells d.cells.toArray 51))).grown g1 (Nat.le_refl _) (fun k hk => by cases hk)
  have hB1 := hB.keep b1a
  have hb1 := hb0.trans (b1a.mono hb0.size)
  obtain ⟨go, hgo, rfl⟩ : ∃ go, go = (w.alloc (.cells d.cells.toArray 51)).heap.size ∧ v1 = .slice (some ⟨go, 0, none⟩) (n + 1) (n + 1) := ⟨_, rfl, e1⟩
  have hgo1 : go < w1.heap.size := by have := (World.ownsRow.lt o1 go rfl).2; exact this
  have hgw : w.heap.size < go := by rw [hgo]; simp
  have o1' : Own w1 w.heap.size 98 (.slice (some ⟨go, 0, none⟩) (n + 1) (n + 1)) (List.replicate (n + 1) (.slice none 0 0)) := o1.mono (by simp)
  refine vl_val (os_assign rfl) ?_
  refine vl_nil ?_
  refine v_seq ?_
  refine v_seq ?_
  refine v_region ?_
  refine vl_val (os_assign rfl) ?_
  refine vl_nil ?_
  refine v_block ?_
  refine v_loop [(1, _), (2, _), (3, _), (4, _), (9, _)] (fun (F : Nat) => [(10, .int .i64 F)]) (fun F w' => 1 ≤ F ∧ F ≤ n + 1 ∧ (∃ us cc, us.length = n + 1 ∧ Tc w' w.heap.size w'.heap.size (.slice (some ⟨go, 0, none⟩) (n + 1) (n + 1)) us F r cc ∧ (∀ k, 1 ≤ k → k < F → cc k = rowV (puV (FQ q n m a) k (n + 1 - k)) (2 * r + 1))) ∧ Below w.heap.size w w' ∧ Bk w' w.heap.size d.cells 51) (fun F => n + 1 - F) (1) ⟨rfl, rfl, rfl, rfl, rfl, trivial⟩ ⟨rfl, trivial⟩ (⟨by omega, by omega, ⟨_, (fun _ => []), by simp, ⟨o1', fun g hg => by have e : go = g := (by simpa [Value.ownBlock] using hg); omega, by simp, fun i h1 h2 => absurd h1 (by omega)⟩, fun k h1 h2 => absurd h1 (by omega)⟩, hb1, hB1⟩) ?_
  rintro F w2 ⟨hF1, hF2, ⟨us, cc, hul, hT2, hcc⟩, hb2, hB2⟩
  refine v_seq ?_
  refine v_seq ?_
  refine v_region ?_
  refine vl_val (os_move rfl) ?_
  refine vl_val (os_fa (o := 0) (k := 2) (by kernel_rfl) rfl) ?_
  refine vl_val (os_fa (o := 0) (k := 0) (by kernel_rfl) rfl) ?_
  refine vl_val (os_load Try.isAgg3 rfl (hB2.cell (i := 0) cn)) ?_
  refine vl_val (os_leq rfl rfl) ?_
  refine vl_nil ?_
  refine v_cond_d rfl (fun hlt => ?_) (fun hlt => ?_)
  · refine v_skip ?_
    refine v_seq ?_
    refine v_block ?_
    refine v_seq ?_
    refine v_region ?_
    refine vl_val (os_move rfl) ?_
    refine vl_val (os_move rfl) ?_
    refine vl_val (os_move rfl) ?_
    refine vl_val (os_addi rfl rfl (by omega)) ?_
    refine vl_some (ot_make2 (l := r + 1) Try.underlying98 ti_cell rfl rfl (by omega) (by omega) (by omega) (by simp [maxLen]; omega)) ?_
    rintro v3 w3 ⟨rfl, k3, g3⟩
    obtain ⟨gf, hgf⟩ : ∃ gf, gf = w2.heap.size := ⟨_, rfl⟩
    have b3 := (Below.refl _ w2).grown g3 (Nat.le_refl _) (fun k hk => by cases hk)
    have hT3 := hT2.keep b3
    rw [← hgf] at k3 hT3 ⊢
    refine vl_val (os_ix Try.underlying97 Try.sizeOf98 rfl rfl (i := F) (by omega) (by omega)) ?_
    refine vl_unit (ou_store Try.sizeOf98 rfl rfl rfl ((Own.get hT3.own (List.getElem?_eq_getElem (by omega)))) ((Own.free hT3.own _))) ?_
    have hT4 := hT3.hang (.slice (some ⟨gf, 0, none⟩) (r + 1) (r + 1))
    have hgof : go < gf := by have := hT3.ob go rfl; exact this
    have k4 := Bk.other (a := ⟨go, 0 + F, none⟩) k3 (by simp; omega) (.slice (some ⟨gf, 0, none⟩) (r + 1) (r + 1))
    have hB4 := Bk.other (a := ⟨go, 0 + F, none⟩) (hB2.keep b3) (by simp; omega) (.slice (some ⟨gf, 0, none⟩) (r + 1) (r + 1))
    have hb4 : Below w.heap.size w (w3.setCell ⟨go, 0 + F, none⟩ (.slice (some ⟨gf, 0, none⟩) (r + 1) (r + 1))) := below_set (hb2.trans (b3.mono hb2.size)) (by omega) _ _
    have hgl := k4.lt
    generalize w3.setCell ⟨go, 0 + F, none⟩ (.slice (some ⟨gf, 0, none⟩) (r + 1) (r + 1)) = w4 at *
    rw [rowV_rep2] at k4
    refine vl_nil ?_
    refine v_seq ?_
    refine v_region ?_
    refine vl_val (os_assign rfl) ?_
    refine vl_nil ?_
    refine v_block ?_
    refine v_loop [(1, _), (2, _), (3, _), (4, _), (9, _), (10, _)] (fun (x : Nat) => [(11, .int .i64 x)]) (fun x w' => x ≤ r + 1 ∧ Bk w' gf (rowV (mixV (puV (FQ q n m a) F (n + 1 - F)) (fun _ => .int .i64 0) (2 * x)) (2 * r + 1)) 102 ∧ Below gf w4 w') (fun x => r + 1 - x) (0) ⟨rfl, rfl, rfl, rfl, rfl, rfl, trivial⟩ ⟨rfl, trivial⟩ (⟨by omega, by rw [mixV_none (fun y hy => absurd hy (by omega))]; exact k4, Below.refl _ _⟩) ?_
    rintro x w5 ⟨hx, k5, b5⟩
    have hT5 := hT4.below b5
    have hB5 := hB4.below b5 (by omega)
    have hb5 : Below w.heap.size w w5 := hb4.trans (b5.mono (by omega))
    have hd5 := hd.keep hb5
    have hTb := hT.keep hb5
    refine v_seq ?_
    refine v_seq ?_
    refine v_region ?_
    refine vl_val (os_move rfl) ?_
    refine vl_val (os_move rfl) ?_
    refine vl_val (os_leq rfl rfl) ?_
    refine vl_nil ?_
    refine v_cond_d rfl (fun hx2 => ?_) (fun hx2 => ?_)
    · refine v_skip ?_
      refine v_seq ?_
      refine v_block ?_
      refine v_seq ?_
      refine v_region ?_
      refine vl_val (os_build (cs := [.int .i64 (-1), .int .i64 0]) rfl (by kernel_rfl)) ?_
      refine vl_val (os_allocB Try.zeroValue102 (zc := _) (cs := [.int .i64 0, .int .i64 0]) rfl) ?_
      have hM0 := bk_new w5 [.int .i64 0, .int .i64 0] 102
      refine vl_unit (ou_storeB (by kernel_rfl) rfl rfl hM0 rfl rfl) ?_
      have hM1 := setRow_bk hM0 [.int .i64 (-1), .int .i64 0]
      have b6 : Below w5.heap.size w5 _ := below_setRow ((Below.refl _ w5).alloc (Nat.le_refl _) (.cells [Value.int .i64 0, .int .i64 0].toArray 102)) (Nat.le_refl _) [Value.int .i64 (-1), .int .i64 0].toArray
      obtain ⟨M, hM⟩ : ∃ M, M = w5.heap.size := ⟨_, rfl⟩
      have kl5 := k5.lt
      rw [← hM] at hM1 b6 ⊢
      generalize (w5.alloc (.cells [Value.int .i64 0, .int .i64 0].toArray 102)).setRow M [Value.int .i64 (-1), .int .i64 0].toArray = w6 at *
      refine vl_nil ?_
      refine v_seq ?_
      refine v_seq ?_
      refine v_region ?_
      refine vl_val (os_move rfl) ?_
      refine vl_val (os_assign rfl) ?_
      refine vl_nil ?_
      refine v_block ?_
      refine v_loop [(1, _), (2, _), (3, _), (4, _), (9, _), (10, _), (11, _), (12, _)] (fun (k : Nat) => [(13, .int .i64 k)]) (fun k w' => F ≤ k ∧ k ≤ n + 1 ∧ Bk w' M [.int .i64 (upP (FQ q n m a x) F (k - F)).1, .int .i64 ((upP (FQ q n m a x) F (k - F)).2 : Int)] 102 ∧ Below M w5 w') (fun k => n + 1 - k) (F) ⟨rfl, rfl, rfl, rfl, rfl, rfl, rfl, rfl, trivial⟩ ⟨rfl, trivial⟩ (⟨Nat.le_refl _, by omega, by rw [Nat.sub_self]; exact hM1, b6⟩) ?_
      rintro k w7 ⟨hk1, hk2, hM7, b7⟩
      have b57 : Below w5.heap.size w5 w7 := hM ▸ b7
      have hB7 := hB5.keep b57
      have hd7 := hd5.keep b57
      have hTb7 := hTb.keep b57
      refine v_seq ?_
      refine v_seq ?_
      refine v_region ?_
      refine vl_val (os_move rfl) ?_
      refine vl_val (os_fa (o := 0) (k := 2) (by kernel_rfl) rfl) ?_
      refine vl_val (os_fa (o := 0) (k := 0) (by kernel_rfl) rfl) ?_
      refine vl_val (os_load Try.isAgg3 rfl (hB7.cell (i := 0) cn)) ?_
      refine vl_val (os_leq rfl rfl) ?_
      refine vl_nil ?_
      refine v_cond_d rfl (fun hk3 => ?_) (fun hk3 => ?_)
      · obtain ⟨bL, oL, eL, cL⟩ := hd7.L.at_ (i := a) (by omega)
        obtain ⟨bW, oW, eW, cW⟩ := hd7.W.at_ (i := a) (by omega)
        obtain ⟨bV, oV, eV, cV⟩ := hd7.V.at_ (i := k) (by omega)
        have hok : widthOk (q.lens.getD a 0) k = true := by simp only [widthOk, decide_eq_true_eq]; omega
        have hwb := width_bd hok
        obtain ⟨wd, hwd⟩ : ∃ wd : Nat, wd = (lyQ q a).wd k := ⟨_, rfl⟩
        have hwd' : (wd : Int) = widthW (q.lens.getD a 0) k := by rw [hwd]; show ((widthW (q.lens.getD a 0) k).toNat : Int) = _; omega
        have hwv : widthV (q.lens.getD a 0) k = (wd : Int) := by unfold widthV; rw [if_pos hok]; exact hwd'.symm
        have ho := lyQ_o hR (i := a) (k := k) (by omega) (by omega)
        have hoe : (lyQ q a).o k = q.worths.getD a 0 * q.ws.getD k 0 := rfl
        have hup : upP (FQ q n m a x) F (k + 1 - F) = if (upP (FQ q n m a x) F (k - F)).1 < FQ q n m a x k then (FQ q n m a x k, k) else upP (FQ q n m a x) F (k - F) := by rw [show k + 1 - F = (k - F) + 1 by omega, upP, show F + (k - F) = k by omega]
        have hup1 := (upP_spec (f := FQ q n m a x) (k := F) (d := k - F)).1
        refine v_skip ?_
        refine v_seq ?_
        refine v_block ?_
        refine v_seq ?_
        refine v_region ?_
        refine vl_val (os_fa (o := 3) (k := 0) (by kernel_rfl) rfl) ?_
        refine vl_val (os_load Try.isAgg40 rfl ((hB7.cell (i := 3) (v := .slice (some ⟨bL, oL, none⟩) d.ll d.lc) (by rw [← eL]; rfl)))) ?_
        refine vl_val (os_move rfl) ?_
        refine vl_val (os_ix Try.underlying40 Try.sizeOf3 rfl rfl (i := a) (by omega) (by omega)) ?_
        refine vl_val (os_load Try.isAgg3 rfl (cL)) ?_
        refine vl_val (os_move rfl) ?_
        refine vl_call (ref09_Width (q.lens.getD a 0) k w7) rfl ?_
        rintro v8 w7 ⟨rfl, rfl⟩
        rw [hwv]
        obtain ⟨gk, huk, hBk⟩ := hTb7.get (i := k) (by omega) (by omega)
        refine vl_val (os_move rfl) ?_
        refine vl_val (os_extract rfl rfl) ?_
        refine vl_val (os_extract rfl rfl) ?_
        refine vl_val (os_assign rfl) ?_
        refine vl_val (os_assign rfl) ?_
        refine vl_nil ?_
        rcases (by by_cases h1 : x < wd; exact .inl h1; by_cases h2 : scP n (lysF q m (a + 1)) k (x - wd) = -1; exact .inr (.inl ⟨by omega, h2⟩); exact .inr (.inr ⟨by omega, h2⟩) : x < wd ∨ (wd ≤ x ∧ scP n (lysF q m (a + 1)) k (x - wd) = -1) ∨ (wd ≤ x ∧ scP n (lysF q m (a + 1)) k (x - wd) ≠ -1)) with h3 | ⟨h3, h4⟩ | ⟨h3, h4⟩
        · refine v_seq ?_
          refine v_seq ?_
          refine v_region ?_
          refine vl_val (os_move rfl) ?_
          refine vl_val (os_move rfl) ?_
          refine vl_val (os_t (os_gtr rfl rfl) (by omega)) ?_
          have hFx : FQ q n m a x k = -1 := by unfold FQ valP; rw [if_neg (by omega)]
          refine vl_val (os_move rfl) ?_
          refine vl_skip rfl rfl ?_
          refine vl_skip rfl rfl ?_
          refine vl_skip rfl rfl ?_
          refine vl_skip rfl rfl ?_
          refine vl_skip rfl rfl ?_
          refine vl_skip rfl rfl ?_
          refine vl_skip rfl rfl ?_
          refine vl_skip rfl rfl ?_
          refine vl_skip rfl rfl ?_
          refine vl_skip rfl rfl ?_
          refine vl_skip rfl rfl ?_
          refine vl_val (os_pick_t rfl rfl) ?_
          refine vl_nil ?_
          refine v_cond_t rfl ?_
          refine v_exit ?_
          refine v_region ?_
          refine vl_val (os_move rfl) ?_
          refine vl_val (os_addi rfl rfl (by omega)) ?_
          refine vl_val (os_assign rfl) ?_
          refine vl_nil ?_
          exact ⟨k + 1, ⟨rfl, rfl, rfl, rfl, rfl, rfl, rfl, rfl, trivial⟩, ⟨rfl, trivial⟩, ⟨by omega, by omega, by rw [hup, if_neg (by omega)]; exact hM7, b7⟩, by dsimp only; omega⟩
        · have hFx : FQ q n m a x k = -1 := by unfold FQ valP; rw [← hwd, if_neg (fun h => h.2 h4)]
          have crest := hBk.cell (i := 2 * (x - wd)) (hcb k (by omega) (by omega) (x - wd) (by omega))
          refine v_seq ?_
          refine v_seq ?_
          refine v_region ?_
          refine vl_val (os_move rfl) ?_
          refine vl_val (os_move rfl) ?_
          refine vl_val (os_f (os_gtr rfl rfl) (by omega)) ?_
          refine vl_val (os_move rfl) ?_
          refine vl_valg rfl (os_move rfl) ?_
          refine vl_valg rfl (os_move rfl) ?_
          refine vl_valg rfl (os_ix Try.underlying97 Try.sizeOf98 rfl rfl (i := k) (by omega) (by omega)) ?_
          refine vl_valg rfl (os_load Try.isAgg98 rfl (Own.get hTb7.own huk)) ?_
          refine vl_valg rfl (os_move rfl) ?_
          refine vl_valg rfl (os_move rfl) ?_
          refine vl_valg rfl (os_subi rfl rfl (by omega)) ?_
          refine vl_valg rfl (os_ixs Try.underlying98 Try.sizeOf102 rfl rfl (i := x - wd) (by omega) (by omega)) ?_
          refine vl_valg rfl (os_fa (o := 0) (k := 0) (by kernel_rfl) rfl) ?_
          refine vl_valg rfl (os_load Try.isAgg3 rfl ((by rw [show 0 + (x - wd) * 2 + 0 = 0 + 2 * (x - wd) by omega]; exact crest))) ?_
          rw [h4]
          refine vl_valg rfl (os_t (os_lss rfl rfl) (by decide)) ?_
          refine vl_val (os_pick_f rfl rfl) ?_
          refine vl_nil ?_
          refine v_cond_t rfl ?_
          refine v_exit ?_
          refine v_region ?_
          refine vl_val (os_move rfl) ?_
          refine vl_val (os_addi rfl rfl (by omega)) ?_
          refine vl_val (os_assign rfl) ?_
          refine vl_nil ?_
          exact ⟨k + 1, ⟨rfl, rfl, rfl, rfl, rfl, rfl, rfl, rfl, trivial⟩, ⟨rfl, trivial⟩, ⟨by omega, by omega, by rw [hup, if_neg (by omega)]; exact hM7, b7⟩, by dsimp only; omega⟩
        · obtain ⟨rest, hrest⟩ : ∃ rest, rest = scP n (lysF q m (a + 1)) k (x - wd) := ⟨_, rfl⟩
          have crest := hBk.cell (i := 2 * (x - wd)) (hcb k (by omega) (by omega) (x - wd) (by omega))
          have hFx : FQ q n m a x k = (lyQ q a).o k + rest := by unfold FQ valP; rw [← hwd, if_pos ⟨h3, h4⟩, hrest]
          rw [← hrest] at crest h4
          have hr1 : -1 ≤ rest := by rw [hrest]; exact scP_ge
          have hr2 : rest ≤ m * 68719476736 := by rw [hrest]; exact scP_bd hR (by omega) (by omega)
          refine v_seq ?_
          refine v_seq ?_
          refine v_region ?_
          refine vl_val (os_move rfl) ?_
          refine vl_val (os_move rfl) ?_
          refine vl_val (os_f (os_gtr rfl rfl) (by omega)) ?_
          refine vl_val (os_move rfl) ?_
          refine vl_valg rfl (os_move rfl) ?_
          refine vl_valg rfl (os_move rfl) ?_
          refine vl_valg rfl (os_ix Try.underlying97 Try.sizeOf98 rfl rfl (i := k) (by omega) (by omega)) ?_
          refine vl_valg rfl (os_load Try.isAgg98 rfl (Own.get hTb7.own huk)) ?_
          refine vl_valg rfl (os_move rfl) ?_
          refine vl_valg rfl (os_move rfl) ?_
          refine vl_valg rfl (os_subi rfl rfl (by omega)) ?_
          refine vl_valg rfl (os_ixs Try.underlying98 Try.sizeOf102 rfl rfl (i := x - wd) (by omega) (by omega)) ?_
          refine vl_valg rfl (os_fa (o := 0) (k := 0) (by kernel_rfl) rfl) ?_
          refine vl_valg rfl (os_load Try.isAgg3 rfl ((by rw [show 0 + (x - wd) * 2 + 0 = 0 + 2 * (x - wd) by omega]; exact crest))) ?_
          refine vl_valg rfl (os_f (os_lss rfl rfl) (by omega)) ?_
          refine vl_val (os_pick_f rfl rfl) ?_
          refine vl_nil ?_
          refine v_cond_f rfl ?_
          refine v_skip ?_
          refine v_seq ?_
          refine v_region_t LeD _ mixed (by kernel_rfl) lee_d (led_start _) ?_
          refine vt_val (fun w hw => os_fa (o := 4) (k := 0) (by kernel_rfl) rfl) ?_
          refine vt_val (fun w hw => os_load Try.isAgg40 rfl (led_cell hw ((hB7.cell (i := 4) (v := .slice (some ⟨bW, oW, none⟩) d.wl d.wc) (by rw [← eW]; rfl))))) ?_
          refine vt_val (fun w hw => os_move rfl) ?_
          refine vt_val (fun w hw => os_ix Try.underlying40 Try.sizeOf3 rfl rfl (i := a) (by omega) (by omega)) ?_
          refine vt_val (fun w hw => os_load Try.isAgg3 rfl (led_cell hw (cW))) ?_
          refine vt_val (fun w hw => os_fa (o := 5) (k := 0) (by kernel_rfl) rfl) ?_
          refine vt_val (fun w hw => os_load Try.isAgg40 rfl (led_cell hw ((hB7.cell (i := 5) (v := .slice (some ⟨bV, oV, none⟩) d.vl d.vc) (by rw [← eV]; rfl))))) ?_
          refine vt_val (fun w hw => os_move rfl) ?_
          refine vt_val (fun w hw => os_ix Try.underlying40 Try.sizeOf3 rfl rfl (i := k) (by omega) (by omega)) ?_
          refine vt_val (fun w hw => os_load Try.isAgg3 rfl (led_cell hw (cV))) ?_
          refine vt_val (fun w hw => os_mul rfl rfl ((show IntKind.i64.wrap (q.worths.getD a 0 * q.ws.getD k 0) = (lyQ q a).o k by rw [← hoe]; exact i64_fit ⟨by omega, by omega⟩))) ?_
          refine vt_val (fun w hw => os_move rfl) ?_
          refine vt_val (fun w hw => os_move rfl) ?_
          refine vt_val (fun w hw => os_ix Try.underlying97 Try.sizeOf98 rfl rfl (i := k) (by omega) (by omega)) ?_
          refine vt_val (fun w hw => os_load Try.isAgg98 rfl (led_cell hw (Own.get hTb7.own huk))) ?_
          refine vt_val (fun w hw => os_move rfl) ?_
          refine vt_val (fun w hw => os_move rfl) ?_
          refine vt_val (fun w hw => os_subi rfl rfl (by omega)) ?_
          refine vt_val (fun w hw => os_ixs Try.underlying98 Try.sizeOf102 rfl rfl (i := x - wd) (by omega) (by omega)) ?_
          refine vt_val (fun w hw => os_fa (o := 0) (k := 0) (by kernel_rfl) rfl) ?_
          refine vt_val (fun w hw => os_load Try.isAgg3 rfl (led_cell hw ((by rw [show 0 + (x - wd) * 2 + 0 = 0 + 2 * (x - wd) by omega]; exact crest)))) ?_
          refine vt_val (fun w hw => os_addi rfl rfl (by omega)) ?_
          refine vt_val (fun w hw => os_assign rfl) ?_
          refine vt_nil (fun w hw => ?_)
          obtain ⟨q1, rfl⟩ := hw
          have hM8 := hM7.led (⟨q1, rfl⟩ : LeD w7 _)
          have e8 : Below M w7 (w7.drewN q1) := led_below ⟨q1, rfl⟩
          have b8 := b7.trans e8
          refine v_seq ?_
          refine v_region ?_
          refine vl_val (os_move rfl) ?_
          refine vl_val (os_fa (o := 0) (k := 0) (by kernel_rfl) rfl) ?_
          refine vl_val (os_load Try.isAgg3 rfl (hM8.cell (i := 0) rfl)) ?_
          refine vl_val (os_gtr rfl rfl) ?_
          refine vl_nil ?_
          refine v_cond_d rfl (fun h5 => ?_) (fun h5 => ?_)
          · refine v_region ?_
            refine vl_val (os_move rfl) ?_
            refine vl_val (os_move rfl) ?_
            refine vl_val (os_build (cs := [.int .i64 ((lyQ q a).o k + rest), .int .i64 k]) rfl (by kernel_rfl)) ?_
            refine vl_unit (ou_storeB (by kernel_rfl) rfl rfl hM8 rfl rfl) ?_
            refine vl_nil ?_
            refine v_region ?_
            refine vl_val (os_move rfl) ?_
            refine vl_val (os_addi rfl rfl (by omega)) ?_
            refine vl_val (os_assign rfl) ?_
            refine vl_nil ?_
            exact ⟨k + 1, ⟨rfl, rfl, rfl, rfl, rfl, rfl, rfl, rfl, trivial⟩, ⟨rfl, trivial⟩, ⟨by omega, by omega, by rw [hup, if_pos (by omega), hFx]; exact setRow_bk hM8 [.int .i64 ((lyQ q a).o k + rest), .int .i64 k], below_setRow b8 (Nat.le_refl _) _⟩, by dsimp only; omega⟩
          · refine v_skip ?_
            refine v_region ?_
            refine vl_val (os_move rfl) ?_
            refine vl_val (os_addi rfl rfl (by omega)) ?_
            refine vl_val (os_assign rfl) ?_
            refine vl_nil ?_
            exact ⟨k + 1, ⟨rfl, rfl, rfl, rfl, rfl, rfl, rfl, rfl, trivial⟩, ⟨rfl, trivial⟩, ⟨by omega, by omega, by rw [hup, if_neg (by omega)]; exact hM8, b8⟩, by dsimp only; omega⟩
      · obtain rfl : k = n + 1 := by omega
        have hu4 : (us.set F (.slice (some ⟨gf, 0, none⟩) (r + 1) (r + 1)))[F]? = some (.slice (some ⟨gf, 0, none⟩) (r + 1) (r + 1)) := List.getElem?_set_self (by omega)
        have hT7 := hT5.keep b57
        have k7 := k5.keep b57
        have gM : gf ≠ M := by omega
        refine v_exit ?_
        refine v_region_h (fun w' => RdC w' (some ⟨go, 0, none⟩) (us.set F (.slice (some ⟨gf, 0, none⟩) (r + 1) (r + 1))) ∧ Bk w' M [.int .i64 (upP (FQ q n m a x) F (n + 1 - F)).1, .int .i64 ((upP (FQ q n m a x) F (n + 1 - F)).2 : Int)] 102) mixed (⟨hT7.own.rdc', hM7⟩) ?_
        refine vh_pure 0 rfl (by kernel_rfl) (by kernel_rfl) (by kernel_rfl) (fun w hw => (os_move rfl)) ?_
        refine vh_pure 1 rfl (by kernel_rfl) (by kernel_rfl) (by kernel_rfl) (fun w hw => (os_move rfl)) ?_
        refine vh_pure 2 rfl (by kernel_rfl) (by kernel_rfl) (by kernel_rfl) (fun w hw => (os_ix Try.underlying97 Try.sizeOf98 rfl rfl (i := F) (by omega) (by omega))) ?_
        refine vh_pure 3 rfl (by kernel_rfl) (by kernel_rfl) (by kernel_rfl) (fun w hw => (os_load Try.isAgg98 rfl (hw.1.get hu4))) ?_
        refine vh_pure 4 rfl (by kernel_rfl) (by kernel_rfl) (by kernel_rfl) (fun w hw => (os_move rfl)) ?_
        refine vh_pure 5 rfl (by kernel_rfl) (by kernel_rfl) (by kernel_rfl) (fun w hw => (os_loadB Try.underlying102 rfl (by kernel_rfl) rfl hw.2)) ?_
        refine vh_pure 6 rfl (by kernel_rfl) (by kernel_rfl) (by kernel_rfl) (fun w hw => (os_ixs Try.underlying98 Try.sizeOf102 rfl rfl (i := x) (by omega) (by omega))) ?_
        refine vh_one 7 (by kernel_rfl) ?_
        refine vhn_unit rfl (ou_store2 (by kernel_rfl) rfl rfl (k7.led ⟨1, rfl⟩) (by rw [rowV_len]; omega) rfl rfl) (fun hw => ⟨RdC.kb hw.1 ((Kb.set (S := [gf]) (by simp) _ _).trans (Kb.set (S := [gf]) (by simp) _ _) (fun k hk => .inl hk)) (fun b o e hm => by cases e; have := List.mem_singleton.1 hm; omega), Bk.other (Bk.other hw.2 gM _) gM _⟩) ?_
        refine vh_done (by kernel_rfl) (fun hS => ?_)
        refine v_region ?_
        refine vl_val (os_move rfl) ?_
        refine vl_val (os_addi rfl rfl (by omega)) ?_
        refine vl_val (os_assign rfl) ?_
        refine vl_nil ?_
        exact ⟨x + 1, ⟨rfl, rfl, rfl, rfl, rfl, rfl, trivial⟩, ⟨rfl, trivial⟩, ⟨by omega, by have h9 := (Bk.set (k7.led (⟨1, rfl⟩ : LeD w7 _)) (2 * x) (puV (FQ q n m a) F (n + 1 - F) (2 * x))).set (2 * x + 1) (puV (FQ q n m a) F (n + 1 - F) (2 * x + 1)); rw [mixV_set (by omega), mixV_set (by omega), puV_0, puV_1, show 0 + 2 * x = 0 + x * 2 by omega, show 0 + (2 * x + 1) = 0 + x * 2 + 1 by omega] at h9; exact h9, by have h8 : Below gf w4 w7 := b5.trans (b57.mono (by omega)); have h9 : Below gf w7 (w7.drewN 1) := led_below ⟨1, rfl⟩; exact below_set (below_set (h8.trans h9) (Nat.le_refl _) _ _) (Nat.le_refl _) _ _⟩, by dsimp only; omega⟩
    · obtain rfl : x = r + 1 := by omega
      rw [mixV_all (by omega)] at k5
      have hu4 : (us.set F (.slice (some ⟨gf, 0, none⟩) (r + 1) (r + 1)))[F]? = some (.slice (some ⟨gf, 0, none⟩) (r + 1) (r + 1)) := List.getElem?_set_self (by omega)
      refine v_exit ?_
      refine v_region ?_
      refine vl_val (os_move rfl) ?_
      refine vl_val (os_addi rfl rfl (by omega)) ?_
      refine vl_val (os_assign rfl) ?_
      refine vl_nil ?_
      exact ⟨F + 1, ⟨rfl, rfl, rfl, rfl, rfl, trivial⟩, ⟨rfl, trivial⟩, ⟨by omega, by omega, ⟨_, _, by rw [List.length_set]; exact hul, hT5.push hu4 k5 (by omega) (Nat.le_refl _) k5.lt, fun k h1 h2 => by by_cases e : k = F; (subst e; exact if_pos rfl); (exact (if_neg e).trans (hcc k h1 (by omega)))⟩, hb5, hB5⟩, by dsimp only; omega⟩
  · obtain rfl : F = n + 1 := by omega
    refine v_exit ?_
    refine v_seq ?_
    refine v_region ?_
    refine vl_val (os_move rfl) ?_
    refine vl_val (os_assign rfl) ?_
    refine vl_nil ?_
    refine v_ret ?_
    exact post_ret rfl rfl (⟨go, us, cc, rfl, hT2, fun k h1 h2 => hcc k h1 (by omega), hb2⟩)
end Go.Proofs.Ytpojijnjdlnokaa

/- Layer 13: the document's Right. -/
namespace Go.Proofs.Ytpojijnjdlnokaa
open Go.RowKit
set_option linter.unusedVariables false

theorem any_false {most : Int} {zs : List Int} (h : ∀ j, j < zs.length → 0 ≤ zs.getD j 0 ∧ zs.getD j 0 ≤ most) : zs.any (outB most) = false := by
  refine List.any_eq_false.2 fun l hl => ?_
  obtain ⟨i, hi, rfl⟩ := List.getElem_of_mem hl
  have := h i hi
  have e : zs.getD i 0 = zs[i] := by simp [hi]
  rw [e] at this
  simp [outB]; omega
theorem any_true {most : Int} {zs : List Int} {j : Nat} (hj : j < zs.length) (h : zs.getD j 0 < 0 ∨ most < zs.getD j 0) : zs.any (outB most) = true := by
  refine List.any_eq_true.2 ⟨zs.getD j 0, by simp [hj], ?_⟩
  simp [outB] at *; omega
set_option maxHeartbeats 4000000 in
theorem r13_Right (d : TaskV) (q : TaskP) (w : World) (hd : TaskOk w d q) : Gives Try.prog 36 #[.agg d.cells.toArray] w fun v w' => v = .bool (taskB q) ∧ Below w.heap.size w w' := by
  have hB := bk_new w d.cells 51
  have hb0 : Below w.heap.size w (w.alloc (.cells d.cells.toArray 51)) := (Below.refl _ w).alloc (Nat.le_refl _) _
  have hll := hd.ll
  have hwl := hd.wl
  have hvl := hd.vl
  have hbl := hd.bl
  have hbv := hd.bv
  have en := hd.n
  have em := hd.m
  have eb := hd.b
  refine gives_enter Try.call36 Try.func36 rfl rfl rfl (by kernel_rfl) ?_
  rcases (by cases rightB d.n d.m d.b <;> simp <;> omega : rightB d.n d.m d.b = false ∨ (rightB d.n d.m d.b = true ∧ (d.ll : Int) < 1) ∨ (rightB d.n d.m d.b = true ∧ 8 < (d.ll : Int)) ∨ (rightB d.n d.m d.b = true ∧ 1 ≤ (d.ll : Int) ∧ (d.ll : Int) ≤ 8 ∧ (d.wl : Int) ≠ d.ll) ∨ (rightB d.n d.m d.b = true ∧ 1 ≤ (d.ll : Int) ∧ (d.ll : Int) ≤ 8 ∧ (d.wl : Int) = d.ll)) with c0 | ⟨c0, c1⟩ | ⟨c0, c1⟩ | ⟨c0, c1, c2, c3⟩ | ⟨c0, c1, c2, c3⟩
  · refine v_seq ?_
    refine v_region ?_
    refine vl_val (os_box rfl) ?_
    refine vl_val (os_assign rfl) ?_
    refine vl_nil ?_
    refine v_seq ?_
    refine v_seq ?_
    refine v_region ?_
    refine vl_val (os_fa (o := 0) (k := 2) (by kernel_rfl) rfl) ?_
    refine vl_val (os_loadP (cs := [.int .i64 d.n, .int .i64 d.m, .int .i64 d.b]) Try.underlying49 rfl (by kernel_rfl) rfl ((Bk.rdc hB).take 3)) ?_
    refine vl_call (gives_boolb (ref11_Right d.n d.m d.b _) c0) rfl ?_
    rintro v1 w1 ⟨rfl, b1⟩
    refine vl_val (os_not rfl) ?_
    refine vl_val (os_move rfl) ?_
    refine vl_skip rfl rfl ?_
    refine vl_skip rfl rfl ?_
    refine vl_skip rfl rfl ?_
    refine vl_skip rfl rfl ?_
    refine vl_val (os_pick_t rfl rfl) ?_
    refine vl_val (os_move rfl) ?_
    refine vl_skip rfl rfl ?_
    refine vl_skip rfl rfl ?_
    refine vl_skip rfl rfl ?_
    refine vl_skip rfl rfl ?_
    refine vl_val (os_pick_t rfl rfl) ?_
    refine vl_val (os_move rfl) ?_
    refine vl_skip rfl rfl ?_
    refine vl_skip rfl rfl ?_
    refine vl_skip rfl rfl ?_
    refine vl_skip rfl rfl ?_
    refine vl_skip rfl rfl ?_
    refine vl_skip rfl rfl ?_
    refine vl_skip rfl rfl ?_
    refine vl_val (os_pick_t rfl rfl) ?_
    refine vl_val (os_move rfl) ?_
    refine vl_skip rfl rfl ?_
    refine vl_skip rfl rfl ?_
    refine vl_skip rfl rfl ?_
    refine vl_skip rfl rfl ?_
    refine vl_skip rfl rfl ?_
    refine vl_skip rfl rfl ?_
    refine vl_skip rfl rfl ?_
    refine vl_val (os_pick_t rfl rfl) ?_
    refine vl_nil ?_
    refine v_cond_t rfl ?_
    refine v_seq ?_
    refine v_region ?_
    refine vl_val (os_assign rfl) ?_
    refine vl_nil ?_
    refine v_ret ?_
    exact post_ret rfl rfl (⟨by simp [taskB, ← en, ← em, ← eb, c0], hb0.trans (b1.mono hb0.size)⟩)
  · refine v_seq ?_
    refine v_region ?_
    refine vl_val (os_box rfl) ?_
    refine vl_val (os_assign rfl) ?_
    refine vl_nil ?_
    refine v_seq ?_
    refine v_seq ?_
    refine v_region ?_
    refine vl_val (os_fa (o := 0) (k := 2) (by kernel_rfl) rfl) ?_
    refine vl_val (os_loadP (cs := [.int .i64 d.n, .int .i64 d.m, .int .i64 d.b]) Try.underlying49 rfl (by kernel_rfl) rfl ((Bk.rdc hB).take 3)) ?_
    refine vl_call (gives_boolb (ref11_Right d.n d.m d.b _) c0) rfl ?_
    rintro v1 w1 ⟨rfl, b1⟩
    have hB1 := hB.keep b1
    refine vl_val (os_not rfl) ?_
    refine vl_val (os_move rfl) ?_
    refine vl_valg rfl (os_fa (o := 3) (k := 0) (by kernel_rfl) rfl) ?_
    refine vl_valg rfl (os_load Try.isAgg40 rfl (hB1.cell (i := 3) rfl)) ?_
    refine vl_valg rfl (os_len Try.underlying40 rfl) ?_
    refine vl_valg rfl (os_t (os_lss rfl rfl) (by omega)) ?_
    refine vl_val (os_pick_f rfl rfl) ?_
    refine vl_val (os_move rfl) ?_
    refine vl_skip rfl rfl ?_
    refine vl_skip rfl rfl ?_
    refine vl_skip rfl rfl ?_
    refine vl_skip rfl rfl ?_
    refine vl_val (os_pick_t rfl rfl) ?_
    refine vl_val (os_move rfl) ?_
    refine vl_skip rfl rfl ?_
    refine vl_skip rfl rfl ?_
    refine vl_skip rfl rfl ?_
    refine vl_skip rfl rfl ?_
    refine vl_skip rfl rfl ?_
    refine vl_skip rfl rfl ?_
    refine vl_skip rfl rfl ?_
    refine vl_val (os_pick_t rfl rfl) ?_
    refine vl_val (os_move rfl) ?_
    refine vl_skip rfl rfl ?_
    refine vl_skip rfl rfl ?_
    refine vl_skip rfl rfl ?_
    refine vl_skip rfl rfl ?_
    refine vl_skip rfl rfl ?_
    refine vl_skip rfl rfl ?_
    refine vl_skip rfl rfl ?_
    refine vl_val (os_pick_t rfl rfl) ?_
    refine vl_nil ?_
    refine v_cond_t rfl ?_
    refine v_seq ?_
    refine v_region ?_
    refine vl_val (os_assign rfl) ?_
    refine vl_nil ?_
    refine v_ret ?_
    exact post_ret rfl rfl (⟨by simp [taskB]; omega, hb0.trans (b1.mono hb0.size)⟩)
  · refine v_seq ?_
    refine v_region ?_
    refine vl_val (os_box rfl) ?_
    refine vl_val (os_assign rfl) ?_
    refine vl_nil ?_
    refine v_seq ?_
    refine v_seq ?_
    refine v_region ?_
    refine vl_val (os_fa (o := 0) (k := 2) (by kernel_rfl) rfl) ?_
    refine vl_val (os_loadP (cs := [.int .i64 d.n, .int .i64 d.m, .int .i64 d.b]) Try.underlying49 rfl (by kernel_rfl) rfl ((Bk.rdc hB).take 3)) ?_
    refine vl_call (gives_boolb (ref11_Right d.n d.m d.b _) c0) rfl ?_
    rintro v1 w1 ⟨rfl, b1⟩
    have hB1 := hB.keep b1
    refine vl_val (os_not rfl) ?_
    refine vl_val (os_move rfl) ?_
    refine vl_valg rfl (os_fa (o := 3) (k := 0) (by kernel_rfl) rfl) ?_
    refine vl_valg rfl (os_load Try.isAgg40 rfl (hB1.cell (i := 3) rfl)) ?_
    refine vl_valg rfl (os_len Try.underlying40 rfl) ?_
    refine vl_valg rfl (os_f (os_lss rfl rfl) (by omega)) ?_
    refine vl_val (os_pick_f rfl rfl) ?_
    refine vl_val (os_move rfl) ?_
    refine vl_valg rfl (os_fa (o := 3) (k := 0) (by kernel_rfl) rfl) ?_
    refine vl_valg rfl (os_load Try.isAgg40 rfl (hB1.cell (i := 3) rfl)) ?_
    refine vl_valg rfl (os_len Try.underlying40 rfl) ?_
    refine vl_valg rfl (os_t (os_gtr rfl rfl) (by omega)) ?_
    refine vl_val (os_pick_f rfl rfl) ?_
    refine vl_val (os_move rfl) ?_
    refine vl_skip rfl rfl ?_
    refine vl_skip rfl rfl ?_
    refine vl_skip rfl rfl ?_
    refine vl_skip rfl rfl ?_
    refine vl_skip rfl rfl ?_
    refine vl_skip rfl rfl ?_
    refine vl_skip rfl rfl ?_
    refine vl_val (os_pick_t rfl rfl) ?_
    refine vl_val (os_move rfl) ?_
    refine vl_skip rfl rfl ?_
    refine vl_skip rfl rfl ?_
    refine vl_skip rfl rfl ?_
    refine vl_skip rfl rfl ?_
    refine vl_skip rfl rfl ?_
    refine vl_skip rfl rfl ?_
    refine vl_skip rfl rfl ?_
    refine vl_val (os_pick_t rfl rfl) ?_
    refine vl_nil ?_
    refine v_cond_t rfl ?_
    refine v_seq ?_
    refine v_region ?_
    refine vl_val (os_assign rfl) ?_
    refine vl_nil ?_
    refine v_ret ?_
    exact post_ret rfl rfl (⟨by simp [taskB]; omega, hb0.trans (b1.mono hb0.size)⟩)
  · refine v_seq ?_
    refine v_region ?_
    refine vl_val (os_box rfl) ?_
    refine vl_val (os_assign rfl) ?_
    refine vl_nil ?_
    refine v_seq ?_
    refine v_seq ?_
    refine v_region ?_
    refine vl_val (os_fa (o := 0) (k := 2) (by kernel_rfl) rfl) ?_
    refine vl_val (os_loadP (cs := [.int .i64 d.n, .int .i64 d.m, .int .i64 d.b]) Try.underlying49 rfl (by kernel_rfl) rfl ((Bk.rdc hB).take 3)) ?_
    refine vl_call (gives_boolb (ref11_Right d.n d.m d.b _) c0) rfl ?_
    rintro v1 w1 ⟨rfl, b1⟩
    have hB1 := hB.keep b1
    refine vl_val (os_not rfl) ?_
    refine vl_val (os_move rfl) ?_
    refine vl_valg rfl (os_fa (o := 3) (k := 0) (by kernel_rfl) rfl) ?_
    refine vl_valg rfl (os_load Try.isAgg40 rfl (hB1.cell (i := 3) rfl)) ?_
    refine vl_valg rfl (os_len Try.underlying40 rfl) ?_
    refine vl_valg rfl (os_f (os_lss rfl rfl) (by omega)) ?_
    refine vl_val (os_pick_f rfl rfl) ?_
    refine vl_val (os_move rfl) ?_
    refine vl_valg rfl (os_fa (o := 3) (k := 0) (by kernel_rfl) rfl) ?_
    refine vl_valg rfl (os_load Try.isAgg40 rfl (hB1.cell (i := 3) rfl)) ?_
    refine vl_valg rfl (os_len Try.underlying40 rfl) ?_
    refine vl_valg rfl (os_f (os_gtr rfl rfl) (by omega)) ?_
    refine vl_val (os_pick_f rfl rfl) ?_
    refine vl_val (os_move rfl) ?_
    refine vl_valg rfl (os_fa (o := 4) (k := 0) (by kernel_rfl) rfl) ?_
    refine vl_valg rfl (os_load Try.isAgg40 rfl (hB1.cell (i := 4) rfl)) ?_
    refine vl_valg rfl (os_len Try.underlying40 rfl) ?_
    refine vl_valg rfl (os_fa (o := 3) (k := 0) (by kernel_rfl) rfl) ?_
    refine vl_valg rfl (os_load Try.isAgg40 rfl (hB1.cell (i := 3) rfl)) ?_
    refine vl_valg rfl (os_len Try.underlying40 rfl) ?_
    refine vl_valg rfl (os_t (os_neq rfl rfl) (by omega)) ?_
    refine vl_val (os_pick_f rfl rfl) ?_
    refine vl_val (os_move rfl) ?_
    refine vl_skip rfl rfl ?_
    refine vl_skip rfl rfl ?_
    refine vl_skip rfl rfl ?_
    refine vl_skip rfl rfl ?_
    refine vl_skip rfl rfl ?_
    refine vl_skip rfl rfl ?_
    refine vl_skip rfl rfl ?_
    refine vl_val (os_pick_t rfl rfl) ?_
    refine vl_nil ?_
    refine v_cond_t rfl ?_
    refine v_seq ?_
    refine v_region ?_
    refine vl_val (os_assign rfl) ?_
    refine vl_nil ?_
    refine v_ret ?_
    exact post_ret rfl rfl (⟨by simp [taskB]; omega, hb0.trans (b1.mono hb0.size)⟩)
  · refine v_seq ?_
    refine v_region ?_
    refine vl_val (os_box rfl) ?_
    refine vl_val (os_assign rfl) ?_
    refine vl_nil ?_
    refine v_seq ?_
    refine v_seq ?_
    refine v_region ?_
    refine vl_val (os_fa (o := 0) (k := 2) (by kernel_rfl) rfl) ?_
    refine vl_val (os_loadP (cs := [.int .i64 d.n, .int .i64 d.m, .int .i64 d.b]) Try.underlying49 rfl (by kernel_rfl) rfl ((Bk.rdc hB).take 3)) ?_
    refine vl_call (gives_boolb (ref11_Right d.n d.m d.b _) c0) rfl ?_
    rintro v1 w1 ⟨rfl, b1⟩
    have hB1 := hB.keep b1
    have hb1 := hb0.trans (b1.mono hb0.size)
    refine vl_val (os_not rfl) ?_
    refine vl_val (os_move rfl) ?_
    refine vl_valg rfl (os_fa (o := 3) (k := 0) (by kernel_rfl) rfl) ?_
    refine vl_valg rfl (os_load Try.isAgg40 rfl (hB1.cell (i := 3) rfl)) ?_
    refine vl_valg rfl (os_len Try.underlying40 rfl) ?_
    refine vl_valg rfl (os_f (os_lss rfl rfl) (by omega)) ?_
    refine vl_val (os_pick_f rfl rfl) ?_
    refine vl_val (os_move rfl) ?_
    refine vl_valg rfl (os_fa (o := 3) (k := 0) (by kernel_rfl) rfl) ?_
    refine vl_valg rfl (os_load Try.isAgg40 rfl (hB1.cell (i := 3) rfl)) ?_
    refine vl_valg rfl (os_len Try.underlying40 rfl) ?_
    refine vl_valg rfl (os_f (os_gtr rfl rfl) (by omega)) ?_
    refine vl_val (os_pick_f rfl rfl) ?_
    refine vl_val (os_move rfl) ?_
    refine vl_valg rfl (os_fa (o := 4) (k := 0) (by kernel_rfl) rfl) ?_
    refine vl_valg rfl (os_load Try.isAgg40 rfl (hB1.cell (i := 4) rfl)) ?_
    refine vl_valg rfl (os_len Try.underlying40 rfl) ?_
    refine vl_valg rfl (os_fa (o := 3) (k := 0) (by kernel_rfl) rfl) ?_
    refine vl_valg rfl (os_load Try.isAgg40 rfl (hB1.cell (i := 3) rfl)) ?_
    refine vl_valg rfl (os_len Try.underlying40 rfl) ?_
    refine vl_valg rfl (os_f (os_neq rfl rfl) (by omega)) ?_
    refine vl_val (os_pick_f rfl rfl) ?_
    refine vl_val (os_move rfl) ?_
    refine vl_valg rfl (os_fa (o := 0) (k := 2) (by kernel_rfl) rfl) ?_
    refine vl_valg rfl (os_fa (o := 0) (k := 0) (by kernel_rfl) rfl) ?_
    refine vl_valg rfl (os_load Try.isAgg3 rfl (hB1.cell (i := 0) rfl)) ?_
    refine vl_valg rfl (os_fa (o := 5) (k := 0) (by kernel_rfl) rfl) ?_
    refine vl_valg rfl (os_load Try.isAgg40 rfl (hB1.cell (i := 5) rfl)) ?_
    refine vl_callg rfl (ref_Right d.n d.AV d.vl d.vc q.ws w1 (hd.V.keep hb1) hvl (by omega) (by rw [en]; exact hd.iN.1)) rfl ?_
    rintro v2 w2 ⟨rfl, d2⟩
    have hb2 := hb1.trans ((led_below d2).mono hb1.size)
    have hB2 := hB1.led d2
    have hd2 := hd.keep hb2
    refine vl_valg rfl (os_not rfl) ?_
    refine vl_val (os_pick_f rfl rfl) ?_
    refine vl_nil ?_
    refine v_cond rfl (fun hW => ?_) (fun hW => ?_)
    · have hW' : wrightB q.n q.ws = false := by rw [← en]; simpa using hW
      refine v_seq ?_
      refine v_region ?_
      refine vl_val (os_assign rfl) ?_
      refine vl_nil ?_
      refine v_ret ?_
      exact post_ret rfl rfl (⟨by simp [taskB, hW'], hb2⟩)
    · have hW' : wrightB q.n q.ws = true := by rw [← en]; simpa using hW
      have c0' : rightB q.n q.m q.b = true := by rw [← en, ← em, ← eb]; exact c0
      have q1 : decide (1 ≤ q.lens.length ∧ q.lens.length ≤ 8) = true := by rw [decide_eq_true_eq]; omega
      have q2 : decide (q.worths.length = q.lens.length) = true := by rw [decide_eq_true_eq]; omega
      have e0 : taskB q = (!(q.lens.any (outB 65535)) && !(q.worths.any (outB 1048576))) := by unfold taskB; rw [c0', q1, q2, hW']; simp
      refine v_skip ?_
      refine v_seq ?_
      refine v_seq ?_
      refine v_region ?_
      refine vl_val (os_assign rfl) ?_
      refine vl_nil ?_
      refine v_block ?_
      refine v_loop [(1, _)] (fun (i : Nat) => [(3, .int .i64 i)]) (fun i w' => i ≤ d.ll ∧ (∀ j, j < i → (0 ≤ q.lens.getD j 0 ∧ q.lens.getD j 0 ≤ 65535) ∧ 0 ≤ q.worths.getD j 0 ∧ q.worths.getD j 0 ≤ 1048576) ∧ w' = w2) (fun i => d.ll - i) (0) ⟨rfl, trivial⟩ ⟨rfl, trivial⟩ (⟨by omega, fun j hj => absurd hj (by omega), rfl⟩) ?_
      rintro i w2 ⟨hi, hall, rfl⟩
      refine v_seq ?_
      refine v_seq ?_
      refine v_region ?_
      refine vl_val (os_move rfl) ?_
      refine vl_val (os_fa (o := 3) (k := 0) (by kernel_rfl) rfl) ?_
      refine vl_val (os_load Try.isAgg40 rfl (hB2.cell (i := 3) rfl)) ?_
      refine vl_val (os_len Try.underlying40 rfl) ?_
      refine vl_val (os_lss rfl rfl) ?_
      refine vl_nil ?_
      refine v_cond_d rfl (fun hlt => ?_) (fun hlt => ?_)
      · obtain ⟨bL, oL, eL, cL⟩ := hd2.L.at_ (i := i) (by omega)
        obtain ⟨bW, oW, eW, cW⟩ := hd2.W.at_ (i := i) (by omega)
        have cl3 := hB2.cell (i := 3) (v := .slice (some ⟨bL, oL, none⟩) d.ll d.lc) (by rw [← eL]; rfl)
        have cl4 := hB2.cell (i := 4) (v := .slice (some ⟨bW, oW, none⟩) d.wl d.wc) (by rw [← eW]; rfl)
        rcases (by omega : q.lens.getD i 0 < 0 ∨ (0 ≤ q.lens.getD i 0 ∧ 65535 < q.lens.getD i 0) ∨ ((0 ≤ q.lens.getD i 0 ∧ q.lens.getD i 0 ≤ 65535) ∧ q.worths.getD i 0 < 0) ∨ ((0 ≤ q.lens.getD i 0 ∧ q.lens.getD i 0 ≤ 65535) ∧ 0 ≤ q.worths.getD i 0 ∧ 1048576 < q.worths.getD i 0) ∨ ((0 ≤ q.lens.getD i 0 ∧ q.lens.getD i 0 ≤ 65535) ∧ 0 ≤ q.worths.getD i 0 ∧ q.worths.getD i 0 ≤ 1048576)) with g | ⟨g, g2⟩ | ⟨g, g2⟩ | ⟨g, g2, g3⟩ | ⟨g, g2, g3⟩
        · refine v_skip ?_
          refine v_seq ?_
          refine v_block ?_
          refine v_seq ?_
          refine v_region ?_
          refine vl_val (os_fa (o := 3) (k := 0) (by kernel_rfl) rfl) ?_
          refine vl_val (os_load Try.isAgg40 rfl (cl3)) ?_
          refine vl_val (os_move rfl) ?_
          refine vl_val (os_ix Try.underlying40 Try.sizeOf3 rfl rfl (i := i) (by omega) (by omega)) ?_
          refine vl_val (os_load Try.isAgg3 rfl (cL)) ?_
          refine vl_val (os_t (os_lss rfl rfl) (by omega)) ?_
          refine vl_val (os_move rfl) ?_
          refine vl_skip rfl rfl ?_
          refine vl_skip rfl rfl ?_
          refine vl_skip rfl rfl ?_
          refine vl_skip rfl rfl ?_
          refine vl_skip rfl rfl ?_
          refine vl_skip rfl rfl ?_
          refine vl_val (os_pick_t rfl rfl) ?_
          refine vl_val (os_move rfl) ?_
          refine vl_skip rfl rfl ?_
          refine vl_skip rfl rfl ?_
          refine vl_skip rfl rfl ?_
          refine vl_skip rfl rfl ?_
          refine vl_skip rfl rfl ?_
          refine vl_skip rfl rfl ?_
          refine vl_val (os_pick_t rfl rfl) ?_
          refine vl_val (os_move rfl) ?_
          refine vl_skip rfl rfl ?_
          refine vl_skip rfl rfl ?_
          refine vl_skip rfl rfl ?_
          refine vl_skip rfl rfl ?_
          refine vl_skip rfl rfl ?_
          refine vl_skip rfl rfl ?_
          refine vl_val (os_pick_t rfl rfl) ?_
          refine vl_nil ?_
          refine v_cond_t rfl ?_
          refine v_seq ?_
          refine v_region ?_
          refine vl_val (os_assign rfl) ?_
          refine vl_nil ?_
          refine v_ret ?_
          exact post_ret rfl rfl (⟨by rw [e0, any_true (j := i) (by omega) (.inl g)]; rfl, hb2⟩)
        · refine v_skip ?_
          refine v_seq ?_
          refine v_block ?_
          refine v_seq ?_
          refine v_region ?_
          refine vl_val (os_fa (o := 3) (k := 0) (by kernel_rfl) rfl) ?_
          refine vl_val (os_load Try.isAgg40 rfl (cl3)) ?_
          refine vl_val (os_move rfl) ?_
          refine vl_val (os_ix Try.underlying40 Try.sizeOf3 rfl rfl (i := i) (by omega) (by omega)) ?_
          refine vl_val (os_load Try.isAgg3 rfl (cL)) ?_
          refine vl_val (os_f (os_lss rfl rfl) (by omega)) ?_
          refine vl_val (os_move rfl) ?_
          refine vl_valg rfl (os_fa (o := 3) (k := 0) (by kernel_rfl) rfl) ?_
          refine vl_valg rfl (os_load Try.isAgg40 rfl (cl3)) ?_
          refine vl_valg rfl (os_move rfl) ?_
          refine vl_valg rfl (os_ix Try.underlying40 Try.sizeOf3 rfl rfl (i := i) (by omega) (by omega)) ?_
          refine vl_valg rfl (os_load Try.isAgg3 rfl (cL)) ?_
          refine vl_valg rfl (os_t (os_gtr rfl rfl) (by omega)) ?_
          refine vl_val (os_pick_f rfl rfl) ?_
          refine vl_val (os_move rfl) ?_
          refine vl_skip rfl rfl ?_
          refine vl_skip rfl rfl ?_
          refine vl_skip rfl rfl ?_
          refine vl_skip rfl rfl ?_
          refine vl_skip rfl rfl ?_
          refine vl_skip rfl rfl ?_
          refine vl_val (os_pick_t rfl rfl) ?_
          refine vl_val (os_move rfl) ?_
          refine vl_skip rfl rfl ?_
          refine vl_skip rfl rfl ?_
          refine vl_skip rfl rfl ?_
          refine vl_skip rfl rfl ?_
          refine vl_skip rfl rfl ?_
          refine vl_skip rfl rfl ?_
          refine vl_val (os_pick_t rfl rfl) ?_
          refine vl_nil ?_
          refine v_cond_t rfl ?_
          refine v_seq ?_
          refine v_region ?_
          refine vl_val (os_assign rfl) ?_
          refine vl_nil ?_
          refine v_ret ?_
          exact post_ret rfl rfl (⟨by rw [e0, any_true (j := i) (by omega) (.inr g2)]; rfl, hb2⟩)
        · refine v_skip ?_
          refine v_seq ?_
          refine v_block ?_
          refine v_seq ?_
          refine v_region ?_
          refine vl_val (os_fa (o := 3) (k := 0) (by kernel_rfl) rfl) ?_
          refine vl_val (os_load Try.isAgg40 rfl (cl3)) ?_
          refine vl_val (os_move rfl) ?_
          refine vl_val (os_ix Try.underlying40 Try.sizeOf3 rfl rfl (i := i) (by omega) (by omega)) ?_
          refine vl_val (os_load Try.isAgg3 rfl (cL)) ?_
          refine vl_val (os_f (os_lss rfl rfl) (by omega)) ?_
          refine vl_val (os_move rfl) ?_
          refine vl_valg rfl (os_fa (o := 3) (k := 0) (by kernel_rfl) rfl) ?_
          refine vl_valg rfl (os_load Try.isAgg40 rfl (cl3)) ?_
          refine vl_valg rfl (os_move rfl) ?_
          refine vl_valg rfl (os_ix Try.underlying40 Try.sizeOf3 rfl rfl (i := i) (by omega) (by omega)) ?_
          refine vl_valg rfl (os_load Try.isAgg3 rfl (cL)) ?_
          refine vl_valg rfl (os_f (os_gtr rfl rfl) (by omega)) ?_
          refine vl_val (os_pick_f rfl rfl) ?_
          refine vl_val (os_move rfl) ?_
          refine vl_valg rfl (os_fa (o := 4) (k := 0) (by kernel_rfl) rfl) ?_
          refine vl_valg rfl (os_load Try.isAgg40 rfl (cl4)) ?_
          refine vl_valg rfl (os_move rfl) ?_
          refine vl_valg rfl (os_ix Try.underlying40 Try.sizeOf3 rfl rfl (i := i) (by omega) (by omega)) ?_
          refine vl_valg rfl (os_load Try.isAgg3 rfl (cW)) ?_
          refine vl_valg rfl (os_t (os_lss rfl rfl) (by omega)) ?_
          refine vl_val (os_pick_f rfl rfl) ?_
          refine vl_val (os_move rfl) ?_
          refine vl_skip rfl rfl ?_
          refine vl_skip rfl rfl ?_
          refine vl_skip rfl rfl ?_
          refine vl_skip rfl rfl ?_
          refine vl_skip rfl rfl ?_
          refine vl_skip rfl rfl ?_
          refine vl_val (os_pick_t rfl rfl) ?_
          refine vl_nil ?_
          refine v_cond_t rfl ?_
          refine v_seq ?_
          refine v_region ?_
          refine vl_val (os_assign rfl) ?_
          refine vl_nil ?_
          refine v_ret ?_
          exact post_ret rfl rfl (⟨by rw [e0, any_true (zs := q.worths) (j := i) (by omega) (.inl g2)]; simp, hb2⟩)
        · refine v_skip ?_
          refine v_seq ?_
          refine v_block ?_
          refine v_seq ?_
          refine v_region ?_
          refine vl_val (os_fa (o := 3) (k := 0) (by kernel_rfl) rfl) ?_
          refine vl_val (os_load Try.isAgg40 rfl (cl3)) ?_
          refine vl_val (os_move rfl) ?_
          refine vl_val (os_ix Try.underlying40 Try.sizeOf3 rfl rfl (i := i) (by omega) (by omega)) ?_
          refine vl_val (os_load Try.isAgg3 rfl (cL)) ?_
          refine vl_val (os_f (os_lss rfl rfl) (by omega)) ?_
          refine vl_val (os_move rfl) ?_
          refine vl_valg rfl (os_fa (o := 3) (k := 0) (by kernel_rfl) rfl) ?_
          refine vl_valg rfl (os_load Try.isAgg40 rfl (cl3)) ?_
          refine vl_valg rfl (os_move rfl) ?_
          refine vl_valg rfl (os_ix Try.underlying40 Try.sizeOf3 rfl rfl (i := i) (by omega) (by omega)) ?_
          refine vl_valg rfl (os_load Try.isAgg3 rfl (cL)) ?_
          refine vl_valg rfl (os_f (os_gtr rfl rfl) (by omega)) ?_
          refine vl_val (os_pick_f rfl rfl) ?_
          refine vl_val (os_move rfl) ?_
          refine vl_valg rfl (os_fa (o := 4) (k := 0) (by kernel_rfl) rfl) ?_
          refine vl_valg rfl (os_load Try.isAgg40 rfl (cl4)) ?_
          refine vl_valg rfl (os_move rfl) ?_
          refine vl_valg rfl (os_ix Try.underlying40 Try.sizeOf3 rfl rfl (i := i) (by omega) (by omega)) ?_
          refine vl_valg rfl (os_load Try.isAgg3 rfl (cW)) ?_
          refine vl_valg rfl (os_f (os_lss rfl rfl) (by omega)) ?_
          refine vl_val (os_pick_f rfl rfl) ?_
          refine vl_val (os_move rfl) ?_
          refine vl_valg rfl (os_fa (o := 4) (k := 0) (by kernel_rfl) rfl) ?_
          refine vl_valg rfl (os_load Try.isAgg40 rfl (cl4)) ?_
          refine vl_valg rfl (os_move rfl) ?_
          refine vl_valg rfl (os_ix Try.underlying40 Try.sizeOf3 rfl rfl (i := i) (by omega) (by omega)) ?_
          refine vl_valg rfl (os_load Try.isAgg3 rfl (cW)) ?_
          refine vl_valg rfl (os_gtr rfl rfl) ?_
          refine vl_val (os_pick_f rfl rfl) ?_
          refine vl_nil ?_
          refine v_cond_yes rfl (by omega) ?_
          refine v_seq ?_
          refine v_region ?_
          refine vl_val (os_assign rfl) ?_
          refine vl_nil ?_
          refine v_ret ?_
          exact post_ret rfl rfl (⟨by rw [e0, any_true (zs := q.worths) (j := i) (by omega) (.inr g3)]; simp, hb2⟩)
        · refine v_skip ?_
          refine v_seq ?_
          refine v_block ?_
          refine v_seq ?_
          refine v_region ?_
          refine vl_val (os_fa (o := 3) (k := 0) (by kernel_rfl) rfl) ?_
          refine vl_val (os_load Try.isAgg40 rfl (cl3)) ?_
          refine vl_val (os_move rfl) ?_
          refine vl_val (os_ix Try.underlying40 Try.sizeOf3 rfl rfl (i := i) (by omega) (by omega)) ?_
          refine vl_val (os_load Try.isAgg3 rfl (cL)) ?_
          refine vl_val (os_f (os_lss rfl rfl) (by omega)) ?_
          refine vl_val (os_move rfl) ?_
          refine vl_valg rfl (os_fa (o := 3) (k := 0) (by kernel_rfl) rfl) ?_
          refine vl_valg rfl (os_load Try.isAgg40 rfl (cl3)) ?_
          refine vl_valg rfl (os_move rfl) ?_
          refine vl_valg rfl (os_ix Try.underlying40 Try.sizeOf3 rfl rfl (i := i) (by omega) (by omega)) ?_
          refine vl_valg rfl (os_load Try.isAgg3 rfl (cL)) ?_
          refine vl_valg rfl (os_f (os_gtr rfl rfl) (by omega)) ?_
          refine vl_val (os_pick_f rfl rfl) ?_
          refine vl_val (os_move rfl) ?_
          refine vl_valg rfl (os_fa (o := 4) (k := 0) (by kernel_rfl) rfl) ?_
          refine vl_valg rfl (os_load Try.isAgg40 rfl (cl4)) ?_
          refine vl_valg rfl (os_move rfl) ?_
          refine vl_valg rfl (os_ix Try.underlying40 Try.sizeOf3 rfl rfl (i := i) (by omega) (by omega)) ?_
          refine vl_valg rfl (os_load Try.isAgg3 rfl (cW)) ?_
          refine vl_valg rfl (os_f (os_lss rfl rfl) (by omega)) ?_
          refine vl_val (os_pick_f rfl rfl) ?_
          refine vl_val (os_move rfl) ?_
          refine vl_valg rfl (os_fa (o := 4) (k := 0) (by kernel_rfl) rfl) ?_
          refine vl_valg rfl (os_load Try.isAgg40 rfl (cl4)) ?_
          refine vl_valg rfl (os_move rfl) ?_
          refine vl_valg rfl (os_ix Try.underlying40 Try.sizeOf3 rfl rfl (i := i) (by omega) (by omega)) ?_
          refine vl_valg rfl (os_load Try.isAgg3 rfl (cW)) ?_
          refine vl_valg rfl (os_gtr rfl rfl) ?_
          refine vl_val (os_pick_f rfl rfl) ?_
          refine vl_nil ?_
          refine v_cond_no rfl (by omega) ?_
          refine v_skip ?_
          refine v_region ?_
          refine vl_val (os_move rfl) ?_
          refine vl_val (os_addi rfl rfl (by omega)) ?_
          refine vl_val (os_assign rfl) ?_
          refine vl_nil ?_
          exact ⟨i + 1, ⟨rfl, trivial⟩, ⟨rfl, trivial⟩, ⟨by omega, fun j hj => by by_cases e : j = i; (subst e; exact ⟨g, g2, g3⟩); (exact hall j (by omega)), rfl⟩, by dsimp only; omega⟩
      · obtain rfl : i = d.ll := by omega
        refine v_exit ?_
        refine v_seq ?_
        refine v_region ?_
        refine vl_val (os_assign rfl) ?_
        refine vl_nil ?_
        refine v_ret ?_
        exact post_ret rfl rfl (⟨by rw [e0, any_false (fun j hj => (hall j (by omega)).1), any_false (fun j hj => (hall j (by omega)).2)]; rfl, hb2⟩)
end Go.Proofs.Ytpojijnjdlnokaa
