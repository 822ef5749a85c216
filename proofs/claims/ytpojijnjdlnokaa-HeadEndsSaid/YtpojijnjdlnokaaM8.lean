/- Texts joined: KitO NtW KitC KitH Nil Pk SlC. -/
import Derived.Test.YtpojijnjdlnokaaM7
import Derived.Deep.MidRow
import Derived.Lib.SliceRun
/- The law's kit: lists are written over, their spare room too. -/
namespace Go.Proofs.Ytpojijnjdlnokaa
open Go.RowKit
set_option linter.unusedVariables false

theorem Own.stretch {w : World} {B : Nat} {t : TypeId} {g n c m : Nat} {cs : List Value} (h : Own w B t (.slice (some ⟨g, 0, none⟩) n c) cs) (hm : m ≤ c) : ∃ ds, ds.length = m ∧ Own w B t (.slice (some ⟨g, 0, none⟩) m c) ds := by
  rcases h.2 with ⟨h1, _⟩ | ⟨g', cap, cur, h1, hB, hg, hnc, hcm, hs, ht⟩
  · cases h1
  · cases h1
    have hl : (cur.toList.take m).length = m := by rw [List.length_take, Array.length_toList, hs]; omega
    exact ⟨cur.toList.take m, hl, by simp, .inr ⟨g, c, cur, by rw [hl], hB, hg, by omega, hcm, hs, by rw [hl]; simp⟩⟩
end Go.Proofs.Ytpojijnjdlnokaa

/- Whole rows that are written; all else stays. No program in sight. -/
namespace Go.Proofs.Ytpojijnjdlnokaa
open Go.RowKit
set_option linter.unusedVariables false

theorem Bk.rowOther {w : World} {g g' : Nat} {cs : List Value} {t : TypeId} (h : Bk w g' cs t) (hne : g ≠ g') (ds : Array Value) : Bk (w.setRow g ds) g' cs t := by
  unfold Bk at *
  simp [World.setRow, Array.getElem?_modify, hne, h]
theorem Kb.setRow {S : List Nat} {w : World} {g : Nat} (hg : g ∈ S) (cs : Array Value) : Kb S w (w.setRow g cs) :=
  ⟨rfl, rfl, rfl, by simp [World.setRow], fun k hk hn => by
    have : g ≠ k := fun e => hn (e ▸ hg)
    simp [World.setRow, Array.getElem?_modify, this]⟩
section
variable {P : Program} {n : Cx} {fr : Fr} {w : World} {ty : TypeId} {T e : TypeId}
theorem ot_litS {l s : Nat} {ps : List (Nat × Operand)} {css : List (List Value)} {z0 : Value} (hT : P.underlying T = some (.slice e)) (hs : ∀ w, (sizeOf e).run P w = .ok s w) (hz : ∀ w, (zeroValue e).run P w = .ok z0 w) (hx : evP fr ps 0 = some (aggs css)) (hl : l = css.length) (h1 : ∀ cs ∈ css, cs.length = s) (h0 : 0 < l) (hs0 : 0 < s) (h2 : l * s ≤ 16777216) :
    OT P n (.buildSlice T l ps.toArray) ty fr w fun v w' => v = .slice (some ⟨w.heap.size, 0, none⟩) l l ∧ RdP w' s (some ⟨w.heap.size, 0, none⟩) css ∧ w'.heap.size = w.heap.size + 1 ∧ LeG w w' :=
  (os_litS hT hs hz hx hl h1 h0 hs0 h2).ot ⟨rfl, rdp_alloc _ _ _ h1, by simp, (Below.refl _ _).alloc (Nat.le_refl _) _⟩
end
end Go.Proofs.Ytpojijnjdlnokaa

/- The law's kit: reports that are lent; whether they are still as they were; lists of counts, written over, their spare room too. -/
namespace Go.Proofs.Ytpojijnjdlnokaa
open Go.RowKit
set_option linter.unusedVariables false

section
variable {P : Program} {n : Cx} {fr : Fr} {w : World} {ty : TypeId} {x y : Operand} {T : TypeId}
/-- a struct of two cells is written in a block's midst -/
theorem ou_store2 {g o : Nat} {a b : Value} {cs : List Value} {t : TypeId} (hs : (P.info? T).map (·.size) = some 2) (hx : Fr.ev fr x = some (.pointer (some ⟨g, o, none⟩))) (hy : Fr.ev fr y = some (.agg #[a, b])) (hg : Bk w g cs t) (hl : o + 2 ≤ cs.length) (h1 : a.oneCell' = true) (h2 : b.oneCell' = true) :
    OU P n (.store T x y) ty fr w ((w.setCell ⟨g, o, none⟩ a).setCell ⟨g, o + 1, none⟩ b) := by
  have ht : w.there g o (#[a, b] : Array Value).size := fun j hj => ⟨by
    have hj : o + j < cs.length := by simp at hj; omega
    have := cell_of_row w g (o + j) cs.toArray t (0, 0) hg
    rw [this]; simp [hj], by have := hg.free (o + j); simpa using this⟩
  have h3 := run_storeAt_mid (P := P) w g o T #[a, b] ht hs (by simp [h1, h2])
  unfold OU
  intro a' ha
  simp [execOp, ha.ev hx, ha.ev hy, h3, World.setCells]
/-- two structs of two integers each, held apart -/
theorem os_neqS2 {T2 : TypeId} {tI : TypeId} {x1 x2 y1 y2 : Int} (hg : P.eqGuardType P.depth T = false) (hu : P.underlying T = some (.struct (P.fieldsOf T))) (hp : P.stoodInHeld T = false)
    (hf : (P.fieldsOf T).toList.map (fun f => (f.name == "_", f.type, f.offset)) = [(false, tI, 0), (false, tI, 1)]) (hI : P.underlying tI = some (.int .i64)) (hA : ∀ w, (isAgg tI).run P w = .ok false w)
    (hx : Fr.ev fr x = some (.agg #[.int .i64 x1, .int .i64 x2])) (hy : Fr.ev fr y = some (.agg #[.int .i64 y1, .int .i64 y2])) :
    OS P n (.binOp .neq T x y T2) ty fr w (.bool (decide (¬ (x1 = y1 ∧ x2 = y2)))) w := os_of fun a ha => by
  have h1 := run_eqGuard_agg (P := P) w .neq T x y #[.int .i64 x1, .int .i64 x2] #[.int .i64 y1, .int .i64 y2] hg
  have h2 : (Op.equalIn 10000 T (.agg #[.int .i64 x1, .int .i64 x2]) (.agg #[.int .i64 y1, .int .i64 y2])).run P w = .ok (decide (x1 = y1 ∧ x2 = y2)) w := by
    exact run_eqS2 9998 hu hp hf hI hA
  have h3 := run_neq_struct (P := P) w T #[.int .i64 x1, .int .i64 x2] #[.int .i64 y1, .int .i64 y2]
  rw [h2] at h3
  simp [execOp, ha.ev hx, ha.ev hy, h1, h3, Result.andThen, -not_and]
end

theorem kit_SameCounts (A B : Option Addr) (n m c d : Nat) (xs ys : List (Int × Int)) (w : World) (ha : RdP w 2 A (xs.map rowC)) (hb : RdP w 2 B (ys.map rowC)) (hn : n = xs.length) (hm : m = ys.length) (he : xs = ys) (hn' : n ≤ 9223372036854775807) :
    Gives Try.prog 170 #[.slice A n c, .slice B m d] w fun v w' => v = .bool true ∧ LeD w w' := by
  subst he
  refine gives_enter Try.call170 Try.func170 rfl rfl rfl (by kernel_rfl) ?_
  refine v_seq ?_
  refine v_region ?_
  refine vl_val (os_assign rfl) ?_
  refine vl_nil ?_
  refine v_seq ?_
  refine v_seq ?_
  refine v_region ?_
  refine vl_val (os_move rfl) ?_
  refine vl_val (os_len Try.underlying199 rfl) ?_
  refine vl_val (os_move rfl) ?_
  refine vl_val (os_len Try.underlying199 rfl) ?_
  refine vl_val (os_neq rfl rfl) ?_
  refine vl_nil ?_
  refine v_cond_no rfl (by omega) ?_
  refine v_skip ?_
  refine v_seq ?_
  refine v_seq ?_
  refine v_region ?_
  refine vl_val (os_assign rfl) ?_
  refine vl_nil ?_
  refine v_block ?_
  refine v_loop [(0, _), (1, _)] (fun (k : Nat) => [(5, .int .i64 k)]) (fun k w' => k ≤ n ∧ LeD w w') (fun k => n - k) (0) ⟨rfl, rfl, trivial⟩ ⟨rfl, trivial⟩ (⟨by omega, lee_d.refl _⟩) ?_
  rintro k w' ⟨hk, q, rfl⟩
  refine v_seq ?_
  refine v_seq ?_
  refine v_region ?_
  refine vl_val (os_move rfl) ?_
  refine vl_val (os_move rfl) ?_
  refine vl_val (os_len Try.underlying199 rfl) ?_
  refine vl_val (os_lss rfl rfl) ?_
  refine vl_nil ?_
  refine v_cond_d rfl (fun hlt => ?_) (fun hlt => ?_)
  · obtain ⟨b1, o1, rfl, -, -, c1⟩ := (ha.led ⟨q, rfl⟩).at2 (i := k) (by omega)
    obtain ⟨b2, o2, rfl, -, -, c2⟩ := (hb.led ⟨q, rfl⟩).at2 (i := k) (by omega)
    refine v_skip ?_
    refine v_seq ?_
    refine v_block ?_
    refine v_seq ?_
    refine v_region_t LeD _ mixed (by kernel_rfl) lee_d (led_start _) ?_
    refine vt_val (fun w hw => os_move rfl) ?_
    refine vt_val (fun w hw => os_move rfl) ?_
    refine vt_val (fun w hw => os_ixs Try.underlying199 Try.sizeOf201 rfl rfl (i := k) (by omega) (by omega)) ?_
    refine vt_val (fun w hw => os_loadP Try.underlying201 rfl (by kernel_rfl) rfl (c1.led hw)) ?_
    refine vt_val (fun w hw => os_move rfl) ?_
    refine vt_val (fun w hw => os_move rfl) ?_
    refine vt_val (fun w hw => os_ixs Try.underlying199 Try.sizeOf201 rfl rfl (i := k) (by omega) (by omega)) ?_
    refine vt_val (fun w hw => os_loadP Try.underlying201 rfl (by kernel_rfl) rfl (c2.led hw)) ?_
    refine vt_val (fun w hw => os_f (os_neqS2 Try.eqGuardType201 (by kernel_rfl) Try.stoodInHeld201 (by kernel_rfl) Try.underlying3 Try.isAgg3 rfl rfl) (by simp)) ?_
    refine vt_nil (fun w hw => ?_)
    obtain ⟨q2, rfl⟩ := hw
    refine v_cond_f rfl ?_
    refine v_skip ?_
    refine v_region ?_
    refine vl_val (os_move rfl) ?_
    refine vl_val (os_addi rfl rfl (by omega)) ?_
    refine vl_val (os_assign rfl) ?_
    refine vl_nil ?_
    exact ⟨k + 1, ⟨rfl, rfl, trivial⟩, ⟨rfl, trivial⟩, ⟨by omega, _, World.drewN_drewN ..⟩, by dsimp only; omega⟩
  · refine v_exit ?_
    refine v_seq ?_
    refine v_region ?_
    refine vl_val (os_assign rfl) ?_
    refine vl_nil ?_
    refine v_ret ?_
    exact post_ret rfl rfl (⟨rfl, _, rfl⟩)
theorem kit_SameTable (A B : Option Addr) (n m c d : Nat) (xs ys : List (Int × Int)) (w : World) (ha : RdP w 2 A (xs.map rowC)) (hb : RdP w 2 B (ys.map rowC)) (hn : n = xs.length) (hm : m = ys.length) (he : xs = ys) (hn' : n ≤ 9223372036854775807) :
    Gives Try.prog 142 #[.slice A n c, .slice B m d] w fun v w' => v = .bool true ∧ LeD w w' := by
  subst he
  refine gives_enter Try.call142 Try.func142 rfl rfl rfl (by kernel_rfl) ?_
  refine v_seq ?_
  refine v_region ?_
  refine vl_val (os_assign rfl) ?_
  refine vl_nil ?_
  refine v_seq ?_
  refine v_seq ?_
  refine v_region ?_
  refine vl_val (os_move rfl) ?_
  refine vl_val (os_len Try.underlying63 rfl) ?_
  refine vl_val (os_move rfl) ?_
  refine vl_val (os_len Try.underlying63 rfl) ?_
  refine vl_val (os_neq rfl rfl) ?_
  refine vl_nil ?_
  refine v_cond_no rfl (by omega) ?_
  refine v_skip ?_
  refine v_seq ?_
  refine v_seq ?_
  refine v_region ?_
  refine vl_val (os_assign rfl) ?_
  refine vl_nil ?_
  refine v_block ?_
  refine v_loop [(0, _), (1, _)] (fun (k : Nat) => [(5, .int .i64 k)]) (fun k w' => k ≤ n ∧ LeD w w') (fun k => n - k) (0) ⟨rfl, rfl, trivial⟩ ⟨rfl, trivial⟩ (⟨by omega, lee_d.refl _⟩) ?_
  rintro k w' ⟨hk, q, rfl⟩
  refine v_seq ?_
  refine v_seq ?_
  refine v_region ?_
  refine vl_val (os_move rfl) ?_
  refine vl_val (os_move rfl) ?_
  refine vl_val (os_len Try.underlying63 rfl) ?_
  refine vl_val (os_lss rfl rfl) ?_
  refine vl_nil ?_
  refine v_cond_d rfl (fun hlt => ?_) (fun hlt => ?_)
  · obtain ⟨b1, o1, rfl, -, -, c1⟩ := (ha.led ⟨q, rfl⟩).at2 (i := k) (by omega)
    obtain ⟨b2, o2, rfl, -, -, c2⟩ := (hb.led ⟨q, rfl⟩).at2 (i := k) (by omega)
    refine v_skip ?_
    refine v_seq ?_
    refine v_block ?_
    refine v_seq ?_
    refine v_region_t LeD _ mixed (by kernel_rfl) lee_d (led_start _) ?_
    refine vt_val (fun w hw => os_move rfl) ?_
    refine vt_val (fun w hw => os_move rfl) ?_
    refine vt_val (fun w hw => os_ixs Try.underlying63 Try.sizeOf62 rfl rfl (i := k) (by omega) (by omega)) ?_
    refine vt_val (fun w hw => os_loadP Try.underlying62 rfl (by kernel_rfl) rfl (c1.led hw)) ?_
    refine vt_val (fun w hw => os_move rfl) ?_
    refine vt_val (fun w hw => os_move rfl) ?_
    refine vt_val (fun w hw => os_ixs Try.underlying63 Try.sizeOf62 rfl rfl (i := k) (by omega) (by omega)) ?_
    refine vt_val (fun w hw => os_loadP Try.underlying62 rfl (by kernel_rfl) rfl (c2.led hw)) ?_
    refine vt_val (fun w hw => os_f (os_neqS2 Try.eqGuardType62 (by kernel_rfl) Try.stoodInHeld62 (by kernel_rfl) Try.underlying3 Try.isAgg3 rfl rfl) (by simp)) ?_
    refine vt_nil (fun w hw => ?_)
    obtain ⟨q2, rfl⟩ := hw
    refine v_cond_f rfl ?_
    refine v_skip ?_
    refine v_region ?_
    refine vl_val (os_move rfl) ?_
    refine vl_val (os_addi rfl rfl (by omega)) ?_
    refine vl_val (os_assign rfl) ?_
    refine vl_nil ?_
    exact ⟨k + 1, ⟨rfl, rfl, trivial⟩, ⟨rfl, trivial⟩, ⟨by omega, _, World.drewN_drewN ..⟩, by dsimp only; omega⟩
  · refine v_exit ?_
    refine v_seq ?_
    refine v_region ?_
    refine vl_val (os_assign rfl) ?_
    refine vl_nil ?_
    refine v_ret ?_
    exact post_ret rfl rfl (⟨rfl, _, rfl⟩)
theorem LentW.mono {w B B' t v ps} (h : LentW w B t v ps) (hb : B' ≤ B) : LentW w B' t v ps := by
  obtain ⟨g, C, e, hc, ho⟩ := h
  exact ⟨g, C, e, hc, OwnP.mono ho hb⟩
theorem LentW.kb {w w' B t v ps S} (h : LentW w B t v ps) (hb : Kb S w w') (hS : ∀ g, v.ownBlock = some g → g ∉ S) : LentW w' B t v ps := by
  obtain ⟨g, C, rfl, hc, ho⟩ := h
  exact ⟨g, C, rfl, hc, ho.blk fun k hk => hb.block k (ho.lt k hk).2 (hS k hk)⟩
set_option maxHeartbeats 1000000 in
theorem kit_SameNote (d e : NoteV) (w : World) (hd : NoteOk w d) (he : NoteOk w e) (h1 : d.st = e.st) (h2 : d.sq = e.sq) (h3 : d.n = e.n) (h4 : d.cs = e.cs) : Gives Try.prog 157 #[.agg d.cells.toArray, .agg e.cells.toArray] w fun v w' => v = .bool true ∧ Below w.heap.size w w' := by
  have hA0 := bk_new w d.cells 205
  have hb0 : Below w.heap.size w (w.alloc (.cells d.cells.toArray 205)) := (Below.refl _ w).alloc (Nat.le_refl _) _
  have hA := hA0.alloc (.cells e.cells.toArray 205)
  have hB := bk_new (w.alloc (.cells d.cells.toArray 205)) e.cells 205
  have hb1 := hb0.alloc hb0.size (.cells e.cells.toArray 205)
  have hd1 := hd.keep hb1
  have he1 := he.keep hb1
  have l1 := hd.2.1
  have l2 := he.2.1
  have l3 := hd.2.2.1
  refine gives_enter Try.call157 Try.func157 rfl rfl rfl (by kernel_rfl) ?_
  refine v_seq ?_
  refine v_region ?_
  refine vl_val (os_box rfl) ?_
  refine vl_val (os_box rfl) ?_
  refine vl_val (os_assign rfl) ?_
  refine vl_nil ?_
  refine v_seq ?_
  refine v_region ?_
  refine vl_val (os_fa (o := 0) (k := 0) (by kernel_rfl) rfl) ?_
  refine vl_val (os_load Try.isAgg3 rfl (hA.cell (i := 0) rfl)) ?_
  refine vl_val (os_fa (o := 0) (k := 0) (by kernel_rfl) rfl) ?_
  refine vl_val (os_load Try.isAgg3 rfl (hB.cell (i := 0) rfl)) ?_
  refine vl_val (os_t (os_eql rfl rfl) (h1)) ?_
  refine vl_val (os_move rfl) ?_
  refine vl_valg rfl (os_fa (o := 1) (k := 0) (by kernel_rfl) rfl) ?_
  refine vl_valg rfl (os_load Try.isAgg3 rfl (hA.cell (i := 1) rfl)) ?_
  refine vl_valg rfl (os_fa (o := 1) (k := 0) (by kernel_rfl) rfl) ?_
  refine vl_valg rfl (os_load Try.isAgg3 rfl (hB.cell (i := 1) rfl)) ?_
  refine vl_valg rfl (os_t (os_eql rfl rfl) (h2)) ?_
  refine vl_val (os_pick_t rfl rfl) ?_
  refine vl_val (os_move rfl) ?_
  refine vl_valg rfl (os_fa (o := 2) (k := 0) (by kernel_rfl) rfl) ?_
  refine vl_valg rfl (os_load Try.isAgg3 rfl (hA.cell (i := 2) rfl)) ?_
  refine vl_valg rfl (os_fa (o := 2) (k := 0) (by kernel_rfl) rfl) ?_
  refine vl_valg rfl (os_load Try.isAgg3 rfl (hB.cell (i := 2) rfl)) ?_
  refine vl_valg rfl (os_t (os_eql rfl rfl) (h3)) ?_
  refine vl_val (os_pick_t rfl rfl) ?_
  refine vl_val (os_move rfl) ?_
  refine vl_valg rfl (os_fa (o := 3) (k := 0) (by kernel_rfl) rfl) ?_
  refine vl_valg rfl (os_load Try.isAgg199 rfl (hA.cell (i := 3) rfl)) ?_
  refine vl_valg rfl (os_fa (o := 3) (k := 0) (by kernel_rfl) rfl) ?_
  refine vl_valg rfl (os_load Try.isAgg199 rfl (hB.cell (i := 3) rfl)) ?_
  refine vl_callg rfl (kit_SameCounts d.A e.A d.l e.l d.c e.c d.cs e.cs _ hd1.1 he1.1 l1 l2 h4 (by omega)) rfl ?_
  rintro v1 w1 ⟨rfl, b1⟩
  refine vl_val (os_pick_t rfl rfl) ?_
  refine vl_val (os_assign rfl) ?_
  refine vl_nil ?_
  refine v_ret ?_
  exact post_ret rfl rfl (⟨rfl, hb1.trans ((led_below b1).mono hb1.size)⟩)
/-- a report that the kit has lent -/
def lentN (d : NoteV) (g C : Nat) : NoteV := ⟨d.st, d.sq, d.n, some ⟨g, 0, none⟩, d.cs.length, C, d.cs⟩
end Go.Proofs.Ytpojijnjdlnokaa

/- The law's kit: headers that are lent, copied, held against each other. -/
namespace Go.Proofs.Ytpojijnjdlnokaa
open Go.RowKit
set_option linter.unusedVariables false

def zH : List Value := [.int .i64 0, .int .i64 0, .int .i64 0, .int .i64 0, .int .i64 0, .slice none 0 0]
set_option maxHeartbeats 1000000 in
theorem kit_SameHead (d e : HeadV) (w : World) (hd : HeadOk w d) (he : HeadOk w e) (hq : d.q = e.q) : Gives Try.prog 88 #[.agg d.cells.toArray, .agg e.cells.toArray] w fun v w' => v = .bool true ∧ Below w.heap.size w w' := by
  have hA0 := bk_new w d.cells 65
  have hb0 : Below w.heap.size w (w.alloc (.cells d.cells.toArray 65)) := (Below.refl _ w).alloc (Nat.le_refl _) _
  have hA := hA0.alloc (.cells e.cells.toArray 65)
  have hB := bk_new (w.alloc (.cells d.cells.toArray 65)) e.cells 65
  have hb1 := hb0.alloc hb0.size (.cells e.cells.toArray 65)
  have hd1 := hd.keep hb1
  have he1 := he.keep hb1
  have l1 := hd.2.1
  have l2 := he.2.1
  have l3 := hd.2.2.1
  refine gives_enter Try.call88 Try.func88 rfl rfl rfl (by kernel_rfl) ?_
  refine v_seq ?_
  refine v_region ?_
  refine vl_val (os_box rfl) ?_
  refine vl_val (os_box rfl) ?_
  refine vl_val (os_assign rfl) ?_
  refine vl_nil ?_
  refine v_seq ?_
  refine v_region ?_
  refine vl_val (os_fa (o := 0) (k := 0) (by kernel_rfl) rfl) ?_
  refine vl_val (os_load Try.isAgg3 rfl (hA.cell (i := 0) rfl)) ?_
  refine vl_val (os_fa (o := 0) (k := 0) (by kernel_rfl) rfl) ?_
  refine vl_val (os_load Try.isAgg3 rfl (hB.cell (i := 0) rfl)) ?_
  refine vl_val (os_t (os_eql rfl rfl) (by rw [hq])) ?_
  refine vl_val (os_move rfl) ?_
  refine vl_valg rfl (os_fa (o := 1) (k := 0) (by kernel_rfl) rfl) ?_
  refine vl_valg rfl (os_load Try.isAgg3 rfl (hA.cell (i := 1) rfl)) ?_
  refine vl_valg rfl (os_fa (o := 1) (k := 0) (by kernel_rfl) rfl) ?_
  refine vl_valg rfl (os_load Try.isAgg3 rfl (hB.cell (i := 1) rfl)) ?_
  refine vl_valg rfl (os_t (os_eql rfl rfl) (by rw [hq])) ?_
  refine vl_val (os_pick_t rfl rfl) ?_
  refine vl_val (os_move rfl) ?_
  refine vl_valg rfl (os_fa (o := 2) (k := 0) (by kernel_rfl) rfl) ?_
  refine vl_valg rfl (os_load Try.isAgg3 rfl (hA.cell (i := 2) rfl)) ?_
  refine vl_valg rfl (os_fa (o := 2) (k := 0) (by kernel_rfl) rfl) ?_
  refine vl_valg rfl (os_load Try.isAgg3 rfl (hB.cell (i := 2) rfl)) ?_
  refine vl_valg rfl (os_t (os_eql rfl rfl) (by rw [hq])) ?_
  refine vl_val (os_pick_t rfl rfl) ?_
  refine vl_val (os_move rfl) ?_
  refine vl_valg rfl (os_fa (o := 3) (k := 0) (by kernel_rfl) rfl) ?_
  refine vl_valg rfl (os_load Try.isAgg3 rfl (hA.cell (i := 3) rfl)) ?_
  refine vl_valg rfl (os_fa (o := 3) (k := 0) (by kernel_rfl) rfl) ?_
  refine vl_valg rfl (os_load Try.isAgg3 rfl (hB.cell (i := 3) rfl)) ?_
  refine vl_valg rfl (os_t (os_eql rfl rfl) (by rw [hq])) ?_
  refine vl_val (os_pick_t rfl rfl) ?_
  refine vl_val (os_move rfl) ?_
  refine vl_valg rfl (os_fa (o := 4) (k := 0) (by kernel_rfl) rfl) ?_
  refine vl_valg rfl (os_load Try.isAgg3 rfl (hA.cell (i := 4) rfl)) ?_
  refine vl_valg rfl (os_fa (o := 4) (k := 0) (by kernel_rfl) rfl) ?_
  refine vl_valg rfl (os_load Try.isAgg3 rfl (hB.cell (i := 4) rfl)) ?_
  refine vl_valg rfl (os_t (os_eql rfl rfl) (by rw [hq])) ?_
  refine vl_val (os_pick_t rfl rfl) ?_
  refine vl_val (os_move rfl) ?_
  refine vl_valg rfl (os_fa (o := 5) (k := 0) (by kernel_rfl) rfl) ?_
  refine vl_valg rfl (os_load Try.isAgg63 rfl (hA.cell (i := 5) rfl)) ?_
  refine vl_valg rfl (os_fa (o := 5) (k := 0) (by kernel_rfl) rfl) ?_
  refine vl_valg rfl (os_load Try.isAgg63 rfl (hB.cell (i := 5) rfl)) ?_
  refine vl_callg rfl (kit_SameTable d.A e.A d.l e.l d.c e.c d.q.rows e.q.rows _ hd1.1 he1.1 l1 l2 (by rw [hq]) (by omega)) rfl ?_
  rintro v1 w1 ⟨rfl, b1⟩
  refine vl_val (os_pick_t rfl rfl) ?_
  refine vl_val (os_assign rfl) ?_
  refine vl_nil ?_
  refine v_ret ?_
  exact post_ret rfl rfl (⟨rfl, hb1.trans ((led_below b1).mono hb1.size)⟩)
theorem kit_CopyTable (A : Option Addr) (n c : Nat) (ps : List (Int × Int)) (w : World) (ha : RdP w 2 A (ps.map rowC)) (hn : n = ps.length) (hb : n ≤ 100000000) : Gives Try.prog 75 #[.slice A n c] w fun v w' => OwnP w' w.heap.size 62 2 v (ps.map rowC) ∧ Below w.heap.size w w' := by
  refine gives_enter Try.call75 Try.func75 rfl rfl rfl (by kernel_rfl) ?_
  refine v_seq ?_
  refine v_region ?_
  refine vl_val (os_assign rfl) ?_
  refine vl_nil ?_
  refine v_seq ?_
  refine v_region ?_
  refine vl_val (os_assign rfl) ?_
  refine vl_nil ?_
  refine v_seq ?_
  refine v_region ?_
  refine vl_val (os_move rfl) ?_
  refine vl_val (os_move rfl) ?_
  refine vl_some (ot_append_pn Try.underlying63 ti_wTable rfl (by decide) rfl rfl (OwnP.nil (B := w.heap.size)) ha (rowC_len _) (by simp [hn]) (rowC_one _) (by simpa using lent_b4 hb) (by simpa using lent_b5 hb) (Nat.le_refl _)) ?_
  rintro v2 w2 ⟨ho2, hg2⟩
  refine vl_val (os_assign rfl) ?_
  refine vl_nil ?_
  refine v_ret ?_
  exact post_ret rfl rfl (⟨by simpa using ho2, (Below.refl _ _).grown hg2 (Nat.le_refl _) (fun k hk => by cases hk)⟩)
set_option maxHeartbeats 1000000 in
theorem kit_CopyHead (d : HeadV) (w : World) (hd : HeadOk w d) (hl : d.l ≤ 100000000) : Gives Try.prog 39 #[.agg d.cells.toArray] w fun v w' => ∃ A c, v = .agg (HeadV.cells ⟨d.q, A, d.l, c⟩).toArray ∧ OwnP w' w.heap.size 62 2 (.slice A d.l c) (d.q.rows.map rowC) ∧ HeadOk w' ⟨d.q, A, d.l, c⟩ ∧ Below w.heap.size w w' := by
  have hA0 := bk_new w d.cells 65
  have hb0 : Below w.heap.size w (w.alloc (.cells d.cells.toArray 65)) := (Below.refl _ w).alloc (Nat.le_refl _) _
  have hA := hA0.alloc (.cells zH.toArray 65)
  have hB := bk_new (w.alloc (.cells d.cells.toArray 65)) zH 65
  have hb1 := hb0.alloc hb0.size (.cells zH.toArray 65)
  have hd1 := hd.keep hb1
  have l1 := hd.2.1
  refine gives_enter Try.call39 Try.func39 rfl rfl rfl (by kernel_rfl) ?_
  refine v_seq ?_
  refine v_region ?_
  refine vl_val (os_box rfl) ?_
  refine vl_val (os_allocB Try.zeroValue65 (zc := _) (cs := zH) rfl) ?_
  simp only [World.size_alloc]
  refine vl_nil ?_
  refine v_seq ?_
  refine v_region ?_
  refine vl_val (os_fa (o := 5) (k := 0) (by kernel_rfl) rfl) ?_
  refine vl_val (os_load Try.isAgg63 rfl (hA.cell (i := 5) rfl)) ?_
  refine vl_call (kit_CopyTable d.A d.l d.c d.q.rows _ hd1.1 l1 hl) rfl ?_
  rintro v1 w1 ⟨hL, b1⟩
  obtain ⟨A2, C, rfl, hlC, -, hr⟩ := hL.form
  have hlt := hL.lt
  have hA1 := hA.keep b1
  have hB1 := hB.keep b1
  simp only [World.size_alloc] at hA1 hB1 hL b1 hb1 hlt
  have hml : (d.q.rows.map rowC).length = d.l := by simp [l1]
  rw [hml] at hL hlC hlt
  rw [hml]
  refine vl_val (os_fa (o := 5) (k := 0) (by kernel_rfl) rfl) ?_
  refine vl_unit (ou_store Try.sizeOf63 rfl rfl rfl (hA1.cell (i := 5) rfl) (hA1.free _)) ?_
  have hA2 := hA1.set 5 (.slice A2 d.l C)
  have hB2 := Bk.setOther hB1 (show w.heap.size ≠ w.heap.size + 1 by omega) (0 + 5) (.slice A2 d.l C)
  refine vl_nil ?_
  refine v_seq ?_
  refine v_region ?_
  refine vl_val (os_loadB Try.underlying65 rfl (by kernel_rfl) rfl (hA2)) ?_
  refine vl_unit (ou_storeB (by kernel_rfl) rfl rfl hB2 rfl rfl) ?_
  have hB3 := setRow_bk hB2 (HeadV.cells ⟨d.q, A2, d.l, C⟩)
  have k3 : Kb [w.heap.size, w.heap.size + 1] w1 ((w1.setCell ⟨w.heap.size, 0 + 5, none⟩ (.slice A2 d.l C)).setRow (w.heap.size + 1) (HeadV.cells ⟨d.q, A2, d.l, C⟩).toArray) := (Kb.set (S := [w.heap.size, w.heap.size + 1]) (by simp) (0 + 5) _).trans (Kb.setRow (S := [w.heap.size, w.heap.size + 1]) (by simp) _) (fun k hk => .inl hk)
  have hL3 := hL.blk (w'' := (w1.setCell ⟨w.heap.size, 0 + 5, none⟩ (.slice A2 d.l C)).setRow (w.heap.size + 1) (HeadV.cells ⟨d.q, A2, d.l, C⟩).toArray) (fun k hk => k3.block k (hL.lt k hk).2 (by have := (hL.lt k hk).1; simp; omega))
  have b3 := Kb.below k3 (hb1.trans (b1.mono (by omega))) (fun k hk => by simp at hk; omega) (by have := hA1.lt; omega)
  refine vl_nil ?_
  refine v_ret ?_
  exact post_cell rfl rfl Try.underlying65 rfl (by kernel_rfl) hB3 ⟨A2, C, rfl, hL3.mono (by omega), ⟨OwnP.rdp hL3, l1, hd.2.2.1, hd.2.2.2.1, hd.2.2.2.2.1, hlC⟩, b3⟩
end Go.Proofs.Ytpojijnjdlnokaa

/- A pointer held against nil. No program in sight. -/
namespace Go.Proofs.Ytpojijnjdlnokaa
open Go.RowKit
set_option linter.unusedVariables false
section
variable {P : Program} {n : Cx} {fr : Fr} {w w' : World} {ty : TypeId} {x y z : Operand} {v u : Value} {T T2 e : TypeId} {op : Op}
theorem os_eqlnil {A : Option Addr} (hT : P.underlying T = some (.pointer (P.pointee T))) (hx : Fr.ev fr x = some (.pointer A)) (hy : Fr.ev fr y = some (.pointer none)) : OS P n (.binOp .eql T x y T2) ty fr w (.bool A.isNone) w := os_of fun a ha => by
  simp [execOp, ha.ev hx, ha.ev hy, eqGuard, run_eql_pointer_nil w T A hT]
theorem os_neqnil {A : Option Addr} (hT : P.underlying T = some (.pointer (P.pointee T))) (hx : Fr.ev fr x = some (.pointer A)) (hy : Fr.ev fr y = some (.pointer none)) : OS P n (.binOp .neq T x y T2) ty fr w (.bool (!A.isNone)) w := os_of fun a ha => by
  simp [execOp, ha.ev hx, ha.ev hy, eqGuard, run_neq_pointer_nil w T A hT]

end
end Go.Proofs.Ytpojijnjdlnokaa

/- Layer 8: rules of pointers and nil, what stays but for some blocks; the program's writer and reader. -/
namespace Go.Proofs.Ytpojijnjdlnokaa
open Go.RowKit
set_option linter.unusedVariables false

/-! ### numbers as bytes -/
def nfitB (n size : Int) : Bool := decide (1 ≤ size ∧ size ≤ 4 ∧ 0 ≤ n ∧ n < 256 ^ size.toNat)
theorem shr_fits {n size : Int} (h : 1 ≤ size ∧ size ≤ 4 ∧ 0 ≤ n) : decide (n.fdiv (2 ^ min (8 * size).toNat IntKind.i64.bits) = 0) = nfitB n size := by
  rw [Int.fdiv_eq_ediv_of_nonneg _ (Int.le_of_lt (Int.pow_pos (by omega)))]
  unfold nfitB
  rcases (by omega : size = 1 ∨ size = 2 ∨ size = 3 ∨ size = 4) with rfl | rfl | rfl | rfl <;> simp [IntKind.bits] <;> rw [← Bool.decide_and, decide_eq_decide] <;> constructor <;> intro h <;> omega
theorem pk_fits (n size : Int) (w : World) : Gives Try.prog 171 #[.int .i64 n, .int .i64 size] w fun v w' => v = .bool (nfitB n size) ∧ w' = w := by
  refine gives_enter Try.call171 Try.func171 rfl rfl rfl (by kernel_rfl) ?_
  rcases (by omega : size < 1 ∨ size > 4 ∨ (1 ≤ size ∧ size ≤ 4 ∧ n < 0) ∨ (1 ≤ size ∧ size ≤ 4 ∧ 0 ≤ n)) with h | h | h | h
  · refine v_seq ?_
    refine v_region ?_
    refine vl_val (os_assign rfl) ?_
    refine vl_nil ?_
    refine v_seq ?_
    refine v_region ?_
    refine vl_val (os_move rfl) ?_
    refine vl_val (os_f (os_geq rfl rfl) (by omega)) ?_
    refine vl_val (os_move rfl) ?_
    refine vl_skip rfl rfl ?_
    refine vl_skip rfl rfl ?_
    refine vl_val (os_pick_f rfl rfl) ?_
    refine vl_val (os_move rfl) ?_
    refine vl_skip rfl rfl ?_
    refine vl_skip rfl rfl ?_
    refine vl_val (os_pick_f rfl rfl) ?_
    refine vl_val (os_move rfl) ?_
    refine vl_skip rfl rfl ?_
    refine vl_skip rfl rfl ?_
    refine vl_skip rfl rfl ?_
    refine vl_skip rfl rfl ?_
    refine vl_skip rfl rfl ?_
    refine vl_val (os_pick_f rfl rfl) ?_
    refine vl_val (os_assign rfl) ?_
    refine vl_nil ?_
    refine v_ret ?_
    exact post_ret rfl rfl (⟨by simp [nfitB]; omega, rfl⟩)
  · refine v_seq ?_
    refine v_region ?_
    refine vl_val (os_assign rfl) ?_
    refine vl_nil ?_
    refine v_seq ?_
    refine v_region ?_
    refine vl_val (os_move rfl) ?_
    refine vl_val (os_t (os_geq rfl rfl) (by omega)) ?_
    refine vl_val (os_move rfl) ?_
    refine vl_valg rfl (os_move rfl) ?_
    refine vl_valg rfl (os_f (os_leq rfl rfl) (by omega)) ?_
    refine vl_val (os_pick_t rfl rfl) ?_
    refine vl_val (os_move rfl) ?_
    refine vl_skip rfl rfl ?_
    refine vl_skip rfl rfl ?_
    refine vl_val (os_pick_f rfl rfl) ?_
    refine vl_val (os_move rfl) ?_
    refine vl_skip rfl rfl ?_
    refine vl_skip rfl rfl ?_
    refine vl_skip rfl rfl ?_
    refine vl_skip rfl rfl ?_
    refine vl_skip rfl rfl ?_
    refine vl_val (os_pick_f rfl rfl) ?_
    refine vl_val (os_assign rfl) ?_
    refine vl_nil ?_
    refine v_ret ?_
    exact post_ret rfl rfl (⟨by simp [nfitB]; omega, rfl⟩)
  · refine v_seq ?_
    refine v_region ?_
    refine vl_val (os_assign rfl) ?_
    refine vl_nil ?_
    refine v_seq ?_
    refine v_region ?_
    refine vl_val (os_move rfl) ?_
    refine vl_val (os_t (os_geq rfl rfl) (by omega)) ?_
    refine vl_val (os_move rfl) ?_
    refine vl_valg rfl (os_move rfl) ?_
    refine vl_valg rfl (os_t (os_leq rfl rfl) (by omega)) ?_
    refine vl_val (os_pick_t rfl rfl) ?_
    refine vl_val (os_move rfl) ?_
    refine vl_valg rfl (os_move rfl) ?_
    refine vl_valg rfl (os_f (os_geq rfl rfl) (by omega)) ?_
    refine vl_val (os_pick_t rfl rfl) ?_
    refine vl_val (os_move rfl) ?_
    refine vl_skip rfl rfl ?_
    refine vl_skip rfl rfl ?_
    refine vl_skip rfl rfl ?_
    refine vl_skip rfl rfl ?_
    refine vl_skip rfl rfl ?_
    refine vl_val (os_pick_f rfl rfl) ?_
    refine vl_val (os_assign rfl) ?_
    refine vl_nil ?_
    refine v_ret ?_
    exact post_ret rfl rfl (⟨by simp [nfitB]; omega, rfl⟩)
  · refine v_seq ?_
    refine v_region ?_
    refine vl_val (os_assign rfl) ?_
    refine vl_nil ?_
    refine v_seq ?_
    refine v_region ?_
    refine vl_val (os_move rfl) ?_
    refine vl_val (os_t (os_geq rfl rfl) (by omega)) ?_
    refine vl_val (os_move rfl) ?_
    refine vl_valg rfl (os_move rfl) ?_
    refine vl_valg rfl (os_t (os_leq rfl rfl) (by omega)) ?_
    refine vl_val (os_pick_t rfl rfl) ?_
    refine vl_val (os_move rfl) ?_
    refine vl_valg rfl (os_move rfl) ?_
    refine vl_valg rfl (os_t (os_geq rfl rfl) (by omega)) ?_
    refine vl_val (os_pick_t rfl rfl) ?_
    refine vl_val (os_move rfl) ?_
    refine vl_valg rfl (os_move rfl) ?_
    refine vl_valg rfl (os_move rfl) ?_
    refine vl_valg rfl (os_muli rfl rfl (by omega)) ?_
    refine vl_valg rfl (os_shr rfl rfl (by omega) rfl) ?_
    refine vl_valg rfl (os_eql rfl rfl) ?_
    refine vl_val (os_pick_t rfl rfl) ?_
    refine vl_val (os_assign rfl) ?_
    refine vl_nil ?_
    refine v_ret ?_
    exact post_ret rfl rfl (⟨by rw [← shr_fits h], rfl⟩)

theorem pk_able (g : Nat) (v : Value) (e : Int) (t : TypeId) (w : World) (hB : Bk w g [v, .int .i64 e, .bool true] t) : Gives Try.prog 160 #[.pointer (some ⟨g, 0, none⟩)] w fun u w' => u = .bool (decide (e = 0)) ∧ w' = w := by
  refine gives_enter Try.call160 Try.func160 rfl rfl rfl (by kernel_rfl) ?_
  refine v_seq ?_
  refine v_region ?_
  refine vl_val (os_assign rfl) ?_
  refine vl_nil ?_
  refine v_seq ?_
  refine v_region ?_
  refine vl_val (os_move rfl) ?_
  refine vl_val (os_nilCheck rfl) ?_
  refine vl_val (os_fa (o := 2) (k := 0) (by kernel_rfl) rfl) ?_
  refine vl_val (os_load Try.isAgg4 rfl (Bk.cell (i := 2) hB rfl)) ?_
  refine vl_val (os_move rfl) ?_
  refine vl_valg rfl (os_move rfl) ?_
  refine vl_valg rfl (os_nilCheck rfl) ?_
  refine vl_valg rfl (os_fa (o := 1) (k := 0) (by kernel_rfl) rfl) ?_
  refine vl_valg rfl (os_load Try.isAgg28 rfl (Bk.cell (i := 1) hB rfl)) ?_
  refine vl_valg rfl (os_eql rfl rfl) ?_
  refine vl_val (os_pick_t rfl rfl) ?_
  refine vl_val (os_assign rfl) ?_
  refine vl_nil ?_
  refine v_ret ?_
  exact post_ret rfl rfl (⟨rfl, rfl⟩)
theorem pk_unless (g : Nat) (v : Value) (e : Int) (t : TypeId) (b : Bool) (x : Int) (w : World) (hB : Bk w g [v, .int .i64 e, .bool true] t) (hx : x ≠ 0) : Gives Try.prog 165 #[.pointer (some ⟨g, 0, none⟩), .bool b, .int .i64 x] w fun u w' => u = .bool (decide (e = 0) && b) ∧ w' = if e = 0 ∧ b = false then w.setCell ⟨g, 0 + 1, none⟩ (.int .i64 x) else w := by
  refine gives_enter Try.call165 Try.func165 rfl rfl rfl (by kernel_rfl) ?_
  rcases (by by_cases he : e = 0 <;> cases b <;> simp [he] : (e = 0 ∧ b = false) ∨ (e = 0 ∧ b = true) ∨ (e ≠ 0)) with ⟨rfl, rfl⟩ | ⟨rfl, rfl⟩ | he
  · refine v_seq ?_
    refine v_region ?_
    refine vl_val (os_assign rfl) ?_
    refine vl_nil ?_
    refine v_seq ?_
    refine v_seq ?_
    refine v_region ?_
    refine vl_val (os_move rfl) ?_
    refine vl_call (pk_able g v 0 t w hB) rfl ?_
    rintro v1 w ⟨rfl, rfl⟩
    refine vl_val (os_move rfl) ?_
    refine vl_valg rfl (os_move rfl) ?_
    refine vl_valg rfl (os_not rfl) ?_
    refine vl_val (os_pick_t rfl rfl) ?_
    refine vl_nil ?_
    refine v_cond_t rfl ?_
    refine v_region ?_
    refine vl_val (os_move rfl) ?_
    refine vl_val (os_move rfl) ?_
    refine vl_val (os_nilCheck rfl) ?_
    refine vl_val (os_fa (o := 1) (k := 0) (by kernel_rfl) rfl) ?_
    refine vl_unit (ou_store Try.sizeOf28 rfl rfl rfl (Bk.cell (i := 1) hB rfl) (Bk.free hB _)) ?_
    refine vl_nil ?_
    refine v_seq ?_
    refine v_region ?_
    refine vl_val (os_move rfl) ?_
    refine vl_call (pk_able g v x t _ (Bk.set hB 1 (.int .i64 x))) rfl ?_
    rintro v2 w2 ⟨rfl, rfl⟩
    refine vl_val (os_assign rfl) ?_
    refine vl_nil ?_
    refine v_ret ?_
    exact post_ret rfl rfl (⟨by simp [hx], by simp⟩)
  · refine v_seq ?_
    refine v_region ?_
    refine vl_val (os_assign rfl) ?_
    refine vl_nil ?_
    refine v_seq ?_
    refine v_seq ?_
    refine v_region ?_
    refine vl_val (os_move rfl) ?_
    refine vl_call (pk_able g v 0 t w hB) rfl ?_
    rintro v1 w ⟨rfl, rfl⟩
    refine vl_val (os_move rfl) ?_
    refine vl_valg rfl (os_move rfl) ?_
    refine vl_valg rfl (os_not rfl) ?_
    refine vl_val (os_pick_t rfl rfl) ?_
    refine vl_nil ?_
    refine v_cond_f rfl ?_
    refine v_skip ?_
    refine v_seq ?_
    refine v_region ?_
    refine vl_val (os_move rfl) ?_
    refine vl_call (pk_able g v 0 t w hB) rfl ?_
    rintro v2 w ⟨rfl, rfl⟩
    refine vl_val (os_assign rfl) ?_
    refine vl_nil ?_
    refine v_ret ?_
    exact post_ret rfl rfl (⟨rfl, by simp⟩)
  · refine v_seq ?_
    refine v_region ?_
    refine vl_val (os_assign rfl) ?_
    refine vl_nil ?_
    refine v_seq ?_
    refine v_seq ?_
    refine v_region ?_
    refine vl_val (os_move rfl) ?_
    refine vl_call ((pk_able g v e t w hB).mono fun u w' hh => (⟨by rw [hh.1, decide_eq_false he], hh.2⟩ : u = .bool false ∧ w' = w)) rfl ?_
    rintro v1 w ⟨rfl, rfl⟩
    refine vl_val (os_move rfl) ?_
    refine vl_skip rfl rfl ?_
    refine vl_skip rfl rfl ?_
    refine vl_val (os_pick_f rfl rfl) ?_
    refine vl_nil ?_
    refine v_cond_f rfl ?_
    refine v_skip ?_
    refine v_seq ?_
    refine v_region ?_
    refine vl_val (os_move rfl) ?_
    refine vl_call (pk_able g v e t w hB) rfl ?_
    rintro v2 w ⟨rfl, rfl⟩
    refine vl_val (os_assign rfl) ?_
    refine vl_nil ?_
    refine v_ret ?_
    exact post_ret rfl rfl (⟨by simp [he], by simp [he]⟩)

/-- what a writer or reader is: its three cells, its bytes in a row of their own -/
structure WrS (w : World) (B : Nat) (t : TypeId) (g : Nat) (v : Value) (bs : List Int) (e : Int) : Prop where
  bk : Bk w g [v, .int .i64 e, .bool true] t
  own : OwnK w B 5 .u8 v bs
  low : B ≤ g
  ne : v.ownBlock ≠ some g
def WrS.blocks (g : Nat) (v : Value) : List Nat := g :: v.ownBlock.toList

theorem pk_New (w : World) : Gives Try.prog 121 #[] w fun u w' => ∃ g, u = .pointer (some ⟨g, 0, none⟩) ∧ WrS w' w.heap.size 216 g (.slice none 0 0) [] 0 ∧ Below w.heap.size w w' := by
  refine gives_enter Try.call121 Try.func121 rfl rfl rfl (by kernel_rfl) ?_
  refine v_seq ?_
  refine v_region ?_
  refine vl_val (os_assign rfl) ?_
  refine vl_nil ?_
  refine v_seq ?_
  refine v_region ?_
  refine vl_val (os_build (cs := [.slice none 0 0, .int .i64 0, .bool true]) rfl (by kernel_rfl)) ?_
  refine vl_val (os_build (cs := [.slice none 0 0, .int .i64 0, .bool true]) rfl (by kernel_rfl)) ?_
  refine vl_val (os_box rfl) ?_
  refine vl_val (os_assign rfl) ?_
  refine vl_nil ?_
  refine v_ret ?_
  exact post_ret rfl rfl (⟨_, rfl, ⟨bk_new w [.slice none 0 0, .int .i64 0, .bool true] _, Own.nil _ _ _, Nat.le_refl _, by simp [Value.ownBlock]⟩, (Below.refl _ _).alloc (Nat.le_refl _) _⟩)

def wrBytes (bs : List Int) (e : Int) (n size : Int) : List Int := if e = 0 ∧ nfitB n size = true then bs ++ numBytes n size.toNat else bs
def wrErr (e : Int) (n size : Int) : Int := if e = 0 ∧ nfitB n size = false then 2 else e

theorem numBytes_succ (n : Int) {s k : Nat} (hk : k < s) : (numBytes n s).take (k + 1) = (numBytes n s).take k ++ [n / 256 ^ (s - 1 - k) % 256] := by
  rw [List.take_succ_eq_append_getElem (by rw [numBytes_len]; exact hk)]
  simp [numBytes]
theorem shr_byte (n : Int) {s k : Nat} (hk : k < s) (hs : s ≤ 4) : n.fdiv (2 ^ min (8 * ((s : Int) - 1 - (k : Int))).toNat IntKind.i64.bits) = n / 256 ^ (s - 1 - k) := by
  rw [Int.fdiv_eq_ediv_of_nonneg _ (Int.le_of_lt (Int.pow_pos (by omega)))]
  have e : min (8 * ((s : Int) - 1 - (k : Int))).toNat IntKind.i64.bits = 8 * (s - 1 - k) := by simp [IntKind.bits]; omega
  rw [e, Int.pow_mul]
  rfl
theorem blocks_ok {g : Nat} {v v' : Value} {B : Nat} (h : v'.ownBlock = v.ownBlock ∨ ∃ h, v'.ownBlock = some h ∧ B ≤ h) : ∀ k ∈ WrS.blocks g v', k ∈ WrS.blocks g v ∨ B ≤ k := by
  intro k hk
  unfold WrS.blocks at hk ⊢
  rcases h with e | ⟨x, e, hx⟩
  · rw [e] at hk; exact .inl hk
  · rw [e] at hk
    simp at hk
    rcases hk with rfl | rfl
    · exact .inl (by simp)
    · exact .inr hx

set_option maxHeartbeats 1000000 in
theorem pk_Number (g : Nat) (v : Value) (bs : List Int) (e n size : Int) (B : Nat) (w : World) (hw : WrS w B 216 g v bs e) (hB : B ≤ w.heap.size) (hl : (bs.length + 4) ≤ 140737488355328) :
    Gives Try.prog 159 #[.pointer (some ⟨g, 0, none⟩), .int .i64 n, .int .i64 size] w fun u w' => ∃ v', WrS w' B 216 g v' (wrBytes bs e n size) (wrErr e n size) ∧ Kb (WrS.blocks g v) w w' ∧ (v'.ownBlock = v.ownBlock ∨ ∃ h, v'.ownBlock = some h ∧ w.heap.size ≤ h) := by
  refine gives_enter Try.call159 Try.func159 rfl rfl rfl (by kernel_rfl) ?_
  rcases (by by_cases he : e = 0 <;> cases nfitB n size <;> simp [he] : (e = 0 ∧ nfitB n size = false) ∨ (e ≠ 0) ∨ (e = 0 ∧ nfitB n size = true)) with ⟨rfl, hf⟩ | he | ⟨rfl, hf⟩
  · refine v_seq ?_
    refine v_seq ?_
    refine v_region_a mixed ?_
    refine va_pure 0 rfl (by kernel_rfl) (by kernel_rfl) (by kernel_rfl) (fun w => (os_move rfl)) ?_
    refine va_pure 1 rfl (by kernel_rfl) (by kernel_rfl) (by kernel_rfl) (fun w => (os_is (os_eqlnil (by kernel_rfl) rfl rfl) (rfl))) ?_
    refine va_pure 2 rfl (by kernel_rfl) (by kernel_rfl) (by kernel_rfl) (fun w => (os_move rfl)) ?_
    refine va_pure 3 rfl (by kernel_rfl) (by kernel_rfl) (by kernel_rfl) (fun w => (os_move rfl)) ?_
    refine va_pure 4 rfl (by kernel_rfl) (by kernel_rfl) (by kernel_rfl) (fun w => (os_nilCheck rfl)) ?_
    refine va_pure 5 rfl (by kernel_rfl) (by kernel_rfl) (by kernel_rfl) (fun w => (os_fa (o := 0) (k := 2) (by kernel_rfl) rfl)) ?_
    refine va_pure 6 rfl (by kernel_rfl) (by kernel_rfl) (by kernel_rfl) (fun w => (os_move rfl)) ?_
    refine va_pure 7 rfl (by kernel_rfl) (by kernel_rfl) (by kernel_rfl) (fun w => (os_move rfl)) ?_
    refine va_one 8 (by kernel_rfl) ?_
    refine vn_call rfl (pk_fits n size _) rfl ?_
    rintro v1 w1 ⟨rfl, rfl⟩
    refine va_one 9 (by kernel_rfl) ?_
    refine vn_call rfl ((pk_unless g v 0 _ (nfitB n size) 2 _ (Bk.led hw.bk ⟨1, rfl⟩) (by omega)).mono fun u w' hh => (⟨by rw [hh.1, hf]; rfl, by rw [hh.2, hf, if_pos ⟨rfl, rfl⟩]⟩ : u = .bool false ∧ w' = _)) rfl ?_
    rintro v2 w2 ⟨rfl, rfl⟩
    refine va_pure 10 rfl (by kernel_rfl) (by kernel_rfl) (by kernel_rfl) (fun w => (os_not rfl)) ?_
    refine va_pure 11 rfl (by kernel_rfl) (by kernel_rfl) (by kernel_rfl) (fun w => (os_pick_f rfl rfl)) ?_
    refine va_done (by kernel_rfl) ?_
    refine v_cond_t rfl ?_
    refine v_ret ?_
    exact post_ret0 rfl (⟨v, ⟨by rw [wrErr, hf, if_pos ⟨rfl, rfl⟩]; exact Bk.set (Bk.led hw.bk ⟨1, rfl⟩) 1 _, by rw [wrBytes, hf, if_neg (fun h => by cases h.2)]; exact Own.setOther (Own.led hw.own ⟨1, rfl⟩) (fun g' e e2 => hw.ne (by rw [e, e2])) _ _, hw.low, hw.ne⟩, (Kb.led ⟨1, rfl⟩).trans (Kb.set (List.mem_cons_self) _ _) (fun k hk => .inl hk), .inl rfl⟩)
  · refine v_seq ?_
    refine v_seq ?_
    refine v_region_a mixed ?_
    refine va_pure 0 rfl (by kernel_rfl) (by kernel_rfl) (by kernel_rfl) (fun w => (os_move rfl)) ?_
    refine va_pure 1 rfl (by kernel_rfl) (by kernel_rfl) (by kernel_rfl) (fun w => (os_is (os_eqlnil (by kernel_rfl) rfl rfl) (rfl))) ?_
    refine va_pure 2 rfl (by kernel_rfl) (by kernel_rfl) (by kernel_rfl) (fun w => (os_move rfl)) ?_
    refine va_pure 3 rfl (by kernel_rfl) (by kernel_rfl) (by kernel_rfl) (fun w => (os_move rfl)) ?_
    refine va_pure 4 rfl (by kernel_rfl) (by kernel_rfl) (by kernel_rfl) (fun w => (os_nilCheck rfl)) ?_
    refine va_pure 5 rfl (by kernel_rfl) (by kernel_rfl) (by kernel_rfl) (fun w => (os_fa (o := 0) (k := 2) (by kernel_rfl) rfl)) ?_
    refine va_pure 6 rfl (by kernel_rfl) (by kernel_rfl) (by kernel_rfl) (fun w => (os_move rfl)) ?_
    refine va_pure 7 rfl (by kernel_rfl) (by kernel_rfl) (by kernel_rfl) (fun w => (os_move rfl)) ?_
    refine va_one 8 (by kernel_rfl) ?_
    refine vn_call rfl (pk_fits n size _) rfl ?_
    rintro v1 w1 ⟨rfl, rfl⟩
    refine va_one 9 (by kernel_rfl) ?_
    refine vn_call rfl ((pk_unless g v e _ (nfitB n size) 2 _ (Bk.led hw.bk ⟨1, rfl⟩) (by omega)).mono fun u w' hh => (⟨by rw [hh.1, decide_eq_false he]; rfl, by rw [hh.2, if_neg (fun h => he h.1)]⟩ : u = .bool false ∧ w' = _)) rfl ?_
    rintro v2 w2 ⟨rfl, rfl⟩
    refine va_pure 10 rfl (by kernel_rfl) (by kernel_rfl) (by kernel_rfl) (fun w => (os_not rfl)) ?_
    refine va_pure 11 rfl (by kernel_rfl) (by kernel_rfl) (by kernel_rfl) (fun w => (os_pick_f rfl rfl)) ?_
    refine va_done (by kernel_rfl) ?_
    refine v_cond_t rfl ?_
    refine v_ret ?_
    exact post_ret0 rfl (⟨v, ⟨by rw [wrErr, if_neg (fun h => he h.1)]; exact Bk.led hw.bk ⟨1, rfl⟩, by rw [wrBytes, if_neg (fun h => he h.1)]; exact Own.led hw.own ⟨1, rfl⟩, hw.low, hw.ne⟩, Kb.led ⟨1, rfl⟩, .inl rfl⟩)
  · refine v_seq ?_
    refine v_seq ?_
    refine v_region_a mixed ?_
    refine va_pure 0 rfl (by kernel_rfl) (by kernel_rfl) (by kernel_rfl) (fun w => (os_move rfl)) ?_
    refine va_pure 1 rfl (by kernel_rfl) (by kernel_rfl) (by kernel_rfl) (fun w => (os_is (os_eqlnil (by kernel_rfl) rfl rfl) (rfl))) ?_
    refine va_pure 2 rfl (by kernel_rfl) (by kernel_rfl) (by kernel_rfl) (fun w => (os_move rfl)) ?_
    refine va_pure 3 rfl (by kernel_rfl) (by kernel_rfl) (by kernel_rfl) (fun w => (os_move rfl)) ?_
    refine va_pure 4 rfl (by kernel_rfl) (by kernel_rfl) (by kernel_rfl) (fun w => (os_nilCheck rfl)) ?_
    refine va_pure 5 rfl (by kernel_rfl) (by kernel_rfl) (by kernel_rfl) (fun w => (os_fa (o := 0) (k := 2) (by kernel_rfl) rfl)) ?_
    refine va_pure 6 rfl (by kernel_rfl) (by kernel_rfl) (by kernel_rfl) (fun w => (os_move rfl)) ?_
    refine va_pure 7 rfl (by kernel_rfl) (by kernel_rfl) (by kernel_rfl) (fun w => (os_move rfl)) ?_
    refine va_one 8 (by kernel_rfl) ?_
    refine vn_call rfl (pk_fits n size _) rfl ?_
    rintro v1 w1 ⟨rfl, rfl⟩
    refine va_one 9 (by kernel_rfl) ?_
    refine vn_call rfl ((pk_unless g v 0 _ (nfitB n size) 2 _ (Bk.led hw.bk ⟨1, rfl⟩) (by omega)).mono fun u w' hh => (⟨by rw [hh.1, hf]; rfl, by rw [hh.2, hf, if_neg (fun h => by cases h.2)]⟩ : u = .bool true ∧ w' = _)) rfl ?_
    rintro v2 w2 ⟨rfl, rfl⟩
    have hs : 1 ≤ size ∧ size ≤ 4 ∧ 0 ≤ n ∧ n < 256 ^ size.toNat := of_decide_eq_true hf
    obtain ⟨s, rfl⟩ : ∃ s : Nat, size = s := ⟨size.toNat, by omega⟩
    have hn6 : n < 256 ^ s := by have := hs.2.2.2; simpa using this
    refine va_pure 10 rfl (by kernel_rfl) (by kernel_rfl) (by kernel_rfl) (fun w => (os_not rfl)) ?_
    refine va_pure 11 rfl (by kernel_rfl) (by kernel_rfl) (by kernel_rfl) (fun w => (os_pick_f rfl rfl)) ?_
    refine va_done (by kernel_rfl) ?_
    refine v_cond_f rfl ?_
    refine v_skip ?_
    refine v_seq ?_
    refine v_region ?_
    refine vl_val (os_move rfl) ?_
    refine vl_val (os_move rfl) ?_
    refine vl_nil ?_
    refine v_block ?_
    refine v_loop [(0, _), (1, _), (2, _), (19, _)] (fun (k : Nat) => [(20, .int .i64 k)]) (fun k w' => k ≤ s ∧ ∃ v', WrS w' B 216 g v' (bs ++ (numBytes n s).take k) 0 ∧ Kb (WrS.blocks g v) w w' ∧ (v'.ownBlock = v.ownBlock ∨ ∃ h, v'.ownBlock = some h ∧ w.heap.size ≤ h)) (fun k => s - k) (0) ⟨rfl, rfl, rfl, rfl, trivial⟩ ⟨rfl, trivial⟩ (⟨by omega, v, ⟨Bk.led hw.bk ⟨1, rfl⟩, by simp only [List.take_zero, List.append_nil]; exact Own.led hw.own ⟨1, rfl⟩, hw.low, hw.ne⟩, Kb.led ⟨1, rfl⟩, .inl rfl⟩) ?_
    rintro k w' ⟨hk, v', hw', hkb, hob⟩
    refine v_seq ?_
    refine v_region ?_
    refine vl_val (os_lss rfl rfl) ?_
    refine vl_nil ?_
    refine v_seq ?_
    refine v_cond_d rfl (fun hlt => ?_) (fun hlt => ?_)
    · have hlb : (bs ++ (numBytes n s).take k).length ≤ bs.length + 3 := by rw [List.length_append, List.length_take, numBytes_len]; omega
      have hsz := hkb.size
      have hg := hw'.bk.lt
      refine v_skip ?_
      refine v_seq ?_
      refine v_block ?_
      refine v_seq ?_
      refine v_region ?_
      refine vl_val (os_move rfl) ?_
      refine vl_val (os_assign rfl) ?_
      refine vl_nil ?_
      refine v_region_a mixed ?_
      refine va_pure 0 rfl (by kernel_rfl) (by kernel_rfl) (by kernel_rfl) (fun w => (os_move rfl)) ?_
      refine va_pure 1 rfl (by kernel_rfl) (by kernel_rfl) (by kernel_rfl) (fun w => (os_move rfl)) ?_
      refine va_pure 2 rfl (by kernel_rfl) (by kernel_rfl) (by kernel_rfl) (fun w => (os_nilCheck rfl)) ?_
      refine va_pure 3 rfl (by kernel_rfl) (by kernel_rfl) (by kernel_rfl) (fun w => (os_fa (o := 0) (k := 2) (by kernel_rfl) rfl)) ?_
      refine va_pure 4 rfl (by kernel_rfl) (by kernel_rfl) (by kernel_rfl) (fun w => (os_fa (o := 0) (k := 0) (by kernel_rfl) rfl)) ?_
      refine va_pure 6 rfl (by kernel_rfl) (by kernel_rfl) (by kernel_rfl) (fun w => (os_move rfl)) ?_
      refine va_pure 7 rfl (by kernel_rfl) (by kernel_rfl) (by kernel_rfl) (fun w => (os_move rfl)) ?_
      refine va_pure 8 rfl (by kernel_rfl) (by kernel_rfl) (by kernel_rfl) (fun w => (os_subi rfl rfl (by omega))) ?_
      refine va_pure 9 rfl (by kernel_rfl) (by kernel_rfl) (by kernel_rfl) (fun w => (os_move rfl)) ?_
      refine va_pure 10 rfl (by kernel_rfl) (by kernel_rfl) (by kernel_rfl) (fun w => (os_subi rfl rfl (by omega))) ?_
      refine va_pure 11 rfl (by kernel_rfl) (by kernel_rfl) (by kernel_rfl) (fun w => (os_muli rfl rfl (by omega))) ?_
      refine va_pure 12 rfl (by kernel_rfl) (by kernel_rfl) (by kernel_rfl) (fun w => (os_shr (r := n / 256 ^ (s - 1 - k)) rfl rfl (by omega) (shr_byte n (by omega) (by omega)))) ?_
      refine va_pure 13 rfl (by kernel_rfl) (by kernel_rfl) (by kernel_rfl) (fun w => (os_conv Try.underlying3 Try.underlying5 rfl (IntKind.wrap_u8 _))) ?_
      refine va_two 5 14 (by kernel_rfl) ?_ ?_
      · refine vn_val rfl (os_load Try.isAgg22 rfl (by first | exact Bk.cell (i := 0) (Bk.led hw'.bk ⟨1, rfl⟩) rfl | exact Bk.cell (i := 0) (Bk.alloc (Bk.led hw'.bk ⟨1, rfl⟩) _) rfl)) ?_
        refine va_one 14 (by kernel_rfl) ?_
        refine vn_val rfl (os_lit Try.underlying22 Try.sizeOf5 Try.zeroValue5 rfl rfl rfl rfl (by decide)) ?_
        refine va_one 15 (by kernel_rfl) ?_
        refine vn_some rfl (ot_append_at Try.underlying22 ti_u8 rfl rfl rfl (Own.alloc (Own.led hw'.own ⟨1, rfl⟩) _) (rdc_alloc _ [Value.int .u8 (n / 256 ^ (s - 1 - k) % 256)] _) rfl (by simp [Value.oneCell']) (by rw [List.length_map]; omega) (by rw [List.length_map]; simp only [maxLen]; omega) (by simp; omega)) ?_
        rintro v6 w6 ⟨ho6, hg6, ha6⟩
        obtain ⟨A6, c6, rfl, -⟩ := Own.form ho6
        refine va_pure 16 rfl (by kernel_rfl) (by kernel_rfl) (by kernel_rfl) (fun w => (os_nilCheck rfl)) ?_
        refine va_pure 17 rfl (by kernel_rfl) (by kernel_rfl) (by kernel_rfl) (fun w => (os_fa (o := 0) (k := 2) (by kernel_rfl) rfl)) ?_
        refine va_pure 18 rfl (by kernel_rfl) (by kernel_rfl) (by kernel_rfl) (fun w => (os_fa (o := 0) (k := 0) (by kernel_rfl) rfl)) ?_
        refine va_one 19 (by kernel_rfl) ?_
        refine vn_unit rfl (ou_store Try.sizeOf22 rfl rfl rfl (Bk.cell (i := 0) (Bk.grown (Bk.alloc (Bk.led hw'.bk ⟨1, rfl⟩) _) hg6 (fun e => hw'.ne e.symm)) rfl) (Bk.free (Bk.grown (Bk.alloc (Bk.led hw'.bk ⟨1, rfl⟩) _) hg6 (fun e => hw'.ne e.symm)) _)) ?_
        have hne6 : (Value.slice A6 _ c6).ownBlock ≠ some g := fun e => by
          rcases ha6 with h6 | h6
          · rw [h6] at e; exact hw'.ne e
          · rw [h6] at e; simp at e; omega
        refine va_done (by kernel_rfl) ?_
        refine v_region ?_
        refine vl_val (os_addi rfl rfl (by omega)) ?_
        refine vl_val (os_move rfl) ?_
        refine vl_nil ?_
        exact ⟨k + 1, ⟨rfl, rfl, rfl, rfl, trivial⟩, ⟨rfl, trivial⟩, ⟨by omega, _, ⟨Bk.set (Bk.grown (Bk.alloc (Bk.led hw'.bk ⟨1, rfl⟩) _) hg6 (fun e => hw'.ne e.symm)) 0 _, by rw [numBytes_succ n (by omega), ← List.append_assoc]; unfold OwnK; rw [show List.map (Value.int .u8) (bs ++ List.take k (numBytes n s) ++ [n / 256 ^ (s - 1 - k) % 256]) = List.map (Value.int .u8) (bs ++ List.take k (numBytes n s)) ++ [Value.int .u8 (n / 256 ^ (s - 1 - k) % 256)] from List.map_append ..]; exact Own.setOther ho6 (fun g' e e2 => hne6 (by rw [e, e2])) _ _, hw'.low, hne6⟩, hkb.trans (((Kb.led ⟨1, rfl⟩).trans (Kb.of_below ((Below.refl _ _).alloc (Nat.le_refl _) _)) (fun k hk => .inl hk)).trans ((Kb.grown hg6 (S := WrS.blocks g v') (fun k hk => by rw [WrS.blocks, hk]; simp)).trans (Kb.set (by simp [WrS.blocks]) _ _) (fun k hk => .inl hk)) (fun k hk => .inl hk)) (blocks_ok hob), by rcases ha6 with h6 | h6; (rw [h6]; exact hob); exact .inr ⟨_, h6, by simp; omega⟩⟩, by dsimp only; omega⟩
      · refine vn_val rfl (os_lit Try.underlying22 Try.sizeOf5 Try.zeroValue5 rfl rfl rfl rfl (by decide)) ?_
        refine va_one 5 (by kernel_rfl) ?_
        refine vn_val rfl (os_load Try.isAgg22 rfl (by first | exact Bk.cell (i := 0) (Bk.led hw'.bk ⟨1, rfl⟩) rfl | exact Bk.cell (i := 0) (Bk.alloc (Bk.led hw'.bk ⟨1, rfl⟩) _) rfl)) ?_
        refine va_one 15 (by kernel_rfl) ?_
        refine vn_some rfl (ot_append_at Try.underlying22 ti_u8 rfl rfl rfl (Own.alloc (Own.led hw'.own ⟨1, rfl⟩) _) (rdc_alloc _ [Value.int .u8 (n / 256 ^ (s - 1 - k) % 256)] _) rfl (by simp [Value.oneCell']) (by rw [List.length_map]; omega) (by rw [List.length_map]; simp only [maxLen]; omega) (by simp; omega)) ?_
        rintro v6 w6 ⟨ho6, hg6, ha6⟩
        obtain ⟨A6, c6, rfl, -⟩ := Own.form ho6
        refine va_pure 16 rfl (by kernel_rfl) (by kernel_rfl) (by kernel_rfl) (fun w => (os_nilCheck rfl)) ?_
        refine va_pure 17 rfl (by kernel_rfl) (by kernel_rfl) (by kernel_rfl) (fun w => (os_fa (o := 0) (k := 2) (by kernel_rfl) rfl)) ?_
        refine va_pure 18 rfl (by kernel_rfl) (by kernel_rfl) (by kernel_rfl) (fun w => (os_fa (o := 0) (k := 0) (by kernel_rfl) rfl)) ?_
        refine va_one 19 (by kernel_rfl) ?_
        refine vn_unit rfl (ou_store Try.sizeOf22 rfl rfl rfl (Bk.cell (i := 0) (Bk.grown (Bk.alloc (Bk.led hw'.bk ⟨1, rfl⟩) _) hg6 (fun e => hw'.ne e.symm)) rfl) (Bk.free (Bk.grown (Bk.alloc (Bk.led hw'.bk ⟨1, rfl⟩) _) hg6 (fun e => hw'.ne e.symm)) _)) ?_
        have hne6 : (Value.slice A6 _ c6).ownBlock ≠ some g := fun e => by
          rcases ha6 with h6 | h6
          · rw [h6] at e; exact hw'.ne e
          · rw [h6] at e; simp at e; omega
        refine va_done (by kernel_rfl) ?_
        refine v_region ?_
        refine vl_val (os_addi rfl rfl (by omega)) ?_
        refine vl_val (os_move rfl) ?_
        refine vl_nil ?_
        exact ⟨k + 1, ⟨rfl, rfl, rfl, rfl, trivial⟩, ⟨rfl, trivial⟩, ⟨by omega, _, ⟨Bk.set (Bk.grown (Bk.alloc (Bk.led hw'.bk ⟨1, rfl⟩) _) hg6 (fun e => hw'.ne e.symm)) 0 _, by rw [numBytes_succ n (by omega), ← List.append_assoc]; unfold OwnK; rw [show List.map (Value.int .u8) (bs ++ List.take k (numBytes n s) ++ [n / 256 ^ (s - 1 - k) % 256]) = List.map (Value.int .u8) (bs ++ List.take k (numBytes n s)) ++ [Value.int .u8 (n / 256 ^ (s - 1 - k) % 256)] from List.map_append ..]; exact Own.setOther ho6 (fun g' e e2 => hne6 (by rw [e, e2])) _ _, hw'.low, hne6⟩, hkb.trans (((Kb.led ⟨1, rfl⟩).trans (Kb.of_below ((Below.refl _ _).alloc (Nat.le_refl _) _)) (fun k hk => .inl hk)).trans ((Kb.grown hg6 (S := WrS.blocks g v') (fun k hk => by rw [WrS.blocks, hk]; simp)).trans (Kb.set (by simp [WrS.blocks]) _ _) (fun k hk => .inl hk)) (fun k hk => .inl hk)) (blocks_ok hob), by rcases ha6 with h6 | h6; (rw [h6]; exact hob); exact .inr ⟨_, h6, by simp; omega⟩⟩, by dsimp only; omega⟩
    · obtain rfl : s = k := by omega
      refine v_exit ?_
      exact post_end0 rfl (⟨v', by rw [wrBytes, hf, if_pos ⟨rfl, rfl⟩, wrErr, hf, if_neg (fun h => by cases h.2)]; have e : (numBytes n s).take s = numBytes n s := List.take_of_length_le (by rw [numBytes_len]; exact Nat.le_refl _); rw [e] at hw'; simpa using hw', hkb, hob⟩)
end Go.Proofs.Ytpojijnjdlnokaa

/- slices.Clone of bytes. -/
namespace Go.Proofs.Ytpojijnjdlnokaa
open Go.RowKit
set_option linter.unusedVariables false

section
variable {P : Program} {n : Cx} {fr : Fr} {w w' : World} {ty : TypeId} {x y z : Operand} {v u : Value} {T T2 e : TypeId} {op : Op}
theorem os_eqlsnil {A : Option Addr} {l c : Nat} (hT : P.underlying T = some (.slice e)) (hx : Fr.ev fr x = some (.slice A l c)) (hy : Fr.ev fr y = some (.slice none 0 0)) : OS P n (.binOp .eql T x y T2) ty fr w (.bool A.isNone) w := os_of fun a ha => by
  simp [execOp, ha.ev hx, ha.ev hy, eqGuard, Lib.run_eql_slice_nil w T e A l c 0 0 hT]
end

set_option maxHeartbeats 1000000 in
theorem sl_Clone (A : Option Addr) (n c : Nat) (bs : List Int) (w : World) (ha : Rd w .u8 A bs) (hn : n = bs.length) (hl : n ≤ 140737488351232) : Gives Try.prog 161 #[.slice A n c] w fun v w' => OwnK w' w.heap.size 5 .u8 v bs ∧ Below w.heap.size w w' := by
  refine gives_enter Try.call161 Try.func161 rfl rfl rfl (by kernel_rfl) ?_
  rcases Option.eq_none_or_eq_some A with rfl | ⟨a, rfl⟩
  · refine v_seq ?_
    refine v_region ?_
    refine vl_val (os_assign rfl) ?_
    refine vl_nil ?_
    refine v_seq ?_
    refine v_seq ?_
    refine v_region ?_
    refine vl_val (os_move rfl) ?_
    refine vl_val (os_eqlsnil Try.underlying22 rfl rfl) ?_
    refine vl_nil ?_
    refine v_cond_t rfl ?_
    have e : bs = [] := by
      cases bs with
      | nil => rfl
      | cons x r => obtain ⟨b, o, h, _⟩ := ha (by simp); cases h
    refine v_seq ?_
    refine v_region ?_
    refine vl_val (os_assign rfl) ?_
    refine vl_nil ?_
    refine v_ret ?_
    exact post_ret rfl rfl (⟨by subst e; exact Own.nil _ _ _, Below.refl _ _⟩)
  · refine v_seq ?_
    refine v_region ?_
    refine vl_val (os_assign rfl) ?_
    refine vl_nil ?_
    refine v_seq ?_
    refine v_seq ?_
    refine v_region ?_
    refine vl_val (os_move rfl) ?_
    refine vl_val (os_eqlsnil Try.underlying22 rfl rfl) ?_
    refine vl_nil ?_
    refine v_cond_f rfl ?_
    have s0 := own_alloc w [] 5 (Nat.le_refl w.heap.size) (by simp [maxLen])
    have s0b : Below w.heap.size w (w.alloc (.cells #[] 5)) := (Below.refl _ w).alloc (Nat.le_refl _) _
    refine v_skip ?_
    refine v_seq ?_
    refine v_region ?_
    refine vl_val (os_lit Try.underlying22 Try.sizeOf5 Try.zeroValue5 rfl rfl rfl rfl (by decide)) ?_
    refine vl_val (os_move rfl) ?_
    refine vl_some (ot_append Try.underlying22 ti_u8 rfl rfl rfl s0 (ha.keep s0b).toC (by simp [hn]) (by intro u hu; obtain ⟨z, _, rfl⟩ := List.mem_map.1 hu; rfl) (by simp; omega) (by simp [maxLen]; omega) (by simp)) ?_
    rintro v6 w6 ⟨so, sg⟩
    refine vl_val (os_assign rfl) ?_
    refine vl_nil ?_
    refine v_ret ?_
    exact post_ret rfl rfl (⟨by simpa [OwnK] using so, s0.below s0b sg (Nat.le_refl _) (by simp)⟩)

end Go.Proofs.Ytpojijnjdlnokaa
