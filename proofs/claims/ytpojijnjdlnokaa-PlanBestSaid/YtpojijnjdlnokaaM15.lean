/- Texts joined: KitO NtP NtW KitC PlW. -/
import Derived.Test.YtpojijnjdlnokaaM14
import Derived.Deep.MidRow
/- The law's kit: lists are written over, their spare room too. -/
namespace Go.Proofs.Ytpojijnjdlnokaa
open Go.RowKit
set_option linter.unusedVariables false

theorem Own.stretch {w : World} {B : Nat} {t : TypeId} {g n c m : Nat} {cs : List Value} (h : Own w B t (.slice (some ⟨g, 0, none⟩) n c) cs) (hm : m ≤ c) : ∃ ds, ds.length = m ∧ Own w B t (.slice (some ⟨g, 0, none⟩) m c) ds := by
  rcases h.2 with ⟨h1, _⟩ | ⟨g', cap, cur, h1, hB, hg, hnc, hcm, hs, ht⟩
  · cases h1
  · cases h1
    have hl : (cur.toList.take m).length = m := by rw [List.length_take, Array.length_toList, hs]; omega
    exact ⟨cur.toList.take m, hl, by simp, .inr ⟨g, c, cur, by rw [hl], hB, hg, by omega, hcm, hs, by rw [hl]; simp⟩⟩
end Go.Proofs.Ytpojijnjdlnokaa

/- Reports, plain: what a report is, whether it is right. No program in sight. -/
namespace Go.Proofs.Ytpojijnjdlnokaa
open Go.RowKit
set_option linter.unusedVariables false

structure NoteV where
  st : Int
  sq : Int
  n : Int
  A : Option Addr
  l : Nat
  c : Nat
  cs : List (Int × Int)
def NoteV.cells (d : NoteV) : List Value := [.int .i64 d.st, .int .i64 d.sq, .int .i64 d.n, .slice d.A d.l d.c]
def NoteOk (w : World) (d : NoteV) : Prop := RdP w 2 d.A (d.cs.map rowC) ∧ d.l = d.cs.length ∧ d.l ≤ 9000000000000 ∧ (I64 d.st ∧ I64 d.sq ∧ I64 d.n) ∧ ∀ p ∈ d.cs, I64 p.1 ∧ I64 p.2
theorem NoteOk.keep {w w' : World} {d : NoteV} (h : NoteOk w d) (hb : Below w.heap.size w w') : NoteOk w' d := ⟨h.1.keep hb, h.2⟩
theorem NoteOk.led {w w' : World} {d : NoteV} (h : NoteOk w d) (hb : LeD w w') : NoteOk w' d := ⟨h.1.led hb, h.2⟩

theorem RdP.blk {w w' s A ps} (h : RdP w s A ps) (hb : ∀ a, A = some a → w'.heap[a.block]? = w.heap[a.block]?) : RdP w' s A ps := fun i c hc => by
  obtain ⟨b, o, e, hcell⟩ := h i c hc
  subst e
  refine ⟨b, o, rfl, fun j v hv => ?_⟩
  have := hcell j v hv
  have hb2 := hb _ rfl
  unfold World.cell? at this ⊢
  simp only [] at hb2 this ⊢
  rw [hb2]; exact this
theorem NoteOk.blk {w w' : World} {d : NoteV} (h : NoteOk w d) (hb : ∀ a, d.A = some a → w'.heap[a.block]? = w.heap[a.block]?) : NoteOk w' d := ⟨h.1.blk hb, h.2⟩

def inB (n a b : Int) : Bool := decide (a ≤ n ∧ n ≤ b)
def cntOk (n : Int) : Int → List (Int × Int) → Bool
  | _, [] => true
  | last, c :: r => (inB c.1 (last + 1) n && inB c.2 1 65535) && cntOk n c.1 r
def rightN (d : NoteV) : Bool := cntOk d.n 0 d.cs && inB d.st 0 65535 && inB d.sq 1 2147483647 && inB d.n 1 255
def whyN (st n sq : Int) (d : NoteV) : Int :=
  if rightN d = false then 2 else if d.st ≠ st ∨ d.n ≠ n then 13 else if d.sq ≤ sq then 14 else if d.l = 0 then 5 else 0
theorem why_ok {st n sq : Int} {d : NoteV} : whyN st n sq d = 0 ↔ rightN d = true ∧ d.st = st ∧ d.n = n ∧ sq < d.sq ∧ 0 < d.l := by
  unfold whyN
  cases rightN d
  · simp
  · simp only [Bool.true_eq_false, if_false]
    split
    · constructor
      · intro h; cases h
      · intro h; omega
    · split
      · constructor
        · intro h; cases h
        · intro h; omega
      · split
        · constructor
          · intro h; cases h
          · intro h; omega
        · simp; omega
theorem cnt_step {n : Int} {cs : List (Int × Int)} {i : Nat} {last : Int} (hi : i < cs.length) : cntOk n last (cs.drop i) = ((inB (cs.getD i (0, 0)).1 (last + 1) n && inB (cs.getD i (0, 0)).2 1 65535) && cntOk n (cs.getD i (0, 0)).1 (cs.drop (i + 1))) := by
  have e : cs.getD i (0, 0) = cs[i] := by simp [hi]
  rw [List.drop_eq_getElem_cons hi, cntOk, e]
theorem inB_iff {n a b : Int} : inB n a b = true ↔ a ≤ n ∧ n ≤ b := by simp [inB]
/-- the last count ahead of one -/
def lastC (cs : List (Int × Int)) : Nat → Int
  | 0 => 0
  | i + 1 => (cs.getD i (0, 0)).1
theorem cnt_all {n last : Int} {cs : List (Int × Int)} (h : cntOk n last cs = true) : (∀ c ∈ cs, last < c.1 ∧ c.1 ≤ n ∧ 1 ≤ c.2 ∧ c.2 ≤ 65535) ∧ (last ≤ n → last + (cs.length : Int) ≤ n) := by
  induction cs generalizing last with
  | nil => exact ⟨(fun c hc => by cases hc), (fun h => by simpa using h)⟩
  | cons x r ih =>
    simp only [cntOk, Bool.and_eq_true, inB_iff] at h
    obtain ⟨⟨h1, h2⟩, h3⟩ := h
    obtain ⟨i1, i2⟩ := ih h3
    refine ⟨fun c hc => ?_, fun _ => ?_⟩
    · rcases List.mem_cons.1 hc with rfl | hc
      · omega
      · have := i1 c hc; omega
    · have := i2 h1.2
      simp only [List.length_cons]; omega
/-- no place twice -/
theorem cnt_inc {n last : Int} {cs : List (Int × Int)} (h : cntOk n last cs = true) : cs.Pairwise fun a b => a.1 < b.1 := by
  induction cs generalizing last with
  | nil => exact List.Pairwise.nil
  | cons x r ih =>
    simp only [cntOk, Bool.and_eq_true] at h
    exact List.Pairwise.cons (fun c hc => ((cnt_all h.2).1 c hc).1) (ih h.2)

def timesL (cs : List (Int × Int)) : Int := (cs.map (·.2)).sum
theorem times_bd {n last : Int} {cs : List (Int × Int)} (h : cntOk n last cs = true) : (cs.length : Int) ≤ timesL cs ∧ timesL cs ≤ cs.length * 65535 ∧ ∀ c ∈ cs, c.2 ≤ timesL cs := by
  induction cs generalizing last with
  | nil => simp [timesL]
  | cons x r ih =>
    have hx := (cnt_all h).1 x (by simp)
    simp only [cntOk, Bool.and_eq_true] at h
    obtain ⟨i1, i2, i3⟩ := ih h.2
    simp only [timesL, List.map_cons, List.sum_cons, List.length_cons] at i1 i2 i3 ⊢
    refine ⟨by omega, by omega, fun c hc => ?_⟩
    rcases List.mem_cons.1 hc with rfl | hc
    · omega
    · have := i3 c hc; omega
theorem times_take {n last : Int} {cs : List (Int × Int)} (h : cntOk n last cs = true) (i : Nat) : 0 ≤ timesL (cs.take i) ∧ timesL (cs.take i) ≤ cs.length * 65535 := by
  induction cs generalizing last i with
  | nil => simp [timesL]
  | cons x r ih =>
    have hx := (cnt_all h).1 x (by simp)
    simp only [cntOk, Bool.and_eq_true] at h
    cases i with
    | zero => simp [timesL]; omega
    | succ i =>
      have := ih h.2 i
      simp only [timesL, List.take_succ_cons, List.map_cons, List.sum_cons, List.length_cons] at this ⊢
      omega
theorem times_succ {cs : List (Int × Int)} {i : Nat} (hi : i < cs.length) : timesL (cs.take (i + 1)) = timesL (cs.take i) + (cs.getD i (0, 0)).2 := by
  have e : cs.getD i (0, 0) = cs[i] := by simp [hi]
  unfold timesL
  rw [List.take_succ_eq_append_getElem hi, List.map_append, List.sum_append, e]
  simp
structure RightD (d : NoteV) : Prop where
  st : 0 ≤ d.st ∧ d.st ≤ 65535
  sq : 1 ≤ d.sq ∧ d.sq ≤ 2147483647
  n : 1 ≤ d.n ∧ d.n ≤ 255
  cnt : cntOk d.n 0 d.cs = true
theorem right_iff {d : NoteV} : rightN d = true ↔ RightD d := by
  simp only [rightN, Bool.and_eq_true, inB_iff]
  exact ⟨fun h => ⟨h.1.1.2, h.1.2, h.2, h.1.1.1⟩, fun h => ⟨⟨⟨h.cnt, h.st⟩, h.sq⟩, h.n⟩⟩
end Go.Proofs.Ytpojijnjdlnokaa

/- Whole rows that are written; all else stays. No program in sight. -/
namespace Go.Proofs.Ytpojijnjdlnokaa
open Go.RowKit
set_option linter.unusedVariables false

theorem Bk.rowOther {w : World} {g g' : Nat} {cs : List Value} {t : TypeId} (h : Bk w g' cs t) (hne : g ≠ g') (ds : Array Value) : Bk (w.setRow g ds) g' cs t := by
  unfold Bk at *
  simp [World.setRow, Array.getElem?_modify, hne, h]
theorem Kb.setRow {S : List Nat} {w : World} {g : Nat} (hg : g ∈ S) (cs : Array Value) : Kb S w (w.setRow g cs) :=
  ⟨rfl, rfl, rfl, by simp [World.setRow], fun k hk hn => by
    have : g ≠ k := fun e => hn (e ▸ hg)
    simp [World.setRow, Array.getElem?_modify, this]⟩
section
variable {P : Program} {n : Cx} {fr : Fr} {w : World} {ty : TypeId} {T e : TypeId}
theorem ot_litS {l s : Nat} {ps : List (Nat × Operand)} {css : List (List Value)} {z0 : Value} (hT : P.underlying T = some (.slice e)) (hs : ∀ w, (sizeOf e).run P w = .ok s w) (hz : ∀ w, (zeroValue e).run P w = .ok z0 w) (hx : evP fr ps 0 = some (aggs css)) (hl : l = css.length) (h1 : ∀ cs ∈ css, cs.length = s) (h0 : 0 < l) (hs0 : 0 < s) (h2 : l * s ≤ 16777216) :
    OT P n (.buildSlice T l ps.toArray) ty fr w fun v w' => v = .slice (some ⟨w.heap.size, 0, none⟩) l l ∧ RdP w' s (some ⟨w.heap.size, 0, none⟩) css ∧ w'.heap.size = w.heap.size + 1 ∧ LeG w w' :=
  (os_litS hT hs hz hx hl h1 h0 hs0 h2).ot ⟨rfl, rdp_alloc _ _ _ h1, by simp, (Below.refl _ _).alloc (Nat.le_refl _) _⟩
end
end Go.Proofs.Ytpojijnjdlnokaa

/- The law's kit: reports that are lent; whether they are still as they were; lists of counts, written over, their spare room too. -/
namespace Go.Proofs.Ytpojijnjdlnokaa
open Go.RowKit
set_option linter.unusedVariables false

section
variable {P : Program} {n : Cx} {fr : Fr} {w : World} {ty : TypeId} {x y : Operand} {T : TypeId}
/-- a struct of two cells is written in a block's midst -/
theorem ou_store2 {g o : Nat} {a b : Value} {cs : List Value} {t : TypeId} (hs : (P.info? T).map (·.size) = some 2) (hx : Fr.ev fr x = some (.pointer (some ⟨g, o, none⟩))) (hy : Fr.ev fr y = some (.agg #[a, b])) (hg : Bk w g cs t) (hl : o + 2 ≤ cs.length) (h1 : a.oneCell' = true) (h2 : b.oneCell' = true) :
    OU P n (.store T x y) ty fr w ((w.setCell ⟨g, o, none⟩ a).setCell ⟨g, o + 1, none⟩ b) := by
  have ht : w.there g o (#[a, b] : Array Value).size := fun j hj => ⟨by
    have hj : o + j < cs.length := by simp at hj; omega
    have := cell_of_row w g (o + j) cs.toArray t (0, 0) hg
    rw [this]; simp [hj], by have := hg.free (o + j); simpa using this⟩
  have h3 := run_storeAt_mid (P := P) w g o T #[a, b] ht hs (by simp [h1, h2])
  unfold OU
  intro a' ha
  simp [execOp, ha.ev hx, ha.ev hy, h3, World.setCells]
/-- two structs of two integers each, held apart -/
theorem os_neqS2 {T2 : TypeId} {tI : TypeId} {x1 x2 y1 y2 : Int} (hg : P.eqGuardType P.depth T = false) (hu : P.underlying T = some (.struct (P.fieldsOf T))) (hp : P.stoodInHeld T = false)
    (hf : (P.fieldsOf T).toList.map (fun f => (f.name == "_", f.type, f.offset)) = [(false, tI, 0), (false, tI, 1)]) (hI : P.underlying tI = some (.int .i64)) (hA : ∀ w, (isAgg tI).run P w = .ok false w)
    (hx : Fr.ev fr x = some (.agg #[.int .i64 x1, .int .i64 x2])) (hy : Fr.ev fr y = some (.agg #[.int .i64 y1, .int .i64 y2])) :
    OS P n (.binOp .neq T x y T2) ty fr w (.bool (decide (¬ (x1 = y1 ∧ x2 = y2)))) w := os_of fun a ha => by
  have h1 := run_eqGuard_agg (P := P) w .neq T x y #[.int .i64 x1, .int .i64 x2] #[.int .i64 y1, .int .i64 y2] hg
  have h2 : (Op.equalIn 10000 T (.agg #[.int .i64 x1, .int .i64 x2]) (.agg #[.int .i64 y1, .int .i64 y2])).run P w = .ok (decide (x1 = y1 ∧ x2 = y2)) w := by
    exact run_eqS2 9998 hu hp hf hI hA
  have h3 := run_neq_struct (P := P) w T #[.int .i64 x1, .int .i64 x2] #[.int .i64 y1, .int .i64 y2]
  rw [h2] at h3
  simp [execOp, ha.ev hx, ha.ev hy, h1, h3, Result.andThen, -not_and]
end

theorem kit_SameCounts (A B : Option Addr) (n m c d : Nat) (xs ys : List (Int × Int)) (w : World) (ha : RdP w 2 A (xs.map rowC)) (hb : RdP w 2 B (ys.map rowC)) (hn : n = xs.length) (hm : m = ys.length) (he : xs = ys) (hn' : n ≤ 9223372036854775807) :
    Gives Try.prog 170 #[.slice A n c, .slice B m d] w fun v w' => v = .bool true ∧ LeD w w' := by
  subst he
  refine gives_enter Try.call170 Try.func170 rfl rfl rfl (by kernel_rfl) ?_
  refine v_seq ?_
  refine v_region ?_
  refine vl_val (os_assign rfl) ?_
  refine vl_nil ?_
  refine v_seq ?_
  refine v_seq ?_
  refine v_region ?_
  refine vl_val (os_move rfl) ?_
  refine vl_val (os_len Try.underlying199 rfl) ?_
  refine vl_val (os_move rfl) ?_
  refine vl_val (os_len Try.underlying199 rfl) ?_
  refine vl_val (os_neq rfl rfl) ?_
  refine vl_nil ?_
  refine v_cond_no rfl (by omega) ?_
  refine v_skip ?_
  refine v_seq ?_
  refine v_seq ?_
  refine v_region ?_
  refine vl_val (os_assign rfl) ?_
  refine vl_nil ?_
  refine v_block ?_
  refine v_loop [(0, _), (1, _)] (fun (k : Nat) => [(5, .int .i64 k)]) (fun k w' => k ≤ n ∧ LeD w w') (fun k => n - k) (0) ⟨rfl, rfl, trivial⟩ ⟨rfl, trivial⟩ (⟨by omega, lee_d.refl _⟩) ?_
  rintro k w' ⟨hk, q, rfl⟩
  refine v_seq ?_
  refine v_seq ?_
  refine v_region ?_
  refine vl_val (os_move rfl) ?_
  refine vl_val (os_move rfl) ?_
  refine vl_val (os_len Try.underlying199 rfl) ?_
  refine vl_val (os_lss rfl rfl) ?_
  refine vl_nil ?_
  refine v_cond_d rfl (fun hlt => ?_) (fun hlt => ?_)
  · obtain ⟨b1, o1, rfl, -, -, c1⟩ := (ha.led ⟨q, rfl⟩).at2 (i := k) (by omega)
    obtain ⟨b2, o2, rfl, -, -, c2⟩ := (hb.led ⟨q, rfl⟩).at2 (i := k) (by omega)
    refine v_skip ?_
    refine v_seq ?_
    refine v_block ?_
    refine v_seq ?_
    refine v_region_t LeD _ mixed (by kernel_rfl) lee_d (led_start _) ?_
    refine vt_val (fun w hw => os_move rfl) ?_
    refine vt_val (fun w hw => os_move rfl) ?_
    refine vt_val (fun w hw => os_ixs Try.underlying199 Try.sizeOf201 rfl rfl (i := k) (by omega) (by omega)) ?_
    refine vt_val (fun w hw => os_loadP Try.underlying201 rfl (by kernel_rfl) rfl (c1.led hw)) ?_
    refine vt_val (fun w hw => os_move rfl) ?_
    refine vt_val (fun w hw => os_move rfl) ?_
    refine vt_val (fun w hw => os_ixs Try.underlying199 Try.sizeOf201 rfl rfl (i := k) (by omega) (by omega)) ?_
    refine vt_val (fun w hw => os_loadP Try.underlying201 rfl (by kernel_rfl) rfl (c2.led hw)) ?_
    refine vt_val (fun w hw => os_f (os_neqS2 Try.eqGuardType201 (by kernel_rfl) Try.stoodInHeld201 (by kernel_rfl) Try.underlying3 Try.isAgg3 rfl rfl) (by simp)) ?_
    refine vt_nil (fun w hw => ?_)
    obtain ⟨q2, rfl⟩ := hw
    refine v_cond_f rfl ?_
    refine v_skip ?_
    refine v_region ?_
    refine vl_val (os_move rfl) ?_
    refine vl_val (os_addi rfl rfl (by omega)) ?_
    refine vl_val (os_assign rfl) ?_
    refine vl_nil ?_
    exact ⟨k + 1, ⟨rfl, rfl, trivial⟩, ⟨rfl, trivial⟩, ⟨by omega, _, World.drewN_drewN ..⟩, by dsimp only; omega⟩
  · refine v_exit ?_
    refine v_seq ?_
    refine v_region ?_
    refine vl_val (os_assign rfl) ?_
    refine vl_nil ?_
    refine v_ret ?_
    exact post_ret rfl rfl (⟨rfl, _, rfl⟩)
theorem kit_SameTable (A B : Option Addr) (n m c d : Nat) (xs ys : List (Int × Int)) (w : World) (ha : RdP w 2 A (xs.map rowC)) (hb : RdP w 2 B (ys.map rowC)) (hn : n = xs.length) (hm : m = ys.length) (he : xs = ys) (hn' : n ≤ 9223372036854775807) :
    Gives Try.prog 142 #[.slice A n c, .slice B m d] w fun v w' => v = .bool true ∧ LeD w w' := by
  subst he
  refine gives_enter Try.call142 Try.func142 rfl rfl rfl (by kernel_rfl) ?_
  refine v_seq ?_
  refine v_region ?_
  refine vl_val (os_assign rfl) ?_
  refine vl_nil ?_
  refine v_seq ?_
  refine v_seq ?_
  refine v_region ?_
  refine vl_val (os_move rfl) ?_
  refine vl_val (os_len Try.underlying63 rfl) ?_
  refine vl_val (os_move rfl) ?_
  refine vl_val (os_len Try.underlying63 rfl) ?_
  refine vl_val (os_neq rfl rfl) ?_
  refine vl_nil ?_
  refine v_cond_no rfl (by omega) ?_
  refine v_skip ?_
  refine v_seq ?_
  refine v_seq ?_
  refine v_region ?_
  refine vl_val (os_assign rfl) ?_
  refine vl_nil ?_
  refine v_block ?_
  refine v_loop [(0, _), (1, _)] (fun (k : Nat) => [(5, .int .i64 k)]) (fun k w' => k ≤ n ∧ LeD w w') (fun k => n - k) (0) ⟨rfl, rfl, trivial⟩ ⟨rfl, trivial⟩ (⟨by omega, lee_d.refl _⟩) ?_
  rintro k w' ⟨hk, q, rfl⟩
  refine v_seq ?_
  refine v_seq ?_
  refine v_region ?_
  refine vl_val (os_move rfl) ?_
  refine vl_val (os_move rfl) ?_
  refine vl_val (os_len Try.underlying63 rfl) ?_
  refine vl_val (os_lss rfl rfl) ?_
  refine vl_nil ?_
  refine v_cond_d rfl (fun hlt => ?_) (fun hlt => ?_)
  · obtain ⟨b1, o1, rfl, -, -, c1⟩ := (ha.led ⟨q, rfl⟩).at2 (i := k) (by omega)
    obtain ⟨b2, o2, rfl, -, -, c2⟩ := (hb.led ⟨q, rfl⟩).at2 (i := k) (by omega)
    refine v_skip ?_
    refine v_seq ?_
    refine v_block ?_
    refine v_seq ?_
    refine v_region_t LeD _ mixed (by kernel_rfl) lee_d (led_start _) ?_
    refine vt_val (fun w hw => os_move rfl) ?_
    refine vt_val (fun w hw => os_move rfl) ?_
    refine vt_val (fun w hw => os_ixs Try.underlying63 Try.sizeOf62 rfl rfl (i := k) (by omega) (by omega)) ?_
    refine vt_val (fun w hw => os_loadP Try.underlying62 rfl (by kernel_rfl) rfl (c1.led hw)) ?_
    refine vt_val (fun w hw => os_move rfl) ?_
    refine vt_val (fun w hw => os_move rfl) ?_
    refine vt_val (fun w hw => os_ixs Try.underlying63 Try.sizeOf62 rfl rfl (i := k) (by omega) (by omega)) ?_
    refine vt_val (fun w hw => os_loadP Try.underlying62 rfl (by kernel_rfl) rfl (c2.led hw)) ?_
    refine vt_val (fun w hw => os_f (os_neqS2 Try.eqGuardType62 (by kernel_rfl) Try.stoodInHeld62 (by kernel_rfl) Try.underlying3 Try.isAgg3 rfl rfl) (by simp)) ?_
    refine vt_nil (fun w hw => ?_)
    obtain ⟨q2, rfl⟩ := hw
    refine v_cond_f rfl ?_
    refine v_skip ?_
    refine v_region ?_
    refine vl_val (os_move rfl) ?_
    refine vl_val (os_addi rfl rfl (by omega)) ?_
    refine vl_val (os_assign rfl) ?_
    refine vl_nil ?_
    exact ⟨k + 1, ⟨rfl, rfl, trivial⟩, ⟨rfl, trivial⟩, ⟨by omega, _, World.drewN_drewN ..⟩, by dsimp only; omega⟩
  · refine v_exit ?_
    refine v_seq ?_
    refine v_region ?_
    refine vl_val (os_assign rfl) ?_
    refine vl_nil ?_
    refine v_ret ?_
    exact post_ret rfl rfl (⟨rfl, _, rfl⟩)
theorem LentW.mono {w B B' t v ps} (h : LentW w B t v ps) (hb : B' ≤ B) : LentW w B' t v ps := by
  obtain ⟨g, C, e, hc, ho⟩ := h
  exact ⟨g, C, e, hc, OwnP.mono ho hb⟩
theorem LentW.kb {w w' B t v ps S} (h : LentW w B t v ps) (hb : Kb S w w') (hS : ∀ g, v.ownBlock = some g → g ∉ S) : LentW w' B t v ps := by
  obtain ⟨g, C, rfl, hc, ho⟩ := h
  exact ⟨g, C, rfl, hc, ho.blk fun k hk => hb.block k (ho.lt k hk).2 (hS k hk)⟩
set_option maxHeartbeats 1000000 in
theorem kit_SameNote (d e : NoteV) (w : World) (hd : NoteOk w d) (he : NoteOk w e) (h1 : d.st = e.st) (h2 : d.sq = e.sq) (h3 : d.n = e.n) (h4 : d.cs = e.cs) : Gives Try.prog 157 #[.agg d.cells.toArray, .agg e.cells.toArray] w fun v w' => v = .bool true ∧ Below w.heap.size w w' := by
  have hA0 := bk_new w d.cells 205
  have hb0 : Below w.heap.size w (w.alloc (.cells d.cells.toArray 205)) := (Below.refl _ w).alloc (Nat.le_refl _) _
  have hA := hA0.alloc (.cells e.cells.toArray 205)
  have hB := bk_new (w.alloc (.cells d.cells.toArray 205)) e.cells 205
  have hb1 := hb0.alloc hb0.size (.cells e.cells.toArray 205)
  have hd1 := hd.keep hb1
  have he1 := he.keep hb1
  have l1 := hd.2.1
  have l2 := he.2.1
  have l3 := hd.2.2.1
  refine gives_enter Try.call157 Try.func157 rfl rfl rfl (by kernel_rfl) ?_
  refine v_seq ?_
  refine v_region ?_
  refine vl_val (os_box rfl) ?_
  refine vl_val (os_box rfl) ?_
  refine vl_val (os_assign rfl) ?_
  refine vl_nil ?_
  refine v_seq ?_
  refine v_region ?_
  refine vl_val (os_fa (o := 0) (k := 0) (by kernel_rfl) rfl) ?_
  refine vl_val (os_load Try.isAgg3 rfl (hA.cell (i := 0) rfl)) ?_
  refine vl_val (os_fa (o := 0) (k := 0) (by kernel_rfl) rfl) ?_
  refine vl_val (os_load Try.isAgg3 rfl (hB.cell (i := 0) rfl)) ?_
  refine vl_val (os_t (os_eql rfl rfl) (h1)) ?_
  refine vl_val (os_move rfl) ?_
  refine vl_valg rfl (os_fa (o := 1) (k := 0) (by kernel_rfl) rfl) ?_
  refine vl_valg rfl (os_load Try.isAgg3 rfl (hA.cell (i := 1) rfl)) ?_
  refine vl_valg rfl (os_fa (o := 1) (k := 0) (by kernel_rfl) rfl) ?_
  refine vl_valg rfl (os_load Try.isAgg3 rfl (hB.cell (i := 1) rfl)) ?_
  refine vl_valg rfl (os_t (os_eql rfl rfl) (h2)) ?_
  refine vl_val (os_pick_t rfl rfl) ?_
  refine vl_val (os_move rfl) ?_
  refine vl_valg rfl (os_fa (o := 2) (k := 0) (by kernel_rfl) rfl) ?_
  refine vl_valg rfl (os_load Try.isAgg3 rfl (hA.cell (i := 2) rfl)) ?_
  refine vl_valg rfl (os_fa (o := 2) (k := 0) (by kernel_rfl) rfl) ?_
  refine vl_valg rfl (os_load Try.isAgg3 rfl (hB.cell (i := 2) rfl)) ?_
  refine vl_valg rfl (os_t (os_eql rfl rfl) (h3)) ?_
  refine vl_val (os_pick_t rfl rfl) ?_
  refine vl_val (os_move rfl) ?_
  refine vl_valg rfl (os_fa (o := 3) (k := 0) (by kernel_rfl) rfl) ?_
  refine vl_valg rfl (os_load Try.isAgg199 rfl (hA.cell (i := 3) rfl)) ?_
  refine vl_valg rfl (os_fa (o := 3) (k := 0) (by kernel_rfl) rfl) ?_
  refine vl_valg rfl (os_load Try.isAgg199 rfl (hB.cell (i := 3) rfl)) ?_
  refine vl_callg rfl (kit_SameCounts d.A e.A d.l e.l d.c e.c d.cs e.cs _ hd1.1 he1.1 l1 l2 h4 (by omega)) rfl ?_
  rintro v1 w1 ⟨rfl, b1⟩
  refine vl_val (os_pick_t rfl rfl) ?_
  refine vl_val (os_assign rfl) ?_
  refine vl_nil ?_
  refine v_ret ?_
  exact post_ret rfl rfl (⟨rfl, hb1.trans ((led_below b1).mono hb1.size)⟩)
/-- a report that the kit has lent -/
def lentN (d : NoteV) (g C : Nat) : NoteV := ⟨d.st, d.sq, d.n, some ⟨g, 0, none⟩, d.cs.length, C, d.cs⟩
end Go.Proofs.Ytpojijnjdlnokaa

/- Layer 13: the walk of the solver's layer. -/
namespace Go.Proofs.Ytpojijnjdlnokaa
open Go.RowKit
set_option linter.unusedVariables false

/-- what stands where in a layer's walk -/
def FQ (q : TaskP) (n m a : Nat) (x : Nat) : Nat → Int := valP (lyQ q a) (scP n (lysF q m (a + 1))) x
theorem Tb.row_at {w : World} {B N : Nat} {tt e : TypeId} {v : Value} {us : List Value} {cc : Nat → List Value} (h : Tb w B tt e v us N cc) {k : Nat} (hk : k < N) (h0 : 0 < (cc k).length) : ∃ g c, us[k]? = some (.slice (some ⟨g, 0, none⟩) (cc k).length c) ∧ v.ownBlock ≠ some g := by
  have hk' : k < us.length := by have := h.len; omega
  obtain ⟨g, c, e1, -⟩ := Own.row (h.each k us[k] hk (List.getElem?_eq_getElem hk')) h0
  refine ⟨g, c, by rw [List.getElem?_eq_getElem hk', e1], h.ne k us[k] g hk (List.getElem?_eq_getElem hk') (by rw [e1]; rfl)⟩
theorem Own.rdc' {w : World} {B : Nat} {t : TypeId} {A : Option Addr} {n c : Nat} {cs : List Value} (h : Own w B t (.slice A n c) cs) : RdC w A cs := by
  obtain ⟨A', c', e, _, _, hr, _⟩ := Own.form h
  cases e; exact hr
structure LayR (w w' : World) (d : TaskV) (q : TaskP) (n r g tg a m B : Nat) (ts : List Value) (S2 : Nat) (us2 : List Value) (c2 : Nat → List Value) (T2 : Nat) (ub : List Value) (cb : Nat → List Value) : Prop where
  bk : Bk w' g (solC d r (.slice (some ⟨S2, 0, none⟩) (n + 2) (n + 2)) (.slice (some ⟨tg, 0, none⟩) d.ll d.ll)) 142
  tS : Tb w' w.heap.size 40 3 (.slice (some ⟨S2, 0, none⟩) (n + 2) (n + 2)) us2 (n + 2) c2
  cS : ∀ k, 1 ≤ k → k ≤ n → c2 k = rowV (fun x => .int .i64 (scP n (lysF q (m + 1) a) k x)) r
  own : Own w' B 144 (.slice (some ⟨tg, 0, none⟩) d.ll d.ll) (ts.set a (.slice (some ⟨T2, 0, none⟩) (n + 2) (n + 2)))
  tT : Tb w' w.heap.size 146 4 (.slice (some ⟨T2, 0, none⟩) (n + 2) (n + 2)) ub (n + 2) cb
  cT : ∀ k, 1 ≤ k → k ≤ n → cb k = rowV (fun x => .bool (takP (FQ q n m a x) n k)) r
  kb : Kb [g, tg] w w'

set_option maxHeartbeats 8000000 in
theorem pn_layer (d : TaskV) (q : TaskP) (n r g sg tg a m B : Nat) (us ts : List Value) (cc : Nat → List Value) (w : World) (hd : TaskOk w d q) (hR : TaskR q n) (hL : q.lens.length = a + 1 + m) (hr : r ≤ 2000)
    (hb : Bk w g (solC d r (.slice (some ⟨sg, 0, none⟩) (n + 2) (n + 2)) (.slice (some ⟨tg, 0, none⟩) d.ll d.ll)) 142) (hT : Tb w B 40 3 (.slice (some ⟨sg, 0, none⟩) (n + 2) (n + 2)) us (n + 2) cc)
    (hcc : ∀ k, 1 ≤ k → k ≤ n → cc k = rowV (fun x => .int .i64 (scP n (lysF q m (a + 1)) k x)) r) (hto : Own w B 144 (.slice (some ⟨tg, 0, none⟩) d.ll d.ll) ts) (hne : tg ≠ g) (hBg : B ≤ g) :
    Gives Try.prog 62 #[.pointer (some ⟨g, 0, none⟩), .int .i64 a] w fun _ w' => ∃ S2 us2 c2 T2 ub cb, LayR w w' d q n r g tg a m B ts S2 us2 c2 T2 ub cb := by
  have hdn : d.n = (n : Int) := hd.n.trans hR.n_
  have hn1 := hR.n1
  have hn2 := hR.n2
  have hl8 := hR.l2
  have hll := hd.ll
  have cn : nthV (solC d r (.slice (some ⟨sg, 0, none⟩) (n + 2) (n + 2)) (.slice (some ⟨tg, 0, none⟩) d.ll d.ll)) 0 = some (.int .i64 (n : Int)) := by show some (Value.int .i64 d.n) = _; rw [hdn]
  have hwl := hd.wl
  have hvl := hd.vl
  have hlw := hR.lw
  have hlv := hR.lv
  have hlen := hR.len a (by omega)
  have hlt := hb.lt
  refine gives_enter Try.call62 Try.func62 rfl rfl rfl (by kernel_rfl) ?_
  refine v_seq ?_
  refine v_region ?_
  refine vl_val (os_move rfl) ?_
  refine vl_val (os_nilCheck rfl) ?_
  refine vl_val (os_fa (o := 0) (k := 5) (by kernel_rfl) rfl) ?_
  refine vl_val (os_fa (o := 0) (k := 2) (by kernel_rfl) rfl) ?_
  refine vl_val (os_fa (o := 0) (k := 0) (by kernel_rfl) rfl) ?_
  refine vl_val (os_load Try.isAgg3 rfl (hb.cell (i := 0) cn)) ?_
  refine vl_val (os_assign rfl) ?_
  refine vl_nil ?_
  refine v_mid2 [(0, _), (1, _), (4, _)] (fun (S2 : Nat) (T2 : Nat) => [(5, .slice (some ⟨S2, 0, none⟩) (n + 2) (n + 2)), (6, .slice (some ⟨T2, 0, none⟩) (n + 2) (n + 2))]) (fun S2 T2 w' => ∃ us2 ub, Two w w' n S2 T2 us2 ub (fun _ => List.replicate (r + 1) (.int .i64 (-1))) (fun _ => List.replicate (r + 1) (.bool false))) ⟨rfl, rfl, rfl, trivial⟩ ?_ ?_
  · refine v_region_h (LeG w) mixed (leg_start _) ?_
    refine vh_pure 0 rfl (by kernel_rfl) (by kernel_rfl) (by kernel_rfl) (fun w hw => (os_move rfl)) ?_
    refine vh_pure 1 rfl (by kernel_rfl) (by kernel_rfl) (by kernel_rfl) (fun w hw => (os_addi rfl rfl (by omega))) ?_
    refine vh_pure 2 rfl (by kernel_rfl) (by kernel_rfl) (by kernel_rfl) (fun w hw => (os_move rfl)) ?_
    refine vh_pure 3 rfl (by kernel_rfl) (by kernel_rfl) (by kernel_rfl) (fun w hw => (os_nilCheck rfl)) ?_
    refine vh_pure 4 rfl (by kernel_rfl) (by kernel_rfl) (by kernel_rfl) (fun w hw => (os_fa (o := 6) (k := 0) (by kernel_rfl) rfl)) ?_
    refine vh_pure 5 rfl (by kernel_rfl) (by kernel_rfl) (by kernel_rfl) (fun w hw => (os_load Try.isAgg3 rfl (leg_cell hw (hb.cell (i := 6) rfl)))) ?_
    refine vh_pure 6 rfl (by kernel_rfl) (by kernel_rfl) (by kernel_rfl) (fun w hw => (os_addi rfl rfl (by omega))) ?_
    refine vh_pure 8 rfl (by kernel_rfl) (by kernel_rfl) (by kernel_rfl) (fun w hw => (os_move rfl)) ?_
    refine vh_pure 9 rfl (by kernel_rfl) (by kernel_rfl) (by kernel_rfl) (fun w hw => (os_addi rfl rfl (by omega))) ?_
    refine vh_pure 10 rfl (by kernel_rfl) (by kernel_rfl) (by kernel_rfl) (fun w hw => (os_move rfl)) ?_
    refine vh_pure 11 rfl (by kernel_rfl) (by kernel_rfl) (by kernel_rfl) (fun w hw => (os_nilCheck rfl)) ?_
    refine vh_pure 12 rfl (by kernel_rfl) (by kernel_rfl) (by kernel_rfl) (fun w hw => (os_fa (o := 6) (k := 0) (by kernel_rfl) rfl)) ?_
    refine vh_pure 13 rfl (by kernel_rfl) (by kernel_rfl) (by kernel_rfl) (fun w hw => (os_load Try.isAgg3 rfl (leg_cell hw (hb.cell (i := 6) rfl)))) ?_
    refine vh_pure 14 rfl (by kernel_rfl) (by kernel_rfl) (by kernel_rfl) (fun w hw => (os_addi rfl rfl (by omega))) ?_
    refine vh_one 7 (by kernel_rfl) ?_
    refine vhn_call rfl (pl_madesint (n + 2) (r + 1) (.int .i64 (-1)) _ (by omega) (by omega) rfl (by omega) (by omega)) rfl (fun hw v w' h => by obtain ⟨_, _, _, _, _, hb⟩ := h; exact hw.trans (hb.mono hw.size)) ?_
    rintro v5 w5 ⟨S2, us2, rfl, -, hT2, b5⟩
    refine vh_one 15 (by kernel_rfl) ?_
    refine vhn_call rfl (pl_madesbool (n + 2) (r + 1) (.bool false) _ (by omega) (by omega) rfl (by omega) (by omega)) rfl (fun hw v w' h => by obtain ⟨_, _, _, _, _, hb⟩ := h; exact hw.trans (hb.mono hw.size)) ?_
    rintro v6 w6 ⟨T2, ub, rfl, -, hU2, b6⟩
    refine vh_pure 16 rfl (by kernel_rfl) (by kernel_rfl) (by kernel_rfl) (fun w hw => (os_assign rfl)) ?_
    refine vh_pure 17 rfl (by kernel_rfl) (by kernel_rfl) (by kernel_rfl) (fun w hw => (os_assign rfl)) ?_
    refine vh_done (by kernel_rfl) (fun hS => ?_)
    exact ⟨⟨S2, T2⟩, ⟨rfl, rfl, rfl, trivial⟩, ⟨rfl, rfl, trivial⟩, ⟨us2, ub, by first | exact two_fin (Below.refl _ w).drew hT2 b5 hU2 b6 | exact two_fin2 (Below.refl _ w).drew hT2 b5 hU2 b6⟩⟩
  · rintro S2 T2 w1 ⟨us2, ub, hW⟩
    refine v_seq ?_
    refine v_seq ?_
    refine v_region ?_
    refine vl_val (os_move rfl) ?_
    refine vl_val (os_assign rfl) ?_
    refine vl_nil ?_
    refine v_block ?_
    refine v_loop [(0, _), (1, _), (5, _), (6, _)] (fun (k : Nat) => [(7, .int .i64 k)]) (fun k w' => k ≤ n ∧ ∃ cc cb, Two w w' n S2 T2 us2 ub cc cb ∧ (∀ j, k < j → j ≤ n + 1 → cc j = rowV (fun x => .int .i64 (mxP (FQ q n m a x) n (n + 1 - j))) r) ∧ (∀ j, j ≤ k → (cc j).length = r + 1) ∧ (∀ j, k < j → j ≤ n → cb j = rowV (fun x => .bool (takP (FQ q n m a x) n j)) r) ∧ (∀ j, j ≤ k → cb j = rowV (fun _ => .bool false) r)) (fun k => k) (n) ⟨rfl, rfl, rfl, rfl, trivial⟩ ⟨rfl, trivial⟩ (⟨by omega, _, _, hW, fun j h1 h2 => by obtain rfl : j = n + 1 := (by omega); rw [rowV_rep, Nat.sub_self]; rfl, fun j _ => by simp, fun j h1 h2 => absurd h1 (by omega), fun j _ => rowV_rep⟩) ?_
    rintro k w2 ⟨hk, cc2, cb2, hW2, hA, hB, hC, hD⟩
    refine v_seq ?_
    refine v_seq ?_
    refine v_region ?_
    refine vl_val (os_move rfl) ?_
    refine vl_val (os_geq rfl rfl) ?_
    refine vl_nil ?_
    refine v_cond_d rfl (fun h => ?_) (fun h => ?_)
    · have hb2 := hb.keep hW2.bel
      have hd2 := hd.keep hW2.bel
      obtain ⟨bL, oL, eL, cL⟩ := hd2.L.at_ (i := a) (by omega)
      obtain ⟨bW, oW, eW, cW⟩ := hd2.W.at_ (i := a) (by omega)
      obtain ⟨bV, oV, eV, cV⟩ := hd2.V.at_ (i := k) (by omega)
      have hok : widthOk (q.lens.getD a 0) k = true := by simp only [widthOk, decide_eq_true_eq]; omega
      have hwb := width_bd hok
      obtain ⟨wd, hwd⟩ : ∃ wd : Nat, wd = (lyQ q a).wd k := ⟨_, rfl⟩
      have hwd' : (wd : Int) = widthW (q.lens.getD a 0) k := by rw [hwd]; show ((widthW (q.lens.getD a 0) k).toNat : Int) = _; omega
      have hwv : widthV (q.lens.getD a 0) k = (wd : Int) := by unfold widthV; rw [if_pos hok]; exact hwd'.symm
      have ho := lyQ_o hR (i := a) (k := k) (by omega) hk
      have hoe : (lyQ q a).o k = q.worths.getD a 0 * q.ws.getD k 0 := rfl
      refine v_skip ?_
      refine v_seq ?_
      refine v_block ?_
      refine v_seq ?_
      refine v_region ?_
      refine vl_val (os_move rfl) ?_
      refine vl_val (os_nilCheck rfl) ?_
      refine vl_val (os_fa (o := 0) (k := 5) (by kernel_rfl) rfl) ?_
      refine vl_val (os_fa (o := 3) (k := 0) (by kernel_rfl) rfl) ?_
      refine vl_val (os_load Try.isAgg40 rfl ((hb2.cell (i := 3) (v := .slice (some ⟨bL, oL, none⟩) d.ll d.lc) (by rw [← eL]; rfl)))) ?_
      refine vl_val (os_move rfl) ?_
      refine vl_val (os_ix Try.underlying40 Try.sizeOf3 rfl rfl (i := a) (by omega) (by omega)) ?_
      refine vl_val (os_load Try.isAgg3 rfl (cL)) ?_
      refine vl_val (os_move rfl) ?_
      refine vl_call (strip_Width (q.lens.getD a 0) k w2 ⟨by omega, by omega⟩ ⟨by omega, by omega⟩) rfl ?_
      rintro v3 w2 ⟨rfl, rfl⟩
      rw [hwv]
      refine vl_val (os_move rfl) ?_
      refine vl_val (os_extract rfl rfl) ?_
      refine vl_val (os_extract rfl rfl) ?_
      refine vl_val (os_assign rfl) ?_
      refine vl_val (os_assign rfl) ?_
      refine vl_nil ?_
      refine v_seq ?_
      refine v_region_t LeD _ mixed (by kernel_rfl) lee_d (led_start _) ?_
      refine vt_val (fun w hw => os_move rfl) ?_
      refine vt_val (fun w hw => os_nilCheck rfl) ?_
      refine vt_val (fun w hw => os_fa (o := 0) (k := 5) (by kernel_rfl) rfl) ?_
      refine vt_val (fun w hw => os_fa (o := 4) (k := 0) (by kernel_rfl) rfl) ?_
      refine vt_val (fun w hw => os_load Try.isAgg40 rfl (led_cell hw ((hb2.cell (i := 4) (v := .slice (some ⟨bW, oW, none⟩) d.wl d.wc) (by rw [← eW]; rfl))))) ?_
      refine vt_val (fun w hw => os_move rfl) ?_
      refine vt_val (fun w hw => os_ix Try.underlying40 Try.sizeOf3 rfl rfl (i := a) (by omega) (by omega)) ?_
      refine vt_val (fun w hw => os_load Try.isAgg3 rfl (led_cell hw (cW))) ?_
      refine vt_val (fun w hw => os_move rfl) ?_
      refine vt_val (fun w hw => os_nilCheck rfl) ?_
      refine vt_val (fun w hw => os_fa (o := 0) (k := 5) (by kernel_rfl) rfl) ?_
      refine vt_val (fun w hw => os_fa (o := 5) (k := 0) (by kernel_rfl) rfl) ?_
      refine vt_val (fun w hw => os_load Try.isAgg40 rfl (led_cell hw ((hb2.cell (i := 5) (v := .slice (some ⟨bV, oV, none⟩) d.vl d.vc) (by rw [← eV]; rfl))))) ?_
      refine vt_val (fun w hw => os_move rfl) ?_
      refine vt_val (fun w hw => os_ix Try.underlying40 Try.sizeOf3 rfl rfl (i := k) (by omega) (by omega)) ?_
      refine vt_val (fun w hw => os_load Try.isAgg3 rfl (led_cell hw (cV))) ?_
      refine vt_val (fun w hw => os_mul rfl rfl ((show IntKind.i64.wrap (q.worths.getD a 0 * q.ws.getD k 0) = (lyQ q a).o k by rw [← hoe]; exact i64_fit ⟨by omega, by omega⟩))) ?_
      refine vt_val (fun w hw => os_assign rfl) ?_
      refine vt_nil (fun w hw => ?_)
      obtain ⟨q1, rfl⟩ := hw
      obtain ⟨ow, how⟩ : ∃ ow, ow = (lyQ q a).o k := ⟨_, rfl⟩
      rw [← how] at ho ⊢
      have hW3 := hW2.keep (led_below (⟨q1, rfl⟩ : LeD w2 _))
      have hA1 := hA (k + 1) (by omega) (by omega)
      have hl1 : (cc2 k).length = r + 1 := hB k (Nat.le_refl _)
      have hl2 : (cc2 (k + 1)).length = r + 1 := by rw [hA1, rowV_len]
      obtain ⟨g1, c1, hu1, gn1⟩ := hW3.tS.row_at (k := k) (by omega) (by omega)
      obtain ⟨g2, c2, hu2, gn2⟩ := hW3.tS.row_at (k := k + 1) (by omega) (by omega)
      rw [hl1] at hu1
      rw [hl2] at hu2
      have hS20 : RdC (w2.drewN q1) (some ⟨S2, 0, none⟩) us2 := hW3.tS.own.rdc'
      have gS1 : S2 ≠ g1 := fun e => gn1 (by rw [← e]; rfl)
      have hR2 := (hW3.tS.each (k + 1) _ (by omega) hu2)
      generalize w2.drewN q1 = w3 at *
      refine v_mid [(0, _), (1, _), (5, _), (6, _), (7, _), (8, _), (10, _)] (fun (u : Unit) => []) (fun u w' => ∃ cc3, Two w w' n S2 T2 us2 ub cc3 cb2 ∧ cc3 k = cc2 (k + 1) ∧ ∀ j, j ≠ k → cc3 j = cc2 j) ⟨rfl, rfl, rfl, rfl, rfl, rfl, rfl, trivial⟩ ?_ ?_
      · refine v_region_h (fun w' => RdC w' (some ⟨S2, 0, none⟩) us2) mixed (hS20) ?_
        refine vh_pure 0 rfl (by kernel_rfl) (by kernel_rfl) (by kernel_rfl) (fun w hw => (os_move rfl)) ?_
        refine vh_pure 1 rfl (by kernel_rfl) (by kernel_rfl) (by kernel_rfl) (fun w hw => (os_move rfl)) ?_
        refine vh_pure 2 rfl (by kernel_rfl) (by kernel_rfl) (by kernel_rfl) (fun w hw => (os_ix Try.underlying138 Try.sizeOf40 rfl rfl (i := k) (by omega) (by omega))) ?_
        refine vh_pure 3 rfl (by kernel_rfl) (by kernel_rfl) (by kernel_rfl) (fun w hw => (os_load Try.isAgg40 rfl (hw.get hu1))) ?_
        refine vh_pure 4 rfl (by kernel_rfl) (by kernel_rfl) (by kernel_rfl) (fun w hw => (os_move rfl)) ?_
        refine vh_pure 5 rfl (by kernel_rfl) (by kernel_rfl) (by kernel_rfl) (fun w hw => (os_move rfl)) ?_
        refine vh_pure 6 rfl (by kernel_rfl) (by kernel_rfl) (by kernel_rfl) (fun w hw => (os_addi rfl rfl (by omega))) ?_
        refine vh_pure 7 rfl (by kernel_rfl) (by kernel_rfl) (by kernel_rfl) (fun w hw => (os_ix Try.underlying138 Try.sizeOf40 rfl rfl (i := k + 1) (by omega) (by omega))) ?_
        refine vh_pure 8 rfl (by kernel_rfl) (by kernel_rfl) (by kernel_rfl) (fun w hw => (os_load Try.isAgg40 rfl (hw.get hu2))) ?_
        refine vh_one 9 (by kernel_rfl) ?_
        refine vhn_some rfl (ot_copy (q := r + 1) Try.underlying40 (by kernel_rfl) rfl rfl (Own.led (hW3.tS.each k _ (by omega) hu1) ⟨1, rfl⟩) (hR2.rdc'.led ⟨1, rfl⟩) (by omega) (by omega) (by intro u hu; rw [hA1] at hu; obtain ⟨x, _, rfl⟩ := List.mem_map.1 hu; rfl)) (fun hw v w' h => RdC.kb hw (Kb.grown (S := [g1]) h.2.2 (fun b e => by injection e with e; subst e; simp)) (fun b o e hm => by cases e; exact gS1 (by simpa using hm))) ?_
        rintro v5 w5 ⟨rfl, o5, g5⟩
        refine vh_done (by kernel_rfl) (fun hS => ?_)
        exact ⟨(), ⟨rfl, rfl, rfl, rfl, rfl, rfl, rfl, trivial⟩, trivial, ⟨_, (hW3.keep (led_below (⟨1, rfl⟩ : LeD w3 _))).setS (by omega) hu1 (Kb.grown (S := [g1]) g5 (fun b e => by injection e with e; subst e; simp)) (fun b hb => by simpa using hb) o5, by rw [if_pos rfl, List.drop_eq_nil_of_le (by omega), List.append_nil], fun j hj => if_neg hj⟩⟩
      · rintro u w4 ⟨cc3, hW4, e1, e2⟩
        have hF : ∀ y, -1 ≤ FQ q n m a y k := fun y => valP_bd (by rw [← how]; exact ho.1) (fun _ _ => scP_ge)
        have hneg : ∀ y, y < wd → FQ q n m a y k = -1 := fun y hy => by unfold FQ valP; rw [if_neg (by omega)]
        have hstep : ∀ y, mxP (FQ q n m a y) n (n + 1 - k) = (if FQ q n m a y k ≠ -1 ∧ mxP (FQ q n m a y) n (n - k) ≤ FQ q n m a y k then FQ q n m a y k else mxP (FQ q n m a y) n (n - k)) := fun y => mxP_step (by omega) hk (hF y)
        have hno : ∀ y, FQ q n m a y k = -1 → mxP (FQ q n m a y) n (n + 1 - k) = mxP (FQ q n m a y) n (n - k) ∧ takP (FQ q n m a y) n k = false := fun y hy => ⟨by rw [hstep, if_neg (fun h => h.1 hy)], by simp [takP, hy]⟩
        refine v_seq ?_
        refine v_region ?_
        refine vl_val (os_move rfl) ?_
        refine vl_val (os_assign rfl) ?_
        refine vl_nil ?_
        refine v_block ?_
        refine v_loop [(0, _), (1, _), (5, _), (6, _), (7, _), (8, _), (10, _)] (fun (x : Nat) => [(11, .int .i64 x)]) (fun x w' => wd ≤ x ∧ ∃ c4 b4, Two w w' n S2 T2 us2 ub c4 b4 ∧ (∀ j, j ≠ k → c4 j = cc2 j) ∧ (∀ j, j ≠ k → b4 j = cb2 j) ∧ c4 k = rowV (mixV (fun y => .int .i64 (mxP (FQ q n m a y) n (n + 1 - k))) (fun y => .int .i64 (mxP (FQ q n m a y) n (n - k))) x) r ∧ b4 k = rowV (mixV (fun y => .bool (takP (FQ q n m a y) n k)) (fun _ => .bool false) x) r) (fun x => r + 1 - x) (wd) ⟨rfl, rfl, rfl, rfl, rfl, rfl, rfl, trivial⟩ ⟨rfl, trivial⟩ (⟨Nat.le_refl _, cc3, cb2, hW4, e2, fun _ _ => rfl, by rw [e1, hA1, mixV_none (fun y hy => by rw [(hno y (hneg y hy)).1]), show n + 1 - (k + 1) = n - k by omega], by rw [hD k (Nat.le_refl _), mixV_none (fun y hy => by rw [(hno y (hneg y hy)).2])]⟩) ?_
        rintro x w5 ⟨hx, c4, b4, hW5, e3, e4, e5, e6⟩
        have hb5 := hb.keep hW5.bel
        refine v_seq ?_
        refine v_seq ?_
        refine v_region ?_
        refine vl_val (os_move rfl) ?_
        refine vl_val (os_move rfl) ?_
        refine vl_val (os_nilCheck rfl) ?_
        refine vl_val (os_fa (o := 6) (k := 0) (by kernel_rfl) rfl) ?_
        refine vl_val (os_load Try.isAgg3 rfl (hb5.cell (i := 6) rfl)) ?_
        refine vl_val (os_leq rfl rfl) ?_
        refine vl_nil ?_
        refine v_cond_d rfl (fun h2 => ?_) (fun h2 => ?_)
        · have hT5 := hT.keep hW5.bel
          have hck := hcc k (by omega) hk
          obtain ⟨g0, c0, hu0, -⟩ := hT5.row_at (k := k) (by omega) (by rw [hck, rowV_len]; omega)
          rw [hck, rowV_len] at hu0
          have crest := Own.get (hT5.each k _ (by omega) hu0) (show (cc k)[x - wd]? = _ by rw [hck]; exact rowV_at (by omega))
          obtain ⟨rest, hrest⟩ : ∃ rest, rest = scP n (lysF q m (a + 1)) k (x - wd) := ⟨_, rfl⟩
          rw [← hrest] at crest
          have hr1 : -1 ≤ rest := by rw [hrest]; exact scP_ge
          have hr2 : rest ≤ m * 68719476736 := by rw [hrest]; exact scP_bd hR (by omega) (by omega)
          have hFx : FQ q n m a x k = if rest ≠ -1 then ow + rest else -1 := by unfold FQ valP; rw [how, hrest, hwd]; by_cases e : scP n (lysF q m (a + 1)) k (x - (lyQ q a).wd k) ≠ -1; (rw [if_pos e, if_pos ⟨by omega, e⟩]); (rw [if_neg e, if_neg (fun h => e h.2)])
          refine v_skip ?_
          refine v_seq ?_
          refine v_block ?_
          refine v_seq ?_
          refine v_region ?_
          refine vl_val (os_move rfl) ?_
          refine vl_val (os_nilCheck rfl) ?_
          refine vl_val (os_fa (o := 7) (k := 0) (by kernel_rfl) rfl) ?_
          refine vl_val (os_load Try.isAgg138 rfl (hb5.cell (i := 7) rfl)) ?_
          refine vl_val (os_move rfl) ?_
          refine vl_val (os_ix Try.underlying138 Try.sizeOf40 rfl rfl (i := k) (by omega) (by omega)) ?_
          refine vl_val (os_load Try.isAgg40 rfl (Own.get hT5.own hu0)) ?_
          refine vl_val (os_move rfl) ?_
          refine vl_val (os_move rfl) ?_
          refine vl_val (os_subi rfl rfl (by omega)) ?_
          refine vl_val (os_ix Try.underlying40 Try.sizeOf3 rfl rfl (i := x - wd) (by omega) (by omega)) ?_
          refine vl_val (os_load Try.isAgg3 rfl (crest)) ?_
          have hl5 : (c4 k).length = r + 1 := by rw [e5, rowV_len]
          have hl6 : (b4 k).length = r + 1 := by rw [e6, rowV_len]
          obtain ⟨g5, c5, hu5, gn5⟩ := hW5.tS.row_at (k := k) (by omega) (by omega)
          obtain ⟨g6, c6, hu6, gn6⟩ := hW5.tT.row_at (k := k) (by omega) (by omega)
          rw [hl5] at hu5
          rw [hl6] at hu6
          have csc := Own.get (hW5.tS.each k _ (by omega) hu5) (show (c4 k)[x]? = some (.int .i64 (mxP (FQ q n m a x) n (n - k))) by rw [e5, rowV_at (by omega), mixV, if_neg (by omega)])
          refine vl_val (os_assign rfl) ?_
          refine vl_nil ?_
          rcases (by by_cases h1 : rest = -1; exact .inl h1; by_cases h2 : mxP (FQ q n m a x) n (n - k) ≤ ow + rest; exact .inr (.inl ⟨h1, h2⟩); exact .inr (.inr ⟨h1, h2⟩) : rest = -1 ∨ (rest ≠ -1 ∧ mxP (FQ q n m a x) n (n - k) ≤ ow + rest) ∨ (rest ≠ -1 ∧ ¬ mxP (FQ q n m a x) n (n - k) ≤ ow + rest)) with h3 | ⟨h3, h4⟩ | ⟨h3, h4⟩
          · refine v_seq ?_
            refine v_region ?_
            refine vl_val (os_move rfl) ?_
            refine vl_val (os_f (os_neq rfl rfl) (by omega)) ?_
            rw [if_neg (by omega)] at hFx
            refine vl_val (os_move rfl) ?_
            refine vl_skip rfl rfl ?_
            refine vl_skip rfl rfl ?_
            refine vl_skip rfl rfl ?_
            refine vl_skip rfl rfl ?_
            refine vl_skip rfl rfl ?_
            refine vl_skip rfl rfl ?_
            refine vl_skip rfl rfl ?_
            refine vl_skip rfl rfl ?_
            refine vl_skip rfl rfl ?_
            refine vl_skip rfl rfl ?_
            refine vl_skip rfl rfl ?_
            refine vl_val (os_pick_f rfl rfl) ?_
            refine vl_nil ?_
            refine v_cond_f rfl ?_
            refine v_skip ?_
            refine v_region ?_
            refine vl_val (os_move rfl) ?_
            refine vl_val (os_addi rfl rfl (by omega)) ?_
            refine vl_val (os_assign rfl) ?_
            refine vl_nil ?_
            exact ⟨x + 1, ⟨rfl, rfl, rfl, rfl, rfl, rfl, rfl, trivial⟩, ⟨rfl, trivial⟩, ⟨by omega, c4, b4, hW5, e3, e4, by rw [e5]; exact mixV_skip (by rw [(hno x hFx).1]), by rw [e6]; exact mixV_skip (by rw [(hno x hFx).2])⟩, by dsimp only; omega⟩
          · refine v_seq ?_
            refine v_region ?_
            refine vl_val (os_move rfl) ?_
            refine vl_val (os_t (os_neq rfl rfl) (by omega)) ?_
            refine vl_val (os_move rfl) ?_
            refine vl_valg rfl (os_move rfl) ?_
            refine vl_valg rfl (os_move rfl) ?_
            refine vl_valg rfl (os_addi rfl rfl (by omega)) ?_
            refine vl_valg rfl (os_move rfl) ?_
            refine vl_valg rfl (os_move rfl) ?_
            refine vl_valg rfl (os_ix Try.underlying138 Try.sizeOf40 rfl rfl (i := k) (by omega) (by omega)) ?_
            refine vl_valg rfl (os_load Try.isAgg40 rfl (Own.get hW5.tS.own hu5)) ?_
            refine vl_valg rfl (os_move rfl) ?_
            refine vl_valg rfl (os_ix Try.underlying40 Try.sizeOf3 rfl rfl (i := x) (by omega) (by omega)) ?_
            refine vl_valg rfl (os_load Try.isAgg3 rfl (csc)) ?_
            refine vl_valg rfl (os_t (os_geq rfl rfl) (by omega)) ?_
            rw [if_pos h3] at hFx
            have hs1 : mxP (FQ q n m a x) n (n + 1 - k) = ow + rest := by rw [hstep, hFx, if_pos ⟨by omega, h4⟩]
            have hs2 : takP (FQ q n m a x) n k = true := by simp only [takP, hFx, decide_eq_true_eq]; exact ⟨by omega, h4⟩
            have hW6 := hW5.keep (led_below (⟨1, rfl⟩ : LeD w5 _))
            have hdS : ∀ (g' : Nat), (∃ u : Value, ub[k]? = some u ∧ u.ownBlock = some g') → g' ≠ g5 := fun g' ⟨u, hu, hg⟩ e => by subst e; exact hW5.dis g' (.inr ⟨k, _, by omega, hu5, rfl⟩) (.inr ⟨k, u, by omega, hu, hg⟩)
            have hd65 : g6 ≠ g5 := hdS g6 ⟨_, hu6, rfl⟩
            have rS6 := hW6.tS.own.rdc'
            have rT6 := hW6.tT.own.rdc'
            have kS5 : ∀ b o, (some ⟨S2, 0, none⟩ : Option Addr) = some ⟨b, o, none⟩ → b ∉ [g5, g6] := fun b o e hm => by cases e; rcases List.mem_cons.1 hm with e | e; exact gn5 (by rw [e]; rfl); (have e := List.mem_singleton.1 e; exact hW5.dis S2 (.inl rfl) (.inr ⟨k, _, by omega, hu6, by rw [e]; rfl⟩))
            have kT5 : ∀ b o, (some ⟨T2, 0, none⟩ : Option Addr) = some ⟨b, o, none⟩ → b ∉ [g5, g6] := fun b o e hm => by cases e; rcases List.mem_cons.1 hm with e | e; exact hW5.dis T2 (.inr ⟨k, _, by omega, hu5, by rw [e]; rfl⟩) (.inl rfl); (have e := List.mem_singleton.1 e; exact gn6 (by rw [e]; rfl))
            refine vl_val (os_pick_t rfl rfl) ?_
            refine vl_nil ?_
            refine v_cond_t rfl ?_
            refine v_region_h (fun w' => RdC w' (some ⟨S2, 0, none⟩) us2 ∧ RdC w' (some ⟨T2, 0, none⟩) ub) mixed (⟨rS6, rT6⟩) ?_
            refine vh_pure 0 rfl (by kernel_rfl) (by kernel_rfl) (by kernel_rfl) (fun w hw => (os_move rfl)) ?_
            refine vh_pure 1 rfl (by kernel_rfl) (by kernel_rfl) (by kernel_rfl) (fun w hw => (os_move rfl)) ?_
            refine vh_pure 2 rfl (by kernel_rfl) (by kernel_rfl) (by kernel_rfl) (fun w hw => (os_ix Try.underlying138 Try.sizeOf40 rfl rfl (i := k) (by omega) (by omega))) ?_
            refine vh_pure 3 rfl (by kernel_rfl) (by kernel_rfl) (by kernel_rfl) (fun w hw => (os_load Try.isAgg40 rfl (hw.1.get hu5))) ?_
            refine vh_pure 4 rfl (by kernel_rfl) (by kernel_rfl) (by kernel_rfl) (fun w hw => (os_move rfl)) ?_
            refine vh_pure 5 rfl (by kernel_rfl) (by kernel_rfl) (by kernel_rfl) (fun w hw => (os_move rfl)) ?_
            refine vh_pure 6 rfl (by kernel_rfl) (by kernel_rfl) (by kernel_rfl) (fun w hw => (os_move rfl)) ?_
            refine vh_pure 7 rfl (by kernel_rfl) (by kernel_rfl) (by kernel_rfl) (fun w hw => (os_ix Try.underlying144 Try.sizeOf146 rfl rfl (i := k) (by omega) (by omega))) ?_
            refine vh_pure 8 rfl (by kernel_rfl) (by kernel_rfl) (by kernel_rfl) (fun w hw => (os_load Try.isAgg146 rfl (hw.2.get hu6))) ?_
            refine vh_pure 9 rfl (by kernel_rfl) (by kernel_rfl) (by kernel_rfl) (fun w hw => (os_move rfl)) ?_
            refine vh_pure 10 rfl (by kernel_rfl) (by kernel_rfl) (by kernel_rfl) (fun w hw => (os_move rfl)) ?_
            refine vh_pure 11 rfl (by kernel_rfl) (by kernel_rfl) (by kernel_rfl) (fun w hw => (os_move rfl)) ?_
            refine vh_pure 12 rfl (by kernel_rfl) (by kernel_rfl) (by kernel_rfl) (fun w hw => (os_addi rfl rfl (by omega))) ?_
            refine vh_pure 13 rfl (by kernel_rfl) (by kernel_rfl) (by kernel_rfl) (fun w hw => (os_ix Try.underlying40 Try.sizeOf3 rfl rfl (i := x) (by omega) (by omega))) ?_
            refine vh_one 14 (by kernel_rfl) ?_
            refine vhn_unit rfl (ou_store Try.sizeOf3 rfl rfl rfl ((by first | exact Own.get (hW6.tS.each k _ (by omega) hu5) (List.getElem?_eq_getElem (by omega)) | exact Own.get ((hW6.cellT (by omega) hu6 x _).tS.each k _ (by omega) hu5) (List.getElem?_eq_getElem (by omega)))) ((by first | exact Own.free (hW6.tS.each k _ (by omega) hu5) _ | exact Own.free ((hW6.cellT (by omega) hu6 x _).tS.each k _ (by omega) hu5) _))) (fun hw => ⟨RdC.kb hw.1 (Kb.set (S := [g5, g6]) (by simp) _ _) kS5, RdC.kb hw.2 (Kb.set (S := [g5, g6]) (by simp) _ _) kT5⟩) ?_
            refine vh_pure 15 rfl (by kernel_rfl) (by kernel_rfl) (by kernel_rfl) (fun w hw => (os_ix Try.underlying146 Try.sizeOf4 rfl rfl (i := x) (by omega) (by omega))) ?_
            refine vh_one 16 (by kernel_rfl) ?_
            refine vhn_unit rfl (ou_store Try.sizeOf4 rfl rfl rfl ((by first | exact Own.get (hW6.tT.each k _ (by omega) hu6) (List.getElem?_eq_getElem (by omega)) | exact Own.get ((hW6.cellS (by omega) hu5 x _).tT.each k _ (by omega) hu6) (List.getElem?_eq_getElem (by omega)))) ((by first | exact Own.free (hW6.tT.each k _ (by omega) hu6) _ | exact Own.free ((hW6.cellS (by omega) hu5 x _).tT.each k _ (by omega) hu6) _))) (fun hw => ⟨RdC.kb hw.1 (Kb.set (S := [g5, g6]) (by simp) _ _) kS5, RdC.kb hw.2 (Kb.set (S := [g5, g6]) (by simp) _ _) kT5⟩) ?_
            refine vh_done (by kernel_rfl) (fun hS => ?_)
            refine v_region ?_
            refine vl_val (os_move rfl) ?_
            refine vl_val (os_addi rfl rfl (by omega)) ?_
            refine vl_val (os_assign rfl) ?_
            refine vl_nil ?_
            exact ⟨x + 1, ⟨rfl, rfl, rfl, rfl, rfl, rfl, rfl, trivial⟩, ⟨rfl, trivial⟩, ⟨by omega, (fun j => if j = k then (c4 k).set x (.int .i64 (ow + rest)) else c4 j), (fun j => if j = k then (b4 k).set x (.bool true) else b4 j), (by first | exact (hW6.cellS (by omega) hu5 x _).cellT (by omega) hu6 x _ | exact (hW6.cellT (by omega) hu6 x _).cellS (by omega) hu5 x _), fun j hj => (if_neg hj).trans (e3 j hj), fun j hj => (if_neg hj).trans (e4 j hj), (if_pos rfl).trans (by rw [e5, ← hs1]; exact mixV_set (a := fun y => .int .i64 (mxP (FQ q n m a y) n (n + 1 - k))) (by omega)), (if_pos rfl).trans (by rw [e6, ← hs2]; exact mixV_set (a := fun y => .bool (takP (FQ q n m a y) n k)) (by omega))⟩, by dsimp only; omega⟩
          · refine v_seq ?_
            refine v_region ?_
            refine vl_val (os_move rfl) ?_
            refine vl_val (os_t (os_neq rfl rfl) (by omega)) ?_
            refine vl_val (os_move rfl) ?_
            refine vl_valg rfl (os_move rfl) ?_
            refine vl_valg rfl (os_move rfl) ?_
            refine vl_valg rfl (os_addi rfl rfl (by omega)) ?_
            refine vl_valg rfl (os_move rfl) ?_
            refine vl_valg rfl (os_move rfl) ?_
            refine vl_valg rfl (os_ix Try.underlying138 Try.sizeOf40 rfl rfl (i := k) (by omega) (by omega)) ?_
            refine vl_valg rfl (os_load Try.isAgg40 rfl (Own.get hW5.tS.own hu5)) ?_
            refine vl_valg rfl (os_move rfl) ?_
            refine vl_valg rfl (os_ix Try.underlying40 Try.sizeOf3 rfl rfl (i := x) (by omega) (by omega)) ?_
            refine vl_valg rfl (os_load Try.isAgg3 rfl (csc)) ?_
            refine vl_valg rfl (os_f (os_geq rfl rfl) (by omega)) ?_
            rw [if_pos h3] at hFx
            have hs1 : mxP (FQ q n m a x) n (n + 1 - k) = mxP (FQ q n m a x) n (n - k) := by rw [hstep, hFx, if_neg (fun h => h4 h.2)]
            have hs2 : takP (FQ q n m a x) n k = false := by simp only [takP, hFx, decide_eq_false_iff_not]; exact fun h => h4 h.2
            refine vl_val (os_pick_t rfl rfl) ?_
            refine vl_nil ?_
            refine v_cond_f rfl ?_
            refine v_skip ?_
            refine v_region ?_
            refine vl_val (os_move rfl) ?_
            refine vl_val (os_addi rfl rfl (by omega)) ?_
            refine vl_val (os_assign rfl) ?_
            refine vl_nil ?_
            exact ⟨x + 1, ⟨rfl, rfl, rfl, rfl, rfl, rfl, rfl, trivial⟩, ⟨rfl, trivial⟩, ⟨by omega, c4, b4, hW5, e3, e4, by rw [e5]; exact mixV_skip (by rw [hs1]), by rw [e6]; exact mixV_skip (by rw [hs2])⟩, by dsimp only; omega⟩
        · rw [mixV_all (by omega)] at e5 e6
          refine v_exit ?_
          refine v_region ?_
          refine vl_val (os_move rfl) ?_
          refine vl_val (os_subi rfl rfl (by omega)) ?_
          refine vl_val (os_assign rfl) ?_
          refine vl_nil ?_
          exact ⟨k - 1, ⟨rfl, rfl, rfl, rfl, trivial⟩, ⟨get_int rfl (by omega), trivial⟩, ⟨by omega, c4, b4, hW5, fun j h1 h2 => by by_cases e : j = k; (subst e; exact e5); (rw [e3 j e]; exact hA j (by omega) h2), fun j h1 => by rw [e3 j (by omega)]; exact hB j (by omega), fun j h1 h2 => by by_cases e : j = k; (subst e; exact e6); (rw [e4 j e]; exact hC j (by omega) h2), fun j h1 => by rw [e4 j (by omega)]; exact hD j (by omega)⟩, by dsimp only; omega⟩
    · obtain rfl : k = 0 := by omega
      have hb2 := hb.keep hW2.bel
      have hto2 := Own.keepAll hto hW2.bel
      refine v_exit ?_
      refine v_region ?_
      refine vl_val (os_move rfl) ?_
      refine vl_val (os_move rfl) ?_
      refine vl_val (os_nilCheck rfl) ?_
      refine vl_val (os_fa (o := 8) (k := 0) (by kernel_rfl) rfl) ?_
      refine vl_val (os_load Try.isAgg140 rfl (hb2.cell (i := 8) rfl)) ?_
      refine vl_val (os_move rfl) ?_
      refine vl_val (os_move rfl) ?_
      refine vl_val (os_move rfl) ?_
      refine vl_val (os_nilCheck rfl) ?_
      refine vl_val (os_fa (o := 7) (k := 0) (by kernel_rfl) rfl) ?_
      refine vl_unit (ou_store Try.sizeOf138 rfl rfl rfl ((hb2.cell (i := 7) rfl)) ((hb2.free _))) ?_
      have hb3 := hb2.set 7 (.slice (some ⟨S2, 0, none⟩) (n + 2) (n + 2))
      have hat : a < ts.length := by have := Own.len hto; omega
      have hto3 := Own.setOther hto2 (fun b e => by have e2 : tg = b := (by simpa [Value.ownBlock] using e); rw [← e2]; exact hne) (0 + 7) (.slice (some ⟨S2, 0, none⟩) (n + 2) (n + 2))
      refine vl_val (os_ix Try.underlying140 Try.sizeOf144 rfl rfl (i := a) (by omega) (by omega)) ?_
      refine vl_unit (ou_store Try.sizeOf144 rfl rfl rfl (Own.get hto3 (List.getElem?_eq_getElem hat)) ((Own.free hto3 _))) ?_
      have htg := (World.ownsRow.lt hto tg rfl)
      have hks : Kb [g, tg] w _ := (Kb.of_below hW2.bel).trans ((Kb.set (S := [g, tg]) (g := g) (by simp) (0 + 7) (.slice (some ⟨S2, 0, none⟩) (n + 2) (n + 2))).trans (Kb.set (S := [g, tg]) (g := tg) (by simp) (0 + a) (.slice (some ⟨T2, 0, none⟩) (n + 2) (n + 2))) (fun k hk => .inl hk)) (fun k hk => .inl hk)
      have hk2 : Kb [g, tg] w2 _ := (Kb.set (S := [g, tg]) (g := g) (by simp) (0 + 7) (.slice (some ⟨S2, 0, none⟩) (n + 2) (n + 2))).trans (Kb.set (S := [g, tg]) (g := tg) (by simp) (0 + a) (.slice (some ⟨T2, 0, none⟩) (n + 2) (n + 2))) (fun k hk => .inl hk)
      refine vl_nil ?_
      exact post_end0 rfl (⟨S2, us2, cc2, T2, ub, cb2, ⟨Bk.other hb3 hne _, hW2.tS.kb hk2 (fun b hb hx => by have := (hW2.tS.lt hx).1; simp at hb; rcases hb with rfl | rfl <;> omega), fun k h1 h2 => hA k (by omega) (by omega), (by have h9 := Own.set hto3 (0 + a) (.slice (some ⟨T2, 0, none⟩) (n + 2) (n + 2)); rw [show ts.set (0 + a) (.slice (some ⟨T2, 0, none⟩) (n + 2) (n + 2)) = ts.set a (.slice (some ⟨T2, 0, none⟩) (n + 2) (n + 2)) by rw [Nat.zero_add]] at h9; exact h9), hW2.tT.kb hk2 (fun b hb hx => by have := (hW2.tT.lt hx).1; simp at hb; rcases hb with rfl | rfl <;> omega), fun k h1 h2 => hC k (by omega) h2, hks⟩⟩)
end Go.Proofs.Ytpojijnjdlnokaa
