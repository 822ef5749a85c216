/- Texts joined: KitO NtP NtW KitC Pr. -/
import Derived.Test.YtpojijnjdlnokaaM17
import Derived.Deep.MidRow
/- The law's kit: lists are written over, their spare room too. -/
namespace Go.Proofs.Ytpojijnjdlnokaa
open Go.RowKit
set_option linter.unusedVariables false

theorem Own.stretch {w : World} {B : Nat} {t : TypeId} {g n c m : Nat} {cs : List Value} (h : Own w B t (.slice (some ⟨g, 0, none⟩) n c) cs) (hm : m ≤ c) : ∃ ds, ds.length = m ∧ Own w B t (.slice (some ⟨g, 0, none⟩) m c) ds := by
  rcases h.2 with ⟨h1, _⟩ | ⟨g', cap, cur, h1, hB, hg, hnc, hcm, hs, ht⟩
  · cases h1
  · cases h1
    have hl : (cur.toList.take m).length = m := by rw [List.length_take, Array.length_toList, hs]; omega
    exact ⟨cur.toList.take m, hl, by simp, .inr ⟨g, c, cur, by rw [hl], hB, hg, by omega, hcm, hs, by rw [hl]; simp⟩⟩
end Go.Proofs.Ytpojijnjdlnokaa

/- Reports, plain: what a report is, whether it is right. No program in sight. -/
namespace Go.Proofs.Ytpojijnjdlnokaa
open Go.RowKit
set_option linter.unusedVariables false

structure NoteV where
  st : Int
  sq : Int
  n : Int
  A : Option Addr
  l : Nat
  c : Nat
  cs : List (Int × Int)
def NoteV.cells (d : NoteV) : List Value := [.int .i64 d.st, .int .i64 d.sq, .int .i64 d.n, .slice d.A d.l d.c]
def NoteOk (w : World) (d : NoteV) : Prop := RdP w 2 d.A (d.cs.map rowC) ∧ d.l = d.cs.length ∧ d.l ≤ 9000000000000 ∧ (I64 d.st ∧ I64 d.sq ∧ I64 d.n) ∧ ∀ p ∈ d.cs, I64 p.1 ∧ I64 p.2
theorem NoteOk.keep {w w' : World} {d : NoteV} (h : NoteOk w d) (hb : Below w.heap.size w w') : NoteOk w' d := ⟨h.1.keep hb, h.2⟩
theorem NoteOk.led {w w' : World} {d : NoteV} (h : NoteOk w d) (hb : LeD w w') : NoteOk w' d := ⟨h.1.led hb, h.2⟩

theorem RdP.blk {w w' s A ps} (h : RdP w s A ps) (hb : ∀ a, A = some a → w'.heap[a.block]? = w.heap[a.block]?) : RdP w' s A ps := fun i c hc => by
  obtain ⟨b, o, e, hcell⟩ := h i c hc
  subst e
  refine ⟨b, o, rfl, fun j v hv => ?_⟩
  have := hcell j v hv
  have hb2 := hb _ rfl
  unfold World.cell? at this ⊢
  simp only [] at hb2 this ⊢
  rw [hb2]; exact this
theorem NoteOk.blk {w w' : World} {d : NoteV} (h : NoteOk w d) (hb : ∀ a, d.A = some a → w'.heap[a.block]? = w.heap[a.block]?) : NoteOk w' d := ⟨h.1.blk hb, h.2⟩

def inB (n a b : Int) : Bool := decide (a ≤ n ∧ n ≤ b)
def cntOk (n : Int) : Int → List (Int × Int) → Bool
  | _, [] => true
  | last, c :: r => (inB c.1 (last + 1) n && inB c.2 1 65535) && cntOk n c.1 r
def rightN (d : NoteV) : Bool := cntOk d.n 0 d.cs && inB d.st 0 65535 && inB d.sq 1 2147483647 && inB d.n 1 255
def whyN (st n sq : Int) (d : NoteV) : Int :=
  if rightN d = false then 2 else if d.st ≠ st ∨ d.n ≠ n then 13 else if d.sq ≤ sq then 14 else if d.l = 0 then 5 else 0
theorem why_ok {st n sq : Int} {d : NoteV} : whyN st n sq d = 0 ↔ rightN d = true ∧ d.st = st ∧ d.n = n ∧ sq < d.sq ∧ 0 < d.l := by
  unfold whyN
  cases rightN d
  · simp
  · simp only [Bool.true_eq_false, if_false]
    split
    · constructor
      · intro h; cases h
      · intro h; omega
    · split
      · constructor
        · intro h; cases h
        · intro h; omega
      · split
        · constructor
          · intro h; cases h
          · intro h; omega
        · simp; omega
theorem cnt_step {n : Int} {cs : List (Int × Int)} {i : Nat} {last : Int} (hi : i < cs.length) : cntOk n last (cs.drop i) = ((inB (cs.getD i (0, 0)).1 (last + 1) n && inB (cs.getD i (0, 0)).2 1 65535) && cntOk n (cs.getD i (0, 0)).1 (cs.drop (i + 1))) := by
  have e : cs.getD i (0, 0) = cs[i] := by simp [hi]
  rw [List.drop_eq_getElem_cons hi, cntOk, e]
theorem inB_iff {n a b : Int} : inB n a b = true ↔ a ≤ n ∧ n ≤ b := by simp [inB]
/-- the last count ahead of one -/
def lastC (cs : List (Int × Int)) : Nat → Int
  | 0 => 0
  | i + 1 => (cs.getD i (0, 0)).1
theorem cnt_all {n last : Int} {cs : List (Int × Int)} (h : cntOk n last cs = true) : (∀ c ∈ cs, last < c.1 ∧ c.1 ≤ n ∧ 1 ≤ c.2 ∧ c.2 ≤ 65535) ∧ (last ≤ n → last + (cs.length : Int) ≤ n) := by
  induction cs generalizing last with
  | nil => exact ⟨(fun c hc => by cases hc), (fun h => by simpa using h)⟩
  | cons x r ih =>
    simp only [cntOk, Bool.and_eq_true, inB_iff] at h
    obtain ⟨⟨h1, h2⟩, h3⟩ := h
    obtain ⟨i1, i2⟩ := ih h3
    refine ⟨fun c hc => ?_, fun _ => ?_⟩
    · rcases List.mem_cons.1 hc with rfl | hc
      · omega
      · have := i1 c hc; omega
    · have := i2 h1.2
      simp only [List.length_cons]; omega
/-- no place twice -/
theorem cnt_inc {n last : Int} {cs : List (Int × Int)} (h : cntOk n last cs = true) : cs.Pairwise fun a b => a.1 < b.1 := by
  induction cs generalizing last with
  | nil => exact List.Pairwise.nil
  | cons x r ih =>
    simp only [cntOk, Bool.and_eq_true] at h
    exact List.Pairwise.cons (fun c hc => ((cnt_all h.2).1 c hc).1) (ih h.2)

def timesL (cs : List (Int × Int)) : Int := (cs.map (·.2)).sum
theorem times_bd {n last : Int} {cs : List (Int × Int)} (h : cntOk n last cs = true) : (cs.length : Int) ≤ timesL cs ∧ timesL cs ≤ cs.length * 65535 ∧ ∀ c ∈ cs, c.2 ≤ timesL cs := by
  induction cs generalizing last with
  | nil => simp [timesL]
  | cons x r ih =>
    have hx := (cnt_all h).1 x (by simp)
    simp only [cntOk, Bool.and_eq_true] at h
    obtain ⟨i1, i2, i3⟩ := ih h.2
    simp only [timesL, List.map_cons, List.sum_cons, List.length_cons] at i1 i2 i3 ⊢
    refine ⟨by omega, by omega, fun c hc => ?_⟩
    rcases List.mem_cons.1 hc with rfl | hc
    · omega
    · have := i3 c hc; omega
theorem times_take {n last : Int} {cs : List (Int × Int)} (h : cntOk n last cs = true) (i : Nat) : 0 ≤ timesL (cs.take i) ∧ timesL (cs.take i) ≤ cs.length * 65535 := by
  induction cs generalizing last i with
  | nil => simp [timesL]
  | cons x r ih =>
    have hx := (cnt_all h).1 x (by simp)
    simp only [cntOk, Bool.and_eq_true] at h
    cases i with
    | zero => simp [timesL]; omega
    | succ i =>
      have := ih h.2 i
      simp only [timesL, List.take_succ_cons, List.map_cons, List.sum_cons, List.length_cons] at this ⊢
      omega
theorem times_succ {cs : List (Int × Int)} {i : Nat} (hi : i < cs.length) : timesL (cs.take (i + 1)) = timesL (cs.take i) + (cs.getD i (0, 0)).2 := by
  have e : cs.getD i (0, 0) = cs[i] := by simp [hi]
  unfold timesL
  rw [List.take_succ_eq_append_getElem hi, List.map_append, List.sum_append, e]
  simp
structure RightD (d : NoteV) : Prop where
  st : 0 ≤ d.st ∧ d.st ≤ 65535
  sq : 1 ≤ d.sq ∧ d.sq ≤ 2147483647
  n : 1 ≤ d.n ∧ d.n ≤ 255
  cnt : cntOk d.n 0 d.cs = true
theorem right_iff {d : NoteV} : rightN d = true ↔ RightD d := by
  simp only [rightN, Bool.and_eq_true, inB_iff]
  exact ⟨fun h => ⟨h.1.1.2, h.1.2, h.2, h.1.1.1⟩, fun h => ⟨⟨⟨h.cnt, h.st⟩, h.sq⟩, h.n⟩⟩
end Go.Proofs.Ytpojijnjdlnokaa

/- Whole rows that are written; all else stays. No program in sight. -/
namespace Go.Proofs.Ytpojijnjdlnokaa
open Go.RowKit
set_option linter.unusedVariables false

theorem Bk.rowOther {w : World} {g g' : Nat} {cs : List Value} {t : TypeId} (h : Bk w g' cs t) (hne : g ≠ g') (ds : Array Value) : Bk (w.setRow g ds) g' cs t := by
  unfold Bk at *
  simp [World.setRow, Array.getElem?_modify, hne, h]
theorem Kb.setRow {S : List Nat} {w : World} {g : Nat} (hg : g ∈ S) (cs : Array Value) : Kb S w (w.setRow g cs) :=
  ⟨rfl, rfl, rfl, by simp [World.setRow], fun k hk hn => by
    have : g ≠ k := fun e => hn (e ▸ hg)
    simp [World.setRow, Array.getElem?_modify, this]⟩
section
variable {P : Program} {n : Cx} {fr : Fr} {w : World} {ty : TypeId} {T e : TypeId}
theorem ot_litS {l s : Nat} {ps : List (Nat × Operand)} {css : List (List Value)} {z0 : Value} (hT : P.underlying T = some (.slice e)) (hs : ∀ w, (sizeOf e).run P w = .ok s w) (hz : ∀ w, (zeroValue e).run P w = .ok z0 w) (hx : evP fr ps 0 = some (aggs css)) (hl : l = css.length) (h1 : ∀ cs ∈ css, cs.length = s) (h0 : 0 < l) (hs0 : 0 < s) (h2 : l * s ≤ 16777216) :
    OT P n (.buildSlice T l ps.toArray) ty fr w fun v w' => v = .slice (some ⟨w.heap.size, 0, none⟩) l l ∧ RdP w' s (some ⟨w.heap.size, 0, none⟩) css ∧ w'.heap.size = w.heap.size + 1 ∧ LeG w w' :=
  (os_litS hT hs hz hx hl h1 h0 hs0 h2).ot ⟨rfl, rdp_alloc _ _ _ h1, by simp, (Below.refl _ _).alloc (Nat.le_refl _) _⟩
end
end Go.Proofs.Ytpojijnjdlnokaa

/- The law's kit: reports that are lent; whether they are still as they were; lists of counts, written over, their spare room too. -/
namespace Go.Proofs.Ytpojijnjdlnokaa
open Go.RowKit
set_option linter.unusedVariables false

section
variable {P : Program} {n : Cx} {fr : Fr} {w : World} {ty : TypeId} {x y : Operand} {T : TypeId}
/-- a struct of two cells is written in a block's midst -/
theorem ou_store2 {g o : Nat} {a b : Value} {cs : List Value} {t : TypeId} (hs : (P.info? T).map (·.size) = some 2) (hx : Fr.ev fr x = some (.pointer (some ⟨g, o, none⟩))) (hy : Fr.ev fr y = some (.agg #[a, b])) (hg : Bk w g cs t) (hl : o + 2 ≤ cs.length) (h1 : a.oneCell' = true) (h2 : b.oneCell' = true) :
    OU P n (.store T x y) ty fr w ((w.setCell ⟨g, o, none⟩ a).setCell ⟨g, o + 1, none⟩ b) := by
  have ht : w.there g o (#[a, b] : Array Value).size := fun j hj => ⟨by
    have hj : o + j < cs.length := by simp at hj; omega
    have := cell_of_row w g (o + j) cs.toArray t (0, 0) hg
    rw [this]; simp [hj], by have := hg.free (o + j); simpa using this⟩
  have h3 := run_storeAt_mid (P := P) w g o T #[a, b] ht hs (by simp [h1, h2])
  unfold OU
  intro a' ha
  simp [execOp, ha.ev hx, ha.ev hy, h3, World.setCells]
/-- two structs of two integers each, held apart -/
theorem os_neqS2 {T2 : TypeId} {tI : TypeId} {x1 x2 y1 y2 : Int} (hg : P.eqGuardType P.depth T = false) (hu : P.underlying T = some (.struct (P.fieldsOf T))) (hp : P.stoodInHeld T = false)
    (hf : (P.fieldsOf T).toList.map (fun f => (f.name == "_", f.type, f.offset)) = [(false, tI, 0), (false, tI, 1)]) (hI : P.underlying tI = some (.int .i64)) (hA : ∀ w, (isAgg tI).run P w = .ok false w)
    (hx : Fr.ev fr x = some (.agg #[.int .i64 x1, .int .i64 x2])) (hy : Fr.ev fr y = some (.agg #[.int .i64 y1, .int .i64 y2])) :
    OS P n (.binOp .neq T x y T2) ty fr w (.bool (decide (¬ (x1 = y1 ∧ x2 = y2)))) w := os_of fun a ha => by
  have h1 := run_eqGuard_agg (P := P) w .neq T x y #[.int .i64 x1, .int .i64 x2] #[.int .i64 y1, .int .i64 y2] hg
  have h2 : (Op.equalIn 10000 T (.agg #[.int .i64 x1, .int .i64 x2]) (.agg #[.int .i64 y1, .int .i64 y2])).run P w = .ok (decide (x1 = y1 ∧ x2 = y2)) w := by
    exact run_eqS2 9998 hu hp hf hI hA
  have h3 := run_neq_struct (P := P) w T #[.int .i64 x1, .int .i64 x2] #[.int .i64 y1, .int .i64 y2]
  rw [h2] at h3
  simp [execOp, ha.ev hx, ha.ev hy, h1, h3, Result.andThen, -not_and]
end

theorem kit_SameCounts (A B : Option Addr) (n m c d : Nat) (xs ys : List (Int × Int)) (w : World) (ha : RdP w 2 A (xs.map rowC)) (hb : RdP w 2 B (ys.map rowC)) (hn : n = xs.length) (hm : m = ys.length) (he : xs = ys) (hn' : n ≤ 9223372036854775807) :
    Gives Try.prog 170 #[.slice A n c, .slice B m d] w fun v w' => v = .bool true ∧ LeD w w' := by
  subst he
  refine gives_enter Try.call170 Try.func170 rfl rfl rfl (by kernel_rfl) ?_
  refine v_seq ?_
  refine v_region ?_
  refine vl_val (os_assign rfl) ?_
  refine vl_nil ?_
  refine v_seq ?_
  refine v_seq ?_
  refine v_region ?_
  refine vl_val (os_move rfl) ?_
  refine vl_val (os_len Try.underlying199 rfl) ?_
  refine vl_val (os_move rfl) ?_
  refine vl_val (os_len Try.underlying199 rfl) ?_
  refine vl_val (os_neq rfl rfl) ?_
  refine vl_nil ?_
  refine v_cond_no rfl (by omega) ?_
  refine v_skip ?_
  refine v_seq ?_
  refine v_seq ?_
  refine v_region ?_
  refine vl_val (os_assign rfl) ?_
  refine vl_nil ?_
  refine v_block ?_
  refine v_loop [(0, _), (1, _)] (fun (k : Nat) => [(5, .int .i64 k)]) (fun k w' => k ≤ n ∧ LeD w w') (fun k => n - k) (0) ⟨rfl, rfl, trivial⟩ ⟨rfl, trivial⟩ (⟨by omega, lee_d.refl _⟩) ?_
  rintro k w' ⟨hk, q, rfl⟩
  refine v_seq ?_
  refine v_seq ?_
  refine v_region ?_
  refine vl_val (os_move rfl) ?_
  refine vl_val (os_move rfl) ?_
  refine vl_val (os_len Try.underlying199 rfl) ?_
  refine vl_val (os_lss rfl rfl) ?_
  refine vl_nil ?_
  refine v_cond_d rfl (fun hlt => ?_) (fun hlt => ?_)
  · obtain ⟨b1, o1, rfl, -, -, c1⟩ := (ha.led ⟨q, rfl⟩).at2 (i := k) (by omega)
    obtain ⟨b2, o2, rfl, -, -, c2⟩ := (hb.led ⟨q, rfl⟩).at2 (i := k) (by omega)
    refine v_skip ?_
    refine v_seq ?_
    refine v_block ?_
    refine v_seq ?_
    refine v_region_t LeD _ mixed (by kernel_rfl) lee_d (led_start _) ?_
    refine vt_val (fun w hw => os_move rfl) ?_
    refine vt_val (fun w hw => os_move rfl) ?_
    refine vt_val (fun w hw => os_ixs Try.underlying199 Try.sizeOf201 rfl rfl (i := k) (by omega) (by omega)) ?_
    refine vt_val (fun w hw => os_loadP Try.underlying201 rfl (by kernel_rfl) rfl (c1.led hw)) ?_
    refine vt_val (fun w hw => os_move rfl) ?_
    refine vt_val (fun w hw => os_move rfl) ?_
    refine vt_val (fun w hw => os_ixs Try.underlying199 Try.sizeOf201 rfl rfl (i := k) (by omega) (by omega)) ?_
    refine vt_val (fun w hw => os_loadP Try.underlying201 rfl (by kernel_rfl) rfl (c2.led hw)) ?_
    refine vt_val (fun w hw => os_f (os_neqS2 Try.eqGuardType201 (by kernel_rfl) Try.stoodInHeld201 (by kernel_rfl) Try.underlying3 Try.isAgg3 rfl rfl) (by simp)) ?_
    refine vt_nil (fun w hw => ?_)
    obtain ⟨q2, rfl⟩ := hw
    refine v_cond_f rfl ?_
    refine v_skip ?_
    refine v_region ?_
    refine vl_val (os_move rfl) ?_
    refine vl_val (os_addi rfl rfl (by omega)) ?_
    refine vl_val (os_assign rfl) ?_
    refine vl_nil ?_
    exact ⟨k + 1, ⟨rfl, rfl, trivial⟩, ⟨rfl, trivial⟩, ⟨by omega, _, World.drewN_drewN ..⟩, by dsimp only; omega⟩
  · refine v_exit ?_
    refine v_seq ?_
    refine v_region ?_
    refine vl_val (os_assign rfl) ?_
    refine vl_nil ?_
    refine v_ret ?_
    exact post_ret rfl rfl (⟨rfl, _, rfl⟩)
theorem kit_SameTable (A B : Option Addr) (n m c d : Nat) (xs ys : List (Int × Int)) (w : World) (ha : RdP w 2 A (xs.map rowC)) (hb : RdP w 2 B (ys.map rowC)) (hn : n = xs.length) (hm : m = ys.length) (he : xs = ys) (hn' : n ≤ 9223372036854775807) :
    Gives Try.prog 142 #[.slice A n c, .slice B m d] w fun v w' => v = .bool true ∧ LeD w w' := by
  subst he
  refine gives_enter Try.call142 Try.func142 rfl rfl rfl (by kernel_rfl) ?_
  refine v_seq ?_
  refine v_region ?_
  refine vl_val (os_assign rfl) ?_
  refine vl_nil ?_
  refine v_seq ?_
  refine v_seq ?_
  refine v_region ?_
  refine vl_val (os_move rfl) ?_
  refine vl_val (os_len Try.underlying63 rfl) ?_
  refine vl_val (os_move rfl) ?_
  refine vl_val (os_len Try.underlying63 rfl) ?_
  refine vl_val (os_neq rfl rfl) ?_
  refine vl_nil ?_
  refine v_cond_no rfl (by omega) ?_
  refine v_skip ?_
  refine v_seq ?_
  refine v_seq ?_
  refine v_region ?_
  refine vl_val (os_assign rfl) ?_
  refine vl_nil ?_
  refine v_block ?_
  refine v_loop [(0, _), (1, _)] (fun (k : Nat) => [(5, .int .i64 k)]) (fun k w' => k ≤ n ∧ LeD w w') (fun k => n - k) (0) ⟨rfl, rfl, trivial⟩ ⟨rfl, trivial⟩ (⟨by omega, lee_d.refl _⟩) ?_
  rintro k w' ⟨hk, q, rfl⟩
  refine v_seq ?_
  refine v_seq ?_
  refine v_region ?_
  refine vl_val (os_move rfl) ?_
  refine vl_val (os_move rfl) ?_
  refine vl_val (os_len Try.underlying63 rfl) ?_
  refine vl_val (os_lss rfl rfl) ?_
  refine vl_nil ?_
  refine v_cond_d rfl (fun hlt => ?_) (fun hlt => ?_)
  · obtain ⟨b1, o1, rfl, -, -, c1⟩ := (ha.led ⟨q, rfl⟩).at2 (i := k) (by omega)
    obtain ⟨b2, o2, rfl, -, -, c2⟩ := (hb.led ⟨q, rfl⟩).at2 (i := k) (by omega)
    refine v_skip ?_
    refine v_seq ?_
    refine v_block ?_
    refine v_seq ?_
    refine v_region_t LeD _ mixed (by kernel_rfl) lee_d (led_start _) ?_
    refine vt_val (fun w hw => os_move rfl) ?_
    refine vt_val (fun w hw => os_move rfl) ?_
    refine vt_val (fun w hw => os_ixs Try.underlying63 Try.sizeOf62 rfl rfl (i := k) (by omega) (by omega)) ?_
    refine vt_val (fun w hw => os_loadP Try.underlying62 rfl (by kernel_rfl) rfl (c1.led hw)) ?_
    refine vt_val (fun w hw => os_move rfl) ?_
    refine vt_val (fun w hw => os_move rfl) ?_
    refine vt_val (fun w hw => os_ixs Try.underlying63 Try.sizeOf62 rfl rfl (i := k) (by omega) (by omega)) ?_
    refine vt_val (fun w hw => os_loadP Try.underlying62 rfl (by kernel_rfl) rfl (c2.led hw)) ?_
    refine vt_val (fun w hw => os_f (os_neqS2 Try.eqGuardType62 (by kernel_rfl) Try.stoodInHeld62 (by kernel_rfl) Try.underlying3 Try.isAgg3 rfl rfl) (by simp)) ?_
    refine vt_nil (fun w hw => ?_)
    obtain ⟨q2, rfl⟩ := hw
    refine v_cond_f rfl ?_
    refine v_skip ?_
    refine v_region ?_
    refine vl_val (os_move rfl) ?_
    refine vl_val (os_addi rfl rfl (by omega)) ?_
    refine vl_val (os_assign rfl) ?_
    refine vl_nil ?_
    exact ⟨k + 1, ⟨rfl, rfl, trivial⟩, ⟨rfl, trivial⟩, ⟨by omega, _, World.drewN_drewN ..⟩, by dsimp only; omega⟩
  · refine v_exit ?_
    refine v_seq ?_
    refine v_region ?_
    refine vl_val (os_assign rfl) ?_
    refine vl_nil ?_
    refine v_ret ?_
    exact post_ret rfl rfl (⟨rfl, _, rfl⟩)
theorem LentW.mono {w B B' t v ps} (h : LentW w B t v ps) (hb : B' ≤ B) : LentW w B' t v ps := by
  obtain ⟨g, C, e, hc, ho⟩ := h
  exact ⟨g, C, e, hc, OwnP.mono ho hb⟩
theorem LentW.kb {w w' B t v ps S} (h : LentW w B t v ps) (hb : Kb S w w') (hS : ∀ g, v.ownBlock = some g → g ∉ S) : LentW w' B t v ps := by
  obtain ⟨g, C, rfl, hc, ho⟩ := h
  exact ⟨g, C, rfl, hc, ho.blk fun k hk => hb.block k (ho.lt k hk).2 (hS k hk)⟩
set_option maxHeartbeats 1000000 in
theorem kit_SameNote (d e : NoteV) (w : World) (hd : NoteOk w d) (he : NoteOk w e) (h1 : d.st = e.st) (h2 : d.sq = e.sq) (h3 : d.n = e.n) (h4 : d.cs = e.cs) : Gives Try.prog 157 #[.agg d.cells.toArray, .agg e.cells.toArray] w fun v w' => v = .bool true ∧ Below w.heap.size w w' := by
  have hA0 := bk_new w d.cells 205
  have hb0 : Below w.heap.size w (w.alloc (.cells d.cells.toArray 205)) := (Below.refl _ w).alloc (Nat.le_refl _) _
  have hA := hA0.alloc (.cells e.cells.toArray 205)
  have hB := bk_new (w.alloc (.cells d.cells.toArray 205)) e.cells 205
  have hb1 := hb0.alloc hb0.size (.cells e.cells.toArray 205)
  have hd1 := hd.keep hb1
  have he1 := he.keep hb1
  have l1 := hd.2.1
  have l2 := he.2.1
  have l3 := hd.2.2.1
  refine gives_enter Try.call157 Try.func157 rfl rfl rfl (by kernel_rfl) ?_
  refine v_seq ?_
  refine v_region ?_
  refine vl_val (os_box rfl) ?_
  refine vl_val (os_box rfl) ?_
  refine vl_val (os_assign rfl) ?_
  refine vl_nil ?_
  refine v_seq ?_
  refine v_region ?_
  refine vl_val (os_fa (o := 0) (k := 0) (by kernel_rfl) rfl) ?_
  refine vl_val (os_load Try.isAgg3 rfl (hA.cell (i := 0) rfl)) ?_
  refine vl_val (os_fa (o := 0) (k := 0) (by kernel_rfl) rfl) ?_
  refine vl_val (os_load Try.isAgg3 rfl (hB.cell (i := 0) rfl)) ?_
  refine vl_val (os_t (os_eql rfl rfl) (h1)) ?_
  refine vl_val (os_move rfl) ?_
  refine vl_valg rfl (os_fa (o := 1) (k := 0) (by kernel_rfl) rfl) ?_
  refine vl_valg rfl (os_load Try.isAgg3 rfl (hA.cell (i := 1) rfl)) ?_
  refine vl_valg rfl (os_fa (o := 1) (k := 0) (by kernel_rfl) rfl) ?_
  refine vl_valg rfl (os_load Try.isAgg3 rfl (hB.cell (i := 1) rfl)) ?_
  refine vl_valg rfl (os_t (os_eql rfl rfl) (h2)) ?_
  refine vl_val (os_pick_t rfl rfl) ?_
  refine vl_val (os_move rfl) ?_
  refine vl_valg rfl (os_fa (o := 2) (k := 0) (by kernel_rfl) rfl) ?_
  refine vl_valg rfl (os_load Try.isAgg3 rfl (hA.cell (i := 2) rfl)) ?_
  refine vl_valg rfl (os_fa (o := 2) (k := 0) (by kernel_rfl) rfl) ?_
  refine vl_valg rfl (os_load Try.isAgg3 rfl (hB.cell (i := 2) rfl)) ?_
  refine vl_valg rfl (os_t (os_eql rfl rfl) (h3)) ?_
  refine vl_val (os_pick_t rfl rfl) ?_
  refine vl_val (os_move rfl) ?_
  refine vl_valg rfl (os_fa (o := 3) (k := 0) (by kernel_rfl) rfl) ?_
  refine vl_valg rfl (os_load Try.isAgg199 rfl (hA.cell (i := 3) rfl)) ?_
  refine vl_valg rfl (os_fa (o := 3) (k := 0) (by kernel_rfl) rfl) ?_
  refine vl_valg rfl (os_load Try.isAgg199 rfl (hB.cell (i := 3) rfl)) ?_
  refine vl_callg rfl (kit_SameCounts d.A e.A d.l e.l d.c e.c d.cs e.cs _ hd1.1 he1.1 l1 l2 h4 (by omega)) rfl ?_
  rintro v1 w1 ⟨rfl, b1⟩
  refine vl_val (os_pick_t rfl rfl) ?_
  refine vl_val (os_assign rfl) ?_
  refine vl_nil ?_
  refine v_ret ?_
  exact post_ret rfl rfl (⟨rfl, hb1.trans ((led_below b1).mono hb1.size)⟩)
/-- a report that the kit has lent -/
def lentN (d : NoteV) (g C : Nat) : NoteV := ⟨d.st, d.sq, d.n, some ⟨g, 0, none⟩, d.cs.length, C, d.cs⟩
end Go.Proofs.Ytpojijnjdlnokaa

/- Layer 13: the document's tables; one layer of them. -/
namespace Go.Proofs.Ytpojijnjdlnokaa
open Go.RowKit
set_option linter.unusedVariables false

theorem mk2 (l : Nat) : (madeCells (Value.agg #[.int .i64 0, .int .i64 0]).cells (l * 2)).toList = List.replicate (l * 2) (.int .i64 0) := by
  apply List.ext_getElem
  · simp [madeCells]
  · intro i h1 h2
    have : i % 2 = 0 ∨ i % 2 = 1 := by omega
    rcases this with h | h <;> simp [madeCells, Value.cells, h]
section
variable {P : Program} {n : Cx} {fr : Fr} {w : World} {ty : TypeId} {x y : Operand} {T e : TypeId}
/-- make of structs of two numbers: a block known whole -/
theorem ot_make2 {k k2 : IntKind} {m c : Int} {l bytes : Nat} (hT : P.underlying T = some (.slice e)) (hi : TyInfo P e (.agg #[.int .i64 0, .int .i64 0]) 2 bytes) (hx : Fr.ev fr x = some (.int k m)) (hy : Fr.ev fr y = some (.int k2 c)) (hm : m = (l : Int)) (hc : c = (l : Int))
    (hb : bytes * l ≤ 281474976710656) (hl : l ≤ maxLen) : OT P n (.makeSlice T x y) ty fr w fun v w' => v = .slice (some ⟨w.heap.size, 0, none⟩) l l ∧ Bk w' w.heap.size (List.replicate (l * 2) (.int .i64 0)) e ∧ w.grownBy w' none := by
  subst hm; subst hc
  obtain ⟨i, h1, h2, h3, h4⟩ := info_parts hi
  obtain ⟨w', hr, ho, hg⟩ := run_make_full (P := P) w w.heap.size T e i _ 2 hT h1 h2 h3 k k2 l (by rw [h4]; exact hb) hl (Nat.le_refl _)
  refine ot_of fun a ha => ⟨_, w', by simp [execOp, ha.ev hx, ha.ev hy, hr, Result.andThen], rfl, ?_, hg⟩
  rw [mk2] at ho
  rcases ho.2 with ⟨h0, _⟩ | ⟨g, cap, cur, h0, _, hgg, _, _, hs, ht⟩
  · cases h0
  · injection h0 with e1 e2 e3
    injection e1 with e1
    injection e1 with e1
    subst e3
    unfold Bk
    rw [e1, hgg]
    have : cur = (List.replicate (l * 2) (Value.int .i64 0)).toArray := by
      rw [← ht, List.take_of_length_le (by simp [hs])]
    rw [this]
end
theorem ti_cell : TyInfo Try.prog 102 (.agg #[.int .i64 0, .int .i64 0]) 2 16 := by unfold TyInfo; kernel_rfl
theorem ti_cellss : TyInfo Try.prog 97 (.slice none 0 0) 1 24 := by unfold TyInfo; kernel_rfl
theorem ti_cells : TyInfo Try.prog 98 (.slice none 0 0) 1 24 := by unfold TyInfo; kernel_rfl

/-- v is a table of cells: its rows 1 to N, each of r + 1 cells; all in blocks from B on, ahead of Z -/
structure Tc (w : World) (B Z : Nat) (v : Value) (us : List Value) (N r : Nat) (cc : Nat → List Value) : Prop where
  own : Own w B 98 v us
  ob : ∀ g, v.ownBlock = some g → g < Z
  len : N ≤ us.length
  each : ∀ i, 1 ≤ i → i < N → ∃ g, us[i]? = some (.slice (some ⟨g, 0, none⟩) (r + 1) (r + 1)) ∧ Bk w g (cc i) 102 ∧ B ≤ g ∧ g < Z ∧ v.ownBlock ≠ some g
theorem Tc.below {w w' : World} {B Z : Nat} {v : Value} {us : List Value} {N r : Nat} {cc : Nat → List Value} (h : Tc w B Z v us N r cc) (hb : Below Z w w') : Tc w' B Z v us N r cc :=
  ⟨h.own.keep hb h.ob, h.ob, h.len, fun i h1 h2 => by
    obtain ⟨g, e, hg, hB, hZ, hn⟩ := h.each i h1 h2
    exact ⟨g, e, hg.below hb hZ, hB, hZ, hn⟩⟩
theorem Tc.keep {w w' : World} {B Z : Nat} {v : Value} {us : List Value} {N r : Nat} {cc : Nat → List Value} (h : Tc w B Z v us N r cc) (hb : Below w.heap.size w w') : Tc w' B Z v us N r cc :=
  ⟨h.own.keepAll hb, h.ob, h.len, fun i h1 h2 => by
    obtain ⟨g, e, hg, hB, hZ, hn⟩ := h.each i h1 h2
    exact ⟨g, e, hg.keep hb, hB, hZ, hn⟩⟩
theorem Tc.mono {w : World} {B B' Z Z' : Nat} {v : Value} {us : List Value} {N r : Nat} {cc : Nat → List Value} (h : Tc w B Z v us N r cc) (hB : B' ≤ B) (hZ : Z ≤ Z') : Tc w B' Z' v us N r cc :=
  ⟨h.own.mono hB, fun g hg => by have := h.ob g hg; omega, h.len, fun i h1 h2 => by
    obtain ⟨g, e, hg, h3, h4, hn⟩ := h.each i h1 h2
    exact ⟨g, e, hg, by omega, by omega, hn⟩⟩
theorem Tc.get {w : World} {B Z : Nat} {v : Value} {us : List Value} {N r : Nat} {cc : Nat → List Value} (h : Tc w B Z v us N r cc) {i : Nat} (h1 : 1 ≤ i) (h2 : i < N) : ∃ g, us[i]? = some (.slice (some ⟨g, 0, none⟩) (r + 1) (r + 1)) ∧ Bk w g (cc i) 102 := by
  obtain ⟨g, e, hg, _⟩ := h.each i h1 h2
  exact ⟨g, e, hg⟩
/-- a new row is hung in at place N -/
theorem Tc.hang {w : World} {B Z go n c : Nat} {us : List Value} {N r : Nat} {cc : Nat → List Value} (h : Tc w B Z (.slice (some ⟨go, 0, none⟩) n c) us N r cc) (u : Value) :
    Tc (w.setCell ⟨go, 0 + N, none⟩ u) B Z (.slice (some ⟨go, 0, none⟩) n c) (us.set N u) N r cc := by
  rw [Nat.zero_add]
  refine ⟨Own.set h.own N u, h.ob, by rw [List.length_set]; exact h.len, fun i h1 h2 => ?_⟩
  obtain ⟨g, e, hg, hB, hZ, hn⟩ := h.each i h1 h2
  exact ⟨g, by rw [List.getElem?_set_ne (by omega)]; exact e, Bk.other hg (fun e => hn (by simpa [Value.ownBlock] using e)) u, hB, hZ, hn⟩
/-- it is filled -/
theorem Tc.push {w : World} {B Z Z' : Nat} {v : Value} {us : List Value} {N r gf : Nat} {cc : Nat → List Value} {cs : List Value} (h : Tc w B Z v us N r cc) (hu : us[N]? = some (.slice (some ⟨gf, 0, none⟩) (r + 1) (r + 1))) (hb : Bk w gf cs 102) (hB : B ≤ gf) (hz : Z ≤ gf) (hz' : gf < Z') :
    Tc w B Z' v us (N + 1) r (fun j => if j = N then cs else cc j) := by
  refine ⟨h.own, fun g hg => by have := h.ob g hg; omega, (List.getElem?_eq_some_iff.1 hu).1, fun i h1 h2 => ?_⟩
  by_cases e : i = N
  · subst e
    exact ⟨gf, hu, by rw [if_pos rfl]; exact hb, hB, hz', fun e => by have := h.ob gf e; omega⟩
  · obtain ⟨g, e1, hg, h3, h4, hn⟩ := h.each i h1 (by omega)
    exact ⟨g, e1, by rw [if_neg e]; exact hg, h3, by omega, hn⟩

/-- what stands in a row of the document's table: the best score, and its first threshold -/
def puV (f : Nat → Nat → Int) (k d : Nat) (j : Nat) : Value := .int .i64 (if j % 2 = 0 then (upP (f (j / 2)) k d).1 else ((upP (f (j / 2)) k d).2 : Int))
theorem puV_0 (f : Nat → Nat → Int) (k d x : Nat) : puV f k d (2 * x) = .int .i64 (upP (f x) k d).1 := by
  unfold puV; rw [if_pos (by omega), show 2 * x / 2 = x by omega]
theorem puV_1 (f : Nat → Nat → Int) (k d x : Nat) : puV f k d (2 * x + 1) = .int .i64 ((upP (f x) k d).2 : Int) := by
  unfold puV; rw [if_neg (by omega), show (2 * x + 1) / 2 = x by omega]
theorem rowV_rep2 {r : Nat} : List.replicate ((r + 1) * 2) (Value.int .i64 0) = rowV (fun _ => .int .i64 0) (2 * r + 1) := by
  rw [← rowV_rep]; congr 1; omega

set_option maxHeartbeats 8000000 in
theorem r13_layer (d : TaskV) (q : TaskP) (n r a m sb Bb Zb : Nat) (ub : List Value) (cb : Nat → List Value) (w : World) (hd : TaskOk w d q) (hR : TaskR q n) (hL : q.lens.length = a + 1 + m) (hr : r ≤ 2000)
    (hT : Tc w Bb Zb (.slice (some ⟨sb, 0, none⟩) (n + 1) (n + 1)) ub (n + 1) r cb) (hcb : ∀ k, 1 ≤ k → k ≤ n → ∀ x, x ≤ r → nthV (cb k) (2 * x) = some (.int .i64 (scP n (lysF q m (a + 1)) k x))) :
    Gives Try.prog 65 #[.agg d.cells.toArray, .int .i64 a, .slice (some ⟨sb, 0, none⟩) (n + 1) (n + 1), .int .i64 r] w fun v w' => ∃ s2 u2 c2, v = .slice (some ⟨s2, 0, none⟩) (n + 1) (n + 1) ∧ Tc w' w.heap.size w'.heap.size v u2 (n + 1) r c2 ∧ (∀ k, 1 ≤ k → k ≤ n → c2 k = rowV (puV (FQ q n m a) k (n + 1 - k)) (2 * r + 1)) ∧ Below w.heap.size w w' := by
  have hdn : d.n = (n : Int) := hd.n.trans hR.n_
  have hn1 := hR.n1
  have hn2 := hR.n2
  have hl8 := hR.l2
  have hll := hd.ll
  have hwl := hd.wl
  have hvl := hd.vl
  have hlw := hR.lw
  have hlv := hR.lv
  have hlen := hR.len a (by omega)
  have hB := bk_new w d.cells 51
  have hb0 : Below w.heap.size w (w.alloc (.cells d.cells.toArray 51)) := (Below.refl _ w).alloc (Nat.le_refl _) _
  have cn : nthV d.cells 0 = some (.int .i64 (n : Int)) := by show some (Value.int .i64 d.n) = _; rw [hdn]
  refine gives_enter Try.call65 Try.func65 rfl rfl rfl (by kernel_rfl) ?_
  refine v_seq ?_
  refine v_region ?_
  refine vl_val (os_box rfl) ?_
  refine vl_val (os_assign rfl) ?_
  refine vl_nil ?_
  refine v_seq ?_
  refine v_region ?_
  refine vl_val (os_fa (o := 0) (k := 2) (by kernel_rfl) rfl) ?_
  refine vl_val (os_fa (o := 0) (k := 0) (by kernel_rfl) rfl) ?_
  refine vl_val (os_load Try.isAgg3 rfl (hB.cell (i := 0) cn)) ?_
  refine vl_val (os_addi rfl rfl (by omega)) ?_
  refine vl_some (ot_make (l := n + 1) Try.underlying97 ti_cells rfl rfl rfl (by omega) (by omega) (by omega) (by simp [maxLen]; omega) _ (Nat.le_refl _)) ?_
  rintro v1 w1 ⟨e1, o1, g1⟩
  have b1a := (Below.refl _ (w.alloc (.cells d.cells.toArray 51))).grown g1 (Nat.le_refl _) (fun k hk => by cases hk)
  have hB1 := hB.keep b1a
  have hb1 := hb0.trans (b1a.mono hb0.size)
  obtain ⟨go, hgo, rfl⟩ : ∃ go, go = (w.alloc (.cells d.cells.toArray 51)).heap.size ∧ v1 = .slice (some ⟨go, 0, none⟩) (n + 1) (n + 1) := ⟨_, rfl, e1⟩
  have hgo1 : go < w1.heap.size := by have := (World.ownsRow.lt o1 go rfl).2; exact this
  have hgw : w.heap.size < go := by rw [hgo]; simp
  have o1' : Own w1 w.heap.size 98 (.slice (some ⟨go, 0, none⟩) (n + 1) (n + 1)) (List.replicate (n + 1) (.slice none 0 0)) := o1.mono (by simp)
  refine vl_val (os_assign rfl) ?_
  refine vl_nil ?_
  refine v_seq ?_
  refine v_seq ?_
  refine v_region ?_
  refine vl_val (os_assign rfl) ?_
  refine vl_nil ?_
  refine v_block ?_
  refine v_loop [(1, _), (2, _), (3, _), (4, _), (9, _)] (fun (F : Nat) => [(10, .int .i64 F)]) (fun F w' => 1 ≤ F ∧ F ≤ n + 1 ∧ (∃ us cc, us.length = n + 1 ∧ Tc w' w.heap.size w'.heap.size (.slice (some ⟨go, 0, none⟩) (n + 1) (n + 1)) us F r cc ∧ (∀ k, 1 ≤ k → k < F → cc k = rowV (puV (FQ q n m a) k (n + 1 - k)) (2 * r + 1))) ∧ Below w.heap.size w w' ∧ Bk w' w.heap.size d.cells 51) (fun F => n + 1 - F) (1) ⟨rfl, rfl, rfl, rfl, rfl, trivial⟩ ⟨rfl, trivial⟩ (⟨by omega, by omega, ⟨_, (fun _ => []), by simp, ⟨o1', fun g hg => by have e : go = g := (by simpa [Value.ownBlock] using hg); omega, by simp, fun i h1 h2 => absurd h1 (by omega)⟩, fun k h1 h2 => absurd h1 (by omega)⟩, hb1, hB1⟩) ?_
  rintro F w2 ⟨hF1, hF2, ⟨us, cc, hul, hT2, hcc⟩, hb2, hB2⟩
  refine v_seq ?_
  refine v_seq ?_
  refine v_region ?_
  refine vl_val (os_move rfl) ?_
  refine vl_val (os_fa (o := 0) (k := 2) (by kernel_rfl) rfl) ?_
  refine vl_val (os_fa (o := 0) (k := 0) (by kernel_rfl) rfl) ?_
  refine vl_val (os_load Try.isAgg3 rfl (hB2.cell (i := 0) cn)) ?_
  refine vl_val (os_leq rfl rfl) ?_
  refine vl_nil ?_
  refine v_cond_d rfl (fun hlt => ?_) (fun hlt => ?_)
  · refine v_skip ?_
    refine v_seq ?_
    refine v_block ?_
    refine v_seq ?_
    refine v_region ?_
    refine vl_val (os_move rfl) ?_
    refine vl_val (os_move rfl) ?_
    refine vl_val (os_move rfl) ?_
    refine vl_val (os_addi rfl rfl (by omega)) ?_
    refine vl_some (ot_make2 (l := r + 1) Try.underlying98 ti_cell rfl rfl (by omega) (by omega) (by omega) (by simp [maxLen]; omega)) ?_
    rintro v3 w3 ⟨rfl, k3, g3⟩
    obtain ⟨gf, hgf⟩ : ∃ gf, gf = w2.heap.size := ⟨_, rfl⟩
    have b3 := (Below.refl _ w2).grown g3 (Nat.le_refl _) (fun k hk => by cases hk)
    have hT3 := hT2.keep b3
    rw [← hgf] at k3 hT3 ⊢
    refine vl_val (os_ix Try.underlying97 Try.sizeOf98 rfl rfl (i := F) (by omega) (by omega)) ?_
    refine vl_unit (ou_store Try.sizeOf98 rfl rfl rfl ((Own.get hT3.own (List.getElem?_eq_getElem (by omega)))) ((Own.free hT3.own _))) ?_
    have hT4 := hT3.hang (.slice (some ⟨gf, 0, none⟩) (r + 1) (r + 1))
    have hgof : go < gf := by have := hT3.ob go rfl; exact this
    have k4 := Bk.other (a := ⟨go, 0 + F, none⟩) k3 (by simp; omega) (.slice (some ⟨gf, 0, none⟩) (r + 1) (r + 1))
    have hB4 := Bk.other (a := ⟨go, 0 + F, none⟩) (hB2.keep b3) (by simp; omega) (.slice (some ⟨gf, 0, none⟩) (r + 1) (r + 1))
    have hb4 : Below w.heap.size w (w3.setCell ⟨go, 0 + F, none⟩ (.slice (some ⟨gf, 0, none⟩) (r + 1) (r + 1))) := below_set (hb2.trans (b3.mono hb2.size)) (by omega) _ _
    have hgl := k4.lt
    generalize w3.setCell ⟨go, 0 + F, none⟩ (.slice (some ⟨gf, 0, none⟩) (r + 1) (r + 1)) = w4 at *
    rw [rowV_rep2] at k4
    refine vl_nil ?_
    refine v_seq ?_
    refine v_region ?_
    refine vl_val (os_assign rfl) ?_
    refine vl_nil ?_
    refine v_block ?_
    refine v_loop [(1, _), (2, _), (3, _), (4, _), (9, _), (10, _)] (fun (x : Nat) => [(11, .int .i64 x)]) (fun x w' => x ≤ r + 1 ∧ Bk w' gf (rowV (mixV (puV (FQ q n m a) F (n + 1 - F)) (fun _ => .int .i64 0) (2 * x)) (2 * r + 1)) 102 ∧ Below gf w4 w') (fun x => r + 1 - x) (0) ⟨rfl, rfl, rfl, rfl, rfl, rfl, trivial⟩ ⟨rfl, trivial⟩ (⟨by omega, by rw [mixV_none (fun y hy => absurd hy (by omega))]; exact k4, Below.refl _ _⟩) ?_
    rintro x w5 ⟨hx, k5, b5⟩
    have hT5 := hT4.below b5
    have hB5 := hB4.below b5 (by omega)
    have hb5 : Below w.heap.size w w5 := hb4.trans (b5.mono (by omega))
    have hd5 := hd.keep hb5
    have hTb := hT.keep hb5
    refine v_seq ?_
    refine v_seq ?_
    refine v_region ?_
    refine vl_val (os_move rfl) ?_
    refine vl_val (os_move rfl) ?_
    refine vl_val (os_leq rfl rfl) ?_
    refine vl_nil ?_
    refine v_cond_d rfl (fun hx2 => ?_) (fun hx2 => ?_)
    · refine v_skip ?_
      refine v_seq ?_
      refine v_block ?_
      refine v_seq ?_
      refine v_region ?_
      refine vl_val (os_build (cs := [.int .i64 (-1), .int .i64 0]) rfl (by kernel_rfl)) ?_
      refine vl_val (os_allocB Try.zeroValue102 (zc := _) (cs := [.int .i64 0, .int .i64 0]) rfl) ?_
      have hM0 := bk_new w5 [.int .i64 0, .int .i64 0] 102
      refine vl_unit (ou_storeB (by kernel_rfl) rfl rfl hM0 rfl rfl) ?_
      have hM1 := setRow_bk hM0 [.int .i64 (-1), .int .i64 0]
      have b6 : Below w5.heap.size w5 _ := below_setRow ((Below.refl _ w5).alloc (Nat.le_refl _) (.cells [Value.int .i64 0, .int .i64 0].toArray 102)) (Nat.le_refl _) [Value.int .i64 (-1), .int .i64 0].toArray
      obtain ⟨M, hM⟩ : ∃ M, M = w5.heap.size := ⟨_, rfl⟩
      have kl5 := k5.lt
      rw [← hM] at hM1 b6 ⊢
      generalize (w5.alloc (.cells [Value.int .i64 0, .int .i64 0].toArray 102)).setRow M [Value.int .i64 (-1), .int .i64 0].toArray = w6 at *
      refine vl_nil ?_
      refine v_seq ?_
      refine v_seq ?_
      refine v_region ?_
      refine vl_val (os_move rfl) ?_
      refine vl_val (os_assign rfl) ?_
      refine vl_nil ?_
      refine v_block ?_
      refine v_loop [(1, _), (2, _), (3, _), (4, _), (9, _), (10, _), (11, _), (12, _)] (fun (k : Nat) => [(13, .int .i64 k)]) (fun k w' => F ≤ k ∧ k ≤ n + 1 ∧ Bk w' M [.int .i64 (upP (FQ q n m a x) F (k - F)).1, .int .i64 ((upP (FQ q n m a x) F (k - F)).2 : Int)] 102 ∧ Below M w5 w') (fun k => n + 1 - k) (F) ⟨rfl, rfl, rfl, rfl, rfl, rfl, rfl, rfl, trivial⟩ ⟨rfl, trivial⟩ (⟨Nat.le_refl _, by omega, by rw [Nat.sub_self]; exact hM1, b6⟩) ?_
      rintro k w7 ⟨hk1, hk2, hM7, b7⟩
      have b57 : Below w5.heap.size w5 w7 := hM ▸ b7
      have hB7 := hB5.keep b57
      have hd7 := hd5.keep b57
      have hTb7 := hTb.keep b57
      refine v_seq ?_
      refine v_seq ?_
      refine v_region ?_
      refine vl_val (os_move rfl) ?_
      refine vl_val (os_fa (o := 0) (k := 2) (by kernel_rfl) rfl) ?_
      refine vl_val (os_fa (o := 0) (k := 0) (by kernel_rfl) rfl) ?_
      refine vl_val (os_load Try.isAgg3 rfl (hB7.cell (i := 0) cn)) ?_
      refine vl_val (os_leq rfl rfl) ?_
      refine vl_nil ?_
      refine v_cond_d rfl (fun hk3 => ?_) (fun hk3 => ?_)
      · obtain ⟨bL, oL, eL, cL⟩ := hd7.L.at_ (i := a) (by omega)
        obtain ⟨bW, oW, eW, cW⟩ := hd7.W.at_ (i := a) (by omega)
        obtain ⟨bV, oV, eV, cV⟩ := hd7.V.at_ (i := k) (by omega)
        have hok : widthOk (q.lens.getD a 0) k = true := by simp only [widthOk, decide_eq_true_eq]; omega
        have hwb := width_bd hok
        obtain ⟨wd, hwd⟩ : ∃ wd : Nat, wd = (lyQ q a).wd k := ⟨_, rfl⟩
        have hwd' : (wd : Int) = widthW (q.lens.getD a 0) k := by rw [hwd]; show ((widthW (q.lens.getD a 0) k).toNat : Int) = _; omega
        have hwv : widthV (q.lens.getD a 0) k = (wd : Int) := by unfold widthV; rw [if_pos hok]; exact hwd'.symm
        have ho := lyQ_o hR (i := a) (k := k) (by omega) (by omega)
        have hoe : (lyQ q a).o k = q.worths.getD a 0 * q.ws.getD k 0 := rfl
        have hup : upP (FQ q n m a x) F (k + 1 - F) = if (upP (FQ q n m a x) F (k - F)).1 < FQ q n m a x k then (FQ q n m a x k, k) else upP (FQ q n m a x) F (k - F) := by rw [show k + 1 - F = (k - F) + 1 by omega, upP, show F + (k - F) = k by omega]
        have hup1 := (upP_spec (f := FQ q n m a x) (k := F) (d := k - F)).1
        refine v_skip ?_
        refine v_seq ?_
        refine v_block ?_
        refine v_seq ?_
        refine v_region ?_
        refine vl_val (os_fa (o := 3) (k := 0) (by kernel_rfl) rfl) ?_
        refine vl_val (os_load Try.isAgg40 rfl ((hB7.cell (i := 3) (v := .slice (some ⟨bL, oL, none⟩) d.ll d.lc) (by rw [← eL]; rfl)))) ?_
        refine vl_val (os_move rfl) ?_
        refine vl_val (os_ix Try.underlying40 Try.sizeOf3 rfl rfl (i := a) (by omega) (by omega)) ?_
        refine vl_val (os_load Try.isAgg3 rfl (cL)) ?_
        refine vl_val (os_move rfl) ?_
        refine vl_call (ref09_Width (q.lens.getD a 0) k w7) rfl ?_
        rintro v8 w7 ⟨rfl, rfl⟩
        rw [hwv]
        obtain ⟨gk, huk, hBk⟩ := hTb7.get (i := k) (by omega) (by omega)
        refine vl_val (os_move rfl) ?_
        refine vl_val (os_extract rfl rfl) ?_
        refine vl_val (os_extract rfl rfl) ?_
        refine vl_val (os_assign rfl) ?_
        refine vl_val (os_assign rfl) ?_
        refine vl_nil ?_
        rcases (by by_cases h1 : x < wd; exact .inl h1; by_cases h2 : scP n (lysF q m (a + 1)) k (x - wd) = -1; exact .inr (.inl ⟨by omega, h2⟩); exact .inr (.inr ⟨by omega, h2⟩) : x < wd ∨ (wd ≤ x ∧ scP n (lysF q m (a + 1)) k (x - wd) = -1) ∨ (wd ≤ x ∧ scP n (lysF q m (a + 1)) k (x - wd) ≠ -1)) with h3 | ⟨h3, h4⟩ | ⟨h3, h4⟩
        · refine v_seq ?_
          refine v_seq ?_
          refine v_region ?_
          refine vl_val (os_move rfl) ?_
          refine vl_val (os_move rfl) ?_
          refine vl_val (os_t (os_gtr rfl rfl) (by omega)) ?_
          have hFx : FQ q n m a x k = -1 := by unfold FQ valP; rw [if_neg (by omega)]
          refine vl_val (os_move rfl) ?_
          refine vl_skip rfl rfl ?_
          refine vl_skip rfl rfl ?_
          refine vl_skip rfl rfl ?_
          refine vl_skip rfl rfl ?_
          refine vl_skip rfl rfl ?_
          refine vl_skip rfl rfl ?_
          refine vl_skip rfl rfl ?_
          refine vl_skip rfl rfl ?_
          refine vl_skip rfl rfl ?_
          refine vl_skip rfl rfl ?_
          refine vl_skip rfl rfl ?_
          refine vl_val (os_pick_t rfl rfl) ?_
          refine vl_nil ?_
          refine v_cond_t rfl ?_
          refine v_exit ?_
          refine v_region ?_
          refine vl_val (os_move rfl) ?_
          refine vl_val (os_addi rfl rfl (by omega)) ?_
          refine vl_val (os_assign rfl) ?_
          refine vl_nil ?_
          exact ⟨k + 1, ⟨rfl, rfl, rfl, rfl, rfl, rfl, rfl, rfl, trivial⟩, ⟨rfl, trivial⟩, ⟨by omega, by omega, by rw [hup, if_neg (by omega)]; exact hM7, b7⟩, by dsimp only; omega⟩
        · have hFx : FQ q n m a x k = -1 := by unfold FQ valP; rw [← hwd, if_neg (fun h => h.2 h4)]
          have crest := hBk.cell (i := 2 * (x - wd)) (hcb k (by omega) (by omega) (x - wd) (by omega))
          refine v_seq ?_
          refine v_seq ?_
          refine v_region ?_
          refine vl_val (os_move rfl) ?_
          refine vl_val (os_move rfl) ?_
          refine vl_val (os_f (os_gtr rfl rfl) (by omega)) ?_
          refine vl_val (os_move rfl) ?_
          refine vl_valg rfl (os_move rfl) ?_
          refine vl_valg rfl (os_move rfl) ?_
          refine vl_valg rfl (os_ix Try.underlying97 Try.sizeOf98 rfl rfl (i := k) (by omega) (by omega)) ?_
          refine vl_valg rfl (os_load Try.isAgg98 rfl (Own.get hTb7.own huk)) ?_
          refine vl_valg rfl (os_move rfl) ?_
          refine vl_valg rfl (os_move rfl) ?_
          refine vl_valg rfl (os_subi rfl rfl (by omega)) ?_
          refine vl_valg rfl (os_ixs Try.underlying98 Try.sizeOf102 rfl rfl (i := x - wd) (by omega) (by omega)) ?_
          refine vl_valg rfl (os_fa (o := 0) (k := 0) (by kernel_rfl) rfl) ?_
          refine vl_valg rfl (os_load Try.isAgg3 rfl ((by rw [show 0 + (x - wd) * 2 + 0 = 0 + 2 * (x - wd) by omega]; exact crest))) ?_
          rw [h4]
          refine vl_valg rfl (os_t (os_lss rfl rfl) (by decide)) ?_
          refine vl_val (os_pick_f rfl rfl) ?_
          refine vl_nil ?_
          refine v_cond_t rfl ?_
          refine v_exit ?_
          refine v_region ?_
          refine vl_val (os_move rfl) ?_
          refine vl_val (os_addi rfl rfl (by omega)) ?_
          refine vl_val (os_assign rfl) ?_
          refine vl_nil ?_
          exact ⟨k + 1, ⟨rfl, rfl, rfl, rfl, rfl, rfl, rfl, rfl, trivial⟩, ⟨rfl, trivial⟩, ⟨by omega, by omega, by rw [hup, if_neg (by omega)]; exact hM7, b7⟩, by dsimp only; omega⟩
        · obtain ⟨rest, hrest⟩ : ∃ rest, rest = scP n (lysF q m (a + 1)) k (x - wd) := ⟨_, rfl⟩
          have crest := hBk.cell (i := 2 * (x - wd)) (hcb k (by omega) (by omega) (x - wd) (by omega))
          have hFx : FQ q n m a x k = (lyQ q a).o k + rest := by unfold FQ valP; rw [← hwd, if_pos ⟨h3, h4⟩, hrest]
          rw [← hrest] at crest h4
          have hr1 : -1 ≤ rest := by rw [hrest]; exact scP_ge
          have hr2 : rest ≤ m * 68719476736 := by rw [hrest]; exact scP_bd hR (by omega) (by omega)
          refine v_seq ?_
          refine v_seq ?_
          refine v_region ?_
          refine vl_val (os_move rfl) ?_
          refine vl_val (os_move rfl) ?_
          refine vl_val (os_f (os_gtr rfl rfl) (by omega)) ?_
          refine vl_val (os_move rfl) ?_
          refine vl_valg rfl (os_move rfl) ?_
          refine vl_valg rfl (os_move rfl) ?_
          refine vl_valg rfl (os_ix Try.underlying97 Try.sizeOf98 rfl rfl (i := k) (by omega) (by omega)) ?_
          refine vl_valg rfl (os_load Try.isAgg98 rfl (Own.get hTb7.own huk)) ?_
          refine vl_valg rfl (os_move rfl) ?_
          refine vl_valg rfl (os_move rfl) ?_
          refine vl_valg rfl (os_subi rfl rfl (by omega)) ?_
          refine vl_valg rfl (os_ixs Try.underlying98 Try.sizeOf102 rfl rfl (i := x - wd) (by omega) (by omega)) ?_
          refine vl_valg rfl (os_fa (o := 0) (k := 0) (by kernel_rfl) rfl) ?_
          refine vl_valg rfl (os_load Try.isAgg3 rfl ((by rw [show 0 + (x - wd) * 2 + 0 = 0 + 2 * (x - wd) by omega]; exact crest))) ?_
          refine vl_valg rfl (os_f (os_lss rfl rfl) (by omega)) ?_
          refine vl_val (os_pick_f rfl rfl) ?_
          refine vl_nil ?_
          refine v_cond_f rfl ?_
          refine v_skip ?_
          refine v_seq ?_
          refine v_region_t LeD _ mixed (by kernel_rfl) lee_d (led_start _) ?_
          refine vt_val (fun w hw => os_fa (o := 4) (k := 0) (by kernel_rfl) rfl) ?_
          refine vt_val (fun w hw => os_load Try.isAgg40 rfl (led_cell hw ((hB7.cell (i := 4) (v := .slice (some ⟨bW, oW, none⟩) d.wl d.wc) (by rw [← eW]; rfl))))) ?_
          refine vt_val (fun w hw => os_move rfl) ?_
          refine vt_val (fun w hw => os_ix Try.underlying40 Try.sizeOf3 rfl rfl (i := a) (by omega) (by omega)) ?_
          refine vt_val (fun w hw => os_load Try.isAgg3 rfl (led_cell hw (cW))) ?_
          refine vt_val (fun w hw => os_fa (o := 5) (k := 0) (by kernel_rfl) rfl) ?_
          refine vt_val (fun w hw => os_load Try.isAgg40 rfl (led_cell hw ((hB7.cell (i := 5) (v := .slice (some ⟨bV, oV, none⟩) d.vl d.vc) (by rw [← eV]; rfl))))) ?_
          refine vt_val (fun w hw => os_move rfl) ?_
          refine vt_val (fun w hw => os_ix Try.underlying40 Try.sizeOf3 rfl rfl (i := k) (by omega) (by omega)) ?_
          refine vt_val (fun w hw => os_load Try.isAgg3 rfl (led_cell hw (cV))) ?_
          refine vt_val (fun w hw => os_mul rfl rfl ((show IntKind.i64.wrap (q.worths.getD a 0 * q.ws.getD k 0) = (lyQ q a).o k by rw [← hoe]; exact i64_fit ⟨by omega, by omega⟩))) ?_
          refine vt_val (fun w hw => os_move rfl) ?_
          refine vt_val (fun w hw => os_move rfl) ?_
          refine vt_val (fun w hw => os_ix Try.underlying97 Try.sizeOf98 rfl rfl (i := k) (by omega) (by omega)) ?_
          refine vt_val (fun w hw => os_load Try.isAgg98 rfl (led_cell hw (Own.get hTb7.own huk))) ?_
          refine vt_val (fun w hw => os_move rfl) ?_
          refine vt_val (fun w hw => os_move rfl) ?_
          refine vt_val (fun w hw => os_subi rfl rfl (by omega)) ?_
          refine vt_val (fun w hw => os_ixs Try.underlying98 Try.sizeOf102 rfl rfl (i := x - wd) (by omega) (by omega)) ?_
          refine vt_val (fun w hw => os_fa (o := 0) (k := 0) (by kernel_rfl) rfl) ?_
          refine vt_val (fun w hw => os_load Try.isAgg3 rfl (led_cell hw ((by rw [show 0 + (x - wd) * 2 + 0 = 0 + 2 * (x - wd) by omega]; exact crest)))) ?_
          refine vt_val (fun w hw => os_addi rfl rfl (by omega)) ?_
          refine vt_val (fun w hw => os_assign rfl) ?_
          refine vt_nil (fun w hw => ?_)
          obtain ⟨q1, rfl⟩ := hw
          have hM8 := hM7.led (⟨q1, rfl⟩ : LeD w7 _)
          have e8 : Below M w7 (w7.drewN q1) := led_below ⟨q1, rfl⟩
          have b8 := b7.trans e8
          refine v_seq ?_
          refine v_region ?_
          refine vl_val (os_move rfl) ?_
          refine vl_val (os_fa (o := 0) (k := 0) (by kernel_rfl) rfl) ?_
          refine vl_val (os_load Try.isAgg3 rfl (hM8.cell (i := 0) rfl)) ?_
          refine vl_val (os_gtr rfl rfl) ?_
          refine vl_nil ?_
          refine v_cond_d rfl (fun h5 => ?_) (fun h5 => ?_)
          · refine v_region ?_
            refine vl_val (os_move rfl) ?_
            refine vl_val (os_move rfl) ?_
            refine vl_val (os_build (cs := [.int .i64 ((lyQ q a).o k + rest), .int .i64 k]) rfl (by kernel_rfl)) ?_
            refine vl_unit (ou_storeB (by kernel_rfl) rfl rfl hM8 rfl rfl) ?_
            refine vl_nil ?_
            refine v_region ?_
            refine vl_val (os_move rfl) ?_
            refine vl_val (os_addi rfl rfl (by omega)) ?_
            refine vl_val (os_assign rfl) ?_
            refine vl_nil ?_
            exact ⟨k + 1, ⟨rfl, rfl, rfl, rfl, rfl, rfl, rfl, rfl, trivial⟩, ⟨rfl, trivial⟩, ⟨by omega, by omega, by rw [hup, if_pos (by omega), hFx]; exact setRow_bk hM8 [.int .i64 ((lyQ q a).o k + rest), .int .i64 k], below_setRow b8 (Nat.le_refl _) _⟩, by dsimp only; omega⟩
          · refine v_skip ?_
            refine v_region ?_
            refine vl_val (os_move rfl) ?_
            refine vl_val (os_addi rfl rfl (by omega)) ?_
            refine vl_val (os_assign rfl) ?_
            refine vl_nil ?_
            exact ⟨k + 1, ⟨rfl, rfl, rfl, rfl, rfl, rfl, rfl, rfl, trivial⟩, ⟨rfl, trivial⟩, ⟨by omega, by omega, by rw [hup, if_neg (by omega)]; exact hM8, b8⟩, by dsimp only; omega⟩
      · obtain rfl : k = n + 1 := by omega
        have hu4 : (us.set F (.slice (some ⟨gf, 0, none⟩) (r + 1) (r + 1)))[F]? = some (.slice (some ⟨gf, 0, none⟩) (r + 1) (r + 1)) := List.getElem?_set_self (by omega)
        have hT7 := hT5.keep b57
        have k7 := k5.keep b57
        have gM : gf ≠ M := by omega
        refine v_exit ?_
        refine v_region_h (fun w' => RdC w' (some ⟨go, 0, none⟩) (us.set F (.slice (some ⟨gf, 0, none⟩) (r + 1) (r + 1))) ∧ Bk w' M [.int .i64 (upP (FQ q n m a x) F (n + 1 - F)).1, .int .i64 ((upP (FQ q n m a x) F (n + 1 - F)).2 : Int)] 102) mixed (⟨hT7.own.rdc', hM7⟩) ?_
        refine vh_pure 0 rfl (by kernel_rfl) (by kernel_rfl) (by kernel_rfl) (fun w hw => (os_move rfl)) ?_
        refine vh_pure 1 rfl (by kernel_rfl) (by kernel_rfl) (by kernel_rfl) (fun w hw => (os_move rfl)) ?_
        refine vh_pure 2 rfl (by kernel_rfl) (by kernel_rfl) (by kernel_rfl) (fun w hw => (os_ix Try.underlying97 Try.sizeOf98 rfl rfl (i := F) (by omega) (by omega))) ?_
        refine vh_pure 3 rfl (by kernel_rfl) (by kernel_rfl) (by kernel_rfl) (fun w hw => (os_load Try.isAgg98 rfl (hw.1.get hu4))) ?_
        refine vh_pure 4 rfl (by kernel_rfl) (by kernel_rfl) (by kernel_rfl) (fun w hw => (os_move rfl)) ?_
        refine vh_pure 5 rfl (by kernel_rfl) (by kernel_rfl) (by kernel_rfl) (fun w hw => (os_loadB Try.underlying102 rfl (by kernel_rfl) rfl hw.2)) ?_
        refine vh_pure 6 rfl (by kernel_rfl) (by kernel_rfl) (by kernel_rfl) (fun w hw => (os_ixs Try.underlying98 Try.sizeOf102 rfl rfl (i := x) (by omega) (by omega))) ?_
        refine vh_one 7 (by kernel_rfl) ?_
        refine vhn_unit rfl (ou_store2 (by kernel_rfl) rfl rfl (k7.led ⟨1, rfl⟩) (by rw [rowV_len]; omega) rfl rfl) (fun hw => ⟨RdC.kb hw.1 ((Kb.set (S := [gf]) (by simp) _ _).trans (Kb.set (S := [gf]) (by simp) _ _) (fun k hk => .inl hk)) (fun b o e hm => by cases e; have := List.mem_singleton.1 hm; omega), Bk.other (Bk.other hw.2 gM _) gM _⟩) ?_
        refine vh_done (by kernel_rfl) (fun hS => ?_)
        refine v_region ?_
        refine vl_val (os_move rfl) ?_
        refine vl_val (os_addi rfl rfl (by omega)) ?_
        refine vl_val (os_assign rfl) ?_
        refine vl_nil ?_
        exact ⟨x + 1, ⟨rfl, rfl, rfl, rfl, rfl, rfl, trivial⟩, ⟨rfl, trivial⟩, ⟨by omega, by have h9 := (Bk.set (k7.led (⟨1, rfl⟩ : LeD w7 _)) (2 * x) (puV (FQ q n m a) F (n + 1 - F) (2 * x))).set (2 * x + 1) (puV (FQ q n m a) F (n + 1 - F) (2 * x + 1)); rw [mixV_set (by omega), mixV_set (by omega), puV_0, puV_1, show 0 + 2 * x = 0 + x * 2 by omega, show 0 + (2 * x + 1) = 0 + x * 2 + 1 by omega] at h9; exact h9, by have h8 : Below gf w4 w7 := b5.trans (b57.mono (by omega)); have h9 : Below gf w7 (w7.drewN 1) := led_below ⟨1, rfl⟩; exact below_set (below_set (h8.trans h9) (Nat.le_refl _) _ _) (Nat.le_refl _) _ _⟩, by dsimp only; omega⟩
    · obtain rfl : x = r + 1 := by omega
      rw [mixV_all (by omega)] at k5
      have hu4 : (us.set F (.slice (some ⟨gf, 0, none⟩) (r + 1) (r + 1)))[F]? = some (.slice (some ⟨gf, 0, none⟩) (r + 1) (r + 1)) := List.getElem?_set_self (by omega)
      refine v_exit ?_
      refine v_region ?_
      refine vl_val (os_move rfl) ?_
      refine vl_val (os_addi rfl rfl (by omega)) ?_
      refine vl_val (os_assign rfl) ?_
      refine vl_nil ?_
      exact ⟨F + 1, ⟨rfl, rfl, rfl, rfl, rfl, trivial⟩, ⟨rfl, trivial⟩, ⟨by omega, by omega, ⟨_, _, by rw [List.length_set]; exact hul, hT5.push hu4 k5 (by omega) (Nat.le_refl _) k5.lt, fun k h1 h2 => by by_cases e : k = F; (subst e; exact if_pos rfl); (exact (if_neg e).trans (hcc k h1 (by omega)))⟩, hb5, hB5⟩, by dsimp only; omega⟩
  · obtain rfl : F = n + 1 := by omega
    refine v_exit ?_
    refine v_seq ?_
    refine v_region ?_
    refine vl_val (os_move rfl) ?_
    refine vl_val (os_assign rfl) ?_
    refine vl_nil ?_
    refine v_ret ?_
    exact post_ret rfl rfl (⟨go, us, cc, rfl, hT2, fun k h1 h2 => hcc k h1 (by omega), hb2⟩)
end Go.Proofs.Ytpojijnjdlnokaa
