/- Texts joined: Ls Rg Tb CrcP V32. -/
import Derived.Test.YtlfkhnchceoinaaM5
import Derived.RangeFuncIn
import Derived.RangeFuncOwn
import Derived.Maps.AppendAt
/- Literals of lists of structs. No program in sight. -/
namespace Go.Proofs.Ytlfkhnchceoinaa
open Go.RowKit
set_option linter.unusedVariables false

theorem fold_set (off : Nat) : ∀ (cs : List Value) (k : Nat) (a : Array Value), off + k + cs.length ≤ a.size →
    ((cs.zipIdx k).foldl (fun (a : Array Value) (x : Value × Nat) => a.setIfInBounds (off + x.2) x.1) a).toList = a.toList.take (off + k) ++ cs ++ a.toList.drop (off + k + cs.length)
  | [], k, a, _ => by simp
  | c :: r, k, a, h => by
    simp only [List.length_cons] at h
    rw [List.zipIdx_cons, List.foldl_cons, fold_set off r (k + 1) _ (by simp; omega)]
    have h1 : off + k < a.toList.length := by simp; omega
    rw [Array.toList_setIfInBounds, show off + (k + 1) = off + k + 1 by omega]
    have h2 : (a.toList.set (off + k) c).take (off + k + 1) = a.toList.take (off + k) ++ [c] := by
      rw [List.take_succ_eq_append_getElem (by simpa using h1), List.take_set, List.set_eq_of_length_le (by simp; omega)]
      simp
    rw [h2, List.drop_set, if_pos (by omega)]
    simp only [List.length_cons, List.append_assoc, List.singleton_append]
    rw [show off + k + 1 + r.length = off + k + (r.length + 1) by omega]
def aggs (css : List (List Value)) : List Value := css.map fun cs => .agg cs.toArray
theorem fill_many {s : Nat} (hs : 0 < s) : ∀ (css : List (List Value)) (i : Nat) (cells : Array Value), (∀ cs ∈ css, cs.length = s) → i * s + css.length * s = cells.size →
    Instr.fill (fun i => some (i * s, s)) cells (partsOf (aggs css) i) = some (cells.toList.take (i * s) ++ css.flatten).toArray
  | [], i, cells, _, hl => by
    simp only [aggs, List.map_nil, partsOf, Instr.fill, List.flatten_nil, List.append_nil]
    have : i * s = cells.toList.length := by simpa using hl
    rw [this, List.take_length]
  | cs :: r, i, cells, h1, hl => by
    have h2 := h1 cs (by simp)
    simp only [List.length_cons, Nat.add_mul, Nat.one_mul] at hl
    have hc : (Value.agg cs.toArray).cells = cs.toArray := rfl
    have hfold : (cs.toArray.zipIdx.foldl (fun (a : Array Value) (x : Value × Nat) => a.setIfInBounds (i * s + x.2) x.1) cells).toList = cells.toList.take (i * s) ++ cs ++ cells.toList.drop (i * s + s) := by
      have := fold_set (i * s) cs 0 cells (by omega)
      rw [Nat.add_zero, h2] at this
      rw [← this]
      simp
    have hsz : (cs.toArray.zipIdx.foldl (fun (a : Array Value) (x : Value × Nat) => a.setIfInBounds (i * s + x.2) x.1) cells).size = cells.size := by
      rw [← Array.length_toList, hfold]
      simp only [List.length_append, List.length_take, List.length_drop, Array.length_toList]
      omega
    have ih := fill_many hs r (i + 1) _ (fun c hc => h1 c (by simp [hc])) (by rw [hsz, Nat.add_mul, Nat.one_mul]; omega)
    simp only [aggs, List.map_cons, partsOf, Instr.fill, hc]
    rw [if_neg (by simp [h2]; omega)]
    simp only [aggs] at ih
    rw [ih, hfold]
    congr 2
    rw [Nat.add_mul, Nat.one_mul, List.take_append_of_le_length (by simp; omega), List.take_of_length_le (by simp; omega)]
    simp
theorem flat_at {s : Nat} : ∀ (css : List (List Value)) (i j : Nat) (c : List Value), (∀ cs ∈ css, cs.length = s) → css[i]? = some c → j < s → css.flatten[i * s + j]? = c[j]?
  | cs :: r, 0, j, c, h, hc, hj => by
    cases hc
    have := h cs (by simp)
    rw [List.flatten_cons, Nat.zero_mul, Nat.zero_add, List.getElem?_append_left (by omega)]
  | cs :: r, i + 1, j, c, h, hc, hj => by
    have h1 := h cs (by simp)
    rw [List.flatten_cons, List.getElem?_append_right (by rw [Nat.add_mul]; omega), h1, show (i + 1) * s + j - s = i * s + j by rw [Nat.add_mul]; omega]
    exact flat_at r i j c (fun c hc => h c (by simp [hc])) hc hj
theorem flat_len {s : Nat} : ∀ (css : List (List Value)), (∀ cs ∈ css, cs.length = s) → css.flatten.length = css.length * s
  | [], _ => by simp
  | cs :: r, h => by
    rw [List.flatten_cons, List.length_append, flat_len r (fun c hc => h c (by simp [hc])), h cs (by simp), List.length_cons, Nat.add_mul]; omega
theorem rdp_alloc (w : World) {s : Nat} (css : List (List Value)) (e : TypeId) (h : ∀ cs ∈ css, cs.length = s) : RdP (w.alloc (.cells css.flatten.toArray e)) s (some ⟨w.heap.size, 0, none⟩) css := fun i c hc => by
  refine ⟨_, 0, rfl, fun j v hv => ?_⟩
  have hj := (List.getElem?_eq_some_iff.1 hv).1
  rw [h c (List.mem_of_getElem? hc)] at hj
  rw [cell_of_row _ w.heap.size (0 + i * s + j) css.flatten.toArray e (0, 0) (heap_alloc_new w _)]
  simp only [List.getElem?_toArray]
  rw [Nat.zero_add, flat_at css i j c h hc hj]; exact hv
section
variable {P : Program} {n : Cx} {fr : Fr} {w : World} {ty : TypeId} {x y z : Operand} {T T2 e : TypeId}
/-- []T{..} of structs, all its elements written out -/
theorem os_litS {l s : Nat} {ps : List (Nat × Operand)} {css : List (List Value)} {z0 : Value} (hT : P.underlying T = some (.slice e)) (hs : ∀ w, (sizeOf e).run P w = .ok s w) (hz : ∀ w, (zeroValue e).run P w = .ok z0 w) (hx : evP fr ps 0 = some (aggs css)) (hl : l = css.length) (h1 : ∀ cs ∈ css, cs.length = s) (h0 : 0 < l) (hs0 : 0 < s) (h2 : l * s ≤ 16777216) :
    OS P n (.buildSlice T l ps.toArray) ty fr w (.slice (some ⟨w.heap.size, 0, none⟩) l l) (w.alloc (.cells css.flatten.toArray e)) := by
  subst hl
  refine os_of fun a ha => ?_
  have hp := ha.evP hx
  have hfill := fill_many hs0 css 0 ((Array.range (css.length * s)).map (fun i => z0.cells[i % z0.cells.size]!)) h1 (by simp)
  simp only [Nat.zero_mul, List.take_zero, List.nil_append] at hfill
  have hgt : ¬ css.length * s > 2 ^ 24 := by omega
  have hne : ¬ css.length * s = 0 := by
    have := Nat.mul_pos h0 hs0; omega
  have hps : List.map (fun p : Nat × Operand => (p.1, a.eval p.2)) ps = partsOf (aggs css) 0 := hp
  simp only [execOp, Instr.buildSlice, run_underlying hT, hs, hz, newRow, Result.andThen, Sem.run_bind, Sem.run_pure, hgt, hne, if_false, hps, hfill, List.map_toArray]
  rfl
end
end Go.Proofs.Ytlfkhnchceoinaa

/- Ranging over a function: the rounds of an iterator; a loop over it. No program in sight. -/
namespace Go.Proofs.Ytlfkhnchceoinaa
open Go.RowKit
set_option linter.unusedVariables false

/-- W' is W grown; of what lay there, blocks that are no cells may have turned, from B on -/
structure Nc (B : Nat) (W W' : World) : Prop where
  os : W'.os = W.os
  tape : W'.tape = W.tape
  output : W'.output = W.output
  size : W.heap.size ≤ W'.heap.size
  block : ∀ (k : Nat) (o : Obj), W.heap[k]? = some o → (k < B ∨ o.isCells = true) → W'.heap[k]? = some o
theorem Nc.refl (B : Nat) (W : World) : Nc B W W := ⟨rfl, rfl, rfl, Nat.le_refl _, fun _ _ h _ => h⟩
theorem Nc.trans {B : Nat} {a b c : World} (h : Nc B a b) (h' : Nc B b c) : Nc B a c := ⟨h'.os.trans h.os, h'.tape.trans h.tape, h'.output.trans h.output, Nat.le_trans h.size h'.size, fun k o hk ho => h'.block k o (h.block k o hk ho) ho⟩
theorem Nc.of_leg {B : Nat} {a b : World} (h : LeG a b) : Nc B a b := ⟨h.os, h.tape, h.output, h.size, fun k o hk _ => (h.block k (Array.getElem?_eq_some_iff.1 hk).1).trans hk⟩
theorem Nc.put {B l : Nat} {W : World} {o : Obj} (o' : Obj) (hl : B ≤ l) (ho : W.heap[l]? = some o) (hc : o.isCells = false) : Nc B W (W.putObj l o') :=
  ⟨rfl, rfl, rfl, by simp, fun k x hk hx => by
    rw [World.putObj_heap_other, hk]
    rintro rfl
    rw [ho] at hk; cases hk
    rcases hx with h | h
    · omega
    · rw [hc] at h; cases h⟩
theorem Nc.below {B n0 : Nat} {w0 W W' : World} (h : Nc B W W') (hb : Below n0 w0 W) (hB : n0 ≤ B) (hn : n0 ≤ w0.heap.size) : Below n0 w0 W' :=
  ⟨h.os.trans hb.os, h.tape.trans hb.tape, h.output.trans hb.output, Nat.le_trans hb.size h.size, fun k hk => by
    have hlt : k < w0.heap.size := by omega
    rw [← hb.block k hk]
    have : k < W.heap.size := Nat.lt_of_lt_of_le hlt hb.size
    rw [Array.getElem?_eq_getElem this]
    exact h.block k _ (Array.getElem?_eq_getElem this) (.inl (by omega))⟩
theorem Nc.cell {B : Nat} {W W' : World} (h : Nc B W W') {a : Addr} {v : Value} (hc : W.cell? a = some v) : W'.cell? a = some v := by
  obtain ⟨o, ho, hc'⟩ := cells_of_cell hc
  rw [World.cell?_of_block (a := a) ((h.block _ o ho (.inr hc')).trans ho.symm)]; exact hc
theorem Nc.frozen {B : Nat} {W W' : World} (h : Nc B W W') {a : Addr} {v : Value} (hc : W.cell? a = some v) : W'.frozen? a = W.frozen? a := by
  obtain ⟨o, ho, hc'⟩ := cells_of_cell hc
  exact World.frozen?_of_block (a := a) ((h.block _ o ho (.inr hc')).trans ho.symm)
theorem Nc.own {B B' : Nat} {W W' : World} (h : Nc B W W') {t : TypeId} {v : Value} {cs : List Value} (ho : Own W B' t v cs) : Own W' B' t v cs := by
  refine ⟨ho.1, ?_⟩
  rcases ho.2 with hn | ⟨g, cap, cur, rfl, hB0, hgg, rest⟩
  · exact .inl hn
  · exact .inr ⟨g, cap, cur, rfl, hB0, h.block _ _ hgg (.inr rfl), rest⟩
theorem Nc.bk {B : Nat} {W W' : World} (h : Nc B W W') {g : Nat} {cs : List Value} {t : TypeId} (hb : Bk W g cs t) : Bk W' g cs t := h.block _ _ hb (.inr rfl)
theorem Nc.rdc {B : Nat} {W W' : World} (h : Nc B W W') {A : Option Addr} {cs : List Value} (hr : RdC W A cs) : RdC W' A cs := fun h0 => by
  obtain ⟨b, o, e, hc⟩ := hr h0
  exact ⟨b, o, e, fun i hi => by rw [List.getElem?_eq_getElem hi]; exact h.cell (by rw [hc i hi, List.getElem?_eq_getElem hi])⟩
theorem Nc.rd {B : Nat} {W W' : World} (h : Nc B W W') {k : IntKind} {A : Option Addr} {zs : List Int} (hr : Rd W k A zs) : Rd W' k A zs := fun h0 => by
  obtain ⟨b, o, e, hc⟩ := hr h0
  exact ⟨b, o, e, fun i hi => h.cell (hc i hi)⟩
theorem Bk.setOther {w : World} {g g' : Nat} {cs : List Value} {t : TypeId} (h : Bk w g cs t) (hne : g' ≠ g) (i : Nat) (u : Value) : Bk (w.setCell ⟨g', i, none⟩ u) g cs t := (Below.heap_setCell _ _ _ _ (fun e => hne e.symm)).trans h
/-- what abides such turns -/
def Abd (B : Nat) (I : World → Prop) : Prop := ∀ W W', I W → Nc B W W' → I W'
theorem Abd.and {B : Nat} {I J : World → Prop} (h : Abd B I) (h' : Abd B J) : Abd B (fun W => I W ∧ J W) := fun W W' hh hn => ⟨h W W' hh.1 hn, h' W W' hh.2 hn⟩
theorem Abd.no {B : Nat} : Abd B (fun _ => False) := fun _ _ h _ => h

/-- blocks that are no cells stay, from B on -/
structure Kn (B : Nat) (W W' : World) : Prop where
  size : W.heap.size ≤ W'.heap.size
  block : ∀ (k : Nat) (o : Obj), B ≤ k → W.heap[k]? = some o → o.isCells = false → W'.heap[k]? = some o
theorem Kn.refl (B : Nat) (W : World) : Kn B W W := ⟨Nat.le_refl _, fun _ _ _ h _ => h⟩
theorem Kn.trans {B : Nat} {a b c : World} (h : Kn B a b) (h' : Kn B b c) : Kn B a c := ⟨Nat.le_trans h.size h'.size, fun k o hB hk ho => h'.block k o hB (h.block k o hB hk ho) ho⟩
theorem Kn.of_leg {B : Nat} {a b : World} (h : LeG a b) : Kn B a b := ⟨h.size, fun k o _ hk _ => (h.block k (Array.getElem?_eq_some_iff.1 hk).1).trans hk⟩
theorem Kn.alloc {B : Nat} (W : World) (o : Obj) : Kn B W (W.alloc o) := Kn.of_leg ((Below.refl _ _).alloc (Nat.le_refl _) _)
theorem Kn.grown {B : Nat} {W W' : World} {row : Option Nat} (h : W.grownBy W' row) (hr : ∀ r, row = some r → ∃ o : Obj, W.heap[r]? = some o ∧ o.isCells = true) : Kn B W W' :=
  ⟨h.size, fun k o _ hk ho => (h.block k (Array.getElem?_eq_some_iff.1 hk).1 (fun e => by
    obtain ⟨o', h1, h2⟩ := hr k e.symm
    rw [hk] at h1; cases h1; rw [ho] at h2; cases h2)).trans hk⟩
theorem Own.row_cells {W : World} {B : Nat} {t : TypeId} {v : Value} {cs : List Value} (ho : Own W B t v cs) : ∀ r, v.ownBlock = some r → ∃ o : Obj, W.heap[r]? = some o ∧ o.isCells = true := fun r e => by
  rcases ho.2 with hn | ⟨g, cap, cur, rfl, hB0, hgg, rest⟩
  · rw [hn.1] at e; cases e
  · cases e; exact ⟨_, hgg, rfl⟩
theorem Kn.set {B : Nat} {W : World} {a : Addr} {v : Value} (hc : W.cell? a = some v) (u : Value) : Kn B W (W.setCell a u) := by
  obtain ⟨o, ho, hc'⟩ := cells_of_cell hc
  refine ⟨by simp [World.setCell], fun k x _ hk hx => ?_⟩
  rw [Below.heap_setCell _ _ _ _ (fun e => ?_)]
  · exact hk
  · rw [e] at hk; rw [ho] at hk; cases hk; rw [hc'] at hx; cases hx

section
variable {P : Program} {n : Cx} {all rest : List Oper} {fr : Fr} {w w' : World} {Q : Exit → Fr → World → Prop} {d : Nat} {op : Op} {ty : TypeId} {pos : String} {aft : Array Edge} {v : Value}

/-- yield, called so in W, tells whether to go on -/
def YieldsAt (P : Program) (l : Nat) (args : Array Value) (W : World) (R : Bool → World → Prop) : Prop :=
  YieldAt (fw none) 0 P l args W fun e W' => ∃ b, e = .returned (.bool b) ∧ R b W'
/-- the rounds of a loop over an iterator -/
def Rounds (P : Program) (l : Nat) (args : Nat → List Value) (N : Nat) (J Jx : Nat → World → Prop) : Prop :=
  ∀ k W, J k W → k < N → YieldsAt P l (args k).toArray W fun b W' => (b = true → J (k + 1) W') ∧ (b = false → Jx k W')

theorem vl_yield {l : Nat} {c : Operand} {xs : List Operand} {ts : Array TypeId} {args : List Value} {R : Bool → World → Prop} (hc : Fr.ev fr c = some (.func (.yield l) #[] #[])) (hx : evL fr xs = some args) (h : YieldsAt P l args.toArray w R)
    (k : ∀ b w', R b w' → VL P n all rest ((d, .bool b) :: fr) w' Q) (hro : n.ro = none := by rfl) : VL P n all (⟨some d, .call ⟨.value c, xs.toArray, ts⟩, ty, pos, aft, none⟩ :: rest) fr w Q := by
  unfold VL at k ⊢
  intro hok a ha
  obtain ⟨h1, h2⟩ := dst_lt hok rfl
  obtain ⟨fn, tmps, ac, body, hy, hR⟩ := h
  unfold wpListIn
  simp only [Region.wanted, if_true]
  refine ⟨fun _ _ => trivial, ?_⟩
  have hrun : (execOp a.eval ⟨some d, .call ⟨.value c, xs.toArray, ts⟩, ty, pos, aft, none⟩).run P w = .ok (.round l fn tmps ac body) w := by
    simp [execOp, resolve, ha.ev hc, ha.evL hx, Deferred.ofValue, invoke, hy]
  rw [show (Oper.semAt (fw n.ro).round a.eval ⟨some d, .call ⟨.value c, xs.toArray, ts⟩, ty, pos, aft, none⟩).run P w = _ from semAt_run hrun (fun d w' e => by cases e)]
  rw [Oper.uponIn_round]
  refine ⟨fun h => by simp [fw] at h, ?_⟩
  rw [hro]
  refine RoundIn.mono hR ?_
  rintro e w' ⟨b, rfl, hb⟩
  have := k b w' hb h2 _ (ha.put h1 (.bool b))
  rw [hro] at this
  exact this

/-- what stands behind the first half of a sequence -/
def VR (P : Program) (n : Cx) (B y : Code) (fr : Fr) (w : World) (Q : Exit → Fr → World → Prop) : Prop :=
  codeOk n.sz B = true → codeOk n.sz y = true → ∀ a, Ag n fr a → B.wpIn (fw n.ro) 0 P (Exit.then (y.wpIn (fw n.ro) 0 P (up n Q)) (up n Q)) a w
def ThnR (P : Program) (n : Cx) (B y : Code) (Q : Exit → Fr → World → Prop) : Exit → Fr → World → Prop
  | .normal, fr, w => VR P n B y fr w Q
  | e, fr, w => Q e fr w
theorem v_range_seq {A B y : Code} (h : V P n A fr w (ThnR P n B y Q)) : V P n (.seq (.seq A B) y) fr w Q := by
  unfold V at h ⊢
  intro hok a ha
  simp only [codeOk, Bool.and_eq_true] at hok
  refine wpIn_seq (wpIn_seq (wpIn_mono (h hok.1.1 a ha) (fun e a' w' hh => ?_)))
  rcases hh with ⟨fr', h1, h2⟩ | ⟨rfl, h2⟩
  · cases e with
    | normal => exact h2 hok.1.2 hok.2 a' h1
    | _ => exact .inl ⟨fr', h1, h2⟩
  · exact .inr ⟨rfl, h2⟩

def zipFr : List Nat → List Value → Fr → Fr
  | p :: ps, v :: vs, fr => zipFr ps vs ((p, v) :: fr)
  | _, _, fr => fr
theorem zipFr_ag {C : Cx} (hds : C.ds = []) : ∀ (ps : List Nat) (vs : List Value) (fr : Fr) (t : Array Value), (ps.all fun p => Nat.blt p C.sz) = true → ps.length = vs.length → Ag C fr { tmps := t, defers := [] } →
    Ag C (zipFr ps vs fr) { tmps := (ps.zip vs).foldl (fun t (p, a) => t.setIfInBounds p a) t, defers := [] }
  | [], [], fr, t, _, _, h => h
  | p :: ps, v :: vs, fr, t, hp, hl, h => by
    simp only [List.all_cons, Bool.and_eq_true] at hp
    have h1 : p < C.sz := (Nat.blt_eq ..).mp hp.1
    have h2 := h.put h1 v
    exact zipFr_ag hds ps vs ((p, v) :: fr) (t.setIfInBounds p v) hp.2 (by simpa using hl) h2
  | [], _ :: _, _, _, _, hl, _ => by simp at hl
  | _ :: _, [], _, _, _, hl, _ => by simp at hl

/-- the jump by which a round leaves the loop -/
def jumpOf : Exit → Option Code
  | .ret => some .ret
  | .exit k => some (.exit k)
  | _ => none
/-- how a round may be left -/
def RPost (B : Nat) (J : World → Prop) (Ix : Exit → World → Prop) (W : World) : Exit → Fr → World → Prop
  | .normal, _, W' => Kn B W W' ∧ J W'
  | .ret, _, W' => Kn B W W' ∧ Ix .ret W'
  | .exit k, _, W' => Kn B W W' ∧ Ix (.exit k) W'
  | _, _, _ => False
def collD (D : Nat) : List Deferred := [{ target := .collected D, args := #[] }]
/-- the function's end behind a loop over a function -/
def PostE (n : Cx) (D : Nat) : Exit → Fr → World → Prop := fun e fr W => e = .ret ∧ ∀ a, Ag ⟨n.sz, none, collD D, n.esc⟩ fr a → n.esc a W

attribute [reducible] ThnR RPost
section
variable {fn : Func} {T : Value → World → Prop} {t t2 : Nat} {A : Addr} {u v2 : Value} {T1 : TypeId} {D : Nat}
theorem post_m {z : Nat} {ro : Option Nat} {ds : List Deferred} (hK : w.heap[D]? = some (.deferred (some []))) (hr : ∀ a, Ag ⟨z, none, collD D, EndM P fn T⟩ fr a → (results fn a.tmps).run P (w.putObj D (.deferred none)) = .ok v (w.putObj D (.deferred none)))
    (hT : T v (w.putObj D (.deferred none))) : PostE ⟨z, ro, ds, EndM P fn T⟩ D .ret fr w := ⟨rfl, fun a ha => ⟨D, v, ha.defers, hK, hr a ha, hT⟩⟩
theorem post_of (hr : ∀ a, Ag n fr a → (results fn a.tmps).run P w = .ok v w) (hT : T v w) : Post P n fn T .ret fr w := by unfold Post; exact ⟨v, hr, hT⟩
theorem res_ct (hf : fn.results = #[.cell t T1, .tmp t2]) (hg : Fr.get fr t = some (.pointer (some A))) (hg2 : Fr.get fr t2 = some v2) (hagg : ∀ w, (isAgg T1).run P w = .ok false w) (hc : w.cell? A = some u) {a : Act} (ha : Ag n fr a) : (results fn a.tmps).run P w = .ok (.tuple #[u, v2]) w := by
  have h1 : a.tmps.getD t undef = .pointer (some A) := by simp [Array.getD_eq_getD_getElem?, ha.at_ t _ hg]
  have h2 : a.tmps.getD t2 undef = v2 := by simp [Array.getD_eq_getD_getElem?, ha.at_ t2 _ hg2]
  simp only [Array.getD_eq_getD_getElem?] at h1 h2
  simp [results, hf, h1, h2, asAddr, loadVar, hagg, hc]
theorem res_cc {A2 : Addr} {u2 : Value} {T2 : TypeId} (hf : fn.results = #[.cell t T1, .cell t2 T2]) (hg : Fr.get fr t = some (.pointer (some A))) (hg2 : Fr.get fr t2 = some (.pointer (some A2))) (hagg : ∀ w, (isAgg T1).run P w = .ok false w) (hagg2 : ∀ w, (isAgg T2).run P w = .ok false w) (hc : w.cell? A = some u) (hc2 : w.cell? A2 = some u2) {a : Act} (ha : Ag n fr a) : (results fn a.tmps).run P w = .ok (.tuple #[u, u2]) w := by
  have h1 : a.tmps.getD t undef = .pointer (some A) := by simp [Array.getD_eq_getD_getElem?, ha.at_ t _ hg]
  have h2 : a.tmps.getD t2 undef = .pointer (some A2) := by simp [Array.getD_eq_getD_getElem?, ha.at_ t2 _ hg2]
  simp only [Array.getD_eq_getD_getElem?] at h1 h2
  simp [results, hf, h1, h2, asAddr, loadVar, hagg, hagg2, hc, hc2]
theorem res_c (hf : fn.results = #[.cell t T1]) (hg : Fr.get fr t = some (.pointer (some A))) (hagg : ∀ w, (isAgg T1).run P w = .ok false w) (hc : w.cell? A = some u) {a : Act} (ha : Ag n fr a) : (results fn a.tmps).run P w = .ok u w := by
  have h1 : a.tmps.getD t undef = .pointer (some A) := by simp [Array.getD_eq_getD_getElem?, ha.at_ t _ hg]
  simp only [Array.getD_eq_getD_getElem?] at h1
  simp [results, hf, h1, asAddr, loadVar, hagg, hc]
theorem res_t (hf : fn.results = #[.tmp t]) (hg : Fr.get fr t = some v) {a : Act} (ha : Ag n fr a) : (results fn a.tmps).run P w = .ok v w := by
  rw [results_tmp hf]; simp [Array.getD_eq_getD_getElem?, ha.at_ t v hg]
theorem res_tt (hf : fn.results = #[.tmp t, .tmp t2]) (hg : Fr.get fr t = some v) (hg2 : Fr.get fr t2 = some v2) {a : Act} (ha : Ag n fr a) : (results fn a.tmps).run P w = .ok (.tuple #[v, v2]) w := by
  rw [results_tmp2 hf]; simp [Array.getD_eq_getD_getElem?, ha.at_ t v hg, ha.at_ t2 v2 hg2]
end

set_option maxHeartbeats 1000000 in
theorem v_range {id : Nat} {g : Operand} {ps : List Nat} {ac body y : Code} {gf : FuncId} {lb : List Value} (N : Nat) (args : Nat → List Value) (I : Nat → World → Prop) (Ix : Exit → World → Prop) (FB : Nat → Fr)
    (he : Enters P gf) (hg : Fr.ev fr g = some (.func (.func gf) #[] lb.toArray)) (hps : ∀ k, ps.length = (args k).length) (hI : ∀ k, Abd w.heap.size (I k)) (hIx : ∀ e, Abd w.heap.size (Ix e)) (h0 : I 0 w)
    (hiter : ∀ (l : Nat) (J Jx : Nat → World → Prop) (W : World), LeG w W → (∀ k W, J k W → I k W) → (∀ k W W', J k W → LeG W W' → J k W') → (∀ k W W', Jx k W → LeG W W' → Jx k W') → Rounds P l args N J Jx → J 0 W →
      Gives P gf (Value.func (.yield l) #[] #[] :: lb).toArray W fun _ W' => J N W' ∨ ∃ k, Jx k W')
    (hassign : ∀ l k W, V P ⟨n.sz, some l, [], fun _ _ => False⟩ ac (zipFr ps (args k) fr) W fun e fr' W' => e = .normal ∧ W' = W ∧ Sub (FB k) fr')
    (hbody : ∀ l k W, k < N → I k W → V P ⟨n.sz, some l, [], fun _ _ => False⟩ body (FB k) W (RPost w.heap.size (I (k + 1)) Ix W))
    (hdone : ∀ D W, w.heap.size ≤ D → W.heap[D]? = some (.deferred (some [])) → I N W → V P ⟨n.sz, none, collD D, n.esc⟩ y fr W (PostE n D))
    (hret : ∀ D W, w.heap.size ≤ D → W.heap[D]? = some (.deferred (some [])) → Ix .ret W → PostE n D .ret fr W)
    (hexit : ∀ j D W, w.heap.size ≤ D → W.heap[D]? = some (.deferred (some [])) → Ix (.exit j) W → j = id ∧ V P ⟨n.sz, none, collD D, n.esc⟩ y fr W (PostE n D))
    (hro : n.ro = none := by rfl) (hds : n.ds = [] := by rfl) (hps2 : (ps.all fun p => Nat.blt p n.sz) = true := by rfl) (hok1 : codeOk n.sz ac = true := by kernel_rfl) (hok2 : codeOk n.sz body = true := by kernel_rfl) :
    VR P n (.block id (.rangeFunc g ps.toArray ac body)) y fr w Q := by
  unfold V at hassign hbody
  intro _ hokY a ha
  rw [fw_none hro]
  refine wpIn_block (wpIn_rangeFunc fun fn _ => ?_)
  obtain ⟨rec, hrec⟩ : ∃ rec : LoopState → Option Code → Loop, rec = fun st pe => { state := st, pending := pe, fn, tmps := a.tmps, params := ps.toArray, assign := ac, body, defers := w.heap.size } := ⟨_, rfl⟩
  obtain ⟨W1, hW1⟩ : ∃ W1, (w.alloc (.deferred (some []))).alloc (.loop (rec .ready none)) = W1 := ⟨_, rfl⟩
  obtain ⟨l, hl⟩ : ∃ l, l = w.heap.size + 1 := ⟨_, rfl⟩
  have hL1 : W1.heap[l]? = some (.loop (rec .ready none)) := by
    rw [← hW1, hl]; have := World.alloc_heap_new (w.alloc (.deferred (some []))) (.loop (rec .ready none)); rwa [World.size_alloc] at this
  have hK1 : W1.heap[w.heap.size]? = some (.deferred (some [])) := by
    rw [← hW1]; exact (Below.heap_alloc _ _ _ (by simp)).trans (World.alloc_heap_new w _)
  have hg1 : LeG w W1 := by
    rw [← hW1]; exact ((Below.refl _ w).alloc (Nat.le_refl _) _).alloc (by simp) _
  have hact : Ag ⟨n.sz, none, collD w.heap.size, n.esc⟩ fr { a with defers := collD w.heap.size ++ a.defers } := ⟨by rw [ha.defers, hds]; rfl, ha.size, ha.at_⟩
  -- behind the loop
  have hend : ∀ W, W.heap[w.heap.size]? = some (.deferred (some [])) → (V P ⟨n.sz, none, collD w.heap.size, n.esc⟩ y fr W (PostE n w.heap.size)) → y.wpIn Fence.wide 0 P (up n Q) { a with defers := collD w.heap.size ++ a.defers } W := by
    intro W hD hV
    unfold V at hV
    refine wpIn_mono (hV hokY _ hact) ?_
    rintro e a' w' (⟨fr', h1, rfl, h2⟩ | ⟨rfl, h2⟩)
    · exact .inr ⟨rfl, h2 a' h1⟩
    · exact .inr ⟨rfl, h2⟩
  have hendR : ∀ W, PostE n w.heap.size .ret fr W → up n Q .ret { a with defers := collD w.heap.size ++ a.defers } W := fun W h => .inr ⟨rfl, h.2 _ hact⟩
  refine ⟨l, collD w.heap.size, W1, { target := .fn (.func gf) lb.toArray, args := #[.func (.yield l) #[] #[]] }, W1, gf, #[.func (.yield l) #[] #[]] ++ lb.toArray, W1, ?_, ?_, fun _ _ => trivial, ?_, fun h => by simp [Fence.wide] at h, ?_⟩
  · rw [← hW1, hrec, hl]; exact run_enterLoop_outer _ _ _ _ _
  · simp only [resolve, ha.ev hg]
    simp [go_sem]
  · simp [invoke, he _ W1]
  · -- the rounds
    have hJ : ∀ (k : Nat) (st : LoopState) (pe : Option Code) (X : World → Prop), Abd w.heap.size X → ∀ W W', (X W ∧ W.heap[l]? = some (.loop (rec st pe)) ∧ W.heap[w.heap.size]? = some (.deferred (some []))) → LeG W W' →
        (X W' ∧ W'.heap[l]? = some (.loop (rec st pe)) ∧ W'.heap[w.heap.size]? = some (.deferred (some []))) := fun k st pe X hX W W' h hh =>
      ⟨hX W W' h.1 (Nc.of_leg hh), (hh.block _ (Array.getElem?_eq_some_iff.1 h.2.1).1).trans h.2.1, (hh.block _ (Array.getElem?_eq_some_iff.1 h.2.2).1).trans h.2.2⟩
    have hlw : w.heap.size ≤ l := by omega
    have hit := hiter l (fun k W => I k W ∧ W.heap[l]? = some (.loop (rec .ready none)) ∧ W.heap[w.heap.size]? = some (.deferred (some [])))
      (fun _ W => ∃ e c, jumpOf e = some c ∧ Ix e W ∧ W.heap[l]? = some (.loop (rec .done (some c))) ∧ W.heap[w.heap.size]? = some (.deferred (some []))) W1 hg1 (fun k W h => h.1)
      (fun k => hJ k .ready none (I k) (hI k)) (fun k W W' ⟨e, c, h1, h2⟩ hh => ⟨e, c, h1, hJ k .done (some c) (Ix e) (hIx e) W W' h2 hh⟩) ?_ ⟨hI 0 w W1 h0 (Nc.of_leg hg1), hL1, hK1⟩
    · unfold Gives at hit
      have hc := hit.2
      rw [show (Value.func (.yield l) #[] #[] :: lb).toArray = (#[.func (.yield l) #[] #[]] ++ lb.toArray : Array Value) by simp] at hc
      refine callsIn_wide.2 (hc.mono ?_)
      rintro e W2 ⟨v, rfl, hh⟩
      rcases hh with ⟨hi, hL, hK⟩ | ⟨k, e, c, hj, hi, hL, hK⟩
      · refine ⟨none, _, by have := run_endLoop (P := P) hL (by rw [hrec]; simp); rw [hrec] at this; exact this, ?_⟩
        exact hend _ ((World.putObj_heap_other (by omega)).trans hK) (hdone _ _ (Nat.le_refl _) ((World.putObj_heap_other (by omega)).trans hK) (hI N _ _ hi (Nc.put _ hlw hL rfl)))
      · refine ⟨some c, _, by have := run_endLoop (P := P) hL (by rw [hrec]; simp); rw [hrec] at this; exact this, ?_⟩
        have hi' := hIx e _ _ hi (Nc.put (.loop { rec .done (some c) with state := .exhausted }) hlw hL rfl)
        have hK' : (W2.putObj l (.loop { rec .done (some c) with state := .exhausted })).heap[w.heap.size]? = some (.deferred (some [])) := (World.putObj_heap_other (by omega)).trans hK
        rw [hrec] at hi' hK'
        cases e with
        | ret => cases hj; exact wpIn_ret (hendR _ (hret _ _ (Nat.le_refl _) hK' hi'))
        | exit j =>
          cases hj
          obtain ⟨rfl, hV⟩ := hexit j _ _ (Nat.le_refl _) hK' hi'
          refine wpIn_exit ?_
          have := hend _ hK' hV
          simpa [Exit.inBlock, Exit.then] using this
        | _ => cases hj
    · rintro k W ⟨hi, hL, hK⟩ hk
      have hy := run_yield (P := P) (args := (args k).toArray) hL (by rw [hrec]; simpa using (hps k).symm)
      rw [hrec] at hy
      refine ⟨fn, _, ac, body, hy, roundIn_of_wpIn trivial ?_⟩
      have hag0 : Ag ⟨n.sz, some l, [], fun _ _ => False⟩ fr { tmps := a.tmps, defers := [] } := ⟨rfl, ha.size, ha.at_⟩
      have hag := zipFr_ag (C := ⟨n.sz, some l, [], fun _ _ => False⟩) rfl ps (args k) fr a.tmps hps2 (hps k) hag0
      have ht : ((ps.toArray.zip (args k).toArray).foldl (fun tmps (t, a) => tmps.setIfInBounds t a) a.tmps) = (ps.zip (args k)).foldl (fun t (p, a) => t.setIfInBounds p a) a.tmps := by simp
      have hlt : l < W.heap.size := (Array.getElem?_eq_some_iff.1 hL).1
      have hb := run_beginRound (P := P) hL (by rw [hrec])
      show Code.wpIn (fw (some l)) 0 P _ _ _ W
      have hkL : (W.putObj l (.loop { rec .ready none with state := .busy })).heap[l]? = some (.loop { rec .ready none with state := .busy }) := World.putObj_heap_same hlt
      have hkK : (W.putObj l (.loop { rec .ready none with state := .busy })).heap[w.heap.size]? = some (.deferred (some [])) := (World.putObj_heap_other (by omega)).trans hK
      have hkI := hI k _ _ hi (Nc.put (.loop { rec .ready none with state := .busy }) hlw hL rfl)
      rw [ht]
      refine wpIn_mono (hassign l k W hok1 _ hag) ?_
      rintro e a1 W' (⟨fr1, h1, rfl, rfl, h3⟩ | ⟨_, h⟩)
      · refine ⟨_, hb, wpIn_mono (hbody l k _ hk hkI hok2 a1 (h1.sub h3)) ?_⟩
        have fin : ∀ (jump : Option Code) (W3 : World), Kn w.heap.size (W'.putObj l (.loop { rec .ready none with state := .busy })) W3 →
            (Instr.endRound l jump).run P W3 = .ok (.bool jump.isNone) (W3.putObj l (.loop (rec (if jump.isNone then .ready else .done) jump))) ∧ Nc w.heap.size W3 (W3.putObj l (.loop (rec (if jump.isNone then .ready else .done) jump))) ∧
            (W3.putObj l (.loop (rec (if jump.isNone then .ready else .done) jump))).heap[l]? = some (.loop (rec (if jump.isNone then .ready else .done) jump)) ∧
            (W3.putObj l (.loop (rec (if jump.isNone then .ready else .done) jump))).heap[w.heap.size]? = some (.deferred (some [])) := fun jump W3 hk3 => by
          have hl3 := hk3.block _ _ hlw hkL rfl
          have hd3 := hk3.block _ _ (Nat.le_refl _) hkK rfl
          have := run_endRound (P := P) jump hl3
          refine ⟨?_, Nc.put _ hlw hl3 rfl, World.putObj_heap_same (Array.getElem?_eq_some_iff.1 hl3).1, (World.putObj_heap_other (by omega)).trans hd3⟩
          rw [hrec] at this ⊢
          exact this
        rintro e a3 W3 (⟨fr3, h4, h5⟩ | ⟨_, h⟩)
        · cases e with
          | normal =>
            obtain ⟨h6, h7⟩ := h5
            obtain ⟨r1, r2, r3, r4⟩ := fin none W3 h6
            exact ⟨_, _, r1, true, rfl, fun _ => ⟨hI _ _ _ h7 r2, r3, r4⟩, fun h => by cases h⟩
          | ret =>
            obtain ⟨h6, h7⟩ := h5
            obtain ⟨r1, r2, r3, r4⟩ := fin (some .ret) W3 h6
            exact ⟨_, _, r1, (some Code.ret).isNone, rfl, fun h => by simp at h, fun _ => ⟨.ret, .ret, rfl, hIx .ret _ _ h7 r2, r3, r4⟩⟩
          | exit j =>
            obtain ⟨h6, h7⟩ := h5
            obtain ⟨r1, r2, r3, r4⟩ := fin (some (.exit j)) W3 h6
            exact ⟨_, _, r1, (some (Code.exit j)).isNone, rfl, fun h => by simp at h, fun _ => ⟨.exit j, .exit j, rfl, hIx (.exit j) _ _ h7 r2, r3, r4⟩⟩
          | _ => exact h5.elim
        · exact h.elim
      · exact h.elim
end
section
variable {P : Program} {n : Cx} {fr : Fr} {w : World} {ty T : TypeId}
theorem os_alloc1 {z0 : Value} (hz : ∀ w, (zeroValue T).run P w = .ok z0 w) (h1 : z0.cells = #[z0]) : OS P n (.alloc T) ty fr w (.pointer (some ⟨w.heap.size, 0, none⟩)) (w.alloc (.cells [z0].toArray T)) := by
  have := os_alloc (P := P) (n := n) (ty := ty) (fr := fr) (w := w) hz
  rw [h1] at this
  exact this
end
end Go.Proofs.Ytlfkhnchceoinaa

/- Lists of structs that a call owns. No program in sight. -/
namespace Go.Proofs.Ytlfkhnchceoinaa
open Go.RowKit
set_option linter.unusedVariables false

/-- v is a list of the call's own, of parts of s cells each -/
def OwnP (w : World) (B : Nat) (t : TypeId) (s : Nat) (v : Value) (ps : List (List Value)) : Prop := (∀ c ∈ ps, c.length = s) ∧ w.ownsRow B t s v ps.length ps.flatten
section
variable {w w' : World} {B B' : Nat} {t : TypeId} {s : Nat} {v : Value} {ps : List (List Value)}
theorem OwnP.nil : OwnP w B t s (.slice none 0 0) [] := ⟨fun c hc => (by cases hc), World.ownsRow_nil w B _ s⟩
theorem OwnP.lt (h : OwnP w B t s v ps) : ∀ k, v.ownBlock = some k → B ≤ k ∧ k < w.heap.size := World.ownsRow.lt h.2
theorem OwnP.blk (h : OwnP w B t s v ps) {w'' : World} (hk : ∀ k, v.ownBlock = some k → w''.heap[k]? = w.heap[k]?) : OwnP w'' B t s v ps := by
  refine ⟨h.1, h.2.1, ?_⟩
  rcases h.2.2 with hn | ⟨g, cap, cur, rfl, hB0, hgg, rest⟩
  · exact .inl hn
  · exact .inr ⟨g, cap, cur, rfl, hB0, (hk g rfl).trans hgg, rest⟩
theorem OwnP.keepAll (h : OwnP w B t s v ps) (hb : Below w.heap.size w w') : OwnP w' B t s v ps := h.blk fun k hk => hb.block k (h.lt k hk).2
theorem OwnP.alloc (h : OwnP w B t s v ps) (o : Obj) : OwnP (w.alloc o) B t s v ps := h.keepAll ((Below.refl _ _).alloc (Nat.le_refl _) o)
theorem OwnP.led (h : OwnP w B t s v ps) (hb : LeD w w') : OwnP w' B t s v ps := by obtain ⟨q, rfl⟩ := hb; exact h
theorem OwnP.mono (h : OwnP w B t s v ps) (hb : B' ≤ B) : OwnP w B' t s v ps := by
  refine ⟨h.1, h.2.1, ?_⟩
  rcases h.2.2 with hn | ⟨g, cap, cur, rfl, hB0, rest⟩
  · exact .inl hn
  · exact .inr ⟨g, cap, cur, rfl, by omega, rest⟩
theorem OwnP.form (h : OwnP w B t s v ps) : ∃ A c, v = .slice A ps.length c ∧ ps.length ≤ c ∧ c ≤ maxLen ∧ RdP w s A ps := by
  have hl := h.2.1
  rcases h.2.2 with ⟨rfl, h0⟩ | ⟨g, cap, cur, rfl, hB0, hgg, hnc, hcm, hs, ht⟩
  · refine ⟨none, 0, by rw [h0], by omega, by simp [maxLen], fun i c hc => ?_⟩
    have := List.eq_nil_of_length_eq_zero h0
    subst this; simp at hc
  · refine ⟨_, cap, rfl, hnc, hcm, fun i c hc => ⟨g, 0, rfl, fun j u hu => ?_⟩⟩
    have hi := (List.getElem?_eq_some_iff.1 hc).1
    have hj := (List.getElem?_eq_some_iff.1 hu).1
    have hcl := h.1 c (List.mem_of_getElem? hc)
    have hij : i * s + j < ps.length * s := by
      have : (i + 1) * s ≤ ps.length * s := Nat.mul_le_mul_right _ hi
      rw [Nat.add_mul, Nat.one_mul] at this
      omega
    rw [cell_of_row _ g (0 + i * s + j) cur t (0, 0) hgg, Nat.zero_add]
    have hcur : cur.toList[i * s + j]? = some u := by
      have e : (cur.toList.take (ps.length * s))[i * s + j]? = some u := by rw [ht, flat_at ps i j c h.1 hc (by omega)]; exact hu
      rw [List.getElem?_take, if_pos hij] at e
      exact e
    rw [← Array.getElem?_toList]; exact hcur
theorem Nc.ownP {Z : Nat} (h : Nc Z w w') (ho : OwnP w B t s v ps) : OwnP w' B t s v ps := by
  refine ⟨ho.1, ho.2.1, ?_⟩
  rcases ho.2.2 with hn | ⟨g, cap, cur, rfl, hB0, hgg, rest⟩
  · exact .inl hn
  · exact .inr ⟨g, cap, cur, rfl, hB0, h.block _ _ hgg (.inr rfl), rest⟩
theorem OwnP.below {w0 : World} (hb : Below B w0 w) (ho : OwnP w B' t s v ps) (hg : w.grownBy w' v.ownBlock) (hB : B ≤ B') (hs : B ≤ w.heap.size) : Below B w0 w' := hb.grown hg hs (fun k hk => Nat.le_trans hB (ho.lt k hk).1)
end
section
variable {P : Program} {n : Cx} {fr : Fr} {w w' : World} {ty : TypeId} {x y z : Operand} {v u : Value} {T T2 e : TypeId} {op : Op}
/-- append(s, x...) of structs, and where the result's row lies -/
theorem ot_append_p {A : Option Addr} {m c s : Nat} {ps news : List (List Value)} {z0 : Value} {bytes : Nat} {B : Nat} (hT : P.underlying T = some (.slice e)) (hi : TyInfo P e z0 s bytes) (hz : z0.cells.size = s) (hs0 : 0 < s) (hx : Fr.ev fr x = some v) (hy : Fr.ev fr y = some (.slice A m c))
    (ho : OwnP w B e s v ps) (hr : RdP w s A news) (hnl : ∀ c ∈ news, c.length = s) (hm : m = news.length) (h0 : 0 < news.length) (h1 : ∀ c ∈ news, ∀ u ∈ c, u.oneCell' = true) (hb : (ps.length + m) * bytes ≤ 140737488355328) (hl : ps.length + m ≤ maxLen) (hB : B ≤ w.heap.size) :
    OT P n (.call ⟨.builtin .append, #[x, y], #[T, T]⟩) ty fr w fun v' w' => OwnP w' B e s v' (ps ++ news) ∧ w.grownBy w' v.ownBlock ∧ (v'.ownBlock = v.ownBlock ∨ v'.ownBlock = some w.heap.size) := by
  obtain ⟨i, i1, i2, i3, i4⟩ := info_parts hi
  obtain ⟨b, o, rfl, _⟩ := hr 0 _ (List.getElem?_eq_getElem h0)
  obtain ⟨v', w', hrun, ho', hg, _, hown⟩ := run_append_own_at (P := P) w B T ty e i z0 s bytes hT i1 i2 i3 i4 hz hs0 v ps.length ps.flatten ho.2 ⟨b, o, none⟩ m c news.flatten (by rw [flat_len news hnl, hm])
    (fun j u hu => by
      have hj := (List.getElem?_eq_some_iff.1 hu).1
      rw [flat_len news hnl] at hj
      have e1 := Nat.div_add_mod j s
      have e2 := Nat.mod_lt j hs0
      have hi' : j / s < news.length := Nat.div_lt_of_lt_mul (by rw [Nat.mul_comm]; exact hj)
      have hc : news[j / s]? = some news[j / s] := List.getElem?_eq_getElem hi'
      have hu' : (news[j / s])[j % s]? = some u := by
        rw [← flat_at news (j / s) (j % s) _ hnl hc e2, show j / s * s + j % s = j by rw [Nat.mul_comm]; exact e1]; exact hu
      obtain ⟨b', o', e3, hcell⟩ := hr (j / s) _ hc
      cases e3
      have := hcell (j % s) u hu'
      rw [addr_add]
      rwa [show o + j / s * s + j % s = o + j by rw [Nat.add_assoc, Nat.mul_comm (j / s)]; omega] at this) (fun u hu => by
      obtain ⟨c, hc, hu⟩ := List.mem_flatten.1 hu
      exact h1 c hc u hu) hl hb hB
  refine ot_of fun a ha => ⟨v', w', by simp [execOp, resolve, invoke, builtin, ha.ev hx, ha.ev hy, hrun, Result.andThen], ⟨fun c hc => ?_, ?_⟩, hg, hown⟩
  · rcases List.mem_append.1 hc with h | h
    · exact ho.1 c h
    · exact hnl c h
  · rw [List.length_append, ← hm, List.flatten_append]
    exact ho'
end
end Go.Proofs.Ytlfkhnchceoinaa

/- Layer 7, plain: the sums as functions on bits; they are linear. No program in sight. -/
namespace Go.Proofs.Ytlfkhnchceoinaa
open Go.RowKit

def crcPoly : BitVec 32 := 0xEDB88320#32
def crcRnd (s : BitVec 32) : BitVec 32 := (s >>> 1) ^^^ (crcPoly &&& -(s &&& 1#32))
def crcRnds : Nat → BitVec 32 → BitVec 32
  | 0, s => s
  | k + 1, s => crcRnd (crcRnds k s)
def crcTab (n : Nat) : BitVec 32 := crcRnds 8 (BitVec.ofNat 32 n)
def crcStep (s : BitVec 32) (z : Int) : BitVec 32 := (s >>> 8) ^^^ crcTab (s.setWidth 8 ^^^ BitVec.ofInt 8 z).toNat
def crcRun (s : BitVec 32) (zs : List Int) : BitVec 32 := zs.foldl crcStep s
def crcGo (s : BitVec 32) (zs : List Int) : BitVec 32 := ~~~ crcRun (~~~ s) zs
def crcOf (parts : List (List Int)) : BitVec 32 := ~~~ parts.foldl crcRun (~~~ 0#32)

theorem crc_neg (s : BitVec 32) : -(s &&& 1#32) = if s.getLsbD 0 then BitVec.allOnes 32 else 0#32 := by
  have h : s &&& 1#32 = if s.getLsbD 0 then 1#32 else 0#32 := by
    apply BitVec.eq_of_getLsbD_eq
    intro i hi
    by_cases h0 : i = 0
    · subst h0
      cases hs : s.getLsbD 0 <;> simp at hs ⊢ <;> simp [hs]
    · have h1 : (1#32).getLsbD i = false := by simp [BitVec.getLsbD_one, h0]
      simp only [BitVec.getLsbD_and, h1, Bool.and_false]
      split <;> simp [h1]
  rw [h]
  split <;> decide
theorem crcRnd_eq (s : BitVec 32) : crcRnd s = (s >>> 1) ^^^ (if s.getLsbD 0 then crcPoly else 0#32) := by
  unfold crcRnd
  rw [crc_neg]
  split
  · rw [show crcPoly &&& BitVec.allOnes 32 = crcPoly from by decide]
  · rw [show crcPoly &&& 0#32 = 0#32 from by decide]
theorem xor_lc (a b c : BitVec 32) : a ^^^ (b ^^^ c) = b ^^^ (a ^^^ c) := by rw [← BitVec.xor_assoc, BitVec.xor_comm a b, BitVec.xor_assoc]
theorem xor_cc (a b : BitVec 32) : a ^^^ (a ^^^ b) = b := by rw [← BitVec.xor_assoc]; simp
theorem crcRnd_xor (a b : BitVec 32) : crcRnd (a ^^^ b) = crcRnd a ^^^ crcRnd b := by
  rw [crcRnd_eq, crcRnd_eq, crcRnd_eq, BitVec.ushiftRight_xor_distrib, BitVec.getLsbD_xor]
  generalize a >>> 1 = x
  generalize b >>> 1 = y
  cases a.getLsbD 0 <;> cases b.getLsbD 0 <;> simp [BitVec.xor_assoc]
  · rw [BitVec.xor_comm]
  · rw [BitVec.xor_comm y, xor_cc]
theorem crcRnds_xor (k : Nat) (a b : BitVec 32) : crcRnds k (a ^^^ b) = crcRnds k a ^^^ crcRnds k b := by
  induction k with
  | zero => rfl
  | succ k ih => simp only [crcRnds, ih, crcRnd_xor]
theorem crcRnds_zero (k : Nat) : crcRnds k 0#32 = 0#32 := by
  induction k with
  | zero => rfl
  | succ k ih => simp only [crcRnds, ih]; decide
/-- rounds that take out noughts shift -/
theorem crcRnds_shift (k : Nat) : ∀ s : BitVec 32, (∀ i, i < k → s.getLsbD i = false) → crcRnds k s = s >>> k := by
  induction k with
  | zero => intro s _; simp [crcRnds]
  | succ k ih =>
    intro s h
    simp only [crcRnds]
    rw [ih s (fun i hi => h i (by omega)), crcRnd_eq]
    have : (s >>> k).getLsbD 0 = false := by simpa using h k (by omega)
    rw [this]
    simp [← BitVec.shiftRight_add]
theorem crcStep_rnds (s : BitVec 32) (z : Int) : crcStep s z = crcRnds 8 (s ^^^ BitVec.setWidth 32 (BitVec.ofInt 8 z)) := by
  have h : s ^^^ BitVec.setWidth 32 (BitVec.ofInt 8 z) = ((s >>> 8) <<< 8) ^^^ BitVec.setWidth 32 (s.setWidth 8 ^^^ BitVec.ofInt 8 z) := by
    apply BitVec.eq_of_getLsbD_eq
    intro i hi
    simp only [BitVec.getLsbD_xor, BitVec.getLsbD_setWidth, BitVec.getLsbD_shiftLeft, BitVec.getLsbD_ushiftRight, hi, decide_true, Bool.true_and]
    by_cases h8 : i < 8
    · simp [h8]
    · simp [h8, show 8 + (i - 8) = i by omega]
  rw [h, crcRnds_xor, crcRnds_shift 8 _ (fun i hi => by simp [hi])]
  unfold crcStep crcTab
  congr 1
  · apply BitVec.eq_of_getLsbD_eq
    intro i hi
    simp only [BitVec.getLsbD_ushiftRight, BitVec.getLsbD_shiftLeft]
    by_cases h1 : 8 + i < 32
    · simp [h1]
    · simp [h1]; exact BitVec.getLsbD_of_ge _ _ (by omega)
  · congr 1
    apply BitVec.eq_of_toNat_eq
    simp [BitVec.toNat_setWidth, BitVec.toNat_ofNat]
theorem crcStep_xor (a b : BitVec 32) (x y z : Int) (h : BitVec.ofInt 8 z = BitVec.ofInt 8 x ^^^ BitVec.ofInt 8 y) : crcStep (a ^^^ b) z = crcStep a x ^^^ crcStep b y := by
  rw [crcStep_rnds, crcStep_rnds, crcStep_rnds, ← crcRnds_xor, h]
  congr 1
  rw [BitVec.setWidth_xor]
  generalize BitVec.setWidth 32 (BitVec.ofInt 8 x) = u
  generalize BitVec.setWidth 32 (BitVec.ofInt 8 y) = v
  rw [BitVec.xor_assoc, BitVec.xor_assoc, xor_lc b u v]
theorem crcRun_xor : ∀ (xs ys zs : List Int) (a b : BitVec 32), xs.length = ys.length → zs.length = xs.length → (∀ i, i < xs.length → BitVec.ofInt 8 (zs.getD i 0) = BitVec.ofInt 8 (xs.getD i 0) ^^^ BitVec.ofInt 8 (ys.getD i 0)) →
    crcRun (a ^^^ b) zs = crcRun a xs ^^^ crcRun b ys
  | [], ys, zs, a, b, h1, h2, _ => by
    have e1 : ys = [] := List.eq_nil_of_length_eq_zero (by simpa using h1.symm)
    have e2 : zs = [] := List.eq_nil_of_length_eq_zero (by simpa using h2)
    subst e1; subst e2; rfl
  | x :: xs, [], zs, a, b, h1, _, _ => by simp at h1
  | x :: xs, y :: ys, [], a, b, _, h2, _ => by simp at h2
  | x :: xs, y :: ys, z :: zs, a, b, h1, h2, h => by
    have h0 := h 0 (by simp)
    simp at h0
    have ih := crcRun_xor xs ys zs (crcStep a x) (crcStep b y) (by simpa using h1) (by simpa using h2) fun i hi => by have := h (i + 1) (by simpa using hi); simpa using this
    show crcRun (crcStep (a ^^^ b) z) zs = crcRun (crcStep a x) xs ^^^ crcRun (crcStep b y) ys
    rw [crcStep_xor a b x y z h0, ih]
theorem crcRun_app (s : BitVec 32) (a b : List Int) : crcRun s (a ++ b) = crcRun (crcRun s a) b := by simp [crcRun]
theorem crcOf_one (a : List Int) : crcOf [a] = crcGo 0#32 a := rfl
/-- the law's sums -/
theorem crcOf_parts (xs : List Int) {lo hi : Nat} (h : lo ≤ hi) : crcOf [xs.take lo, (xs.drop lo).take (hi - lo), [], xs.drop hi] = crcOf [xs] := by
  unfold crcOf
  simp only [List.foldl_cons, List.foldl_nil]
  rw [← crcRun_app, ← crcRun_app, ← crcRun_app]
  have : xs.take lo ++ ((xs.drop lo).take (hi - lo) ++ ([] ++ xs.drop hi)) = xs := by
    rw [List.nil_append]
    have h2 : (xs.drop lo).take (hi - lo) ++ xs.drop hi = xs.drop lo := by
      have : xs.drop hi = (xs.drop lo).drop (hi - lo) := by rw [List.drop_drop]; congr 1; omega
      rw [this, List.take_append_drop]
    rw [h2, List.take_append_drop]
  rw [this]
theorem crcGo_parts (xs : List Int) (lo : Nat) : crcGo (crcOf [xs.take lo]) (xs.drop lo) = crcOf [xs] := by
  unfold crcGo crcOf
  simp only [List.foldl_cons, List.foldl_nil]
  rw [BitVec.not_not, ← crcRun_app, List.take_append_drop]
theorem not_xor (a b : BitVec 32) : ~~~ a ^^^ ~~~ b = a ^^^ b := by
  apply BitVec.eq_of_getLsbD_eq
  intro i hi
  simp [hi]
theorem crcOf_diff (xs ys ds zs : List Int) (h1 : xs.length = ys.length) (h2 : ds.length = xs.length) (h3 : zs.length = xs.length) (hd : ∀ i, i < xs.length → BitVec.ofInt 8 (ds.getD i 0) = BitVec.ofInt 8 (xs.getD i 0) ^^^ BitVec.ofInt 8 (ys.getD i 0))
    (hz : ∀ i, i < xs.length → zs.getD i 0 = 0) : crcOf [xs] ^^^ crcOf [ys] = crcOf [ds] ^^^ crcOf [zs] := by
  unfold crcOf
  simp only [List.foldl_cons, List.foldl_nil]
  rw [not_xor, not_xor, ← crcRun_xor xs ys ds _ _ h1 h2 hd, ← crcRun_xor ds zs ds _ _ (by omega) rfl fun i hi => by rw [hz i (by omega)]; simp]
end Go.Proofs.Ytlfkhnchceoinaa

/- The rules of operations on 32 bits and on bytes, as functions on bits. No program in sight. -/
namespace Go.Proofs.Ytlfkhnchceoinaa
open Go.RowKit
set_option linter.unusedVariables false

theorem u32_of (x : BitVec 32) : BitVec.ofInt 32 (x.toNat : Int) = x := by rw [BitVec.ofInt_natCast]; simp
theorem u32_fit (x : BitVec 32) : IntKind.u32.wrap (x.toNat : Int) = x.toNat := by rw [IntKind.wrap_u32]; have := x.isLt; omega
theorem u8_of (x : BitVec 8) : BitVec.ofInt 8 (x.toNat : Int) = x := by rw [BitVec.ofInt_natCast]; simp
theorem u8_fit (x : BitVec 8) : IntKind.u8.wrap (x.toNat : Int) = x.toNat := by rw [IntKind.wrap_u8]; have := x.isLt; omega
theorem u8_int {z : Int} (h0 : 0 ≤ z) (h1 : z ≤ 255) : ((BitVec.ofInt 8 z).toNat : Int) = z := by
  rw [BitVec.toNat_ofInt]; simp; omega
theorem u32_int {z : Int} (h0 : 0 ≤ z) (h1 : z ≤ 4294967295) : ((BitVec.ofInt 32 z).toNat : Int) = z := by
  rw [BitVec.toNat_ofInt]; simp; omega

section
variable {P : Program} {n : Cx} {fr : Fr} {w : World} {ty : TypeId} {x y z : Operand} {m p : Int} {T T2 : TypeId} {k2 : IntKind}
theorem os_xor32 (a b : BitVec 32) (hx : Fr.ev fr x = some (.int .u32 m)) (hm : m = (a.toNat : Int)) (hy : Fr.ev fr y = some (.int .u32 p)) (hp : p = (b.toNat : Int)) : OS P n (.binOp .xor T x y T2) ty fr w (.int .u32 ((a ^^^ b).toNat : Int)) w :=
  os_xor hx hy (by subst hm; subst hp; show IntKind.u32.wrap ((BitVec.ofInt 32 _ ^^^ BitVec.ofInt 32 _).toNat : Nat) = _; rw [u32_of, u32_of]; exact u32_fit _)
theorem os_and32 (a b : BitVec 32) (hx : Fr.ev fr x = some (.int .u32 m)) (hm : m = (a.toNat : Int)) (hy : Fr.ev fr y = some (.int .u32 p)) (hp : p = (b.toNat : Int)) : OS P n (.binOp .and T x y T2) ty fr w (.int .u32 ((a &&& b).toNat : Int)) w :=
  os_and hx hy (by subst hm; subst hp; show IntKind.u32.wrap ((BitVec.ofInt 32 _ &&& BitVec.ofInt 32 _).toNat : Nat) = _; rw [u32_of, u32_of]; exact u32_fit _)
theorem os_shr32 (a : BitVec 32) (s : Nat) (hx : Fr.ev fr x = some (.int .u32 m)) (hm : m = (a.toNat : Int)) (hy : Fr.ev fr y = some (.int k2 p)) (hp : p = (s : Int)) : OS P n (.binOp .shr T x y T2) ty fr w (.int .u32 ((a >>> s).toNat : Int)) w :=
  os_shr hx hy (by omega) (by
    subst hm; subst hp
    show (a.toNat : Int).fdiv (2 ^ min ((s : Int)).toNat 32) = _
    have e : ((s : Int)).toNat = s := by omega
    rw [e, BitVec.toNat_ushiftRight, Nat.shiftRight_eq_div_pow, Int.fdiv_eq_ediv_of_nonneg _ (by exact_mod_cast Nat.zero_le _)]
    by_cases h : s ≤ 32
    · rw [Nat.min_eq_left h]; simp
    · rw [Nat.min_eq_right (by omega)]
      have h1 : a.toNat / 2 ^ s = 0 := Nat.div_eq_of_lt (Nat.lt_of_lt_of_le a.isLt (Nat.pow_le_pow_right (by omega) (by omega)))
      have h2 : a.toNat / 2 ^ 32 = 0 := Nat.div_eq_of_lt a.isLt
      rw [h1]
      have : ((a.toNat : Int) / 2 ^ 32) = ((a.toNat / 2 ^ 32 : Nat) : Int) := by simp
      rw [this, h2])
theorem os_neg32 (a : BitVec 32) (hx : Fr.ev fr x = some (.int .u32 m)) (hm : m = (a.toNat : Int)) : OS P n (.unOp .neg T x) ty fr w (.int .u32 ((-a).toNat : Int)) w :=
  os_neg hx (by subst hm; rw [IntKind.wrap_u32, BitVec.toNat_neg]; have := a.isLt; simp; omega)
theorem os_com32 (a : BitVec 32) (hx : Fr.ev fr x = some (.int .u32 m)) (hm : m = (a.toNat : Int)) : OS P n (.unOp .xor T x) ty fr w (.int .u32 ((~~~ a).toNat : Int)) w :=
  os_com hx (by
    subst hm
    show IntKind.u32.wrap ((BitVec.ofInt 32 4294967295 ^^^ BitVec.ofInt 32 _).toNat : Nat) = _
    rw [u32_of, show BitVec.ofInt 32 4294967295 = BitVec.allOnes 32 from by decide, BitVec.allOnes_xor]; exact u32_fit _)
theorem os_xor8 (a b : BitVec 8) (hx : Fr.ev fr x = some (.int .u8 m)) (hm : m = (a.toNat : Int)) (hy : Fr.ev fr y = some (.int .u8 p)) (hp : p = (b.toNat : Int)) : OS P n (.binOp .xor T x y T2) ty fr w (.int .u8 ((a ^^^ b).toNat : Int)) w :=
  os_xor hx hy (by subst hm; subst hp; show IntKind.u8.wrap ((BitVec.ofInt 8 _ ^^^ BitVec.ofInt 8 _).toNat : Nat) = _; rw [u8_of, u8_of]; exact u8_fit _)
/-- a byte of 32 bits -/
theorem os_low8 (a : BitVec 32) (h1 : P.underlying T = some (.int .u32)) (h2 : P.underlying T2 = some (.int .u8)) (hx : Fr.ev fr x = some (.int .u32 m)) (hm : m = (a.toNat : Int)) : OS P n (.convert T T2 x) ty fr w (.int .u8 ((a.setWidth 8).toNat : Int)) w :=
  os_conv h1 h2 hx (by subst hm; rw [IntKind.wrap_u8, BitVec.toNat_setWidth]; simp)
end
end Go.Proofs.Ytlfkhnchceoinaa
