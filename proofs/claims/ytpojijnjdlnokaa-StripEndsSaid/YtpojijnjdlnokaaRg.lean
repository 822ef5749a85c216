/- Ranging over a function: the rounds of an iterator; a loop over it. No program in sight. -/
import Derived.Test.YtpojijnjdlnokaaKb
import Derived.RangeFuncIn
import Derived.RangeFuncOwn
namespace Go.Proofs.Ytpojijnjdlnokaa
open Go.RowKit
set_option linter.unusedVariables false

/-- W' is W grown; of what lay there, blocks that are no cells may have turned, from B on -/
structure Nc (B : Nat) (W W' : World) : Prop where
  os : W'.os = W.os
  tape : W'.tape = W.tape
  output : W'.output = W.output
  size : W.heap.size ≤ W'.heap.size
  block : ∀ (k : Nat) (o : Obj), W.heap[k]? = some o → (k < B ∨ o.isCells = true) → W'.heap[k]? = some o
theorem Nc.refl (B : Nat) (W : World) : Nc B W W := ⟨rfl, rfl, rfl, Nat.le_refl _, fun _ _ h _ => h⟩
theorem Nc.trans {B : Nat} {a b c : World} (h : Nc B a b) (h' : Nc B b c) : Nc B a c := ⟨h'.os.trans h.os, h'.tape.trans h.tape, h'.output.trans h.output, Nat.le_trans h.size h'.size, fun k o hk ho => h'.block k o (h.block k o hk ho) ho⟩
theorem Nc.of_leg {B : Nat} {a b : World} (h : LeG a b) : Nc B a b := ⟨h.os, h.tape, h.output, h.size, fun k o hk _ => (h.block k (Array.getElem?_eq_some_iff.1 hk).1).trans hk⟩
theorem Nc.put {B l : Nat} {W : World} {o : Obj} (o' : Obj) (hl : B ≤ l) (ho : W.heap[l]? = some o) (hc : o.isCells = false) : Nc B W (W.putObj l o') :=
  ⟨rfl, rfl, rfl, by simp, fun k x hk hx => by
    rw [World.putObj_heap_other, hk]
    rintro rfl
    rw [ho] at hk; cases hk
    rcases hx with h | h
    · omega
    · rw [hc] at h; cases h⟩
theorem Nc.below {B n0 : Nat} {w0 W W' : World} (h : Nc B W W') (hb : Below n0 w0 W) (hB : n0 ≤ B) (hn : n0 ≤ w0.heap.size) : Below n0 w0 W' :=
  ⟨h.os.trans hb.os, h.tape.trans hb.tape, h.output.trans hb.output, Nat.le_trans hb.size h.size, fun k hk => by
    have hlt : k < w0.heap.size := by omega
    rw [← hb.block k hk]
    have : k < W.heap.size := Nat.lt_of_lt_of_le hlt hb.size
    rw [Array.getElem?_eq_getElem this]
    exact h.block k _ (Array.getElem?_eq_getElem this) (.inl (by omega))⟩
theorem Nc.cell {B : Nat} {W W' : World} (h : Nc B W W') {a : Addr} {v : Value} (hc : W.cell? a = some v) : W'.cell? a = some v := by
  obtain ⟨o, ho, hc'⟩ := cells_of_cell hc
  rw [World.cell?_of_block (a := a) ((h.block _ o ho (.inr hc')).trans ho.symm)]; exact hc
theorem Nc.frozen {B : Nat} {W W' : World} (h : Nc B W W') {a : Addr} {v : Value} (hc : W.cell? a = some v) : W'.frozen? a = W.frozen? a := by
  obtain ⟨o, ho, hc'⟩ := cells_of_cell hc
  exact World.frozen?_of_block (a := a) ((h.block _ o ho (.inr hc')).trans ho.symm)
theorem Nc.own {B B' : Nat} {W W' : World} (h : Nc B W W') {t : TypeId} {v : Value} {cs : List Value} (ho : Own W B' t v cs) : Own W' B' t v cs := by
  refine ⟨ho.1, ?_⟩
  rcases ho.2 with hn | ⟨g, cap, cur, rfl, hB0, hgg, rest⟩
  · exact .inl hn
  · exact .inr ⟨g, cap, cur, rfl, hB0, h.block _ _ hgg (.inr rfl), rest⟩
theorem Nc.bk {B : Nat} {W W' : World} (h : Nc B W W') {g : Nat} {cs : List Value} {t : TypeId} (hb : Bk W g cs t) : Bk W' g cs t := h.block _ _ hb (.inr rfl)
theorem Nc.rdc {B : Nat} {W W' : World} (h : Nc B W W') {A : Option Addr} {cs : List Value} (hr : RdC W A cs) : RdC W' A cs := fun h0 => by
  obtain ⟨b, o, e, hc⟩ := hr h0
  exact ⟨b, o, e, fun i hi => by rw [List.getElem?_eq_getElem hi]; exact h.cell (by rw [hc i hi, List.getElem?_eq_getElem hi])⟩
theorem Nc.rd {B : Nat} {W W' : World} (h : Nc B W W') {k : IntKind} {A : Option Addr} {zs : List Int} (hr : Rd W k A zs) : Rd W' k A zs := fun h0 => by
  obtain ⟨b, o, e, hc⟩ := hr h0
  exact ⟨b, o, e, fun i hi => h.cell (hc i hi)⟩
theorem Bk.setOther {w : World} {g g' : Nat} {cs : List Value} {t : TypeId} (h : Bk w g cs t) (hne : g' ≠ g) (i : Nat) (u : Value) : Bk (w.setCell ⟨g', i, none⟩ u) g cs t := (Below.heap_setCell _ _ _ _ (fun e => hne e.symm)).trans h
/-- what abides such turns -/
def Abd (B : Nat) (I : World → Prop) : Prop := ∀ W W', I W → Nc B W W' → I W'
theorem Abd.and {B : Nat} {I J : World → Prop} (h : Abd B I) (h' : Abd B J) : Abd B (fun W => I W ∧ J W) := fun W W' hh hn => ⟨h W W' hh.1 hn, h' W W' hh.2 hn⟩
theorem Abd.no {B : Nat} : Abd B (fun _ => False) := fun _ _ h _ => h

/-- blocks that are no cells stay, from B on -/
structure Kn (B : Nat) (W W' : World) : Prop where
  size : W.heap.size ≤ W'.heap.size
  block : ∀ (k : Nat) (o : Obj), B ≤ k → W.heap[k]? = some o → o.isCells = false → W'.heap[k]? = some o
theorem Kn.refl (B : Nat) (W : World) : Kn B W W := ⟨Nat.le_refl _, fun _ _ _ h _ => h⟩
theorem Kn.trans {B : Nat} {a b c : World} (h : Kn B a b) (h' : Kn B b c) : Kn B a c := ⟨Nat.le_trans h.size h'.size, fun k o hB hk ho => h'.block k o hB (h.block k o hB hk ho) ho⟩
theorem Kn.of_leg {B : Nat} {a b : World} (h : LeG a b) : Kn B a b := ⟨h.size, fun k o _ hk _ => (h.block k (Array.getElem?_eq_some_iff.1 hk).1).trans hk⟩
theorem Kn.alloc {B : Nat} (W : World) (o : Obj) : Kn B W (W.alloc o) := Kn.of_leg ((Below.refl _ _).alloc (Nat.le_refl _) _)
theorem Kn.grown {B : Nat} {W W' : World} {row : Option Nat} (h : W.grownBy W' row) (hr : ∀ r, row = some r → ∃ o : Obj, W.heap[r]? = some o ∧ o.isCells = true) : Kn B W W' :=
  ⟨h.size, fun k o _ hk ho => (h.block k (Array.getElem?_eq_some_iff.1 hk).1 (fun e => by
    obtain ⟨o', h1, h2⟩ := hr k e.symm
    rw [hk] at h1; cases h1; rw [ho] at h2; cases h2)).trans hk⟩
theorem Own.row_cells {W : World} {B : Nat} {t : TypeId} {v : Value} {cs : List Value} (ho : Own W B t v cs) : ∀ r, v.ownBlock = some r → ∃ o : Obj, W.heap[r]? = some o ∧ o.isCells = true := fun r e => by
  rcases ho.2 with hn | ⟨g, cap, cur, rfl, hB0, hgg, rest⟩
  · rw [hn.1] at e; cases e
  · cases e; exact ⟨_, hgg, rfl⟩
theorem Kn.set {B : Nat} {W : World} {a : Addr} {v : Value} (hc : W.cell? a = some v) (u : Value) : Kn B W (W.setCell a u) := by
  obtain ⟨o, ho, hc'⟩ := cells_of_cell hc
  refine ⟨by simp [World.setCell], fun k x _ hk hx => ?_⟩
  rw [Below.heap_setCell _ _ _ _ (fun e => ?_)]
  · exact hk
  · rw [e] at hk; rw [ho] at hk; cases hk; rw [hc'] at hx; cases hx

section
variable {P : Program} {n : Cx} {all rest : List Oper} {fr : Fr} {w w' : World} {Q : Exit → Fr → World → Prop} {d : Nat} {op : Op} {ty : TypeId} {pos : String} {aft : Array Edge} {v : Value}

/-- yield, called so in W, tells whether to go on -/
def YieldsAt (P : Program) (l : Nat) (args : Array Value) (W : World) (R : Bool → World → Prop) : Prop :=
  YieldAt (fw none) 0 P l args W fun e W' => ∃ b, e = .returned (.bool b) ∧ R b W'
/-- the rounds of a loop over an iterator -/
def Rounds (P : Program) (l : Nat) (args : Nat → List Value) (N : Nat) (J Jx : Nat → World → Prop) : Prop :=
  ∀ k W, J k W → k < N → YieldsAt P l (args k).toArray W fun b W' => (b = true → J (k + 1) W') ∧ (b = false → Jx k W')

theorem vl_yield {l : Nat} {c : Operand} {xs : List Operand} {ts : Array TypeId} {args : List Value} {R : Bool → World → Prop} (hc : Fr.ev fr c = some (.func (.yield l) #[] #[])) (hx : evL fr xs = some args) (h : YieldsAt P l args.toArray w R)
    (k : ∀ b w', R b w' → VL P n all rest ((d, .bool b) :: fr) w' Q) (hro : n.ro = none := by rfl) : VL P n all (⟨some d, .call ⟨.value c, xs.toArray, ts⟩, ty, pos, aft, none⟩ :: rest) fr w Q := by
  unfold VL at k ⊢
  intro hok a ha
  obtain ⟨h1, h2⟩ := dst_lt hok rfl
  obtain ⟨fn, tmps, ac, body, hy, hR⟩ := h
  unfold wpListIn
  simp only [Region.wanted, if_true]
  refine ⟨fun _ _ => trivial, ?_⟩
  have hrun : (execOp a.eval ⟨some d, .call ⟨.value c, xs.toArray, ts⟩, ty, pos, aft, none⟩).run P w = .ok (.round l fn tmps ac body) w := by
    simp [execOp, resolve, ha.ev hc, ha.evL hx, Deferred.ofValue, invoke, hy]
  rw [show (Oper.semAt (fw n.ro).round a.eval ⟨some d, .call ⟨.value c, xs.toArray, ts⟩, ty, pos, aft, none⟩).run P w = _ from semAt_run hrun (fun d w' e => by cases e)]
  rw [Oper.uponIn_round]
  refine ⟨fun h => by simp [fw] at h, ?_⟩
  rw [hro]
  refine RoundIn.mono hR ?_
  rintro e w' ⟨b, rfl, hb⟩
  have := k b w' hb h2 _ (ha.put h1 (.bool b))
  rw [hro] at this
  exact this

/-- what stands behind the first half of a sequence -/
def VR (P : Program) (n : Cx) (B y : Code) (fr : Fr) (w : World) (Q : Exit → Fr → World → Prop) : Prop :=
  codeOk n.sz B = true → codeOk n.sz y = true → ∀ a, Ag n fr a → B.wpIn (fw n.ro) 0 P (Exit.then (y.wpIn (fw n.ro) 0 P (up n Q)) (up n Q)) a w
def ThnR (P : Program) (n : Cx) (B y : Code) (Q : Exit → Fr → World → Prop) : Exit → Fr → World → Prop
  | .normal, fr, w => VR P n B y fr w Q
  | e, fr, w => Q e fr w
theorem v_range_seq {A B y : Code} (h : V P n A fr w (ThnR P n B y Q)) : V P n (.seq (.seq A B) y) fr w Q := by
  unfold V at h ⊢
  intro hok a ha
  simp only [codeOk, Bool.and_eq_true] at hok
  refine wpIn_seq (wpIn_seq (wpIn_mono (h hok.1.1 a ha) (fun e a' w' hh => ?_)))
  rcases hh with ⟨fr', h1, h2⟩ | ⟨rfl, h2⟩
  · cases e with
    | normal => exact h2 hok.1.2 hok.2 a' h1
    | _ => exact .inl ⟨fr', h1, h2⟩
  · exact .inr ⟨rfl, h2⟩

def zipFr : List Nat → List Value → Fr → Fr
  | p :: ps, v :: vs, fr => zipFr ps vs ((p, v) :: fr)
  | _, _, fr => fr
theorem zipFr_ag {C : Cx} (hds : C.ds = []) : ∀ (ps : List Nat) (vs : List Value) (fr : Fr) (t : Array Value), (ps.all fun p => Nat.blt p C.sz) = true → ps.length = vs.length → Ag C fr { tmps := t, defers := [] } →
    Ag C (zipFr ps vs fr) { tmps := (ps.zip vs).foldl (fun t (p, a) => t.setIfInBounds p a) t, defers := [] }
  | [], [], fr, t, _, _, h => h
  | p :: ps, v :: vs, fr, t, hp, hl, h => by
    simp only [List.all_cons, Bool.and_eq_true] at hp
    have h1 : p < C.sz := (Nat.blt_eq ..).mp hp.1
    have h2 := h.put h1 v
    exact zipFr_ag hds ps vs ((p, v) :: fr) (t.setIfInBounds p v) hp.2 (by simpa using hl) h2
  | [], _ :: _, _, _, _, hl, _ => by simp at hl
  | _ :: _, [], _, _, _, hl, _ => by simp at hl

/-- the jump by which a round leaves the loop -/
def jumpOf : Exit → Option Code
  | .ret => some .ret
  | .exit k => some (.exit k)
  | _ => none
/-- how a round may be left -/
def RPost (B : Nat) (J : World → Prop) (Ix : Exit → World → Prop) (W : World) : Exit → Fr → World → Prop
  | .normal, _, W' => Kn B W W' ∧ J W'
  | .ret, _, W' => Kn B W W' ∧ Ix .ret W'
  | .exit k, _, W' => Kn B W W' ∧ Ix (.exit k) W'
  | _, _, _ => False
def collD (D : Nat) : List Deferred := [{ target := .collected D, args := #[] }]
/-- the function's end behind a loop over a function -/
def PostE (n : Cx) (D : Nat) : Exit → Fr → World → Prop := fun e fr W => e = .ret ∧ ∀ a, Ag ⟨n.sz, none, collD D, n.esc⟩ fr a → n.esc a W

attribute [reducible] ThnR RPost
section
variable {fn : Func} {T : Value → World → Prop} {t t2 : Nat} {A : Addr} {u v2 : Value} {T1 : TypeId} {D : Nat}
theorem post_m {z : Nat} {ro : Option Nat} {ds : List Deferred} (hK : w.heap[D]? = some (.deferred (some []))) (hr : ∀ a, Ag ⟨z, none, collD D, EndM P fn T⟩ fr a → (results fn a.tmps).run P (w.putObj D (.deferred none)) = .ok v (w.putObj D (.deferred none)))
    (hT : T v (w.putObj D (.deferred none))) : PostE ⟨z, ro, ds, EndM P fn T⟩ D .ret fr w := ⟨rfl, fun a ha => ⟨D, v, ha.defers, hK, hr a ha, hT⟩⟩
theorem post_of (hr : ∀ a, Ag n fr a → (results fn a.tmps).run P w = .ok v w) (hT : T v w) : Post P n fn T .ret fr w := by unfold Post; exact ⟨v, hr, hT⟩
theorem res_ct (hf : fn.results = #[.cell t T1, .tmp t2]) (hg : Fr.get fr t = some (.pointer (some A))) (hg2 : Fr.get fr t2 = some v2) (hagg : ∀ w, (isAgg T1).run P w = .ok false w) (hc : w.cell? A = some u) {a : Act} (ha : Ag n fr a) : (results fn a.tmps).run P w = .ok (.tuple #[u, v2]) w := by
  have h1 : a.tmps.getD t undef = .pointer (some A) := by simp [Array.getD_eq_getD_getElem?, ha.at_ t _ hg]
  have h2 : a.tmps.getD t2 undef = v2 := by simp [Array.getD_eq_getD_getElem?, ha.at_ t2 _ hg2]
  simp only [Array.getD_eq_getD_getElem?] at h1 h2
  simp [results, hf, h1, h2, asAddr, loadVar, hagg, hc]
theorem res_cc {A2 : Addr} {u2 : Value} {T2 : TypeId} (hf : fn.results = #[.cell t T1, .cell t2 T2]) (hg : Fr.get fr t = some (.pointer (some A))) (hg2 : Fr.get fr t2 = some (.pointer (some A2))) (hagg : ∀ w, (isAgg T1).run P w = .ok false w) (hagg2 : ∀ w, (isAgg T2).run P w = .ok false w) (hc : w.cell? A = some u) (hc2 : w.cell? A2 = some u2) {a : Act} (ha : Ag n fr a) : (results fn a.tmps).run P w = .ok (.tuple #[u, u2]) w := by
  have h1 : a.tmps.getD t undef = .pointer (some A) := by simp [Array.getD_eq_getD_getElem?, ha.at_ t _ hg]
  have h2 : a.tmps.getD t2 undef = .pointer (some A2) := by simp [Array.getD_eq_getD_getElem?, ha.at_ t2 _ hg2]
  simp only [Array.getD_eq_getD_getElem?] at h1 h2
  simp [results, hf, h1, h2, asAddr, loadVar, hagg, hagg2, hc, hc2]
theorem res_c (hf : fn.results = #[.cell t T1]) (hg : Fr.get fr t = some (.pointer (some A))) (hagg : ∀ w, (isAgg T1).run P w = .ok false w) (hc : w.cell? A = some u) {a : Act} (ha : Ag n fr a) : (results fn a.tmps).run P w = .ok u w := by
  have h1 : a.tmps.getD t undef = .pointer (some A) := by simp [Array.getD_eq_getD_getElem?, ha.at_ t _ hg]
  simp only [Array.getD_eq_getD_getElem?] at h1
  simp [results, hf, h1, asAddr, loadVar, hagg, hc]
theorem res_t (hf : fn.results = #[.tmp t]) (hg : Fr.get fr t = some v) {a : Act} (ha : Ag n fr a) : (results fn a.tmps).run P w = .ok v w := by
  rw [results_tmp hf]; simp [Array.getD_eq_getD_getElem?, ha.at_ t v hg]
theorem res_tt (hf : fn.results = #[.tmp t, .tmp t2]) (hg : Fr.get fr t = some v) (hg2 : Fr.get fr t2 = some v2) {a : Act} (ha : Ag n fr a) : (results fn a.tmps).run P w = .ok (.tuple #[v, v2]) w := by
  rw [results_tmp2 hf]; simp [Array.getD_eq_getD_getElem?, ha.at_ t v hg, ha.at_ t2 v2 hg2]
end

set_option maxHeartbeats 1000000 in
theorem v_range {id : Nat} {g : Operand} {ps : List Nat} {ac body y : Code} {gf : FuncId} {lb : List Value} (N : Nat) (args : Nat → List Value) (I : Nat → World → Prop) (Ix : Exit → World → Prop) (FB : Nat → Fr)
    (he : Enters P gf) (hg : Fr.ev fr g = some (.func (.func gf) #[] lb.toArray)) (hps : ∀ k, ps.length = (args k).length) (hI : ∀ k, Abd w.heap.size (I k)) (hIx : ∀ e, Abd w.heap.size (Ix e)) (h0 : I 0 w)
    (hiter : ∀ (l : Nat) (J Jx : Nat → World → Prop) (W : World), LeG w W → (∀ k W, J k W → I k W) → (∀ k W W', J k W → LeG W W' → J k W') → (∀ k W W', Jx k W → LeG W W' → Jx k W') → Rounds P l args N J Jx → J 0 W →
      Gives P gf (Value.func (.yield l) #[] #[] :: lb).toArray W fun _ W' => J N W' ∨ ∃ k, Jx k W')
    (hassign : ∀ l k W, V P ⟨n.sz, some l, [], fun _ _ => False⟩ ac (zipFr ps (args k) fr) W fun e fr' W' => e = .normal ∧ W' = W ∧ Sub (FB k) fr')
    (hbody : ∀ l k W, k < N → I k W → V P ⟨n.sz, some l, [], fun _ _ => False⟩ body (FB k) W (RPost w.heap.size (I (k + 1)) Ix W))
    (hdone : ∀ D W, w.heap.size ≤ D → W.heap[D]? = some (.deferred (some [])) → I N W → V P ⟨n.sz, none, collD D, n.esc⟩ y fr W (PostE n D))
    (hret : ∀ D W, w.heap.size ≤ D → W.heap[D]? = some (.deferred (some [])) → Ix .ret W → PostE n D .ret fr W)
    (hexit : ∀ j D W, w.heap.size ≤ D → W.heap[D]? = some (.deferred (some [])) → Ix (.exit j) W → j = id ∧ V P ⟨n.sz, none, collD D, n.esc⟩ y fr W (PostE n D))
    (hro : n.ro = none := by rfl) (hds : n.ds = [] := by rfl) (hps2 : (ps.all fun p => Nat.blt p n.sz) = true := by rfl) (hok1 : codeOk n.sz ac = true := by kernel_rfl) (hok2 : codeOk n.sz body = true := by kernel_rfl) :
    VR P n (.block id (.rangeFunc g ps.toArray ac body)) y fr w Q := by
  unfold V at hassign hbody
  intro _ hokY a ha
  rw [fw_none hro]
  refine wpIn_block (wpIn_rangeFunc fun fn _ => ?_)
  obtain ⟨rec, hrec⟩ : ∃ rec : LoopState → Option Code → Loop, rec = fun st pe => { state := st, pending := pe, fn, tmps := a.tmps, params := ps.toArray, assign := ac, body, defers := w.heap.size } := ⟨_, rfl⟩
  obtain ⟨W1, hW1⟩ : ∃ W1, (w.alloc (.deferred (some []))).alloc (.loop (rec .ready none)) = W1 := ⟨_, rfl⟩
  obtain ⟨l, hl⟩ : ∃ l, l = w.heap.size + 1 := ⟨_, rfl⟩
  have hL1 : W1.heap[l]? = some (.loop (rec .ready none)) := by
    rw [← hW1, hl]; have := World.alloc_heap_new (w.alloc (.deferred (some []))) (.loop (rec .ready none)); rwa [World.size_alloc] at this
  have hK1 : W1.heap[w.heap.size]? = some (.deferred (some [])) := by
    rw [← hW1]; exact (Below.heap_alloc _ _ _ (by simp)).trans (World.alloc_heap_new w _)
  have hg1 : LeG w W1 := by
    rw [← hW1]; exact ((Below.refl _ w).alloc (Nat.le_refl _) _).alloc (by simp) _
  have hact : Ag ⟨n.sz, none, collD w.heap.size, n.esc⟩ fr { a with defers := collD w.heap.size ++ a.defers } := ⟨by rw [ha.defers, hds]; rfl, ha.size, ha.at_⟩
  -- behind the loop
  have hend : ∀ W, W.heap[w.heap.size]? = some (.deferred (some [])) → (V P ⟨n.sz, none, collD w.heap.size, n.esc⟩ y fr W (PostE n w.heap.size)) → y.wpIn Fence.wide 0 P (up n Q) { a with defers := collD w.heap.size ++ a.defers } W := by
    intro W hD hV
    unfold V at hV
    refine wpIn_mono (hV hokY _ hact) ?_
    rintro e a' w' (⟨fr', h1, rfl, h2⟩ | ⟨rfl, h2⟩)
    · exact .inr ⟨rfl, h2 a' h1⟩
    · exact .inr ⟨rfl, h2⟩
  have hendR : ∀ W, PostE n w.heap.size .ret fr W → up n Q .ret { a with defers := collD w.heap.size ++ a.defers } W := fun W h => .inr ⟨rfl, h.2 _ hact⟩
  refine ⟨l, collD w.heap.size, W1, { target := .fn (.func gf) lb.toArray, args := #[.func (.yield l) #[] #[]] }, W1, gf, #[.func (.yield l) #[] #[]] ++ lb.toArray, W1, ?_, ?_, fun _ _ => trivial, ?_, fun h => by simp [Fence.wide] at h, ?_⟩
  · rw [← hW1, hrec, hl]; exact run_enterLoop_outer _ _ _ _ _
  · simp only [resolve, ha.ev hg]
    simp [go_sem]
  · simp [invoke, he _ W1]
  · -- the rounds
    have hJ : ∀ (k : Nat) (st : LoopState) (pe : Option Code) (X : World → Prop), Abd w.heap.size X → ∀ W W', (X W ∧ W.heap[l]? = some (.loop (rec st pe)) ∧ W.heap[w.heap.size]? = some (.deferred (some []))) → LeG W W' →
        (X W' ∧ W'.heap[l]? = some (.loop (rec st pe)) ∧ W'.heap[w.heap.size]? = some (.deferred (some []))) := fun k st pe X hX W W' h hh =>
      ⟨hX W W' h.1 (Nc.of_leg hh), (hh.block _ (Array.getElem?_eq_some_iff.1 h.2.1).1).trans h.2.1, (hh.block _ (Array.getElem?_eq_some_iff.1 h.2.2).1).trans h.2.2⟩
    have hlw : w.heap.size ≤ l := by omega
    have hit := hiter l (fun k W => I k W ∧ W.heap[l]? = some (.loop (rec .ready none)) ∧ W.heap[w.heap.size]? = some (.deferred (some [])))
      (fun _ W => ∃ e c, jumpOf e = some c ∧ Ix e W ∧ W.heap[l]? = some (.loop (rec .done (some c))) ∧ W.heap[w.heap.size]? = some (.deferred (some []))) W1 hg1 (fun k W h => h.1)
      (fun k => hJ k .ready none (I k) (hI k)) (fun k W W' ⟨e, c, h1, h2⟩ hh => ⟨e, c, h1, hJ k .done (some c) (Ix e) (hIx e) W W' h2 hh⟩) ?_ ⟨hI 0 w W1 h0 (Nc.of_leg hg1), hL1, hK1⟩
    · unfold Gives at hit
      have hc := hit.2
      rw [show (Value.func (.yield l) #[] #[] :: lb).toArray = (#[.func (.yield l) #[] #[]] ++ lb.toArray : Array Value) by simp] at hc
      refine callsIn_wide.2 (hc.mono ?_)
      rintro e W2 ⟨v, rfl, hh⟩
      rcases hh with ⟨hi, hL, hK⟩ | ⟨k, e, c, hj, hi, hL, hK⟩
      · refine ⟨none, _, by have := run_endLoop (P := P) hL (by rw [hrec]; simp); rw [hrec] at this; exact this, ?_⟩
        exact hend _ ((World.putObj_heap_other (by omega)).trans hK) (hdone _ _ (Nat.le_refl _) ((World.putObj_heap_other (by omega)).trans hK) (hI N _ _ hi (Nc.put _ hlw hL rfl)))
      · refine ⟨some c, _, by have := run_endLoop (P := P) hL (by rw [hrec]; simp); rw [hrec] at this; exact this, ?_⟩
        have hi' := hIx e _ _ hi (Nc.put (.loop { rec .done (some c) with state := .exhausted }) hlw hL rfl)
        have hK' : (W2.putObj l (.loop { rec .done (some c) with state := .exhausted })).heap[w.heap.size]? = some (.deferred (some [])) := (World.putObj_heap_other (by omega)).trans hK
        rw [hrec] at hi' hK'
        cases e with
        | ret => cases hj; exact wpIn_ret (hendR _ (hret _ _ (Nat.le_refl _) hK' hi'))
        | exit j =>
          cases hj
          obtain ⟨rfl, hV⟩ := hexit j _ _ (Nat.le_refl _) hK' hi'
          refine wpIn_exit ?_
          have := hend _ hK' hV
          simpa [Exit.inBlock, Exit.then] using this
        | _ => cases hj
    · rintro k W ⟨hi, hL, hK⟩ hk
      have hy := run_yield (P := P) (args := (args k).toArray) hL (by rw [hrec]; simpa using (hps k).symm)
      rw [hrec] at hy
      refine ⟨fn, _, ac, body, hy, roundIn_of_wpIn trivial ?_⟩
      have hag0 : Ag ⟨n.sz, some l, [], fun _ _ => False⟩ fr { tmps := a.tmps, defers := [] } := ⟨rfl, ha.size, ha.at_⟩
      have hag := zipFr_ag (C := ⟨n.sz, some l, [], fun _ _ => False⟩) rfl ps (args k) fr a.tmps hps2 (hps k) hag0
      have ht : ((ps.toArray.zip (args k).toArray).foldl (fun tmps (t, a) => tmps.setIfInBounds t a) a.tmps) = (ps.zip (args k)).foldl (fun t (p, a) => t.setIfInBounds p a) a.tmps := by simp
      have hlt : l < W.heap.size := (Array.getElem?_eq_some_iff.1 hL).1
      have hb := run_beginRound (P := P) hL (by rw [hrec])
      show Code.wpIn (fw (some l)) 0 P _ _ _ W
      have hkL : (W.putObj l (.loop { rec .ready none with state := .busy })).heap[l]? = some (.loop { rec .ready none with state := .busy }) := World.putObj_heap_same hlt
      have hkK : (W.putObj l (.loop { rec .ready none with state := .busy })).heap[w.heap.size]? = some (.deferred (some [])) := (World.putObj_heap_other (by omega)).trans hK
      have hkI := hI k _ _ hi (Nc.put (.loop { rec .ready none with state := .busy }) hlw hL rfl)
      rw [ht]
      refine wpIn_mono (hassign l k W hok1 _ hag) ?_
      rintro e a1 W' (⟨fr1, h1, rfl, rfl, h3⟩ | ⟨_, h⟩)
      · refine ⟨_, hb, wpIn_mono (hbody l k _ hk hkI hok2 a1 (h1.sub h3)) ?_⟩
        have fin : ∀ (jump : Option Code) (W3 : World), Kn w.heap.size (W'.putObj l (.loop { rec .ready none with state := .busy })) W3 →
            (Instr.endRound l jump).run P W3 = .ok (.bool jump.isNone) (W3.putObj l (.loop (rec (if jump.isNone then .ready else .done) jump))) ∧ Nc w.heap.size W3 (W3.putObj l (.loop (rec (if jump.isNone then .ready else .done) jump))) ∧
            (W3.putObj l (.loop (rec (if jump.isNone then .ready else .done) jump))).heap[l]? = some (.loop (rec (if jump.isNone then .ready else .done) jump)) ∧
            (W3.putObj l (.loop (rec (if jump.isNone then .ready else .done) jump))).heap[w.heap.size]? = some (.deferred (some [])) := fun jump W3 hk3 => by
          have hl3 := hk3.block _ _ hlw hkL rfl
          have hd3 := hk3.block _ _ (Nat.le_refl _) hkK rfl
          have := run_endRound (P := P) jump hl3
          refine ⟨?_, Nc.put _ hlw hl3 rfl, World.putObj_heap_same (Array.getElem?_eq_some_iff.1 hl3).1, (World.putObj_heap_other (by omega)).trans hd3⟩
          rw [hrec] at this ⊢
          exact this
        rintro e a3 W3 (⟨fr3, h4, h5⟩ | ⟨_, h⟩)
        · cases e with
          | normal =>
            obtain ⟨h6, h7⟩ := h5
            obtain ⟨r1, r2, r3, r4⟩ := fin none W3 h6
            exact ⟨_, _, r1, true, rfl, fun _ => ⟨hI _ _ _ h7 r2, r3, r4⟩, fun h => by cases h⟩
          | ret =>
            obtain ⟨h6, h7⟩ := h5
            obtain ⟨r1, r2, r3, r4⟩ := fin (some .ret) W3 h6
            exact ⟨_, _, r1, (some Code.ret).isNone, rfl, fun h => by simp at h, fun _ => ⟨.ret, .ret, rfl, hIx .ret _ _ h7 r2, r3, r4⟩⟩
          | exit j =>
            obtain ⟨h6, h7⟩ := h5
            obtain ⟨r1, r2, r3, r4⟩ := fin (some (.exit j)) W3 h6
            exact ⟨_, _, r1, (some (Code.exit j)).isNone, rfl, fun h => by simp at h, fun _ => ⟨.exit j, .exit j, rfl, hIx (.exit j) _ _ h7 r2, r3, r4⟩⟩
          | _ => exact h5.elim
        · exact h.elim
      · exact h.elim
end
section
variable {P : Program} {n : Cx} {fr : Fr} {w : World} {ty T : TypeId}
theorem os_alloc1 {z0 : Value} (hz : ∀ w, (zeroValue T).run P w = .ok z0 w) (h1 : z0.cells = #[z0]) : OS P n (.alloc T) ty fr w (.pointer (some ⟨w.heap.size, 0, none⟩)) (w.alloc (.cells [z0].toArray T)) := by
  have := os_alloc (P := P) (n := n) (ty := ty) (fr := fr) (w := w) hz
  rw [h1] at this
  exact this
end
end Go.Proofs.Ytpojijnjdlnokaa
