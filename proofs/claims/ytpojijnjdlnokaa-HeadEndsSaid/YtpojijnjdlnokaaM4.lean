/- Texts joined: M N Ap Kb Rs Rw NtP PkP. -/
import Derived.Test.YtpojijnjdlnokaaM3
import Derived.Maps.AppendAt
import Derived.OpenShut
import Derived.ChangeOld
import Derived.SizedLaws
import Derived.Lib.SmallJoins
/- Lists in memory: what reads as a list, what a call owns; the rules of making, appending, storing. No program in sight. -/
namespace Go.Proofs.Ytpojijnjdlnokaa
open Go.RowKit
set_option linter.unusedVariables false

/-! ### what reads as a list of cells -/
/-- the address A leads to a row whose first cells are cs -/
def RdC (w : World) (A : Option Addr) (cs : List Value) : Prop :=
  0 < cs.length → ∃ b off, A = some ⟨b, off, none⟩ ∧ ∀ i, i < cs.length → w.cell? ⟨b, off + i, none⟩ = cs[i]?

theorem Rd.toC {w : World} {k : IntKind} {A : Option Addr} {zs : List Int} (h : Rd w k A zs) : RdC w A (zs.map (Value.int k)) := by
  intro hl
  obtain ⟨b, off, e, hc⟩ := h (by simpa using hl)
  refine ⟨b, off, e, fun i hi => ?_⟩
  have hi' : i < zs.length := by simpa using hi
  rw [hc i hi']; simp [hi']
theorem RdC.toRd {w : World} {k : IntKind} {A : Option Addr} {zs : List Int} (h : RdC w A (zs.map (Value.int k))) : Rd w k A zs := by
  intro hl
  obtain ⟨b, off, e, hc⟩ := h (by simpa using hl)
  refine ⟨b, off, e, fun i hi => ?_⟩
  rw [hc i (by simpa using hi)]; simp [hi]
theorem RdC.at_ {w A cs} (h : RdC w A cs) {i : Nat} (hi : i < cs.length) : ∃ b off, A = some ⟨b, off, none⟩ ∧ w.cell? ⟨b, off + i, none⟩ = some cs[i] := by
  obtain ⟨b, off, e, hc⟩ := h (by omega)
  exact ⟨b, off, e, by rw [hc i hi]; simp [hi]⟩
theorem RdC.nil {w A} : RdC w A [] := fun h => absurd h (by simp)
theorem RdC.keep {w w' : World} {A cs} (h : RdC w A cs) (hb : Below w.heap.size w w') : RdC w' A cs := by
  intro hl
  obtain ⟨b, off, e, hc⟩ := h hl
  refine ⟨b, off, e, fun i hi => ?_⟩
  have h1 := hc i hi
  rw [List.getElem?_eq_getElem hi] at h1
  have := World.block_lt_of_cell? w ⟨b, off + i, none⟩ h1
  exact (hb.cell (p := ⟨b, off + i, none⟩) this).trans (hc i hi)
theorem RdC.led {w w' : World} {A cs} (h : RdC w A cs) (hb : LeD w w') : RdC w' A cs := by obtain ⟨q, rfl⟩ := hb; exact h
theorem Rd.led {w w' : World} {k A zs} (h : Rd w k A zs) (hb : LeD w w') : Rd w' k A zs := by obtain ⟨q, rfl⟩ := hb; exact h
theorem RdC.block {w w' : World} {A cs} (h : RdC w A cs) (hb : ∀ b o, A = some ⟨b, o, none⟩ → w'.heap[b]? = w.heap[b]?) : RdC w' A cs := by
  intro hl
  obtain ⟨b, off, e, hc⟩ := h hl
  refine ⟨b, off, e, fun i hi => ?_⟩
  have := hb b off e
  rw [← hc i hi]
  unfold World.cell?
  simp only [this]
theorem RdC.take {w A cs} (h : RdC w A cs) (k : Nat) : RdC w A (cs.take k) := by
  intro hl
  rw [List.length_take] at hl
  obtain ⟨b, off, e, hc⟩ := h (by omega)
  refine ⟨b, off, e, fun i hi => ?_⟩
  rw [List.length_take] at hi
  rw [hc i (by omega), List.getElem?_take, if_pos (by omega)]
theorem RdC.drop {w cs b o} (h : RdC w (some ⟨b, o, none⟩) cs) (k : Nat) : RdC w (some ⟨b, o + k, none⟩) (cs.drop k) := by
  intro hl
  rw [List.length_drop] at hl
  obtain ⟨b', off, e, hc⟩ := h (by omega)
  cases e
  refine ⟨b, o + k, rfl, fun i hi => ?_⟩
  rw [List.length_drop] at hi
  rw [Nat.add_assoc, hc (k + i) (by omega), List.getElem?_drop]
theorem Rd.take {w k A zs} (h : Rd w k A zs) (n : Nat) : Rd w k A (zs.take n) := by
  have := h.toC.take n
  rw [← List.map_take] at this
  exact this.toRd

theorem RdC.sliced {w A cs} (h : RdC w A cs) {c i : Nat} (hc : cs.length ≤ c) : RdC w (if c = i then A else A.map (·.add (i * 1))) (cs.drop i) := by
  split
  · rename_i he; subst he; rw [List.drop_eq_nil_of_le hc]; exact RdC.nil
  · intro hl
    have hl' := hl
    rw [List.length_drop] at hl'
    obtain ⟨b, o, rfl, hcc⟩ := h (by omega)
    have := RdC.drop h i hl
    obtain ⟨b', o', e, h2⟩ := this
    cases e
    refine ⟨b, o + i, by simp [addr_add], h2⟩
theorem Rd.sliced {w k A zs} (h : Rd w k A zs) {c i : Nat} (hc : zs.length ≤ c) : Rd w k (if c = i then A else A.map (·.add (i * 1))) (zs.drop i) := by
  have := h.toC.sliced (c := c) (i := i) (by simpa using hc)
  rw [← List.map_drop] at this
  exact this.toRd

/-! ### what a call owns -/
/-- v is a list of the call's own (its row lies from block B on) that holds the cells cs, each of element type t, of one cell -/
def Own (w : World) (B : Nat) (t : TypeId) (v : Value) (cs : List Value) : Prop := w.ownsRow B t 1 v cs.length cs
/-- the same, of integers of a kind -/
def OwnK (w : World) (B : Nat) (t : TypeId) (k : IntKind) (v : Value) (zs : List Int) : Prop := Own w B t v (zs.map (Value.int k))

theorem Own.nil (w : World) (B : Nat) (t : TypeId) : Own w B t (.slice none 0 0) [] := World.ownsRow_nil w B _ 1
theorem Own.form {w B t v cs} (h : Own w B t v cs) : ∃ A c, v = .slice A cs.length c ∧ cs.length ≤ c ∧ c ≤ maxLen ∧ RdC w A cs ∧ (∀ b off, A = some ⟨b, off, none⟩ → B ≤ b ∧ off = 0 ∧ b < w.heap.size) := by
  rcases h.2 with ⟨rfl, h0⟩ | ⟨g, cap, cur, rfl, hB, hg, hn, hm, hs, ht⟩
  · refine ⟨none, 0, by rw [h0], by omega, by simp [maxLen], fun hl => absurd hl (by omega), fun b off hh => by cases hh⟩
  · refine ⟨_, cap, rfl, hn, hm, fun _ => ⟨g, 0, rfl, fun i hi => ?_⟩, ?_⟩
    · have hc := World.ownsRow.cellAt h i (by omega)
      rw [← hc]; simp
    · intro b off hh
      cases hh
      exact ⟨hB, rfl, (Array.getElem?_eq_some_iff.1 hg).1⟩
theorem OwnK.form {w B t k v zs} (h : OwnK w B t k v zs) : ∃ A c, v = .slice A zs.length c ∧ zs.length ≤ c ∧ c ≤ maxLen ∧ Rd w k A zs ∧ (∀ b off, A = some ⟨b, off, none⟩ → B ≤ b ∧ off = 0 ∧ b < w.heap.size) := by
  obtain ⟨A, c, h1, h2, h3, h4, h5⟩ := Own.form h
  rw [List.length_map] at h1 h2
  exact ⟨A, c, h1, h2, h3, h4.toRd, h5⟩
theorem Own.keep {w w' B t v cs} (h : Own w B t v cs) {B' : Nat} (hb : Below B' w w') (hB : ∀ g, v.ownBlock = some g → g < B') : Own w' B t v cs := by
  refine ⟨h.1, ?_⟩
  rcases h.2 with hn | ⟨g, cap, cur, rfl, hB0, hg, rest⟩
  · exact .inl hn
  · refine .inr ⟨g, cap, cur, rfl, hB0, ?_, rest⟩
    rw [hb.block g (hB g rfl)]; exact hg
theorem Own.keepAll {w w' B t v cs} (h : Own w B t v cs) (hb : Below w.heap.size w w') : Own w' B t v cs := h.keep hb fun g hg => (World.ownsRow.lt h g hg).2
theorem Own.led {w w' B t v cs} (h : Own w B t v cs) (hb : LeD w w') : Own w' B t v cs := by obtain ⟨q, rfl⟩ := hb; exact h
theorem Own.alloc {w B t v cs} (h : Own w B t v cs) (o : Obj) : Own (w.alloc o) B t v cs := World.ownsRow.alloc h o
theorem Own.mono {w B B' t v cs} (h : Own w B t v cs) (hB : B' ≤ B) : Own w B' t v cs := by
  refine ⟨h.1, ?_⟩
  rcases h.2 with hn | ⟨g, cap, cur, rfl, hB0, hg, rest⟩
  · exact .inl hn
  · exact .inr ⟨g, cap, cur, rfl, by omega, hg, rest⟩
/-- a list of the call's own that is not empty: its row -/
theorem Own.row {w B t v cs} (h : Own w B t v cs) (h0 : 0 < cs.length) : ∃ g c, v = .slice (some ⟨g, 0, none⟩) cs.length c ∧ B ≤ g ∧ g < w.heap.size ∧ cs.length ≤ c ∧ c ≤ maxLen := by
  rcases h.2 with ⟨rfl, h1⟩ | ⟨g, cap, cur, rfl, hB, hg, hn, hm, hs, ht⟩
  · omega
  · exact ⟨g, cap, rfl, hB, (Array.getElem?_eq_some_iff.1 hg).1, hn, hm⟩
theorem Own.cell {w B t g n c cs} (h : Own w B t (.slice (some ⟨g, 0, none⟩) n c) cs) {i : Nat} (hi : i < cs.length) : w.cell? ⟨g, i, none⟩ = some cs[i] := by
  have hn : n = cs.length := by
    rcases h.2 with ⟨h1, _⟩ | ⟨g', cap, cur, h1, _⟩
    · cases h1
    · cases h1; rfl
  subst hn
  rw [World.ownsRow.cellAt h i (by omega)]; simp [hi]
theorem Own.len {w B t A n c cs} (h : Own w B t (.slice A n c) cs) : n = cs.length := by
  rcases h.2 with ⟨h1, h2⟩ | ⟨g', cap, cur, h1, _⟩
  · cases h1; omega
  · cases h1; rfl
theorem Own.free {w B t g n c cs} (h : Own w B t (.slice (some ⟨g, 0, none⟩) n c) cs) (i : Nat) : w.frozen? ⟨g, i, none⟩ = false := by
  have hn := h.len
  subst hn
  exact World.ownsRow.frozenAt h i
theorem Own.set {w B t g n c cs} (h : Own w B t (.slice (some ⟨g, 0, none⟩) n c) cs) (i : Nat) (u : Value) : Own (w.setCell ⟨g, i, none⟩ u) B t (.slice (some ⟨g, 0, none⟩) n c) (cs.set i u) := by
  have hn := h.len
  subst hn
  have := (World.ownsRow.stored h i u).1
  unfold Own
  rw [List.length_set]
  exact this
theorem Own.setOther {w B t v cs} (h : Own w B t v cs) {g : Nat} (hne : ∀ g', v.ownBlock = some g' → g' ≠ g) (i : Nat) (u : Value) : Own (w.setCell ⟨g, i, none⟩ u) B t v cs := by
  refine ⟨h.1, ?_⟩
  rcases h.2 with hn | ⟨g', cap, cur, rfl, hB0, hg, rest⟩
  · exact .inl hn
  · exact .inr ⟨g', cap, cur, rfl, hB0, by rw [Below.heap_setCell _ _ _ _ (hne g' rfl)]; exact hg, rest⟩
theorem OwnK.set {w B t k g n c zs} (h : OwnK w B t k (.slice (some ⟨g, 0, none⟩) n c) zs) (i : Nat) (z : Int) : OwnK (w.setCell ⟨g, i, none⟩ (.int k z)) B t k (.slice (some ⟨g, 0, none⟩) n c) (zs.set i z) := by
  have := Own.set h i (.int k z)
  unfold OwnK
  rw [List.map_set]
  exact this
theorem OwnK.cell {w B t k g n c zs} (h : OwnK w B t k (.slice (some ⟨g, 0, none⟩) n c) zs) {i : Nat} (hi : i < zs.length) : w.cell? ⟨g, i, none⟩ = some (.int k (zs.getD i 0)) := by
  have := Own.cell h (i := i) (by simpa using hi)
  rw [this]; simp [hi]
theorem OwnK.rd {w B t k A n c zs} (h : OwnK w B t k (.slice A n c) zs) : Rd w k A zs := by
  obtain ⟨A', c', h1, _, _, h4, _⟩ := h.form
  cases h1
  exact h4
theorem OwnK.len {w B t k A n c zs} (h : OwnK w B t k (.slice A n c) zs) : n = zs.length := by have := Own.len h; simpa using this
theorem OwnK.row {w B t k v zs} (h : OwnK w B t k v zs) (h0 : 0 < zs.length) : ∃ g c, v = .slice (some ⟨g, 0, none⟩) zs.length c ∧ B ≤ g ∧ g < w.heap.size ∧ zs.length ≤ c ∧ c ≤ maxLen := by
  have := Own.row h (by simpa using h0)
  simpa using this
theorem Own.cut {w B t g n c cs} (h : Own w B t (.slice (some ⟨g, 0, none⟩) n c) cs) {m : Nat} (hm : m ≤ n) : Own w B t (.slice (some ⟨g, 0, none⟩) m c) (cs.take m) := by
  have hn := h.len
  subst hn
  have hlen : (cs.take m).length = m := by rw [List.length_take]; omega
  refine ⟨by simp, ?_⟩
  rcases h.2 with ⟨h1, _⟩ | ⟨g', cap, cur, h1, hB, hg, hnc, hcm, hs, ht⟩
  · cases h1
  · cases h1
    refine .inr ⟨g, c, cur, by rw [hlen], hB, hg, by omega, hcm, hs, ?_⟩
    rw [hlen, ← ht, List.take_take]
    congr 1; omega
/-- written elsewhere -/
theorem Own.other {w w' B t v cs} (h : Own w B t v cs) {row : Option Nat} (hg : w.grownBy w' row) (hne : v.ownBlock = none ∨ v.ownBlock ≠ row) : Own w' B t v cs := World.ownsRow.kept h hg hne
theorem Own.below {w0 w w' B B' t v cs} (hb : Below B' w0 w) (h : Own w B t v cs) (hg : w.grownBy w' v.ownBlock) (hB : B' ≤ B) (hB2 : B' ≤ w.heap.size) : Below B' w0 w' :=
  hb.grown hg hB2 fun k hk => Nat.le_trans hB (World.ownsRow.lt h k hk).1
theorem Own.below_set {w0 w B B' t g n c cs} (hb : Below B' w0 w) (h : Own w B t (.slice (some ⟨g, 0, none⟩) n c) cs) (hB : B' ≤ B) (i : Nat) (u : Value) : Below B' w0 (w.setCell ⟨g, i, none⟩ u) :=
  hb.setCell (p := ⟨g, i, none⟩) (Nat.le_trans hB (World.ownsRow.lt h g rfl).1) u

/-! ### the rules -/
section
variable {P : Program} {n : Cx} {fr : Fr} {w w' : World} {ty : TypeId} {x y z : Operand} {v u : Value} {T T2 e : TypeId} {op : Op}

theorem ot_of {U : Value → World → Prop} (h : ∀ a, Ag n fr a → ∃ v w', (execOp a.eval ⟨none, op, ty, "", #[], none⟩).run P w = .ok (.value v) w' ∧ U v w') : OT P n op ty fr w U := by unfold OT; exact h
theorem OT.mono {U U' : Value → World → Prop} (h : OT P n op ty fr w U) (hU : ∀ v w', U v w' → U' v w') : OT P n op ty fr w U' := by
  unfold OT at *
  exact fun a ha => let ⟨v, w', h1, h2⟩ := h a ha; ⟨v, w', h1, hU _ _ h2⟩
theorem OS.ot (h : OS P n op ty fr w v w') {U : Value → World → Prop} (hU : U v w') : OT P n op ty fr w U := by
  unfold OS at h
  unfold OT
  exact fun a ha => ⟨v, w', h a ha, hU⟩

/-- in a region that draws: an operation that lays memory, and a fact on what it yields -/
theorem vt_new {all rest : List Oper} {le : World → World → Prop} {w0 : World} {ts : Ts} {Q : Exit → Fr → World → Prop} {d : Nat} {pos : String} {aft : Array Edge} {g : Option (Nat × Bool)} {gw : World → Prop} (U : Fact) (hU : Stable le U) {v' : World → Value} {w'' : World → World}
    (h : ∀ w, le w0 w → OS P n op ty fr w (v' w) (w'' w)) (hle : ∀ w, le w0 w → le w (w'' w) ∧ U (v' w) (w'' w)) (k : VT P n all le w0 rest fr ((d, U) :: ts) Q gw) (hg : GOk all fr g := by first | exact True.intro | rfl) (hcl : clean fr ts all ⟨some d, op, ty, pos, aft, g⟩ = true := by rfl) :
    VT P n all le w0 (⟨some d, op, ty, pos, aft, g⟩ :: rest) fr ts Q gw := vt_fact U hU (fun w hw => (h w hw).ot (hle w hw)) k hg hcl

/-- a type's row of the table: its zero value, how many cells, how many bytes -/
def TyInfo (P : Program) (e : TypeId) (z : Value) (size bytes : Nat) : Prop := (P.info? e).map (fun i => (i.zero, i.size, i.bytes)) = some (some z, size, bytes)

/-- make([]T, 0, n) -/
theorem ot_make0 {k k2 : IntKind} {m c : Int} {l : Nat} {z0 : Value} {bytes : Nat} (hT : P.underlying T = some (.slice e)) (hi : TyInfo P e z0 1 bytes) (hx : Fr.ev fr x = some (.int k m)) (hy : Fr.ev fr y = some (.int k2 c)) (hm : m = 0) (hc : c = (l : Int))
    (hb : bytes * l ≤ 281474976710656) (hl : l ≤ maxLen) (B : Nat) (hB : B ≤ w.heap.size) : OT P n (.makeSlice T x y) ty fr w fun v w' => v = .slice (some ⟨w.heap.size, 0, none⟩) 0 l ∧ Own w' B e v [] ∧ w.grownBy w' none := by
  subst hm; subst hc
  obtain ⟨i, h1, h2, h3, h4⟩ := info_parts hi
  obtain ⟨w', hr, ho, hg⟩ := run_make_own (P := P) w B T e i z0 1 hT h1 h2 h3 k k2 l (by rw [h4]; exact hb) hl hB
  exact ot_of fun a ha => ⟨_, w', by simp [execOp, ha.ev hx, ha.ev hy, hr, Result.andThen], rfl, ho, hg⟩
/-- make([]T, n) -/
theorem ot_make {k k2 : IntKind} {m c : Int} {l : Nat} {z0 : Value} {bytes : Nat} (hT : P.underlying T = some (.slice e)) (hi : TyInfo P e z0 1 bytes) (hz : z0.cells = #[z0]) (hx : Fr.ev fr x = some (.int k m)) (hy : Fr.ev fr y = some (.int k2 c)) (hm : m = (l : Int)) (hc : c = (l : Int))
    (hb : bytes * l ≤ 281474976710656) (hl : l ≤ maxLen) (B : Nat) (hB : B ≤ w.heap.size) : OT P n (.makeSlice T x y) ty fr w fun v w' => v = .slice (some ⟨w.heap.size, 0, none⟩) l l ∧ Own w' B e v (List.replicate l z0) ∧ w.grownBy w' none := by
  subst hm; subst hc
  obtain ⟨i, h1, h2, h3, h4⟩ := info_parts hi
  obtain ⟨w', hr, ho, hg⟩ := run_make_full (P := P) w B T e i z0 1 hT h1 h2 h3 k k2 l (by rw [h4]; exact hb) hl hB
  refine ot_of fun a ha => ⟨_, w', by simp [execOp, ha.ev hx, ha.ev hy, hr, Result.andThen], rfl, ?_, hg⟩
  have hcells : (madeCells z0.cells (l * 1)).toList = List.replicate l z0 := by
    rw [hz]
    apply List.ext_getElem
    · simp [madeCells]
    · intro i h1 h2; simp [madeCells, Nat.mod_one]
  rw [hcells] at ho
  unfold Own
  rw [List.length_replicate]
  exact ho

/-- append(s, x...): s a list of the call's own -/
theorem ot_append {A : Option Addr} {m c : Nat} {cs news : List Value} {z0 : Value} {bytes : Nat} {B : Nat} (hT : P.underlying T = some (.slice e)) (hi : TyInfo P e z0 1 bytes) (hz : z0.cells.size = 1) (hx : Fr.ev fr x = some v) (hy : Fr.ev fr y = some (.slice A m c))
    (ho : Own w B e v cs) (hr : RdC w A news) (hm : m = news.length) (h1 : ∀ u ∈ news, u.oneCell' = true) (hb : (cs.length + m) * bytes ≤ 140737488355328) (hl : cs.length + m ≤ maxLen) (hB : B ≤ w.heap.size) :
    OT P n (.call ⟨.builtin .append, #[x, y], #[T, T]⟩) ty fr w fun v' w' => Own w' B e v' (cs ++ news) ∧ w.grownBy w' v.ownBlock := by
  obtain ⟨i, i1, i2, i3, i4⟩ := info_parts hi
  by_cases h0 : 0 < news.length
  · obtain ⟨b, o, rfl, hc⟩ := hr h0
    obtain ⟨v', w', hrun, ho', hg, _⟩ := run_append_own (P := P) w B T ty e i z0 1 bytes hT i1 i2 i3 i4 hz (by omega) v cs.length cs ho ⟨b, o, none⟩ m c news (by omega)
      (fun j u hu => by
        have hj := (List.getElem?_eq_some_iff.1 hu).1
        rw [addr_add, hc j hj]; exact hu) h1 hl hb hB
    refine ot_of fun a ha => ⟨v', w', by simp [execOp, resolve, invoke, builtin, ha.ev hx, ha.ev hy, hrun, Result.andThen], ?_, hg⟩
    unfold Own
    rw [List.length_append, ← hm]
    exact ho'
  · have hnil : news = [] := List.eq_nil_of_length_eq_zero (by omega)
    subst hnil
    have hm0 : m = 0 := by simpa using hm
    subst hm0
    have hrun : (Builtin.append_ #[T, T] ty #[v, .slice A 0 c]).run P w = .ok v w := by
      rcases ho.2 with ⟨rfl, h2⟩ | ⟨g, cap, cur, rfl, _, _, hnc, _⟩
      · cases A <;> simp [Builtin.append_, run_underlying hT, sizeOf, typeInfo, i1, Builtin.lenOf, Builtin.firstCells, loadCells, loadCellsFrom]
      · cases A <;> simp [Builtin.append_, run_underlying hT, sizeOf, typeInfo, i1, Builtin.lenOf, Builtin.firstCells, hnc, storeCells, loadCells, loadCellsFrom]
    refine ot_of fun a ha => ⟨v, w, by simp [execOp, resolve, invoke, builtin, ha.ev hx, ha.ev hy, hrun, Result.andThen], by simpa using ho, World.grownBy.refl _ _⟩

def oneCells : List Value → Bool
  | [] => true
  | v :: r => v.oneCell' && oneCells r
def partsOf : List Value → Nat → List (Nat × Value)
  | [], _ => []
  | v :: r, i => (i, v) :: partsOf r (i + 1)
theorem fill_one : ∀ (vs : List Value) (i : Nat) (cells : Array Value), oneCells vs = true → i + vs.length = cells.size →
    Instr.fill (fun i => some (i * 1, 1)) cells (partsOf vs i) = some (cells.toList.take i ++ vs).toArray
  | [], i, cells, _, hl => by
    simp only [partsOf, Instr.fill, List.append_nil]
    have : i = cells.toList.length := by simpa using hl
    rw [this, List.take_length]
  | v :: r, i, cells, h1, hl => by
    simp only [oneCells, Bool.and_eq_true] at h1
    have hc : v.cells = #[v] := by cases v <;> simp_all [Value.cells, Value.oneCell']
    simp only [List.length_cons] at hl
    have hi : i < cells.size := by omega
    have h2 : ¬ (i * 1 + 1 > cells.size) := by omega
    have h3 : (#[v].zipIdx.foldl (fun cs (x : Value × Nat) => cs.setIfInBounds (i + x.2) x.1) cells) = cells.setIfInBounds i v := by simp [Array.zipIdx]
    have ih := fill_one r (i + 1) (cells.setIfInBounds i v) h1.2 (by simp; omega)
    simp only [Nat.mul_one] at ih
    simp only [partsOf, Instr.fill, hc]
    simp only [List.size_toArray, List.length_cons, List.length_nil, ne_eq, Nat.zero_add, not_true_eq_false, decide_false, Bool.false_or, h2, Bool.false_eq_true, if_false, Nat.mul_one, h3]
    simp only [Nat.mul_one] at h2
    simp only [h2, decide_false, Bool.false_eq_true, if_false]
    rw [ih]
    congr 2
    have h4 : (cells.toList.set i v).take (i + 1) = cells.toList.take i ++ [v] := by
      rw [List.take_set, List.take_succ_eq_append_getElem (by simpa using hi), List.set_append_right _ _ (by simp; omega)]
      simp [Nat.min_eq_left (Nat.le_of_lt hi)]
    rw [Array.toList_setIfInBounds, h4]
    simp

def evP (fr : Fr) : List (Nat × Operand) → Nat → Option (List Value)
  | [], _ => some []
  | (i, x) :: r, j => match Nat.beq i j with
    | true => match Fr.ev fr x with
      | some v => match evP fr r (j + 1) with
        | some vs => some (v :: vs)
        | none => none
      | none => none
    | false => none
theorem Ag.evP {n : Cx} {fr : Fr} {a : Act} (h : Ag n fr a) : ∀ {xs : List (Nat × Operand)} {j : Nat} {vs : List Value}, evP fr xs j = some vs → xs.map (fun p => (p.1, a.eval p.2)) = partsOf vs j
  | [], j, vs, hx => by simp [Ytpojijnjdlnokaa.evP] at hx; subst hx; rfl
  | (i, x) :: r, j, vs, hx => by
    simp only [Ytpojijnjdlnokaa.evP] at hx
    cases hb : Nat.beq i j with
    | false => simp [hb] at hx
    | true =>
      have hij := Nat.eq_of_beq_eq_true hb
      cases h1 : Fr.ev fr x with
      | none => simp [hb, h1] at hx
      | some v =>
        cases h2 : Ytpojijnjdlnokaa.evP fr r (j + 1) with
        | none => simp [hb, h1, h2] at hx
        | some us =>
          simp [hb, h1, h2] at hx
          subst hx
          simp [partsOf, hij, h.ev h1, h.evP h2]

/-- []T{..}, all its elements written out -/
theorem os_lit {l : Nat} {ps : List (Nat × Operand)} {vs : List Value} {z0 : Value} (hT : P.underlying T = some (.slice e)) (hs : ∀ w, (sizeOf e).run P w = .ok 1 w) (hz : ∀ w, (zeroValue e).run P w = .ok z0 w) (hz1 : z0.cells.size = 1) (hx : evP fr ps 0 = some vs) (hl : l = vs.length) (h1 : oneCells vs = true) (h2 : l ≤ 16777216) :
    OS P n (.buildSlice T l ps.toArray) ty fr w (.slice (some ⟨w.heap.size, 0, none⟩) l l) (w.alloc (.cells vs.toArray e)) := by
  subst hl
  refine os_of fun a ha => ?_
  have hp := ha.evP hx
  have hfill : ∀ zero : Array Value, zero.size = 1 ∨ vs.length = 0 → Instr.fill (fun i => some (i * 1, 1)) ((Array.range (vs.length * 1)).map (fun i => zero[i % zero.size]!)) (partsOf vs 0) = some vs.toArray := by
    intro zero _
    have := fill_one vs 0 ((Array.range (vs.length * 1)).map (fun i => zero[i % zero.size]!)) h1 (by simp)
    simpa using this
  have hgt : ¬ vs.length * 1 > 2 ^ 24 := by omega
  by_cases h0 : vs.length = 0
  · have hv : vs = [] := List.eq_nil_of_length_eq_zero h0
    subst hv
    have hps : ps = [] := by
      cases ps with
      | nil => rfl
      | cons p r => simp [partsOf] at hp
    subst hps
    simp [execOp, Instr.buildSlice, run_underlying hT, hs, Instr.fill, newRow, Result.andThen]
    rw [show Array.map (fun _ => (default : Value)) (Array.range 0) = #[] from Array.eq_empty_of_size_eq_zero (by simp)]
  · have hz2 := hfill z0.cells (.inl hz1)
    simp only [Nat.mul_one] at hz2
    simp [execOp, Instr.buildSlice, run_underlying hT, hs, hz, hp, newRow, Result.andThen, h0, show ¬ 16777216 < vs.length from by omega]
    rw [hz2]
    simp

theorem rdc_alloc (w : World) (vs : List Value) (e : TypeId) : RdC (w.alloc (.cells vs.toArray e)) (some ⟨w.heap.size, 0, none⟩) vs := by
  intro _
  refine ⟨_, 0, rfl, fun i hi => ?_⟩
  rw [cell_of_row _ w.heap.size (0 + i) vs.toArray e (0, 0) (heap_alloc_new w _)]
  simp
theorem rd_alloc (w : World) (k : IntKind) (zs : List Int) (e : TypeId) : Rd (w.alloc (.cells (zs.map (Value.int k)).toArray e)) k (some ⟨w.heap.size, 0, none⟩) zs := (rdc_alloc w (zs.map (Value.int k)) e).toRd
theorem own_alloc (w : World) (vs : List Value) (e : TypeId) {B : Nat} (hB : B ≤ w.heap.size) (hl : vs.length ≤ maxLen) : Own (w.alloc (.cells vs.toArray e)) B e (.slice (some ⟨w.heap.size, 0, none⟩) vs.length vs.length) vs := by
  have := World.ownsRow_lit (base := B) (e := e) (size := 1) w vs.toArray vs.length hB hl (by simp)
  simpa [Own] using this
end
end Go.Proofs.Ytpojijnjdlnokaa

/- Structs in memory: fields, whole loads and stores, struct values. No program in sight. -/
namespace Go.Proofs.Ytpojijnjdlnokaa
open Go.RowKit
set_option linter.unusedVariables false

/-- block g holds just these cells -/
def Bk (w : World) (g : Nat) (cs : List Value) (t : TypeId) : Prop := w.heap[g]? = some (.cells cs.toArray t (0, 0))

theorem Bk.cell {w g cs t} (h : Bk w g cs t) {i : Nat} {v : Value} (hv : nthV cs i = some v) : w.cell? ⟨g, 0 + i, none⟩ = some v := by
  rw [nthV_eq] at hv
  rw [cell_of_row w g (0 + i) cs.toArray t (0, 0) h]
  simpa using hv
theorem Bk.free {w g cs t} (h : Bk w g cs t) (i : Nat) : w.frozen? ⟨g, i, none⟩ = false := by
  unfold World.frozen?
  unfold Bk at h
  simp [h]
theorem Bk.lt {w g cs t} (h : Bk w g cs t) : g < w.heap.size := (Array.getElem?_eq_some_iff.1 h).1
theorem Bk.keep {w w' g cs t} (h : Bk w g cs t) (hb : Below w.heap.size w w') : Bk w' g cs t := (hb.block g h.lt).trans h
theorem Bk.below {w w' g cs t B} (h : Bk w g cs t) (hb : Below B w w') (hg : g < B) : Bk w' g cs t := (hb.block g hg).trans h
theorem Bk.led {w w' g cs t} (h : Bk w g cs t) (hb : LeD w w') : Bk w' g cs t := by obtain ⟨q, rfl⟩ := hb; exact h
theorem Bk.alloc {w g cs t} (h : Bk w g cs t) (o : Obj) : Bk (w.alloc o) g cs t := h.keep ((Below.refl _ _).alloc (Nat.le_refl _) o)
theorem bk_new (w : World) (cs : List Value) (t : TypeId) : Bk (w.alloc (.cells cs.toArray t)) w.heap.size cs t := heap_alloc_new w _
theorem Bk.set {w g cs t} (h : Bk w g cs t) (i : Nat) (u : Value) : Bk (w.setCell ⟨g, 0 + i, none⟩ u) g (cs.set i u) t := by
  unfold Bk at *
  unfold World.setCell
  simp [h, Array.getElem?_modify]
theorem Bk.other {w g cs t} (h : Bk w g cs t) {a : Addr} (ha : a.block ≠ g) (u : Value) : Bk (w.setCell a u) g cs t := by
  unfold Bk at *
  rw [Below.heap_setCell _ _ _ _ (fun e => ha e.symm)]; exact h
theorem Bk.grown {w w' g cs t row} (h : Bk w g cs t) (hg : w.grownBy w' row) (hne : some g ≠ row) : Bk w' g cs t := by
  unfold Bk at *
  rw [hg.block g (Array.getElem?_eq_some_iff.1 h).1 hne]; exact h
theorem Bk.rdc {w g cs t} (h : Bk w g cs t) : RdC w (some ⟨g, 0, none⟩) cs := fun _ => ⟨g, 0, rfl, fun i hi => by
  rw [cell_of_row w g (0 + i) cs.toArray t (0, 0) h]; simp⟩
theorem below_set {w0 w : World} {B g : Nat} (hb : Below B w0 w) (hg : B ≤ g) (i : Nat) (u : Value) : Below B w0 (w.setCell ⟨g, i, none⟩ u) := hb.setCell (p := ⟨g, i, none⟩) hg u
theorem setRow_bk {w : World} {g : Nat} {cs : List Value} {t : TypeId} (h : Bk w g cs t) (ds : List Value) : Bk (w.setRow g ds.toArray) g ds t := by
  unfold Bk at *
  unfold World.setRow
  simp [h, Array.getElem?_modify]

theorem below_setRow {w0 w : World} {B g : Nat} (hb : Below B w0 w) (hg : B ≤ g) (cs : Array Value) : Below B w0 (w.setRow g cs) :=
  ⟨hb.os, hb.tape, hb.output, by simpa [World.setRow] using hb.size, fun k hk => by
    rw [← hb.block k hk]
    simp [World.setRow, Array.getElem?_modify, show ¬ g = k by omega]⟩

/-- field i of struct type s: at which cell; of how many cells -/
def fieldB (P : Program) (s i : Nat) : Option (Nat × Nat) := match P.underlying s with
  | some (.struct fs) => match fs[i]? with
    | some f => match P.info? f.type with
      | some inf => some (f.offset, inf.size)
      | none => none
    | none => none
  | _ => none

section
variable {P : Program} {n : Cx} {fr : Fr} {w w' : World} {ty : TypeId} {x y z : Operand} {v u : Value} {T T2 e : TypeId} {op : Op}

theorem fieldB_spec {s i o k : Nat} (h : fieldB P s i = some (o, k)) : ∃ fs f, P.underlying s = some (.struct fs) ∧ fs[i]? = some f ∧ f.offset = o ∧ ∀ w, (sizeOf f.type).run P w = .ok k w := by
  unfold fieldB at h
  split at h
  · rename_i fs hu
    split at h
    · rename_i f hf
      split at h
      · rename_i inf hi
        simp only [Option.some.injEq, Prod.mk.injEq] at h
        exact ⟨fs, f, hu, hf, h.1, fun w => by simp [sizeOf, typeInfo, hi, h.2]⟩
      · cases h
    · cases h
  · cases h

theorem os_fa {b o0 o k i : Nat} (hF : fieldB P T i = some (o, k + 1)) (hx : Fr.ev fr x = some (.pointer (some ⟨b, o0, none⟩))) : OS P n (.fieldAddr T x i) ty fr w (.pointer (some ⟨b, o0 + o, none⟩)) w := by
  obtain ⟨fs, f, hu, hf, ho, hs⟩ := fieldB_spec hF
  exact os_of fun a ha => by
    simp [execOp, ha.ev hx, Instr.fieldAt, run_underlying hu, hf, Instr.sureAddr, fieldPlace, hs, ho, addr_add]

/-- a field of one cell of a struct's value -/
theorem os_fld {cs : List Value} {i o : Nat} (hF : fieldB P T i = some (o, 1)) (hA : ∀ fs f, P.underlying T = some (.struct fs) → fs[i]? = some f → ∀ w, (isAgg f.type).run P w = .ok false w) (hx : Fr.ev fr x = some (.agg cs.toArray)) (hv : nthV cs o = some v) : OS P n (.field T x i) ty fr w v w := by
  obtain ⟨fs, f, hu, hf, ho, hs⟩ := fieldB_spec hF
  rw [nthV_eq] at hv
  exact os_of fun a ha => by
    simp [execOp, ha.ev hx, Instr.field, run_underlying hu, hf, asAgg, part, hA fs f hu hf, ho, hv]

/-- a whole struct or array is read -/
theorem os_loadB {g : Nat} {cs : List Value} {t : TypeId} {d : TypeDesc} (hu : P.underlying T = some d) (hd : (match d with | .struct _ | .array _ _ => true | _ => false) = true) (hs : (P.info? T).map (·.size) = some cs.length) (hx : Fr.ev fr x = some (.pointer (some ⟨g, 0, none⟩))) (hg : Bk w g cs t) :
    OS P n (.load T x) ty fr w (.agg cs.toArray) w := os_of fun a ha => by
  have := run_loadVar_row (P := P) w g t T cs.toArray (0, 0) d hg hu hd (by simpa using hs)
  simp [execOp, ha.ev hx, Instr.loadAt, Instr.sureAddr, this]
/-- a whole struct or array is written -/
theorem ou_storeB {g : Nat} {cs ds : List Value} {t : TypeId} (hs : (P.info? T).map (·.size) = some ds.length) (hx : Fr.ev fr x = some (.pointer (some ⟨g, 0, none⟩))) (hy : Fr.ev fr y = some (.agg ds.toArray)) (hg : Bk w g cs t) (hl : cs.length = ds.length) (h1 : oneCells ds = true) :
    OU P n (.store T x y) ty fr w (w.setRow g ds.toArray) := by
  have h2 : ds.toArray.all (·.oneCell') = true := by
    have : ∀ l : List Value, oneCells l = true → l.all (·.oneCell') = true := by
      intro l
      induction l with
      | nil => intro _; rfl
      | cons v r ih => intro h; simp only [oneCells, Bool.and_eq_true] at h; simp [h.1]; simpa using ih h.2
    simpa using this ds h1
  have := run_storeVar_row (P := P) w g t T cs.toArray ds.toArray hg (by simpa using hs) (by simpa using hl) h2
  unfold OU
  intro a ha
  simp [execOp, ha.ev hx, ha.ev hy, Instr.storeAt, Instr.sureAddr, this]

def evN (fr : Fr) : List (Nat × Operand) → Option (List (Nat × Value))
  | [] => some []
  | (i, x) :: r => match Fr.ev fr x with
    | some v => match evN fr r with
      | some vs => some ((i, v) :: vs)
      | none => none
    | none => none
theorem Ag.evN {n : Cx} {fr : Fr} {a : Act} (h : Ag n fr a) : ∀ {xs : List (Nat × Operand)} {vs : List (Nat × Value)}, evN fr xs = some vs → xs.map (fun p => (p.1, a.eval p.2)) = vs
  | [], vs, hx => by simp [Ytpojijnjdlnokaa.evN] at hx; subst hx; rfl
  | (i, x) :: r, vs, hx => by
    simp only [Ytpojijnjdlnokaa.evN] at hx
    cases h1 : Fr.ev fr x with
    | none => simp [h1] at hx
    | some v =>
      cases h2 : Ytpojijnjdlnokaa.evN fr r with
      | none => simp [h1, h2] at hx
      | some us =>
        simp [h1, h2] at hx
        subst hx
        simp [h.ev h1, h.evN h2]
/-- T{..} -/
theorem os_build {ps : List (Nat × Operand)} {vs : List (Nat × Value)} {cs : List Value} (hx : evN fr ps = some vs) (hb : P.built T vs = some cs.toArray) : OS P n (.build T ps.toArray) ty fr w (.agg cs.toArray) w := os_of fun a ha => by
  have h1 := ha.evN hx
  have h2 := run_build (P := P) w T (ps.map (fun p => (p.1, a.eval p.2))).toArray cs.toArray (by rw [h1]; simpa using hb)
  have h3 : (execOp a.eval ⟨none, .build T ps.toArray, ty, "", #[], none⟩) = (do pure (.value (← Instr.build T (ps.map (fun p => (p.1, a.eval p.2))).toArray))) := by
    simp [execOp]
  rw [h3]
  simp [h2]
end
end Go.Proofs.Ytpojijnjdlnokaa

/- append, and where the result's row lies. No program in sight. -/
namespace Go.Proofs.Ytpojijnjdlnokaa
open Go.RowKit
set_option linter.unusedVariables false
section
variable {P : Program} {n : Cx} {fr : Fr} {w w' : World} {ty : TypeId} {x y z : Operand} {v u : Value} {T T2 e : TypeId} {op : Op}
/-- append(s, x...), and where the result's row lies -/
theorem ot_append_at {A : Option Addr} {m c : Nat} {cs news : List Value} {z0 : Value} {bytes : Nat} {B : Nat} (hT : P.underlying T = some (.slice e)) (hi : TyInfo P e z0 1 bytes) (hz : z0.cells.size = 1) (hx : Fr.ev fr x = some v) (hy : Fr.ev fr y = some (.slice A m c))
    (ho : Own w B e v cs) (hr : RdC w A news) (hm : m = news.length) (h1 : ∀ u ∈ news, u.oneCell' = true) (hb : (cs.length + m) * bytes ≤ 140737488355328) (hl : cs.length + m ≤ maxLen) (hB : B ≤ w.heap.size) :
    OT P n (.call ⟨.builtin .append, #[x, y], #[T, T]⟩) ty fr w fun v' w' => Own w' B e v' (cs ++ news) ∧ w.grownBy w' v.ownBlock ∧ (v'.ownBlock = v.ownBlock ∨ v'.ownBlock = some w.heap.size) := by
  obtain ⟨i, i1, i2, i3, i4⟩ := info_parts hi
  by_cases h0 : 0 < news.length
  · obtain ⟨b, o, rfl, hc⟩ := hr h0
    obtain ⟨v', w', hrun, ho', hg, _, hown⟩ := run_append_own_at (P := P) w B T ty e i z0 1 bytes hT i1 i2 i3 i4 hz (by omega) v cs.length cs ho ⟨b, o, none⟩ m c news (by omega)
      (fun j u hu => by
        have hj := (List.getElem?_eq_some_iff.1 hu).1
        rw [addr_add, hc j hj]; exact hu) h1 hl hb hB
    refine ot_of fun a ha => ⟨v', w', by simp [execOp, resolve, invoke, builtin, ha.ev hx, ha.ev hy, hrun, Result.andThen], ?_, hg, hown⟩
    unfold Own
    rw [List.length_append, ← hm]
    exact ho'
  · have hnil : news = [] := List.eq_nil_of_length_eq_zero (by omega)
    subst hnil
    have hm0 : m = 0 := by simpa using hm
    subst hm0
    have hrun : (Builtin.append_ #[T, T] ty #[v, .slice A 0 c]).run P w = .ok v w := by
      rcases ho.2 with ⟨rfl, h2⟩ | ⟨g, cap, cur, rfl, _, _, hnc, _⟩
      · cases A <;> simp [Builtin.append_, run_underlying hT, sizeOf, typeInfo, i1, Builtin.lenOf, Builtin.firstCells, loadCells, loadCellsFrom]
      · cases A <;> simp [Builtin.append_, run_underlying hT, sizeOf, typeInfo, i1, Builtin.lenOf, Builtin.firstCells, hnc, storeCells, loadCells, loadCellsFrom]
    refine ot_of fun a ha => ⟨v, w, by simp [execOp, resolve, invoke, builtin, ha.ev hx, ha.ev hy, hrun, Result.andThen], by simpa using ho, World.grownBy.refl _ _, .inl rfl⟩
end
/-- two lists of a call's own in two rows -/
def sep (h r : Value) : Prop := ∀ x, h.ownBlock = some x → r.ownBlock ≠ some x
theorem sep.symm {h r : Value} (s : sep h r) : sep r h := fun x hr hh => s x hh hr
theorem sep.grow {h h' r : Value} {w : World} {B : Nat} {t : TypeId} {cs : List Value} (s : sep h r) (hr : Own w B t r cs) (hh : h'.ownBlock = h.ownBlock ∨ h'.ownBlock = some w.heap.size) : sep h' r := by
  intro x hx hrx
  rcases hh with e | e
  · rw [e] at hx; exact s x hx hrx
  · rw [e] at hx; cases hx
    have := (World.ownsRow.lt hr _ hrx).2
    omega
theorem sep.other {h r : Value} (s : sep h r) : r.ownBlock = none ∨ r.ownBlock ≠ h.ownBlock := by
  cases hr : r.ownBlock with
  | none => exact .inl rfl
  | some x => exact .inr fun e => s x e.symm hr
end Go.Proofs.Ytpojijnjdlnokaa

/- What stays but for some blocks. No program in sight. -/
namespace Go.Proofs.Ytpojijnjdlnokaa
open Go.RowKit
set_option linter.unusedVariables false
/-! ### all stays but for some blocks -/
structure Kb (S : List Nat) (w w' : World) : Prop where
  os : w'.os = w.os
  tape : w'.tape = w.tape
  output : w'.output = w.output
  size : w.heap.size ≤ w'.heap.size
  block : ∀ k, k < w.heap.size → k ∉ S → w'.heap[k]? = w.heap[k]?
theorem Kb.refl (S : List Nat) (w : World) : Kb S w w := ⟨rfl, rfl, rfl, Nat.le_refl _, fun _ _ _ => rfl⟩
theorem Kb.trans {S T : List Nat} {a b c : World} (h : Kb S a b) (h' : Kb T b c) (hT : ∀ k ∈ T, k ∈ S ∨ a.heap.size ≤ k) : Kb S a c :=
  ⟨h'.os.trans h.os, h'.tape.trans h.tape, h'.output.trans h.output, Nat.le_trans h.size h'.size, fun k hk hS => by
    rw [h'.block k (Nat.lt_of_lt_of_le hk h.size) (fun hkT => by rcases hT k hkT with h1 | h1; exact hS h1; omega), h.block k hk hS]⟩
theorem Kb.mono {S T : List Nat} {a b : World} (h : Kb S a b) (hT : ∀ k ∈ S, k ∈ T ∨ a.heap.size ≤ k) : Kb T a b :=
  ⟨h.os, h.tape, h.output, h.size, fun k hk hS => h.block k hk fun hkS => by rcases hT k hkS with h1 | h1; exact hS h1; omega⟩
theorem Kb.of_below {S : List Nat} {a b : World} (h : Below a.heap.size a b) : Kb S a b := ⟨h.os, h.tape, h.output, h.size, fun k hk _ => h.block k hk⟩
theorem Kb.below {S : List Nat} {B : Nat} {w0 a b : World} (h : Kb S a b) (hb : Below B w0 a) (hS : ∀ k ∈ S, B ≤ k) (hB : B ≤ a.heap.size) : Below B w0 b :=
  ⟨h.os.trans hb.os, h.tape.trans hb.tape, h.output.trans hb.output, Nat.le_trans hb.size h.size, fun k hk => by
    rw [h.block k (by omega) (fun hkS => by have := hS k hkS; omega), hb.block k hk]⟩
theorem Kb.led {S : List Nat} {a b : World} (h : LeD a b) : Kb S a b := Kb.of_below (led_below h)
theorem Kb.set {S : List Nat} {w : World} {g : Nat} (hg : g ∈ S) (i : Nat) (u : Value) : Kb S w (w.setCell ⟨g, i, none⟩ u) :=
  have hb := below_set (Below.refl 0 w) (Nat.zero_le g) i u
  ⟨hb.os, hb.tape, hb.output, by simp [World.setCell], fun k _ hk => by
    rw [Below.heap_setCell _ _ _ _ (fun e => hk (by simp at e; rw [e]; exact hg))]⟩
theorem Kb.grown {S : List Nat} {w w' : World} {row : Option Nat} (hg : w.grownBy w' row) (hS : ∀ k, row = some k → k ∈ S) : Kb S w w' := by
  have hb := (Below.refl 0 w).grown hg (Nat.zero_le _) (fun k hk => Nat.zero_le _)
  refine ⟨hb.os, hb.tape, hb.output, ?_, fun k hk hkS => hg.block k hk fun e => hkS (hS k e.symm)⟩
  exact hg.size
theorem Bk.kb {w w' g cs t S} (h : Bk w g cs t) (hb : Kb S w w') (hg : g ∉ S) : Bk w' g cs t := (hb.block g h.lt hg).trans h
theorem Own.kb {w w' B t v cs S} (h : Own w B t v cs) (hb : Kb S w w') (hg : ∀ g, v.ownBlock = some g → g ∉ S) : Own w' B t v cs := by
  refine ⟨h.1, ?_⟩
  rcases h.2 with hn | ⟨g, cap, cur, rfl, hB0, hgg, rest⟩
  · exact .inl hn
  · exact .inr ⟨g, cap, cur, rfl, hB0, (hb.block g (Array.getElem?_eq_some_iff.1 hgg).1 (hg g rfl)).trans hgg, rest⟩

end Go.Proofs.Ytpojijnjdlnokaa

/- Rows of parts of several cells each; and how an argument that is a list of structs, or of lists, opens. No program in sight. -/
namespace Go.Proofs.Ytpojijnjdlnokaa
open Go.ChangeShapes Go.WideShapes Go.ChangeAt Go.RowKit
set_option linter.unusedVariables false

/-- A leads to a row of parts of s cells each -/
def RdP (w : World) (s : Nat) (A : Option Addr) (ps : List (List Value)) : Prop :=
  ∀ (i : Nat) (c : List Value), ps[i]? = some c → ∃ b o, A = some ⟨b, o, none⟩ ∧ ∀ (j : Nat) (v : Value), c[j]? = some v → w.cell? ⟨b, o + i * s + j, none⟩ = some v
theorem RdP.keep {w w' s A ps} (h : RdP w s A ps) (hb : Below w.heap.size w w') : RdP w' s A ps := fun i c hc => by
  obtain ⟨b, o, e, h1⟩ := h i c hc
  exact ⟨b, o, e, fun j v hv => by
    have h2 := h1 j v hv
    have := World.block_lt_of_cell? w _ h2
    exact (hb.cell (p := ⟨b, o + i * s + j, none⟩) this).trans h2⟩
theorem RdP.led {w w' s A ps} (h : RdP w s A ps) (hb : LeD w w') : RdP w' s A ps := by obtain ⟨q, rfl⟩ := hb; exact h
theorem RdP.take {w s A ps} (h : RdP w s A ps) (n : Nat) : RdP w s A (ps.take n) := fun i c hc => by
  rw [List.getElem?_take] at hc
  split at hc
  · exact h i c hc
  · cases hc
theorem RdP.part {w s b o ps} (h : RdP w s (some ⟨b, o, none⟩) ps) {i : Nat} {c : List Value} (hc : ps[i]? = some c) : RdC w (some ⟨b, o + i * s, none⟩) c := fun hl => by
  obtain ⟨b', o', e, h1⟩ := h i c hc
  cases e
  exact ⟨b, o + i * s, rfl, fun j hj => by rw [h1 j c[j] (List.getElem?_eq_getElem hj), List.getElem?_eq_getElem hj]⟩
theorem RdP.cell {w s b o ps} (h : RdP w s (some ⟨b, o, none⟩) ps) {i j : Nat} {c : List Value} {v : Value} (hc : ps[i]? = some c) (hv : nthV c j = some v) : w.cell? ⟨b, o + i * s + j, none⟩ = some v := by
  rw [nthV_eq] at hv
  obtain ⟨b', o', e, h1⟩ := h i c hc
  cases e
  exact h1 j v hv
theorem RdP.toC {w A ps} (h : RdP w 1 A ps) (hl : ∀ c ∈ ps, c.length = 1) : RdC w A (ps.map (·.headD default)) := fun h0 => by
  have h0' : 0 < ps.length := by simpa using h0
  obtain ⟨b, o, e, _⟩ := h 0 _ (List.getElem?_eq_getElem h0')
  subst e
  refine ⟨b, o, rfl, fun i hi => ?_⟩
  have hi' : i < ps.length := by simpa using hi
  have h1 := hl ps[i] (List.getElem_mem _)
  obtain ⟨v, hv⟩ : ∃ v, ps[i] = [v] := by
    match hh : ps[i], h1 with
    | [v], _ => exact ⟨v, rfl⟩
  have := h.cell (i := i) (j := 0) (List.getElem?_eq_getElem hi') (v := v) (by rw [hv]; rfl)
  rw [Nat.mul_one, Nat.add_zero] at this
  rw [this]
  simp [hi', hv]
theorem RdC.toP {w A cs} (h : RdC w A cs) : RdP w 1 A (cs.map fun v => [v]) := fun i c hc => by
  have hi : i < cs.length := by simpa using (List.getElem?_eq_some_iff.1 hc).1
  obtain ⟨b, o, e, h1⟩ := h (by omega)
  refine ⟨b, o, e, fun j v hv => ?_⟩
  simp only [List.getElem?_map] at hc
  rw [List.getElem?_eq_getElem hi] at hc
  cases hc
  cases j with
  | zero => cases hv; rw [Nat.mul_one, Nat.add_zero, h1 i hi, List.getElem?_eq_getElem hi]
  | succ j => cases hv

section
variable {P : Program} {n : Cx} {fr : Fr} {w : World} {ty : TypeId} {x y z : Operand} {T T2 e : TypeId}
/-- a struct in a row is read whole -/
theorem os_loadP {A : Addr} {cs : List Value} {d : TypeDesc} (hu : P.underlying T = some d) (hd : (match d with | .struct _ | .array _ _ => true | _ => false) = true) (hs : (P.info? T).map (·.size) = some cs.length) (hx : Fr.ev fr x = some (.pointer (some A))) (hr : RdC w (some A) cs) :
    OS P n (.load T x) ty fr w (.agg cs.toArray) w := os_of fun a ha => by
  have hl : (loadCells A cs.length).run P w = .ok cs.toArray w := run_loadCells_list (P := P) w A cs (fun j u hu => by
    have hj := (List.getElem?_eq_some_iff.1 hu).1
    obtain ⟨b, off, e1, hc⟩ := hr (by omega)
    cases e1
    rw [addr_add, hc j hj]; exact hu)
  obtain ⟨i, hi, hi1⟩ : ∃ i, P.info? T = some i ∧ i.size = cs.length := by
    cases hq : P.info? T with
    | none => simp [hq] at hs
    | some i => exact ⟨i, rfl, by simpa [hq] using hs⟩
  have hagg : ∀ w, (isAgg T).run P w = .ok true w := fun w => by
    cases d <;> simp at hd <;> simp [isAgg, run_underlying hu]
  simp [execOp, ha.ev hx, Instr.loadAt, Instr.sureAddr, loadVar, hagg, sizeOf, typeInfo, hi, hi1, hl]
end

section
variable {H : Type} {enc : TypeId × Value → H} {P : Program} {w : World} {base : Nat} {spare : Nat → Bool} {held : Bool} {t e : TypeId} {fuel : Nat} {cs : List Value} {x : DataW H × List MemPlace}
theorem mem_all {d : DataW H} {m : Nat} (hm : m ∈ d.weights P e) : ∀ {l : List (DataW H)}, d ∈ l → m ∈ DataW.weightsAll P e l
  | c :: r, h => by
    simp only [DataW.weightsAll, List.mem_append]
    rcases List.mem_cons.1 h with rfl | h
    · exact .inl hm
    · exact .inr (mem_all hm h)
theorem sized_all {ts : List TypeId} {ds : List (DataW H)} (h : (DataW.weightsEach P ts ds).all (· ≤ reachBytes) = true) {j : Nat} {t : TypeId} {d : DataW H} (ht : ts[j]? = some t) (hd : ds[j]? = some d) : ∀ m ∈ d.weights P t, m ≤ reachBytes := fun m hm => by
  have := List.all_eq_true.1 h _ (DataW.weights_mem_each ht hd m hm)
  simpa using this
theorem open_parts {s : Nat} (ht : P.underlying t = some (.slice e)) (hC : P.cellsOf e = s) (h0 : 0 < s) (h : DataW.trod enc P w base spare held fuel t cs = some x) (hw : ∀ m ∈ x.1.weights P t, m ≤ reachBytes) :
    ∃ A len cap ps, cs = [.slice A len cap] ∧ ps.length = len ∧ len ≤ cap ∧ len * P.bytesOf e ≤ reachBytes ∧ RdP w s A ps ∧ ∀ c ∈ ps, c.length = s ∧ ∃ n y, DataW.trod enc P w base spare held n e c = some y ∧ ∀ m ∈ y.1.weights P e, m ≤ reachBytes := by
  subst hC
  rcases DataW.trod_slice ht h with ⟨rfl, _⟩ | ⟨a, len, cap, elems, rest, n, _, rfl, rfl, hb, hl, hm, hlen, hel, _, _⟩
  · exact ⟨none, 0, 0, [], rfl, rfl, Nat.le_refl _, by simp, fun i c hc => by simp at hc, fun c hc => by cases hc⟩
  · have hwl : len * P.bytesOf e ≤ reachBytes := by
      have := hw ((elems.length + rest.length) * P.bytesOf e) (by simp [DataW.weights, ht])
      exact Nat.le_trans (Nat.mul_le_mul_right _ (by omega)) this
    have hwe : ∀ y ∈ elems, ∀ m ∈ y.1.weights P e, m ≤ reachBytes := fun y hy m hm => hw m (by
      simp only [DataW.weights, ht, List.mem_cons, List.mem_append]
      exact .inr (.inl (mem_all hm (List.mem_map_of_mem hy))))
    have hparts : ∀ i, i < len → ∃ c, w.cells? base (a.add (i * P.cellsOf e)) (P.cellsOf e) = some c ∧ ∃ y, DataW.trod enc P w base spare held n e c = some y ∧ ∀ m ∈ y.1.weights P e, m ≤ reachBytes := fun i hi => by
      have h1 := hel i hi
      rw [List.getElem?_eq_getElem (by omega), Option.bind_eq_some_iff] at h1
      obtain ⟨c, h2, h3⟩ := h1
      exact ⟨c, h2, _, h3, hwe _ (List.getElem_mem _)⟩
    have hps : ∃ ps : List (List Value), ps.length = len ∧ ∀ i (c : List Value), ps[i]? = some c → w.cells? base (a.add (i * P.cellsOf e)) (P.cellsOf e) = some c ∧ ∃ y, DataW.trod enc P w base spare held n e c = some y ∧ ∀ m ∈ y.1.weights P e, m ≤ reachBytes := by
      clear hel h hw
      have : ∀ k, k ≤ len → ∃ ps : List (List Value), ps.length = k ∧ ∀ i (c : List Value), ps[i]? = some c → w.cells? base (a.add (i * P.cellsOf e)) (P.cellsOf e) = some c ∧ ∃ y, DataW.trod enc P w base spare held n e c = some y ∧ ∀ m ∈ y.1.weights P e, m ≤ reachBytes := by
        intro k
        induction k with
        | zero => intro _; exact ⟨[], rfl, fun i c hc => by simp at hc⟩
        | succ k ih =>
          intro hk
          obtain ⟨ps, h1, h2⟩ := ih (by omega)
          obtain ⟨c, h3, h4⟩ := hparts k (by omega)
          refine ⟨ps ++ [c], by simp [h1], fun i c' hc' => ?_⟩
          by_cases hi : i < k
          · rw [List.getElem?_append_left (by omega)] at hc'
            exact h2 i c' hc'
          · have hi2 : i = k := by have := (List.getElem?_eq_some_iff.1 hc').1; simp at this; omega
            subst hi2
            rw [List.getElem?_append_right (by omega), h1, Nat.sub_self] at hc'
            cases hc'
            exact ⟨h3, h4⟩
      exact this len (Nat.le_refl _)
    obtain ⟨ps, h1, h2⟩ := hps
    refine ⟨some a, len, cap, ps, rfl, h1, hl, hwl, fun i c hc => ?_, fun c hc => ?_⟩
    · have hi := (List.getElem?_eq_some_iff.1 hc).1
      obtain ⟨b, o, spot⟩ := a
      have hspot : spot = none := by
        obtain ⟨h3, _⟩ := h2 0 ps[0] (List.getElem?_eq_getElem (by omega))
        obtain ⟨_, h4, h5⟩ := World.cells?_some h3
        have h6 := h5 0 (by omega)
        rw [List.getElem?_eq_getElem (by omega)] at h6
        simpa [Addr.add] using World.cell?_spot h6
      subst hspot
      obtain ⟨h3, _⟩ := h2 i c hc
      obtain ⟨_, h4, h5⟩ := World.cells?_some h3
      refine ⟨b, o, rfl, fun j v hv => ?_⟩
      have hj := (List.getElem?_eq_some_iff.1 hv).1
      have h7 := h5 j (by omega)
      rw [addr_add, addr_add, hv] at h7
      exact h7
    · obtain ⟨i, hi⟩ := List.mem_iff_getElem?.1 hc
      obtain ⟨h3, y, h4⟩ := h2 i c hi
      exact ⟨(World.cells?_some h3).2.1, n, y, h4⟩
/-- an element that is a list of numbers -/
theorem open_nums {k : IntKind} (ht : P.underlying t = some (.slice e)) (he : P.underlying e = some (.int k)) (hC : P.cellsOf e = 1) (h : DataW.trod enc P w base spare held fuel t cs = some x) (hw : ∀ m ∈ x.1.weights P t, m ≤ reachBytes) :
    ∃ A len cap zs, cs = [.slice A len cap] ∧ zs.length = len ∧ len ≤ cap ∧ len * P.bytesOf e ≤ reachBytes ∧ Rd w k A zs ∧ ∀ z ∈ zs, (Lit.int k z).wf = true := by
  obtain ⟨A, len, cap, ps, rfl, h1, h2, h3, h4, h5⟩ := open_parts ht hC (by omega) h hw
  have hz : ∀ ps : List (List Value), (∀ c ∈ ps, c.length = 1 ∧ ∃ n y, DataW.trod enc P w base spare held n e c = some y ∧ ∀ m ∈ y.1.weights P e, m ≤ reachBytes) → ∃ zs : List Int, ps = zs.map (fun z => [Value.int k z]) ∧ ∀ z ∈ zs, (Lit.int k z).wf = true := by
    intro ps
    induction ps with
    | nil => intro _; exact ⟨[], rfl, fun z hz => by cases hz⟩
    | cons c r ih =>
      intro hh
      obtain ⟨zs, e1, e2⟩ := ih (fun c hc => hh c (by simp [hc]))
      obtain ⟨_, n, y, hy, _⟩ := hh c (by simp)
      obtain ⟨z, e3, _, e4⟩ := DataW.trod_int he hy
      exact ⟨z :: zs, by rw [e1, e3]; rfl, fun z' hz' => by rcases List.mem_cons.1 hz' with rfl | hz'; exact e4; exact e2 z' hz'⟩
  obtain ⟨zs, rfl, hwf⟩ := hz ps h5
  refine ⟨A, len, cap, zs, rfl, by simpa using h1, h2, h3, ?_, hwf⟩
  have := RdP.toC h4 (fun c hc => by obtain ⟨z, _, rfl⟩ := List.mem_map.1 hc; rfl)
  rw [List.map_map, show zs.map ((fun x => x.headD default) ∘ fun z => [Value.int k z]) = zs.map (Value.int k) from List.map_congr_left fun z _ => rfl] at this
  exact RdC.toRd this
/-- parts that each open to something -/
theorem parts_map {D : Type} (f : D → List Value) (G : D → Prop) : ∀ ps : List (List Value), (∀ c ∈ ps, ∃ d, f d = c ∧ G d) → ∃ ds : List D, ds.map f = ps ∧ ∀ d ∈ ds, G d
  | [], _ => ⟨[], rfl, fun d hd => by cases hd⟩
  | c :: r, h => by
    obtain ⟨ds, e1, e2⟩ := parts_map f G r (fun c hc => h c (by simp [hc]))
    obtain ⟨d, e3, e4⟩ := h c (by simp)
    exact ⟨d :: ds, by simp [e1, e3], fun d' hd' => by rcases List.mem_cons.1 hd' with rfl | hd'; exact e4; exact e2 d' hd'⟩
end
end Go.Proofs.Ytpojijnjdlnokaa

/- Structs of two numbers. No program in sight. -/
namespace Go.Proofs.Ytpojijnjdlnokaa
open Go.RowKit
set_option linter.unusedVariables false

def rowC (x : Int × Int) : List Value := [.int .i64 x.1, .int .i64 x.2]
theorem rowC_len (rows : List (Int × Int)) : ∀ c ∈ rows.map rowC, c.length = 2 := fun c hc => by obtain ⟨x, _, rfl⟩ := List.mem_map.1 hc; rfl
theorem rowC_one (rows : List (Int × Int)) : ∀ c ∈ rows.map rowC, ∀ u ∈ c, u.oneCell' = true := fun c hc u hu => by
  obtain ⟨x, _, rfl⟩ := List.mem_map.1 hc
  simp only [rowC, List.mem_cons, List.not_mem_nil, or_false] at hu
  rcases hu with rfl | rfl <;> rfl
theorem RdP.at2 {w : World} {A : Option Addr} {rows : List (Int × Int)} (h : RdP w 2 A (rows.map rowC)) {i : Nat} (hi : i < rows.length) : ∃ b o, A = some ⟨b, o, none⟩ ∧ w.cell? ⟨b, o + i * 2, none⟩ = some (.int .i64 (rows.getD i (0, 0)).1) ∧ w.cell? ⟨b, o + i * 2 + 1, none⟩ = some (.int .i64 (rows.getD i (0, 0)).2) ∧ RdC w (some ⟨b, o + i * 2, none⟩) (rowC (rows.getD i (0, 0))) := by
  have hc : (rows.map rowC)[i]? = some (rowC (rows.getD i (0, 0))) := by simp [hi]
  obtain ⟨b, o, e, hcell⟩ := h i _ hc
  subst e
  exact ⟨b, o, rfl, hcell 0 _ rfl, hcell 1 _ rfl, h.part hc⟩
end Go.Proofs.Ytpojijnjdlnokaa

/- Reports, plain: what a report is, whether it is right. No program in sight. -/
namespace Go.Proofs.Ytpojijnjdlnokaa
open Go.RowKit
set_option linter.unusedVariables false

structure NoteV where
  st : Int
  sq : Int
  n : Int
  A : Option Addr
  l : Nat
  c : Nat
  cs : List (Int × Int)
def NoteV.cells (d : NoteV) : List Value := [.int .i64 d.st, .int .i64 d.sq, .int .i64 d.n, .slice d.A d.l d.c]
def NoteOk (w : World) (d : NoteV) : Prop := RdP w 2 d.A (d.cs.map rowC) ∧ d.l = d.cs.length ∧ d.l ≤ 9000000000000 ∧ (I64 d.st ∧ I64 d.sq ∧ I64 d.n) ∧ ∀ p ∈ d.cs, I64 p.1 ∧ I64 p.2
theorem NoteOk.keep {w w' : World} {d : NoteV} (h : NoteOk w d) (hb : Below w.heap.size w w') : NoteOk w' d := ⟨h.1.keep hb, h.2⟩
theorem NoteOk.led {w w' : World} {d : NoteV} (h : NoteOk w d) (hb : LeD w w') : NoteOk w' d := ⟨h.1.led hb, h.2⟩

theorem RdP.blk {w w' s A ps} (h : RdP w s A ps) (hb : ∀ a, A = some a → w'.heap[a.block]? = w.heap[a.block]?) : RdP w' s A ps := fun i c hc => by
  obtain ⟨b, o, e, hcell⟩ := h i c hc
  subst e
  refine ⟨b, o, rfl, fun j v hv => ?_⟩
  have := hcell j v hv
  have hb2 := hb _ rfl
  unfold World.cell? at this ⊢
  simp only [] at hb2 this ⊢
  rw [hb2]; exact this
theorem NoteOk.blk {w w' : World} {d : NoteV} (h : NoteOk w d) (hb : ∀ a, d.A = some a → w'.heap[a.block]? = w.heap[a.block]?) : NoteOk w' d := ⟨h.1.blk hb, h.2⟩

def inB (n a b : Int) : Bool := decide (a ≤ n ∧ n ≤ b)
def cntOk (n : Int) : Int → List (Int × Int) → Bool
  | _, [] => true
  | last, c :: r => (inB c.1 (last + 1) n && inB c.2 1 65535) && cntOk n c.1 r
def rightN (d : NoteV) : Bool := cntOk d.n 0 d.cs && inB d.st 0 65535 && inB d.sq 1 2147483647 && inB d.n 1 255
def whyN (st n sq : Int) (d : NoteV) : Int :=
  if rightN d = false then 2 else if d.st ≠ st ∨ d.n ≠ n then 13 else if d.sq ≤ sq then 14 else if d.l = 0 then 5 else 0
theorem why_ok {st n sq : Int} {d : NoteV} : whyN st n sq d = 0 ↔ rightN d = true ∧ d.st = st ∧ d.n = n ∧ sq < d.sq ∧ 0 < d.l := by
  unfold whyN
  cases rightN d
  · simp
  · simp only [Bool.true_eq_false, if_false]
    split
    · constructor
      · intro h; cases h
      · intro h; omega
    · split
      · constructor
        · intro h; cases h
        · intro h; omega
      · split
        · constructor
          · intro h; cases h
          · intro h; omega
        · simp; omega
theorem cnt_step {n : Int} {cs : List (Int × Int)} {i : Nat} {last : Int} (hi : i < cs.length) : cntOk n last (cs.drop i) = ((inB (cs.getD i (0, 0)).1 (last + 1) n && inB (cs.getD i (0, 0)).2 1 65535) && cntOk n (cs.getD i (0, 0)).1 (cs.drop (i + 1))) := by
  have e : cs.getD i (0, 0) = cs[i] := by simp [hi]
  rw [List.drop_eq_getElem_cons hi, cntOk, e]
theorem inB_iff {n a b : Int} : inB n a b = true ↔ a ≤ n ∧ n ≤ b := by simp [inB]
/-- the last count ahead of one -/
def lastC (cs : List (Int × Int)) : Nat → Int
  | 0 => 0
  | i + 1 => (cs.getD i (0, 0)).1
theorem cnt_all {n last : Int} {cs : List (Int × Int)} (h : cntOk n last cs = true) : (∀ c ∈ cs, last < c.1 ∧ c.1 ≤ n ∧ 1 ≤ c.2 ∧ c.2 ≤ 65535) ∧ (last ≤ n → last + (cs.length : Int) ≤ n) := by
  induction cs generalizing last with
  | nil => exact ⟨(fun c hc => by cases hc), (fun h => by simpa using h)⟩
  | cons x r ih =>
    simp only [cntOk, Bool.and_eq_true, inB_iff] at h
    obtain ⟨⟨h1, h2⟩, h3⟩ := h
    obtain ⟨i1, i2⟩ := ih h3
    refine ⟨fun c hc => ?_, fun _ => ?_⟩
    · rcases List.mem_cons.1 hc with rfl | hc
      · omega
      · have := i1 c hc; omega
    · have := i2 h1.2
      simp only [List.length_cons]; omega
/-- no place twice -/
theorem cnt_inc {n last : Int} {cs : List (Int × Int)} (h : cntOk n last cs = true) : cs.Pairwise fun a b => a.1 < b.1 := by
  induction cs generalizing last with
  | nil => exact List.Pairwise.nil
  | cons x r ih =>
    simp only [cntOk, Bool.and_eq_true] at h
    exact List.Pairwise.cons (fun c hc => ((cnt_all h.2).1 c hc).1) (ih h.2)

def timesL (cs : List (Int × Int)) : Int := (cs.map (·.2)).sum
theorem times_bd {n last : Int} {cs : List (Int × Int)} (h : cntOk n last cs = true) : (cs.length : Int) ≤ timesL cs ∧ timesL cs ≤ cs.length * 65535 ∧ ∀ c ∈ cs, c.2 ≤ timesL cs := by
  induction cs generalizing last with
  | nil => simp [timesL]
  | cons x r ih =>
    have hx := (cnt_all h).1 x (by simp)
    simp only [cntOk, Bool.and_eq_true] at h
    obtain ⟨i1, i2, i3⟩ := ih h.2
    simp only [timesL, List.map_cons, List.sum_cons, List.length_cons] at i1 i2 i3 ⊢
    refine ⟨by omega, by omega, fun c hc => ?_⟩
    rcases List.mem_cons.1 hc with rfl | hc
    · omega
    · have := i3 c hc; omega
theorem times_take {n last : Int} {cs : List (Int × Int)} (h : cntOk n last cs = true) (i : Nat) : 0 ≤ timesL (cs.take i) ∧ timesL (cs.take i) ≤ cs.length * 65535 := by
  induction cs generalizing last i with
  | nil => simp [timesL]
  | cons x r ih =>
    have hx := (cnt_all h).1 x (by simp)
    simp only [cntOk, Bool.and_eq_true] at h
    cases i with
    | zero => simp [timesL]; omega
    | succ i =>
      have := ih h.2 i
      simp only [timesL, List.take_succ_cons, List.map_cons, List.sum_cons, List.length_cons] at this ⊢
      omega
theorem times_succ {cs : List (Int × Int)} {i : Nat} (hi : i < cs.length) : timesL (cs.take (i + 1)) = timesL (cs.take i) + (cs.getD i (0, 0)).2 := by
  have e : cs.getD i (0, 0) = cs[i] := by simp [hi]
  unfold timesL
  rw [List.take_succ_eq_append_getElem hi, List.map_append, List.sum_append, e]
  simp
structure RightD (d : NoteV) : Prop where
  st : 0 ≤ d.st ∧ d.st ≤ 65535
  sq : 1 ≤ d.sq ∧ d.sq ≤ 2147483647
  n : 1 ≤ d.n ∧ d.n ≤ 255
  cnt : cntOk d.n 0 d.cs = true
theorem right_iff {d : NoteV} : rightN d = true ↔ RightD d := by
  simp only [rightN, Bool.and_eq_true, inB_iff]
  exact ⟨fun h => ⟨h.1.1.2, h.1.2, h.2, h.1.1.1⟩, fun h => ⟨⟨⟨h.cnt, h.st⟩, h.sq⟩, h.n⟩⟩
end Go.Proofs.Ytpojijnjdlnokaa

/- Numbers as bytes, plain. No program in sight. -/
namespace Go.Proofs.Ytpojijnjdlnokaa
open Go.RowKit
set_option linter.unusedVariables false

/-- the bytes of a number: so many, the greatest first -/
def numBytes (n : Int) (s : Nat) : List Int := (List.range s).map fun (k : Nat) => n / 256 ^ (s - 1 - k) % 256
theorem numBytes_len (n : Int) (s : Nat) : (numBytes n s).length = s := by simp [numBytes]
/-- bytes as a number, the first one the greatest -/
def numOf (bs : List Int) : Int := bs.foldl (fun n b => n * 256 + b) 0
theorem numOf_snoc (bs : List Int) (b : Int) : numOf (bs ++ [b]) = numOf bs * 256 + b := by simp [numOf]
def AllY (zs : List Int) : Prop := ∀ z ∈ zs, 0 ≤ z ∧ z ≤ 255
theorem AllY.take {zs : List Int} (h : AllY zs) (n : Nat) : AllY (zs.take n) := fun z hz => h z (List.mem_of_mem_take hz)
theorem AllY.drop {zs : List Int} (h : AllY zs) (n : Nat) : AllY (zs.drop n) := fun z hz => h z (List.mem_of_mem_drop hz)
theorem AllY.at_ {zs : List Int} (h : AllY zs) (k : Nat) : 0 ≤ zs.getD k 0 ∧ zs.getD k 0 ≤ 255 := by
  by_cases hk : k < zs.length
  · simp [hk]; exact h _ (List.getElem_mem _)
  · simp [hk]
theorem foldl_bound : ∀ (bs : List Int) (a : Int) (k : Nat), AllY bs → 0 ≤ a → a < 256 ^ k → 0 ≤ bs.foldl (fun n b => n * 256 + b) a ∧ bs.foldl (fun n b => n * 256 + b) a < 256 ^ (k + bs.length)
  | [], a, k, _, h1, h2 => ⟨h1, h2⟩
  | b :: r, a, k, h, h1, h2 => by
    have hb := h b (by simp)
    have := foldl_bound r (a * 256 + b) (k + 1) (fun z hz => h z (by simp [hz])) (by omega) (by rw [Int.pow_succ]; omega)
    rw [List.foldl_cons, List.length_cons, show k + (r.length + 1) = k + 1 + r.length by omega]
    exact this
theorem numOf_bound (bs : List Int) (h : AllY bs) : 0 ≤ numOf bs ∧ numOf bs < 256 ^ bs.length := by
  have := foldl_bound bs 0 0 h (by omega) (by decide)
  rwa [Nat.zero_add] at this
theorem numOf_numBytes {n : Int} {s : Nat} (hs : 1 ≤ s ∧ s ≤ 4) (hn : 0 ≤ n ∧ n < 256 ^ s) : numOf (numBytes n s) = n := by
  rcases (by omega : s = 1 ∨ s = 2 ∨ s = 3 ∨ s = 4) with rfl | rfl | rfl | rfl <;> simp [numOf, numBytes, List.range_succ] <;> omega
theorem numBytes_Y (n : Int) (s : Nat) : AllY (numBytes n s) := by
  intro z hz
  unfold numBytes at hz
  obtain ⟨k, _, rfl⟩ := List.mem_map.1 hz
  omega

end Go.Proofs.Ytpojijnjdlnokaa
