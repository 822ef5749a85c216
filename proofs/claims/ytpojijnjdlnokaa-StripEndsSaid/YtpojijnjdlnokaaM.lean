/- Lists in memory: what reads as a list, what a call owns; the rules of making, appending, storing. No program in sight. -/
import Derived.Test.YtpojijnjdlnokaaV3
namespace Go.Proofs.Ytpojijnjdlnokaa
open Go.RowKit
set_option linter.unusedVariables false

/-! ### what reads as a list of cells -/
/-- the address A leads to a row whose first cells are cs -/
def RdC (w : World) (A : Option Addr) (cs : List Value) : Prop :=
  0 < cs.length → ∃ b off, A = some ⟨b, off, none⟩ ∧ ∀ i, i < cs.length → w.cell? ⟨b, off + i, none⟩ = cs[i]?

theorem Rd.toC {w : World} {k : IntKind} {A : Option Addr} {zs : List Int} (h : Rd w k A zs) : RdC w A (zs.map (Value.int k)) := by
  intro hl
  obtain ⟨b, off, e, hc⟩ := h (by simpa using hl)
  refine ⟨b, off, e, fun i hi => ?_⟩
  have hi' : i < zs.length := by simpa using hi
  rw [hc i hi']; simp [hi']
theorem RdC.toRd {w : World} {k : IntKind} {A : Option Addr} {zs : List Int} (h : RdC w A (zs.map (Value.int k))) : Rd w k A zs := by
  intro hl
  obtain ⟨b, off, e, hc⟩ := h (by simpa using hl)
  refine ⟨b, off, e, fun i hi => ?_⟩
  rw [hc i (by simpa using hi)]; simp [hi]
theorem RdC.at_ {w A cs} (h : RdC w A cs) {i : Nat} (hi : i < cs.length) : ∃ b off, A = some ⟨b, off, none⟩ ∧ w.cell? ⟨b, off + i, none⟩ = some cs[i] := by
  obtain ⟨b, off, e, hc⟩ := h (by omega)
  exact ⟨b, off, e, by rw [hc i hi]; simp [hi]⟩
theorem RdC.nil {w A} : RdC w A [] := fun h => absurd h (by simp)
theorem RdC.keep {w w' : World} {A cs} (h : RdC w A cs) (hb : Below w.heap.size w w') : RdC w' A cs := by
  intro hl
  obtain ⟨b, off, e, hc⟩ := h hl
  refine ⟨b, off, e, fun i hi => ?_⟩
  have h1 := hc i hi
  rw [List.getElem?_eq_getElem hi] at h1
  have := World.block_lt_of_cell? w ⟨b, off + i, none⟩ h1
  exact (hb.cell (p := ⟨b, off + i, none⟩) this).trans (hc i hi)
theorem RdC.led {w w' : World} {A cs} (h : RdC w A cs) (hb : LeD w w') : RdC w' A cs := by obtain ⟨q, rfl⟩ := hb; exact h
theorem Rd.led {w w' : World} {k A zs} (h : Rd w k A zs) (hb : LeD w w') : Rd w' k A zs := by obtain ⟨q, rfl⟩ := hb; exact h
theorem RdC.block {w w' : World} {A cs} (h : RdC w A cs) (hb : ∀ b o, A = some ⟨b, o, none⟩ → w'.heap[b]? = w.heap[b]?) : RdC w' A cs := by
  intro hl
  obtain ⟨b, off, e, hc⟩ := h hl
  refine ⟨b, off, e, fun i hi => ?_⟩
  have := hb b off e
  rw [← hc i hi]
  unfold World.cell?
  simp only [this]
theorem RdC.take {w A cs} (h : RdC w A cs) (k : Nat) : RdC w A (cs.take k) := by
  intro hl
  rw [List.length_take] at hl
  obtain ⟨b, off, e, hc⟩ := h (by omega)
  refine ⟨b, off, e, fun i hi => ?_⟩
  rw [List.length_take] at hi
  rw [hc i (by omega), List.getElem?_take, if_pos (by omega)]
theorem RdC.drop {w cs b o} (h : RdC w (some ⟨b, o, none⟩) cs) (k : Nat) : RdC w (some ⟨b, o + k, none⟩) (cs.drop k) := by
  intro hl
  rw [List.length_drop] at hl
  obtain ⟨b', off, e, hc⟩ := h (by omega)
  cases e
  refine ⟨b, o + k, rfl, fun i hi => ?_⟩
  rw [List.length_drop] at hi
  rw [Nat.add_assoc, hc (k + i) (by omega), List.getElem?_drop]
theorem Rd.take {w k A zs} (h : Rd w k A zs) (n : Nat) : Rd w k A (zs.take n) := by
  have := h.toC.take n
  rw [← List.map_take] at this
  exact this.toRd

theorem RdC.sliced {w A cs} (h : RdC w A cs) {c i : Nat} (hc : cs.length ≤ c) : RdC w (if c = i then A else A.map (·.add (i * 1))) (cs.drop i) := by
  split
  · rename_i he; subst he; rw [List.drop_eq_nil_of_le hc]; exact RdC.nil
  · intro hl
    have hl' := hl
    rw [List.length_drop] at hl'
    obtain ⟨b, o, rfl, hcc⟩ := h (by omega)
    have := RdC.drop h i hl
    obtain ⟨b', o', e, h2⟩ := this
    cases e
    refine ⟨b, o + i, by simp [addr_add], h2⟩
theorem Rd.sliced {w k A zs} (h : Rd w k A zs) {c i : Nat} (hc : zs.length ≤ c) : Rd w k (if c = i then A else A.map (·.add (i * 1))) (zs.drop i) := by
  have := h.toC.sliced (c := c) (i := i) (by simpa using hc)
  rw [← List.map_drop] at this
  exact this.toRd

/-! ### what a call owns -/
/-- v is a list of the call's own (its row lies from block B on) that holds the cells cs, each of element type t, of one cell -/
def Own (w : World) (B : Nat) (t : TypeId) (v : Value) (cs : List Value) : Prop := w.ownsRow B t 1 v cs.length cs
/-- the same, of integers of a kind -/
def OwnK (w : World) (B : Nat) (t : TypeId) (k : IntKind) (v : Value) (zs : List Int) : Prop := Own w B t v (zs.map (Value.int k))

theorem Own.nil (w : World) (B : Nat) (t : TypeId) : Own w B t (.slice none 0 0) [] := World.ownsRow_nil w B _ 1
theorem Own.form {w B t v cs} (h : Own w B t v cs) : ∃ A c, v = .slice A cs.length c ∧ cs.length ≤ c ∧ c ≤ maxLen ∧ RdC w A cs ∧ (∀ b off, A = some ⟨b, off, none⟩ → B ≤ b ∧ off = 0 ∧ b < w.heap.size) := by
  rcases h.2 with ⟨rfl, h0⟩ | ⟨g, cap, cur, rfl, hB, hg, hn, hm, hs, ht⟩
  · refine ⟨none, 0, by rw [h0], by omega, by simp [maxLen], fun hl => absurd hl (by omega), fun b off hh => by cases hh⟩
  · refine ⟨_, cap, rfl, hn, hm, fun _ => ⟨g, 0, rfl, fun i hi => ?_⟩, ?_⟩
    · have hc := World.ownsRow.cellAt h i (by omega)
      rw [← hc]; simp
    · intro b off hh
      cases hh
      exact ⟨hB, rfl, (Array.getElem?_eq_some_iff.1 hg).1⟩
theorem OwnK.form {w B t k v zs} (h : OwnK w B t k v zs) : ∃ A c, v = .slice A zs.length c ∧ zs.length ≤ c ∧ c ≤ maxLen ∧ Rd w k A zs ∧ (∀ b off, A = some ⟨b, off, none⟩ → B ≤ b ∧ off = 0 ∧ b < w.heap.size) := by
  obtain ⟨A, c, h1, h2, h3, h4, h5⟩ := Own.form h
  rw [List.length_map] at h1 h2
  exact ⟨A, c, h1, h2, h3, h4.toRd, h5⟩
theorem Own.keep {w w' B t v cs} (h : Own w B t v cs) {B' : Nat} (hb : Below B' w w') (hB : ∀ g, v.ownBlock = some g → g < B') : Own w' B t v cs := by
  refine ⟨h.1, ?_⟩
  rcases h.2 with hn | ⟨g, cap, cur, rfl, hB0, hg, rest⟩
  · exact .inl hn
  · refine .inr ⟨g, cap, cur, rfl, hB0, ?_, rest⟩
    rw [hb.block g (hB g rfl)]; exact hg
theorem Own.keepAll {w w' B t v cs} (h : Own w B t v cs) (hb : Below w.heap.size w w') : Own w' B t v cs := h.keep hb fun g hg => (World.ownsRow.lt h g hg).2
theorem Own.led {w w' B t v cs} (h : Own w B t v cs) (hb : LeD w w') : Own w' B t v cs := by obtain ⟨q, rfl⟩ := hb; exact h
theorem Own.alloc {w B t v cs} (h : Own w B t v cs) (o : Obj) : Own (w.alloc o) B t v cs := World.ownsRow.alloc h o
theorem Own.mono {w B B' t v cs} (h : Own w B t v cs) (hB : B' ≤ B) : Own w B' t v cs := by
  refine ⟨h.1, ?_⟩
  rcases h.2 with hn | ⟨g, cap, cur, rfl, hB0, hg, rest⟩
  · exact .inl hn
  · exact .inr ⟨g, cap, cur, rfl, by omega, hg, rest⟩
/-- a list of the call's own that is not empty: its row -/
theorem Own.row {w B t v cs} (h : Own w B t v cs) (h0 : 0 < cs.length) : ∃ g c, v = .slice (some ⟨g, 0, none⟩) cs.length c ∧ B ≤ g ∧ g < w.heap.size ∧ cs.length ≤ c ∧ c ≤ maxLen := by
  rcases h.2 with ⟨rfl, h1⟩ | ⟨g, cap, cur, rfl, hB, hg, hn, hm, hs, ht⟩
  · omega
  · exact ⟨g, cap, rfl, hB, (Array.getElem?_eq_some_iff.1 hg).1, hn, hm⟩
theorem Own.cell {w B t g n c cs} (h : Own w B t (.slice (some ⟨g, 0, none⟩) n c) cs) {i : Nat} (hi : i < cs.length) : w.cell? ⟨g, i, none⟩ = some cs[i] := by
  have hn : n = cs.length := by
    rcases h.2 with ⟨h1, _⟩ | ⟨g', cap, cur, h1, _⟩
    · cases h1
    · cases h1; rfl
  subst hn
  rw [World.ownsRow.cellAt h i (by omega)]; simp [hi]
theorem Own.len {w B t A n c cs} (h : Own w B t (.slice A n c) cs) : n = cs.length := by
  rcases h.2 with ⟨h1, h2⟩ | ⟨g', cap, cur, h1, _⟩
  · cases h1; omega
  · cases h1; rfl
theorem Own.free {w B t g n c cs} (h : Own w B t (.slice (some ⟨g, 0, none⟩) n c) cs) (i : Nat) : w.frozen? ⟨g, i, none⟩ = false := by
  have hn := h.len
  subst hn
  exact World.ownsRow.frozenAt h i
theorem Own.set {w B t g n c cs} (h : Own w B t (.slice (some ⟨g, 0, none⟩) n c) cs) (i : Nat) (u : Value) : Own (w.setCell ⟨g, i, none⟩ u) B t (.slice (some ⟨g, 0, none⟩) n c) (cs.set i u) := by
  have hn := h.len
  subst hn
  have := (World.ownsRow.stored h i u).1
  unfold Own
  rw [List.length_set]
  exact this
theorem Own.setOther {w B t v cs} (h : Own w B t v cs) {g : Nat} (hne : ∀ g', v.ownBlock = some g' → g' ≠ g) (i : Nat) (u : Value) : Own (w.setCell ⟨g, i, none⟩ u) B t v cs := by
  refine ⟨h.1, ?_⟩
  rcases h.2 with hn | ⟨g', cap, cur, rfl, hB0, hg, rest⟩
  · exact .inl hn
  · exact .inr ⟨g', cap, cur, rfl, hB0, by rw [Below.heap_setCell _ _ _ _ (hne g' rfl)]; exact hg, rest⟩
theorem OwnK.set {w B t k g n c zs} (h : OwnK w B t k (.slice (some ⟨g, 0, none⟩) n c) zs) (i : Nat) (z : Int) : OwnK (w.setCell ⟨g, i, none⟩ (.int k z)) B t k (.slice (some ⟨g, 0, none⟩) n c) (zs.set i z) := by
  have := Own.set h i (.int k z)
  unfold OwnK
  rw [List.map_set]
  exact this
theorem OwnK.cell {w B t k g n c zs} (h : OwnK w B t k (.slice (some ⟨g, 0, none⟩) n c) zs) {i : Nat} (hi : i < zs.length) : w.cell? ⟨g, i, none⟩ = some (.int k (zs.getD i 0)) := by
  have := Own.cell h (i := i) (by simpa using hi)
  rw [this]; simp [hi]
theorem OwnK.rd {w B t k A n c zs} (h : OwnK w B t k (.slice A n c) zs) : Rd w k A zs := by
  obtain ⟨A', c', h1, _, _, h4, _⟩ := h.form
  cases h1
  exact h4
theorem OwnK.len {w B t k A n c zs} (h : OwnK w B t k (.slice A n c) zs) : n = zs.length := by have := Own.len h; simpa using this
theorem OwnK.row {w B t k v zs} (h : OwnK w B t k v zs) (h0 : 0 < zs.length) : ∃ g c, v = .slice (some ⟨g, 0, none⟩) zs.length c ∧ B ≤ g ∧ g < w.heap.size ∧ zs.length ≤ c ∧ c ≤ maxLen := by
  have := Own.row h (by simpa using h0)
  simpa using this
theorem Own.cut {w B t g n c cs} (h : Own w B t (.slice (some ⟨g, 0, none⟩) n c) cs) {m : Nat} (hm : m ≤ n) : Own w B t (.slice (some ⟨g, 0, none⟩) m c) (cs.take m) := by
  have hn := h.len
  subst hn
  have hlen : (cs.take m).length = m := by rw [List.length_take]; omega
  refine ⟨by simp, ?_⟩
  rcases h.2 with ⟨h1, _⟩ | ⟨g', cap, cur, h1, hB, hg, hnc, hcm, hs, ht⟩
  · cases h1
  · cases h1
    refine .inr ⟨g, c, cur, by rw [hlen], hB, hg, by omega, hcm, hs, ?_⟩
    rw [hlen, ← ht, List.take_take]
    congr 1; omega
/-- written elsewhere -/
theorem Own.other {w w' B t v cs} (h : Own w B t v cs) {row : Option Nat} (hg : w.grownBy w' row) (hne : v.ownBlock = none ∨ v.ownBlock ≠ row) : Own w' B t v cs := World.ownsRow.kept h hg hne
theorem Own.below {w0 w w' B B' t v cs} (hb : Below B' w0 w) (h : Own w B t v cs) (hg : w.grownBy w' v.ownBlock) (hB : B' ≤ B) (hB2 : B' ≤ w.heap.size) : Below B' w0 w' :=
  hb.grown hg hB2 fun k hk => Nat.le_trans hB (World.ownsRow.lt h k hk).1
theorem Own.below_set {w0 w B B' t g n c cs} (hb : Below B' w0 w) (h : Own w B t (.slice (some ⟨g, 0, none⟩) n c) cs) (hB : B' ≤ B) (i : Nat) (u : Value) : Below B' w0 (w.setCell ⟨g, i, none⟩ u) :=
  hb.setCell (p := ⟨g, i, none⟩) (Nat.le_trans hB (World.ownsRow.lt h g rfl).1) u

/-! ### the rules -/
section
variable {P : Program} {n : Cx} {fr : Fr} {w w' : World} {ty : TypeId} {x y z : Operand} {v u : Value} {T T2 e : TypeId} {op : Op}

theorem ot_of {U : Value → World → Prop} (h : ∀ a, Ag n fr a → ∃ v w', (execOp a.eval ⟨none, op, ty, "", #[], none⟩).run P w = .ok (.value v) w' ∧ U v w') : OT P n op ty fr w U := by unfold OT; exact h
theorem OT.mono {U U' : Value → World → Prop} (h : OT P n op ty fr w U) (hU : ∀ v w', U v w' → U' v w') : OT P n op ty fr w U' := by
  unfold OT at *
  exact fun a ha => let ⟨v, w', h1, h2⟩ := h a ha; ⟨v, w', h1, hU _ _ h2⟩
theorem OS.ot (h : OS P n op ty fr w v w') {U : Value → World → Prop} (hU : U v w') : OT P n op ty fr w U := by
  unfold OS at h
  unfold OT
  exact fun a ha => ⟨v, w', h a ha, hU⟩

/-- in a region that draws: an operation that lays memory, and a fact on what it yields -/
theorem vt_new {all rest : List Oper} {le : World → World → Prop} {w0 : World} {ts : Ts} {Q : Exit → Fr → World → Prop} {d : Nat} {pos : String} {aft : Array Edge} {g : Option (Nat × Bool)} {gw : World → Prop} (U : Fact) (hU : Stable le U) {v' : World → Value} {w'' : World → World}
    (h : ∀ w, le w0 w → OS P n op ty fr w (v' w) (w'' w)) (hle : ∀ w, le w0 w → le w (w'' w) ∧ U (v' w) (w'' w)) (k : VT P n all le w0 rest fr ((d, U) :: ts) Q gw) (hg : GOk all fr g := by first | exact True.intro | rfl) (hcl : clean fr ts all ⟨some d, op, ty, pos, aft, g⟩ = true := by rfl) :
    VT P n all le w0 (⟨some d, op, ty, pos, aft, g⟩ :: rest) fr ts Q gw := vt_fact U hU (fun w hw => (h w hw).ot (hle w hw)) k hg hcl

/-- a type's row of the table: its zero value, how many cells, how many bytes -/
def TyInfo (P : Program) (e : TypeId) (z : Value) (size bytes : Nat) : Prop := (P.info? e).map (fun i => (i.zero, i.size, i.bytes)) = some (some z, size, bytes)

/-- make([]T, 0, n) -/
theorem ot_make0 {k k2 : IntKind} {m c : Int} {l : Nat} {z0 : Value} {bytes : Nat} (hT : P.underlying T = some (.slice e)) (hi : TyInfo P e z0 1 bytes) (hx : Fr.ev fr x = some (.int k m)) (hy : Fr.ev fr y = some (.int k2 c)) (hm : m = 0) (hc : c = (l : Int))
    (hb : bytes * l ≤ 281474976710656) (hl : l ≤ maxLen) (B : Nat) (hB : B ≤ w.heap.size) : OT P n (.makeSlice T x y) ty fr w fun v w' => v = .slice (some ⟨w.heap.size, 0, none⟩) 0 l ∧ Own w' B e v [] ∧ w.grownBy w' none := by
  subst hm; subst hc
  obtain ⟨i, h1, h2, h3, h4⟩ := info_parts hi
  obtain ⟨w', hr, ho, hg⟩ := run_make_own (P := P) w B T e i z0 1 hT h1 h2 h3 k k2 l (by rw [h4]; exact hb) hl hB
  exact ot_of fun a ha => ⟨_, w', by simp [execOp, ha.ev hx, ha.ev hy, hr, Result.andThen], rfl, ho, hg⟩
/-- make([]T, n) -/
theorem ot_make {k k2 : IntKind} {m c : Int} {l : Nat} {z0 : Value} {bytes : Nat} (hT : P.underlying T = some (.slice e)) (hi : TyInfo P e z0 1 bytes) (hz : z0.cells = #[z0]) (hx : Fr.ev fr x = some (.int k m)) (hy : Fr.ev fr y = some (.int k2 c)) (hm : m = (l : Int)) (hc : c = (l : Int))
    (hb : bytes * l ≤ 281474976710656) (hl : l ≤ maxLen) (B : Nat) (hB : B ≤ w.heap.size) : OT P n (.makeSlice T x y) ty fr w fun v w' => v = .slice (some ⟨w.heap.size, 0, none⟩) l l ∧ Own w' B e v (List.replicate l z0) ∧ w.grownBy w' none := by
  subst hm; subst hc
  obtain ⟨i, h1, h2, h3, h4⟩ := info_parts hi
  obtain ⟨w', hr, ho, hg⟩ := run_make_full (P := P) w B T e i z0 1 hT h1 h2 h3 k k2 l (by rw [h4]; exact hb) hl hB
  refine ot_of fun a ha => ⟨_, w', by simp [execOp, ha.ev hx, ha.ev hy, hr, Result.andThen], rfl, ?_, hg⟩
  have hcells : (madeCells z0.cells (l * 1)).toList = List.replicate l z0 := by
    rw [hz]
    apply List.ext_getElem
    · simp [madeCells]
    · intro i h1 h2; simp [madeCells, Nat.mod_one]
  rw [hcells] at ho
  unfold Own
  rw [List.length_replicate]
  exact ho

/-- append(s, x...): s a list of the call's own -/
theorem ot_append {A : Option Addr} {m c : Nat} {cs news : List Value} {z0 : Value} {bytes : Nat} {B : Nat} (hT : P.underlying T = some (.slice e)) (hi : TyInfo P e z0 1 bytes) (hz : z0.cells.size = 1) (hx : Fr.ev fr x = some v) (hy : Fr.ev fr y = some (.slice A m c))
    (ho : Own w B e v cs) (hr : RdC w A news) (hm : m = news.length) (h1 : ∀ u ∈ news, u.oneCell' = true) (hb : (cs.length + m) * bytes ≤ 140737488355328) (hl : cs.length + m ≤ maxLen) (hB : B ≤ w.heap.size) :
    OT P n (.call ⟨.builtin .append, #[x, y], #[T, T]⟩) ty fr w fun v' w' => Own w' B e v' (cs ++ news) ∧ w.grownBy w' v.ownBlock := by
  obtain ⟨i, i1, i2, i3, i4⟩ := info_parts hi
  by_cases h0 : 0 < news.length
  · obtain ⟨b, o, rfl, hc⟩ := hr h0
    obtain ⟨v', w', hrun, ho', hg, _⟩ := run_append_own (P := P) w B T ty e i z0 1 bytes hT i1 i2 i3 i4 hz (by omega) v cs.length cs ho ⟨b, o, none⟩ m c news (by omega)
      (fun j u hu => by
        have hj := (List.getElem?_eq_some_iff.1 hu).1
        rw [addr_add, hc j hj]; exact hu) h1 hl hb hB
    refine ot_of fun a ha => ⟨v', w', by simp [execOp, resolve, invoke, builtin, ha.ev hx, ha.ev hy, hrun, Result.andThen], ?_, hg⟩
    unfold Own
    rw [List.length_append, ← hm]
    exact ho'
  · have hnil : news = [] := List.eq_nil_of_length_eq_zero (by omega)
    subst hnil
    have hm0 : m = 0 := by simpa using hm
    subst hm0
    have hrun : (Builtin.append_ #[T, T] ty #[v, .slice A 0 c]).run P w = .ok v w := by
      rcases ho.2 with ⟨rfl, h2⟩ | ⟨g, cap, cur, rfl, _, _, hnc, _⟩
      · cases A <;> simp [Builtin.append_, run_underlying hT, sizeOf, typeInfo, i1, Builtin.lenOf, Builtin.firstCells, loadCells, loadCellsFrom]
      · cases A <;> simp [Builtin.append_, run_underlying hT, sizeOf, typeInfo, i1, Builtin.lenOf, Builtin.firstCells, hnc, storeCells, loadCells, loadCellsFrom]
    refine ot_of fun a ha => ⟨v, w, by simp [execOp, resolve, invoke, builtin, ha.ev hx, ha.ev hy, hrun, Result.andThen], by simpa using ho, World.grownBy.refl _ _⟩

def oneCells : List Value → Bool
  | [] => true
  | v :: r => v.oneCell' && oneCells r
def partsOf : List Value → Nat → List (Nat × Value)
  | [], _ => []
  | v :: r, i => (i, v) :: partsOf r (i + 1)
theorem fill_one : ∀ (vs : List Value) (i : Nat) (cells : Array Value), oneCells vs = true → i + vs.length = cells.size →
    Instr.fill (fun i => some (i * 1, 1)) cells (partsOf vs i) = some (cells.toList.take i ++ vs).toArray
  | [], i, cells, _, hl => by
    simp only [partsOf, Instr.fill, List.append_nil]
    have : i = cells.toList.length := by simpa using hl
    rw [this, List.take_length]
  | v :: r, i, cells, h1, hl => by
    simp only [oneCells, Bool.and_eq_true] at h1
    have hc : v.cells = #[v] := by cases v <;> simp_all [Value.cells, Value.oneCell']
    simp only [List.length_cons] at hl
    have hi : i < cells.size := by omega
    have h2 : ¬ (i * 1 + 1 > cells.size) := by omega
    have h3 : (#[v].zipIdx.foldl (fun cs (x : Value × Nat) => cs.setIfInBounds (i + x.2) x.1) cells) = cells.setIfInBounds i v := by simp [Array.zipIdx]
    have ih := fill_one r (i + 1) (cells.setIfInBounds i v) h1.2 (by simp; omega)
    simp only [Nat.mul_one] at ih
    simp only [partsOf, Instr.fill, hc]
    simp only [List.size_toArray, List.length_cons, List.length_nil, ne_eq, Nat.zero_add, not_true_eq_false, decide_false, Bool.false_or, h2, Bool.false_eq_true, if_false, Nat.mul_one, h3]
    simp only [Nat.mul_one] at h2
    simp only [h2, decide_false, Bool.false_eq_true, if_false]
    rw [ih]
    congr 2
    have h4 : (cells.toList.set i v).take (i + 1) = cells.toList.take i ++ [v] := by
      rw [List.take_set, List.take_succ_eq_append_getElem (by simpa using hi), List.set_append_right _ _ (by simp; omega)]
      simp [Nat.min_eq_left (Nat.le_of_lt hi)]
    rw [Array.toList_setIfInBounds, h4]
    simp

def evP (fr : Fr) : List (Nat × Operand) → Nat → Option (List Value)
  | [], _ => some []
  | (i, x) :: r, j => match Nat.beq i j with
    | true => match Fr.ev fr x with
      | some v => match evP fr r (j + 1) with
        | some vs => some (v :: vs)
        | none => none
      | none => none
    | false => none
theorem Ag.evP {n : Cx} {fr : Fr} {a : Act} (h : Ag n fr a) : ∀ {xs : List (Nat × Operand)} {j : Nat} {vs : List Value}, evP fr xs j = some vs → xs.map (fun p => (p.1, a.eval p.2)) = partsOf vs j
  | [], j, vs, hx => by simp [Ytpojijnjdlnokaa.evP] at hx; subst hx; rfl
  | (i, x) :: r, j, vs, hx => by
    simp only [Ytpojijnjdlnokaa.evP] at hx
    cases hb : Nat.beq i j with
    | false => simp [hb] at hx
    | true =>
      have hij := Nat.eq_of_beq_eq_true hb
      cases h1 : Fr.ev fr x with
      | none => simp [hb, h1] at hx
      | some v =>
        cases h2 : Ytpojijnjdlnokaa.evP fr r (j + 1) with
        | none => simp [hb, h1, h2] at hx
        | some us =>
          simp [hb, h1, h2] at hx
          subst hx
          simp [partsOf, hij, h.ev h1, h.evP h2]

/-- []T{..}, all its elements written out -/
theorem os_lit {l : Nat} {ps : List (Nat × Operand)} {vs : List Value} {z0 : Value} (hT : P.underlying T = some (.slice e)) (hs : ∀ w, (sizeOf e).run P w = .ok 1 w) (hz : ∀ w, (zeroValue e).run P w = .ok z0 w) (hz1 : z0.cells.size = 1) (hx : evP fr ps 0 = some vs) (hl : l = vs.length) (h1 : oneCells vs = true) (h2 : l ≤ 16777216) :
    OS P n (.buildSlice T l ps.toArray) ty fr w (.slice (some ⟨w.heap.size, 0, none⟩) l l) (w.alloc (.cells vs.toArray e)) := by
  subst hl
  refine os_of fun a ha => ?_
  have hp := ha.evP hx
  have hfill : ∀ zero : Array Value, zero.size = 1 ∨ vs.length = 0 → Instr.fill (fun i => some (i * 1, 1)) ((Array.range (vs.length * 1)).map (fun i => zero[i % zero.size]!)) (partsOf vs 0) = some vs.toArray := by
    intro zero _
    have := fill_one vs 0 ((Array.range (vs.length * 1)).map (fun i => zero[i % zero.size]!)) h1 (by simp)
    simpa using this
  have hgt : ¬ vs.length * 1 > 2 ^ 24 := by omega
  by_cases h0 : vs.length = 0
  · have hv : vs = [] := List.eq_nil_of_length_eq_zero h0
    subst hv
    have hps : ps = [] := by
      cases ps with
      | nil => rfl
      | cons p r => simp [partsOf] at hp
    subst hps
    simp [execOp, Instr.buildSlice, run_underlying hT, hs, Instr.fill, newRow, Result.andThen]
    rw [show Array.map (fun _ => (default : Value)) (Array.range 0) = #[] from Array.eq_empty_of_size_eq_zero (by simp)]
  · have hz2 := hfill z0.cells (.inl hz1)
    simp only [Nat.mul_one] at hz2
    simp [execOp, Instr.buildSlice, run_underlying hT, hs, hz, hp, newRow, Result.andThen, h0, show ¬ 16777216 < vs.length from by omega]
    rw [hz2]
    simp

theorem rdc_alloc (w : World) (vs : List Value) (e : TypeId) : RdC (w.alloc (.cells vs.toArray e)) (some ⟨w.heap.size, 0, none⟩) vs := by
  intro _
  refine ⟨_, 0, rfl, fun i hi => ?_⟩
  rw [cell_of_row _ w.heap.size (0 + i) vs.toArray e (0, 0) (heap_alloc_new w _)]
  simp
theorem rd_alloc (w : World) (k : IntKind) (zs : List Int) (e : TypeId) : Rd (w.alloc (.cells (zs.map (Value.int k)).toArray e)) k (some ⟨w.heap.size, 0, none⟩) zs := (rdc_alloc w (zs.map (Value.int k)) e).toRd
theorem own_alloc (w : World) (vs : List Value) (e : TypeId) {B : Nat} (hB : B ≤ w.heap.size) (hl : vs.length ≤ maxLen) : Own (w.alloc (.cells vs.toArray e)) B e (.slice (some ⟨w.heap.size, 0, none⟩) vs.length vs.length) vs := by
  have := World.ownsRow_lit (base := B) (e := e) (size := 1) w vs.toArray vs.length hB hl (by simp)
  simpa [Own] using this
end
end Go.Proofs.Ytpojijnjdlnokaa
