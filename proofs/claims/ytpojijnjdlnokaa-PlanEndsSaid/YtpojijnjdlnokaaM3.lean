/- Texts joined: M N Ty Cp V4. -/
import Derived.Test.YtpojijnjdlnokaaM2
/- Lists in memory: what reads as a list, what a call owns; the rules of making, appending, storing. No program in sight. -/
namespace Go.Proofs.Ytpojijnjdlnokaa
open Go.RowKit
set_option linter.unusedVariables false

/-! ### what reads as a list of cells -/
/-- the address A leads to a row whose first cells are cs -/
def RdC (w : World) (A : Option Addr) (cs : List Value) : Prop :=
  0 < cs.length → ∃ b off, A = some ⟨b, off, none⟩ ∧ ∀ i, i < cs.length → w.cell? ⟨b, off + i, none⟩ = cs[i]?

theorem Rd.toC {w : World} {k : IntKind} {A : Option Addr} {zs : List Int} (h : Rd w k A zs) : RdC w A (zs.map (Value.int k)) := by
  intro hl
  obtain ⟨b, off, e, hc⟩ := h (by simpa using hl)
  refine ⟨b, off, e, fun i hi => ?_⟩
  have hi' : i < zs.length := by simpa using hi
  rw [hc i hi']; simp [hi']
theorem RdC.toRd {w : World} {k : IntKind} {A : Option Addr} {zs : List Int} (h : RdC w A (zs.map (Value.int k))) : Rd w k A zs := by
  intro hl
  obtain ⟨b, off, e, hc⟩ := h (by simpa using hl)
  refine ⟨b, off, e, fun i hi => ?_⟩
  rw [hc i (by simpa using hi)]; simp [hi]
theorem RdC.at_ {w A cs} (h : RdC w A cs) {i : Nat} (hi : i < cs.length) : ∃ b off, A = some ⟨b, off, none⟩ ∧ w.cell? ⟨b, off + i, none⟩ = some cs[i] := by
  obtain ⟨b, off, e, hc⟩ := h (by omega)
  exact ⟨b, off, e, by rw [hc i hi]; simp [hi]⟩
theorem RdC.nil {w A} : RdC w A [] := fun h => absurd h (by simp)
theorem RdC.keep {w w' : World} {A cs} (h : RdC w A cs) (hb : Below w.heap.size w w') : RdC w' A cs := by
  intro hl
  obtain ⟨b, off, e, hc⟩ := h hl
  refine ⟨b, off, e, fun i hi => ?_⟩
  have h1 := hc i hi
  rw [List.getElem?_eq_getElem hi] at h1
  have := World.block_lt_of_cell? w ⟨b, off + i, none⟩ h1
  exact (hb.cell (p := ⟨b, off + i, none⟩) this).trans (hc i hi)
theorem RdC.led {w w' : World} {A cs} (h : RdC w A cs) (hb : LeD w w') : RdC w' A cs := by obtain ⟨q, rfl⟩ := hb; exact h
theorem Rd.led {w w' : World} {k A zs} (h : Rd w k A zs) (hb : LeD w w') : Rd w' k A zs := by obtain ⟨q, rfl⟩ := hb; exact h
theorem RdC.block {w w' : World} {A cs} (h : RdC w A cs) (hb : ∀ b o, A = some ⟨b, o, none⟩ → w'.heap[b]? = w.heap[b]?) : RdC w' A cs := by
  intro hl
  obtain ⟨b, off, e, hc⟩ := h hl
  refine ⟨b, off, e, fun i hi => ?_⟩
  have := hb b off e
  rw [← hc i hi]
  unfold World.cell?
  simp only [this]
theorem RdC.take {w A cs} (h : RdC w A cs) (k : Nat) : RdC w A (cs.take k) := by
  intro hl
  rw [List.length_take] at hl
  obtain ⟨b, off, e, hc⟩ := h (by omega)
  refine ⟨b, off, e, fun i hi => ?_⟩
  rw [List.length_take] at hi
  rw [hc i (by omega), List.getElem?_take, if_pos (by omega)]
theorem RdC.drop {w cs b o} (h : RdC w (some ⟨b, o, none⟩) cs) (k : Nat) : RdC w (some ⟨b, o + k, none⟩) (cs.drop k) := by
  intro hl
  rw [List.length_drop] at hl
  obtain ⟨b', off, e, hc⟩ := h (by omega)
  cases e
  refine ⟨b, o + k, rfl, fun i hi => ?_⟩
  rw [List.length_drop] at hi
  rw [Nat.add_assoc, hc (k + i) (by omega), List.getElem?_drop]
theorem Rd.take {w k A zs} (h : Rd w k A zs) (n : Nat) : Rd w k A (zs.take n) := by
  have := h.toC.take n
  rw [← List.map_take] at this
  exact this.toRd

theorem RdC.sliced {w A cs} (h : RdC w A cs) {c i : Nat} (hc : cs.length ≤ c) : RdC w (if c = i then A else A.map (·.add (i * 1))) (cs.drop i) := by
  split
  · rename_i he; subst he; rw [List.drop_eq_nil_of_le hc]; exact RdC.nil
  · intro hl
    have hl' := hl
    rw [List.length_drop] at hl'
    obtain ⟨b, o, rfl, hcc⟩ := h (by omega)
    have := RdC.drop h i hl
    obtain ⟨b', o', e, h2⟩ := this
    cases e
    refine ⟨b, o + i, by simp [addr_add], h2⟩
theorem Rd.sliced {w k A zs} (h : Rd w k A zs) {c i : Nat} (hc : zs.length ≤ c) : Rd w k (if c = i then A else A.map (·.add (i * 1))) (zs.drop i) := by
  have := h.toC.sliced (c := c) (i := i) (by simpa using hc)
  rw [← List.map_drop] at this
  exact this.toRd

/-! ### what a call owns -/
/-- v is a list of the call's own (its row lies from block B on) that holds the cells cs, each of element type t, of one cell -/
def Own (w : World) (B : Nat) (t : TypeId) (v : Value) (cs : List Value) : Prop := w.ownsRow B t 1 v cs.length cs
/-- the same, of integers of a kind -/
def OwnK (w : World) (B : Nat) (t : TypeId) (k : IntKind) (v : Value) (zs : List Int) : Prop := Own w B t v (zs.map (Value.int k))

theorem Own.nil (w : World) (B : Nat) (t : TypeId) : Own w B t (.slice none 0 0) [] := World.ownsRow_nil w B _ 1
theorem Own.form {w B t v cs} (h : Own w B t v cs) : ∃ A c, v = .slice A cs.length c ∧ cs.length ≤ c ∧ c ≤ maxLen ∧ RdC w A cs ∧ (∀ b off, A = some ⟨b, off, none⟩ → B ≤ b ∧ off = 0 ∧ b < w.heap.size) := by
  rcases h.2 with ⟨rfl, h0⟩ | ⟨g, cap, cur, rfl, hB, hg, hn, hm, hs, ht⟩
  · refine ⟨none, 0, by rw [h0], by omega, by simp [maxLen], fun hl => absurd hl (by omega), fun b off hh => by cases hh⟩
  · refine ⟨_, cap, rfl, hn, hm, fun _ => ⟨g, 0, rfl, fun i hi => ?_⟩, ?_⟩
    · have hc := World.ownsRow.cellAt h i (by omega)
      rw [← hc]; simp
    · intro b off hh
      cases hh
      exact ⟨hB, rfl, (Array.getElem?_eq_some_iff.1 hg).1⟩
theorem OwnK.form {w B t k v zs} (h : OwnK w B t k v zs) : ∃ A c, v = .slice A zs.length c ∧ zs.length ≤ c ∧ c ≤ maxLen ∧ Rd w k A zs ∧ (∀ b off, A = some ⟨b, off, none⟩ → B ≤ b ∧ off = 0 ∧ b < w.heap.size) := by
  obtain ⟨A, c, h1, h2, h3, h4, h5⟩ := Own.form h
  rw [List.length_map] at h1 h2
  exact ⟨A, c, h1, h2, h3, h4.toRd, h5⟩
theorem Own.keep {w w' B t v cs} (h : Own w B t v cs) {B' : Nat} (hb : Below B' w w') (hB : ∀ g, v.ownBlock = some g → g < B') : Own w' B t v cs := by
  refine ⟨h.1, ?_⟩
  rcases h.2 with hn | ⟨g, cap, cur, rfl, hB0, hg, rest⟩
  · exact .inl hn
  · refine .inr ⟨g, cap, cur, rfl, hB0, ?_, rest⟩
    rw [hb.block g (hB g rfl)]; exact hg
theorem Own.keepAll {w w' B t v cs} (h : Own w B t v cs) (hb : Below w.heap.size w w') : Own w' B t v cs := h.keep hb fun g hg => (World.ownsRow.lt h g hg).2
theorem Own.led {w w' B t v cs} (h : Own w B t v cs) (hb : LeD w w') : Own w' B t v cs := by obtain ⟨q, rfl⟩ := hb; exact h
theorem Own.alloc {w B t v cs} (h : Own w B t v cs) (o : Obj) : Own (w.alloc o) B t v cs := World.ownsRow.alloc h o
theorem Own.mono {w B B' t v cs} (h : Own w B t v cs) (hB : B' ≤ B) : Own w B' t v cs := by
  refine ⟨h.1, ?_⟩
  rcases h.2 with hn | ⟨g, cap, cur, rfl, hB0, hg, rest⟩
  · exact .inl hn
  · exact .inr ⟨g, cap, cur, rfl, by omega, hg, rest⟩
/-- a list of the call's own that is not empty: its row -/
theorem Own.row {w B t v cs} (h : Own w B t v cs) (h0 : 0 < cs.length) : ∃ g c, v = .slice (some ⟨g, 0, none⟩) cs.length c ∧ B ≤ g ∧ g < w.heap.size ∧ cs.length ≤ c ∧ c ≤ maxLen := by
  rcases h.2 with ⟨rfl, h1⟩ | ⟨g, cap, cur, rfl, hB, hg, hn, hm, hs, ht⟩
  · omega
  · exact ⟨g, cap, rfl, hB, (Array.getElem?_eq_some_iff.1 hg).1, hn, hm⟩
theorem Own.cell {w B t g n c cs} (h : Own w B t (.slice (some ⟨g, 0, none⟩) n c) cs) {i : Nat} (hi : i < cs.length) : w.cell? ⟨g, i, none⟩ = some cs[i] := by
  have hn : n = cs.length := by
    rcases h.2 with ⟨h1, _⟩ | ⟨g', cap, cur, h1, _⟩
    · cases h1
    · cases h1; rfl
  subst hn
  rw [World.ownsRow.cellAt h i (by omega)]; simp [hi]
theorem Own.len {w B t A n c cs} (h : Own w B t (.slice A n c) cs) : n = cs.length := by
  rcases h.2 with ⟨h1, h2⟩ | ⟨g', cap, cur, h1, _⟩
  · cases h1; omega
  · cases h1; rfl
theorem Own.free {w B t g n c cs} (h : Own w B t (.slice (some ⟨g, 0, none⟩) n c) cs) (i : Nat) : w.frozen? ⟨g, i, none⟩ = false := by
  have hn := h.len
  subst hn
  exact World.ownsRow.frozenAt h i
theorem Own.set {w B t g n c cs} (h : Own w B t (.slice (some ⟨g, 0, none⟩) n c) cs) (i : Nat) (u : Value) : Own (w.setCell ⟨g, i, none⟩ u) B t (.slice (some ⟨g, 0, none⟩) n c) (cs.set i u) := by
  have hn := h.len
  subst hn
  have := (World.ownsRow.stored h i u).1
  unfold Own
  rw [List.length_set]
  exact this
theorem Own.setOther {w B t v cs} (h : Own w B t v cs) {g : Nat} (hne : ∀ g', v.ownBlock = some g' → g' ≠ g) (i : Nat) (u : Value) : Own (w.setCell ⟨g, i, none⟩ u) B t v cs := by
  refine ⟨h.1, ?_⟩
  rcases h.2 with hn | ⟨g', cap, cur, rfl, hB0, hg, rest⟩
  · exact .inl hn
  · exact .inr ⟨g', cap, cur, rfl, hB0, by rw [Below.heap_setCell _ _ _ _ (hne g' rfl)]; exact hg, rest⟩
theorem OwnK.set {w B t k g n c zs} (h : OwnK w B t k (.slice (some ⟨g, 0, none⟩) n c) zs) (i : Nat) (z : Int) : OwnK (w.setCell ⟨g, i, none⟩ (.int k z)) B t k (.slice (some ⟨g, 0, none⟩) n c) (zs.set i z) := by
  have := Own.set h i (.int k z)
  unfold OwnK
  rw [List.map_set]
  exact this
theorem OwnK.cell {w B t k g n c zs} (h : OwnK w B t k (.slice (some ⟨g, 0, none⟩) n c) zs) {i : Nat} (hi : i < zs.length) : w.cell? ⟨g, i, none⟩ = some (.int k (zs.getD i 0)) := by
  have := Own.cell h (i := i) (by simpa using hi)
  rw [this]; simp [hi]
theorem OwnK.rd {w B t k A n c zs} (h : OwnK w B t k (.slice A n c) zs) : Rd w k A zs := by
  obtain ⟨A', c', h1, _, _, h4, _⟩ := h.form
  cases h1
  exact h4
theorem OwnK.len {w B t k A n c zs} (h : OwnK w B t k (.slice A n c) zs) : n = zs.length := by have := Own.len h; simpa using this
theorem OwnK.row {w B t k v zs} (h : OwnK w B t k v zs) (h0 : 0 < zs.length) : ∃ g c, v = .slice (some ⟨g, 0, none⟩) zs.length c ∧ B ≤ g ∧ g < w.heap.size ∧ zs.length ≤ c ∧ c ≤ maxLen := by
  have := Own.row h (by simpa using h0)
  simpa using this
theorem Own.cut {w B t g n c cs} (h : Own w B t (.slice (some ⟨g, 0, none⟩) n c) cs) {m : Nat} (hm : m ≤ n) : Own w B t (.slice (some ⟨g, 0, none⟩) m c) (cs.take m) := by
  have hn := h.len
  subst hn
  have hlen : (cs.take m).length = m := by rw [List.length_take]; omega
  refine ⟨by simp, ?_⟩
  rcases h.2 with ⟨h1, _⟩ | ⟨g', cap, cur, h1, hB, hg, hnc, hcm, hs, ht⟩
  · cases h1
  · cases h1
    refine .inr ⟨g, c, cur, by rw [hlen], hB, hg, by omega, hcm, hs, ?_⟩
    rw [hlen, ← ht, List.take_take]
    congr 1; omega
/-- written elsewhere -/
theorem Own.other {w w' B t v cs} (h : Own w B t v cs) {row : Option Nat} (hg : w.grownBy w' row) (hne : v.ownBlock = none ∨ v.ownBlock ≠ row) : Own w' B t v cs := World.ownsRow.kept h hg hne
theorem Own.below {w0 w w' B B' t v cs} (hb : Below B' w0 w) (h : Own w B t v cs) (hg : w.grownBy w' v.ownBlock) (hB : B' ≤ B) (hB2 : B' ≤ w.heap.size) : Below B' w0 w' :=
  hb.grown hg hB2 fun k hk => Nat.le_trans hB (World.ownsRow.lt h k hk).1
theorem Own.below_set {w0 w B B' t g n c cs} (hb : Below B' w0 w) (h : Own w B t (.slice (some ⟨g, 0, none⟩) n c) cs) (hB : B' ≤ B) (i : Nat) (u : Value) : Below B' w0 (w.setCell ⟨g, i, none⟩ u) :=
  hb.setCell (p := ⟨g, i, none⟩) (Nat.le_trans hB (World.ownsRow.lt h g rfl).1) u

/-! ### the rules -/
section
variable {P : Program} {n : Cx} {fr : Fr} {w w' : World} {ty : TypeId} {x y z : Operand} {v u : Value} {T T2 e : TypeId} {op : Op}

theorem ot_of {U : Value → World → Prop} (h : ∀ a, Ag n fr a → ∃ v w', (execOp a.eval ⟨none, op, ty, "", #[], none⟩).run P w = .ok (.value v) w' ∧ U v w') : OT P n op ty fr w U := by unfold OT; exact h
theorem OT.mono {U U' : Value → World → Prop} (h : OT P n op ty fr w U) (hU : ∀ v w', U v w' → U' v w') : OT P n op ty fr w U' := by
  unfold OT at *
  exact fun a ha => let ⟨v, w', h1, h2⟩ := h a ha; ⟨v, w', h1, hU _ _ h2⟩
theorem OS.ot (h : OS P n op ty fr w v w') {U : Value → World → Prop} (hU : U v w') : OT P n op ty fr w U := by
  unfold OS at h
  unfold OT
  exact fun a ha => ⟨v, w', h a ha, hU⟩

/-- in a region that draws: an operation that lays memory, and a fact on what it yields -/
theorem vt_new {all rest : List Oper} {le : World → World → Prop} {w0 : World} {ts : Ts} {Q : Exit → Fr → World → Prop} {d : Nat} {pos : String} {aft : Array Edge} {g : Option (Nat × Bool)} {gw : World → Prop} (U : Fact) (hU : Stable le U) {v' : World → Value} {w'' : World → World}
    (h : ∀ w, le w0 w → OS P n op ty fr w (v' w) (w'' w)) (hle : ∀ w, le w0 w → le w (w'' w) ∧ U (v' w) (w'' w)) (k : VT P n all le w0 rest fr ((d, U) :: ts) Q gw) (hg : GOk all fr g := by first | exact True.intro | rfl) (hcl : clean fr ts all ⟨some d, op, ty, pos, aft, g⟩ = true := by rfl) :
    VT P n all le w0 (⟨some d, op, ty, pos, aft, g⟩ :: rest) fr ts Q gw := vt_fact U hU (fun w hw => (h w hw).ot (hle w hw)) k hg hcl

/-- a type's row of the table: its zero value, how many cells, how many bytes -/
def TyInfo (P : Program) (e : TypeId) (z : Value) (size bytes : Nat) : Prop := (P.info? e).map (fun i => (i.zero, i.size, i.bytes)) = some (some z, size, bytes)

/-- make([]T, 0, n) -/
theorem ot_make0 {k k2 : IntKind} {m c : Int} {l : Nat} {z0 : Value} {bytes : Nat} (hT : P.underlying T = some (.slice e)) (hi : TyInfo P e z0 1 bytes) (hx : Fr.ev fr x = some (.int k m)) (hy : Fr.ev fr y = some (.int k2 c)) (hm : m = 0) (hc : c = (l : Int))
    (hb : bytes * l ≤ 281474976710656) (hl : l ≤ maxLen) (B : Nat) (hB : B ≤ w.heap.size) : OT P n (.makeSlice T x y) ty fr w fun v w' => v = .slice (some ⟨w.heap.size, 0, none⟩) 0 l ∧ Own w' B e v [] ∧ w.grownBy w' none := by
  subst hm; subst hc
  obtain ⟨i, h1, h2, h3, h4⟩ := info_parts hi
  obtain ⟨w', hr, ho, hg⟩ := run_make_own (P := P) w B T e i z0 1 hT h1 h2 h3 k k2 l (by rw [h4]; exact hb) hl hB
  exact ot_of fun a ha => ⟨_, w', by simp [execOp, ha.ev hx, ha.ev hy, hr, Result.andThen], rfl, ho, hg⟩
/-- make([]T, n) -/
theorem ot_make {k k2 : IntKind} {m c : Int} {l : Nat} {z0 : Value} {bytes : Nat} (hT : P.underlying T = some (.slice e)) (hi : TyInfo P e z0 1 bytes) (hz : z0.cells = #[z0]) (hx : Fr.ev fr x = some (.int k m)) (hy : Fr.ev fr y = some (.int k2 c)) (hm : m = (l : Int)) (hc : c = (l : Int))
    (hb : bytes * l ≤ 281474976710656) (hl : l ≤ maxLen) (B : Nat) (hB : B ≤ w.heap.size) : OT P n (.makeSlice T x y) ty fr w fun v w' => v = .slice (some ⟨w.heap.size, 0, none⟩) l l ∧ Own w' B e v (List.replicate l z0) ∧ w.grownBy w' none := by
  subst hm; subst hc
  obtain ⟨i, h1, h2, h3, h4⟩ := info_parts hi
  obtain ⟨w', hr, ho, hg⟩ := run_make_full (P := P) w B T e i z0 1 hT h1 h2 h3 k k2 l (by rw [h4]; exact hb) hl hB
  refine ot_of fun a ha => ⟨_, w', by simp [execOp, ha.ev hx, ha.ev hy, hr, Result.andThen], rfl, ?_, hg⟩
  have hcells : (madeCells z0.cells (l * 1)).toList = List.replicate l z0 := by
    rw [hz]
    apply List.ext_getElem
    · simp [madeCells]
    · intro i h1 h2; simp [madeCells, Nat.mod_one]
  rw [hcells] at ho
  unfold Own
  rw [List.length_replicate]
  exact ho

/-- append(s, x...): s a list of the call's own -/
theorem ot_append {A : Option Addr} {m c : Nat} {cs news : List Value} {z0 : Value} {bytes : Nat} {B : Nat} (hT : P.underlying T = some (.slice e)) (hi : TyInfo P e z0 1 bytes) (hz : z0.cells.size = 1) (hx : Fr.ev fr x = some v) (hy : Fr.ev fr y = some (.slice A m c))
    (ho : Own w B e v cs) (hr : RdC w A news) (hm : m = news.length) (h1 : ∀ u ∈ news, u.oneCell' = true) (hb : (cs.length + m) * bytes ≤ 140737488355328) (hl : cs.length + m ≤ maxLen) (hB : B ≤ w.heap.size) :
    OT P n (.call ⟨.builtin .append, #[x, y], #[T, T]⟩) ty fr w fun v' w' => Own w' B e v' (cs ++ news) ∧ w.grownBy w' v.ownBlock := by
  obtain ⟨i, i1, i2, i3, i4⟩ := info_parts hi
  by_cases h0 : 0 < news.length
  · obtain ⟨b, o, rfl, hc⟩ := hr h0
    obtain ⟨v', w', hrun, ho', hg, _⟩ := run_append_own (P := P) w B T ty e i z0 1 bytes hT i1 i2 i3 i4 hz (by omega) v cs.length cs ho ⟨b, o, none⟩ m c news (by omega)
      (fun j u hu => by
        have hj := (List.getElem?_eq_some_iff.1 hu).1
        rw [addr_add, hc j hj]; exact hu) h1 hl hb hB
    refine ot_of fun a ha => ⟨v', w', by simp [execOp, resolve, invoke, builtin, ha.ev hx, ha.ev hy, hrun, Result.andThen], ?_, hg⟩
    unfold Own
    rw [List.length_append, ← hm]
    exact ho'
  · have hnil : news = [] := List.eq_nil_of_length_eq_zero (by omega)
    subst hnil
    have hm0 : m = 0 := by simpa using hm
    subst hm0
    have hrun : (Builtin.append_ #[T, T] ty #[v, .slice A 0 c]).run P w = .ok v w := by
      rcases ho.2 with ⟨rfl, h2⟩ | ⟨g, cap, cur, rfl, _, _, hnc, _⟩
      · cases A <;> simp [Builtin.append_, run_underlying hT, sizeOf, typeInfo, i1, Builtin.lenOf, Builtin.firstCells, loadCells, loadCellsFrom]
      · cases A <;> simp [Builtin.append_, run_underlying hT, sizeOf, typeInfo, i1, Builtin.lenOf, Builtin.firstCells, hnc, storeCells, loadCells, loadCellsFrom]
    refine ot_of fun a ha => ⟨v, w, by simp [execOp, resolve, invoke, builtin, ha.ev hx, ha.ev hy, hrun, Result.andThen], by simpa using ho, World.grownBy.refl _ _⟩

def oneCells : List Value → Bool
  | [] => true
  | v :: r => v.oneCell' && oneCells r
def partsOf : List Value → Nat → List (Nat × Value)
  | [], _ => []
  | v :: r, i => (i, v) :: partsOf r (i + 1)
theorem fill_one : ∀ (vs : List Value) (i : Nat) (cells : Array Value), oneCells vs = true → i + vs.length = cells.size →
    Instr.fill (fun i => some (i * 1, 1)) cells (partsOf vs i) = some (cells.toList.take i ++ vs).toArray
  | [], i, cells, _, hl => by
    simp only [partsOf, Instr.fill, List.append_nil]
    have : i = cells.toList.length := by simpa using hl
    rw [this, List.take_length]
  | v :: r, i, cells, h1, hl => by
    simp only [oneCells, Bool.and_eq_true] at h1
    have hc : v.cells = #[v] := by cases v <;> simp_all [Value.cells, Value.oneCell']
    simp only [List.length_cons] at hl
    have hi : i < cells.size := by omega
    have h2 : ¬ (i * 1 + 1 > cells.size) := by omega
    have h3 : (#[v].zipIdx.foldl (fun cs (x : Value × Nat) => cs.setIfInBounds (i + x.2) x.1) cells) = cells.setIfInBounds i v := by simp [Array.zipIdx]
    have ih := fill_one r (i + 1) (cells.setIfInBounds i v) h1.2 (by simp; omega)
    simp only [Nat.mul_one] at ih
    simp only [partsOf, Instr.fill, hc]
    simp only [List.size_toArray, List.length_cons, List.length_nil, ne_eq, Nat.zero_add, not_true_eq_false, decide_false, Bool.false_or, h2, Bool.false_eq_true, if_false, Nat.mul_one, h3]
    simp only [Nat.mul_one] at h2
    simp only [h2, decide_false, Bool.false_eq_true, if_false]
    rw [ih]
    congr 2
    have h4 : (cells.toList.set i v).take (i + 1) = cells.toList.take i ++ [v] := by
      rw [List.take_set, List.take_succ_eq_append_getElem (by simpa using hi), List.set_append_right _ _ (by simp; omega)]
      simp [Nat.min_eq_left (Nat.le_of_lt hi)]
    rw [Array.toList_setIfInBounds, h4]
    simp

def evP (fr : Fr) : List (Nat × Operand) → Nat → Option (List Value)
  | [], _ => some []
  | (i, x) :: r, j => match Nat.beq i j with
    | true => match Fr.ev fr x with
      | some v => match evP fr r (j + 1) with
        | some vs => some (v :: vs)
        | none => none
      | none => none
    | false => none
theorem Ag.evP {n : Cx} {fr : Fr} {a : Act} (h : Ag n fr a) : ∀ {xs : List (Nat × Operand)} {j : Nat} {vs : List Value}, evP fr xs j = some vs → xs.map (fun p => (p.1, a.eval p.2)) = partsOf vs j
  | [], j, vs, hx => by simp [Ytpojijnjdlnokaa.evP] at hx; subst hx; rfl
  | (i, x) :: r, j, vs, hx => by
    simp only [Ytpojijnjdlnokaa.evP] at hx
    cases hb : Nat.beq i j with
    | false => simp [hb] at hx
    | true =>
      have hij := Nat.eq_of_beq_eq_true hb
      cases h1 : Fr.ev fr x with
      | none => simp [hb, h1] at hx
      | some v =>
        cases h2 : Ytpojijnjdlnokaa.evP fr r (j + 1) with
        | none => simp [hb, h1, h2] at hx
        | some us =>
          simp [hb, h1, h2] at hx
          subst hx
          simp [partsOf, hij, h.ev h1, h.evP h2]

/-- []T{..}, all its elements written out -/
theorem os_lit {l : Nat} {ps : List (Nat × Operand)} {vs : List Value} {z0 : Value} (hT : P.underlying T = some (.slice e)) (hs : ∀ w, (sizeOf e).run P w = .ok 1 w) (hz : ∀ w, (zeroValue e).run P w = .ok z0 w) (hz1 : z0.cells.size = 1) (hx : evP fr ps 0 = some vs) (hl : l = vs.length) (h1 : oneCells vs = true) (h2 : l ≤ 16777216) :
    OS P n (.buildSlice T l ps.toArray) ty fr w (.slice (some ⟨w.heap.size, 0, none⟩) l l) (w.alloc (.cells vs.toArray e)) := by
  subst hl
  refine os_of fun a ha => ?_
  have hp := ha.evP hx
  have hfill : ∀ zero : Array Value, zero.size = 1 ∨ vs.length = 0 → Instr.fill (fun i => some (i * 1, 1)) ((Array.range (vs.length * 1)).map (fun i => zero[i % zero.size]!)) (partsOf vs 0) = some vs.toArray := by
    intro zero _
    have := fill_one vs 0 ((Array.range (vs.length * 1)).map (fun i => zero[i % zero.size]!)) h1 (by simp)
    simpa using this
  have hgt : ¬ vs.length * 1 > 2 ^ 24 := by omega
  by_cases h0 : vs.length = 0
  · have hv : vs = [] := List.eq_nil_of_length_eq_zero h0
    subst hv
    have hps : ps = [] := by
      cases ps with
      | nil => rfl
      | cons p r => simp [partsOf] at hp
    subst hps
    simp [execOp, Instr.buildSlice, run_underlying hT, hs, Instr.fill, newRow, Result.andThen]
    rw [show Array.map (fun _ => (default : Value)) (Array.range 0) = #[] from Array.eq_empty_of_size_eq_zero (by simp)]
  · have hz2 := hfill z0.cells (.inl hz1)
    simp only [Nat.mul_one] at hz2
    simp [execOp, Instr.buildSlice, run_underlying hT, hs, hz, hp, newRow, Result.andThen, h0, show ¬ 16777216 < vs.length from by omega]
    rw [hz2]
    simp

theorem rdc_alloc (w : World) (vs : List Value) (e : TypeId) : RdC (w.alloc (.cells vs.toArray e)) (some ⟨w.heap.size, 0, none⟩) vs := by
  intro _
  refine ⟨_, 0, rfl, fun i hi => ?_⟩
  rw [cell_of_row _ w.heap.size (0 + i) vs.toArray e (0, 0) (heap_alloc_new w _)]
  simp
theorem rd_alloc (w : World) (k : IntKind) (zs : List Int) (e : TypeId) : Rd (w.alloc (.cells (zs.map (Value.int k)).toArray e)) k (some ⟨w.heap.size, 0, none⟩) zs := (rdc_alloc w (zs.map (Value.int k)) e).toRd
theorem own_alloc (w : World) (vs : List Value) (e : TypeId) {B : Nat} (hB : B ≤ w.heap.size) (hl : vs.length ≤ maxLen) : Own (w.alloc (.cells vs.toArray e)) B e (.slice (some ⟨w.heap.size, 0, none⟩) vs.length vs.length) vs := by
  have := World.ownsRow_lit (base := B) (e := e) (size := 1) w vs.toArray vs.length hB hl (by simp)
  simpa [Own] using this
end
end Go.Proofs.Ytpojijnjdlnokaa

/- Structs in memory: fields, whole loads and stores, struct values. No program in sight. -/
namespace Go.Proofs.Ytpojijnjdlnokaa
open Go.RowKit
set_option linter.unusedVariables false

/-- block g holds just these cells -/
def Bk (w : World) (g : Nat) (cs : List Value) (t : TypeId) : Prop := w.heap[g]? = some (.cells cs.toArray t (0, 0))

theorem Bk.cell {w g cs t} (h : Bk w g cs t) {i : Nat} {v : Value} (hv : nthV cs i = some v) : w.cell? ⟨g, 0 + i, none⟩ = some v := by
  rw [nthV_eq] at hv
  rw [cell_of_row w g (0 + i) cs.toArray t (0, 0) h]
  simpa using hv
theorem Bk.free {w g cs t} (h : Bk w g cs t) (i : Nat) : w.frozen? ⟨g, i, none⟩ = false := by
  unfold World.frozen?
  unfold Bk at h
  simp [h]
theorem Bk.lt {w g cs t} (h : Bk w g cs t) : g < w.heap.size := (Array.getElem?_eq_some_iff.1 h).1
theorem Bk.keep {w w' g cs t} (h : Bk w g cs t) (hb : Below w.heap.size w w') : Bk w' g cs t := (hb.block g h.lt).trans h
theorem Bk.below {w w' g cs t B} (h : Bk w g cs t) (hb : Below B w w') (hg : g < B) : Bk w' g cs t := (hb.block g hg).trans h
theorem Bk.led {w w' g cs t} (h : Bk w g cs t) (hb : LeD w w') : Bk w' g cs t := by obtain ⟨q, rfl⟩ := hb; exact h
theorem Bk.alloc {w g cs t} (h : Bk w g cs t) (o : Obj) : Bk (w.alloc o) g cs t := h.keep ((Below.refl _ _).alloc (Nat.le_refl _) o)
theorem bk_new (w : World) (cs : List Value) (t : TypeId) : Bk (w.alloc (.cells cs.toArray t)) w.heap.size cs t := heap_alloc_new w _
theorem Bk.set {w g cs t} (h : Bk w g cs t) (i : Nat) (u : Value) : Bk (w.setCell ⟨g, 0 + i, none⟩ u) g (cs.set i u) t := by
  unfold Bk at *
  unfold World.setCell
  simp [h, Array.getElem?_modify]
theorem Bk.other {w g cs t} (h : Bk w g cs t) {a : Addr} (ha : a.block ≠ g) (u : Value) : Bk (w.setCell a u) g cs t := by
  unfold Bk at *
  rw [Below.heap_setCell _ _ _ _ (fun e => ha e.symm)]; exact h
theorem Bk.grown {w w' g cs t row} (h : Bk w g cs t) (hg : w.grownBy w' row) (hne : some g ≠ row) : Bk w' g cs t := by
  unfold Bk at *
  rw [hg.block g (Array.getElem?_eq_some_iff.1 h).1 hne]; exact h
theorem Bk.rdc {w g cs t} (h : Bk w g cs t) : RdC w (some ⟨g, 0, none⟩) cs := fun _ => ⟨g, 0, rfl, fun i hi => by
  rw [cell_of_row w g (0 + i) cs.toArray t (0, 0) h]; simp⟩
theorem below_set {w0 w : World} {B g : Nat} (hb : Below B w0 w) (hg : B ≤ g) (i : Nat) (u : Value) : Below B w0 (w.setCell ⟨g, i, none⟩ u) := hb.setCell (p := ⟨g, i, none⟩) hg u
theorem setRow_bk {w : World} {g : Nat} {cs : List Value} {t : TypeId} (h : Bk w g cs t) (ds : List Value) : Bk (w.setRow g ds.toArray) g ds t := by
  unfold Bk at *
  unfold World.setRow
  simp [h, Array.getElem?_modify]

theorem below_setRow {w0 w : World} {B g : Nat} (hb : Below B w0 w) (hg : B ≤ g) (cs : Array Value) : Below B w0 (w.setRow g cs) :=
  ⟨hb.os, hb.tape, hb.output, by simpa [World.setRow] using hb.size, fun k hk => by
    rw [← hb.block k hk]
    simp [World.setRow, Array.getElem?_modify, show ¬ g = k by omega]⟩

/-- field i of struct type s: at which cell; of how many cells -/
def fieldB (P : Program) (s i : Nat) : Option (Nat × Nat) := match P.underlying s with
  | some (.struct fs) => match fs[i]? with
    | some f => match P.info? f.type with
      | some inf => some (f.offset, inf.size)
      | none => none
    | none => none
  | _ => none

section
variable {P : Program} {n : Cx} {fr : Fr} {w w' : World} {ty : TypeId} {x y z : Operand} {v u : Value} {T T2 e : TypeId} {op : Op}

theorem fieldB_spec {s i o k : Nat} (h : fieldB P s i = some (o, k)) : ∃ fs f, P.underlying s = some (.struct fs) ∧ fs[i]? = some f ∧ f.offset = o ∧ ∀ w, (sizeOf f.type).run P w = .ok k w := by
  unfold fieldB at h
  split at h
  · rename_i fs hu
    split at h
    · rename_i f hf
      split at h
      · rename_i inf hi
        simp only [Option.some.injEq, Prod.mk.injEq] at h
        exact ⟨fs, f, hu, hf, h.1, fun w => by simp [sizeOf, typeInfo, hi, h.2]⟩
      · cases h
    · cases h
  · cases h

theorem os_fa {b o0 o k i : Nat} (hF : fieldB P T i = some (o, k + 1)) (hx : Fr.ev fr x = some (.pointer (some ⟨b, o0, none⟩))) : OS P n (.fieldAddr T x i) ty fr w (.pointer (some ⟨b, o0 + o, none⟩)) w := by
  obtain ⟨fs, f, hu, hf, ho, hs⟩ := fieldB_spec hF
  exact os_of fun a ha => by
    simp [execOp, ha.ev hx, Instr.fieldAt, run_underlying hu, hf, Instr.sureAddr, fieldPlace, hs, ho, addr_add]

/-- a field of one cell of a struct's value -/
theorem os_fld {cs : List Value} {i o : Nat} (hF : fieldB P T i = some (o, 1)) (hA : ∀ fs f, P.underlying T = some (.struct fs) → fs[i]? = some f → ∀ w, (isAgg f.type).run P w = .ok false w) (hx : Fr.ev fr x = some (.agg cs.toArray)) (hv : nthV cs o = some v) : OS P n (.field T x i) ty fr w v w := by
  obtain ⟨fs, f, hu, hf, ho, hs⟩ := fieldB_spec hF
  rw [nthV_eq] at hv
  exact os_of fun a ha => by
    simp [execOp, ha.ev hx, Instr.field, run_underlying hu, hf, asAgg, part, hA fs f hu hf, ho, hv]

/-- a whole struct or array is read -/
theorem os_loadB {g : Nat} {cs : List Value} {t : TypeId} {d : TypeDesc} (hu : P.underlying T = some d) (hd : (match d with | .struct _ | .array _ _ => true | _ => false) = true) (hs : (P.info? T).map (·.size) = some cs.length) (hx : Fr.ev fr x = some (.pointer (some ⟨g, 0, none⟩))) (hg : Bk w g cs t) :
    OS P n (.load T x) ty fr w (.agg cs.toArray) w := os_of fun a ha => by
  have := run_loadVar_row (P := P) w g t T cs.toArray (0, 0) d hg hu hd (by simpa using hs)
  simp [execOp, ha.ev hx, Instr.loadAt, Instr.sureAddr, this]
/-- a whole struct or array is written -/
theorem ou_storeB {g : Nat} {cs ds : List Value} {t : TypeId} (hs : (P.info? T).map (·.size) = some ds.length) (hx : Fr.ev fr x = some (.pointer (some ⟨g, 0, none⟩))) (hy : Fr.ev fr y = some (.agg ds.toArray)) (hg : Bk w g cs t) (hl : cs.length = ds.length) (h1 : oneCells ds = true) :
    OU P n (.store T x y) ty fr w (w.setRow g ds.toArray) := by
  have h2 : ds.toArray.all (·.oneCell') = true := by
    have : ∀ l : List Value, oneCells l = true → l.all (·.oneCell') = true := by
      intro l
      induction l with
      | nil => intro _; rfl
      | cons v r ih => intro h; simp only [oneCells, Bool.and_eq_true] at h; simp [h.1]; simpa using ih h.2
    simpa using this ds h1
  have := run_storeVar_row (P := P) w g t T cs.toArray ds.toArray hg (by simpa using hs) (by simpa using hl) h2
  unfold OU
  intro a ha
  simp [execOp, ha.ev hx, ha.ev hy, Instr.storeAt, Instr.sureAddr, this]

def evN (fr : Fr) : List (Nat × Operand) → Option (List (Nat × Value))
  | [] => some []
  | (i, x) :: r => match Fr.ev fr x with
    | some v => match evN fr r with
      | some vs => some ((i, v) :: vs)
      | none => none
    | none => none
theorem Ag.evN {n : Cx} {fr : Fr} {a : Act} (h : Ag n fr a) : ∀ {xs : List (Nat × Operand)} {vs : List (Nat × Value)}, evN fr xs = some vs → xs.map (fun p => (p.1, a.eval p.2)) = vs
  | [], vs, hx => by simp [Ytpojijnjdlnokaa.evN] at hx; subst hx; rfl
  | (i, x) :: r, vs, hx => by
    simp only [Ytpojijnjdlnokaa.evN] at hx
    cases h1 : Fr.ev fr x with
    | none => simp [h1] at hx
    | some v =>
      cases h2 : Ytpojijnjdlnokaa.evN fr r with
      | none => simp [h1, h2] at hx
      | some us =>
        simp [h1, h2] at hx
        subst hx
        simp [h.ev h1, h.evN h2]
/-- T{..} -/
theorem os_build {ps : List (Nat × Operand)} {vs : List (Nat × Value)} {cs : List Value} (hx : evN fr ps = some vs) (hb : P.built T vs = some cs.toArray) : OS P n (.build T ps.toArray) ty fr w (.agg cs.toArray) w := os_of fun a ha => by
  have h1 := ha.evN hx
  have h2 := run_build (P := P) w T (ps.map (fun p => (p.1, a.eval p.2))).toArray cs.toArray (by rw [h1]; simpa using hb)
  have h3 : (execOp a.eval ⟨none, .build T ps.toArray, ty, "", #[], none⟩) = (do pure (.value (← Instr.build T (ps.map (fun p => (p.1, a.eval p.2))).toArray))) := by
    simp [execOp]
  rw [h3]
  simp [h2]
end
end Go.Proofs.Ytpojijnjdlnokaa

/- Rows of the table of types. -/
namespace Go.Proofs.Ytpojijnjdlnokaa
theorem ti_int : TyInfo Try.prog 3 (.int .i64 0) 1 8 := by unfold TyInfo; kernel_rfl
theorem ti_u8 : TyInfo Try.prog 5 (.int .u8 0) 1 1 := by unfold TyInfo; kernel_rfl
end Go.Proofs.Ytpojijnjdlnokaa

/- copy, and slices from a place on. No program in sight. -/
namespace Go.Proofs.Ytpojijnjdlnokaa
open Go.RowKit
set_option linter.unusedVariables false

section
variable {P : Program} {n : Cx} {fr : Fr} {w : World} {ty : TypeId} {x y z : Operand} {v u : Value} {T T2 e : TypeId} {op : Op} {w' : World} {k : IntKind} {m : Int}
theorem Own.bk {B t g n c cs} (h : Own w B t (.slice (some ⟨g, 0, none⟩) n c) cs) (hc : c = cs.length) : Bk w g cs t := by
  rcases h.2 with ⟨h1, _⟩ | ⟨g', cap, cur, h1, hB, hg, hnc, hcm, hs, ht⟩
  · cases h1
  · cases h1
    unfold Bk
    rw [hg]
    have : cur = cs.toArray := by
      rw [← ht, ← hc]
      have hs' : cur.size = c := by simpa using hs
      rw [List.take_of_length_le (by simp [hs'])]
    rw [this]
theorem Bk.own {B t g cs} (h : Bk w g cs t) (hB : B ≤ g) (hl : cs.length ≤ maxLen) : Own w B t (.slice (some ⟨g, 0, none⟩) cs.length cs.length) cs :=
  ⟨by simp, .inr ⟨g, cs.length, cs.toArray, rfl, hB, h, Nat.le_refl _, hl, by simp, by simp⟩⟩
theorem os_copyB {g o dl dc sl sc q : Nat} {A : Addr} {cs ss : List Value} {t : TypeId} (hT : P.underlying T = some (.slice e)) (hs : (P.info? e).map (·.size) = some 1) (hx : Fr.ev fr x = some (.slice (some ⟨g, o, none⟩) dl dc)) (hy : Fr.ev fr y = some (.slice (some A) sl sc))
    (hB : Bk w g cs t) (hr : RdC w (some A) ss) (hq : ss.length = q) (hn : q = min sl dl) (hfit : o + q ≤ cs.length) (h1 : ∀ u ∈ ss, u.oneCell' = true) :
    OS P n (.call ⟨.builtin .copy, #[x, y], #[T, T2]⟩) ty fr w (.int .i64 q) (w.setRow g (cs.take o ++ ss ++ cs.drop (o + q)).toArray) := by
  subst hq
  have hrun := run_copy_row (P := P) w T T2 ty e g o dl dc A sl sc cs.toArray t ss hT hs hB hn (fun j u hu => by
    have hj := (List.getElem?_eq_some_iff.1 hu).1
    obtain ⟨b, off, e1, hc⟩ := hr (by omega)
    cases e1
    rw [addr_add, hc j hj]; exact hu) (by simpa using hfit) h1
  refine os_of fun a ha => ?_
  simp [execOp, resolve, invoke, builtin, ha.ev hx, ha.ev hy, hrun, Result.andThen, goInt]
theorem os_slice_l1 {b o l c i : Nat} {e : TypeId} (hT : P.underlying T = some (.slice e)) (hs : ∀ w, (sizeOf e).run P w = .ok 1 w) (hx : Fr.ev fr x = some (.slice (some ⟨b, o, none⟩) l c)) (hy : Fr.ev fr y = some (.int k m)) (hm : m = (i : Int)) (hh : i ≤ l) (hne : c ≠ i) :
    OS P n (.slice T x (some y) none none) ty fr w (.slice (some ⟨b, o + i, none⟩) (l - i) (c - i)) w := by
  have := os_slice_l (n := n) (w := w) (ty := ty) hT hs hx hy hm hh
  rw [if_neg hne] at this
  simpa [addr_add] using this
theorem grown_setRow (w : World) (g : Nat) (cs : Array Value) : w.grownBy (w.setRow g cs) (some g) :=
  ⟨rfl, rfl, rfl, by simp [World.setRow], fun k _ hk => setRow_other w g k cs (fun e => hk (by rw [e]))⟩
/-- copy(d, s): d a list of the call's own -/
theorem ot_copy {g dl dc sl sc q B : Nat} {A : Option Addr} {cs ss : List Value} {t : TypeId} (hT : P.underlying T = some (.slice e)) (hs : (P.info? e).map (·.size) = some 1) (hx : Fr.ev fr x = some (.slice (some ⟨g, 0, none⟩) dl dc)) (hy : Fr.ev fr y = some (.slice A sl sc))
    (ho : Own w B t (.slice (some ⟨g, 0, none⟩) dl dc) cs) (hr : RdC w A ss) (hq : ss.length = q) (hn : q = min sl dl) (h1 : ∀ u ∈ ss, u.oneCell' = true) :
    OT P n (.call ⟨.builtin .copy, #[x, y], #[T, T2]⟩) ty fr w fun v' w' => v' = .int .i64 q ∧ Own w' B t (.slice (some ⟨g, 0, none⟩) dl dc) (ss ++ cs.drop q) ∧ w.grownBy w' (some g) := by
  subst hq
  have hlen := ho.len
  rcases ho.2 with ⟨h0, _⟩ | ⟨g', cap, cur, h0, hB, hg, hnc, hcm, hcs, ht⟩
  · cases h0
  cases h0
  have hfit : 0 + ss.length ≤ cur.size := by rw [hcs]; omega
  have hset : ∀ a, A = some a → ∀ a', Ag n fr a' → (execOp a'.eval ⟨none, .call ⟨.builtin .copy, #[x, y], #[T, T2]⟩, ty, "", #[], none⟩).run P w = .ok (.value (.int .i64 ss.length)) (w.setRow g (cur.toList.take 0 ++ ss ++ cur.toList.drop (0 + ss.length)).toArray) := by
    rintro a rfl a' ha
    have hrun := run_copy_row (P := P) w T T2 ty e g 0 cs.length dc a sl sc cur t ss hT hs hg hn (fun j u hu => by
      have hj := (List.getElem?_eq_some_iff.1 hu).1
      obtain ⟨b, off, e1, hc⟩ := hr (by omega)
      cases e1
      rw [addr_add, hc j hj]; exact hu) hfit h1
    simp [execOp, resolve, invoke, builtin, ha.ev hx, ha.ev hy, hrun, Result.andThen, goInt]
  cases A with
  | some a =>
    refine ot_of fun a' ha => ⟨_, _, hset a rfl a' ha, rfl, ⟨?_, .inr ⟨g, dc, _, by simp only [List.length_append, List.length_drop]; congr 1; omega, hB, setRow_heap w g cur _ t _ hg, ?_, hcm, ?_, ?_⟩⟩, grown_setRow w g _⟩
    · simp
    · simp only [List.length_append, List.length_drop]; omega
    · simp only [List.take_zero, List.nil_append, List.size_toArray, List.length_append, List.length_drop, Array.length_toList]; omega
    · simp only [List.take_zero, List.nil_append, Nat.zero_add, List.length_append, List.length_drop, Nat.mul_one]
      have ht' : cs = cur.toList.take cs.length := by simpa using ht.symm
      rw [List.take_append, List.take_of_length_le (by omega), show ss.length + (cs.length - ss.length) - ss.length = cs.length - ss.length by omega]
      congr 1
      rw [ht', List.drop_take, ← ht']
  | none =>
    have h0 : ss = [] := by
      cases ss with
      | nil => rfl
      | cons a r => obtain ⟨b, o, e1, _⟩ := hr (by simp); cases e1
    subst h0
    have hmin : Nat.min sl cs.length = 0 := by simpa using hn.symm
    obtain ⟨i, hi, hi1⟩ : ∃ i, P.info? e = some i ∧ i.size = 1 := by
      cases hq : P.info? e with
      | none => simp [hq] at hs
      | some i => exact ⟨i, rfl, by simpa [hq] using hs⟩
    refine ot_of fun a' ha => ⟨.int .i64 0, w, ?_, rfl, by simpa using ho, ⟨rfl, rfl, rfl, Nat.le_refl _, fun _ _ _ => rfl⟩⟩
    simp [execOp, resolve, invoke, builtin, ha.ev hx, ha.ev hy, Builtin.copy_, run_underlying hT, Builtin.lenOf, Builtin.firstCells, sizeOf, typeInfo, hi, hi1, hmin, Result.andThen, goInt, storeCells, loadCells, loadCellsFrom]
end
end Go.Proofs.Ytpojijnjdlnokaa

/- Regions that draw their order, order by order: what may be taken first is taken first, the rest is gone through. No program in sight. -/
namespace Go.Proofs.Ytpojijnjdlnokaa
open Go.RowKit
set_option linter.unusedVariables false

def nrm (n : Cx) (Q : Exit → Fr → World → Prop) : Exit → Act → World → Prop
  | .normal, a, w => ∃ fr, Ag n fr a ∧ Q .normal fr w
  | _, _, _ => False

/-- so many operations are left at most; which have come up, says 'listed' -/
def VA (P : Program) (n : Cx) (all : List Oper) (fuel : Nat) (listed : List Bool) (fr : Fr) (w : World) (Q : Exit → Fr → World → Prop) : Prop :=
  all.all (dstOk n.sz) = true → ∀ a, Ag n fr a → wpAny P .any all.toArray (nrm n Q) fuel listed.toArray a w

def setB : List Bool → Nat → List Bool
  | [], _ => []
  | _ :: r, 0 => true :: r
  | b :: r, i + 1 => b :: setB r i
theorem setB_eq : ∀ (l : List Bool) (i : Nat), (setB l i).toArray = l.toArray.setIfInBounds i true
  | [], i => by simp [setB]
  | _ :: r, 0 => by simp [setB]
  | b :: r, i + 1 => by
    have := setB_eq r i
    simp only [List.setIfInBounds_toArray, List.toArray_inj] at this
    have h2 : setB r i = r.set i true := by simpa using this
    simp [setB, h2]

theorem OS.ot' {P : Program} {n : Cx} {op : Op} {ty : TypeId} {fr : Fr} {w w' : World} {v : Value} (h : OS P n op ty fr w v w') {U : Value → World → Prop} (hU : U v w') : OT P n op ty fr w U := by
  unfold OS at h
  unfold OT
  exact fun a ha => ⟨v, w', h a ha, hU⟩
section
variable {P : Program} {n : Cx} {all : List Oper} {fuel : Nat} {listed : List Bool} {fr : Fr} {w w' : World} {Q : Exit → Fr → World → Prop} {d : Nat} {op : Op} {ty : TypeId} {pos : String} {aft : Array Edge} {v : Value}

theorem dstOk_at {all : List Oper} {i : Nat} {o : Oper} (h : all.all (dstOk n.sz) = true) (hi : all[i]? = some o) {d : Nat} (hd : o.dst = some d) : d < n.sz := by
  have hm := List.mem_of_getElem? hi
  have := List.all_eq_true.1 h o hm
  simp only [dstOk, hd] at this
  exact (Nat.blt_eq ..).mp this

theorem v_region_a {id : Nat} {l : List Oper} (hm : P.follows .mixedOrders = true) (h : VA P n l l.length (List.replicate l.length false) fr { w with drawn := w.drawn + 1 } Q) (hro : n.ro = none := by rfl) : V P n (.region id l.toArray true) fr w Q := by
  unfold V
  intro hok a ha
  rw [fw_none hro]
  refine wpIn_wide.2 (Code.wp_mono (fun e a w hq => ?_) (wp_region_any (Q := nrm n Q) hm ?_))
  · cases e with
    | normal => exact .inl hq
    | _ => exact hq.elim
  · have := h (by simpa [codeOk] using hok) a ha
    simpa using this

/-- a pure operation may be taken first -/
theorem va_take (i : Nat) (hi : all[i]? = some ⟨some d, op, ty, pos, aft, none⟩) (hs : Region.noSelect all.toArray = true) (hf : Region.free .any all.toArray listed.toArray i = true) (hr : (Region.ready .any all.toArray listed.toArray).contains i = true)
    (h : ∀ w, OS P n op ty fr w v w) (k : VA P n all fuel (setB listed i) ((d, v) :: fr) w Q) : VA P n all (fuel + 1) listed fr w Q := by
  intro hok a ha
  have h1 := dstOk_at hok hi rfl
  refine wpAny_take (oi := ⟨some d, op, ty, pos, aft, none⟩) (v := v) (by simpa using hi) hs hf hr (fun c a w hq => hq.elim) (.inl ⟨rfl, fun w => ?_⟩) ?_
  · have := h w
    unfold OS at this
    exact this a ha
  · have := k hok _ (ha.put h1 v)
    rw [setB_eq] at this
    exact this

theorem va_all (rs : List Nat) (hr : Region.ready .any all.toArray listed.toArray = rs) (hne : rs ≠ []) (h : ∀ i ∈ rs, (all.all (dstOk n.sz) = true → ∀ a, Ag n fr a → wpOp P all.toArray (nrm n Q) i (wpAny P .any all.toArray (nrm n Q) fuel (setB listed i).toArray) a w)) : VA P n all (fuel + 1) listed fr w Q := by
  intro hok a ha
  refine wpAny_all hr hne fun i hi => ?_
  have := h i hi hok a ha
  rw [setB_eq] at this
  exact this

theorem va_some {U : Value → World → Prop} (i : Nat) (hi : all[i]? = some ⟨some d, op, ty, pos, aft, none⟩) (h : OT P n op ty fr w U) (k : ∀ v w', U v w' → VA P n all fuel (setB listed i) ((d, v) :: fr) w' Q) :
    all.all (dstOk n.sz) = true → ∀ a, Ag n fr a → wpOp P all.toArray (nrm n Q) i (wpAny P .any all.toArray (nrm n Q) fuel (setB listed i).toArray) a w := by
  intro hok a ha
  have h1 := dstOk_at hok hi rfl
  unfold OT at h
  obtain ⟨v, w', hr, hu⟩ := h a ha
  unfold wpOp
  simp only [List.getElem?_toArray, hi, Region.wanted, if_true]
  left
  unfold Oper.wp
  rw [execOp_bare, hr]
  exact k v w' hu hok _ (ha.put h1 v)

theorem va_done (hr : Region.ready .any all.toArray listed.toArray = []) (h : Q .normal fr w) : VA P n all fuel listed fr w Q := by
  intro hok a ha
  exact wpAny_done hr ⟨fr, ha, h⟩ fuel

/-! ### with guards, calls, stores -/
/-- a pure operation, whatever its guard, may be taken first -/
theorem va_pure {g : Option (Nat × Bool)} (i : Nat) (hi : all[i]? = some ⟨some d, op, ty, pos, aft, g⟩) (hs : Region.noSelect all.toArray = true) (hf : Region.free .any all.toArray listed.toArray i = true) (hr : (Region.ready .any all.toArray listed.toArray).contains i = true)
    (h : ∀ w, OS P n op ty fr w v w) (k : VA P n all fuel (setB listed i) ((d, v) :: fr) w Q) (hg : GOk all fr g := by first | exact True.intro | rfl) : VA P n all (fuel + 1) listed fr w Q := by
  intro hok a ha
  have h1 := dstOk_at hok hi rfl
  refine wpAny_take (oi := ⟨some d, op, ty, pos, aft, g⟩) (v := v) (by simpa using hi) hs hf hr (fun c a w hq => hq.elim) (.inl ⟨GOk.wanted ha hg, fun w => ?_⟩) ?_
  · have := h w
    unfold OS at this
    rw [execOp_bare]
    exact this a ha
  · have := k hok _ (ha.put h1 v)
    rw [setB_eq] at this
    exact this
/-- an operation whose guard is not met -/
theorem va_skip {j : Nat} {b c : Bool} (i : Nat) (hi : all[i]? = some ⟨some d, op, ty, pos, aft, some (j, b)⟩) (hs : Region.noSelect all.toArray = true) (hf : Region.free .any all.toArray listed.toArray i = true) (hr : (Region.ready .any all.toArray listed.toArray).contains i = true)
    (hg : guardF all fr j = some (.bool c)) (hb : (c == b) = false) (k : VA P n all fuel (setB listed i) ((d, undef) :: fr) w Q) : VA P n all (fuel + 1) listed fr w Q := by
  intro hok a ha
  have h1 := dstOk_at hok hi rfl
  have hne : (some c == some b) = false := by simpa using hb
  refine wpAny_take (oi := ⟨some d, op, ty, pos, aft, some (j, b)⟩) (v := undef) (by simpa using hi) hs hf hr (fun c a w hq => hq.elim) (.inr ⟨?_, rfl⟩) ?_
  · simp only [Region.wanted, guardF_yields ha hg, hne]
  · have := k hok _ (ha.put h1 undef)
    rw [setB_eq] at this
    exact this

theorem va_skipu {j : Nat} {b : Bool} (i : Nat) (hi : all[i]? = some ⟨some d, op, ty, pos, aft, some (j, b)⟩) (hs : Region.noSelect all.toArray = true) (hf : Region.free .any all.toArray listed.toArray i = true) (hr : (Region.ready .any all.toArray listed.toArray).contains i = true)
    (hg : guardF all fr j = some undef) (k : VA P n all fuel (setB listed i) ((d, undef) :: fr) w Q) : VA P n all (fuel + 1) listed fr w Q := by
  intro hok a ha
  have h1 := dstOk_at hok hi rfl
  refine wpAny_take (oi := ⟨some d, op, ty, pos, aft, some (j, b)⟩) (v := undef) (by simpa using hi) hs hf hr (fun c a w hq => hq.elim) (.inr ⟨wanted_undef ha hg, rfl⟩) ?_
  have := k hok _ (ha.put h1 undef)
  rw [setB_eq] at this
  exact this

/-- what may come up next -/
def VN (P : Program) (n : Cx) (all : List Oper) (fuel : Nat) (listed : List Bool) (i : Nat) (fr : Fr) (w : World) (Q : Exit → Fr → World → Prop) : Prop :=
  all.all (dstOk n.sz) = true → ∀ a, Ag n fr a → wpOp P all.toArray (nrm n Q) i (wpAny P .any all.toArray (nrm n Q) fuel (setB listed i).toArray) a w
theorem va_one (i : Nat) (hr : (Region.ready .any all.toArray listed.toArray == [i]) = true) (h : VN P n all fuel listed i fr w Q) : VA P n all (fuel + 1) listed fr w Q :=
  va_all [i] (by simpa using hr) (by simp) fun j hj => by
    simp only [List.mem_cons, List.not_mem_nil, or_false] at hj
    subst hj; exact h
theorem va_two (i j : Nat) (hr : (Region.ready .any all.toArray listed.toArray == [i, j]) = true) (h : VN P n all fuel listed i fr w Q) (h2 : VN P n all fuel listed j fr w Q) : VA P n all (fuel + 1) listed fr w Q :=
  va_all [i, j] (by simpa using hr) (by simp) fun k hk => by
    simp only [List.mem_cons, List.not_mem_nil, or_false] at hk
    rcases hk with rfl | rfl
    · exact h
    · exact h2
theorem va_three (i j l : Nat) (hr : (Region.ready .any all.toArray listed.toArray == [i, j, l]) = true) (h : VN P n all fuel listed i fr w Q) (h2 : VN P n all fuel listed j fr w Q) (h3 : VN P n all fuel listed l fr w Q) : VA P n all (fuel + 1) listed fr w Q :=
  va_all [i, j, l] (by simpa using hr) (by simp) fun k hk => by
    simp only [List.mem_cons, List.not_mem_nil, or_false] at hk
    rcases hk with rfl | rfl | rfl
    · exact h
    · exact h2
    · exact h3

theorem va_four (i j l m : Nat) (hr : (Region.ready .any all.toArray listed.toArray == [i, j, l, m]) = true) (h : VN P n all fuel listed i fr w Q) (h2 : VN P n all fuel listed j fr w Q) (h3 : VN P n all fuel listed l fr w Q) (h4 : VN P n all fuel listed m fr w Q) : VA P n all (fuel + 1) listed fr w Q :=
  va_all [i, j, l, m] (by simpa using hr) (by simp) fun k hk => by
    simp only [List.mem_cons, List.not_mem_nil, or_false] at hk
    rcases hk with rfl | rfl | rfl | rfl
    · exact h
    · exact h2
    · exact h3
    · exact h4

theorem vn_some {g : Option (Nat × Bool)} {i : Nat} {U : Value → World → Prop} (hi : all[i]? = some ⟨some d, op, ty, pos, aft, g⟩) (h : OT P n op ty fr w U) (k : ∀ v w', U v w' → VA P n all fuel (setB listed i) ((d, v) :: fr) w' Q) (hg : GOk all fr g := by first | exact True.intro | rfl) : VN P n all fuel listed i fr w Q := by
  intro hok a ha
  have h1 := dstOk_at hok hi rfl
  unfold wpOp
  simp only [List.getElem?_toArray, hi, GOk.wanted ha hg, if_true]
  left
  unfold OT at h
  obtain ⟨v, w', hr, hu⟩ := h a ha
  unfold Oper.wp
  rw [execOp_bare, hr]
  exact k v w' hu hok _ (ha.put h1 v)
theorem vn_val {g : Option (Nat × Bool)} {i : Nat} (hi : all[i]? = some ⟨some d, op, ty, pos, aft, g⟩) (h : OS P n op ty fr w v w') (k : VA P n all fuel (setB listed i) ((d, v) :: fr) w' Q) (hg : GOk all fr g := by first | exact True.intro | rfl) : VN P n all fuel listed i fr w Q :=
  vn_some (U := fun v1 w1 => v1 = v ∧ w1 = w') hi (h.ot' ⟨rfl, rfl⟩) (by rintro v1 w1 ⟨rfl, rfl⟩; exact k) hg
theorem vn_unit {g : Option (Nat × Bool)} {i : Nat} (hi : all[i]? = some ⟨none, op, ty, pos, aft, g⟩) (h : OU P n op ty fr w w') (k : VA P n all fuel (setB listed i) fr w' Q) (hg : GOk all fr g := by first | exact True.intro | rfl) : VN P n all fuel listed i fr w Q := by
  intro hok a ha
  unfold wpOp
  simp only [List.getElem?_toArray, hi, GOk.wanted ha hg, if_true]
  left
  unfold OU at h
  unfold Oper.wp
  rw [execOp_bare, h a ha]
  exact k hok _ ha
theorem vn_call {g : Option (Nat × Bool)} {i : Nat} {f : FuncId} {xs : List Operand} {tt : Array TypeId} {args : List Value} {U : Value → World → Prop} (hi : all[i]? = some ⟨some d, .call ⟨.value (.func f), xs.toArray, tt⟩, ty, pos, aft, g⟩) (h : Gives P f args.toArray w U) (hx : evL fr xs = some args)
    (k : ∀ v w', U v w' → VA P n all fuel (setB listed i) ((d, v) :: fr) w' Q) (hg : GOk all fr g := by first | exact True.intro | rfl) : VN P n all fuel listed i fr w Q := by
  intro hok a ha
  have h1 := dstOk_at hok hi rfl
  unfold wpOp
  simp only [List.getElem?_toArray, hi, GOk.wanted ha hg, if_true]
  left
  unfold Gives at h
  unfold Oper.wp
  rw [execOp_bare, run_callee (first := #[]) (cap := #[]) h.1 rfl hx ha]
  simp only [Array.append_empty, Array.empty_append]
  refine h.2.mono ?_
  rintro e w' ⟨v, rfl, h2⟩
  exact k v w' h2 hok _ (ha.put h1 v)
theorem vn_calln {g : Option (Nat × Bool)} {i : Nat} {f : FuncId} {xs : List Operand} {tt : Array TypeId} {args : List Value} {U : Value → World → Prop} (hi : all[i]? = some ⟨none, .call ⟨.value (.func f), xs.toArray, tt⟩, ty, pos, aft, g⟩) (h : Gives P f args.toArray w U) (hx : evL fr xs = some args)
    (k : ∀ v w', U v w' → VA P n all fuel (setB listed i) fr w' Q) (hg : GOk all fr g := by first | exact True.intro | rfl) : VN P n all fuel listed i fr w Q := by
  intro hok a ha
  unfold wpOp
  simp only [List.getElem?_toArray, hi, GOk.wanted ha hg, if_true]
  left
  unfold Gives at h
  unfold Oper.wp
  rw [execOp_bare, run_callee (first := #[]) (cap := #[]) h.1 rfl hx ha]
  simp only [Array.append_empty, Array.empty_append]
  refine h.2.mono ?_
  rintro e w' ⟨v, rfl, h2⟩
  exact k v w' h2 hok _ ha
end
attribute [irreducible] VA VN
end Go.Proofs.Ytpojijnjdlnokaa
