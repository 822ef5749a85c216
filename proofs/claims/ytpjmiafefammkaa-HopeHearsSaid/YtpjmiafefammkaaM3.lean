/- Texts joined: M N Ty Own FixP Fin FixA FixB FixC. -/
import Derived.Test.YtpjmiafefammkaaM2
import Derived.Test.YtpjmiafefammkaaProg
import Derived.RangeFuncOwn
import Derived.ProofKit
import Derived.Shelf.Abstract
/- Lists in memory: what reads as a list, what a call owns; the rules of making, appending, storing. No program in sight. -/
namespace Go.Proofs.Ytpjmiafefammkaa
open Go.RowKit
set_option linter.unusedVariables false

/-! ### what reads as a list of cells -/
/-- the address A leads to a row whose first cells are cs -/
def RdC (w : World) (A : Option Addr) (cs : List Value) : Prop :=
  0 < cs.length → ∃ b off, A = some ⟨b, off, none⟩ ∧ ∀ i, i < cs.length → w.cell? ⟨b, off + i, none⟩ = cs[i]?

theorem Rd.toC {w : World} {k : IntKind} {A : Option Addr} {zs : List Int} (h : Rd w k A zs) : RdC w A (zs.map (Value.int k)) := by
  intro hl
  obtain ⟨b, off, e, hc⟩ := h (by simpa using hl)
  refine ⟨b, off, e, fun i hi => ?_⟩
  have hi' : i < zs.length := by simpa using hi
  rw [hc i hi']; simp [hi']
theorem RdC.toRd {w : World} {k : IntKind} {A : Option Addr} {zs : List Int} (h : RdC w A (zs.map (Value.int k))) : Rd w k A zs := by
  intro hl
  obtain ⟨b, off, e, hc⟩ := h (by simpa using hl)
  refine ⟨b, off, e, fun i hi => ?_⟩
  rw [hc i (by simpa using hi)]; simp [hi]
theorem RdC.at_ {w A cs} (h : RdC w A cs) {i : Nat} (hi : i < cs.length) : ∃ b off, A = some ⟨b, off, none⟩ ∧ w.cell? ⟨b, off + i, none⟩ = some cs[i] := by
  obtain ⟨b, off, e, hc⟩ := h (by omega)
  exact ⟨b, off, e, by rw [hc i hi]; simp [hi]⟩
theorem RdC.nil {w A} : RdC w A [] := fun h => absurd h (by simp)
theorem RdC.keep {w w' : World} {A cs} (h : RdC w A cs) (hb : Below w.heap.size w w') : RdC w' A cs := by
  intro hl
  obtain ⟨b, off, e, hc⟩ := h hl
  refine ⟨b, off, e, fun i hi => ?_⟩
  have h1 := hc i hi
  rw [List.getElem?_eq_getElem hi] at h1
  have := World.block_lt_of_cell? w ⟨b, off + i, none⟩ h1
  exact (hb.cell (p := ⟨b, off + i, none⟩) this).trans (hc i hi)
theorem RdC.led {w w' : World} {A cs} (h : RdC w A cs) (hb : LeD w w') : RdC w' A cs := by obtain ⟨q, rfl⟩ := hb; exact h
theorem Rd.led {w w' : World} {k A zs} (h : Rd w k A zs) (hb : LeD w w') : Rd w' k A zs := by obtain ⟨q, rfl⟩ := hb; exact h
theorem RdC.block {w w' : World} {A cs} (h : RdC w A cs) (hb : ∀ b o, A = some ⟨b, o, none⟩ → w'.heap[b]? = w.heap[b]?) : RdC w' A cs := by
  intro hl
  obtain ⟨b, off, e, hc⟩ := h hl
  refine ⟨b, off, e, fun i hi => ?_⟩
  have := hb b off e
  rw [← hc i hi]
  unfold World.cell?
  simp only [this]
theorem RdC.take {w A cs} (h : RdC w A cs) (k : Nat) : RdC w A (cs.take k) := by
  intro hl
  rw [List.length_take] at hl
  obtain ⟨b, off, e, hc⟩ := h (by omega)
  refine ⟨b, off, e, fun i hi => ?_⟩
  rw [List.length_take] at hi
  rw [hc i (by omega), List.getElem?_take, if_pos (by omega)]
theorem RdC.drop {w cs b o} (h : RdC w (some ⟨b, o, none⟩) cs) (k : Nat) : RdC w (some ⟨b, o + k, none⟩) (cs.drop k) := by
  intro hl
  rw [List.length_drop] at hl
  obtain ⟨b', off, e, hc⟩ := h (by omega)
  cases e
  refine ⟨b, o + k, rfl, fun i hi => ?_⟩
  rw [List.length_drop] at hi
  rw [Nat.add_assoc, hc (k + i) (by omega), List.getElem?_drop]
theorem Rd.take {w k A zs} (h : Rd w k A zs) (n : Nat) : Rd w k A (zs.take n) := by
  have := h.toC.take n
  rw [← List.map_take] at this
  exact this.toRd

theorem RdC.sliced {w A cs} (h : RdC w A cs) {c i : Nat} (hc : cs.length ≤ c) : RdC w (if c = i then A else A.map (·.add (i * 1))) (cs.drop i) := by
  split
  · rename_i he; subst he; rw [List.drop_eq_nil_of_le hc]; exact RdC.nil
  · intro hl
    have hl' := hl
    rw [List.length_drop] at hl'
    obtain ⟨b, o, rfl, hcc⟩ := h (by omega)
    have := RdC.drop h i hl
    obtain ⟨b', o', e, h2⟩ := this
    cases e
    refine ⟨b, o + i, by simp [addr_add], h2⟩
theorem Rd.sliced {w k A zs} (h : Rd w k A zs) {c i : Nat} (hc : zs.length ≤ c) : Rd w k (if c = i then A else A.map (·.add (i * 1))) (zs.drop i) := by
  have := h.toC.sliced (c := c) (i := i) (by simpa using hc)
  rw [← List.map_drop] at this
  exact this.toRd

/-! ### what a call owns -/
/-- v is a list of the call's own (its row lies from block B on) that holds the cells cs, each of element type t, of one cell -/
def Own (w : World) (B : Nat) (t : TypeId) (v : Value) (cs : List Value) : Prop := w.ownsRow B t 1 v cs.length cs
/-- the same, of integers of a kind -/
def OwnK (w : World) (B : Nat) (t : TypeId) (k : IntKind) (v : Value) (zs : List Int) : Prop := Own w B t v (zs.map (Value.int k))

theorem Own.nil (w : World) (B : Nat) (t : TypeId) : Own w B t (.slice none 0 0) [] := World.ownsRow_nil w B _ 1
theorem Own.form {w B t v cs} (h : Own w B t v cs) : ∃ A c, v = .slice A cs.length c ∧ cs.length ≤ c ∧ c ≤ maxLen ∧ RdC w A cs ∧ (∀ b off, A = some ⟨b, off, none⟩ → B ≤ b ∧ off = 0 ∧ b < w.heap.size) := by
  rcases h.2 with ⟨rfl, h0⟩ | ⟨g, cap, cur, rfl, hB, hg, hn, hm, hs, ht⟩
  · refine ⟨none, 0, by rw [h0], by omega, by simp [maxLen], fun hl => absurd hl (by omega), fun b off hh => by cases hh⟩
  · refine ⟨_, cap, rfl, hn, hm, fun _ => ⟨g, 0, rfl, fun i hi => ?_⟩, ?_⟩
    · have hc := World.ownsRow.cellAt h i (by omega)
      rw [← hc]; simp
    · intro b off hh
      cases hh
      exact ⟨hB, rfl, (Array.getElem?_eq_some_iff.1 hg).1⟩
theorem OwnK.form {w B t k v zs} (h : OwnK w B t k v zs) : ∃ A c, v = .slice A zs.length c ∧ zs.length ≤ c ∧ c ≤ maxLen ∧ Rd w k A zs ∧ (∀ b off, A = some ⟨b, off, none⟩ → B ≤ b ∧ off = 0 ∧ b < w.heap.size) := by
  obtain ⟨A, c, h1, h2, h3, h4, h5⟩ := Own.form h
  rw [List.length_map] at h1 h2
  exact ⟨A, c, h1, h2, h3, h4.toRd, h5⟩
theorem Own.keep {w w' B t v cs} (h : Own w B t v cs) {B' : Nat} (hb : Below B' w w') (hB : ∀ g, v.ownBlock = some g → g < B') : Own w' B t v cs := by
  refine ⟨h.1, ?_⟩
  rcases h.2 with hn | ⟨g, cap, cur, rfl, hB0, hg, rest⟩
  · exact .inl hn
  · refine .inr ⟨g, cap, cur, rfl, hB0, ?_, rest⟩
    rw [hb.block g (hB g rfl)]; exact hg
theorem Own.keepAll {w w' B t v cs} (h : Own w B t v cs) (hb : Below w.heap.size w w') : Own w' B t v cs := h.keep hb fun g hg => (World.ownsRow.lt h g hg).2
theorem Own.led {w w' B t v cs} (h : Own w B t v cs) (hb : LeD w w') : Own w' B t v cs := by obtain ⟨q, rfl⟩ := hb; exact h
theorem Own.alloc {w B t v cs} (h : Own w B t v cs) (o : Obj) : Own (w.alloc o) B t v cs := World.ownsRow.alloc h o
theorem Own.mono {w B B' t v cs} (h : Own w B t v cs) (hB : B' ≤ B) : Own w B' t v cs := by
  refine ⟨h.1, ?_⟩
  rcases h.2 with hn | ⟨g, cap, cur, rfl, hB0, hg, rest⟩
  · exact .inl hn
  · exact .inr ⟨g, cap, cur, rfl, by omega, hg, rest⟩
/-- a list of the call's own that is not empty: its row -/
theorem Own.row {w B t v cs} (h : Own w B t v cs) (h0 : 0 < cs.length) : ∃ g c, v = .slice (some ⟨g, 0, none⟩) cs.length c ∧ B ≤ g ∧ g < w.heap.size ∧ cs.length ≤ c ∧ c ≤ maxLen := by
  rcases h.2 with ⟨rfl, h1⟩ | ⟨g, cap, cur, rfl, hB, hg, hn, hm, hs, ht⟩
  · omega
  · exact ⟨g, cap, rfl, hB, (Array.getElem?_eq_some_iff.1 hg).1, hn, hm⟩
theorem Own.cell {w B t g n c cs} (h : Own w B t (.slice (some ⟨g, 0, none⟩) n c) cs) {i : Nat} (hi : i < cs.length) : w.cell? ⟨g, i, none⟩ = some cs[i] := by
  have hn : n = cs.length := by
    rcases h.2 with ⟨h1, _⟩ | ⟨g', cap, cur, h1, _⟩
    · cases h1
    · cases h1; rfl
  subst hn
  rw [World.ownsRow.cellAt h i (by omega)]; simp [hi]
theorem Own.len {w B t A n c cs} (h : Own w B t (.slice A n c) cs) : n = cs.length := by
  rcases h.2 with ⟨h1, h2⟩ | ⟨g', cap, cur, h1, _⟩
  · cases h1; omega
  · cases h1; rfl
theorem Own.free {w B t g n c cs} (h : Own w B t (.slice (some ⟨g, 0, none⟩) n c) cs) (i : Nat) : w.frozen? ⟨g, i, none⟩ = false := by
  have hn := h.len
  subst hn
  exact World.ownsRow.frozenAt h i
theorem Own.set {w B t g n c cs} (h : Own w B t (.slice (some ⟨g, 0, none⟩) n c) cs) (i : Nat) (u : Value) : Own (w.setCell ⟨g, i, none⟩ u) B t (.slice (some ⟨g, 0, none⟩) n c) (cs.set i u) := by
  have hn := h.len
  subst hn
  have := (World.ownsRow.stored h i u).1
  unfold Own
  rw [List.length_set]
  exact this
theorem Own.setOther {w B t v cs} (h : Own w B t v cs) {g : Nat} (hne : ∀ g', v.ownBlock = some g' → g' ≠ g) (i : Nat) (u : Value) : Own (w.setCell ⟨g, i, none⟩ u) B t v cs := by
  refine ⟨h.1, ?_⟩
  rcases h.2 with hn | ⟨g', cap, cur, rfl, hB0, hg, rest⟩
  · exact .inl hn
  · exact .inr ⟨g', cap, cur, rfl, hB0, by rw [Below.heap_setCell _ _ _ _ (hne g' rfl)]; exact hg, rest⟩
theorem OwnK.set {w B t k g n c zs} (h : OwnK w B t k (.slice (some ⟨g, 0, none⟩) n c) zs) (i : Nat) (z : Int) : OwnK (w.setCell ⟨g, i, none⟩ (.int k z)) B t k (.slice (some ⟨g, 0, none⟩) n c) (zs.set i z) := by
  have := Own.set h i (.int k z)
  unfold OwnK
  rw [List.map_set]
  exact this
theorem OwnK.cell {w B t k g n c zs} (h : OwnK w B t k (.slice (some ⟨g, 0, none⟩) n c) zs) {i : Nat} (hi : i < zs.length) : w.cell? ⟨g, i, none⟩ = some (.int k (zs.getD i 0)) := by
  have := Own.cell h (i := i) (by simpa using hi)
  rw [this]; simp [hi]
theorem OwnK.rd {w B t k A n c zs} (h : OwnK w B t k (.slice A n c) zs) : Rd w k A zs := by
  obtain ⟨A', c', h1, _, _, h4, _⟩ := h.form
  cases h1
  exact h4
theorem OwnK.len {w B t k A n c zs} (h : OwnK w B t k (.slice A n c) zs) : n = zs.length := by have := Own.len h; simpa using this
theorem OwnK.row {w B t k v zs} (h : OwnK w B t k v zs) (h0 : 0 < zs.length) : ∃ g c, v = .slice (some ⟨g, 0, none⟩) zs.length c ∧ B ≤ g ∧ g < w.heap.size ∧ zs.length ≤ c ∧ c ≤ maxLen := by
  have := Own.row h (by simpa using h0)
  simpa using this
theorem Own.cut {w B t g n c cs} (h : Own w B t (.slice (some ⟨g, 0, none⟩) n c) cs) {m : Nat} (hm : m ≤ n) : Own w B t (.slice (some ⟨g, 0, none⟩) m c) (cs.take m) := by
  have hn := h.len
  subst hn
  have hlen : (cs.take m).length = m := by rw [List.length_take]; omega
  refine ⟨by simp, ?_⟩
  rcases h.2 with ⟨h1, _⟩ | ⟨g', cap, cur, h1, hB, hg, hnc, hcm, hs, ht⟩
  · cases h1
  · cases h1
    refine .inr ⟨g, c, cur, by rw [hlen], hB, hg, by omega, hcm, hs, ?_⟩
    rw [hlen, ← ht, List.take_take]
    congr 1; omega
/-- written elsewhere -/
theorem Own.other {w w' B t v cs} (h : Own w B t v cs) {row : Option Nat} (hg : w.grownBy w' row) (hne : v.ownBlock = none ∨ v.ownBlock ≠ row) : Own w' B t v cs := World.ownsRow.kept h hg hne
theorem Own.below {w0 w w' B B' t v cs} (hb : Below B' w0 w) (h : Own w B t v cs) (hg : w.grownBy w' v.ownBlock) (hB : B' ≤ B) (hB2 : B' ≤ w.heap.size) : Below B' w0 w' :=
  hb.grown hg hB2 fun k hk => Nat.le_trans hB (World.ownsRow.lt h k hk).1
theorem Own.below_set {w0 w B B' t g n c cs} (hb : Below B' w0 w) (h : Own w B t (.slice (some ⟨g, 0, none⟩) n c) cs) (hB : B' ≤ B) (i : Nat) (u : Value) : Below B' w0 (w.setCell ⟨g, i, none⟩ u) :=
  hb.setCell (p := ⟨g, i, none⟩) (Nat.le_trans hB (World.ownsRow.lt h g rfl).1) u

/-! ### the rules -/
section
variable {P : Program} {n : Cx} {fr : Fr} {w w' : World} {ty : TypeId} {x y z : Operand} {v u : Value} {T T2 e : TypeId} {op : Op}

theorem ot_of {U : Value → World → Prop} (h : ∀ a, Ag n fr a → ∃ v w', (execOp a.eval ⟨none, op, ty, "", #[], none⟩).run P w = .ok (.value v) w' ∧ U v w') : OT P n op ty fr w U := by unfold OT; exact h
theorem OT.mono {U U' : Value → World → Prop} (h : OT P n op ty fr w U) (hU : ∀ v w', U v w' → U' v w') : OT P n op ty fr w U' := by
  unfold OT at *
  exact fun a ha => let ⟨v, w', h1, h2⟩ := h a ha; ⟨v, w', h1, hU _ _ h2⟩
theorem OS.ot (h : OS P n op ty fr w v w') {U : Value → World → Prop} (hU : U v w') : OT P n op ty fr w U := by
  unfold OS at h
  unfold OT
  exact fun a ha => ⟨v, w', h a ha, hU⟩

/-- in a region that draws: an operation that lays memory, and a fact on what it yields -/
theorem vt_new {all rest : List Oper} {le : World → World → Prop} {w0 : World} {ts : Ts} {Q : Exit → Fr → World → Prop} {d : Nat} {pos : String} {aft : Array Edge} {g : Option (Nat × Bool)} {gw : World → Prop} (U : Fact) (hU : Stable le U) {v' : World → Value} {w'' : World → World}
    (h : ∀ w, le w0 w → OS P n op ty fr w (v' w) (w'' w)) (hle : ∀ w, le w0 w → le w (w'' w) ∧ U (v' w) (w'' w)) (k : VT P n all le w0 rest fr ((d, U) :: ts) Q gw) (hg : GOk all fr g := by first | exact True.intro | rfl) (hcl : clean fr ts all ⟨some d, op, ty, pos, aft, g⟩ = true := by rfl) :
    VT P n all le w0 (⟨some d, op, ty, pos, aft, g⟩ :: rest) fr ts Q gw := vt_fact U hU (fun w hw => (h w hw).ot (hle w hw)) k hg hcl

/-- a type's row of the table: its zero value, how many cells, how many bytes -/
def TyInfo (P : Program) (e : TypeId) (z : Value) (size bytes : Nat) : Prop := (P.info? e).map (fun i => (i.zero, i.size, i.bytes)) = some (some z, size, bytes)

/-- make([]T, 0, n) -/
theorem ot_make0 {k k2 : IntKind} {m c : Int} {l : Nat} {z0 : Value} {bytes : Nat} (hT : P.underlying T = some (.slice e)) (hi : TyInfo P e z0 1 bytes) (hx : Fr.ev fr x = some (.int k m)) (hy : Fr.ev fr y = some (.int k2 c)) (hm : m = 0) (hc : c = (l : Int))
    (hb : bytes * l ≤ 281474976710656) (hl : l ≤ maxLen) (B : Nat) (hB : B ≤ w.heap.size) : OT P n (.makeSlice T x y) ty fr w fun v w' => v = .slice (some ⟨w.heap.size, 0, none⟩) 0 l ∧ Own w' B e v [] ∧ w.grownBy w' none := by
  subst hm; subst hc
  obtain ⟨i, h1, h2, h3, h4⟩ := info_parts hi
  obtain ⟨w', hr, ho, hg⟩ := run_make_own (P := P) w B T e i z0 1 hT h1 h2 h3 k k2 l (by rw [h4]; exact hb) hl hB
  exact ot_of fun a ha => ⟨_, w', by simp [execOp, ha.ev hx, ha.ev hy, hr, Result.andThen], rfl, ho, hg⟩
/-- make([]T, n) -/
theorem ot_make {k k2 : IntKind} {m c : Int} {l : Nat} {z0 : Value} {bytes : Nat} (hT : P.underlying T = some (.slice e)) (hi : TyInfo P e z0 1 bytes) (hz : z0.cells = #[z0]) (hx : Fr.ev fr x = some (.int k m)) (hy : Fr.ev fr y = some (.int k2 c)) (hm : m = (l : Int)) (hc : c = (l : Int))
    (hb : bytes * l ≤ 281474976710656) (hl : l ≤ maxLen) (B : Nat) (hB : B ≤ w.heap.size) : OT P n (.makeSlice T x y) ty fr w fun v w' => v = .slice (some ⟨w.heap.size, 0, none⟩) l l ∧ Own w' B e v (List.replicate l z0) ∧ w.grownBy w' none := by
  subst hm; subst hc
  obtain ⟨i, h1, h2, h3, h4⟩ := info_parts hi
  obtain ⟨w', hr, ho, hg⟩ := run_make_full (P := P) w B T e i z0 1 hT h1 h2 h3 k k2 l (by rw [h4]; exact hb) hl hB
  refine ot_of fun a ha => ⟨_, w', by simp [execOp, ha.ev hx, ha.ev hy, hr, Result.andThen], rfl, ?_, hg⟩
  have hcells : (madeCells z0.cells (l * 1)).toList = List.replicate l z0 := by
    rw [hz]
    apply List.ext_getElem
    · simp [madeCells]
    · intro i h1 h2; simp [madeCells, Nat.mod_one]
  rw [hcells] at ho
  unfold Own
  rw [List.length_replicate]
  exact ho

/-- append(s, x...): s a list of the call's own -/
theorem ot_append {A : Option Addr} {m c : Nat} {cs news : List Value} {z0 : Value} {bytes : Nat} {B : Nat} (hT : P.underlying T = some (.slice e)) (hi : TyInfo P e z0 1 bytes) (hz : z0.cells.size = 1) (hx : Fr.ev fr x = some v) (hy : Fr.ev fr y = some (.slice A m c))
    (ho : Own w B e v cs) (hr : RdC w A news) (hm : m = news.length) (h1 : ∀ u ∈ news, u.oneCell' = true) (hb : (cs.length + m) * bytes ≤ 140737488355328) (hl : cs.length + m ≤ maxLen) (hB : B ≤ w.heap.size) :
    OT P n (.call ⟨.builtin .append, #[x, y], #[T, T]⟩) ty fr w fun v' w' => Own w' B e v' (cs ++ news) ∧ w.grownBy w' v.ownBlock := by
  obtain ⟨i, i1, i2, i3, i4⟩ := info_parts hi
  by_cases h0 : 0 < news.length
  · obtain ⟨b, o, rfl, hc⟩ := hr h0
    obtain ⟨v', w', hrun, ho', hg, _⟩ := run_append_own (P := P) w B T ty e i z0 1 bytes hT i1 i2 i3 i4 hz (by omega) v cs.length cs ho ⟨b, o, none⟩ m c news (by omega)
      (fun j u hu => by
        have hj := (List.getElem?_eq_some_iff.1 hu).1
        rw [addr_add, hc j hj]; exact hu) h1 hl hb hB
    refine ot_of fun a ha => ⟨v', w', by simp [execOp, resolve, invoke, builtin, ha.ev hx, ha.ev hy, hrun, Result.andThen], ?_, hg⟩
    unfold Own
    rw [List.length_append, ← hm]
    exact ho'
  · have hnil : news = [] := List.eq_nil_of_length_eq_zero (by omega)
    subst hnil
    have hm0 : m = 0 := by simpa using hm
    subst hm0
    have hrun : (Builtin.append_ #[T, T] ty #[v, .slice A 0 c]).run P w = .ok v w := by
      rcases ho.2 with ⟨rfl, h2⟩ | ⟨g, cap, cur, rfl, _, _, hnc, _⟩
      · cases A <;> simp [Builtin.append_, run_underlying hT, sizeOf, typeInfo, i1, Builtin.lenOf, Builtin.firstCells, loadCells, loadCellsFrom]
      · cases A <;> simp [Builtin.append_, run_underlying hT, sizeOf, typeInfo, i1, Builtin.lenOf, Builtin.firstCells, hnc, storeCells, loadCells, loadCellsFrom]
    refine ot_of fun a ha => ⟨v, w, by simp [execOp, resolve, invoke, builtin, ha.ev hx, ha.ev hy, hrun, Result.andThen], by simpa using ho, World.grownBy.refl _ _⟩

def oneCells : List Value → Bool
  | [] => true
  | v :: r => v.oneCell' && oneCells r
def partsOf : List Value → Nat → List (Nat × Value)
  | [], _ => []
  | v :: r, i => (i, v) :: partsOf r (i + 1)
theorem fill_one : ∀ (vs : List Value) (i : Nat) (cells : Array Value), oneCells vs = true → i + vs.length = cells.size →
    Instr.fill (fun i => some (i * 1, 1)) cells (partsOf vs i) = some (cells.toList.take i ++ vs).toArray
  | [], i, cells, _, hl => by
    simp only [partsOf, Instr.fill, List.append_nil]
    have : i = cells.toList.length := by simpa using hl
    rw [this, List.take_length]
  | v :: r, i, cells, h1, hl => by
    simp only [oneCells, Bool.and_eq_true] at h1
    have hc : v.cells = #[v] := by cases v <;> simp_all [Value.cells, Value.oneCell']
    simp only [List.length_cons] at hl
    have hi : i < cells.size := by omega
    have h2 : ¬ (i * 1 + 1 > cells.size) := by omega
    have h3 : (#[v].zipIdx.foldl (fun cs (x : Value × Nat) => cs.setIfInBounds (i + x.2) x.1) cells) = cells.setIfInBounds i v := by simp [Array.zipIdx]
    have ih := fill_one r (i + 1) (cells.setIfInBounds i v) h1.2 (by simp; omega)
    simp only [Nat.mul_one] at ih
    simp only [partsOf, Instr.fill, hc]
    simp only [List.size_toArray, List.length_cons, List.length_nil, ne_eq, Nat.zero_add, not_true_eq_false, decide_false, Bool.false_or, h2, Bool.false_eq_true, if_false, Nat.mul_one, h3]
    simp only [Nat.mul_one] at h2
    simp only [h2, decide_false, Bool.false_eq_true, if_false]
    rw [ih]
    congr 2
    have h4 : (cells.toList.set i v).take (i + 1) = cells.toList.take i ++ [v] := by
      rw [List.take_set, List.take_succ_eq_append_getElem (by simpa using hi), List.set_append_right _ _ (by simp; omega)]
      simp [Nat.min_eq_left (Nat.le_of_lt hi)]
    rw [Array.toList_setIfInBounds, h4]
    simp

def evP (fr : Fr) : List (Nat × Operand) → Nat → Option (List Value)
  | [], _ => some []
  | (i, x) :: r, j => match Nat.beq i j with
    | true => match Fr.ev fr x with
      | some v => match evP fr r (j + 1) with
        | some vs => some (v :: vs)
        | none => none
      | none => none
    | false => none
theorem Ag.evP {n : Cx} {fr : Fr} {a : Act} (h : Ag n fr a) : ∀ {xs : List (Nat × Operand)} {j : Nat} {vs : List Value}, evP fr xs j = some vs → xs.map (fun p => (p.1, a.eval p.2)) = partsOf vs j
  | [], j, vs, hx => by simp [Ytpjmiafefammkaa.evP] at hx; subst hx; rfl
  | (i, x) :: r, j, vs, hx => by
    simp only [Ytpjmiafefammkaa.evP] at hx
    cases hb : Nat.beq i j with
    | false => simp [hb] at hx
    | true =>
      have hij := Nat.eq_of_beq_eq_true hb
      cases h1 : Fr.ev fr x with
      | none => simp [hb, h1] at hx
      | some v =>
        cases h2 : Ytpjmiafefammkaa.evP fr r (j + 1) with
        | none => simp [hb, h1, h2] at hx
        | some us =>
          simp [hb, h1, h2] at hx
          subst hx
          simp [partsOf, hij, h.ev h1, h.evP h2]

/-- []T{..}, all its elements written out -/
theorem os_lit {l : Nat} {ps : List (Nat × Operand)} {vs : List Value} {z0 : Value} (hT : P.underlying T = some (.slice e)) (hs : ∀ w, (sizeOf e).run P w = .ok 1 w) (hz : ∀ w, (zeroValue e).run P w = .ok z0 w) (hz1 : z0.cells.size = 1) (hx : evP fr ps 0 = some vs) (hl : l = vs.length) (h1 : oneCells vs = true) (h2 : l ≤ 16777216) :
    OS P n (.buildSlice T l ps.toArray) ty fr w (.slice (some ⟨w.heap.size, 0, none⟩) l l) (w.alloc (.cells vs.toArray e)) := by
  subst hl
  refine os_of fun a ha => ?_
  have hp := ha.evP hx
  have hfill : ∀ zero : Array Value, zero.size = 1 ∨ vs.length = 0 → Instr.fill (fun i => some (i * 1, 1)) ((Array.range (vs.length * 1)).map (fun i => zero[i % zero.size]!)) (partsOf vs 0) = some vs.toArray := by
    intro zero _
    have := fill_one vs 0 ((Array.range (vs.length * 1)).map (fun i => zero[i % zero.size]!)) h1 (by simp)
    simpa using this
  have hgt : ¬ vs.length * 1 > 2 ^ 24 := by omega
  by_cases h0 : vs.length = 0
  · have hv : vs = [] := List.eq_nil_of_length_eq_zero h0
    subst hv
    have hps : ps = [] := by
      cases ps with
      | nil => rfl
      | cons p r => simp [partsOf] at hp
    subst hps
    simp [execOp, Instr.buildSlice, run_underlying hT, hs, Instr.fill, newRow, Result.andThen]
    rw [show Array.map (fun _ => (default : Value)) (Array.range 0) = #[] from Array.eq_empty_of_size_eq_zero (by simp)]
  · have hz2 := hfill z0.cells (.inl hz1)
    simp only [Nat.mul_one] at hz2
    simp [execOp, Instr.buildSlice, run_underlying hT, hs, hz, hp, newRow, Result.andThen, h0, show ¬ 16777216 < vs.length from by omega]
    rw [hz2]
    simp

theorem rdc_alloc (w : World) (vs : List Value) (e : TypeId) : RdC (w.alloc (.cells vs.toArray e)) (some ⟨w.heap.size, 0, none⟩) vs := by
  intro _
  refine ⟨_, 0, rfl, fun i hi => ?_⟩
  rw [cell_of_row _ w.heap.size (0 + i) vs.toArray e (0, 0) (heap_alloc_new w _)]
  simp
theorem rd_alloc (w : World) (k : IntKind) (zs : List Int) (e : TypeId) : Rd (w.alloc (.cells (zs.map (Value.int k)).toArray e)) k (some ⟨w.heap.size, 0, none⟩) zs := (rdc_alloc w (zs.map (Value.int k)) e).toRd
theorem own_alloc (w : World) (vs : List Value) (e : TypeId) {B : Nat} (hB : B ≤ w.heap.size) (hl : vs.length ≤ maxLen) : Own (w.alloc (.cells vs.toArray e)) B e (.slice (some ⟨w.heap.size, 0, none⟩) vs.length vs.length) vs := by
  have := World.ownsRow_lit (base := B) (e := e) (size := 1) w vs.toArray vs.length hB hl (by simp)
  simpa [Own] using this
end
end Go.Proofs.Ytpjmiafefammkaa

/- Structs in memory: fields, whole loads and stores, struct values. No program in sight. -/
namespace Go.Proofs.Ytpjmiafefammkaa
open Go.RowKit
set_option linter.unusedVariables false

/-- block g holds just these cells -/
def Bk (w : World) (g : Nat) (cs : List Value) (t : TypeId) : Prop := w.heap[g]? = some (.cells cs.toArray t (0, 0))

theorem Bk.cell {w g cs t} (h : Bk w g cs t) {i : Nat} {v : Value} (hv : nthV cs i = some v) : w.cell? ⟨g, 0 + i, none⟩ = some v := by
  rw [nthV_eq] at hv
  rw [cell_of_row w g (0 + i) cs.toArray t (0, 0) h]
  simpa using hv
theorem Bk.free {w g cs t} (h : Bk w g cs t) (i : Nat) : w.frozen? ⟨g, i, none⟩ = false := by
  unfold World.frozen?
  unfold Bk at h
  simp [h]
theorem Bk.lt {w g cs t} (h : Bk w g cs t) : g < w.heap.size := (Array.getElem?_eq_some_iff.1 h).1
theorem Bk.keep {w w' g cs t} (h : Bk w g cs t) (hb : Below w.heap.size w w') : Bk w' g cs t := (hb.block g h.lt).trans h
theorem Bk.below {w w' g cs t B} (h : Bk w g cs t) (hb : Below B w w') (hg : g < B) : Bk w' g cs t := (hb.block g hg).trans h
theorem Bk.led {w w' g cs t} (h : Bk w g cs t) (hb : LeD w w') : Bk w' g cs t := by obtain ⟨q, rfl⟩ := hb; exact h
theorem Bk.alloc {w g cs t} (h : Bk w g cs t) (o : Obj) : Bk (w.alloc o) g cs t := h.keep ((Below.refl _ _).alloc (Nat.le_refl _) o)
theorem bk_new (w : World) (cs : List Value) (t : TypeId) : Bk (w.alloc (.cells cs.toArray t)) w.heap.size cs t := heap_alloc_new w _
theorem Bk.set {w g cs t} (h : Bk w g cs t) (i : Nat) (u : Value) : Bk (w.setCell ⟨g, 0 + i, none⟩ u) g (cs.set i u) t := by
  unfold Bk at *
  unfold World.setCell
  simp [h, Array.getElem?_modify]
theorem Bk.other {w g cs t} (h : Bk w g cs t) {a : Addr} (ha : a.block ≠ g) (u : Value) : Bk (w.setCell a u) g cs t := by
  unfold Bk at *
  rw [Below.heap_setCell _ _ _ _ (fun e => ha e.symm)]; exact h
theorem Bk.grown {w w' g cs t row} (h : Bk w g cs t) (hg : w.grownBy w' row) (hne : some g ≠ row) : Bk w' g cs t := by
  unfold Bk at *
  rw [hg.block g (Array.getElem?_eq_some_iff.1 h).1 hne]; exact h
theorem Bk.rdc {w g cs t} (h : Bk w g cs t) : RdC w (some ⟨g, 0, none⟩) cs := fun _ => ⟨g, 0, rfl, fun i hi => by
  rw [cell_of_row w g (0 + i) cs.toArray t (0, 0) h]; simp⟩
theorem below_set {w0 w : World} {B g : Nat} (hb : Below B w0 w) (hg : B ≤ g) (i : Nat) (u : Value) : Below B w0 (w.setCell ⟨g, i, none⟩ u) := hb.setCell (p := ⟨g, i, none⟩) hg u
theorem setRow_bk {w : World} {g : Nat} {cs : List Value} {t : TypeId} (h : Bk w g cs t) (ds : List Value) : Bk (w.setRow g ds.toArray) g ds t := by
  unfold Bk at *
  unfold World.setRow
  simp [h, Array.getElem?_modify]

theorem below_setRow {w0 w : World} {B g : Nat} (hb : Below B w0 w) (hg : B ≤ g) (cs : Array Value) : Below B w0 (w.setRow g cs) :=
  ⟨hb.os, hb.tape, hb.output, by simpa [World.setRow] using hb.size, fun k hk => by
    rw [← hb.block k hk]
    simp [World.setRow, Array.getElem?_modify, show ¬ g = k by omega]⟩

/-- field i of struct type s: at which cell; of how many cells -/
def fieldB (P : Program) (s i : Nat) : Option (Nat × Nat) := match P.underlying s with
  | some (.struct fs) => match fs[i]? with
    | some f => match P.info? f.type with
      | some inf => some (f.offset, inf.size)
      | none => none
    | none => none
  | _ => none

section
variable {P : Program} {n : Cx} {fr : Fr} {w w' : World} {ty : TypeId} {x y z : Operand} {v u : Value} {T T2 e : TypeId} {op : Op}

theorem fieldB_spec {s i o k : Nat} (h : fieldB P s i = some (o, k)) : ∃ fs f, P.underlying s = some (.struct fs) ∧ fs[i]? = some f ∧ f.offset = o ∧ ∀ w, (sizeOf f.type).run P w = .ok k w := by
  unfold fieldB at h
  split at h
  · rename_i fs hu
    split at h
    · rename_i f hf
      split at h
      · rename_i inf hi
        simp only [Option.some.injEq, Prod.mk.injEq] at h
        exact ⟨fs, f, hu, hf, h.1, fun w => by simp [sizeOf, typeInfo, hi, h.2]⟩
      · cases h
    · cases h
  · cases h

theorem os_fa {b o0 o k i : Nat} (hF : fieldB P T i = some (o, k + 1)) (hx : Fr.ev fr x = some (.pointer (some ⟨b, o0, none⟩))) : OS P n (.fieldAddr T x i) ty fr w (.pointer (some ⟨b, o0 + o, none⟩)) w := by
  obtain ⟨fs, f, hu, hf, ho, hs⟩ := fieldB_spec hF
  exact os_of fun a ha => by
    simp [execOp, ha.ev hx, Instr.fieldAt, run_underlying hu, hf, Instr.sureAddr, fieldPlace, hs, ho, addr_add]

/-- a field of one cell of a struct's value -/
theorem os_fld {cs : List Value} {i o : Nat} (hF : fieldB P T i = some (o, 1)) (hA : ∀ fs f, P.underlying T = some (.struct fs) → fs[i]? = some f → ∀ w, (isAgg f.type).run P w = .ok false w) (hx : Fr.ev fr x = some (.agg cs.toArray)) (hv : nthV cs o = some v) : OS P n (.field T x i) ty fr w v w := by
  obtain ⟨fs, f, hu, hf, ho, hs⟩ := fieldB_spec hF
  rw [nthV_eq] at hv
  exact os_of fun a ha => by
    simp [execOp, ha.ev hx, Instr.field, run_underlying hu, hf, asAgg, part, hA fs f hu hf, ho, hv]

/-- a whole struct or array is read -/
theorem os_loadB {g : Nat} {cs : List Value} {t : TypeId} {d : TypeDesc} (hu : P.underlying T = some d) (hd : (match d with | .struct _ | .array _ _ => true | _ => false) = true) (hs : (P.info? T).map (·.size) = some cs.length) (hx : Fr.ev fr x = some (.pointer (some ⟨g, 0, none⟩))) (hg : Bk w g cs t) :
    OS P n (.load T x) ty fr w (.agg cs.toArray) w := os_of fun a ha => by
  have := run_loadVar_row (P := P) w g t T cs.toArray (0, 0) d hg hu hd (by simpa using hs)
  simp [execOp, ha.ev hx, Instr.loadAt, Instr.sureAddr, this]
/-- a whole struct or array is written -/
theorem ou_storeB {g : Nat} {cs ds : List Value} {t : TypeId} (hs : (P.info? T).map (·.size) = some ds.length) (hx : Fr.ev fr x = some (.pointer (some ⟨g, 0, none⟩))) (hy : Fr.ev fr y = some (.agg ds.toArray)) (hg : Bk w g cs t) (hl : cs.length = ds.length) (h1 : oneCells ds = true) :
    OU P n (.store T x y) ty fr w (w.setRow g ds.toArray) := by
  have h2 : ds.toArray.all (·.oneCell') = true := by
    have : ∀ l : List Value, oneCells l = true → l.all (·.oneCell') = true := by
      intro l
      induction l with
      | nil => intro _; rfl
      | cons v r ih => intro h; simp only [oneCells, Bool.and_eq_true] at h; simp [h.1]; simpa using ih h.2
    simpa using this ds h1
  have := run_storeVar_row (P := P) w g t T cs.toArray ds.toArray hg (by simpa using hs) (by simpa using hl) h2
  unfold OU
  intro a ha
  simp [execOp, ha.ev hx, ha.ev hy, Instr.storeAt, Instr.sureAddr, this]

def evN (fr : Fr) : List (Nat × Operand) → Option (List (Nat × Value))
  | [] => some []
  | (i, x) :: r => match Fr.ev fr x with
    | some v => match evN fr r with
      | some vs => some ((i, v) :: vs)
      | none => none
    | none => none
theorem Ag.evN {n : Cx} {fr : Fr} {a : Act} (h : Ag n fr a) : ∀ {xs : List (Nat × Operand)} {vs : List (Nat × Value)}, evN fr xs = some vs → xs.map (fun p => (p.1, a.eval p.2)) = vs
  | [], vs, hx => by simp [Ytpjmiafefammkaa.evN] at hx; subst hx; rfl
  | (i, x) :: r, vs, hx => by
    simp only [Ytpjmiafefammkaa.evN] at hx
    cases h1 : Fr.ev fr x with
    | none => simp [h1] at hx
    | some v =>
      cases h2 : Ytpjmiafefammkaa.evN fr r with
      | none => simp [h1, h2] at hx
      | some us =>
        simp [h1, h2] at hx
        subst hx
        simp [h.ev h1, h.evN h2]
/-- T{..} -/
theorem os_build {ps : List (Nat × Operand)} {vs : List (Nat × Value)} {cs : List Value} (hx : evN fr ps = some vs) (hb : P.built T vs = some cs.toArray) : OS P n (.build T ps.toArray) ty fr w (.agg cs.toArray) w := os_of fun a ha => by
  have h1 := ha.evN hx
  have h2 := run_build (P := P) w T (ps.map (fun p => (p.1, a.eval p.2))).toArray cs.toArray (by rw [h1]; simpa using hb)
  have h3 : (execOp a.eval ⟨none, .build T ps.toArray, ty, "", #[], none⟩) = (do pure (.value (← Instr.build T (ps.map (fun p => (p.1, a.eval p.2))).toArray))) := by
    simp [execOp]
  rw [h3]
  simp [h2]
end
end Go.Proofs.Ytpjmiafefammkaa

/- Rows of the table of types. -/
namespace Go.Proofs.Ytpjmiafefammkaa
theorem ti_int : TyInfo Try.prog 3 (.int .i64 0) 1 8 := by unfold TyInfo; kernel_rfl
theorem ti_u8 : TyInfo Try.prog 5 (.int .u8 0) 1 1 := by unfold TyInfo; kernel_rfl
end Go.Proofs.Ytpjmiafefammkaa

/- Lists of integers that a call makes: what it owns, and how that reads. -/
namespace Go.Proofs.Ytpjmiafefammkaa
open Go.RowKit

theorem info_int : (Try.prog.info? 3).map (fun i => (i.zero, i.size, i.bytes)) = some (some (.int .i64 0), 1, 8) := by kernel_rfl
theorem info_u8 : (Try.prog.info? 5).map (fun i => (i.zero, i.size, i.bytes)) = some (some (.int .u8 0), 1, 1) := by kernel_rfl

def OwnI (w : World) (B : Nat) (v : Value) (zs : List Int) : Prop := w.ownsRow B 3 1 v zs.length (zs.map (Value.int .i64))

theorem OwnI.nil (w : World) (B : Nat) : OwnI w B (.slice none 0 0) [] := World.ownsRow_nil w B _ 1

theorem OwnI.form {w B v zs} (h : OwnI w B v zs) : ∃ A c, v = .slice A zs.length c ∧ zs.length ≤ c ∧ c ≤ maxLen ∧ Rd w .i64 A zs ∧ (∀ b off, A = some ⟨b, off, none⟩ → B ≤ b ∧ off = 0 ∧ b < w.heap.size) := by
  rcases h.2 with ⟨rfl, h0⟩ | ⟨g, cap, cur, rfl, hB, hg, hn, hm, hs, ht⟩
  · rw [h0]
    exact ⟨none, 0, rfl, Nat.le_refl _, by simp [maxLen], fun hl => absurd hl (by omega), fun b off hh => by cases hh⟩
  · refine ⟨_, cap, rfl, hn, hm, fun _ => ⟨g, 0, rfl, fun i hi => ?_⟩, ?_⟩
    · have hc := World.ownsRow.cells (g := g) h rfl i (.int .i64 (zs.getD i 0)) (by simp [hi])
      have e : (⟨g, 0, none⟩ : Addr).add i = ⟨g, 0 + i, none⟩ := by unfold Addr.add; split <;> simp_all
      rw [← e]; exact hc
    · intro b off hh
      cases hh
      exact ⟨hB, rfl, (Array.getElem?_eq_some_iff.1 hg).1⟩

theorem OwnI.keep {w w' B v zs} (h : OwnI w B v zs) {B' : Nat} (hb : Below B' w w') (hB : ∀ g, v.ownBlock = some g → g < B') : OwnI w' B v zs := by
  refine ⟨h.1, ?_⟩
  rcases h.2 with hn | ⟨g, cap, cur, rfl, hB0, hg, rest⟩
  · exact .inl hn
  · refine .inr ⟨g, cap, cur, rfl, hB0, ?_, rest⟩
    rw [hb.block g (hB g rfl)]; exact hg

theorem OwnI.keepAll {w w' B v zs} (h : OwnI w B v zs) (hb : Below w.heap.size w w') : OwnI w' B v zs :=
  h.keep hb fun g hg => (World.ownsRow.lt h g hg).2

theorem OwnI.mono {w B B' v zs} (h : OwnI w B v zs) (hB : B' ≤ B) : OwnI w B' v zs := by
  refine ⟨h.1, ?_⟩
  rcases h.2 with hn | ⟨g, cap, cur, rfl, hB0, hg, rest⟩
  · exact .inl hn
  · exact .inr ⟨g, cap, cur, rfl, by omega, hg, rest⟩

/-- a list of the call's own that is not empty: its row -/
theorem OwnI.row {w B v zs} (h : OwnI w B v zs) {n : Nat} (hn : n = zs.length) (h0 : 0 < n) :
    ∃ g c1, v = .slice (some ⟨g, 0, none⟩) n c1 ∧ B ≤ g ∧ g < w.heap.size ∧ n ≤ c1 ∧ w.ownsRow B 3 1 (.slice (some ⟨g, 0, none⟩) n c1) n (zs.map (Value.int .i64)) := by
  subst hn
  rcases h.2 with ⟨rfl, h1⟩ | ⟨g, cap, cur, rfl, hB, hg, hn, hm, hs, ht⟩
  · omega
  · exact ⟨g, cap, rfl, hB, (Array.getElem?_eq_some_iff.1 hg).1, hn, h⟩

/-- an own row while another block is written -/
theorem ownsRow_setCell_other {w : World} {B : Nat} {e : TypeId} {g n c : Nat} {xs : List Value} (h : w.ownsRow B e 1 (.slice (some ⟨g, 0, none⟩) n c) n xs) {a : Addr} (ha : a.block ≠ g) (u : Value) :
    (w.setCell a u).ownsRow B e 1 (.slice (some ⟨g, 0, none⟩) n c) n xs := by
  refine ⟨h.1, ?_⟩
  rcases h.2 with ⟨h1, _⟩ | ⟨g', cap, cur, h1, hB, hg, r⟩
  · simp at h1
  · simp only [Value.slice.injEq, Option.some.injEq, Addr.mk.injEq, and_true, true_and] at h1
    obtain ⟨rfl, rfl⟩ := h1
    exact .inr ⟨g, c, cur, rfl, hB, by rw [Below.heap_setCell _ _ _ _ (fun e => ha e.symm)]; exact hg, r⟩

/-- an own row abides the turn of a block that is no cells -/
theorem own_turned {W W' : World} {B : Nat} {e : TypeId} {v : Value} {n : Nat} {xs : List Value} {row : Option Nat} (h : W.ownsRow B e 1 v n xs) (hg : W.grownBy W' row)
    (hr : ∀ r, row = some r → ∃ o : Obj, W.heap[r]? = some o ∧ o.isCells = false) : W'.ownsRow B e 1 v n xs := by
  refine h.kept hg ?_
  cases hv : v.ownBlock with
  | none => exact .inl rfl
  | some g =>
    refine .inr fun he => ?_
    obtain ⟨o, ho, hc⟩ := hr g he.symm
    rcases h.2 with ⟨rfl, _⟩ | ⟨g', cap, cur, rfl, _, hgg, _⟩
    · simp [Value.ownBlock] at hv
    · simp [Value.ownBlock] at hv
      subst hv
      rw [hgg] at ho; cases ho; simp [Obj.isCells] at hc
end Go.Proofs.Ytpjmiafefammkaa

/- Layer 23, the plain laws: parts of 65536, shares, blends, rows, tails: what the document says, as functions on integers and lists. No program in sight. -/
namespace Go.Proofs.Ytpjmiafefammkaa

def isB (n : Int) : Bool := decide (0 ≤ n ∧ n ≤ 65536)
def shareOk (a b : Int) : Bool := decide (0 < b ∧ b ≤ 2147483647 ∧ 0 ≤ a ∧ a ≤ b)
def shareV (a b : Int) : Int := if shareOk a b then a * 65536 / b else 0
def argE (ok : Bool) : Int := if ok then 0 else 2
def blendW (h x : Int) : Int := h + (x - h) / 8
def blendOk (h x : Int) : Bool := isB h && isB x
def blendV (h x : Int) : Int := if blendOk h x then blendW h x else 0

theorem isB_yes {n : Int} (h : 0 ≤ n) (h' : n ≤ 65536) : isB n = true := by simp [isB]; omega
theorem isB_no {n : Int} (h : n < 0 ∨ 65536 < n) : isB n = false := by simp [isB]; omega
theorem isB_iff {n : Int} : isB n = true ↔ 0 ≤ n ∧ n ≤ 65536 := by simp [isB]
theorem isB_iff' {n : Int} : isB n = false ↔ n < 0 ∨ 65536 < n := by simp [isB]; omega

theorem tdiv8 (n : Int) : n.tdiv 8 = if 0 ≤ n then n / 8 else -((-n) / 8) := by
  split
  · exact Int.tdiv_eq_ediv_of_nonneg (by omega)
  · have h : n = -(-n) := by omega
    rw [h, Int.neg_tdiv, Int.tdiv_eq_ediv_of_nonneg (by omega), ← h]
theorem tmod8 (n : Int) : n.tmod 8 = if 0 ≤ n then n % 8 else -((-n) % 8) := by
  split
  · exact Int.tmod_eq_emod_of_nonneg (by omega)
  · have h : n = -(-n) := by omega
    rw [h, Int.neg_tmod, Int.tmod_eq_emod_of_nonneg (by omega), ← h]
theorem down_lo {n : Int} (h1 : -65536 ≤ n) (h2 : n ≤ 65536) (h : n.tmod 8 < 0) : RowKit.wrap64 (n.tdiv 8 - 1) = n / 8 := by
  rw [tmod8] at h
  rw [tdiv8]
  have hb : (if 0 ≤ n then n / 8 else -((-n) / 8)) - 1 = n / 8 := by split at h <;> split <;> omega
  rw [hb]
  exact IntWalk.wrap64_in _ (by omega)
theorem down_hi {n : Int} (h : 0 ≤ n.tmod 8) : n.tdiv 8 = n / 8 := by
  rw [tmod8] at h
  rw [tdiv8]
  split at h <;> split <;> omega

theorem blendW_bd {h x : Int} (h1 : 0 ≤ h) (h2 : h ≤ 65536) (h3 : 0 ≤ x) (h4 : x ≤ 65536) : 0 ≤ blendW h x ∧ blendW h x ≤ 65536 := by unfold blendW; omega
end Go.Proofs.Ytpjmiafefammkaa

/- From the form's reading of an argument to the words that the walks take. -/
namespace Go.Proofs.Ytpjmiafefammkaa
open Go.RowKit

/-- the range of Go's int -/
def I64 (n : Int) : Prop := -9223372036854775808 ≤ n ∧ n ≤ 9223372036854775807

theorem i64_of_wf {n : Int} (h : (Lit.int .i64 n).wf = true) : I64 n := by
  simp [Lit.wf, IntKind.min, IntKind.max, IntKind.signed, IntKind.bits] at h
  exact ⟨by omega, by omega⟩
theorem u8_of_wf {n : Int} (h : (Lit.int .u8 n).wf = true) : 0 ≤ n ∧ n ≤ 255 := by
  simp [Lit.wf, IntKind.min, IntKind.max, IntKind.signed, IntKind.bits] at h
  exact ⟨by omega, by omega⟩
theorem u32_of_wf {n : Int} (h : (Lit.int .u32 n).wf = true) : 0 ≤ n ∧ n ≤ 4294967295 := by
  simp [Lit.wf, IntKind.min, IntKind.max, IntKind.signed, IntKind.bits] at h
  exact ⟨by omega, by omega⟩

theorem rd_of_nil (W : World) (k : IntKind) (a : Option Addr) : ∃ zs, Rd W k a zs ∧ 0 = zs.length ∧ (0 : Nat) ≤ 9223372036854775807 ∧ (0 : Nat) ≤ 0 ∧ ∀ z ∈ zs, (Lit.int k z).wf = true :=
  ⟨[], Rd.nil, rfl, by decide, by decide, by simp⟩

theorem rd_of_ints (W : World) (k : IntKind) (x : Addr) (l c : Nat) (zs : List Int) (hl : l ≤ c) (hm : c ≤ maxLen) (hz : zs.length = c)
    (hcell : ∀ i, i < zs.length → W.cell? (x.add i) = some (.int k (zs.getD i 0))) (hwz : ∀ n ∈ zs, (Lit.int k n).wf = true) :
    ∃ ys, Rd W k (some x) ys ∧ l = ys.length ∧ l ≤ 9223372036854775807 ∧ l ≤ c ∧ ∀ z ∈ ys, (Lit.int k z).wf = true := by
  refine ⟨zs.take l, fun h => ?_, by rw [List.length_take, hz]; omega, by unfold maxLen at hm; omega, hl, fun z hz' => hwz z (List.mem_of_mem_take hz')⟩
  rw [List.length_take] at h
  obtain ⟨b, off, spot⟩ := x
  have hc := hcell 0 (by omega)
  have hspot : spot = none := by simpa [Addr.add] using World.cell?_spot hc
  subst hspot
  refine ⟨b, off, rfl, fun i hi => ?_⟩
  rw [List.length_take] at hi
  have h1 := hcell i (by omega)
  have e : (⟨b, off, none⟩ : Addr).add i = ⟨b, off + i, none⟩ := by unfold Addr.add; split <;> simp_all
  rw [e] at h1
  rw [h1]
  have : zs.getD i 0 = (zs.take l).getD i 0 := by simp [List.getElem?_take, show i < l by omega]
  rw [this]
end Go.Proofs.Ytpjmiafefammkaa

/- Layer 23: the contracts of the program's functions on numbers, and of the document's. -/
namespace Go.Proofs.Ytpjmiafefammkaa
open Go.RowKit

set_option maxHeartbeats 400000 in
theorem fixed_Is (a : Int) (w : World) (h : I64 a) : Calls Try.prog 109 #[.int .i64 a] w fun e w' => e = .returned (.bool (isB a)) ∧ w = w' := by
  obtain ⟨h1, h2⟩ := h
  go_enter Try.func109, Try.ntmps109
  go_wp2_with (fail)
  all_goals go_ret
  all_goals refine ⟨ret_bool ?_, rfl⟩
  all_goals
    simp only [isB, IntKind.wrap_u64, decide_eq_decide]
    omega

set_option maxHeartbeats 400000 in
theorem ref23_Is (a : Int) (w : World) : Calls Try.prog 138 #[.int .i64 a] w fun e w' => e = .returned (.bool (isB a)) ∧ w = w' := by
  by_cases h0 : 0 ≤ a
  all_goals
    go_enter Try.func138, Try.ntmps138
    go_wp2_with (fail)
    go_ret
    refine ⟨ret_bool ?_, rfl⟩
    simp [isB]
    omega

set_option maxHeartbeats 400000 in
theorem fixed_Share (a b : Int) (w : World) (ha : I64 a) (hb : I64 b) :
    Calls Try.prog 71 #[.int .i64 a, .int .i64 b] w fun e w' => e = .returned (.tuple #[.int .i64 (shareV a b), .int .i64 (argE (shareOk a b))]) ∧ w = w' := by
  obtain ⟨h1, h2⟩ := ha
  obtain ⟨h3, h4⟩ := hb
  by_cases hok : shareOk a b = true
  · have hv : shareV a b = a * 65536 / b := by simp [shareV, hok]
    have he : argE (shareOk a b) = 0 := by simp [argE, hok]
    rw [hv, he]; clear hv he
    simp only [shareOk, decide_eq_true_eq] at hok
    obtain ⟨g1, g2, g3, g4⟩ := hok
    go_enter Try.func71, Try.ntmps71
    go_wp2_with (fail)
    go_ret2
    exact ⟨rfl, rfl⟩
  · have hv : shareV a b = 0 := by simp [shareV, hok]
    have he : argE (shareOk a b) = 2 := by simp [argE, hok]
    rw [hv, he]; clear hv he
    simp only [shareOk, decide_eq_true_eq] at hok
    by_cases hc : b ≤ 0 ∨ 2147483647 < b
    · clear hok
      rcases hc with hc | hc
      all_goals
        go_enter Try.func71, Try.ntmps71
        go_wp2_with (fail)
        go_ret2
        exact ⟨rfl, rfl⟩
    · have hb1 : 0 < b := by omega
      have hb2 : b ≤ 2147483647 := by omega
      have hd : (b : Int) < IntKind.u64.wrap a := by simp only [IntKind.wrap_u64]; omega
      clear hok hc
      go_enter Try.func71, Try.ntmps71
      go_wp2_with (fail)
      go_ret2
      exact ⟨rfl, rfl⟩

set_option maxHeartbeats 400000 in
theorem ref23_Share (a b : Int) (w : World) (ha : I64 a) (hb : I64 b) :
    Calls Try.prog 106 #[.int .i64 a, .int .i64 b] w fun e w' => e = .returned (.tuple #[.int .i64 (shareV a b), .int .i64 (argE (shareOk a b))]) ∧ w = w' := by
  obtain ⟨h1, h2⟩ := ha
  obtain ⟨h3, h4⟩ := hb
  by_cases hok : shareOk a b = true
  · have hv : shareV a b = a * 65536 / b := by simp [shareV, hok]
    have he : argE (shareOk a b) = 0 := by simp [argE, hok]
    rw [hv, he]; clear hv he
    simp only [shareOk, decide_eq_true_eq] at hok
    obtain ⟨g1, g2, g3, g4⟩ := hok
    go_enter Try.func106, Try.ntmps106
    go_wp2_with (fail)
    go_ret2
    exact ⟨rfl, rfl⟩
  · have hv : shareV a b = 0 := by simp [shareV, hok]
    have he : argE (shareOk a b) = 2 := by simp [argE, hok]
    rw [hv, he]; clear hv he
    simp only [shareOk, decide_eq_true_eq] at hok
    have hc : b < 1 ∨ (1 ≤ b ∧ 2147483647 < b) ∨ (1 ≤ b ∧ b ≤ 2147483647 ∧ a < 0) ∨ (1 ≤ b ∧ b ≤ 2147483647 ∧ 0 ≤ a ∧ b < a) := by omega
    clear hok
    rcases hc with hc | ⟨hc, h5⟩ | ⟨hc, h5, h6⟩ | ⟨hc, h5, h6, h7⟩
    all_goals
      go_enter Try.func106, Try.ntmps106
      go_wp2_with (fail)
      go_ret2
      exact ⟨rfl, rfl⟩

set_option maxHeartbeats 400000 in
theorem fixed_blend (h x : Int) (w : World) (hh : 0 ≤ h) (hh' : h ≤ 65536) (hx : 0 ≤ x) (hx' : x ≤ 65536) :
    Calls Try.prog 70 #[.int .i64 h, .int .i64 x] w fun e w' => e = .returned (.int .i64 (blendW h x)) ∧ w = w' := by
  go_enter Try.func70, Try.ntmps70
  go_wp2_with (fail)
  go_ret
  exact ⟨rfl, rfl⟩

set_option maxHeartbeats 400000 in
theorem ref23_Down (n : Int) (w : World) (hh : -65536 ≤ n) (hh' : n ≤ 65536) :
    Calls Try.prog 139 #[.int .i64 n, .int .i64 8] w fun e w' => e = .returned (.int .i64 (n / 8)) ∧ w = w' := by
  go_enter Try.func139, Try.ntmps139
  go_wp2_with (fail)
  · go_ret
    exact ⟨ret_int (down_lo hh hh' (by assumption)), rfl⟩
  · go_ret
    exact ⟨ret_int (down_hi (by assumption)), rfl⟩

set_option maxHeartbeats 400000 in
theorem ref23_Blend (h x : Int) (w : World) :
    Calls Try.prog 105 #[.int .i64 h, .int .i64 x] w fun e w' => e = .returned (.tuple #[.int .i64 (blendV h x), .int .i64 (argE (blendOk h x))]) ∧ w = w' := by
  cases c1 : isB h
  · have hv : blendV h x = 0 := by simp [blendV, blendOk, c1]
    have he : argE (blendOk h x) = 2 := by simp [blendOk, c1, argE]
    rw [hv, he]; clear hv he
    have H1 := Lib.hid c1; clear c1
    go_enter Try.func105, Try.ntmps105
    go_wp2_with (fail)
    refine (ref23_Is h _).mono ?_
    rintro e w' ⟨rfl, rfl⟩
    rw [H1.out]
    go_wp2_with (fail)
    go_ret2
    exact ⟨rfl, rfl⟩
  · cases c2 : isB x
    · have hv : blendV h x = 0 := by simp [blendV, blendOk, c1, c2]
      have he : argE (blendOk h x) = 2 := by simp [blendOk, c1, c2, argE]
      rw [hv, he]; clear hv he
      have H1 := Lib.hid c1; have H2 := Lib.hid c2; clear c1 c2
      go_enter Try.func105, Try.ntmps105
      go_wp2_with (fail)
      refine (ref23_Is h _).mono ?_
      rintro e w' ⟨rfl, rfl⟩
      rw [H1.out]
      go_wp2_with (fail)
      refine (ref23_Is x _).mono ?_
      rintro e w' ⟨rfl, rfl⟩
      rw [H2.out]
      go_wp2_with (fail)
      go_ret2
      exact ⟨rfl, rfl⟩
    · have hv : blendV h x = h + (x - h) / 8 := by simp [blendV, blendOk, c1, c2, blendW]
      have he : argE (blendOk h x) = 0 := by simp [blendOk, c1, c2, argE]
      rw [hv, he]; clear hv he
      have H1 := Lib.hid c1; have H2 := Lib.hid c2; clear c1 c2
      go_enter Try.func105, Try.ntmps105
      go_wp2_with (fail)
      refine (ref23_Is h _).mono ?_
      rintro e w' ⟨rfl, rfl⟩
      rw [H1.out]
      go_wp2_with (fail)
      refine (ref23_Is x _).mono ?_
      rintro e w' ⟨rfl, rfl⟩
      rw [H2.out]
      have b1 := isB_iff.1 H1.out
      have b2 := isB_iff.1 H2.out
      obtain ⟨b3, b4⟩ := b1
      obtain ⟨b5, b6⟩ := b2
      go_wp2_with (fail)
      refine (ref23_Down _ _ (by omega) (by omega)).mono ?_
      rintro e w' ⟨rfl, rfl⟩
      go_wp2_with (fail)
      go_ret2
      exact ⟨rfl, rfl⟩
end Go.Proofs.Ytpjmiafefammkaa

/- Layer 23: rows: the closures, slices.IndexFunc and ContainsFunc, row, made. -/
namespace Go.Proofs.Ytpjmiafefammkaa
open Go.RowKit

set_option maxHeartbeats 400000 in
theorem fixed_row_fn (a : Int) (w : World) (h : I64 a) : Calls Try.prog 108 #[.int .i64 a] w fun e w' => e = .returned (.bool (!isB a)) ∧ w = w' := by
  have iH := Lib.hid h; clear h
  go_enter Try.func108, Try.ntmps108
  go_wp2_with (fail)
  refine (fixed_Is a _ iH.out).mono ?_
  rintro e w' ⟨rfl, rfl⟩
  go_wp2_with (fail)
  go_ret
  exact ⟨rfl, rfl⟩

/-- the place of the first number that p takes, else -1 -/
def idxF (p : Int → Bool) (zs : List Int) : Int := if zs.any p then ((zs.findIdx p : Nat) : Int) else -1

theorem idxF_ge {p : Int → Bool} {zs : List Int} : decide ((0 : Int) ≤ idxF p zs) = zs.any p := by
  unfold idxF; split <;> simp_all

theorem idxF_hit {p : Int → Bool} {zs : List Int} {k n : Nat} (hn : n = zs.length) (hk : k < n) (h : (zs.take k).any p = false) (hp : p (zs.getD k 0) = true) : idxF p zs = k := by
  have hk' : k < zs.length := by omega
  have hany : zs.any p = true := by
    rw [List.any_eq_true]
    exact ⟨zs[k], List.getElem_mem _, by simpa [hk'] using hp⟩
  unfold idxF
  rw [if_pos hany]
  congr 1
  rw [List.findIdx_eq hk']
  refine ⟨by simpa [hk'] using hp, fun j hj => ?_⟩
  rw [List.any_eq_false] at h
  have := h (zs[j]'(by omega)) (by rw [List.mem_take_iff_getElem]; exact ⟨j, by omega, rfl⟩)
  simpa using this

theorem any_take_succ {p : Int → Bool} {zs : List Int} {k n : Nat} (hn : n = zs.length) (hk : k < n) (h : (zs.take k).any p = false) (hp : p (zs.getD k 0) = false) : (zs.take (k + 1)).any p = false := by
  have hk' : k < zs.length := by omega
  rw [List.take_succ_eq_append_getElem hk', List.any_append, h]
  have : p zs[k] = false := by simpa [hk'] using hp
  simp [this]

theorem idxF_none {p : Int → Bool} {zs : List Int} {n : Nat} (hn : n = zs.length) (h : (zs.take n).any p = false) : idxF p zs = -1 := by
  rw [hn, List.take_length] at h
  unfold idxF
  rw [if_neg (by simp [h])]

set_option maxHeartbeats 400000 in
theorem indexFunc_ints (A : Option Addr) (n c : Nat) (zs : List Int) (f : FuncId) (cap : Array Value) (p : Int → Bool) (w : World) (hent : Enters Try.prog f) (ha : Rd w .i64 A zs) (hn : n = zs.length) (hn' : n ≤ 9223372036854775807)
    (hcall : ∀ k q, k < zs.length → Calls Try.prog f (#[.int .i64 (zs.getD k 0)] ++ cap) (w.drewN q) fun e w' => e = .returned (.bool (p (zs.getD k 0))) ∧ ∃ q', w' = w.drewN q') :
    Calls Try.prog 140 #[.slice A n c, .func (.func f) #[] cap] w fun e w' => e = .returned (.int .i64 (idxF p zs)) ∧ ∃ q, w' = w.drewN q := by
  have H1 := Lib.hid hn; have HC := Lib.hid hcall; clear hn hcall
  have hentr : ∀ (args : Array Value) (w : World), (callFunc f args).run Try.prog w = .ok (.enter f args) w := hent
  go_enter Try.func140, Try.ntmps140
  go_wp2_with (fail)
  go_loopw [8] (fun i wr => ∃ k : Nat, k ≤ n ∧ i = .int .i64 k ∧ (zs.take k).any p = false ∧ ∃ q, wr = w.drewN q) (fun i wr => n - (intOf i).toNat)
  case atStart => exact ⟨0, by omega, rfl, rfl, 0, rfl⟩
  case round =>
    obtain ⟨k, hk, rfl, htk, q, rfl⟩ := hrel
    have Htk := Lib.hid htk; clear htk
    by_cases hlt : k < n
    · obtain ⟨b1, o1, rfl, hc1⟩ := ha.at_ (i := k) (by rw [← H1.out]; exact hlt)
      cases hp : p (zs.getD k 0)
      · have HP := Lib.hid hp; clear hp
        go_wp2_with (fail)
        refine (HC.out k q (by rw [← H1.out]; exact hlt)).mono ?_
        rintro e w' ⟨rfl, q', rfl⟩
        rw [HP.out]
        go_wp2_with (fail)
        go_roundw
        case rel => exact ⟨k + 1, by omega, by go_num, any_take_succ H1.out hlt Htk.out HP.out, _, rfl⟩
        case measure => simp [intOf]; omega
      · have HP := Lib.hid hp; clear hp
        go_wp2_with (fail)
        refine (HC.out k q (by rw [← H1.out]; exact hlt)).mono ?_
        rintro e w' ⟨rfl, q', rfl⟩
        rw [HP.out]
        go_wp2_with (fail)
        go_ret
        exact ⟨ret_int (idxF_hit H1.out hlt Htk.out HP.out).symm, _, rfl⟩
    · obtain rfl : k = n := by omega
      go_wp2_with (fail)
      go_ret
      exact ⟨ret_int (idxF_none H1.out Htk.out).symm, _, rfl⟩

set_option maxHeartbeats 400000 in
theorem containsFunc_ints (A : Option Addr) (n c : Nat) (zs : List Int) (f : FuncId) (cap : Array Value) (p : Int → Bool) (w : World) (hent : Enters Try.prog f) (ha : Rd w .i64 A zs) (hn : n = zs.length) (hn' : n ≤ 9223372036854775807)
    (hcall : ∀ k q, k < zs.length → Calls Try.prog f (#[.int .i64 (zs.getD k 0)] ++ cap) (w.drewN q) fun e w' => e = .returned (.bool (p (zs.getD k 0))) ∧ ∃ q', w' = w.drewN q') :
    Calls Try.prog 110 #[.slice A n c, .func (.func f) #[] cap] w fun e w' => e = .returned (.bool (zs.any p)) ∧ ∃ q, w' = w.drewN q := by
  have H1 := Lib.hid hn; have HC := Lib.hid hcall; clear hn hcall
  rw [← idxF_ge]
  go_enter Try.func110, Try.ntmps110
  go_wp2_with (fail)
  refine (indexFunc_ints A n c zs f cap p _ hent ha H1.out hn' HC.out).mono ?_
  rintro e w' ⟨rfl, q, rfl⟩
  go_wp2_with (fail)
  go_ret
  exact ⟨rfl, _, rfl⟩

theorem enters_row_fn : Enters Try.prog 108 := enters_of Try.func108 (by kernel_rfl) rfl

/-- every number of the list fits Go's int -/
def AllI (zs : List Int) : Prop := ∀ z ∈ zs, I64 z
theorem AllI.at_ {zs : List Int} (h : AllI zs) (k : Nat) : I64 (zs.getD k 0) := by
  by_cases hk : k < zs.length
  · simp [hk]; exact h _ (List.getElem_mem _)
  · simp [hk]; exact ⟨by decide, by decide⟩

def rowB (zs : List Int) : Bool := decide (0 < zs.length) && decide (zs.length ≤ 256) && !(zs.any fun n => !isB n)

set_option maxHeartbeats 400000 in
theorem fixed_row (A : Option Addr) (n c : Nat) (zs : List Int) (w : World) (ha : Rd w .i64 A zs) (hn : n = zs.length) (hn' : n ≤ 9223372036854775807) (hi : AllI zs) :
    Calls Try.prog 67 #[.slice A n c] w fun e w' => e = .returned (.bool (rowB zs)) ∧ ∃ q, w' = w.drewN q := by
  have hi' := Lib.hid hi; clear hi
  by_cases h0 : 0 < n
  · by_cases h1 : n ≤ 256
    · have hv : rowB zs = !(zs.any fun n => !isB n) := by simp only [rowB, ← hn]; simp [h0, h1]
      rw [hv]; clear hv
      have H1 := Lib.hid hn; clear hn
      go_enter Try.func67, Try.ntmps67
      go_wp2_with (fail)
      refine (containsFunc_ints A n c zs _ #[] (fun n => !isB n) _ enters_row_fn ha H1.out hn' fun k q _ => ((fixed_row_fn _ _ (hi'.out.at_ k)).mono fun e w' h => ⟨h.1, q, h.2.symm⟩)).mono ?_
      rintro e w' ⟨rfl, q, rfl⟩
      go_wp2_with (fail)
      go_ret
      exact ⟨rfl, _, rfl⟩
    · have hv : rowB zs = false := by simp only [rowB, ← hn]; simp [h0, h1]
      rw [hv]; clear hv
      have H1 := Lib.hid hn; clear hn
      go_enter Try.func67, Try.ntmps67
      go_wp2_with (fail)
      go_ret
      exact ⟨rfl, 0, rfl⟩
  · have hv : rowB zs = false := by simp only [rowB, ← hn]; simp [h0]
    rw [hv]; clear hv
    have H1 := Lib.hid hn; clear hn
    go_enter Try.func67, Try.ntmps67
    go_wp2_with (fail)
    go_ret
    exact ⟨rfl, 0, rfl⟩
end Go.Proofs.Ytpjmiafefammkaa

/- Layer 23: made (a row out of another one), Fold. -/
namespace Go.Proofs.Ytpjmiafefammkaa
open Go.RowKit

/-- what stands after k places: g of each place and number -/
def mapK (g : Nat → Int → Int) (zs : List Int) : List Int := zs.mapIdx g

theorem mapK_take_succ {g : Nat → Int → Int} {zs : List Int} {k n : Nat} (hn : n = zs.length) (hk : k < n) : mapK g (zs.take (k + 1)) = mapK g (zs.take k) ++ [g k (zs.getD k 0)] := by
  have hk' : k < zs.length := by omega
  unfold mapK
  rw [List.take_succ_eq_append_getElem hk', List.mapIdx_append]
  simp [hk', Nat.min_eq_left (Nat.le_of_lt hk')]

theorem mapK_length {g zs} : (mapK g zs).length = zs.length := by simp [mapK]

set_option maxHeartbeats 1000000 in
theorem fixed_made (A : Option Addr) (n c : Nat) (zs : List Int) (f : FuncId) (cap : Array Value) (g : Nat → Int → Int) (w : World) (hent : Enters Try.prog f) (ha : Rd w .i64 A zs) (hn : n = zs.length)
    (hn' : n * 8 ≤ 140737488351232)
    (hcall : ∀ k wx, k < zs.length → Below w.heap.size w wx → Calls Try.prog f (#[.int .i64 k, .int .i64 (zs.getD k 0)] ++ cap) wx fun e w' => e = .returned (.int .i64 (g k (zs.getD k 0))) ∧ ∃ q', w' = wx.drewN q') :
    Calls Try.prog 68 #[.slice A n c, .func (.func f) #[] cap] w fun e w' => ∃ v, e = .returned v ∧ OwnI w' w.heap.size v (mapK g zs) ∧ Below w.heap.size w w' := by
  have H1 := Lib.hid hn; have HC := Lib.hid hcall; clear hn hcall
  have hentr : ∀ (args : Array Value) (w : World), (callFunc f args).run Try.prog w = .ok (.enter f args) w := hent
  obtain ⟨i0, hi, hz0, hz1, hz2⟩ := info_parts info_int
  have HI := Lib.hid hi; have HZ0 := Lib.hid hz0; have HZ1 := Lib.hid hz1; have HZ2 := Lib.hid hz2
  clear hi hz0 hz1 hz2
  go_enter Try.func68, Try.ntmps68
  go_wp2_with (at_make; refine wpList_make_own _ rfl (.const (.int .i64 0)) (.tmp 9) 40 rfl w.heap.size 3 i0 (.int .i64 0) 1 Try.underlying40 HI.out HZ0.out HZ1.out .i64 .i64 n n rfl rfl rfl (by rw [HZ2.out]; omega) (by unfold maxLen; omega) (by simp) ?_)
  intro w1 hown hgrow
  have hb1 : Below w.heap.size w w1 := (Below.refl _ w).grown hgrow (Nat.le_refl _) (fun k hk => by cases hk)
  go_wp2_with (fail)
  go_loopw [5, 13] (fun v i wr => ∃ k : Nat, k ≤ n ∧ i = .int .i64 k ∧ OwnI wr w.heap.size v (mapK g (zs.take k)) ∧ Below w.heap.size w wr) (fun _ i wr => n - (intOf i).toNat)
  case atStart => exact ⟨0, by omega, rfl, by simpa [OwnI, mapK] using hown, hb1⟩
  case round =>
    obtain ⟨k, hk, rfl, hown1, hb⟩ := hrel
    clear hown hgrow hb1
    by_cases hlt : k < n
    · obtain ⟨b1, o1, rfl, hc1⟩ := (ha.keep hb).at_ (i := k) (by rw [← H1.out]; exact hlt)
      have hll : (mapK g (zs.take k)).length = k := by rw [mapK_length, List.length_take, ← H1.out]; omega
      have HL := Lib.hid hll; clear hll
      have hsz := hb.size
      go_wp2_with (fail)
      refine (HC.out k _ (by rw [← H1.out]; exact hlt) hb).mono ?_
      rintro e w' ⟨rfl, q', rfl⟩
      go_wp2_with (at_builtin; refine wpl_append1 rfl (.tmp 18) (.tmp 23) 40 rfl w.heap.size 3 (.int .i64 0) 8 Try.underlying40 info_int rfl _ _ _ rfl ((ownsRow_drewN hown1 q').alloc _) wr.heap.size 1 (.int .i64 (g k (zs.getD k 0))) rfl ?_ rfl ?_ ?_ ?_ ?_)
      case refine_1 => exact cell_one_drewN _ _ _ _
      case refine_2 => rw [HL.out]; omega
      case refine_3 => rw [HL.out]; unfold maxLen; omega
      case refine_4 => simp; omega
      intro v2 w2 hown2 hgrow2
      have hb2 : Below w.heap.size w w2 := below_grown_own ((below_drewN_ hb q').alloc (by simpa using hsz) _) ((ownsRow_drewN hown1 q').alloc _) hgrow2 (by simp; omega)
      clear hb hown1 hgrow2
      go_wp2_with (fail)
      go_roundw
      case rel => exact ⟨k + 1, by omega, by go_num, by rw [mapK_take_succ H1.out hlt]; simpa [OwnI] using hown2, hb2⟩
      case measure => simp [intOf]; omega
    · obtain rfl : k = n := by omega
      go_wp2_with (fail)
      go_ret
      refine ⟨_, rfl, ?_, hb⟩
      rw [H1.out, List.take_length] at hown1
      exact hown1
end Go.Proofs.Ytpjmiafefammkaa
