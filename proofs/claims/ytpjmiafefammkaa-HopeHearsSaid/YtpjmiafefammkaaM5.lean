/- Texts joined: Fl V4 KitL. -/
import Derived.Test.YtpjmiafefammkaaM4
/- Rows that lie apart, each with marks of its own: what stays, what is owned while they are written over and grown. No program in sight. -/
namespace Go.Proofs.Ytpjmiafefammkaa
open Go.RowKit
set_option linter.unusedVariables false

/-- v' is v, longer, in the same row -/
def Ext (v v' : Value) : Prop := ∃ b n m c, v = .slice (some ⟨b, 0, none⟩) n c ∧ v' = .slice (some ⟨b, 0, none⟩) m c ∧ n ≤ m

section
variable {P : Program} {n : Cx} {fr : Fr} {w w' : World} {ty : TypeId} {x y z : Operand} {v u : Value} {T T2 e : TypeId} {op : Op}
/-- append(s, x...) of some: in the same row, or in a new one while all old rows stay -/
theorem ot_append_s {A : Option Addr} {m c : Nat} {cs news : List Value} {z0 : Value} {bytes : Nat} {B : Nat} (hT : P.underlying T = some (.slice e)) (hi : TyInfo P e z0 1 bytes) (hz : z0.cells.size = 1) (hx : Fr.ev fr x = some v) (hy : Fr.ev fr y = some (.slice A m c))
    (ho : Own w B e v cs) (hr : RdC w A news) (hm : m = news.length) (h1 : ∀ u ∈ news, u.oneCell' = true) (hb : (cs.length + m) * bytes ≤ 140737488355328) (hl : cs.length + m ≤ maxLen) (hB : B ≤ w.heap.size) (h0 : 0 < news.length) :
    OT P n (.call ⟨.builtin .append, #[x, y], #[T, T]⟩) ty fr w fun v' w' => Own w' B e v' (cs ++ news) ∧ w.grownBy w' v.ownBlock ∧ (Ext v v' ∨ (v'.ownBlock = some w.heap.size ∧ w.grownBy w' none)) := by
  obtain ⟨i, i1, i2, i3, i4⟩ := info_parts hi
  obtain ⟨b, o, rfl, hc⟩ := hr h0
  have hnews : ∀ j u, news[j]? = some u → w.cell? ((⟨b, o, none⟩ : Addr).add j) = some u := fun j u hu => by
    have hj := (List.getElem?_eq_some_iff.1 hu).1
    rw [addr_add, hc j hj]; exact hu
  obtain ⟨v', w', hrun, ho', hg, _, hown⟩ := run_append_own_at (P := P) w B T ty e i z0 1 bytes hT i1 i2 i3 i4 hz (by omega) v cs.length cs ho ⟨b, o, none⟩ m c news (by omega) hnews h1 hl hb hB
  have key : Ext v v' ∨ (v'.ownBlock = some w.heap.size ∧ w.grownBy w' none) := by
    have hl2 : cs.length + m ≤ 9223372036854775807 := by simp only [maxLen] at hl; omega
    rcases ho.2 with ⟨rfl, hn⟩ | ⟨g, cap, cur, rfl, hbg, hgg, hnc, hcm, hcs, htake⟩
    · have hr2 := run_append_nil (P := P) w T ty e i z0 hT i1 i2 ⟨b, o, none⟩ m c news (by rw [i3]; omega) hnews (by omega) (by omega) (by rw [i4]; rw [hn] at hb; simp only [Nat.zero_add] at hb; omega)
      rw [hr2] at hrun
      injection hrun with e1 e2
      subst e1; subst e2
      exact .inr ⟨rfl, ⟨rfl, rfl, rfl, by simp, fun k hk _ => heap_alloc_old w.drew _ hk⟩⟩
    · by_cases hroom : cs.length + m ≤ cap
      · have hr2 := run_append_room (P := P) w T ty e i hT i1 g cs.length cap cur hgg ⟨b, o, none⟩ m c news (by rw [i3]; omega) hnews h1 hroom (by rw [i3, hcs]; omega)
        rw [hr2] at hrun
        injection hrun with e1 e2
        subst e1; subst e2
        exact .inl ⟨g, _, _, cap, rfl, rfl, by omega⟩
      · have hr2 := run_append_grow (P := P) w T ty e i z0 hT i1 i2 ⟨g, 0, none⟩ cs.length cap cs (by rw [i3]; omega) (ho.cells (g := g) rfl) ⟨b, o, none⟩ m c news (by rw [i3]; omega) hnews (by omega) (by omega) (growslice_fits (by omega) (by rw [i4]; exact hb))
        rw [hr2] at hrun
        injection hrun with e1 e2
        subst e1; subst e2
        exact .inr ⟨rfl, ⟨rfl, rfl, rfl, by simp, fun k hk _ => heap_alloc_old w.drew _ hk⟩⟩
  refine ot_of fun a ha => ⟨v', w', by simp [execOp, resolve, invoke, builtin, ha.ev hx, ha.ev hy, hrun, Result.andThen], ?_, hg, key⟩
  unfold Own
  rw [List.length_append, ← hm]
  exact ho'
end

theorem Own.uniq {w B B' t v cs cs'} (h : Own w B t v cs) (h' : Own w B' t v cs') : cs = cs' := by
  rcases h.2 with ⟨rfl, h0⟩ | ⟨g, cap, cur, rfl, _, hg, _, _, _, ht⟩
  · rcases h'.2 with ⟨_, h0'⟩ | ⟨g', cap', cur', e, _⟩
    · rw [List.eq_nil_of_length_eq_zero h0, List.eq_nil_of_length_eq_zero h0']
    · cases e
  · rcases h'.2 with ⟨e, _⟩ | ⟨g', cap', cur', e, _, hg', _, _, _, ht'⟩
    · cases e
    · injection e with e1 e2 e3
      injection e1 with e1
      injection e1 with e1
      subst e1
      rw [hg] at hg'
      cases hg'
      rw [← ht, ← ht', e2]

/-- the rows of s and of g, of which the one has grown out of the other: in one row, or in two -/
def Rel (s g : Value) : Prop := Ext s g ∨ sep s g
theorem Rel.refl {w B t cs s} (h : Own w B t s cs) : Rel s s := by
  rcases h.2 with ⟨rfl, _⟩ | ⟨g, cap, cur, rfl, _⟩
  · exact .inr fun x hx => by cases hx
  · exact .inl ⟨g, _, _, cap, rfl, rfl, Nat.le_refl _⟩
theorem Ext.block {v v'} (h : Ext v v') : v'.ownBlock = v.ownBlock := by obtain ⟨b, n, m, c, rfl, rfl, _⟩ := h; rfl
theorem Rel.ext {s g g'} (h : Rel s g) (he : Ext g g') : Rel s g' := by
  rcases h with h | h
  · obtain ⟨b, n, m, c, rfl, rfl, hn⟩ := h
    obtain ⟨b', n', m', c', e, rfl, hn'⟩ := he
    cases e
    exact .inl ⟨b, n, _, c, rfl, rfl, by omega⟩
  · exact .inr fun x hx => by rw [he.block]; exact h x hx
/-- the elder stays owned, and what it holds -/
theorem Own.elder {w w' B t s g g' cs xs ys} (hs : Own w B t s cs) (hg : Own w B t g xs) (hr : Rel s g) (hgr : w.grownBy w' g.ownBlock) (hk : Ext g g' ∨ (g'.ownBlock = some w.heap.size ∧ w.grownBy w' none)) (hg' : Own w' B t g' (xs ++ ys)) : Own w' B t s cs ∧ Rel s g' := by
  rcases hk with he | ⟨he, hn⟩
  · refine ⟨?_, hr.ext he⟩
    rcases hr with h | h
    · obtain ⟨b, n, m, c, rfl, rfl, hn⟩ := h
      obtain ⟨b', n', m', c', e, rfl, hn'⟩ := he
      cases e
      have h1 := Own.cut hg hn
      have h2 := Own.uniq hs h1
      have h3 := Own.cut hg' (m := n) (by omega)
      have hl := hg.len
      rw [List.take_append_of_le_length (by omega), ← h2] at h3
      exact h3
    · exact Own.other hs hgr (sep.other h.symm)
  · refine ⟨Own.other hs hn (by cases s.ownBlock <;> simp), .inr fun x hx => ?_⟩
    rw [he]
    intro e; cases e
    have := (World.ownsRow.lt hs _ hx).2
    omega

/-! ### many rows -/
/-- the row of v bears the label j, and is one of S or a new one -/
def Lb (S : List Nat) (Z : Nat) (lab : Nat → Nat) (v : Value) (j : Nat) : Prop := ∀ b, v.ownBlock = some b → lab b = j ∧ (b ∈ S ∨ Z ≤ b)
structure Fl (w0 : World) (B : Nat) (t tt : TypeId) (S : List Nat) (A : Option Addr) (ss : List Value) (lab : Nat → Nat) (cc : Nat → List Value) (gv : Value) (gs : List Value) (x : Nat) (dd : Nat → List Value) (w : World) : Prop where
  kb : Kb S w0 w
  low : B ≤ w0.heap.size
  row : RdC w A ss
  led : ∀ b o, A = some ⟨b, o, none⟩ → lab b = ss.length + 1 ∧ b < w0.heap.size ∧ b ∉ S
  own : ∀ j v, ss[j]? = some v → Own w B t v (cc j) ∧ Lb S w0.heap.size lab v j
  gown : Own w B tt gv gs ∧ ∀ b, gv.ownBlock = some b → lab b = ss.length ∧ w0.heap.size ≤ b
  xle : x ≤ ss.length
  own2 : ∀ j v, j < x → gs[j]? = some v → Own w B t v (dd j) ∧ Lb S w0.heap.size lab v j

section
variable {w0 w w' : World} {B : Nat} {t tt : TypeId} {S : List Nat} {A : Option Addr} {ss gs : List Value} {lab : Nat → Nat} {cc dd : Nat → List Value} {gv : Value} {x : Nat}
theorem Lb.lt {Z v j} (h : Lb S Z lab v j) {b : Nat} (hb : v.ownBlock = some b) : lab b = j := (h b hb).1
theorem Lb.upd {Z v j cs} (h : Lb S Z lab v j) (ho : Own w B t v cs) {lab' : Nat → Nat} (hl : ∀ b, b < w.heap.size → lab' b = lab b) : Lb S Z lab' v j := fun b hb => by
  rw [hl b (World.ownsRow.lt ho b hb).2]; exact h b hb
theorem Fl.upd (h : Fl w0 B t tt S A ss lab cc gv gs x dd w) {lab' : Nat → Nat} (hl : ∀ b, b < w.heap.size → lab' b = lab b) : Fl w0 B t tt S A ss lab' cc gv gs x dd w :=
  ⟨h.kb, h.low, h.row, fun b o e => by
      have h1 := h.led b o e
      have h2 := h.kb.size
      rw [hl b (by omega)]; exact h1,
    fun j v hv => ⟨(h.own j v hv).1, (h.own j v hv).2.upd (h.own j v hv).1 hl⟩,
    ⟨h.gown.1, fun b hb => by rw [hl b (World.ownsRow.lt h.gown.1 b hb).2]; exact h.gown.2 b hb⟩, h.xle,
    fun j v hj hv => ⟨(h.own2 j v hj hv).1, (h.own2 j v hj hv).2.upd (h.own2 j v hj hv).1 hl⟩⟩
theorem RdC.kb {S : List Nat} {cs : List Value} (h : RdC w A cs) (hb : Kb S w w') (hA : ∀ b o, A = some ⟨b, o, none⟩ → b ∉ S) : RdC w' A cs := by
  intro hl
  obtain ⟨b, off, e, hc⟩ := h hl
  refine ⟨b, off, e, fun i hi => ?_⟩
  have h1 := hc i hi
  rw [List.getElem?_eq_getElem hi] at h1
  have hlt := World.block_lt_of_cell? w ⟨b, off + i, none⟩ h1
  rw [← hc i hi]
  unfold World.cell?
  simp only [hb.block b hlt (hA b off e)]
/-- a step elsewhere -/
theorem Fl.away (h : Fl w0 B t tt S A ss lab cc gv gs x dd w) {S' : List Nat} (hb : Kb S' w w') (hS : ∀ b ∈ S', (ss.length + 2 ≤ lab b ∧ w0.heap.size ≤ b) ∨ w.heap.size ≤ b) : Fl w0 B t tt S A ss lab cc gv gs x dd w' := by
  have hz := h.kb.size
  have own_ : ∀ {tt v cs j}, Own w B tt v cs → (∀ b, v.ownBlock = some b → lab b = j) → j ≤ ss.length → Own w' B tt v cs := fun ho hl hj => Own.kb ho hb fun g hg hgS => by
    rcases hS g hgS with h1 | h1
    · have := hl g hg; omega
    · have := (World.ownsRow.lt ho g hg).2; omega
  refine ⟨h.kb.trans hb fun k hk => ?_, h.low, RdC.kb h.row hb fun b o e hbS => ?_, h.led, fun j v hv => ⟨own_ (h.own j v hv).1 (fun b hb => ((h.own j v hv).2 b hb).1) (Nat.le_of_lt (List.getElem?_eq_some_iff.1 hv).1), (h.own j v hv).2⟩,
    ⟨own_ h.gown.1 (fun b hb => (h.gown.2 b hb).1) (Nat.le_refl _), h.gown.2⟩, h.xle, fun j v hj hv => ⟨own_ (h.own2 j v hj hv).1 (fun b hb => ((h.own2 j v hj hv).2 b hb).1) (by have := h.xle; omega), (h.own2 j v hj hv).2⟩⟩
  · rcases hS k hk with h1 | h1
    · exact .inr h1.2
    · exact .inr (by omega)
  · have h1 := h.led b o e
    rcases hS b hbS with h2 | h2 <;> omega
theorem Fl.below (h : Fl w0 B t tt S A ss lab cc gv gs x dd w) (hb : Below w.heap.size w w') : Fl w0 B t tt S A ss lab cc gv gs x dd w' := h.away (S' := []) (Kb.of_below hb) (fun b hb => by cases hb)
theorem Fl.led' (h : Fl w0 B t tt S A ss lab cc gv gs x dd w) (hb : LeD w w') : Fl w0 B t tt S A ss lab cc gv gs x dd w' := h.below (led_below hb)
/-- a step in the rows of label k, of which no other has to know: all but what bears k stays -/
theorem Fl.at_ (h : Fl w0 B t tt S A ss lab cc gv gs x dd w) {k : Nat} (hk : k < ss.length) {S' : List Nat} (hb : Kb S' w w') (hS : ∀ b ∈ S', (lab b = k ∧ (b ∈ S ∨ w0.heap.size ≤ b)) ∨ w.heap.size ≤ b) {cc' : Nat → List Value} (hcc : ∀ j, j ≠ k → cc' j = cc j) (ho : ∀ v, ss[k]? = some v → Own w' B t v (cc' k)) (hx : x ≤ k) :
    Fl w0 B t tt S A ss lab cc' gv gs x dd w' := by
  have hz := h.kb.size
  have own_ : ∀ {tt v cs j}, Own w B tt v cs → (∀ b, v.ownBlock = some b → lab b = j) → j ≠ k → Own w' B tt v cs := fun ho hl hj => Own.kb ho hb fun g hg hgS => by
    rcases hS g hgS with h1 | h1
    · have := hl g hg; omega
    · have := (World.ownsRow.lt ho g hg).2; omega
  refine ⟨h.kb.trans hb fun b hbS => ?_, h.low, RdC.kb h.row hb fun b o e hbS => ?_, h.led, fun j v hv => ⟨?_, (h.own j v hv).2⟩,
    ⟨own_ h.gown.1 (fun b hb => (h.gown.2 b hb).1) (by omega), h.gown.2⟩, h.xle, fun j v hj hv => ⟨own_ (h.own2 j v hj hv).1 (fun b hb => ((h.own2 j v hj hv).2 b hb).1) (by omega), (h.own2 j v hj hv).2⟩⟩
  · rcases hS b hbS with h1 | h1
    · exact h1.2
    · exact .inr (by omega)
  · have h1 := h.led b o e
    rcases hS b hbS with h2 | h2 <;> omega
  · by_cases hj : j = k
    · subst hj; exact ho v hv
    · rw [hcc j hj]; exact own_ (h.own j v hv).1 (fun b hb => ((h.own j v hv).2 b hb).1) hj
/-- a cell of row k is written -/
theorem Fl.set (h : Fl w0 B t tt S A ss lab cc gv gs x dd w) {k g n c : Nat} (hk : ss[k]? = some (.slice (some ⟨g, 0, none⟩) n c)) (hx : x ≤ k) (i : Nat) (u : Value) :
    Fl w0 B t tt S A ss lab (fun j => if j = k then (cc k).set i u else cc j) gv gs x dd (w.setCell ⟨g, 0 + i, none⟩ u) := by
  rw [Nat.zero_add]
  have h1 := h.own k _ hk
  refine h.at_ (List.getElem?_eq_some_iff.1 hk).1 (S' := [g]) (Kb.set (by simp) i u) (fun b hb => ?_) (fun j hj => if_neg hj) (fun v hv => ?_) hx
  · have : b = g := by simpa using hb
    subst this
    exact .inl (h1.2 b rfl)
  · rw [hk] at hv; cases hv
    rw [if_pos rfl]
    exact Own.set h1.1 i u
/-- the new lists' row is made -/
theorem Fl.made (h : Fl w0 B t tt S A ss lab cc (.slice none 0 0) [] 0 dd w) {v : Value} {n c : Nat} (hg : w.grownBy w' none) (hv : v = .slice (some ⟨w.heap.size, 0, none⟩) n c) {gs : List Value} (ho : Own w' w.heap.size tt v gs) :
    Fl w0 B t tt S A ss (fun b => if b = w.heap.size then ss.length else lab b) cc v gs 0 dd w' := by
  have hz := h.kb.size
  have h1 := (h.below ((Below.refl _ _).grown hg (Nat.le_refl _) (fun k hk => by cases hk))).upd (lab' := fun b => if b = w.heap.size then ss.length else lab b)
  have hl : ∀ b, b < w.heap.size → (if b = w.heap.size then ss.length else lab b) = lab b := fun b hb => if_neg (by omega)
  have h2 := h.upd hl
  have h3 := h2.below ((Below.refl _ _).grown hg (Nat.le_refl _) (fun k hk => by cases hk))
  refine ⟨h3.kb, h3.low, h3.row, h3.led, h3.own, ⟨ho.mono (by have := h.low; omega), fun b hb => ?_⟩, Nat.zero_le _, fun j v hj => absurd hj (by omega)⟩
  subst hv
  cases hb
  exact ⟨if_pos rfl, by omega⟩
/-- what grows out of row k -/
structure Gr (w0 : World) (B : Nat) (t : TypeId) (S : List Nat) (lab : Nat → Nat) (ss : List Value) (k : Nat) (g : Value) (xs : List Value) (w : World) : Prop where
  own : Own w B t g xs
  lb : Lb S w0.heap.size lab g k
  rel : ∀ v, ss[k]? = some v → Rel v g
theorem Fl.gr (h : Fl w0 B t tt S A ss lab cc gv gs x dd w) {k : Nat} {v : Value} (hk : ss[k]? = some v) : Gr w0 B t S lab ss k v (cc k) w :=
  ⟨(h.own k v hk).1, (h.own k v hk).2, fun u hu => by rw [hk] at hu; cases hu; exact Rel.refl (h.own k v hk).1⟩
theorem Gr.below {k g xs} (h : Gr w0 B t S lab ss k g xs w) (hb : Below w.heap.size w w') : Gr w0 B t S lab ss k g xs w' := ⟨h.own.keepAll hb, h.lb, h.rel⟩
theorem Gr.away {k g xs} (h : Gr w0 B t S lab ss k g xs w) (hk : k < ss.length) {S' : List Nat} (hb : Kb S' w w') (hS : ∀ b ∈ S', ss.length ≤ lab b ∨ w.heap.size ≤ b) : Gr w0 B t S lab ss k g xs w' :=
  ⟨Own.kb h.own hb fun b hbb hbS => by
    have := (h.lb b hbb).1
    have := (World.ownsRow.lt h.own b hbb).2
    rcases hS b hbS with h1 | h1 <;> omega, h.lb, h.rel⟩
theorem Fl.grow (h : Fl w0 B t tt S A ss lab cc gv gs x dd w) {k : Nat} {g g' : Value} {xs ys : List Value} (hk : k < ss.length) (hx : x ≤ k) (hG : Gr w0 B t S lab ss k g xs w) (hg : w.grownBy w' g.ownBlock) (hn : Ext g g' ∨ (g'.ownBlock = some w.heap.size ∧ w.grownBy w' none)) (ho : Own w' B t g' (xs ++ ys)) :
    ∃ lab', Fl w0 B t tt S A ss lab' cc gv gs x dd w' ∧ Gr w0 B t S lab' ss k g' (xs ++ ys) w' := by
  have hz := h.kb.size
  have hl : ∀ b, b < w.heap.size → (if b = w.heap.size then k else lab b) = lab b := fun b hb => if_neg (by omega)
  have hkb : Kb g.ownBlock.toList w w' := Kb.grown hg (fun b hb => by rw [hb]; simp)
  refine ⟨fun b => if b = w.heap.size then k else lab b, (h.upd hl).at_ hk hkb (fun b hb => ?_) (fun _ _ => rfl) (fun v hv => (Own.elder (h.own k v hv).1 hG.own (hG.rel v hv) hg hn ho).1) hx, ho, fun b hb => ?_, fun v hv => (Own.elder (h.own k v hv).1 hG.own (hG.rel v hv) hg hn ho).2⟩
  · have hb' : g.ownBlock = some b := by simpa using hb
    have h1 := hG.lb b hb'
    rw [if_neg (by have := (World.ownsRow.lt hG.own b hb').2; omega)]
    exact .inl h1
  · rcases hn with he | ⟨he, _⟩
    · rw [he.block] at hb
      rw [if_neg (by have := (World.ownsRow.lt hG.own b hb).2; omega)]
      exact hG.lb b hb
    · rw [he] at hb; cases hb
      exact ⟨if_pos rfl, .inr hz⟩
/-- what has grown is put into the new lists' row -/
theorem Fl.put {n c G k : Nat} {g : Value} {xs : List Value} (h : Fl w0 B t tt S A ss lab cc (.slice (some ⟨G, 0, none⟩) n c) gs k dd w) (hk : k < ss.length) (hl : gs.length = ss.length) (hG : Gr w0 B t S lab ss k g xs w) :
    Fl w0 B t tt S A ss lab cc (.slice (some ⟨G, 0, none⟩) n c) (gs.set k g) (k + 1) (fun j => if j = k then xs else dd j) (w.setCell ⟨G, 0 + k, none⟩ g) := by
  rw [Nat.zero_add]
  have hz := h.kb.size
  have hGl := h.gown.2 G rfl
  have own_ : ∀ {tt v cs j}, Own w B tt v cs → (∀ b, v.ownBlock = some b → lab b = j) → j < ss.length → Own (w.setCell ⟨G, k, none⟩ g) B tt v cs := fun ho hlb hj => Own.setOther ho (fun b hb e => by have := hlb b hb; rw [e] at this; omega) k g
  have hkb : Kb [G] w (w.setCell ⟨G, k, none⟩ g) := Kb.set (by simp) k g
  refine ⟨h.kb.trans hkb fun b hb => .inr ?_, h.low, RdC.kb h.row hkb fun b o e hb => ?_, h.led, fun j v hv => ⟨own_ (h.own j v hv).1 (fun b hb => ((h.own j v hv).2 b hb).1) (List.getElem?_eq_some_iff.1 hv).1, (h.own j v hv).2⟩, ⟨Own.set h.gown.1 k g, h.gown.2⟩, by omega, fun j v hj hv => ?_⟩
  · have : b = G := by simpa using hb
    rw [this]; exact hGl.2
  · have h1 := h.led b o e
    have : b = G := by simpa using hb
    rw [this] at h1; omega
  · by_cases hjk : j = k
    · subst hjk
      rw [List.getElem?_set_self (by omega)] at hv
      cases hv
      rw [if_pos rfl]
      exact ⟨own_ hG.own (fun b hb => (hG.lb b hb).1) hk, hG.lb⟩
    · rw [List.getElem?_set_ne (fun e => hjk e.symm)] at hv
      rw [if_neg hjk]
      have h2 := h.own2 j v (by omega) hv
      exact ⟨own_ h2.1 (fun b hb => (h2.2 b hb).1) (by omega), h2.2⟩
theorem Fl.less (h : Fl w0 B t tt S A ss lab cc gv gs x dd w) {y : Nat} (hy : y ≤ x) : Fl w0 B t tt S A ss lab cc gv gs y dd w :=
  ⟨h.kb, h.low, h.row, h.led, h.own, h.gown, by have := h.xle; omega, fun j v hj hv => h.own2 j v (by omega) hv⟩
theorem Fl.congr (h : Fl w0 B t tt S A ss lab cc gv gs x dd w) {cc' : Nat → List Value} (hc : ∀ j, j < ss.length → cc' j = cc j) : Fl w0 B t tt S A ss lab cc' gv gs x dd w :=
  ⟨h.kb, h.low, h.row, h.led, fun j v hv => by rw [hc j (List.getElem?_eq_some_iff.1 hv).1]; exact h.own j v hv, h.gown, h.xle, h.own2⟩
theorem Fl.congr2 (h : Fl w0 B t tt S A ss lab cc gv gs x dd w) {dd' : Nat → List Value} (hc : ∀ j, j < x → dd' j = dd j) : Fl w0 B t tt S A ss lab cc gv gs x dd' w :=
  ⟨h.kb, h.low, h.row, h.led, h.own, h.gown, h.xle, fun j v hj hv => by rw [hc j hj]; exact h.own2 j v hj hv⟩
end

theorem RdC.get {w : World} {b o i : Nat} {cs : List Value} {v : Value} (h : RdC w (some ⟨b, o, none⟩) cs) (hv : cs[i]? = some v) : w.cell? ⟨b, o + i, none⟩ = some v := by
  have hi := (List.getElem?_eq_some_iff.1 hv).1
  obtain ⟨b', o', e, hc⟩ := h (by omega)
  cases e
  rw [hc i hi]; exact hv
theorem Own.get {w : World} {B t g n c i : Nat} {cs : List Value} {v : Value} (h : Own w B t (.slice (some ⟨g, 0, none⟩) n c) cs) (hv : cs[i]? = some v) : w.cell? ⟨g, 0 + i, none⟩ = some v := by
  have hi := (List.getElem?_eq_some_iff.1 hv).1
  rw [Nat.zero_add, Own.cell h hi]
  rw [List.getElem?_eq_getElem hi] at hv; exact hv
theorem Fl.ne_row {w0 w : World} {B : Nat} {t tt : TypeId} {S : List Nat} {bA oA : Nat} {ss gs : List Value} {lab : Nat → Nat} {cc dd : Nat → List Value} {gv : Value} {x k g n c : Nat}
    (h : Fl w0 B t tt S (some ⟨bA, oA, none⟩) ss lab cc gv gs x dd w) (hv : ss[k]? = some (.slice (some ⟨g, 0, none⟩) n c)) : bA ≠ g := by
  intro e; subst e
  have h1 := (h.led bA oA rfl).1
  have h2 := ((h.own k _ hv).2 bA rfl).1
  have := (List.getElem?_eq_some_iff.1 hv).1
  omega
def atB (b : Nat) (v : Value) : Bool := match v.ownBlock with
  | some x => x == b
  | none => false
theorem atB_iff {b : Nat} {v : Value} : atB b v = true ↔ v.ownBlock = some b := by
  unfold atB
  cases v.ownBlock <;> simp
open Classical in
/-- the beginning: so many lists of one's own, no two in one row -/
theorem Fl.init {w : World} {B : Nat} {t tt : TypeId} {A : Option Addr} {ss : List Value} {cc dd : Nat → List Value} (hB : B ≤ w.heap.size) (hr : RdC w A ss) (ho : ∀ (j : Nat) (v : Value), ss[j]? = some v → Own w B t v (cc j))
    (hs : ∀ (i j : Nat) (v u : Value), ss[i]? = some v → ss[j]? = some u → i < j → sep v u) (hA : ∀ b o, A = some ⟨b, o, none⟩ → b < w.heap.size ∧ ∀ (j : Nat) (v : Value), ss[j]? = some v → v.ownBlock ≠ some b) :
    ∃ lab, Fl w B t tt (ss.filterMap Value.ownBlock) A ss lab cc (.slice none 0 0) [] 0 dd w := by
  refine ⟨fun b => if (∃ o, A = some ⟨b, o, none⟩) then ss.length + 1 else ss.findIdx (atB b), ?_⟩
  have hfind : ∀ j (v : Value), ss[j]? = some v → ∀ b, v.ownBlock = some b → ss.findIdx (atB b) = j := by
    intro j v hj b hb
    have hjl := (List.getElem?_eq_some_iff.1 hj).1
    have hjv := (List.getElem?_eq_some_iff.1 hj).2
    have hlt : ss.findIdx (atB b) < ss.length := List.findIdx_lt_length_of_exists ⟨v, by rw [← hjv]; exact List.getElem_mem _, atB_iff.2 hb⟩
    have hp' : ss[ss.findIdx (atB b)].ownBlock = some b := atB_iff.1 (List.findIdx_getElem (w := hlt))
    rcases Nat.lt_trichotomy (ss.findIdx (atB b)) j with h1 | h1 | h1
    · exact absurd hb (hs _ _ _ _ (List.getElem?_eq_getElem hlt) hj h1 b hp')
    · exact h1
    · exact absurd hp' (hs _ _ _ _ hj (List.getElem?_eq_getElem hlt) h1 b hb)
  refine ⟨Kb.refl _ _, hB, hr, fun b o e => ⟨if_pos ⟨o, e⟩, (hA b o e).1, fun hb => ?_⟩, fun j v hv => ⟨ho j v hv, fun b hb => ⟨?_, .inl (List.mem_filterMap.2 ⟨v, List.mem_of_getElem? hv, hb⟩)⟩⟩, ⟨Own.nil _ _ _, fun b hb => by cases hb⟩, Nat.zero_le _, fun j v hj => absurd hj (by omega)⟩
  · obtain ⟨v, hv, hb⟩ := List.mem_filterMap.1 hb
    obtain ⟨j, hj⟩ := List.mem_iff_getElem?.1 hv
    exact (hA b o e).2 j v hj hb
  · dsimp only
    rw [if_neg (fun he => by obtain ⟨o, e⟩ := he; exact (hA b o e).2 j v hv hb)]
    exact hfind j v hv b hb

theorem sep_lt {w w' : World} {B B' : Nat} {t t' : TypeId} {v u : Value} {cs cs' : List Value} (h : Own w B t v cs) (h' : Own w' B' t' u cs') (hB : w.heap.size ≤ B') : sep v u := fun x hx hu => by
  have h1 := (World.ownsRow.lt h x hx).2
  have h2 := (World.ownsRow.lt h' x hu).1
  omega
theorem all2 {P : Nat → Value → Prop} {a b : Value} (h0 : P 0 a) (h1 : P 1 b) : ∀ (j : Nat) (v : Value), [a, b][j]? = some v → P j v := by
  intro j v hj
  rcases j with _ | _ | j
  · cases hj; exact h0
  · cases hj; exact h1
  · simp at hj
theorem all3 {P : Nat → Value → Prop} {a b c : Value} (h0 : P 0 a) (h1 : P 1 b) (h2 : P 2 c) : ∀ (j : Nat) (v : Value), [a, b, c][j]? = some v → P j v := by
  intro j v hj
  rcases j with _ | _ | _ | j
  · cases hj; exact h0
  · cases hj; exact h1
  · cases hj; exact h2
  · simp at hj
theorem sep3 {a b c : Value} (h1 : sep a b) (h2 : sep a c) (h3 : sep b c) : ∀ (i j : Nat) (v u : Value), [a, b, c][i]? = some v → [a, b, c][j]? = some u → i < j → sep v u := by
  intro i j v u hi hj hij
  rcases i with _ | _ | _ | i <;> rcases j with _ | _ | _ | j <;> simp at hi hj <;> (try omega) <;> subst hi <;> subst hj <;> assumption
theorem nat3 {Q : Nat → Prop} (h0 : Q 0) (h1 : Q 1) (h2 : Q 2) : ∀ j, j < 3 → Q j := by
  intro j hj
  rcases j with _ | _ | _ | j
  · exact h0
  · exact h1
  · exact h2
  · omega
theorem own_low {w : World} {B : Nat} {t : TypeId} {ss : List Value} {cc : Nat → List Value} (h : ∀ (j : Nat) (v : Value), ss[j]? = some v → Own w B t v (cc j)) : ∀ k ∈ ss.filterMap Value.ownBlock, B ≤ k := by
  intro k hk
  obtain ⟨x, hx, hxb⟩ := List.mem_filterMap.1 hk
  obtain ⟨j, hj⟩ := List.mem_iff_getElem?.1 hx
  exact (World.ownsRow.lt (h j x hj) k hxb).1
end Go.Proofs.Ytpjmiafefammkaa

/- Regions that draw their order, order by order: what may be taken first is taken first, the rest is gone through. No program in sight. -/
namespace Go.Proofs.Ytpjmiafefammkaa
open Go.RowKit
set_option linter.unusedVariables false

def nrm (n : Cx) (Q : Exit → Fr → World → Prop) : Exit → Act → World → Prop
  | .normal, a, w => ∃ fr, Ag n fr a ∧ Q .normal fr w
  | _, _, _ => False

/-- so many operations are left at most; which have come up, says 'listed' -/
def VA (P : Program) (n : Cx) (all : List Oper) (fuel : Nat) (listed : List Bool) (fr : Fr) (w : World) (Q : Exit → Fr → World → Prop) : Prop :=
  all.all (dstOk n.sz) = true → ∀ a, Ag n fr a → wpAny P .any all.toArray (nrm n Q) fuel listed.toArray a w

def setB : List Bool → Nat → List Bool
  | [], _ => []
  | _ :: r, 0 => true :: r
  | b :: r, i + 1 => b :: setB r i
theorem setB_eq : ∀ (l : List Bool) (i : Nat), (setB l i).toArray = l.toArray.setIfInBounds i true
  | [], i => by simp [setB]
  | _ :: r, 0 => by simp [setB]
  | b :: r, i + 1 => by
    have := setB_eq r i
    simp only [List.setIfInBounds_toArray, List.toArray_inj] at this
    have h2 : setB r i = r.set i true := by simpa using this
    simp [setB, h2]

theorem OS.ot' {P : Program} {n : Cx} {op : Op} {ty : TypeId} {fr : Fr} {w w' : World} {v : Value} (h : OS P n op ty fr w v w') {U : Value → World → Prop} (hU : U v w') : OT P n op ty fr w U := by
  unfold OS at h
  unfold OT
  exact fun a ha => ⟨v, w', h a ha, hU⟩
section
variable {P : Program} {n : Cx} {all : List Oper} {fuel : Nat} {listed : List Bool} {fr : Fr} {w w' : World} {Q : Exit → Fr → World → Prop} {d : Nat} {op : Op} {ty : TypeId} {pos : String} {aft : Array Edge} {v : Value}

theorem dstOk_at {all : List Oper} {i : Nat} {o : Oper} (h : all.all (dstOk n.sz) = true) (hi : all[i]? = some o) {d : Nat} (hd : o.dst = some d) : d < n.sz := by
  have hm := List.mem_of_getElem? hi
  have := List.all_eq_true.1 h o hm
  simp only [dstOk, hd] at this
  exact (Nat.blt_eq ..).mp this

theorem v_region_a {id : Nat} {l : List Oper} (hm : P.follows .mixedOrders = true) (h : VA P n l l.length (List.replicate l.length false) fr { w with drawn := w.drawn + 1 } Q) (hro : n.ro = none := by rfl) : V P n (.region id l.toArray true) fr w Q := by
  unfold V
  intro hok a ha
  rw [fw_none hro]
  refine wpIn_wide.2 (Code.wp_mono (fun e a w hq => ?_) (wp_region_any (Q := nrm n Q) hm ?_))
  · cases e with
    | normal => exact .inl hq
    | _ => exact hq.elim
  · have := h (by simpa [codeOk] using hok) a ha
    simpa using this

/-- a pure operation may be taken first -/
theorem va_take (i : Nat) (hi : all[i]? = some ⟨some d, op, ty, pos, aft, none⟩) (hs : Region.noSelect all.toArray = true) (hf : Region.free .any all.toArray listed.toArray i = true) (hr : (Region.ready .any all.toArray listed.toArray).contains i = true)
    (h : ∀ w, OS P n op ty fr w v w) (k : VA P n all fuel (setB listed i) ((d, v) :: fr) w Q) : VA P n all (fuel + 1) listed fr w Q := by
  intro hok a ha
  have h1 := dstOk_at hok hi rfl
  refine wpAny_take (oi := ⟨some d, op, ty, pos, aft, none⟩) (v := v) (by simpa using hi) hs hf hr (fun c a w hq => hq.elim) (.inl ⟨rfl, fun w => ?_⟩) ?_
  · have := h w
    unfold OS at this
    exact this a ha
  · have := k hok _ (ha.put h1 v)
    rw [setB_eq] at this
    exact this

theorem va_all (rs : List Nat) (hr : Region.ready .any all.toArray listed.toArray = rs) (hne : rs ≠ []) (h : ∀ i ∈ rs, (all.all (dstOk n.sz) = true → ∀ a, Ag n fr a → wpOp P all.toArray (nrm n Q) i (wpAny P .any all.toArray (nrm n Q) fuel (setB listed i).toArray) a w)) : VA P n all (fuel + 1) listed fr w Q := by
  intro hok a ha
  refine wpAny_all hr hne fun i hi => ?_
  have := h i hi hok a ha
  rw [setB_eq] at this
  exact this

theorem va_some {U : Value → World → Prop} (i : Nat) (hi : all[i]? = some ⟨some d, op, ty, pos, aft, none⟩) (h : OT P n op ty fr w U) (k : ∀ v w', U v w' → VA P n all fuel (setB listed i) ((d, v) :: fr) w' Q) :
    all.all (dstOk n.sz) = true → ∀ a, Ag n fr a → wpOp P all.toArray (nrm n Q) i (wpAny P .any all.toArray (nrm n Q) fuel (setB listed i).toArray) a w := by
  intro hok a ha
  have h1 := dstOk_at hok hi rfl
  unfold OT at h
  obtain ⟨v, w', hr, hu⟩ := h a ha
  unfold wpOp
  simp only [List.getElem?_toArray, hi, Region.wanted, if_true]
  left
  unfold Oper.wp
  rw [execOp_bare, hr]
  exact k v w' hu hok _ (ha.put h1 v)

theorem va_done (hr : Region.ready .any all.toArray listed.toArray = []) (h : Q .normal fr w) : VA P n all fuel listed fr w Q := by
  intro hok a ha
  exact wpAny_done hr ⟨fr, ha, h⟩ fuel

/-! ### with guards, calls, stores -/
/-- a pure operation, whatever its guard, may be taken first -/
theorem va_pure {g : Option (Nat × Bool)} (i : Nat) (hi : all[i]? = some ⟨some d, op, ty, pos, aft, g⟩) (hs : Region.noSelect all.toArray = true) (hf : Region.free .any all.toArray listed.toArray i = true) (hr : (Region.ready .any all.toArray listed.toArray).contains i = true)
    (h : ∀ w, OS P n op ty fr w v w) (k : VA P n all fuel (setB listed i) ((d, v) :: fr) w Q) (hg : GOk all fr g := by first | exact True.intro | rfl) : VA P n all (fuel + 1) listed fr w Q := by
  intro hok a ha
  have h1 := dstOk_at hok hi rfl
  refine wpAny_take (oi := ⟨some d, op, ty, pos, aft, g⟩) (v := v) (by simpa using hi) hs hf hr (fun c a w hq => hq.elim) (.inl ⟨GOk.wanted ha hg, fun w => ?_⟩) ?_
  · have := h w
    unfold OS at this
    rw [execOp_bare]
    exact this a ha
  · have := k hok _ (ha.put h1 v)
    rw [setB_eq] at this
    exact this
/-- an operation whose guard is not met -/
theorem va_skip {j : Nat} {b c : Bool} (i : Nat) (hi : all[i]? = some ⟨some d, op, ty, pos, aft, some (j, b)⟩) (hs : Region.noSelect all.toArray = true) (hf : Region.free .any all.toArray listed.toArray i = true) (hr : (Region.ready .any all.toArray listed.toArray).contains i = true)
    (hg : guardF all fr j = some (.bool c)) (hb : (c == b) = false) (k : VA P n all fuel (setB listed i) ((d, undef) :: fr) w Q) : VA P n all (fuel + 1) listed fr w Q := by
  intro hok a ha
  have h1 := dstOk_at hok hi rfl
  have hne : (some c == some b) = false := by simpa using hb
  refine wpAny_take (oi := ⟨some d, op, ty, pos, aft, some (j, b)⟩) (v := undef) (by simpa using hi) hs hf hr (fun c a w hq => hq.elim) (.inr ⟨?_, rfl⟩) ?_
  · simp only [Region.wanted, guardF_yields ha hg, hne]
  · have := k hok _ (ha.put h1 undef)
    rw [setB_eq] at this
    exact this

theorem va_skipu {j : Nat} {b : Bool} (i : Nat) (hi : all[i]? = some ⟨some d, op, ty, pos, aft, some (j, b)⟩) (hs : Region.noSelect all.toArray = true) (hf : Region.free .any all.toArray listed.toArray i = true) (hr : (Region.ready .any all.toArray listed.toArray).contains i = true)
    (hg : guardF all fr j = some undef) (k : VA P n all fuel (setB listed i) ((d, undef) :: fr) w Q) : VA P n all (fuel + 1) listed fr w Q := by
  intro hok a ha
  have h1 := dstOk_at hok hi rfl
  refine wpAny_take (oi := ⟨some d, op, ty, pos, aft, some (j, b)⟩) (v := undef) (by simpa using hi) hs hf hr (fun c a w hq => hq.elim) (.inr ⟨wanted_undef ha hg, rfl⟩) ?_
  have := k hok _ (ha.put h1 undef)
  rw [setB_eq] at this
  exact this

/-- what may come up next -/
def VN (P : Program) (n : Cx) (all : List Oper) (fuel : Nat) (listed : List Bool) (i : Nat) (fr : Fr) (w : World) (Q : Exit → Fr → World → Prop) : Prop :=
  all.all (dstOk n.sz) = true → ∀ a, Ag n fr a → wpOp P all.toArray (nrm n Q) i (wpAny P .any all.toArray (nrm n Q) fuel (setB listed i).toArray) a w
theorem va_one (i : Nat) (hr : (Region.ready .any all.toArray listed.toArray == [i]) = true) (h : VN P n all fuel listed i fr w Q) : VA P n all (fuel + 1) listed fr w Q :=
  va_all [i] (by simpa using hr) (by simp) fun j hj => by
    simp only [List.mem_cons, List.not_mem_nil, or_false] at hj
    subst hj; exact h
theorem va_two (i j : Nat) (hr : (Region.ready .any all.toArray listed.toArray == [i, j]) = true) (h : VN P n all fuel listed i fr w Q) (h2 : VN P n all fuel listed j fr w Q) : VA P n all (fuel + 1) listed fr w Q :=
  va_all [i, j] (by simpa using hr) (by simp) fun k hk => by
    simp only [List.mem_cons, List.not_mem_nil, or_false] at hk
    rcases hk with rfl | rfl
    · exact h
    · exact h2
theorem va_three (i j l : Nat) (hr : (Region.ready .any all.toArray listed.toArray == [i, j, l]) = true) (h : VN P n all fuel listed i fr w Q) (h2 : VN P n all fuel listed j fr w Q) (h3 : VN P n all fuel listed l fr w Q) : VA P n all (fuel + 1) listed fr w Q :=
  va_all [i, j, l] (by simpa using hr) (by simp) fun k hk => by
    simp only [List.mem_cons, List.not_mem_nil, or_false] at hk
    rcases hk with rfl | rfl | rfl
    · exact h
    · exact h2
    · exact h3

theorem va_four (i j l m : Nat) (hr : (Region.ready .any all.toArray listed.toArray == [i, j, l, m]) = true) (h : VN P n all fuel listed i fr w Q) (h2 : VN P n all fuel listed j fr w Q) (h3 : VN P n all fuel listed l fr w Q) (h4 : VN P n all fuel listed m fr w Q) : VA P n all (fuel + 1) listed fr w Q :=
  va_all [i, j, l, m] (by simpa using hr) (by simp) fun k hk => by
    simp only [List.mem_cons, List.not_mem_nil, or_false] at hk
    rcases hk with rfl | rfl | rfl | rfl
    · exact h
    · exact h2
    · exact h3
    · exact h4

theorem vn_some {g : Option (Nat × Bool)} {i : Nat} {U : Value → World → Prop} (hi : all[i]? = some ⟨some d, op, ty, pos, aft, g⟩) (h : OT P n op ty fr w U) (k : ∀ v w', U v w' → VA P n all fuel (setB listed i) ((d, v) :: fr) w' Q) (hg : GOk all fr g := by first | exact True.intro | rfl) : VN P n all fuel listed i fr w Q := by
  intro hok a ha
  have h1 := dstOk_at hok hi rfl
  unfold wpOp
  simp only [List.getElem?_toArray, hi, GOk.wanted ha hg, if_true]
  left
  unfold OT at h
  obtain ⟨v, w', hr, hu⟩ := h a ha
  unfold Oper.wp
  rw [execOp_bare, hr]
  exact k v w' hu hok _ (ha.put h1 v)
theorem vn_val {g : Option (Nat × Bool)} {i : Nat} (hi : all[i]? = some ⟨some d, op, ty, pos, aft, g⟩) (h : OS P n op ty fr w v w') (k : VA P n all fuel (setB listed i) ((d, v) :: fr) w' Q) (hg : GOk all fr g := by first | exact True.intro | rfl) : VN P n all fuel listed i fr w Q :=
  vn_some (U := fun v1 w1 => v1 = v ∧ w1 = w') hi (h.ot' ⟨rfl, rfl⟩) (by rintro v1 w1 ⟨rfl, rfl⟩; exact k) hg
theorem vn_unit {g : Option (Nat × Bool)} {i : Nat} (hi : all[i]? = some ⟨none, op, ty, pos, aft, g⟩) (h : OU P n op ty fr w w') (k : VA P n all fuel (setB listed i) fr w' Q) (hg : GOk all fr g := by first | exact True.intro | rfl) : VN P n all fuel listed i fr w Q := by
  intro hok a ha
  unfold wpOp
  simp only [List.getElem?_toArray, hi, GOk.wanted ha hg, if_true]
  left
  unfold OU at h
  unfold Oper.wp
  rw [execOp_bare, h a ha]
  exact k hok _ ha
theorem vn_call {g : Option (Nat × Bool)} {i : Nat} {f : FuncId} {xs : List Operand} {tt : Array TypeId} {args : List Value} {U : Value → World → Prop} (hi : all[i]? = some ⟨some d, .call ⟨.value (.func f), xs.toArray, tt⟩, ty, pos, aft, g⟩) (h : Gives P f args.toArray w U) (hx : evL fr xs = some args)
    (k : ∀ v w', U v w' → VA P n all fuel (setB listed i) ((d, v) :: fr) w' Q) (hg : GOk all fr g := by first | exact True.intro | rfl) : VN P n all fuel listed i fr w Q := by
  intro hok a ha
  have h1 := dstOk_at hok hi rfl
  unfold wpOp
  simp only [List.getElem?_toArray, hi, GOk.wanted ha hg, if_true]
  left
  unfold Gives at h
  unfold Oper.wp
  rw [execOp_bare, run_callee (first := #[]) (cap := #[]) h.1 rfl hx ha]
  simp only [Array.append_empty, Array.empty_append]
  refine h.2.mono ?_
  rintro e w' ⟨v, rfl, h2⟩
  exact k v w' h2 hok _ (ha.put h1 v)
theorem vn_calln {g : Option (Nat × Bool)} {i : Nat} {f : FuncId} {xs : List Operand} {tt : Array TypeId} {args : List Value} {U : Value → World → Prop} (hi : all[i]? = some ⟨none, .call ⟨.value (.func f), xs.toArray, tt⟩, ty, pos, aft, g⟩) (h : Gives P f args.toArray w U) (hx : evL fr xs = some args)
    (k : ∀ v w', U v w' → VA P n all fuel (setB listed i) fr w' Q) (hg : GOk all fr g := by first | exact True.intro | rfl) : VN P n all fuel listed i fr w Q := by
  intro hok a ha
  unfold wpOp
  simp only [List.getElem?_toArray, hi, GOk.wanted ha hg, if_true]
  left
  unfold Gives at h
  unfold Oper.wp
  rw [execOp_bare, run_callee (first := #[]) (cap := #[]) h.1 rfl hx ha]
  simp only [Array.append_empty, Array.empty_append]
  refine h.2.mono ?_
  rintro e w' ⟨v, rfl, h2⟩
  exact k v w' h2 hok _ ha
end
attribute [irreducible] VA VN
end Go.Proofs.Ytpjmiafefammkaa

/- The law's kit: lists that are lent, with marks behind their ends; whether they, and the marks, are still as they were. -/
namespace Go.Proofs.Ytpjmiafefammkaa
open Go.RowKit
set_option linter.unusedVariables false

def markZ (k i : Int) : Int := 1000003 * (k + 7) + i
def markB (k i : Int) : Int := IntKind.u8.wrap ((IntKind.u64.wrap (IntKind.u64.wrap (markZ k i) * 11400714819323198485)).fdiv (2 ^ min (56 : Int).toNat IntKind.u64.bits))

theorem kit_mark (k i : Int) (w : World) (hk : 0 ≤ k ∧ k ≤ 1000000000) (hi : 0 ≤ i ∧ i ≤ 1000000000000000) : Gives Try.prog 66 #[.int .i64 k, .int .i64 i] w fun v w' => v = .int .i64 (markZ k i) ∧ w' = w := by
  refine gives_enter Try.call66 Try.func66 rfl rfl rfl (by kernel_rfl) ?_
  refine v_seq ?_
  refine v_region ?_
  refine vl_val (os_assign rfl) ?_
  refine vl_nil ?_
  refine v_seq ?_
  refine v_region ?_
  refine vl_val (os_move rfl) ?_
  refine vl_val (os_addi rfl rfl (by omega)) ?_
  refine vl_val (os_muli rfl rfl (by omega)) ?_
  refine vl_val (os_move rfl) ?_
  refine vl_val (os_addi rfl rfl (by omega)) ?_
  refine vl_val (os_assign rfl) ?_
  refine vl_nil ?_
  refine v_ret ?_
  exact post_ret rfl rfl (⟨rfl, rfl⟩)
theorem kit_markByte (k i : Int) (w : World) (hk : 0 ≤ k ∧ k ≤ 1000000000) (hi : 0 ≤ i ∧ i ≤ 1000000000000000) : Gives Try.prog 143 #[.int .i64 k, .int .i64 i] w fun v w' => v = .int .u8 (markB k i) ∧ w' = w := by
  refine gives_enter Try.call143 Try.func143 rfl rfl rfl (by kernel_rfl) ?_
  refine v_seq ?_
  refine v_region ?_
  refine vl_val (os_assign rfl) ?_
  refine vl_nil ?_
  refine v_seq ?_
  refine v_region ?_
  refine vl_val (os_move rfl) ?_
  refine vl_val (os_move rfl) ?_
  refine vl_call (kit_mark k i w hk hi) rfl ?_
  rintro v w ⟨rfl, rfl⟩
  refine vl_val (os_conv Try.underlying3 Try.underlying157 rfl (rfl)) ?_
  refine vl_val (os_mul rfl rfl (rfl)) ?_
  refine vl_val (os_shr rfl rfl (by omega) (rfl)) ?_
  refine vl_val (os_conv Try.underlying157 Try.underlying5 rfl (rfl)) ?_
  refine vl_val (os_assign rfl) ?_
  refine vl_nil ?_
  refine v_ret ?_
  exact post_ret rfl rfl (⟨rfl, rfl⟩)

def marks (f : Int → Int → Int) (n : Nat) : List Int := (List.range n).map fun (i : Nat) => f 1 (i : Int)
theorem marks_len (f : Int → Int → Int) (n : Nat) : (marks f n).length = n := by simp [marks]
theorem marks_succ (f : Int → Int → Int) (n : Nat) : marks f (n + 1) = marks f n ++ [f 1 n] := by simp [marks, List.range_succ]
theorem marks_at (f : Int → Int → Int) {n i : Nat} (hi : i < n) : (marks f n).getD i 0 = f 1 i := by simp [marks, hi]
/-- v is a list that the kit has lent: a row of its own that holds zs, and the marks behind -/
def Lent (w : World) (B : Nat) (t : TypeId) (k : IntKind) (f : Int → Int → Int) (v : Value) (zs : List Int) : Prop :=
  ∃ g C, v = .slice (some ⟨g, 0, none⟩) zs.length C ∧ zs.length + 12 ≤ C ∧ OwnK w B t k (.slice (some ⟨g, 0, none⟩) (zs ++ marks f 12).length C) (zs ++ marks f 12)
theorem Lent.keep {w w' B t k f v zs} (h : Lent w B t k f v zs) (hb : Below w.heap.size w w') : Lent w' B t k f v zs := by
  obtain ⟨g, C, e, hc, ho⟩ := h
  exact ⟨g, C, e, hc, Own.keepAll ho hb⟩
theorem Lent.form {w B t k f v zs} (h : Lent w B t k f v zs) : ∃ g C, v = .slice (some ⟨g, 0, none⟩) zs.length C ∧ zs.length + 12 ≤ C ∧ C ≤ maxLen ∧ B ≤ g ∧ g < w.heap.size ∧ Rd w k (some ⟨g, 0, none⟩) zs := by
  obtain ⟨g, C, e, hc, ho⟩ := h
  have h1 := World.ownsRow.lt ho g rfl
  have h2 := (OwnK.rd ho).take zs.length
  rw [List.take_left] at h2
  obtain ⟨g', c', e', _, _, _, hm⟩ := ho.row (by rw [List.length_append, marks_len]; omega)
  cases e'
  exact ⟨g, C, e, hc, hm, h1.1, h1.2, h2⟩
theorem ints_one (k : IntKind) (zs : List Int) : ∀ u ∈ zs.map (Value.int k), u.oneCell' = true := by
  intro u hu
  obtain ⟨z, _, rfl⟩ := List.mem_map.1 hu
  rfl

set_option maxHeartbeats 1000000 in
theorem kit_LentInts (A : Option Addr) (n c : Nat) (zs : List Int) (w : World) (ha : Rd w .i64 A zs) (hn : n = zs.length) (hb : (n + 12) * 8 ≤ 140737488355328) : Gives Try.prog 35 #[.slice A n c] w fun v w' => Lent w' w.heap.size 3 .i64 markZ v zs ∧ Below w.heap.size w w' := by
  refine gives_enter Try.call35 Try.func35 rfl rfl rfl (by kernel_rfl) ?_
  refine v_seq ?_
  refine v_region ?_
  refine vl_val (os_assign rfl) ?_
  refine vl_nil ?_
  refine v_seq ?_
  refine v_region ?_
  refine vl_val (os_move rfl) ?_
  refine vl_val (os_len Try.underlying40 rfl) ?_
  refine vl_val (os_addi rfl rfl (by omega)) ?_
  refine vl_some (ot_make0 (l := n + 12) Try.underlying40 ti_int rfl rfl rfl rfl (by omega) (by simp [maxLen]; omega) w.heap.size (Nat.le_refl _)) ?_
  rintro v1 w1 ⟨rfl, ho, hg⟩
  have hb1 : Below w.heap.size w w1 := (Below.refl _ _).grown hg (Nat.le_refl _) (fun k hk => by cases hk)
  refine vl_val (os_assign rfl) ?_
  refine vl_nil ?_
  refine v_seq ?_
  refine v_region ?_
  refine vl_val (os_move rfl) ?_
  refine vl_val (os_move rfl) ?_
  refine vl_some (ot_append Try.underlying40 ti_int rfl rfl rfl ho (ha.keep hb1).toC (by simp [hn]) (ints_one _ _) (by simp; omega) (by simp [maxLen]; omega) hb1.size) ?_
  rintro v2 w2 ⟨ho2, hg2⟩
  have hb2 := Own.below hb1 ho hg2 (Nat.le_refl _) hb1.size
  refine vl_val (os_assign rfl) ?_
  refine vl_nil ?_
  refine v_seq ?_
  refine v_seq ?_
  refine v_region ?_
  refine vl_val (os_assign rfl) ?_
  refine vl_nil ?_
  refine v_block ?_
  refine v_loop2 [(0, _)] (fun (v : Value) (i : Nat) => [(3, v), (4, .int .i64 i)]) (fun v i w' => i ≤ 12 ∧ OwnK w' w.heap.size 3 .i64 v (zs ++ marks markZ i) ∧ Below w.heap.size w w') (fun v i => 12 - i) (v2) (0) ⟨rfl, trivial⟩ ⟨rfl, rfl, trivial⟩ (⟨by omega, by simpa [OwnK, marks] using ho2, hb2⟩) ?_
  rintro v i w' ⟨hi, ho3, hb3⟩
  refine v_seq ?_
  refine v_seq ?_
  refine v_region ?_
  refine vl_val (os_move rfl) ?_
  refine vl_val (os_lss rfl rfl) ?_
  refine vl_nil ?_
  refine v_cond_d rfl (fun h => ?_) (fun h => ?_)
  · refine v_skip ?_
    refine v_seq ?_
    refine v_block ?_
    refine v_region ?_
    refine vl_val (os_move rfl) ?_
    refine vl_val (os_move rfl) ?_
    refine vl_call (kit_mark 1 i w' (by omega) (by omega)) rfl ?_
    rintro v4 w' ⟨rfl, rfl⟩
    have ho4 := Own.alloc ho3 (.cells [Value.int .i64 (markZ 1 i)].toArray 3)
    have hb4 := hb3.alloc hb3.size (.cells [Value.int .i64 (markZ 1 i)].toArray 3)
    refine vl_val (os_lit Try.underlying40 Try.sizeOf3 Try.zeroValue3 rfl rfl rfl rfl (by decide)) ?_
    refine vl_some (ot_append Try.underlying40 ti_int rfl rfl rfl ho4 (rdc_alloc w' [Value.int .i64 (markZ 1 i)] _) rfl (by simp [Value.oneCell']) (by simp [marks_len]; omega) (by simp [maxLen, marks_len]; omega) hb4.size) ?_
    rintro v5 w5 ⟨ho5, hg5⟩
    refine vl_val (os_assign rfl) ?_
    refine vl_nil ?_
    refine v_region ?_
    refine vl_val (os_move rfl) ?_
    refine vl_val (os_addi rfl rfl (by omega)) ?_
    refine vl_val (os_assign rfl) ?_
    refine vl_nil ?_
    exact ⟨⟨v5, i + 1⟩, ⟨rfl, trivial⟩, ⟨rfl, rfl, trivial⟩, ⟨by omega, by rw [marks_succ, ← List.append_assoc]; simpa [OwnK] using ho5, Own.below hb4 ho4 hg5 (Nat.le_refl _) hb4.size⟩, by dsimp only; omega⟩
  · obtain rfl : i = 12 := by omega
    obtain ⟨g, C, rfl, h1, h2, h3, h4⟩ := ho3.row (by simp [marks_len])
    rw [List.length_append, marks_len] at h3
    refine v_exit ?_
    refine v_seq ?_
    refine v_region ?_
    refine vl_val (os_move rfl) ?_
    refine vl_val (os_move rfl) ?_
    refine vl_val (os_len Try.underlying40 rfl) ?_
    refine vl_val (os_slice_h Try.underlying40 Try.sizeOf3 rfl rfl (h := n) (by omega) (by omega)) ?_
    refine vl_val (os_assign rfl) ?_
    refine vl_nil ?_
    refine v_ret ?_
    exact post_ret rfl rfl (⟨⟨g, C, by rw [hn], h3, ho3⟩, hb3⟩)
set_option maxHeartbeats 1000000 in
theorem kit_KeptInts (v : Value) (B : Nat) (A : Option Addr) (n c : Nat) (zs : List Int) (w : World) (hv : Lent w B 3 .i64 markZ v zs) (ha : Rd w .i64 A zs) (hn : n = zs.length) (hb : (n + 12) * 8 ≤ 140737488355328) : Gives Try.prog 43 #[v, .slice A n c] w fun v w' => v = .bool true ∧ LeD w w' := by
  obtain ⟨g, C, rfl, hC, ho⟩ := hv
  refine gives_enter Try.call43 Try.func43 rfl rfl rfl (by kernel_rfl) ?_
  refine v_seq ?_
  refine v_region ?_
  refine vl_val (os_assign rfl) ?_
  refine vl_nil ?_
  refine v_seq ?_
  refine v_seq ?_
  refine v_region ?_
  refine vl_val (os_move rfl) ?_
  refine vl_val (os_len Try.underlying40 rfl) ?_
  refine vl_val (os_move rfl) ?_
  refine vl_val (os_len Try.underlying40 rfl) ?_
  refine vl_val (os_neq rfl rfl) ?_
  refine vl_nil ?_
  refine v_cond_no rfl (by omega) ?_
  refine v_skip ?_
  refine v_seq ?_
  refine v_region ?_
  refine vl_val (os_move rfl) ?_
  refine vl_val (os_move rfl) ?_
  refine vl_val (os_len Try.underlying40 rfl) ?_
  refine vl_val (os_addi rfl rfl (by omega)) ?_
  refine vl_val (os_slice_h Try.underlying40 Try.sizeOf3 rfl rfl (h := n + 12) (by omega) (by omega)) ?_
  refine vl_val (os_assign rfl) ?_
  refine vl_nil ?_
  refine v_seq ?_
  refine v_seq ?_
  refine v_region ?_
  refine vl_val (os_assign rfl) ?_
  refine vl_nil ?_
  refine v_block ?_
  refine v_loop [(1, _), (5, _)] (fun (i : Nat) => [(6, .int .i64 i)]) (fun i w' => i ≤ n + 12 ∧ LeD w w') (fun i => n + 12 - i) (0) ⟨rfl, rfl, trivial⟩ ⟨rfl, trivial⟩ (⟨by omega, lee_d.refl _⟩) ?_
  rintro i w' ⟨hi, hq⟩
  refine v_seq ?_
  refine v_seq ?_
  refine v_region ?_
  refine vl_val (os_move rfl) ?_
  refine vl_val (os_move rfl) ?_
  refine vl_val (os_len Try.underlying40 rfl) ?_
  refine vl_val (os_lss rfl rfl) ?_
  refine vl_nil ?_
  refine v_cond_d rfl (fun h => ?_) (fun h => ?_)
  · have hc := OwnK.cell (Own.led ho hq : OwnK w' B _ _ _ _) (i := i) (by rw [List.length_append, marks_len]; omega)
    rcases Nat.lt_or_ge i n with hlt | hge
    · obtain ⟨bA, oA, rfl, hcA⟩ := (ha.led hq) (by omega)
      have hcA := hcA i (by omega)
      rw [show (zs ++ marks markZ 12).getD i 0 = zs.getD i 0 by simp [List.getElem?_append, show i < zs.length by omega]] at hc
      refine v_skip ?_
      refine v_seq ?_
      refine v_block ?_
      refine v_seq ?_
      refine v_region_t LeD _ mixed (by kernel_rfl) lee_d (led_start _) ?_
      refine vt_val (fun w hw => os_move rfl) ?_
      refine vt_val (fun w hw => os_move rfl) ?_
      refine vt_val (fun w hw => os_len Try.underlying40 rfl) ?_
      refine vt_val (fun w hw => os_t (os_lss rfl rfl) (by omega)) ?_
      refine vt_val (fun w hw => os_move rfl) ?_
      refine vt_valg rfl (fun w hw => os_move rfl) ?_
      refine vt_valg rfl (fun w hw => os_move rfl) ?_
      refine vt_valg rfl (fun w hw => os_ix Try.underlying40 Try.sizeOf3 rfl rfl (i := i) (by omega) (by omega)) ?_
      refine vt_valg rfl (fun w hw => os_load Try.isAgg3 rfl (led_cell hw (by rw [Nat.zero_add]; exact hc))) ?_
      refine vt_valg rfl (fun w hw => os_move rfl) ?_
      refine vt_valg rfl (fun w hw => os_move rfl) ?_
      refine vt_valg rfl (fun w hw => os_ix Try.underlying40 Try.sizeOf3 rfl rfl (i := i) (by omega) (by omega)) ?_
      refine vt_valg rfl (fun w hw => os_load Try.isAgg3 rfl (led_cell hw (hcA))) ?_
      refine vt_valg rfl (fun w hw => os_t (os_eql rfl rfl) (rfl)) ?_
      refine vt_valg rfl (fun w hw => os_not rfl) ?_
      refine vt_val (fun w hw => os_pick_t rfl rfl) ?_
      refine vt_val (fun w hw => os_move rfl) ?_
      refine vt_valg rfl (fun w hw => os_move rfl) ?_
      refine vt_valg rfl (fun w hw => os_move rfl) ?_
      refine vt_valg rfl (fun w hw => os_len Try.underlying40 rfl) ?_
      refine vt_valg rfl (fun w hw => os_f (os_geq rfl rfl) (by omega)) ?_
      refine vt_valg rfl (fun w hw => os_move rfl) ?_
      refine vt_skip rfl rfl ?_
      refine vt_skip rfl rfl ?_
      refine vt_skip rfl rfl ?_
      refine vt_skip rfl rfl ?_
      refine vt_skip rfl rfl ?_
      refine vt_skip rfl rfl ?_
      refine vt_skip rfl rfl ?_
      refine vt_skip rfl rfl ?_
      refine vt_skip rfl rfl ?_
      refine vt_skip rfl rfl ?_
      refine vt_skip rfl rfl ?_
      refine vt_valg rfl (fun w hw => os_pick_f rfl rfl) ?_
      refine vt_val (fun w hw => os_pick_f rfl rfl) ?_
      refine vt_nil (fun w hw => ?_)
      obtain ⟨q, rfl⟩ := hw
      refine v_cond_f rfl ?_
      refine v_skip ?_
      refine v_region ?_
      refine vl_val (os_move rfl) ?_
      refine vl_val (os_addi rfl rfl (by omega)) ?_
      refine vl_val (os_assign rfl) ?_
      refine vl_nil ?_
      exact ⟨i + 1, ⟨rfl, rfl, trivial⟩, ⟨rfl, trivial⟩, ⟨by omega, lee_d.trans hq ⟨q, rfl⟩⟩, by dsimp only; omega⟩
    · rw [show (zs ++ marks markZ 12).getD i 0 = markZ 1 ((i : Int) - (n : Int)) by
        have e : (zs ++ marks markZ 12).getD i 0 = (marks markZ 12).getD (i - zs.length) 0 := by simp [List.getElem?_append, show ¬ i < zs.length by omega]
        rw [e, marks_at _ (by omega)]; congr 1; omega] at hc
      refine v_skip ?_
      refine v_seq ?_
      refine v_block ?_
      refine v_seq ?_
      refine v_region_t LeD _ mixed (by kernel_rfl) lee_d (led_start _) ?_
      refine vt_val (fun w hw => os_move rfl) ?_
      refine vt_val (fun w hw => os_move rfl) ?_
      refine vt_val (fun w hw => os_len Try.underlying40 rfl) ?_
      refine vt_val (fun w hw => os_f (os_lss rfl rfl) (by omega)) ?_
      refine vt_val (fun w hw => os_move rfl) ?_
      refine vt_skip rfl rfl ?_
      refine vt_skip rfl rfl ?_
      refine vt_skip rfl rfl ?_
      refine vt_skip rfl rfl ?_
      refine vt_skip rfl rfl ?_
      refine vt_skip rfl rfl ?_
      refine vt_skip rfl rfl ?_
      refine vt_skip rfl rfl ?_
      refine vt_skip rfl rfl ?_
      refine vt_skip rfl rfl ?_
      refine vt_val (fun w hw => os_pick_f rfl rfl) ?_
      refine vt_val (fun w hw => os_move rfl) ?_
      refine vt_valg rfl (fun w hw => os_move rfl) ?_
      refine vt_valg rfl (fun w hw => os_move rfl) ?_
      refine vt_valg rfl (fun w hw => os_len Try.underlying40 rfl) ?_
      refine vt_valg rfl (fun w hw => os_t (os_geq rfl rfl) (by omega)) ?_
      refine vt_valg rfl (fun w hw => os_move rfl) ?_
      refine vt_valg rfl (fun w hw => os_move rfl) ?_
      refine vt_valg rfl (fun w hw => os_move rfl) ?_
      refine vt_valg rfl (fun w hw => os_ix Try.underlying40 Try.sizeOf3 rfl rfl (i := i) (by omega) (by omega)) ?_
      refine vt_valg rfl (fun w hw => os_load Try.isAgg3 rfl (led_cell hw (by rw [Nat.zero_add]; exact hc))) ?_
      refine vt_valg rfl (fun w hw => os_move rfl) ?_
      refine vt_valg rfl (fun w hw => os_move rfl) ?_
      refine vt_valg rfl (fun w hw => os_len Try.underlying40 rfl) ?_
      refine vt_valg rfl (fun w hw => os_subi rfl rfl (by omega)) ?_
      refine vt_callg rfl (v := _) (fun w hw => (kit_mark 1 ((i : Int) - (n : Int)) w (by omega) (by omega)).mono fun v w' hh => ⟨hh.1, by rw [hh.2]; exact lee_d.refl _⟩) rfl ?_
      refine vt_valg rfl (fun w hw => os_t (os_eql rfl rfl) (rfl)) ?_
      refine vt_valg rfl (fun w hw => os_not rfl) ?_
      refine vt_valg rfl (fun w hw => os_pick_t rfl rfl) ?_
      refine vt_val (fun w hw => os_pick_f rfl rfl) ?_
      refine vt_nil (fun w hw => ?_)
      obtain ⟨q, rfl⟩ := hw
      refine v_cond_f rfl ?_
      refine v_skip ?_
      refine v_region ?_
      refine vl_val (os_move rfl) ?_
      refine vl_val (os_addi rfl rfl (by omega)) ?_
      refine vl_val (os_assign rfl) ?_
      refine vl_nil ?_
      exact ⟨i + 1, ⟨rfl, rfl, trivial⟩, ⟨rfl, trivial⟩, ⟨by omega, lee_d.trans hq ⟨q, rfl⟩⟩, by dsimp only; omega⟩
  · refine v_exit ?_
    refine v_seq ?_
    refine v_region ?_
    refine vl_val (os_assign rfl) ?_
    refine vl_nil ?_
    refine v_ret ?_
    exact post_ret rfl rfl (⟨rfl, hq⟩)
end Go.Proofs.Ytpjmiafefammkaa
