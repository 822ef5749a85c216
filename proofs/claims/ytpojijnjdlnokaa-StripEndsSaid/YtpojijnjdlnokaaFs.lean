/- Rows that lie apart, the first of them stripes of one row: what stays, what is owned while they are written over and grown. No program in sight. -/
import Derived.Test.YtpojijnjdlnokaaFlEB
import Derived.Test.YtpojijnjdlnokaaSp
namespace Go.Proofs.Ytpojijnjdlnokaa
open Go.RowKit
set_option linter.unusedVariables false

/-- the stripes' cells, one behind the other -/
def flC (cc : Nat → List Value) : Nat → List Value
  | 0 => []
  | k + 1 => flC cc k ++ cc k
theorem flC_len {cc : Nat → List Value} {wd : Nat} : ∀ {K : Nat}, (∀ j, j < K → (cc j).length = wd) → (flC cc K).length = wd * K
  | 0, _ => by simp [flC]
  | K + 1, h => by
    rw [flC, List.length_append, flC_len (fun j hj => h j (by omega)), h K (by omega), Nat.mul_add, Nat.mul_one]
theorem flC_at {cc : Nat → List Value} {wd : Nat} : ∀ {K k i : Nat}, (∀ j, j < K → (cc j).length = wd) → k < K → i < wd → (flC cc K)[k * wd + i]? = (cc k)[i]?
  | 0, k, i, _, hk, _ => by omega
  | K + 1, k, i, h, hk, hi => by
    have hl := flC_len (K := K) (fun j hj => h j (by omega))
    rw [flC]
    by_cases e : k = K
    · subst e
      rw [List.getElem?_append_right (by rw [hl, Nat.mul_comm]; omega), hl, Nat.mul_comm wd k, Nat.add_sub_cancel_left]
    · have h1 : k * wd + wd ≤ wd * K := by
        have : (k + 1) * wd ≤ K * wd := Nat.mul_le_mul_right _ (by omega)
        rw [Nat.add_mul, Nat.one_mul, Nat.mul_comm K] at this; exact this
      rw [List.getElem?_append_left (by omega), flC_at (fun j hj => h j (by omega)) (by omega) hi]
theorem flC_congr {cc cc' : Nat → List Value} : ∀ {K : Nat}, (∀ j, j < K → cc' j = cc j) → flC cc' K = flC cc K
  | 0, _ => rfl
  | K + 1, h => by rw [flC, flC, flC_congr (fun j hj => h j (by omega)), h K (by omega)]
theorem flC_set {cc : Nat → List Value} {wd : Nat} (u : Value) : ∀ {K k i : Nat}, (∀ j, j < K → (cc j).length = wd) → k < K → i < wd → (flC cc K).set (k * wd + i) u = flC (fun j => if j = k then (cc k).set i u else cc j) K
  | 0, k, i, _, hk, _ => by omega
  | K + 1, k, i, h, hk, hi => by
    have hl := flC_len (K := K) (fun j hj => h j (by omega))
    rw [flC, flC]
    by_cases e : k = K
    · subst e
      rw [List.set_append_right _ _ (by rw [hl, Nat.mul_comm]; omega), hl, Nat.mul_comm wd k, Nat.add_sub_cancel_left, if_pos rfl]
      rw [flC_congr (cc := cc) (fun j hj => if_neg (by omega))]
    · have h1 : k * wd + wd ≤ wd * K := by
        have : (k + 1) * wd ≤ K * wd := Nat.mul_le_mul_right _ (by omega)
        rw [Nat.add_mul, Nat.one_mul, Nat.mul_comm K] at this; exact this
      rw [List.set_append_left _ _ (by omega), flC_set u (fun j hj => h j (by omega)) (by omega) hi, if_neg (fun e' => e e'.symm)]

/-- a list of one's own, or the beginning of one, without room behind it -/
def OwnE (w : World) (B : Nat) (t : TypeId) (v : Value) (cs : List Value) : Prop := Own w B t v cs ∨ ∃ g c, v = .slice (some ⟨g, 0, none⟩) cs.length cs.length ∧ Own w B t (.slice (some ⟨g, 0, none⟩) cs.length c) cs
theorem OwnE.kb {w w' B t v cs S} (h : OwnE w B t v cs) (hb : Kb S w w') (hg : ∀ g, v.ownBlock = some g → g ∉ S) : OwnE w' B t v cs := by
  rcases h with h | ⟨g, c, rfl, h⟩
  · exact .inl (Own.kb h hb hg)
  · exact .inr ⟨g, c, rfl, Own.kb h hb fun g' e => hg g' (by simpa [Value.ownBlock] using e)⟩
theorem OwnE.lt {w B t v cs} (h : OwnE w B t v cs) {g : Nat} (hg : v.ownBlock = some g) : B ≤ g ∧ g < w.heap.size := by
  rcases h with h | ⟨g', c, rfl, h⟩
  · exact World.ownsRow.lt h g hg
  · exact World.ownsRow.lt h g (by simpa [Value.ownBlock] using hg)
theorem OwnE.form {w B t v cs} (h : OwnE w B t v cs) : ∃ A c, v = .slice A cs.length c := by
  rcases h with h | ⟨g', c, rfl, h⟩
  · obtain ⟨A, c, e, -⟩ := Own.form h; exact ⟨A, c, e⟩
  · exact ⟨_, _, rfl⟩
theorem OwnE.row {w B t v cs} (h : OwnE w B t v cs) (h0 : 0 < cs.length) : ∃ g c, v = .slice (some ⟨g, 0, none⟩) cs.length c ∧ (∀ i (hi : i < cs.length), w.cell? ⟨g, i, none⟩ = some cs[i] ∧ w.frozen? ⟨g, i, none⟩ = false) ∧ ∀ i u, OwnE (w.setCell ⟨g, i, none⟩ u) B t v (cs.set i u) := by
  rcases h with h | ⟨g', c, rfl, h⟩
  · obtain ⟨g, c, rfl, -⟩ := Own.row h h0
    exact ⟨g, c, rfl, fun i hi => ⟨Own.cell h hi, Own.free h i⟩, fun i u => .inl (Own.set h i u)⟩
  · refine ⟨g', _, rfl, fun i hi => ⟨Own.cell h hi, Own.free h i⟩, fun i u => .inr ⟨g', c, by rw [List.length_set], ?_⟩⟩
    have := Own.set h i u
    rwa [List.length_set]
theorem OwnE.keepAll {w w' B t v cs} (h : OwnE w B t v cs) (hb : Below w.heap.size w w') : OwnE w' B t v cs := by
  rcases h with h | ⟨g', c, rfl, h⟩
  · exact .inl (h.keepAll hb)
  · exact .inr ⟨g', c, rfl, h.keepAll hb⟩
theorem OwnE.elder {w w' B t s g g' cs xs ys} (hs : OwnE w B t s cs) (hg : Own w B t g xs) (hr : Rel s g) (hgr : w.grownBy w' g.ownBlock) (hk : Ext g g' ∨ (g'.ownBlock = some w.heap.size ∧ w.grownBy w' none)) (hg' : Own w' B t g' (xs ++ ys)) : OwnE w' B t s cs ∧ Rel s g' := by
  rcases hs with hs | ⟨b, c, rfl, hs⟩
  · exact ⟨.inl (Own.elder hs hg hr hgr hk hg').1, (Own.elder hs hg hr hgr hk hg').2⟩
  rcases hr with h | h
  · obtain ⟨b', n, m, c', e, rfl, hn⟩ := h
    have key : Own w B t (.slice (some ⟨b, 0, none⟩) cs.length cs.length) cs := by
      cases e
      rcases hs.2 with ⟨h1, _⟩ | ⟨g1, cap, cur, h1, hB, hgg, hnc, hcm, hsz, ht⟩
      · cases h1
      · cases h1
        rcases hg.2 with ⟨h2, _⟩ | ⟨g2, cap2, cur2, h2, hB2, hgg2, hnc2, hcm2, hsz2, ht2⟩
        · cases h2
        · have e3 : b = g2 := by cases h2; rfl
          have e4 : cs.length = cap2 := by cases h2; rfl
          subst e3
          rw [hgg] at hgg2
          cases hgg2
          refine ⟨hs.1, .inr ⟨b, cs.length, cur, rfl, hB, hgg, Nat.le_refl _, by omega, by omega, ht⟩⟩
    exact ⟨.inl (Own.elder key hg (.inl ⟨b', n, m, c', e, rfl, hn⟩) hgr hk hg').1, (Own.elder key hg (.inl ⟨b', n, m, c', e, rfl, hn⟩) hgr hk hg').2⟩
  · have hb : b < w.heap.size := (World.ownsRow.lt hs b rfl).2
    refine ⟨.inr ⟨b, c, rfl, Own.other hs hgr (.inr fun e => h b rfl e.symm)⟩, .inr fun x hx => ?_⟩
    have e : x = b := by simpa [Value.ownBlock] using hx.symm
    subst e
    rcases hk with he | ⟨he, -⟩
    · rw [he.block]; exact h x rfl
    · rw [he]; simp; omega

structure Fs (w0 : World) (B : Nat) (t tt : TypeId) (S : List Nat) (A : Option Addr) (ss : List Value) (K gb wd : Nat) (lab : Nat → Nat) (cc : Nat → List Value) (gv : Value) (gs : List Value) (x : Nat) (dd : Nat → List Value) (w : World) : Prop where
  kb : Kb S w0 w
  low : B ≤ w0.heap.size
  row : RdC w A ss
  led : ∀ b o, A = some ⟨b, o, none⟩ → lab b = ss.length + 1 ∧ b < w0.heap.size ∧ b ∉ S
  own : ∀ j v, K ≤ j → ss[j]? = some v → OwnE w B t v (cc j) ∧ Lb S w0.heap.size lab v j
  seg : 0 < K → Own w B t (.slice (some ⟨gb, 0, none⟩) (wd * K) (wd * K)) (flC cc K) ∧ lab gb = ss.length + 3 ∧ gb ∈ S ∧ gb < w0.heap.size
  sv : ∀ j, j < K → ss[j]? = some (segV gb wd j) ∧ (cc j).length = wd
  gown : Own w B tt gv gs ∧ ∀ b, gv.ownBlock = some b → lab b = ss.length ∧ w0.heap.size ≤ b
  xle : x ≤ ss.length
  own2 : ∀ j v, j < x → gs[j]? = some v → Own w B t v (dd j) ∧ Lb S w0.heap.size lab v j

section
variable {w0 w w' : World} {B : Nat} {t tt : TypeId} {S : List Nat} {A : Option Addr} {ss gs : List Value} {K gb wd : Nat} {lab : Nat → Nat} {cc dd : Nat → List Value} {gv : Value} {x : Nat}
theorem Fs.upd (h : Fs w0 B t tt S A ss K gb wd lab cc gv gs x dd w) {lab' : Nat → Nat} (hl : ∀ b, b < w.heap.size → lab' b = lab b) : Fs w0 B t tt S A ss K gb wd lab' cc gv gs x dd w :=
  ⟨h.kb, h.low, h.row, fun b o e => by
      have h1 := h.led b o e
      have h2 := h.kb.size
      rw [hl b (by omega)]; exact h1,
    fun j v hj hv => ⟨(h.own j v hj hv).1, fun b hb => by rw [hl b ((h.own j v hj hv).1.lt hb).2]; exact (h.own j v hj hv).2 b hb⟩,
    fun h0 => by
      have h1 := h.seg h0
      have h2 := h.kb.size
      rw [hl gb (by omega)]; exact h1, h.sv,
    ⟨h.gown.1, fun b hb => by rw [hl b (World.ownsRow.lt h.gown.1 b hb).2]; exact h.gown.2 b hb⟩, h.xle,
    fun j v hj hv => ⟨(h.own2 j v hj hv).1, (h.own2 j v hj hv).2.upd (h.own2 j v hj hv).1 hl⟩⟩
/-- a step elsewhere -/
theorem Fs.away (h : Fs w0 B t tt S A ss K gb wd lab cc gv gs x dd w) {S' : List Nat} (hb : Kb S' w w') (hS : ∀ b ∈ S', (ss.length + 2 ≤ lab b ∧ w0.heap.size ≤ b) ∨ w.heap.size ≤ b) : Fs w0 B t tt S A ss K gb wd lab cc gv gs x dd w' := by
  have hz := h.kb.size
  have own_ : ∀ {tt v cs j}, Own w B tt v cs → (∀ b, v.ownBlock = some b → lab b = j) → j ≤ ss.length → Own w' B tt v cs := fun ho hl hj => Own.kb ho hb fun g hg hgS => by
    rcases hS g hgS with h1 | h1
    · have := hl g hg; omega
    · have := (World.ownsRow.lt ho g hg).2; omega
  have ownE : ∀ {tt v cs j}, OwnE w B tt v cs → (∀ b, v.ownBlock = some b → lab b = j) → j ≤ ss.length → OwnE w' B tt v cs := fun ho hl hj => OwnE.kb ho hb fun g hg hgS => by
    rcases hS g hgS with h1 | h1
    · have := hl g hg; omega
    · have := (ho.lt hg).2; omega
  refine ⟨h.kb.trans hb fun k hk => ?_, h.low, RdC.kb h.row hb fun b o e hbS => ?_, h.led, fun j v hj hv => ⟨ownE (h.own j v hj hv).1 (fun b hb => ((h.own j v hj hv).2 b hb).1) (Nat.le_of_lt (List.getElem?_eq_some_iff.1 hv).1), (h.own j v hj hv).2⟩,
    fun h0 => ⟨Own.kb (h.seg h0).1 hb fun g hg hgS => ?_, (h.seg h0).2⟩, h.sv,
    ⟨own_ h.gown.1 (fun b hb => (h.gown.2 b hb).1) (Nat.le_refl _), h.gown.2⟩, h.xle, fun j v hj hv => ⟨own_ (h.own2 j v hj hv).1 (fun b hb => ((h.own2 j v hj hv).2 b hb).1) (by have := h.xle; omega), (h.own2 j v hj hv).2⟩⟩
  · rcases hS k hk with h1 | h1
    · exact .inr h1.2
    · exact .inr (by omega)
  · have h1 := h.led b o e
    rcases hS b hbS with h2 | h2 <;> omega
  · have h1 := h.seg h0
    have e : g = gb := by simpa [Value.ownBlock] using hg.symm
    subst e
    rcases hS g hgS with h2 | h2 <;> omega
theorem Fs.below (h : Fs w0 B t tt S A ss K gb wd lab cc gv gs x dd w) (hb : Below w.heap.size w w') : Fs w0 B t tt S A ss K gb wd lab cc gv gs x dd w' := h.away (S' := []) (Kb.of_below hb) (fun b hb => by cases hb)
theorem Fs.led' (h : Fs w0 B t tt S A ss K gb wd lab cc gv gs x dd w) (hb : LeD w w') : Fs w0 B t tt S A ss K gb wd lab cc gv gs x dd w' := h.below (led_below hb)
/-- a step in the rows of label k, of which no other has to know: all but what bears k stays -/
theorem Fs.at_ (h : Fs w0 B t tt S A ss K gb wd lab cc gv gs x dd w) {k : Nat} (hk : k < ss.length) {S' : List Nat} (hb : Kb S' w w') (hS : ∀ b ∈ S', (lab b = k ∧ (b ∈ S ∨ w0.heap.size ≤ b)) ∨ w.heap.size ≤ b) {cc' : Nat → List Value} (hcc : ∀ j, j ≠ k ∨ k < K → cc' j = cc j) (ho : ∀ v, K ≤ k → ss[k]? = some v → OwnE w' B t v (cc' k)) (hx : x ≤ k) :
    Fs w0 B t tt S A ss K gb wd lab cc' gv gs x dd w' := by
  have hz := h.kb.size
  have own_ : ∀ {tt v cs j}, Own w B tt v cs → (∀ b, v.ownBlock = some b → lab b = j) → j ≠ k → Own w' B tt v cs := fun ho hl hj => Own.kb ho hb fun g hg hgS => by
    rcases hS g hgS with h1 | h1
    · have := hl g hg; omega
    · have := (World.ownsRow.lt ho g hg).2; omega
  have ownE : ∀ {tt v cs j}, OwnE w B tt v cs → (∀ b, v.ownBlock = some b → lab b = j) → j ≠ k → OwnE w' B tt v cs := fun ho hl hj => OwnE.kb ho hb fun g hg hgS => by
    rcases hS g hgS with h1 | h1
    · have := hl g hg; omega
    · have := (ho.lt hg).2; omega
  have hseg : ∀ j, j < K → cc' j = cc j := fun j hj => by
    by_cases e : j = k
    · exact hcc j (.inr (by omega))
    · exact hcc j (.inl e)
  refine ⟨h.kb.trans hb fun b hbS => ?_, h.low, RdC.kb h.row hb fun b o e hbS => ?_, h.led, fun j v hj hv => ⟨?_, (h.own j v hj hv).2⟩,
    fun h0 => ⟨?_, (h.seg h0).2⟩, fun j hj => by rw [hseg j hj]; exact h.sv j hj,
    ⟨own_ h.gown.1 (fun b hb => (h.gown.2 b hb).1) (by omega), h.gown.2⟩, h.xle, fun j v hj hv => ⟨own_ (h.own2 j v hj hv).1 (fun b hb => ((h.own2 j v hj hv).2 b hb).1) (by omega), (h.own2 j v hj hv).2⟩⟩
  · rcases hS b hbS with h1 | h1
    · exact h1.2
    · exact .inr (by omega)
  · have h1 := h.led b o e
    rcases hS b hbS with h2 | h2 <;> omega
  · by_cases e : j = k
    · subst e; exact ho v hj hv
    · rw [hcc j (.inl e)]; exact ownE (h.own j v hj hv).1 (fun b hb => ((h.own j v hj hv).2 b hb).1) e
  · rw [flC_congr hseg]
    have h1 := h.seg h0
    refine Own.kb h1.1 hb fun g hg hgS => ?_
    have e : g = gb := by simpa [Value.ownBlock] using hg.symm
    subst e
    rcases hS g hgS with h2 | h2 <;> omega
/-- what a list is -/
theorem Fs.form (h : Fs w0 B t tt S A ss K gb wd lab cc gv gs x dd w) {k : Nat} {v : Value} (hv : ss[k]? = some v) : ∃ A c, v = .slice A (cc k).length c := by
  by_cases hk : k < K
  · have h1 := h.sv k hk
    rw [h1.1] at hv
    cases hv
    exact ⟨_, _, by rw [h1.2]; rfl⟩
  · exact (h.own k v (by omega) hv).1.form
/-- where it lies -/
theorem Fs.acc (h : Fs w0 B t tt S A ss K gb wd lab cc gv gs x dd w) {k n c : Nat} {Av : Option Addr} (hv : ss[k]? = some (.slice Av n c)) (h0 : 0 < (cc k).length) : ∃ g o, Av = some ⟨g, o, none⟩ ∧ (∀ b o', A = some ⟨b, o', none⟩ → b ≠ g) ∧ ∀ i, i < (cc k).length → w.cell? ⟨g, o + i, none⟩ = (cc k)[i]? ∧ w.frozen? ⟨g, o + i, none⟩ = false := by
  by_cases hk : k < K
  · have h1 := h.sv k hk
    have h2 := h.seg (by omega)
    rw [h1.1] at hv
    unfold segV at hv
    rw [h1.2] at h0
    rw [if_neg (by omega)] at hv
    cases hv
    refine ⟨gb, k * wd, rfl, fun b o' e e2 => ?_, fun i hi => ?_⟩
    · subst e2
      exact (h.led b o' e).2.2 h2.2.2.1
    · rw [h1.2] at hi
      have h3 := flC_at (fun j hj => (h.sv j hj).2) hk hi
      refine ⟨?_, Own.free h2.1 _⟩
      have hlt : k * wd + i < (flC cc K).length := by
        rw [List.getElem?_eq_getElem (l := cc k) (by omega)] at h3
        exact (List.getElem?_eq_some_iff.1 h3).1
      rw [← h3, Own.cell h2.1 hlt, List.getElem?_eq_getElem hlt]
  · have h1 := h.own k _ (by omega) hv
    obtain ⟨g, c', e, h4, -⟩ := h1.1.row h0
    cases e
    refine ⟨g, 0, rfl, fun b o' e e2 => ?_, fun i hi => ?_⟩
    · subst e2
      have h2 := (h.led b o' e).1
      have h3 := (h1.2 b rfl).1
      have := (List.getElem?_eq_some_iff.1 hv).1
      omega
    · rw [Nat.zero_add, List.getElem?_eq_getElem hi]; exact h4 i hi
/-- a cell of row k is written -/
theorem Fs.set (h : Fs w0 B t tt S A ss K gb wd lab cc gv gs x dd w) {k g o n c i : Nat} (hk : ss[k]? = some (.slice (some ⟨g, o, none⟩) n c)) (hx : x ≤ k) (hi : i < (cc k).length) (hx0 : x = 0) (u : Value) :
    Fs w0 B t tt S A ss K gb wd lab (fun j => if j = k then (cc k).set i u else cc j) gv gs x dd (w.setCell ⟨g, o + i, none⟩ u) := by
  have hkl := (List.getElem?_eq_some_iff.1 hk).1
  by_cases hK : k < K
  · have h1 := h.sv k hK
    have h2 := h.seg (by omega)
    rw [h1.1] at hk
    unfold segV at hk
    rw [h1.2] at hi
    rw [if_neg (by omega)] at hk
    cases hk
    have hz := h.kb.size
    have hlab := h2.2.1
    have hkb : Kb [gb] w (w.setCell ⟨gb, k * wd + i, none⟩ u) := Kb.set (by simp) _ u
    have own_ : ∀ {tt v cs j}, Own w B tt v cs → (∀ b, v.ownBlock = some b → lab b = j) → j ≤ ss.length → Own (w.setCell ⟨gb, k * wd + i, none⟩ u) B tt v cs := fun ho hl hj => Own.kb ho hkb fun g hg hgS => by
      have e : g = gb := by simpa using hgS
      subst e
      have := hl g hg; omega
    have ownE : ∀ {tt v cs j}, OwnE w B tt v cs → (∀ b, v.ownBlock = some b → lab b = j) → j ≤ ss.length → OwnE (w.setCell ⟨gb, k * wd + i, none⟩ u) B tt v cs := fun ho hl hj => OwnE.kb ho hkb fun g hg hgS => by
      have e : g = gb := by simpa using hgS
      subst e
      have := hl g hg; omega
    refine ⟨h.kb.trans hkb fun b hbS => .inl (by rw [List.mem_singleton.1 hbS]; exact h2.2.2.1), h.low, RdC.kb h.row hkb fun b o e hbS => ?_, h.led, fun j v hj hv => ⟨?_, (h.own j v hj hv).2⟩,
      fun h0 => ⟨?_, h2.2⟩, fun j hj => ?_, ⟨own_ h.gown.1 (fun b hb => (h.gown.2 b hb).1) (Nat.le_refl _), h.gown.2⟩, h.xle, fun j v hj hv => absurd hj (by omega)⟩
    · have e2 : b = gb := by simpa using hbS
      subst e2
      exact (h.led b o e).2.2 h2.2.2.1
    · rw [if_neg (by omega)]
      exact ownE (h.own j v hj hv).1 (fun b hb => ((h.own j v hj hv).2 b hb).1) (Nat.le_of_lt (List.getElem?_eq_some_iff.1 hv).1)
    · rw [← flC_set u (fun j hj => (h.sv j hj).2) hK hi]
      exact Own.set h2.1 _ u
    · refine ⟨(h.sv j hj).1, ?_⟩
      by_cases e : j = k
      · subst e; rw [if_pos rfl, List.length_set]; exact h1.2
      · rw [if_neg e]; exact (h.sv j hj).2
  · have h1 := h.own k _ (by omega) hk
    obtain ⟨g', c', e, -, h4⟩ := h1.1.row (by omega)
    obtain ⟨rfl, rfl⟩ : g = g' ∧ o = 0 := by cases e; exact ⟨rfl, rfl⟩
    rw [Nat.zero_add]
    refine h.at_ hkl (S' := [g]) (Kb.set (by simp) i u) (fun b hb => ?_) (fun j hj => if_neg (by omega)) (fun v hv0 hv => ?_) hx
    · have : b = g := by simpa using hb
      subst this
      exact .inl (h1.2 b rfl)
    · rw [hk] at hv; cases hv
      rw [if_pos rfl]
      exact h4 i u
/-- the new lists' row is made -/
theorem Fs.made (h : Fs w0 B t tt S A ss K gb wd lab cc (.slice none 0 0) [] 0 dd w) {v : Value} {n c : Nat} (hg : w.grownBy w' none) (hv : v = .slice (some ⟨w.heap.size, 0, none⟩) n c) {gs : List Value} (ho : Own w' w.heap.size tt v gs) :
    Fs w0 B t tt S A ss K gb wd (fun b => if b = w.heap.size then ss.length else lab b) cc v gs 0 dd w' := by
  have hz := h.kb.size
  have hl : ∀ b, b < w.heap.size → (if b = w.heap.size then ss.length else lab b) = lab b := fun b hb => if_neg (by omega)
  have h2 := h.upd hl
  have h3 := h2.below ((Below.refl _ _).grown hg (Nat.le_refl _) (fun k hk => by cases hk))
  refine ⟨h3.kb, h3.low, h3.row, h3.led, h3.own, h3.seg, h3.sv, ⟨ho.mono (by have := h.low; omega), fun b hb => ?_⟩, Nat.zero_le _, fun j v hj => absurd hj (by omega)⟩
  subst hv
  cases hb
  exact ⟨if_pos rfl, by omega⟩
/-- what grows out of row k -/
structure Gs (w0 : World) (B : Nat) (t : TypeId) (S : List Nat) (lab : Nat → Nat) (ss : List Value) (K k : Nat) (g : Value) (xs : List Value) (w : World) : Prop where
  own : Own w B t g xs
  lb : Lb S w0.heap.size lab g k
  rel : ∀ v, K ≤ k → ss[k]? = some v → Rel v g
/-- the same, or the row k itself -/
def Gd (w0 : World) (B : Nat) (t : TypeId) (S : List Nat) (lab : Nat → Nat) (ss : List Value) (K k i : Nat) (g : Value) (xs : List Value) (w : World) : Prop := (i = 0 ∧ ss[k]? = some g) ∨ Gs w0 B t S lab ss K k g xs w
theorem Fs.gr (h : Fs w0 B t tt S A ss K gb wd lab cc gv gs x dd w) {k : Nat} {v : Value} (hk : ss[k]? = some v) (hK : K ≤ k) (ho : Own w B t v (cc k)) : Gs w0 B t S lab ss K k v (cc k) w :=
  ⟨ho, (h.own k v hK hk).2, fun u _ hu => by rw [hk] at hu; cases hu; exact Rel.refl ho⟩
theorem Gs.below {k g xs} (h : Gs w0 B t S lab ss K k g xs w) (hb : Below w.heap.size w w') : Gs w0 B t S lab ss K k g xs w' := ⟨h.own.keepAll hb, h.lb, h.rel⟩
theorem Gd.below {k i g xs} (h : Gd w0 B t S lab ss K k i g xs w) (hb : Below w.heap.size w w') : Gd w0 B t S lab ss K k i g xs w' := h.imp id fun h => h.below hb
theorem Fs.grow (h : Fs w0 B t tt S A ss K gb wd lab cc gv gs x dd w) {k : Nat} {g g' : Value} {xs ys : List Value} (hk : k < ss.length) (hx : x ≤ k) (hG : Gs w0 B t S lab ss K k g xs w) (hg : w.grownBy w' g.ownBlock) (hn : Ext g g' ∨ (g'.ownBlock = some w.heap.size ∧ w.grownBy w' none)) (ho : Own w' B t g' (xs ++ ys)) :
    ∃ lab', Fs w0 B t tt S A ss K gb wd lab' cc gv gs x dd w' ∧ Gs w0 B t S lab' ss K k g' (xs ++ ys) w' := by
  have hz := h.kb.size
  have hl : ∀ b, b < w.heap.size → (if b = w.heap.size then k else lab b) = lab b := fun b hb => if_neg (by omega)
  have hkb : Kb g.ownBlock.toList w w' := Kb.grown hg (fun b hb => by rw [hb]; simp)
  refine ⟨fun b => if b = w.heap.size then k else lab b, (h.upd hl).at_ hk hkb (fun b hb => ?_) (fun _ _ => rfl) (fun v hK hv => (OwnE.elder (h.own k v hK hv).1 hG.own (hG.rel v hK hv) hg hn ho).1) hx, ho, fun b hb => ?_, fun v hK hv => (OwnE.elder (h.own k v hK hv).1 hG.own (hG.rel v hK hv) hg hn ho).2⟩
  · have hb' : g.ownBlock = some b := by simpa using hb
    have h1 := hG.lb b hb'
    rw [if_neg (by have := (World.ownsRow.lt hG.own b hb').2; omega)]
    exact .inl h1
  · rcases hn with he | ⟨he, _⟩
    · rw [he.block] at hb
      rw [if_neg (by have := (World.ownsRow.lt hG.own b hb).2; omega)]
      exact hG.lb b hb
    · rw [he] at hb; cases hb
      exact ⟨if_pos rfl, .inr hz⟩
/-- what has grown is put into the new lists' row -/
theorem Fs.put {n c G k : Nat} {g : Value} {xs : List Value} (h : Fs w0 B t tt S A ss K gb wd lab cc (.slice (some ⟨G, 0, none⟩) n c) gs k dd w) (hk : k < ss.length) (hl : gs.length = ss.length) (hG : Gs w0 B t S lab ss K k g xs w) :
    Fs w0 B t tt S A ss K gb wd lab cc (.slice (some ⟨G, 0, none⟩) n c) (gs.set k g) (k + 1) (fun j => if j = k then xs else dd j) (w.setCell ⟨G, 0 + k, none⟩ g) := by
  rw [Nat.zero_add]
  have hz := h.kb.size
  have hGl := h.gown.2 G rfl
  have own_ : ∀ {tt v cs j}, Own w B tt v cs → (∀ b, v.ownBlock = some b → lab b = j) → j < ss.length → Own (w.setCell ⟨G, k, none⟩ g) B tt v cs := fun ho hlb hj => Own.setOther ho (fun b hb e => by have := hlb b hb; rw [e] at this; omega) k g
  have hkb : Kb [G] w (w.setCell ⟨G, k, none⟩ g) := Kb.set (by simp) k g
  have ownE : ∀ {tt v cs j}, OwnE w B tt v cs → (∀ b, v.ownBlock = some b → lab b = j) → j < ss.length → OwnE (w.setCell ⟨G, k, none⟩ g) B tt v cs := fun ho hlb hj => OwnE.kb ho hkb fun b hb e => by have := hlb b hb; rw [List.mem_singleton.1 e] at this; omega
  refine ⟨h.kb.trans hkb fun b hb => .inr ?_, h.low, RdC.kb h.row hkb fun b o e hb => ?_, h.led, fun j v hj hv => ⟨ownE (h.own j v hj hv).1 (fun b hb => ((h.own j v hj hv).2 b hb).1) (List.getElem?_eq_some_iff.1 hv).1, (h.own j v hj hv).2⟩,
    fun h0 => ⟨Own.kb (h.seg h0).1 hkb fun g hg hgS => ?_, (h.seg h0).2⟩, h.sv, ⟨Own.set h.gown.1 k g, h.gown.2⟩, by omega, fun j v hj hv => ?_⟩
  · have : b = G := by simpa using hb
    rw [this]; exact hGl.2
  · have h1 := h.led b o e
    have : b = G := by simpa using hb
    rw [this] at h1; omega
  · have h1 := h.seg h0
    have e : g = gb := by simpa [Value.ownBlock] using hg.symm
    have e2 : g = G := by simpa using hgS
    subst e; subst e2; omega
  · by_cases hjk : j = k
    · subst hjk
      rw [List.getElem?_set_self (by omega)] at hv
      cases hv
      rw [if_pos rfl]
      exact ⟨own_ hG.own (fun b hb => (hG.lb b hb).1) hk, hG.lb⟩
    · rw [List.getElem?_set_ne (fun e => hjk e.symm)] at hv
      rw [if_neg hjk]
      have h2 := h.own2 j v (by omega) hv
      exact ⟨own_ h2.1 (fun b hb => (h2.2 b hb).1) (by omega), h2.2⟩
theorem Fs.less (h : Fs w0 B t tt S A ss K gb wd lab cc gv gs x dd w) {y : Nat} (hy : y ≤ x) : Fs w0 B t tt S A ss K gb wd lab cc gv gs y dd w :=
  ⟨h.kb, h.low, h.row, h.led, h.own, h.seg, h.sv, h.gown, by have := h.xle; omega, fun j v hj hv => h.own2 j v (by omega) hv⟩
theorem Fs.congr (h : Fs w0 B t tt S A ss K gb wd lab cc gv gs x dd w) {cc' : Nat → List Value} (hc : ∀ j, j < ss.length → cc' j = cc j) : Fs w0 B t tt S A ss K gb wd lab cc' gv gs x dd w :=
  have hK : ∀ j, j < K → cc' j = cc j := fun j hj => hc j (List.getElem?_eq_some_iff.1 (h.sv j hj).1).1
  ⟨h.kb, h.low, h.row, h.led, fun j v hj hv => by rw [hc j (List.getElem?_eq_some_iff.1 hv).1]; exact h.own j v hj hv, fun h0 => by rw [flC_congr hK]; exact h.seg h0, fun j hj => by rw [hK j hj]; exact h.sv j hj, h.gown, h.xle, h.own2⟩
theorem Fs.congr2 (h : Fs w0 B t tt S A ss K gb wd lab cc gv gs x dd w) {dd' : Nat → List Value} (hc : ∀ j, j < x → dd' j = dd j) : Fs w0 B t tt S A ss K gb wd lab cc gv gs x dd' w :=
  ⟨h.kb, h.low, h.row, h.led, h.own, h.seg, h.sv, h.gown, h.xle, fun j v hj hv => by rw [hc j hj]; exact h.own2 j v hj hv⟩
end

section
variable {P : Program} {n : Cx} {fr : Fr} {w0 w : World} {ty : TypeId} {x y : Operand} {v : Value} {T e tt : TypeId} {S : List Nat} {A A' : Option Addr} {ss gs : List Value} {K gb wd k B : Nat} {lab : Nat → Nat} {cc dd : Nat → List Value} {gv : Value} {xs news : List Value}
theorem ot_append_f {i m c : Nat} {z0 : Value} {bytes : Nat} (hT : P.underlying T = some (.slice e)) (hi : TyInfo P e z0 1 bytes) (hz : z0.cells.size = 1) (hx : Fr.ev fr x = some v) (hy : Fr.ev fr y = some (.slice A' m c))
    (h : Fs w0 B e tt S A ss K gb wd lab cc gv gs k dd w) (hk : k < ss.length) (hG : Gd w0 B e S lab ss K k i v xs w) (hxs : i = 0 → xs = cc k) (hr : RdC w A' news) (hm : m = news.length) (h1 : ∀ u ∈ news, u.oneCell' = true) (hb : (xs.length + m) * bytes ≤ 140737488355328) (hl : xs.length + m ≤ maxLen) (h0 : 0 < news.length) :
    OT P n (.call ⟨.builtin .append, #[x, y], #[T, T]⟩) ty fr w fun v' w' => ∃ lab', Fs w0 B e tt S A ss K gb wd lab' cc gv gs k dd w' ∧ Gs w0 B e S lab' ss K k v' (xs ++ news) w' := by
  have hBw : B ≤ w.heap.size := by have := h.kb.size; have := h.low; omega
  have main : ∀ {xs}, Gs w0 B e S lab ss K k v xs w → (xs.length + m) * bytes ≤ 140737488355328 → xs.length + m ≤ maxLen → OT P n (.call ⟨.builtin .append, #[x, y], #[T, T]⟩) ty fr w fun v' w' => ∃ lab', Fs w0 B e tt S A ss K gb wd lab' cc gv gs k dd w' ∧ Gs w0 B e S lab' ss K k v' (xs ++ news) w' := fun hG hb hl =>
    (ot_append_s hT hi hz hx hy hG.own hr hm h1 hb hl hBw h0).mono fun v' w' ⟨ho, hg, hn⟩ => h.grow hk (Nat.le_refl _) hG hg hn ho
  -- a list without room behind it
  have full : ∀ (Av : Option Addr), v = .slice Av (cc k).length (cc k).length → (∀ b o, Av = some ⟨b, o, none⟩ → sep v (.slice (some ⟨w.heap.size, 0, none⟩) 0 0)) → (∃ b o, Av = some ⟨b, o, none⟩ ∧ ∀ j, j < (cc k).length → w.cell? ⟨b, o + j, none⟩ = (cc k)[j]?) → ss[k]? = some v → (K ≤ k → OwnE w B e v (cc k)) → ((cc k).length + m) * bytes ≤ 140737488355328 → (cc k).length + m ≤ maxLen →
      OT P n (.call ⟨.builtin .append, #[x, y], #[T, T]⟩) ty fr w fun v' w' => ∃ lab', Fs w0 B e tt S A ss K gb wd lab' cc gv gs k dd w' ∧ Gs w0 B e S lab' ss K k v' (cc k ++ news) w' := by
    intro Av hv hsp hcc hvk hoE hb hl
    obtain ⟨bv, ov, rfl, hcell⟩ := hcc
    obtain ⟨ii, i1, i2, i3, i4⟩ := info_parts hi
    obtain ⟨b, o, rfl, hc⟩ := hr h0
    have hnews : ∀ j u, news[j]? = some u → w.cell? ((⟨b, o, none⟩ : Addr).add j) = some u := fun j u hu => by
      have hj := (List.getElem?_eq_some_iff.1 hu).1
      rw [addr_add, hc j hj]; exact hu
    have hold : ∀ j u, (cc k)[j]? = some u → w.cell? ((⟨bv, ov, none⟩ : Addr).add j) = some u := fun j u hu => by
      have hj := (List.getElem?_eq_some_iff.1 hu).1
      rw [addr_add, hcell j hj]; exact hu
    obtain ⟨nv, hnv⟩ : ∃ nv, nv = (cc k).length := ⟨_, rfl⟩
    rw [← hnv] at hv hb hl
    have hl2 : nv + m ≤ 9223372036854775807 := by simp only [maxLen] at hl; omega
    have hr2 := run_append_grow (P := P) w T ty e ii z0 hT i1 i2 ⟨bv, ov, none⟩ nv nv (cc k) (by rw [i3, hnv]; omega) hold ⟨b, o, none⟩ m c news (by rw [i3]; omega) hnews (by omega) (by omega) (growslice_fits (by omega) (by rw [i4]; exact hb))
    subst hv
    obtain ⟨v', w', hrun, e1, e2⟩ : ∃ v' w', (Builtin.append_ #[T, T] ty #[.slice (some ⟨bv, ov, none⟩) nv nv, .slice (some ⟨b, o, none⟩) m c]).run P w = .ok v' w' ∧ v' = .slice (some ⟨w.heap.size, 0, none⟩) (nv + m) (grownCap w (nv + m) nv e) ∧ w' = w.drew.alloc (.cells ((cc k).toArray ++ news.toArray ++ Builtin.zeroCells z0.cells (grownCap w (nv + m) nv e - (nv + m))) e) := ⟨_, _, hr2, rfl, rfl⟩
    refine ot_of fun a ha => ⟨v', w', by simp [execOp, resolve, invoke, builtin, ha.ev hx, ha.ev hy, hrun, Result.andThen], ?_⟩
    subst e1
    subst e2
    have hge := grownCap_ge w (nv + m) nv e
    have hcm : grownCap w (nv + m) nv e ≤ maxLen := grownCap_le_maxLen w (nv + m) nv e hl
    have hown : Own (w.drew.alloc (.cells ((cc k).toArray ++ news.toArray ++ Builtin.zeroCells z0.cells (grownCap w (nv + m) nv e - (nv + m))) e)) B e (.slice (some ⟨w.heap.size, 0, none⟩) (nv + m) (grownCap w (nv + m) nv e)) (cc k ++ news) := by
      unfold Own
      have hlen : (cc k ++ news).length = nv + m := by rw [List.length_append, hnv, hm]
      rw [hlen]
      refine ⟨by rw [hlen]; omega, .inr ⟨w.heap.size, _, _, rfl, hBw, heap_alloc_new w.drew _, hge, hcm, ?_, ?_⟩⟩
      · simp only [Array.size_append, List.size_toArray, size_zeroCells, hz]
        omega
      · simp only [Array.toList_append, List.append_assoc]
        rw [← List.append_assoc, Nat.mul_one, ← hlen]
        exact List.take_left
    have hgr : w.grownBy (w.drew.alloc (.cells ((cc k).toArray ++ news.toArray ++ Builtin.zeroCells z0.cells (grownCap w (nv + m) nv e - (nv + m))) e)) none := ⟨rfl, rfl, rfl, by simp, fun k hk _ => heap_alloc_old w.drew _ hk⟩
    have hkw := h.kb.size
    have hlb : ∀ b, b < w.heap.size → (if b = w.heap.size then k else lab b) = lab b := fun b hb => if_neg (by omega)
    have hk0 := Kb.grown (S := []) hgr (fun b hb => by cases hb)
    refine ⟨fun b => if b = w.heap.size then k else lab b, (h.upd hlb).at_ hk (S' := []) hk0 (fun b hb => by cases hb) (fun _ _ => rfl) (fun u hK' hu => ?_) (Nat.le_refl _), hown, fun b hb => ?_, fun u hK' hu => ?_⟩
    · rw [hvk] at hu; cases hu
      exact OwnE.kb (hoE hK') hk0 (fun g hg hgS => by cases hgS)
    · cases hb
      exact ⟨if_pos rfl, .inr hkw⟩
    · rw [hvk] at hu; cases hu
      exact .inr fun x hx => by have := hsp bv ov rfl x hx; simpa [Value.ownBlock] using this
  rcases hG with ⟨hi0, hv⟩ | hG
  · obtain rfl := hxs hi0
    by_cases hK : k < K
    · have h3 := h.sv k hK
      have h4 := h.seg (by omega)
      have h4s := (World.ownsRow.lt h4.1 gb rfl).2
      have hv' : v = segV gb wd k := by rw [h3.1] at hv; exact (Option.some.inj hv).symm
      refine full (some ⟨gb, if wd = 0 then 0 else k * wd, none⟩) (by rw [hv', h3.2]; rfl) (fun b o e x hx hx2 => ?_) ⟨_, _, rfl, fun j hj => ?_⟩ hv (fun hK' => absurd hK (by omega)) hb hl
      · rw [hv'] at hx
        have e1 : gb = x := by simpa [segV, Value.ownBlock] using hx
        have e2 : w.heap.size = x := by simpa [Value.ownBlock] using hx2
        omega
      · have hj' : j < wd := by rw [← h3.2]; exact hj
        rw [if_neg (by omega)]
        have h5 := flC_at (fun j hj => (h.sv j hj).2) hK hj'
        have hlt : k * wd + j < (flC cc K).length := by
          rw [List.getElem?_eq_getElem hj] at h5
          exact (List.getElem?_eq_some_iff.1 h5).1
        rw [Own.cell h4.1 hlt, ← h5, List.getElem?_eq_getElem hlt]
    · have ho := (h.own k v (by omega) hv).1
      rcases ho with ho1 | ⟨g, c', hv', ho1⟩
      · exact main (h.gr hv (by omega) ho1) hb hl
      · have hgs := (World.ownsRow.lt ho1 g rfl).2
        refine full (some ⟨g, 0, none⟩) hv' (fun b o e x hx hx2 => ?_) ⟨_, _, rfl, fun j hj => ?_⟩ hv (fun _ => .inr ⟨g, c', hv', ho1⟩) hb hl
        · rw [hv'] at hx
          have e1 : g = x := by simpa [Value.ownBlock] using hx
          have e2 : w.heap.size = x := by simpa [Value.ownBlock] using hx2
          omega
        · rw [Nat.zero_add, Own.cell ho1 hj, List.getElem?_eq_getElem hj]
  · exact main hG hb hl
end
open Classical in
/-- the beginning: stripes of one row, and lists of one's own, no two in one row -/
theorem Fs.init {w : World} {B : Nat} {t tt : TypeId} {A : Option Addr} {ss : List Value} {K gb wd : Nat} {cc dd : Nat → List Value} (hB : B ≤ w.heap.size) (hr : RdC w A ss) (ho : ∀ (j : Nat) (v : Value), K ≤ j → ss[j]? = some v → OwnE w B t v (cc j))
    (hsv : ∀ j, j < K → ss[j]? = some (segV gb wd j) ∧ (cc j).length = wd) (hsg : 0 < K → Own w B t (.slice (some ⟨gb, 0, none⟩) (wd * K) (wd * K)) (flC cc K)) (hsep : ∀ (j : Nat) (v : Value), 0 < K → K ≤ j → ss[j]? = some v → v.ownBlock ≠ some gb)
    (hs : ∀ (i j : Nat) (v u : Value), K ≤ i → ss[i]? = some v → ss[j]? = some u → i < j → sep v u) (hA : ∀ b o, A = some ⟨b, o, none⟩ → b < w.heap.size ∧ ∀ (j : Nat) (v : Value), ss[j]? = some v → v.ownBlock ≠ some b) :
    ∃ lab, Fs w B t tt (ss.filterMap Value.ownBlock) A ss K gb wd lab cc (.slice none 0 0) [] 0 dd w := by
  refine ⟨fun b => if (∃ o, A = some ⟨b, o, none⟩) then ss.length + 1 else if b = gb ∧ 0 < K then ss.length + 3 else ss.findIdx (atB b), ?_⟩
  have hfind : ∀ j (v : Value), K ≤ j → ss[j]? = some v → ∀ b, v.ownBlock = some b → ss.findIdx (atB b) = j := by
    intro j v hK hj b hb
    have hjl := (List.getElem?_eq_some_iff.1 hj).1
    have hjv := (List.getElem?_eq_some_iff.1 hj).2
    have hlt : ss.findIdx (atB b) < ss.length := List.findIdx_lt_length_of_exists ⟨v, by rw [← hjv]; exact List.getElem_mem _, atB_iff.2 hb⟩
    have hp' : ss[ss.findIdx (atB b)].ownBlock = some b := atB_iff.1 (List.findIdx_getElem (w := hlt))
    rcases Nat.lt_or_ge (ss.findIdx (atB b)) K with h0 | h0
    · have h1 := (hsv _ h0).1
      rw [List.getElem?_eq_getElem hlt] at h1
      have h2 : ss[ss.findIdx (atB b)] = segV gb wd (ss.findIdx (atB b)) := by simpa using h1
      rw [h2] at hp'
      have h3 : gb = b := by simpa [segV, Value.ownBlock] using hp'
      subst h3
      exact absurd hb (hsep j v (by omega) hK hj)
    rcases Nat.lt_trichotomy (ss.findIdx (atB b)) j with h1 | h1 | h1
    · exact absurd hb (hs _ _ _ _ h0 (List.getElem?_eq_getElem hlt) hj h1 b hp')
    · exact h1
    · exact absurd hp' (hs _ _ _ _ hK hj (List.getElem?_eq_getElem hlt) h1 b hb)
  have hA' : ∀ j (v : Value), ss[j]? = some v → ∀ b, v.ownBlock = some b → ¬ ∃ o, A = some ⟨b, o, none⟩ := fun j v hv b hb he => by obtain ⟨o, e⟩ := he; exact (hA b o e).2 j v hv hb
  refine ⟨Kb.refl _ _, hB, hr, fun b o e => ⟨if_pos ⟨o, e⟩, (hA b o e).1, fun hb => ?_⟩, fun j v hK hv => ⟨ho j v hK hv, fun b hb => ⟨?_, .inl (List.mem_filterMap.2 ⟨v, List.mem_of_getElem? hv, hb⟩)⟩⟩, fun h0 => ⟨hsg h0, ?_, ?_, (World.ownsRow.lt (hsg h0) gb rfl).2⟩, hsv, ⟨Own.nil _ _ _, fun b hb => by cases hb⟩, Nat.zero_le _, fun j v hj => absurd hj (by omega)⟩
  · obtain ⟨v, hv, hb⟩ := List.mem_filterMap.1 hb
    obtain ⟨j, hj⟩ := List.mem_iff_getElem?.1 hv
    exact (hA b o e).2 j v hj hb
  · show (if (∃ o, A = some ⟨b, o, none⟩) then ss.length + 1 else if b = gb ∧ 0 < K then ss.length + 3 else ss.findIdx (atB b)) = j
    rw [if_neg (hA' j v hv b hb), if_neg (fun e => by obtain ⟨e, h0⟩ := e; subst e; exact hsep j v h0 hK hv hb)]
    exact hfind j v hK hv b hb
  · show (if (∃ o, A = some ⟨gb, o, none⟩) then ss.length + 1 else if gb = gb ∧ 0 < K then ss.length + 3 else ss.findIdx (atB gb)) = _
    rw [if_neg (hA' 0 _ (hsv 0 h0).1 gb rfl), if_pos ⟨rfl, h0⟩]
  · exact List.mem_filterMap.2 ⟨_, List.mem_of_getElem? (hsv 0 h0).1, rfl⟩
end Go.Proofs.Ytpojijnjdlnokaa
