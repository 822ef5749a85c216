/- Texts joined: HdEP. -/
import Derived.Test.YtpojijnjdlnokaaM25
/- Layer 14: lists of headers, each with rows of its own: what a store into the list or into a header's rows leaves. -/
namespace Go.Proofs.Ytpojijnjdlnokaa
open Go.RowKit
set_option linter.unusedVariables false

theorem flat_setG (cs : List (List Value)) (s : Nat) (h : ∀ c ∈ cs, c.length = s) : ∀ (k i : Nat) (u : Value), k < cs.length → i < s → cs.flatten.set (k * s + i) u = (cs.set k ((cs.getD k []).set i u)).flatten := by
  induction cs with
  | nil => intro k i u hk; simp at hk
  | cons c r ih =>
    intro k i u hk hi
    have hc := h c (by simp)
    rcases k with _ | k
    · simp only [List.flatten_cons, List.set_cons_zero, List.getD_cons_zero, Nat.zero_mul, Nat.zero_add]
      rw [List.set_append_left (h := by omega)]
    · have h' := ih (fun x hx => h x (by simp [hx])) k i u (by simpa using hk) hi
      simp only [List.flatten_cons, List.set_cons_succ, List.getD_cons_succ]
      have e : (k + 1) * s = k * s + s := Nat.succ_mul k s
      rw [List.set_append_right (h := by omega), ← h']
      congr 2
      omega
theorem OwnP.setF {w : World} {B : Nat} {t : TypeId} {s g n c : Nat} {ps : List (List Value)} (h : OwnP w B t s (.slice (some ⟨g, 0, none⟩) n c) ps) {k i : Nat} (hk : k < ps.length) (hi : i < s) (hn : n = ps.length) (u : Value) :
    OwnP (w.setCell ⟨g, k * s + i, none⟩ u) B t s (.slice (some ⟨g, 0, none⟩) n c) (ps.set k ((ps.getD k []).set i u)) := by
  have h1 := h.1
  have h2 := h.2
  subst hn
  refine ⟨fun x hx => ?_, ?_⟩
  · rcases List.mem_or_eq_of_mem_set hx with hx | hx
    · exact h1 x hx
    · rw [hx, List.length_set]
      exact h1 _ (by rw [List.getD_eq_getElem?_getD, List.getElem?_eq_getElem hk]; exact List.getElem_mem _)
  · have := (World.ownsRow.stored h2 (k * s + i) u).1
    rw [flat_setG ps s h1 k i u hk hi] at this
    rw [List.length_set]
    exact this
theorem OwnP.sepT {w : World} {B B' : Nat} {t t' : TypeId} {s s' : Nat} {v u : Value} {ps qs : List (List Value)} (h : OwnP w B t s v ps) (h' : OwnP w B' t' s' u qs) (ht : t ≠ t') : ∀ k, u.ownBlock = some k → v.ownBlock ≠ some k := by
  intro k hk hv
  rcases h.2.2 with ⟨rfl, _⟩ | ⟨g, cap, cur, rfl, _, hg, _⟩
  · cases hv
  rcases h'.2.2 with ⟨rfl, _⟩ | ⟨g', cap', cur', rfl, _, hg', _⟩
  · cases hk
  simp only [Value.ownBlock, Option.some.injEq] at hk hv
  subst hk
  subst hv
  rw [hg] at hg'
  injection hg' with hg'
  injection hg' with _ hg'
  exact ht hg'
theorem OwnP.cellP {w : World} {B : Nat} {t : TypeId} {s g n c : Nat} {ps : List (List Value)} (h : OwnP w B t s (.slice (some ⟨g, 0, none⟩) n c) ps) {k i : Nat} (hk : k < ps.length) (hi : i < s) : ∃ u, w.cell? ⟨g, 0 + k * s + i, none⟩ = some u ∧ (ps.getD k [])[i]? = some u := by
  have hc : ps[k]? = some (ps.getD k []) := by rw [List.getD_eq_getElem?_getD, List.getElem?_eq_getElem hk]; simp
  have hl : (ps.getD k []).length = s := h.1 _ (by rw [List.getD_eq_getElem?_getD, List.getElem?_eq_getElem hk]; exact List.getElem_mem _)
  refine ⟨(ps.getD k [])[i]'(by omega), RdP.cell (OwnP.rdp h) hc (by rw [nthV_eq]; exact List.getElem?_eq_getElem (by omega)), List.getElem?_eq_getElem (by omega)⟩
/-- a header of two rows, which are its own -/
structure X2 (w : World) (B : Nat) (d : HeadV) : Prop where
  own : OwnP w B 62 2 (.slice d.A d.l d.c) (d.q.rows.map rowC)
  two : d.l = 2
  len : d.q.rows.length = 2
  n5 : I64 d.q.st ∧ I64 d.q.fr ∧ I64 d.q.ix ∧ I64 d.q.n ∧ I64 d.q.dl
  nr : ∀ p ∈ d.q.rows, I64 p.1 ∧ I64 p.2
  cap : d.l ≤ d.c
theorem X2.blk {w w' : World} {B : Nat} {d : HeadV} (h : X2 w B d) (hb : ∀ k, (Value.slice d.A d.l d.c).ownBlock = some k → w'.heap[k]? = w.heap[k]?) : X2 w' B d := ⟨h.own.blk hb, h.two, h.len, h.n5, h.nr, h.cap⟩
theorem X2.ok {w : World} {B : Nat} {d : HeadV} (h : X2 w B d) : HeadOk w d := HeadOk.ofOwn h.own (by rw [h.two, h.len]) (by rw [h.two]; decide) h.n5 h.nr h.cap
/-- so many headers, in a list of the call's own -/
def HL1 (w : World) (B : Nat) (v : Value) (m : Nat) : Prop := ∃ ds : List HeadV, ds.length = m ∧ OwnP w B 65 6 v (ds.map HeadV.cells) ∧ ∀ d ∈ ds, X2 w B d
theorem HL1.led {w w' : World} {B : Nat} {v : Value} {m : Nat} (h : HL1 w B v m) (hb : LeD w w') : HL1 w' B v m := by
  obtain ⟨ds, h1, h2, h3⟩ := h
  exact ⟨ds, h1, OwnP.led h2 hb, fun d hd => ⟨OwnP.led (h3 d hd).own hb, (h3 d hd).two, (h3 d hd).len, (h3 d hd).n5, (h3 d hd).nr, (h3 d hd).cap⟩⟩
theorem HL1.keep {w w' : World} {B : Nat} {v : Value} {m : Nat} (h : HL1 w B v m) (hb : Below w.heap.size w w') : HL1 w' B v m := by
  obtain ⟨ds, h1, h2, h3⟩ := h
  exact ⟨ds, h1, OwnP.keepAll h2 hb, fun d hd => (h3 d hd).blk fun k hk => hb.block k ((h3 d hd).own.lt k hk).2⟩
theorem HL1.grown {w w' : World} {B : Nat} {v v' : Value} {m : Nat} {ds : List HeadV} {f : HeadV} (h1 : ds.length = m) (h2 : OwnP w B 65 6 v (ds.map HeadV.cells)) (h3 : ∀ d ∈ ds, X2 w B d) (hf : X2 w B f) (ho : OwnP w' B 65 6 v' (ds.map HeadV.cells ++ [f.cells])) (hg : w.grownBy w' v.ownBlock) : HL1 w' B v' (m + 1) := by
  have hx : ∀ d, X2 w B d → X2 w' B d := fun d hd => hd.blk fun k hk => by
    have hne := OwnP.sepT h2 hd.own (by decide) k hk
    exact ((Kb.grown (S := v.ownBlock.toList) hg (fun k hk => by simp [hk])).block k (hd.own.lt k hk).2 (by intro hm; exact hne (by simpa using hm)))
  refine ⟨ds ++ [f], by simp [h1], by rw [List.map_append]; exact ho, fun d hd => ?_⟩
  rcases List.mem_append.1 hd with hd | hd
  · exact hx d (h3 d hd)
  · rw [List.mem_singleton] at hd; subst hd; exact hx _ hf
def HeadV.upd (d : HeadV) (i : Nat) (z : Int) : HeadV := ⟨match i with | 0 => {d.q with st := z} | 1 => {d.q with fr := z} | 2 => {d.q with ix := z} | 3 => {d.q with n := z} | _ => {d.q with dl := z}, d.A, d.l, d.c⟩
theorem upd_cells (d : HeadV) (i : Nat) (z : Int) (hi : i < 5) : d.cells.set i (.int .i64 z) = (d.upd i z).cells := by
  rcases i with _ | _ | _ | _ | _ | i
  iterate 5 rfl
  omega
theorem upd_X2 {w : World} {B : Nat} {d : HeadV} (i : Nat) {z : Int} (h : X2 w B d) (hz : I64 z) : X2 w B (d.upd i z) := by
  obtain ⟨h1, h2, h3, ⟨a, b, c, e, f⟩, h5, h6⟩ := h
  rcases i with _ | _ | _ | _ | i
  · exact ⟨h1, h2, h3, ⟨hz, b, c, e, f⟩, h5, h6⟩
  · exact ⟨h1, h2, h3, ⟨a, hz, c, e, f⟩, h5, h6⟩
  · exact ⟨h1, h2, h3, ⟨a, b, hz, e, f⟩, h5, h6⟩
  · exact ⟨h1, h2, h3, ⟨a, b, c, hz, f⟩, h5, h6⟩
  · exact ⟨h1, h2, h3, ⟨a, b, c, e, hz⟩, h5, h6⟩
theorem HL1.ne {w : World} {B g n c m : Nat} (h : HL1 w B (.slice (some ⟨g, 0, none⟩) n c) m) : n = m := by
  obtain ⟨ds, h1, h2, -⟩ := h
  obtain ⟨A, c', e, -⟩ := h2.form
  simp only [Value.slice.injEq, List.length_map] at e
  omega
theorem HL1.row9 {w : World} {B : Nat} {v : Value} (h : HL1 w B v 9) : ∃ g c, v = .slice (some ⟨g, 0, none⟩) 9 c ∧ B ≤ g ∧ g < w.heap.size ∧ 9 ≤ c := by
  obtain ⟨ds, h1, h2, -⟩ := h
  obtain ⟨g, c, rfl, h3, h4⟩ := OwnP.row h2 (by simp [h1])
  have h5 := h2.lt g rfl
  exact ⟨g, c, by simp [h1], h5.1, h5.2, by simpa [h1] using h3⟩
theorem HL1.numAt {w : World} {B g c : Nat} (h : HL1 w B (.slice (some ⟨g, 0, none⟩) 9 c) 9) {k i : Nat} (hk : k < 9) (hi : i < 6) : ∃ u, w.cell? ⟨g, 0 + k * 6 + i, none⟩ = some u ∧ w.frozen? ⟨g, 0 + k * 6 + i, none⟩ = false := by
  obtain ⟨ds, h1, h2, h3⟩ := h
  obtain ⟨u, hu, -⟩ := OwnP.cellP h2 (k := k) (i := i) (by simp [h1]; omega) hi
  exact ⟨u, hu, OwnP.free h2 _⟩
theorem HL1.setN {w : World} {B g c : Nat} (h : HL1 w B (.slice (some ⟨g, 0, none⟩) 9 c) 9) {k i : Nat} (hk : k < 9) (hi : i < 5) {z : Int} (hz : I64 z) : HL1 (w.setCell ⟨g, 0 + k * 6 + i, none⟩ (.int .i64 z)) B (.slice (some ⟨g, 0, none⟩) 9 c) 9 := by
  obtain ⟨ds, h1, h2, h3⟩ := h
  rw [Nat.zero_add]
  have h4 := OwnP.setF h2 (k := k) (i := i) (by simp [h1]; omega) (by omega) (by simp [h1]) (.int .i64 z)
  have e : (ds.map HeadV.cells).getD k [] = (ds[k]'(by omega)).cells := by simp [show k < ds.length by omega]
  rw [e, upd_cells _ _ _ hi, ← List.map_set] at h4
  have hx : ∀ d, X2 w B d → X2 (w.setCell ⟨g, k * 6 + i, none⟩ (.int .i64 z)) B d := fun d hd => hd.blk fun j hj => Below.heap_setCell _ _ _ _ (fun e => OwnP.sepT h2 hd.own (by decide) j hj (by simp [Value.ownBlock]; exact e.symm))
  refine ⟨_, by simp [h1], h4, fun d hd => ?_⟩
  rcases List.mem_or_eq_of_mem_set hd with hd | hd
  · exact hx d (h3 d hd)
  · rw [hd]; exact hx _ (upd_X2 i (h3 _ (List.getElem_mem _)) hz)
theorem setRF {rows : List (Int × Int)} {r f : Nat} (hr : r < rows.length) (hf : f < 2) (z : Int) : ∃ x : Int × Int, ((rows.map rowC).getD r []).set f (.int .i64 z) = rowC x ∧ (I64 z → (∀ p ∈ rows, I64 p.1 ∧ I64 p.2) → I64 x.1 ∧ I64 x.2) := by
  have e : (rows.map rowC).getD r [] = rowC rows[r] := by simp [hr]
  rw [e]
  rcases f with _ | _ | f
  · exact ⟨(z, rows[r].2), rfl, fun h1 h2 => ⟨h1, (h2 _ (List.getElem_mem hr)).2⟩⟩
  · exact ⟨(rows[r].1, z), rfl, fun h1 h2 => ⟨(h2 _ (List.getElem_mem hr)).1, h1⟩⟩
  · omega
/-- a store into any rows leaves each header's rows rows -/
theorem X2.row {w : World} {B : Nat} {d : HeadV} (h : X2 w B d) {gr r f : Nat} (hr : r < 2) (hf : f < 2) {z : Int} (hz : I64 z) : ∃ rows, X2 (w.setCell ⟨gr, 0 + r * 2 + f, none⟩ (.int .i64 z)) B ⟨{d.q with rows := rows}, d.A, d.l, d.c⟩ := by
  rw [Nat.zero_add]
  by_cases he : (Value.slice d.A d.l d.c).ownBlock = some gr
  · obtain ⟨g', c', e, -, -⟩ := OwnP.row h.own (by simp [h.len])
    have hd2 := h.own
    rw [e] at he hd2
    simp only [Value.ownBlock, Option.some.injEq] at he
    subst he
    obtain ⟨x, x1, x2⟩ := setRF (rows := d.q.rows) (r := r) (f := f) (by have := h.len; omega) hf z
    have h4 := OwnP.setF hd2 (k := r) (i := f) (by simp [h.len]; omega) hf rfl (.int .i64 z)
    rw [x1, ← List.map_set, ← e] at h4
    exact ⟨d.q.rows.set r x, h4, h.two, by simp [h.len], h.n5, mem_set_all h.nr (x2 hz h.nr), h.cap⟩
  · exact ⟨d.q.rows, h.blk fun k hk => Below.heap_setCell _ _ _ _ (fun e => he (by rw [hk, e]))⟩
theorem HL1.setR {w : World} {B gr r f m : Nat} {v : Value} (h : HL1 w B v m) (hne : v.ownBlock ≠ some gr) (hr : r < 2) (hf : f < 2) {z : Int} (hz : I64 z) : HL1 (w.setCell ⟨gr, 0 + r * 2 + f, none⟩ (.int .i64 z)) B v m := by
  obtain ⟨ds, h1, h2, h3⟩ := h
  have ho : OwnP (w.setCell ⟨gr, 0 + r * 2 + f, none⟩ (.int .i64 z)) B 65 6 v (ds.map HeadV.cells) := h2.blk fun k hk => Below.heap_setCell _ _ _ _ (fun e => hne (by rw [hk, e]))
  have hex : ∀ d : HeadV, ∃ d' : HeadV, d ∈ ds → d'.cells = d.cells ∧ X2 (w.setCell ⟨gr, 0 + r * 2 + f, none⟩ (.int .i64 z)) B d' := fun d => by
    by_cases hd : d ∈ ds
    · obtain ⟨rows, hx⟩ := (h3 d hd).row (gr := gr) hr hf hz
      exact ⟨⟨{d.q with rows := rows}, d.A, d.l, d.c⟩, fun _ => ⟨rfl, hx⟩⟩
    · exact ⟨d, fun h => absurd h hd⟩
  obtain ⟨F, hF⟩ : ∃ F : HeadV → HeadV, ∀ d ∈ ds, (F d).cells = d.cells ∧ X2 (w.setCell ⟨gr, 0 + r * 2 + f, none⟩ (.int .i64 z)) B (F d) := ⟨fun d => (hex d).choose, fun d hd => (hex d).choose_spec hd⟩
  refine ⟨ds.map F, by simp [h1], ?_, fun d hd => ?_⟩
  · have e : (ds.map F).map HeadV.cells = ds.map HeadV.cells := by
      rw [List.map_map]
      exact List.map_congr_left fun d hd => (hF d hd).1
    rw [e]; exact ho
  · obtain ⟨d0, hd0, rfl⟩ := List.mem_map.1 hd
    exact (hF d0 hd0).2
/-- a header's rows in the list, and what a store into them leaves -/
theorem HL1.rowAt {w : World} {B g c : Nat} (h : HL1 w B (.slice (some ⟨g, 0, none⟩) 9 c) 9) {k : Nat} (hk : k < 9) : ∃ gr c2, B ≤ gr ∧ w.cell? ⟨g, 0 + k * 6 + 5, none⟩ = some (.slice (some ⟨gr, 0, none⟩) 2 c2) ∧ (∀ r f, r < 2 → f < 2 → (∃ u, w.cell? ⟨gr, 0 + r * 2 + f, none⟩ = some u) ∧ w.frozen? ⟨gr, 0 + r * 2 + f, none⟩ = false ∧
    ∀ z, I64 z → HL1 (w.setCell ⟨gr, 0 + r * 2 + f, none⟩ (.int .i64 z)) B (.slice (some ⟨g, 0, none⟩) 9 c) 9) := by
  have h0 := h
  obtain ⟨ds, h1, h2, h3⟩ := h
  have hX := h3 _ (List.getElem_mem (show k < ds.length by omega))
  obtain ⟨u, hu, hu2⟩ := OwnP.cellP h2 (k := k) (i := 5) (by simp [h1]; omega) (by omega)
  have e : (ds.map HeadV.cells).getD k [] = (ds[k]'(by omega)).cells := by simp [show k < ds.length by omega]
  rw [e] at hu2
  have hu3 : u = .slice (ds[k]'(by omega)).A (ds[k]'(by omega)).l (ds[k]'(by omega)).c := by
    have : (HeadV.cells (ds[k]'(by omega)))[5]? = some (.slice (ds[k]'(by omega)).A (ds[k]'(by omega)).l (ds[k]'(by omega)).c) := rfl
    rw [this] at hu2
    exact (Option.some.inj hu2).symm
  obtain ⟨gr, c', e2, -, -⟩ := OwnP.row hX.own (by simp [hX.len])
  have e3 : ((ds[k]'(by omega)).q.rows.map rowC).length = 2 := by simp [hX.len]
  rw [e3] at e2
  have ho := hX.own
  rw [e2] at ho
  refine ⟨gr, c', (ho.lt gr rfl).1, by rw [hu, hu3, e2], fun r f hr hf => ⟨?_, OwnP.free ho _, fun z hz => h0.setR (fun e => ?_) hr hf hz⟩⟩
  · obtain ⟨u, hu, -⟩ := OwnP.cellP ho (k := r) (i := f) (by rw [e3]; exact hr) hf
    exact ⟨u, hu⟩
  · exact OwnP.sepT h2 ho (by decide) gr rfl e
/-- nine headers that can be read -/
def HL2 (w : World) (g : Nat) : Prop := ∃ ds : List HeadV, ds.length = 9 ∧ RdP w 6 (some ⟨g, 0, none⟩) (ds.map HeadV.cells) ∧ ∀ d ∈ ds, HeadOk w d
theorem HL2.keep {w w' : World} {g : Nat} (h : HL2 w g) (hb : Below w.heap.size w w') : HL2 w' g := by
  obtain ⟨ds, h1, h2, h3⟩ := h
  exact ⟨ds, h1, h2.keep hb, fun d hd => (h3 d hd).keep hb⟩
theorem HL2.at_ {w : World} {g : Nat} (h : HL2 w g) {k : Nat} (hk : k < 9) : ∃ d : HeadV, HeadOk w d ∧ RdC w (some ⟨g, 0 + k * 6, none⟩) d.cells := by
  obtain ⟨ds, h1, h2, h3⟩ := h
  exact ⟨ds[k]'(by omega), h3 _ (List.getElem_mem _), h2.part (by simp [show k < ds.length by omega])⟩
theorem HL1.last {w : World} {B B' g c gn m : Nat} (h : HL1 w B (.slice (some ⟨g, 0, none⟩) 9 c) 9) (ho : OwnP w B' 62 2 (.slice (some ⟨gn, 0, none⟩) m m) ((List.replicate m ((0 : Int), (0 : Int))).map rowC)) (hm : m ≤ 12) : HL2 (w.setCell ⟨g, 0 + 8 * 6 + 5, none⟩ (.slice (some ⟨gn, 0, none⟩) m m)) g := by
  obtain ⟨ds, h1, h2, h3⟩ := h
  have h4 := OwnP.setF h2 (k := 8) (i := 5) (by simp [h1]) (by omega) (by simp [h1]) (.slice (some ⟨gn, 0, none⟩) m m)
  have e : (ds.map HeadV.cells).getD 8 [] = (ds[8]'(by omega)).cells := by simp [show 8 < ds.length by omega]
  have e2 : (HeadV.cells (ds[8]'(by omega))).set 5 (.slice (some ⟨gn, 0, none⟩) m m) = HeadV.cells ⟨{(ds[8]'(by omega)).q with rows := List.replicate m (0, 0)}, some ⟨gn, 0, none⟩, m, m⟩ := rfl
  rw [e, e2, ← List.map_set] at h4
  have hx : ∀ d, X2 w B d → X2 (w.setCell ⟨g, 8 * 6 + 5, none⟩ (.slice (some ⟨gn, 0, none⟩) m m)) B d := fun d hd => hd.blk fun j hj => Below.heap_setCell _ _ _ _ (fun e => OwnP.sepT h2 hd.own (by decide) j hj (by simp [Value.ownBlock]; exact e.symm))
  have ho2 : OwnP (w.setCell ⟨g, 8 * 6 + 5, none⟩ (.slice (some ⟨gn, 0, none⟩) m m)) B' 62 2 (.slice (some ⟨gn, 0, none⟩) m m) ((List.replicate m ((0 : Int), (0 : Int))).map rowC) := ho.blk fun j hj => Below.heap_setCell _ _ _ _ (fun e => OwnP.sepT h2 ho (by decide) j hj (by simp [Value.ownBlock]; exact e.symm))
  refine ⟨_, by simp [h1], OwnP.rdp h4, fun d hd => ?_⟩
  rcases List.mem_or_eq_of_mem_set hd with hd | hd
  · exact (hx d (h3 d hd)).ok
  · rw [hd]
    exact HeadOk.ofOwn ho2 (by simp) (by omega) (h3 _ (List.getElem_mem _)).n5 (fun p hp => by rw [List.mem_replicate] at hp; rw [hp.2]; exact ⟨⟨by decide, by decide⟩, ⟨by decide, by decide⟩⟩) (Nat.le_refl _)
theorem flat_len' (rows : List (Int × Int)) : ((rows.map rowC).flatten).length = 2 * rows.length := by
  induction rows with
  | nil => rfl
  | cons x r ih => simp only [List.map_cons, List.flatten_cons, List.length_append, ih, List.length_cons]; simp [rowC]; omega
section
variable {P : Program} {n : Cx} {fr : Fr} {w : World} {ty T e : TypeId} {x y : Operand}
/-- make([]T, n), T a struct of two integers -/
theorem ot_makeR {k k2 : IntKind} {m c : Int} {l : Nat} {bytes : Nat} (hT : P.underlying T = some (.slice e)) (hi : TyInfo P e (.agg #[.int .i64 0, .int .i64 0]) 2 bytes) (hx : Fr.ev fr x = some (.int k m)) (hy : Fr.ev fr y = some (.int k2 c)) (hm : m = (l : Int)) (hc : c = (l : Int))
    (hb : bytes * l ≤ 281474976710656) (hl : l ≤ maxLen) (B : Nat) (hB : B ≤ w.heap.size) : OT P n (.makeSlice T x y) ty fr w fun v w' => v = .slice (some ⟨w.heap.size, 0, none⟩) l l ∧ OwnP w' B e 2 v ((List.replicate l ((0 : Int), (0 : Int))).map rowC) ∧ w.grownBy w' none := by
  subst hm; subst hc
  obtain ⟨i, h1, h2, h3, h4⟩ := info_parts hi
  obtain ⟨w', hr, ho, hg⟩ := run_make_full (P := P) w B T e i _ 2 hT h1 h2 h3 k k2 l (by rw [h4]; exact hb) hl hB
  refine ot_of fun a ha => ⟨_, w', by simp [execOp, ha.ev hx, ha.ev hy, hr, Result.andThen], rfl, ⟨rowC_len _, ?_⟩, hg⟩
  have hcells : (madeCells (Value.agg #[.int .i64 0, .int .i64 0]).cells (l * 2)).toList = ((List.replicate l ((0 : Int), (0 : Int))).map rowC).flatten := by
    have e1 : (madeCells (Value.agg #[.int .i64 0, .int .i64 0]).cells (l * 2)).toList = List.replicate (l * 2) (.int .i64 0) := by
      apply List.ext_getElem
      · simp [madeCells]
      · intro i h1 h2
        have : i % 2 = 0 ∨ i % 2 = 1 := by omega
        rcases this with h | h <;> simp [madeCells, Value.cells, h]
    rw [e1]
    symm
    rw [List.eq_replicate_iff]
    refine ⟨by rw [flat_len']; simp; omega, fun b hb => ?_⟩
    simp only [List.mem_flatten, List.mem_map, List.mem_replicate] at hb
    obtain ⟨c, ⟨p, ⟨-, rfl⟩, rfl⟩, hb⟩ := hb
    simpa [rowC] using hb
  rw [hcells] at ho
  rw [List.length_map, List.length_replicate]
  exact ho
end
theorem ti_wHead : TyInfo Try.prog 65 (.agg zH.toArray) 6 64 := by unfold TyInfo; kernel_rfl
end Go.Proofs.Ytpojijnjdlnokaa
