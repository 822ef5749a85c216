/- Rows of parts of several cells each; and how an argument that is a list of structs, or of lists, opens. No program in sight. -/
import Derived.Test.YtpojijnjdlnokaaFin
import Derived.Test.YtpojijnjdlnokaaM
import Derived.Test.YtpojijnjdlnokaaKb
import Derived.OpenShut
import Derived.ChangeOld
import Derived.SizedLaws
import Derived.Lib.SmallJoins
namespace Go.Proofs.Ytpojijnjdlnokaa
open Go.ChangeShapes Go.WideShapes Go.ChangeAt Go.RowKit
set_option linter.unusedVariables false

/-- A leads to a row of parts of s cells each -/
def RdP (w : World) (s : Nat) (A : Option Addr) (ps : List (List Value)) : Prop :=
  ∀ (i : Nat) (c : List Value), ps[i]? = some c → ∃ b o, A = some ⟨b, o, none⟩ ∧ ∀ (j : Nat) (v : Value), c[j]? = some v → w.cell? ⟨b, o + i * s + j, none⟩ = some v
theorem RdP.keep {w w' s A ps} (h : RdP w s A ps) (hb : Below w.heap.size w w') : RdP w' s A ps := fun i c hc => by
  obtain ⟨b, o, e, h1⟩ := h i c hc
  exact ⟨b, o, e, fun j v hv => by
    have h2 := h1 j v hv
    have := World.block_lt_of_cell? w _ h2
    exact (hb.cell (p := ⟨b, o + i * s + j, none⟩) this).trans h2⟩
theorem RdP.led {w w' s A ps} (h : RdP w s A ps) (hb : LeD w w') : RdP w' s A ps := by obtain ⟨q, rfl⟩ := hb; exact h
theorem RdP.take {w s A ps} (h : RdP w s A ps) (n : Nat) : RdP w s A (ps.take n) := fun i c hc => by
  rw [List.getElem?_take] at hc
  split at hc
  · exact h i c hc
  · cases hc
theorem RdP.part {w s b o ps} (h : RdP w s (some ⟨b, o, none⟩) ps) {i : Nat} {c : List Value} (hc : ps[i]? = some c) : RdC w (some ⟨b, o + i * s, none⟩) c := fun hl => by
  obtain ⟨b', o', e, h1⟩ := h i c hc
  cases e
  exact ⟨b, o + i * s, rfl, fun j hj => by rw [h1 j c[j] (List.getElem?_eq_getElem hj), List.getElem?_eq_getElem hj]⟩
theorem RdP.cell {w s b o ps} (h : RdP w s (some ⟨b, o, none⟩) ps) {i j : Nat} {c : List Value} {v : Value} (hc : ps[i]? = some c) (hv : nthV c j = some v) : w.cell? ⟨b, o + i * s + j, none⟩ = some v := by
  rw [nthV_eq] at hv
  obtain ⟨b', o', e, h1⟩ := h i c hc
  cases e
  exact h1 j v hv
theorem RdP.toC {w A ps} (h : RdP w 1 A ps) (hl : ∀ c ∈ ps, c.length = 1) : RdC w A (ps.map (·.headD default)) := fun h0 => by
  have h0' : 0 < ps.length := by simpa using h0
  obtain ⟨b, o, e, _⟩ := h 0 _ (List.getElem?_eq_getElem h0')
  subst e
  refine ⟨b, o, rfl, fun i hi => ?_⟩
  have hi' : i < ps.length := by simpa using hi
  have h1 := hl ps[i] (List.getElem_mem _)
  obtain ⟨v, hv⟩ : ∃ v, ps[i] = [v] := by
    match hh : ps[i], h1 with
    | [v], _ => exact ⟨v, rfl⟩
  have := h.cell (i := i) (j := 0) (List.getElem?_eq_getElem hi') (v := v) (by rw [hv]; rfl)
  rw [Nat.mul_one, Nat.add_zero] at this
  rw [this]
  simp [hi', hv]
theorem RdC.toP {w A cs} (h : RdC w A cs) : RdP w 1 A (cs.map fun v => [v]) := fun i c hc => by
  have hi : i < cs.length := by simpa using (List.getElem?_eq_some_iff.1 hc).1
  obtain ⟨b, o, e, h1⟩ := h (by omega)
  refine ⟨b, o, e, fun j v hv => ?_⟩
  simp only [List.getElem?_map] at hc
  rw [List.getElem?_eq_getElem hi] at hc
  cases hc
  cases j with
  | zero => cases hv; rw [Nat.mul_one, Nat.add_zero, h1 i hi, List.getElem?_eq_getElem hi]
  | succ j => cases hv

section
variable {P : Program} {n : Cx} {fr : Fr} {w : World} {ty : TypeId} {x y z : Operand} {T T2 e : TypeId}
/-- a struct in a row is read whole -/
theorem os_loadP {A : Addr} {cs : List Value} {d : TypeDesc} (hu : P.underlying T = some d) (hd : (match d with | .struct _ | .array _ _ => true | _ => false) = true) (hs : (P.info? T).map (·.size) = some cs.length) (hx : Fr.ev fr x = some (.pointer (some A))) (hr : RdC w (some A) cs) :
    OS P n (.load T x) ty fr w (.agg cs.toArray) w := os_of fun a ha => by
  have hl : (loadCells A cs.length).run P w = .ok cs.toArray w := run_loadCells_list (P := P) w A cs (fun j u hu => by
    have hj := (List.getElem?_eq_some_iff.1 hu).1
    obtain ⟨b, off, e1, hc⟩ := hr (by omega)
    cases e1
    rw [addr_add, hc j hj]; exact hu)
  obtain ⟨i, hi, hi1⟩ : ∃ i, P.info? T = some i ∧ i.size = cs.length := by
    cases hq : P.info? T with
    | none => simp [hq] at hs
    | some i => exact ⟨i, rfl, by simpa [hq] using hs⟩
  have hagg : ∀ w, (isAgg T).run P w = .ok true w := fun w => by
    cases d <;> simp at hd <;> simp [isAgg, run_underlying hu]
  simp [execOp, ha.ev hx, Instr.loadAt, Instr.sureAddr, loadVar, hagg, sizeOf, typeInfo, hi, hi1, hl]
end

section
variable {H : Type} {enc : TypeId × Value → H} {P : Program} {w : World} {base : Nat} {spare : Nat → Bool} {held : Bool} {t e : TypeId} {fuel : Nat} {cs : List Value} {x : DataW H × List MemPlace}
theorem mem_all {d : DataW H} {m : Nat} (hm : m ∈ d.weights P e) : ∀ {l : List (DataW H)}, d ∈ l → m ∈ DataW.weightsAll P e l
  | c :: r, h => by
    simp only [DataW.weightsAll, List.mem_append]
    rcases List.mem_cons.1 h with rfl | h
    · exact .inl hm
    · exact .inr (mem_all hm h)
theorem sized_all {ts : List TypeId} {ds : List (DataW H)} (h : (DataW.weightsEach P ts ds).all (· ≤ reachBytes) = true) {j : Nat} {t : TypeId} {d : DataW H} (ht : ts[j]? = some t) (hd : ds[j]? = some d) : ∀ m ∈ d.weights P t, m ≤ reachBytes := fun m hm => by
  have := List.all_eq_true.1 h _ (DataW.weights_mem_each ht hd m hm)
  simpa using this
theorem open_parts {s : Nat} (ht : P.underlying t = some (.slice e)) (hC : P.cellsOf e = s) (h0 : 0 < s) (h : DataW.trod enc P w base spare held fuel t cs = some x) (hw : ∀ m ∈ x.1.weights P t, m ≤ reachBytes) :
    ∃ A len cap ps, cs = [.slice A len cap] ∧ ps.length = len ∧ len ≤ cap ∧ len * P.bytesOf e ≤ reachBytes ∧ RdP w s A ps ∧ ∀ c ∈ ps, c.length = s ∧ ∃ n y, DataW.trod enc P w base spare held n e c = some y ∧ ∀ m ∈ y.1.weights P e, m ≤ reachBytes := by
  subst hC
  rcases DataW.trod_slice ht h with ⟨rfl, _⟩ | ⟨a, len, cap, elems, rest, n, _, rfl, rfl, hb, hl, hm, hlen, hel, _, _⟩
  · exact ⟨none, 0, 0, [], rfl, rfl, Nat.le_refl _, by simp, fun i c hc => by simp at hc, fun c hc => by cases hc⟩
  · have hwl : len * P.bytesOf e ≤ reachBytes := by
      have := hw ((elems.length + rest.length) * P.bytesOf e) (by simp [DataW.weights, ht])
      exact Nat.le_trans (Nat.mul_le_mul_right _ (by omega)) this
    have hwe : ∀ y ∈ elems, ∀ m ∈ y.1.weights P e, m ≤ reachBytes := fun y hy m hm => hw m (by
      simp only [DataW.weights, ht, List.mem_cons, List.mem_append]
      exact .inr (.inl (mem_all hm (List.mem_map_of_mem hy))))
    have hparts : ∀ i, i < len → ∃ c, w.cells? base (a.add (i * P.cellsOf e)) (P.cellsOf e) = some c ∧ ∃ y, DataW.trod enc P w base spare held n e c = some y ∧ ∀ m ∈ y.1.weights P e, m ≤ reachBytes := fun i hi => by
      have h1 := hel i hi
      rw [List.getElem?_eq_getElem (by omega), Option.bind_eq_some_iff] at h1
      obtain ⟨c, h2, h3⟩ := h1
      exact ⟨c, h2, _, h3, hwe _ (List.getElem_mem _)⟩
    have hps : ∃ ps : List (List Value), ps.length = len ∧ ∀ i (c : List Value), ps[i]? = some c → w.cells? base (a.add (i * P.cellsOf e)) (P.cellsOf e) = some c ∧ ∃ y, DataW.trod enc P w base spare held n e c = some y ∧ ∀ m ∈ y.1.weights P e, m ≤ reachBytes := by
      clear hel h hw
      have : ∀ k, k ≤ len → ∃ ps : List (List Value), ps.length = k ∧ ∀ i (c : List Value), ps[i]? = some c → w.cells? base (a.add (i * P.cellsOf e)) (P.cellsOf e) = some c ∧ ∃ y, DataW.trod enc P w base spare held n e c = some y ∧ ∀ m ∈ y.1.weights P e, m ≤ reachBytes := by
        intro k
        induction k with
        | zero => intro _; exact ⟨[], rfl, fun i c hc => by simp at hc⟩
        | succ k ih =>
          intro hk
          obtain ⟨ps, h1, h2⟩ := ih (by omega)
          obtain ⟨c, h3, h4⟩ := hparts k (by omega)
          refine ⟨ps ++ [c], by simp [h1], fun i c' hc' => ?_⟩
          by_cases hi : i < k
          · rw [List.getElem?_append_left (by omega)] at hc'
            exact h2 i c' hc'
          · have hi2 : i = k := by have := (List.getElem?_eq_some_iff.1 hc').1; simp at this; omega
            subst hi2
            rw [List.getElem?_append_right (by omega), h1, Nat.sub_self] at hc'
            cases hc'
            exact ⟨h3, h4⟩
      exact this len (Nat.le_refl _)
    obtain ⟨ps, h1, h2⟩ := hps
    refine ⟨some a, len, cap, ps, rfl, h1, hl, hwl, fun i c hc => ?_, fun c hc => ?_⟩
    · have hi := (List.getElem?_eq_some_iff.1 hc).1
      obtain ⟨b, o, spot⟩ := a
      have hspot : spot = none := by
        obtain ⟨h3, _⟩ := h2 0 ps[0] (List.getElem?_eq_getElem (by omega))
        obtain ⟨_, h4, h5⟩ := World.cells?_some h3
        have h6 := h5 0 (by omega)
        rw [List.getElem?_eq_getElem (by omega)] at h6
        simpa [Addr.add] using World.cell?_spot h6
      subst hspot
      obtain ⟨h3, _⟩ := h2 i c hc
      obtain ⟨_, h4, h5⟩ := World.cells?_some h3
      refine ⟨b, o, rfl, fun j v hv => ?_⟩
      have hj := (List.getElem?_eq_some_iff.1 hv).1
      have h7 := h5 j (by omega)
      rw [addr_add, addr_add, hv] at h7
      exact h7
    · obtain ⟨i, hi⟩ := List.mem_iff_getElem?.1 hc
      obtain ⟨h3, y, h4⟩ := h2 i c hi
      exact ⟨(World.cells?_some h3).2.1, n, y, h4⟩
/-- an element that is a list of numbers -/
theorem open_nums {k : IntKind} (ht : P.underlying t = some (.slice e)) (he : P.underlying e = some (.int k)) (hC : P.cellsOf e = 1) (h : DataW.trod enc P w base spare held fuel t cs = some x) (hw : ∀ m ∈ x.1.weights P t, m ≤ reachBytes) :
    ∃ A len cap zs, cs = [.slice A len cap] ∧ zs.length = len ∧ len ≤ cap ∧ len * P.bytesOf e ≤ reachBytes ∧ Rd w k A zs ∧ ∀ z ∈ zs, (Lit.int k z).wf = true := by
  obtain ⟨A, len, cap, ps, rfl, h1, h2, h3, h4, h5⟩ := open_parts ht hC (by omega) h hw
  have hz : ∀ ps : List (List Value), (∀ c ∈ ps, c.length = 1 ∧ ∃ n y, DataW.trod enc P w base spare held n e c = some y ∧ ∀ m ∈ y.1.weights P e, m ≤ reachBytes) → ∃ zs : List Int, ps = zs.map (fun z => [Value.int k z]) ∧ ∀ z ∈ zs, (Lit.int k z).wf = true := by
    intro ps
    induction ps with
    | nil => intro _; exact ⟨[], rfl, fun z hz => by cases hz⟩
    | cons c r ih =>
      intro hh
      obtain ⟨zs, e1, e2⟩ := ih (fun c hc => hh c (by simp [hc]))
      obtain ⟨_, n, y, hy, _⟩ := hh c (by simp)
      obtain ⟨z, e3, _, e4⟩ := DataW.trod_int he hy
      exact ⟨z :: zs, by rw [e1, e3]; rfl, fun z' hz' => by rcases List.mem_cons.1 hz' with rfl | hz'; exact e4; exact e2 z' hz'⟩
  obtain ⟨zs, rfl, hwf⟩ := hz ps h5
  refine ⟨A, len, cap, zs, rfl, by simpa using h1, h2, h3, ?_, hwf⟩
  have := RdP.toC h4 (fun c hc => by obtain ⟨z, _, rfl⟩ := List.mem_map.1 hc; rfl)
  rw [List.map_map, show zs.map ((fun x => x.headD default) ∘ fun z => [Value.int k z]) = zs.map (Value.int k) from List.map_congr_left fun z _ => rfl] at this
  exact RdC.toRd this
/-- parts that each open to something -/
theorem parts_map {D : Type} (f : D → List Value) (G : D → Prop) : ∀ ps : List (List Value), (∀ c ∈ ps, ∃ d, f d = c ∧ G d) → ∃ ds : List D, ds.map f = ps ∧ ∀ d ∈ ds, G d
  | [], _ => ⟨[], rfl, fun d hd => by cases hd⟩
  | c :: r, h => by
    obtain ⟨ds, e1, e2⟩ := parts_map f G r (fun c hc => h c (by simp [hc]))
    obtain ⟨d, e3, e4⟩ := h c (by simp)
    exact ⟨d :: ds, by simp [e1, e3], fun d' hd' => by rcases List.mem_cons.1 hd' with rfl | hd'; exact e4; exact e2 d' hd'⟩
end
end Go.Proofs.Ytpojijnjdlnokaa
