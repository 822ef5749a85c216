/- Texts joined: Rs Rw Own FixP FixA FixB FixC FixD Back. -/
import Derived.Test.YtpjmiafefammkaaM3
import Derived.OpenShut
import Derived.ChangeOld
import Derived.SizedLaws
import Derived.Lib.SmallJoins
import Derived.Test.YtpjmiafefammkaaProg
import Derived.RangeFuncOwn
import Derived.Shelf.Abstract
import Derived.RangeFuncBox
import Derived.RangeFuncNested
import Derived.RangeFuncBound
import Derived.RangeFuncCalls
import Derived.RangeFuncLeaves
import Derived.Shelf.RegionOpen
import Derived.WalkKit
import Derived.OwnWalkIn
import Derived.TacticsInMore
import Derived.LoopNIn
import Derived.LoopIn
/- Rows of parts of several cells each; and how an argument that is a list of structs, or of lists, opens. No program in sight. -/
namespace Go.Proofs.Ytpjmiafefammkaa
open Go.ChangeShapes Go.WideShapes Go.ChangeAt Go.RowKit
set_option linter.unusedVariables false

/-- A leads to a row of parts of s cells each -/
def RdP (w : World) (s : Nat) (A : Option Addr) (ps : List (List Value)) : Prop :=
  ∀ (i : Nat) (c : List Value), ps[i]? = some c → ∃ b o, A = some ⟨b, o, none⟩ ∧ ∀ (j : Nat) (v : Value), c[j]? = some v → w.cell? ⟨b, o + i * s + j, none⟩ = some v
theorem RdP.keep {w w' s A ps} (h : RdP w s A ps) (hb : Below w.heap.size w w') : RdP w' s A ps := fun i c hc => by
  obtain ⟨b, o, e, h1⟩ := h i c hc
  exact ⟨b, o, e, fun j v hv => by
    have h2 := h1 j v hv
    have := World.block_lt_of_cell? w _ h2
    exact (hb.cell (p := ⟨b, o + i * s + j, none⟩) this).trans h2⟩
theorem RdP.led {w w' s A ps} (h : RdP w s A ps) (hb : LeD w w') : RdP w' s A ps := by obtain ⟨q, rfl⟩ := hb; exact h
theorem RdP.take {w s A ps} (h : RdP w s A ps) (n : Nat) : RdP w s A (ps.take n) := fun i c hc => by
  rw [List.getElem?_take] at hc
  split at hc
  · exact h i c hc
  · cases hc
theorem RdP.part {w s b o ps} (h : RdP w s (some ⟨b, o, none⟩) ps) {i : Nat} {c : List Value} (hc : ps[i]? = some c) : RdC w (some ⟨b, o + i * s, none⟩) c := fun hl => by
  obtain ⟨b', o', e, h1⟩ := h i c hc
  cases e
  exact ⟨b, o + i * s, rfl, fun j hj => by rw [h1 j c[j] (List.getElem?_eq_getElem hj), List.getElem?_eq_getElem hj]⟩
theorem RdP.cell {w s b o ps} (h : RdP w s (some ⟨b, o, none⟩) ps) {i j : Nat} {c : List Value} {v : Value} (hc : ps[i]? = some c) (hv : nthV c j = some v) : w.cell? ⟨b, o + i * s + j, none⟩ = some v := by
  rw [nthV_eq] at hv
  obtain ⟨b', o', e, h1⟩ := h i c hc
  cases e
  exact h1 j v hv
theorem RdP.toC {w A ps} (h : RdP w 1 A ps) (hl : ∀ c ∈ ps, c.length = 1) : RdC w A (ps.map (·.headD default)) := fun h0 => by
  have h0' : 0 < ps.length := by simpa using h0
  obtain ⟨b, o, e, _⟩ := h 0 _ (List.getElem?_eq_getElem h0')
  subst e
  refine ⟨b, o, rfl, fun i hi => ?_⟩
  have hi' : i < ps.length := by simpa using hi
  have h1 := hl ps[i] (List.getElem_mem _)
  obtain ⟨v, hv⟩ : ∃ v, ps[i] = [v] := by
    match hh : ps[i], h1 with
    | [v], _ => exact ⟨v, rfl⟩
  have := h.cell (i := i) (j := 0) (List.getElem?_eq_getElem hi') (v := v) (by rw [hv]; rfl)
  rw [Nat.mul_one, Nat.add_zero] at this
  rw [this]
  simp [hi', hv]
theorem RdC.toP {w A cs} (h : RdC w A cs) : RdP w 1 A (cs.map fun v => [v]) := fun i c hc => by
  have hi : i < cs.length := by simpa using (List.getElem?_eq_some_iff.1 hc).1
  obtain ⟨b, o, e, h1⟩ := h (by omega)
  refine ⟨b, o, e, fun j v hv => ?_⟩
  simp only [List.getElem?_map] at hc
  rw [List.getElem?_eq_getElem hi] at hc
  cases hc
  cases j with
  | zero => cases hv; rw [Nat.mul_one, Nat.add_zero, h1 i hi, List.getElem?_eq_getElem hi]
  | succ j => cases hv

section
variable {P : Program} {n : Cx} {fr : Fr} {w : World} {ty : TypeId} {x y z : Operand} {T T2 e : TypeId}
/-- a struct in a row is read whole -/
theorem os_loadP {A : Addr} {cs : List Value} {d : TypeDesc} (hu : P.underlying T = some d) (hd : (match d with | .struct _ | .array _ _ => true | _ => false) = true) (hs : (P.info? T).map (·.size) = some cs.length) (hx : Fr.ev fr x = some (.pointer (some A))) (hr : RdC w (some A) cs) :
    OS P n (.load T x) ty fr w (.agg cs.toArray) w := os_of fun a ha => by
  have hl : (loadCells A cs.length).run P w = .ok cs.toArray w := run_loadCells_list (P := P) w A cs (fun j u hu => by
    have hj := (List.getElem?_eq_some_iff.1 hu).1
    obtain ⟨b, off, e1, hc⟩ := hr (by omega)
    cases e1
    rw [addr_add, hc j hj]; exact hu)
  obtain ⟨i, hi, hi1⟩ : ∃ i, P.info? T = some i ∧ i.size = cs.length := by
    cases hq : P.info? T with
    | none => simp [hq] at hs
    | some i => exact ⟨i, rfl, by simpa [hq] using hs⟩
  have hagg : ∀ w, (isAgg T).run P w = .ok true w := fun w => by
    cases d <;> simp at hd <;> simp [isAgg, run_underlying hu]
  simp [execOp, ha.ev hx, Instr.loadAt, Instr.sureAddr, loadVar, hagg, sizeOf, typeInfo, hi, hi1, hl]
end

section
variable {H : Type} {enc : TypeId × Value → H} {P : Program} {w : World} {base : Nat} {spare : Nat → Bool} {held : Bool} {t e : TypeId} {fuel : Nat} {cs : List Value} {x : DataW H × List MemPlace}
theorem mem_all {d : DataW H} {m : Nat} (hm : m ∈ d.weights P e) : ∀ {l : List (DataW H)}, d ∈ l → m ∈ DataW.weightsAll P e l
  | c :: r, h => by
    simp only [DataW.weightsAll, List.mem_append]
    rcases List.mem_cons.1 h with rfl | h
    · exact .inl hm
    · exact .inr (mem_all hm h)
theorem sized_all {ts : List TypeId} {ds : List (DataW H)} (h : (DataW.weightsEach P ts ds).all (· ≤ reachBytes) = true) {j : Nat} {t : TypeId} {d : DataW H} (ht : ts[j]? = some t) (hd : ds[j]? = some d) : ∀ m ∈ d.weights P t, m ≤ reachBytes := fun m hm => by
  have := List.all_eq_true.1 h _ (DataW.weights_mem_each ht hd m hm)
  simpa using this
theorem open_parts {s : Nat} (ht : P.underlying t = some (.slice e)) (hC : P.cellsOf e = s) (h0 : 0 < s) (h : DataW.trod enc P w base spare held fuel t cs = some x) (hw : ∀ m ∈ x.1.weights P t, m ≤ reachBytes) :
    ∃ A len cap ps, cs = [.slice A len cap] ∧ ps.length = len ∧ len ≤ cap ∧ len * P.bytesOf e ≤ reachBytes ∧ RdP w s A ps ∧ ∀ c ∈ ps, c.length = s ∧ ∃ n y, DataW.trod enc P w base spare held n e c = some y ∧ ∀ m ∈ y.1.weights P e, m ≤ reachBytes := by
  subst hC
  rcases DataW.trod_slice ht h with ⟨rfl, _⟩ | ⟨a, len, cap, elems, rest, n, _, rfl, rfl, hb, hl, hm, hlen, hel, _, _⟩
  · exact ⟨none, 0, 0, [], rfl, rfl, Nat.le_refl _, by simp, fun i c hc => by simp at hc, fun c hc => by cases hc⟩
  · have hwl : len * P.bytesOf e ≤ reachBytes := by
      have := hw ((elems.length + rest.length) * P.bytesOf e) (by simp [DataW.weights, ht])
      exact Nat.le_trans (Nat.mul_le_mul_right _ (by omega)) this
    have hwe : ∀ y ∈ elems, ∀ m ∈ y.1.weights P e, m ≤ reachBytes := fun y hy m hm => hw m (by
      simp only [DataW.weights, ht, List.mem_cons, List.mem_append]
      exact .inr (.inl (mem_all hm (List.mem_map_of_mem hy))))
    have hparts : ∀ i, i < len → ∃ c, w.cells? base (a.add (i * P.cellsOf e)) (P.cellsOf e) = some c ∧ ∃ y, DataW.trod enc P w base spare held n e c = some y ∧ ∀ m ∈ y.1.weights P e, m ≤ reachBytes := fun i hi => by
      have h1 := hel i hi
      rw [List.getElem?_eq_getElem (by omega), Option.bind_eq_some_iff] at h1
      obtain ⟨c, h2, h3⟩ := h1
      exact ⟨c, h2, _, h3, hwe _ (List.getElem_mem _)⟩
    have hps : ∃ ps : List (List Value), ps.length = len ∧ ∀ i (c : List Value), ps[i]? = some c → w.cells? base (a.add (i * P.cellsOf e)) (P.cellsOf e) = some c ∧ ∃ y, DataW.trod enc P w base spare held n e c = some y ∧ ∀ m ∈ y.1.weights P e, m ≤ reachBytes := by
      clear hel h hw
      have : ∀ k, k ≤ len → ∃ ps : List (List Value), ps.length = k ∧ ∀ i (c : List Value), ps[i]? = some c → w.cells? base (a.add (i * P.cellsOf e)) (P.cellsOf e) = some c ∧ ∃ y, DataW.trod enc P w base spare held n e c = some y ∧ ∀ m ∈ y.1.weights P e, m ≤ reachBytes := by
        intro k
        induction k with
        | zero => intro _; exact ⟨[], rfl, fun i c hc => by simp at hc⟩
        | succ k ih =>
          intro hk
          obtain ⟨ps, h1, h2⟩ := ih (by omega)
          obtain ⟨c, h3, h4⟩ := hparts k (by omega)
          refine ⟨ps ++ [c], by simp [h1], fun i c' hc' => ?_⟩
          by_cases hi : i < k
          · rw [List.getElem?_append_left (by omega)] at hc'
            exact h2 i c' hc'
          · have hi2 : i = k := by have := (List.getElem?_eq_some_iff.1 hc').1; simp at this; omega
            subst hi2
            rw [List.getElem?_append_right (by omega), h1, Nat.sub_self] at hc'
            cases hc'
            exact ⟨h3, h4⟩
      exact this len (Nat.le_refl _)
    obtain ⟨ps, h1, h2⟩ := hps
    refine ⟨some a, len, cap, ps, rfl, h1, hl, hwl, fun i c hc => ?_, fun c hc => ?_⟩
    · have hi := (List.getElem?_eq_some_iff.1 hc).1
      obtain ⟨b, o, spot⟩ := a
      have hspot : spot = none := by
        obtain ⟨h3, _⟩ := h2 0 ps[0] (List.getElem?_eq_getElem (by omega))
        obtain ⟨_, h4, h5⟩ := World.cells?_some h3
        have h6 := h5 0 (by omega)
        rw [List.getElem?_eq_getElem (by omega)] at h6
        simpa [Addr.add] using World.cell?_spot h6
      subst hspot
      obtain ⟨h3, _⟩ := h2 i c hc
      obtain ⟨_, h4, h5⟩ := World.cells?_some h3
      refine ⟨b, o, rfl, fun j v hv => ?_⟩
      have hj := (List.getElem?_eq_some_iff.1 hv).1
      have h7 := h5 j (by omega)
      rw [addr_add, addr_add, hv] at h7
      exact h7
    · obtain ⟨i, hi⟩ := List.mem_iff_getElem?.1 hc
      obtain ⟨h3, y, h4⟩ := h2 i c hi
      exact ⟨(World.cells?_some h3).2.1, n, y, h4⟩
/-- an element that is a list of numbers -/
theorem open_nums {k : IntKind} (ht : P.underlying t = some (.slice e)) (he : P.underlying e = some (.int k)) (hC : P.cellsOf e = 1) (h : DataW.trod enc P w base spare held fuel t cs = some x) (hw : ∀ m ∈ x.1.weights P t, m ≤ reachBytes) :
    ∃ A len cap zs, cs = [.slice A len cap] ∧ zs.length = len ∧ len ≤ cap ∧ len * P.bytesOf e ≤ reachBytes ∧ Rd w k A zs ∧ ∀ z ∈ zs, (Lit.int k z).wf = true := by
  obtain ⟨A, len, cap, ps, rfl, h1, h2, h3, h4, h5⟩ := open_parts ht hC (by omega) h hw
  have hz : ∀ ps : List (List Value), (∀ c ∈ ps, c.length = 1 ∧ ∃ n y, DataW.trod enc P w base spare held n e c = some y ∧ ∀ m ∈ y.1.weights P e, m ≤ reachBytes) → ∃ zs : List Int, ps = zs.map (fun z => [Value.int k z]) ∧ ∀ z ∈ zs, (Lit.int k z).wf = true := by
    intro ps
    induction ps with
    | nil => intro _; exact ⟨[], rfl, fun z hz => by cases hz⟩
    | cons c r ih =>
      intro hh
      obtain ⟨zs, e1, e2⟩ := ih (fun c hc => hh c (by simp [hc]))
      obtain ⟨_, n, y, hy, _⟩ := hh c (by simp)
      obtain ⟨z, e3, _, e4⟩ := DataW.trod_int he hy
      exact ⟨z :: zs, by rw [e1, e3]; rfl, fun z' hz' => by rcases List.mem_cons.1 hz' with rfl | hz'; exact e4; exact e2 z' hz'⟩
  obtain ⟨zs, rfl, hwf⟩ := hz ps h5
  refine ⟨A, len, cap, zs, rfl, by simpa using h1, h2, h3, ?_, hwf⟩
  have := RdP.toC h4 (fun c hc => by obtain ⟨z, _, rfl⟩ := List.mem_map.1 hc; rfl)
  rw [List.map_map, show zs.map ((fun x => x.headD default) ∘ fun z => [Value.int k z]) = zs.map (Value.int k) from List.map_congr_left fun z _ => rfl] at this
  exact RdC.toRd this
/-- parts that each open to something -/
theorem parts_map {D : Type} (f : D → List Value) (G : D → Prop) : ∀ ps : List (List Value), (∀ c ∈ ps, ∃ d, f d = c ∧ G d) → ∃ ds : List D, ds.map f = ps ∧ ∀ d ∈ ds, G d
  | [], _ => ⟨[], rfl, fun d hd => by cases hd⟩
  | c :: r, h => by
    obtain ⟨ds, e1, e2⟩ := parts_map f G r (fun c hc => h c (by simp [hc]))
    obtain ⟨d, e3, e4⟩ := h c (by simp)
    exact ⟨d :: ds, by simp [e1, e3], fun d' hd' => by rcases List.mem_cons.1 hd' with rfl | hd'; exact e4; exact e2 d' hd'⟩
end
end Go.Proofs.Ytpjmiafefammkaa

/- Structs of two numbers. No program in sight. -/
namespace Go.Proofs.Ytpjmiafefammkaa
open Go.RowKit
set_option linter.unusedVariables false

def rowC (x : Int × Int) : List Value := [.int .i64 x.1, .int .i64 x.2]
theorem rowC_len (rows : List (Int × Int)) : ∀ c ∈ rows.map rowC, c.length = 2 := fun c hc => by obtain ⟨x, _, rfl⟩ := List.mem_map.1 hc; rfl
theorem rowC_one (rows : List (Int × Int)) : ∀ c ∈ rows.map rowC, ∀ u ∈ c, u.oneCell' = true := fun c hc u hu => by
  obtain ⟨x, _, rfl⟩ := List.mem_map.1 hc
  simp only [rowC, List.mem_cons, List.not_mem_nil, or_false] at hu
  rcases hu with rfl | rfl <;> rfl
theorem RdP.at2 {w : World} {A : Option Addr} {rows : List (Int × Int)} (h : RdP w 2 A (rows.map rowC)) {i : Nat} (hi : i < rows.length) : ∃ b o, A = some ⟨b, o, none⟩ ∧ w.cell? ⟨b, o + i * 2, none⟩ = some (.int .i64 (rows.getD i (0, 0)).1) ∧ w.cell? ⟨b, o + i * 2 + 1, none⟩ = some (.int .i64 (rows.getD i (0, 0)).2) ∧ RdC w (some ⟨b, o + i * 2, none⟩) (rowC (rows.getD i (0, 0))) := by
  have hc : (rows.map rowC)[i]? = some (rowC (rows.getD i (0, 0))) := by simp [hi]
  obtain ⟨b, o, e, hcell⟩ := h i _ hc
  subst e
  exact ⟨b, o, rfl, hcell 0 _ rfl, hcell 1 _ rfl, h.part hc⟩
end Go.Proofs.Ytpjmiafefammkaa

/- Lists of integers that a call makes: what it owns, and how that reads. -/
namespace Go.Proofs.Ytpjmiafefammkaa
open Go.RowKit

theorem info_int : (Try.prog.info? 3).map (fun i => (i.zero, i.size, i.bytes)) = some (some (.int .i64 0), 1, 8) := by kernel_rfl
theorem info_u8 : (Try.prog.info? 5).map (fun i => (i.zero, i.size, i.bytes)) = some (some (.int .u8 0), 1, 1) := by kernel_rfl

def OwnI (w : World) (B : Nat) (v : Value) (zs : List Int) : Prop := w.ownsRow B 3 1 v zs.length (zs.map (Value.int .i64))

theorem OwnI.nil (w : World) (B : Nat) : OwnI w B (.slice none 0 0) [] := World.ownsRow_nil w B _ 1

theorem OwnI.form {w B v zs} (h : OwnI w B v zs) : ∃ A c, v = .slice A zs.length c ∧ zs.length ≤ c ∧ c ≤ maxLen ∧ Rd w .i64 A zs ∧ (∀ b off, A = some ⟨b, off, none⟩ → B ≤ b ∧ off = 0 ∧ b < w.heap.size) := by
  rcases h.2 with ⟨rfl, h0⟩ | ⟨g, cap, cur, rfl, hB, hg, hn, hm, hs, ht⟩
  · rw [h0]
    exact ⟨none, 0, rfl, Nat.le_refl _, by simp [maxLen], fun hl => absurd hl (by omega), fun b off hh => by cases hh⟩
  · refine ⟨_, cap, rfl, hn, hm, fun _ => ⟨g, 0, rfl, fun i hi => ?_⟩, ?_⟩
    · have hc := World.ownsRow.cells (g := g) h rfl i (.int .i64 (zs.getD i 0)) (by simp [hi])
      have e : (⟨g, 0, none⟩ : Addr).add i = ⟨g, 0 + i, none⟩ := by unfold Addr.add; split <;> simp_all
      rw [← e]; exact hc
    · intro b off hh
      cases hh
      exact ⟨hB, rfl, (Array.getElem?_eq_some_iff.1 hg).1⟩

theorem OwnI.keep {w w' B v zs} (h : OwnI w B v zs) {B' : Nat} (hb : Below B' w w') (hB : ∀ g, v.ownBlock = some g → g < B') : OwnI w' B v zs := by
  refine ⟨h.1, ?_⟩
  rcases h.2 with hn | ⟨g, cap, cur, rfl, hB0, hg, rest⟩
  · exact .inl hn
  · refine .inr ⟨g, cap, cur, rfl, hB0, ?_, rest⟩
    rw [hb.block g (hB g rfl)]; exact hg

theorem OwnI.keepAll {w w' B v zs} (h : OwnI w B v zs) (hb : Below w.heap.size w w') : OwnI w' B v zs :=
  h.keep hb fun g hg => (World.ownsRow.lt h g hg).2

theorem OwnI.mono {w B B' v zs} (h : OwnI w B v zs) (hB : B' ≤ B) : OwnI w B' v zs := by
  refine ⟨h.1, ?_⟩
  rcases h.2 with hn | ⟨g, cap, cur, rfl, hB0, hg, rest⟩
  · exact .inl hn
  · exact .inr ⟨g, cap, cur, rfl, by omega, hg, rest⟩

/-- a list of the call's own that is not empty: its row -/
theorem OwnI.row {w B v zs} (h : OwnI w B v zs) {n : Nat} (hn : n = zs.length) (h0 : 0 < n) :
    ∃ g c1, v = .slice (some ⟨g, 0, none⟩) n c1 ∧ B ≤ g ∧ g < w.heap.size ∧ n ≤ c1 ∧ w.ownsRow B 3 1 (.slice (some ⟨g, 0, none⟩) n c1) n (zs.map (Value.int .i64)) := by
  subst hn
  rcases h.2 with ⟨rfl, h1⟩ | ⟨g, cap, cur, rfl, hB, hg, hn, hm, hs, ht⟩
  · omega
  · exact ⟨g, cap, rfl, hB, (Array.getElem?_eq_some_iff.1 hg).1, hn, h⟩

/-- an own row while another block is written -/
theorem ownsRow_setCell_other {w : World} {B : Nat} {e : TypeId} {g n c : Nat} {xs : List Value} (h : w.ownsRow B e 1 (.slice (some ⟨g, 0, none⟩) n c) n xs) {a : Addr} (ha : a.block ≠ g) (u : Value) :
    (w.setCell a u).ownsRow B e 1 (.slice (some ⟨g, 0, none⟩) n c) n xs := by
  refine ⟨h.1, ?_⟩
  rcases h.2 with ⟨h1, _⟩ | ⟨g', cap, cur, h1, hB, hg, r⟩
  · simp at h1
  · simp only [Value.slice.injEq, Option.some.injEq, Addr.mk.injEq, and_true, true_and] at h1
    obtain ⟨rfl, rfl⟩ := h1
    exact .inr ⟨g, c, cur, rfl, hB, by rw [Below.heap_setCell _ _ _ _ (fun e => ha e.symm)]; exact hg, r⟩

/-- an own row abides the turn of a block that is no cells -/
theorem own_turned {W W' : World} {B : Nat} {e : TypeId} {v : Value} {n : Nat} {xs : List Value} {row : Option Nat} (h : W.ownsRow B e 1 v n xs) (hg : W.grownBy W' row)
    (hr : ∀ r, row = some r → ∃ o : Obj, W.heap[r]? = some o ∧ o.isCells = false) : W'.ownsRow B e 1 v n xs := by
  refine h.kept hg ?_
  cases hv : v.ownBlock with
  | none => exact .inl rfl
  | some g =>
    refine .inr fun he => ?_
    obtain ⟨o, ho, hc⟩ := hr g he.symm
    rcases h.2 with ⟨rfl, _⟩ | ⟨g', cap, cur, rfl, _, hgg, _⟩
    · simp [Value.ownBlock] at hv
    · simp [Value.ownBlock] at hv
      subst hv
      rw [hgg] at ho; cases ho; simp [Obj.isCells] at hc
end Go.Proofs.Ytpjmiafefammkaa

/- Layer 23, the plain laws: parts of 65536, shares, blends, rows, tails: what the document says, as functions on integers and lists. No program in sight. -/
namespace Go.Proofs.Ytpjmiafefammkaa

def isB (n : Int) : Bool := decide (0 ≤ n ∧ n ≤ 65536)
def shareOk (a b : Int) : Bool := decide (0 < b ∧ b ≤ 2147483647 ∧ 0 ≤ a ∧ a ≤ b)
def shareV (a b : Int) : Int := if shareOk a b then a * 65536 / b else 0
def argE (ok : Bool) : Int := if ok then 0 else 2
def blendW (h x : Int) : Int := h + (x - h) / 8
def blendOk (h x : Int) : Bool := isB h && isB x
def blendV (h x : Int) : Int := if blendOk h x then blendW h x else 0

theorem isB_yes {n : Int} (h : 0 ≤ n) (h' : n ≤ 65536) : isB n = true := by simp [isB]; omega
theorem isB_no {n : Int} (h : n < 0 ∨ 65536 < n) : isB n = false := by simp [isB]; omega
theorem isB_iff {n : Int} : isB n = true ↔ 0 ≤ n ∧ n ≤ 65536 := by simp [isB]
theorem isB_iff' {n : Int} : isB n = false ↔ n < 0 ∨ 65536 < n := by simp [isB]; omega

theorem tdiv8 (n : Int) : n.tdiv 8 = if 0 ≤ n then n / 8 else -((-n) / 8) := by
  split
  · exact Int.tdiv_eq_ediv_of_nonneg (by omega)
  · have h : n = -(-n) := by omega
    rw [h, Int.neg_tdiv, Int.tdiv_eq_ediv_of_nonneg (by omega), ← h]
theorem tmod8 (n : Int) : n.tmod 8 = if 0 ≤ n then n % 8 else -((-n) % 8) := by
  split
  · exact Int.tmod_eq_emod_of_nonneg (by omega)
  · have h : n = -(-n) := by omega
    rw [h, Int.neg_tmod, Int.tmod_eq_emod_of_nonneg (by omega), ← h]
theorem down_lo {n : Int} (h1 : -65536 ≤ n) (h2 : n ≤ 65536) (h : n.tmod 8 < 0) : RowKit.wrap64 (n.tdiv 8 - 1) = n / 8 := by
  rw [tmod8] at h
  rw [tdiv8]
  have hb : (if 0 ≤ n then n / 8 else -((-n) / 8)) - 1 = n / 8 := by split at h <;> split <;> omega
  rw [hb]
  exact IntWalk.wrap64_in _ (by omega)
theorem down_hi {n : Int} (h : 0 ≤ n.tmod 8) : n.tdiv 8 = n / 8 := by
  rw [tmod8] at h
  rw [tdiv8]
  split at h <;> split <;> omega

theorem blendW_bd {h x : Int} (h1 : 0 ≤ h) (h2 : h ≤ 65536) (h3 : 0 ≤ x) (h4 : x ≤ 65536) : 0 ≤ blendW h x ∧ blendW h x ≤ 65536 := by unfold blendW; omega
end Go.Proofs.Ytpjmiafefammkaa

/- Layer 23: the contracts of the program's functions on numbers, and of the document's. -/
namespace Go.Proofs.Ytpjmiafefammkaa
open Go.RowKit

set_option maxHeartbeats 400000 in
theorem fixed_Is (a : Int) (w : World) (h : I64 a) : Calls Try.prog 109 #[.int .i64 a] w fun e w' => e = .returned (.bool (isB a)) ∧ w = w' := by
  obtain ⟨h1, h2⟩ := h
  go_enter Try.func109, Try.ntmps109
  go_wp2_with (fail)
  all_goals go_ret
  all_goals refine ⟨ret_bool ?_, rfl⟩
  all_goals
    simp only [isB, IntKind.wrap_u64, decide_eq_decide]
    omega

set_option maxHeartbeats 400000 in
theorem ref23_Is (a : Int) (w : World) : Calls Try.prog 138 #[.int .i64 a] w fun e w' => e = .returned (.bool (isB a)) ∧ w = w' := by
  by_cases h0 : 0 ≤ a
  all_goals
    go_enter Try.func138, Try.ntmps138
    go_wp2_with (fail)
    go_ret
    refine ⟨ret_bool ?_, rfl⟩
    simp [isB]
    omega

set_option maxHeartbeats 400000 in
theorem fixed_Share (a b : Int) (w : World) (ha : I64 a) (hb : I64 b) :
    Calls Try.prog 71 #[.int .i64 a, .int .i64 b] w fun e w' => e = .returned (.tuple #[.int .i64 (shareV a b), .int .i64 (argE (shareOk a b))]) ∧ w = w' := by
  obtain ⟨h1, h2⟩ := ha
  obtain ⟨h3, h4⟩ := hb
  by_cases hok : shareOk a b = true
  · have hv : shareV a b = a * 65536 / b := by simp [shareV, hok]
    have he : argE (shareOk a b) = 0 := by simp [argE, hok]
    rw [hv, he]; clear hv he
    simp only [shareOk, decide_eq_true_eq] at hok
    obtain ⟨g1, g2, g3, g4⟩ := hok
    go_enter Try.func71, Try.ntmps71
    go_wp2_with (fail)
    go_ret2
    exact ⟨rfl, rfl⟩
  · have hv : shareV a b = 0 := by simp [shareV, hok]
    have he : argE (shareOk a b) = 2 := by simp [argE, hok]
    rw [hv, he]; clear hv he
    simp only [shareOk, decide_eq_true_eq] at hok
    by_cases hc : b ≤ 0 ∨ 2147483647 < b
    · clear hok
      rcases hc with hc | hc
      all_goals
        go_enter Try.func71, Try.ntmps71
        go_wp2_with (fail)
        go_ret2
        exact ⟨rfl, rfl⟩
    · have hb1 : 0 < b := by omega
      have hb2 : b ≤ 2147483647 := by omega
      have hd : (b : Int) < IntKind.u64.wrap a := by simp only [IntKind.wrap_u64]; omega
      clear hok hc
      go_enter Try.func71, Try.ntmps71
      go_wp2_with (fail)
      go_ret2
      exact ⟨rfl, rfl⟩

set_option maxHeartbeats 400000 in
theorem ref23_Share (a b : Int) (w : World) (ha : I64 a) (hb : I64 b) :
    Calls Try.prog 106 #[.int .i64 a, .int .i64 b] w fun e w' => e = .returned (.tuple #[.int .i64 (shareV a b), .int .i64 (argE (shareOk a b))]) ∧ w = w' := by
  obtain ⟨h1, h2⟩ := ha
  obtain ⟨h3, h4⟩ := hb
  by_cases hok : shareOk a b = true
  · have hv : shareV a b = a * 65536 / b := by simp [shareV, hok]
    have he : argE (shareOk a b) = 0 := by simp [argE, hok]
    rw [hv, he]; clear hv he
    simp only [shareOk, decide_eq_true_eq] at hok
    obtain ⟨g1, g2, g3, g4⟩ := hok
    go_enter Try.func106, Try.ntmps106
    go_wp2_with (fail)
    go_ret2
    exact ⟨rfl, rfl⟩
  · have hv : shareV a b = 0 := by simp [shareV, hok]
    have he : argE (shareOk a b) = 2 := by simp [argE, hok]
    rw [hv, he]; clear hv he
    simp only [shareOk, decide_eq_true_eq] at hok
    have hc : b < 1 ∨ (1 ≤ b ∧ 2147483647 < b) ∨ (1 ≤ b ∧ b ≤ 2147483647 ∧ a < 0) ∨ (1 ≤ b ∧ b ≤ 2147483647 ∧ 0 ≤ a ∧ b < a) := by omega
    clear hok
    rcases hc with hc | ⟨hc, h5⟩ | ⟨hc, h5, h6⟩ | ⟨hc, h5, h6, h7⟩
    all_goals
      go_enter Try.func106, Try.ntmps106
      go_wp2_with (fail)
      go_ret2
      exact ⟨rfl, rfl⟩

set_option maxHeartbeats 400000 in
theorem fixed_blend (h x : Int) (w : World) (hh : 0 ≤ h) (hh' : h ≤ 65536) (hx : 0 ≤ x) (hx' : x ≤ 65536) :
    Calls Try.prog 70 #[.int .i64 h, .int .i64 x] w fun e w' => e = .returned (.int .i64 (blendW h x)) ∧ w = w' := by
  go_enter Try.func70, Try.ntmps70
  go_wp2_with (fail)
  go_ret
  exact ⟨rfl, rfl⟩

set_option maxHeartbeats 400000 in
theorem ref23_Down (n : Int) (w : World) (hh : -65536 ≤ n) (hh' : n ≤ 65536) :
    Calls Try.prog 139 #[.int .i64 n, .int .i64 8] w fun e w' => e = .returned (.int .i64 (n / 8)) ∧ w = w' := by
  go_enter Try.func139, Try.ntmps139
  go_wp2_with (fail)
  · go_ret
    exact ⟨ret_int (down_lo hh hh' (by assumption)), rfl⟩
  · go_ret
    exact ⟨ret_int (down_hi (by assumption)), rfl⟩

set_option maxHeartbeats 400000 in
theorem ref23_Blend (h x : Int) (w : World) :
    Calls Try.prog 105 #[.int .i64 h, .int .i64 x] w fun e w' => e = .returned (.tuple #[.int .i64 (blendV h x), .int .i64 (argE (blendOk h x))]) ∧ w = w' := by
  cases c1 : isB h
  · have hv : blendV h x = 0 := by simp [blendV, blendOk, c1]
    have he : argE (blendOk h x) = 2 := by simp [blendOk, c1, argE]
    rw [hv, he]; clear hv he
    have H1 := Lib.hid c1; clear c1
    go_enter Try.func105, Try.ntmps105
    go_wp2_with (fail)
    refine (ref23_Is h _).mono ?_
    rintro e w' ⟨rfl, rfl⟩
    rw [H1.out]
    go_wp2_with (fail)
    go_ret2
    exact ⟨rfl, rfl⟩
  · cases c2 : isB x
    · have hv : blendV h x = 0 := by simp [blendV, blendOk, c1, c2]
      have he : argE (blendOk h x) = 2 := by simp [blendOk, c1, c2, argE]
      rw [hv, he]; clear hv he
      have H1 := Lib.hid c1; have H2 := Lib.hid c2; clear c1 c2
      go_enter Try.func105, Try.ntmps105
      go_wp2_with (fail)
      refine (ref23_Is h _).mono ?_
      rintro e w' ⟨rfl, rfl⟩
      rw [H1.out]
      go_wp2_with (fail)
      refine (ref23_Is x _).mono ?_
      rintro e w' ⟨rfl, rfl⟩
      rw [H2.out]
      go_wp2_with (fail)
      go_ret2
      exact ⟨rfl, rfl⟩
    · have hv : blendV h x = h + (x - h) / 8 := by simp [blendV, blendOk, c1, c2, blendW]
      have he : argE (blendOk h x) = 0 := by simp [blendOk, c1, c2, argE]
      rw [hv, he]; clear hv he
      have H1 := Lib.hid c1; have H2 := Lib.hid c2; clear c1 c2
      go_enter Try.func105, Try.ntmps105
      go_wp2_with (fail)
      refine (ref23_Is h _).mono ?_
      rintro e w' ⟨rfl, rfl⟩
      rw [H1.out]
      go_wp2_with (fail)
      refine (ref23_Is x _).mono ?_
      rintro e w' ⟨rfl, rfl⟩
      rw [H2.out]
      have b1 := isB_iff.1 H1.out
      have b2 := isB_iff.1 H2.out
      obtain ⟨b3, b4⟩ := b1
      obtain ⟨b5, b6⟩ := b2
      go_wp2_with (fail)
      refine (ref23_Down _ _ (by omega) (by omega)).mono ?_
      rintro e w' ⟨rfl, rfl⟩
      go_wp2_with (fail)
      go_ret2
      exact ⟨rfl, rfl⟩
end Go.Proofs.Ytpjmiafefammkaa

/- Layer 23: rows: the closures, slices.IndexFunc and ContainsFunc, row, made. -/
namespace Go.Proofs.Ytpjmiafefammkaa
open Go.RowKit

set_option maxHeartbeats 400000 in
theorem fixed_row_fn (a : Int) (w : World) (h : I64 a) : Calls Try.prog 108 #[.int .i64 a] w fun e w' => e = .returned (.bool (!isB a)) ∧ w = w' := by
  have iH := Lib.hid h; clear h
  go_enter Try.func108, Try.ntmps108
  go_wp2_with (fail)
  refine (fixed_Is a _ iH.out).mono ?_
  rintro e w' ⟨rfl, rfl⟩
  go_wp2_with (fail)
  go_ret
  exact ⟨rfl, rfl⟩

/-- the place of the first number that p takes, else -1 -/
def idxF (p : Int → Bool) (zs : List Int) : Int := if zs.any p then ((zs.findIdx p : Nat) : Int) else -1

theorem idxF_ge {p : Int → Bool} {zs : List Int} : decide ((0 : Int) ≤ idxF p zs) = zs.any p := by
  unfold idxF; split <;> simp_all

theorem idxF_hit {p : Int → Bool} {zs : List Int} {k n : Nat} (hn : n = zs.length) (hk : k < n) (h : (zs.take k).any p = false) (hp : p (zs.getD k 0) = true) : idxF p zs = k := by
  have hk' : k < zs.length := by omega
  have hany : zs.any p = true := by
    rw [List.any_eq_true]
    exact ⟨zs[k], List.getElem_mem _, by simpa [hk'] using hp⟩
  unfold idxF
  rw [if_pos hany]
  congr 1
  rw [List.findIdx_eq hk']
  refine ⟨by simpa [hk'] using hp, fun j hj => ?_⟩
  rw [List.any_eq_false] at h
  have := h (zs[j]'(by omega)) (by rw [List.mem_take_iff_getElem]; exact ⟨j, by omega, rfl⟩)
  simpa using this

theorem any_take_succ {p : Int → Bool} {zs : List Int} {k n : Nat} (hn : n = zs.length) (hk : k < n) (h : (zs.take k).any p = false) (hp : p (zs.getD k 0) = false) : (zs.take (k + 1)).any p = false := by
  have hk' : k < zs.length := by omega
  rw [List.take_succ_eq_append_getElem hk', List.any_append, h]
  have : p zs[k] = false := by simpa [hk'] using hp
  simp [this]

theorem idxF_none {p : Int → Bool} {zs : List Int} {n : Nat} (hn : n = zs.length) (h : (zs.take n).any p = false) : idxF p zs = -1 := by
  rw [hn, List.take_length] at h
  unfold idxF
  rw [if_neg (by simp [h])]

set_option maxHeartbeats 400000 in
theorem indexFunc_ints (A : Option Addr) (n c : Nat) (zs : List Int) (f : FuncId) (cap : Array Value) (p : Int → Bool) (w : World) (hent : Enters Try.prog f) (ha : Rd w .i64 A zs) (hn : n = zs.length) (hn' : n ≤ 9223372036854775807)
    (hcall : ∀ k q, k < zs.length → Calls Try.prog f (#[.int .i64 (zs.getD k 0)] ++ cap) (w.drewN q) fun e w' => e = .returned (.bool (p (zs.getD k 0))) ∧ ∃ q', w' = w.drewN q') :
    Calls Try.prog 140 #[.slice A n c, .func (.func f) #[] cap] w fun e w' => e = .returned (.int .i64 (idxF p zs)) ∧ ∃ q, w' = w.drewN q := by
  have H1 := Lib.hid hn; have HC := Lib.hid hcall; clear hn hcall
  have hentr : ∀ (args : Array Value) (w : World), (callFunc f args).run Try.prog w = .ok (.enter f args) w := hent
  go_enter Try.func140, Try.ntmps140
  go_wp2_with (fail)
  go_loopw [8] (fun i wr => ∃ k : Nat, k ≤ n ∧ i = .int .i64 k ∧ (zs.take k).any p = false ∧ ∃ q, wr = w.drewN q) (fun i wr => n - (intOf i).toNat)
  case atStart => exact ⟨0, by omega, rfl, rfl, 0, rfl⟩
  case round =>
    obtain ⟨k, hk, rfl, htk, q, rfl⟩ := hrel
    have Htk := Lib.hid htk; clear htk
    by_cases hlt : k < n
    · obtain ⟨b1, o1, rfl, hc1⟩ := ha.at_ (i := k) (by rw [← H1.out]; exact hlt)
      cases hp : p (zs.getD k 0)
      · have HP := Lib.hid hp; clear hp
        go_wp2_with (fail)
        refine (HC.out k q (by rw [← H1.out]; exact hlt)).mono ?_
        rintro e w' ⟨rfl, q', rfl⟩
        rw [HP.out]
        go_wp2_with (fail)
        go_roundw
        case rel => exact ⟨k + 1, by omega, by go_num, any_take_succ H1.out hlt Htk.out HP.out, _, rfl⟩
        case measure => simp [intOf]; omega
      · have HP := Lib.hid hp; clear hp
        go_wp2_with (fail)
        refine (HC.out k q (by rw [← H1.out]; exact hlt)).mono ?_
        rintro e w' ⟨rfl, q', rfl⟩
        rw [HP.out]
        go_wp2_with (fail)
        go_ret
        exact ⟨ret_int (idxF_hit H1.out hlt Htk.out HP.out).symm, _, rfl⟩
    · obtain rfl : k = n := by omega
      go_wp2_with (fail)
      go_ret
      exact ⟨ret_int (idxF_none H1.out Htk.out).symm, _, rfl⟩

set_option maxHeartbeats 400000 in
theorem containsFunc_ints (A : Option Addr) (n c : Nat) (zs : List Int) (f : FuncId) (cap : Array Value) (p : Int → Bool) (w : World) (hent : Enters Try.prog f) (ha : Rd w .i64 A zs) (hn : n = zs.length) (hn' : n ≤ 9223372036854775807)
    (hcall : ∀ k q, k < zs.length → Calls Try.prog f (#[.int .i64 (zs.getD k 0)] ++ cap) (w.drewN q) fun e w' => e = .returned (.bool (p (zs.getD k 0))) ∧ ∃ q', w' = w.drewN q') :
    Calls Try.prog 110 #[.slice A n c, .func (.func f) #[] cap] w fun e w' => e = .returned (.bool (zs.any p)) ∧ ∃ q, w' = w.drewN q := by
  have H1 := Lib.hid hn; have HC := Lib.hid hcall; clear hn hcall
  rw [← idxF_ge]
  go_enter Try.func110, Try.ntmps110
  go_wp2_with (fail)
  refine (indexFunc_ints A n c zs f cap p _ hent ha H1.out hn' HC.out).mono ?_
  rintro e w' ⟨rfl, q, rfl⟩
  go_wp2_with (fail)
  go_ret
  exact ⟨rfl, _, rfl⟩

theorem enters_row_fn : Enters Try.prog 108 := enters_of Try.func108 (by kernel_rfl) rfl

/-- every number of the list fits Go's int -/
def AllI (zs : List Int) : Prop := ∀ z ∈ zs, I64 z
theorem AllI.at_ {zs : List Int} (h : AllI zs) (k : Nat) : I64 (zs.getD k 0) := by
  by_cases hk : k < zs.length
  · simp [hk]; exact h _ (List.getElem_mem _)
  · simp [hk]; exact ⟨by decide, by decide⟩

def rowB (zs : List Int) : Bool := decide (0 < zs.length) && decide (zs.length ≤ 256) && !(zs.any fun n => !isB n)

set_option maxHeartbeats 400000 in
theorem fixed_row (A : Option Addr) (n c : Nat) (zs : List Int) (w : World) (ha : Rd w .i64 A zs) (hn : n = zs.length) (hn' : n ≤ 9223372036854775807) (hi : AllI zs) :
    Calls Try.prog 67 #[.slice A n c] w fun e w' => e = .returned (.bool (rowB zs)) ∧ ∃ q, w' = w.drewN q := by
  have hi' := Lib.hid hi; clear hi
  by_cases h0 : 0 < n
  · by_cases h1 : n ≤ 256
    · have hv : rowB zs = !(zs.any fun n => !isB n) := by simp only [rowB, ← hn]; simp [h0, h1]
      rw [hv]; clear hv
      have H1 := Lib.hid hn; clear hn
      go_enter Try.func67, Try.ntmps67
      go_wp2_with (fail)
      refine (containsFunc_ints A n c zs _ #[] (fun n => !isB n) _ enters_row_fn ha H1.out hn' fun k q _ => ((fixed_row_fn _ _ (hi'.out.at_ k)).mono fun e w' h => ⟨h.1, q, h.2.symm⟩)).mono ?_
      rintro e w' ⟨rfl, q, rfl⟩
      go_wp2_with (fail)
      go_ret
      exact ⟨rfl, _, rfl⟩
    · have hv : rowB zs = false := by simp only [rowB, ← hn]; simp [h0, h1]
      rw [hv]; clear hv
      have H1 := Lib.hid hn; clear hn
      go_enter Try.func67, Try.ntmps67
      go_wp2_with (fail)
      go_ret
      exact ⟨rfl, 0, rfl⟩
  · have hv : rowB zs = false := by simp only [rowB, ← hn]; simp [h0]
    rw [hv]; clear hv
    have H1 := Lib.hid hn; clear hn
    go_enter Try.func67, Try.ntmps67
    go_wp2_with (fail)
    go_ret
    exact ⟨rfl, 0, rfl⟩
end Go.Proofs.Ytpjmiafefammkaa

/- Layer 23: made (a row out of another one), Fold. -/
namespace Go.Proofs.Ytpjmiafefammkaa
open Go.RowKit

/-- what stands after k places: g of each place and number -/
def mapK (g : Nat → Int → Int) (zs : List Int) : List Int := zs.mapIdx g

theorem mapK_take_succ {g : Nat → Int → Int} {zs : List Int} {k n : Nat} (hn : n = zs.length) (hk : k < n) : mapK g (zs.take (k + 1)) = mapK g (zs.take k) ++ [g k (zs.getD k 0)] := by
  have hk' : k < zs.length := by omega
  unfold mapK
  rw [List.take_succ_eq_append_getElem hk', List.mapIdx_append]
  simp [hk', Nat.min_eq_left (Nat.le_of_lt hk')]

theorem mapK_length {g zs} : (mapK g zs).length = zs.length := by simp [mapK]

set_option maxHeartbeats 1000000 in
theorem fixed_made (A : Option Addr) (n c : Nat) (zs : List Int) (f : FuncId) (cap : Array Value) (g : Nat → Int → Int) (w : World) (hent : Enters Try.prog f) (ha : Rd w .i64 A zs) (hn : n = zs.length)
    (hn' : n * 8 ≤ 140737488351232)
    (hcall : ∀ k wx, k < zs.length → Below w.heap.size w wx → Calls Try.prog f (#[.int .i64 k, .int .i64 (zs.getD k 0)] ++ cap) wx fun e w' => e = .returned (.int .i64 (g k (zs.getD k 0))) ∧ ∃ q', w' = wx.drewN q') :
    Calls Try.prog 68 #[.slice A n c, .func (.func f) #[] cap] w fun e w' => ∃ v, e = .returned v ∧ OwnI w' w.heap.size v (mapK g zs) ∧ Below w.heap.size w w' := by
  have H1 := Lib.hid hn; have HC := Lib.hid hcall; clear hn hcall
  have hentr : ∀ (args : Array Value) (w : World), (callFunc f args).run Try.prog w = .ok (.enter f args) w := hent
  obtain ⟨i0, hi, hz0, hz1, hz2⟩ := info_parts info_int
  have HI := Lib.hid hi; have HZ0 := Lib.hid hz0; have HZ1 := Lib.hid hz1; have HZ2 := Lib.hid hz2
  clear hi hz0 hz1 hz2
  go_enter Try.func68, Try.ntmps68
  go_wp2_with (at_make; refine wpList_make_own _ rfl (.const (.int .i64 0)) (.tmp 9) 40 rfl w.heap.size 3 i0 (.int .i64 0) 1 Try.underlying40 HI.out HZ0.out HZ1.out .i64 .i64 n n rfl rfl rfl (by rw [HZ2.out]; omega) (by unfold maxLen; omega) (by simp) ?_)
  intro w1 hown hgrow
  have hb1 : Below w.heap.size w w1 := (Below.refl _ w).grown hgrow (Nat.le_refl _) (fun k hk => by cases hk)
  go_wp2_with (fail)
  go_loopw [5, 13] (fun v i wr => ∃ k : Nat, k ≤ n ∧ i = .int .i64 k ∧ OwnI wr w.heap.size v (mapK g (zs.take k)) ∧ Below w.heap.size w wr) (fun _ i wr => n - (intOf i).toNat)
  case atStart => exact ⟨0, by omega, rfl, by simpa [OwnI, mapK] using hown, hb1⟩
  case round =>
    obtain ⟨k, hk, rfl, hown1, hb⟩ := hrel
    clear hown hgrow hb1
    by_cases hlt : k < n
    · obtain ⟨b1, o1, rfl, hc1⟩ := (ha.keep hb).at_ (i := k) (by rw [← H1.out]; exact hlt)
      have hll : (mapK g (zs.take k)).length = k := by rw [mapK_length, List.length_take, ← H1.out]; omega
      have HL := Lib.hid hll; clear hll
      have hsz := hb.size
      go_wp2_with (fail)
      refine (HC.out k _ (by rw [← H1.out]; exact hlt) hb).mono ?_
      rintro e w' ⟨rfl, q', rfl⟩
      go_wp2_with (at_builtin; refine wpl_append1 rfl (.tmp 18) (.tmp 23) 40 rfl w.heap.size 3 (.int .i64 0) 8 Try.underlying40 info_int rfl _ _ _ rfl ((ownsRow_drewN hown1 q').alloc _) wr.heap.size 1 (.int .i64 (g k (zs.getD k 0))) rfl ?_ rfl ?_ ?_ ?_ ?_)
      case refine_1 => exact cell_one_drewN _ _ _ _
      case refine_2 => rw [HL.out]; omega
      case refine_3 => rw [HL.out]; unfold maxLen; omega
      case refine_4 => simp; omega
      intro v2 w2 hown2 hgrow2
      have hb2 : Below w.heap.size w w2 := below_grown_own ((below_drewN_ hb q').alloc (by simpa using hsz) _) ((ownsRow_drewN hown1 q').alloc _) hgrow2 (by simp; omega)
      clear hb hown1 hgrow2
      go_wp2_with (fail)
      go_roundw
      case rel => exact ⟨k + 1, by omega, by go_num, by rw [mapK_take_succ H1.out hlt]; simpa [OwnI] using hown2, hb2⟩
      case measure => simp [intOf]; omega
    · obtain rfl : k = n := by omega
      go_wp2_with (fail)
      go_ret
      refine ⟨_, rfl, ?_, hb⟩
      rw [H1.out, List.take_length] at hown1
      exact hown1
end Go.Proofs.Ytpjmiafefammkaa

/- Layer 23: Fold. -/
namespace Go.Proofs.Ytpjmiafefammkaa
open Go.RowKit

def foldOk (h x : List Int) : Bool := rowB h && rowB x && decide (h.length = x.length)
def foldG (x : List Int) (k : Nat) (n : Int) : Int := blendW n (x.getD k 0)
def foldL (h x : List Int) : List Int := mapK (foldG x) h
def foldV (h x : List Int) : List Int := if foldOk h x then foldL h x else []

theorem rowB_at {zs : List Int} (h : rowB zs = true) {k : Nat} (hk : k < zs.length) : 0 ≤ zs.getD k 0 ∧ zs.getD k 0 ≤ 65536 := by
  unfold rowB at h
  simp only [Bool.and_eq_true, Bool.not_eq_true', List.any_eq_false] at h
  have := h.2 zs[k] (List.getElem_mem _)
  simp at this
  simp [hk]
  exact isB_iff.1 this
theorem rowB_len {zs : List Int} (h : rowB zs = true) : 0 < zs.length ∧ zs.length ≤ 256 := by
  unfold rowB at h
  simp at h
  exact ⟨by have := h.1.1; cases zs <;> simp_all, h.1.2⟩

set_option maxHeartbeats 400000 in
theorem fixed_Fold_fn (k : Nat) (n : Int) (Bx : Nat) (A : Option Addr) (m c : Nat) (xs : List Int) (w : World) (hbox : w.cell? ⟨Bx, 0, none⟩ = some (.slice A m c)) (ha : Rd w .i64 A xs) (hm : m = xs.length) (hm' : m ≤ 256) (hk : k < m)
    (h0 : 0 ≤ n) (h1 : n ≤ 65536) (hr : rowB xs = true) :
    Calls Try.prog 69 #[.int .i64 k, .int .i64 n, .pointer (some ⟨Bx, 0, none⟩)] w fun e w' => e = .returned (.int .i64 (foldG xs k n)) ∧ ∃ q, w' = w.drewN q := by
  have hx := rowB_at hr (k := k) (by omega)
  obtain ⟨b1, o1, rfl, hc1⟩ := ha.at_ (i := k) (by omega)
  have HR := Lib.hid hr; have HM := Lib.hid hm; have HX := Lib.hid hx; clear hr hm hx
  go_enter Try.func69, Try.ntmps69
  go_wp2_with (fail)
  refine (fixed_blend n _ _ h0 h1 HX.out.1 HX.out.2).mono ?_
  rintro e w' ⟨rfl, rfl⟩
  go_wp2_with (fail)
  go_ret
  exact ⟨rfl, 0, rfl⟩

theorem enters_fold_fn : Enters Try.prog 69 := enters_of Try.func69 (by kernel_rfl) rfl

set_option maxHeartbeats 1000000 in
theorem fixed_Fold (A B : Option Addr) (n m c d : Nat) (hs xs : List Int) (w : World) (ha : Rd w .i64 A hs) (hb : Rd w .i64 B xs) (hn : n = hs.length) (hm : m = xs.length)
    (hn' : n ≤ 9223372036854775807) (hm' : m ≤ 9223372036854775807) (ih : AllI hs) (ix : AllI xs) :
    Calls Try.prog 30 #[.slice A n c, .slice B m d] w fun e w' => ∃ v, e = .returned (.tuple #[v, .int .i64 (argE (foldOk hs xs))]) ∧ OwnI w' w.heap.size v (foldV hs xs) ∧ Below w.heap.size w w' := by
  have iH := Lib.hid ih; have iX := Lib.hid ix; have HN := Lib.hid hn; have HM := Lib.hid hm; clear ih ix hn hm
  have ha1 := ha.alloc (.cells #[.slice B m d] 40)
  have hb1 := hb.alloc (.cells #[.slice B m d] 40)
  have hbel : Below w.heap.size w (w.alloc (.cells #[.slice B m d] 40)) := (Below.refl _ w).alloc (Nat.le_refl _) _
  cases r1 : rowB hs
  · have hv : foldV hs xs = [] := by simp [foldV, foldOk, r1]
    have he : argE (foldOk hs xs) = 2 := by simp [foldOk, r1, argE]
    rw [hv, he]; clear hv he
    have R1 := Lib.hid r1; clear r1
    go_enter Try.func30, Try.ntmps30
    go_wp2_with (fail)
    refine (fixed_row A n c hs _ ha1 HN.out hn' iH.out).mono ?_
    rintro e w' ⟨rfl, q, rfl⟩
    rw [R1.out]
    go_wp2_with (fail)
    go_ret2
    exact ⟨_, rfl, OwnI.nil _ _, below_drewN_ hbel _⟩
  · cases r2 : rowB xs
    · have hv : foldV hs xs = [] := by simp [foldV, foldOk, r2]
      have he : argE (foldOk hs xs) = 2 := by simp [foldOk, r2, argE]
      rw [hv, he]; clear hv he
      have R1 := Lib.hid r1; have R2 := Lib.hid r2; clear r1 r2
      go_enter Try.func30, Try.ntmps30
      go_wp2_with (fail)
      refine (fixed_row A n c hs _ ha1 HN.out hn' iH.out).mono ?_
      rintro e w' ⟨rfl, q, rfl⟩
      rw [R1.out]
      go_wp2_with (fail)
      refine (fixed_row B m d xs _ (hb1.drewN q) HM.out hm' iX.out).mono ?_
      rintro e w' ⟨rfl, q2, rfl⟩
      rw [R2.out]
      go_wp2_with (fail)
      go_ret2
      exact ⟨_, rfl, OwnI.nil _ _, below_drewN_ hbel _⟩
    · by_cases hl : n = m
      · have hlen : hs.length = xs.length := by rw [← HN.out, ← HM.out]; exact hl
        have hv : foldV hs xs = foldL hs xs := by simp [foldV, foldOk, r1, r2, hlen]
        have he : argE (foldOk hs xs) = 0 := by simp [foldOk, r1, r2, hlen, argE]
        rw [hv, he]; clear hv he hlen
        subst hl
        have hn256 : n ≤ 256 := by have := rowB_len r1; rw [← HN.out] at this; exact this.2
        have R1 := Lib.hid r1; have R2 := Lib.hid r2; clear r1 r2
        go_enter Try.func30, Try.ntmps30
        go_wp2_with (fail)
        refine (fixed_row A n c hs _ ha1 HN.out hn' iH.out).mono ?_
        rintro e w' ⟨rfl, q, rfl⟩
        rw [R1.out]
        go_wp2_with (fail)
        refine (fixed_row B n d xs _ (hb1.drewN q) HM.out hm' iX.out).mono ?_
        rintro e w' ⟨rfl, q2, rfl⟩
        rw [R2.out]
        go_wp2_with (fail)
        refine (fixed_made A n c hs _ #[.pointer (some ⟨w.heap.size, 0, none⟩)] (foldG xs) _ enters_fold_fn (ha1.drewN (q + q2)) HN.out (by omega) ?_).mono ?_
        · intro k wx hk hbx
          have hk' : k < n := by rw [HN.out]; exact hk
          have hb0 := rowB_at R1.out hk
          refine fixed_Fold_fn k _ w.heap.size B n d xs wx ?_ ?_ HM.out hn256 hk' hb0.1 hb0.2 R2.out
          · exact (hbx.cell (p := ⟨w.heap.size, 0, none⟩) (by simp)).trans (cell_one_alloc w _ _)
          · exact (hb1.drewN (q + q2)).keep hbx
        · rintro e w2 ⟨v, rfl, hown, hb2⟩
          go_wp2_with (fail)
          go_ret2
          refine ⟨_, rfl, ?_, ?_⟩
          · exact hown.mono (by simp)
          · exact (below_drewN_ hbel _).trans (hb2.mono (by simp))
      · have hlen : ¬ hs.length = xs.length := by rw [← HN.out, ← HM.out]; exact hl
        have hv : foldV hs xs = [] := by simp [foldV, foldOk, hlen]
        have he : argE (foldOk hs xs) = 2 := by simp [foldOk, hlen, argE]
        rw [hv, he]; clear hv he hlen
        have hd : ((n : Int) != (m : Int)) = true := by simp; omega
        have R1 := Lib.hid r1; have R2 := Lib.hid r2; clear r1 r2
        go_enter Try.func30, Try.ntmps30
        go_wp2_with (fail)
        refine (fixed_row A n c hs _ ha1 HN.out hn' iH.out).mono ?_
        rintro e w' ⟨rfl, q, rfl⟩
        rw [R1.out]
        go_wp2_with (fail)
        refine (fixed_row B m d xs _ (hb1.drewN q) HM.out hm' iX.out).mono ?_
        rintro e w' ⟨rfl, q2, rfl⟩
        rw [R2.out]
        go_wp2_with (fail)
        go_ret2
        exact ⟨_, rfl, OwnI.nil _ _, below_drewN_ hbel _⟩
end Go.Proofs.Ytpjmiafefammkaa

/- slices.Backward at []int: the iterator's contract: all places from the last one to the first one; or a part of them. -/
namespace Go.Proofs.Ytpjmiafefammkaa
open Go.RowKit Go.Shelf

attribute [local go_sem] Oper.semAt_some

/-- a call that ranges over a function is walked at a fence that is a variable -/
theorem wide_gen {P : Program} {f : FuncId} {args : Array Value} {w : World} {R : Ending → World → Prop}
    (h : ∀ F : Fence, F.round = none → (∀ f, F.fn f) → (∀ (n : Nat) (g : FuncId) (as' : Array Value) (w' : World) (R' : Ending → World → Prop), Calls P g as' w' R' → CallsIn F n P g as' w' R') → CallsIn F 5 P f args w R) : Calls P f args w R :=
  callsIn_wide.1 (h Fence.wide rfl (fun _ => trivial) (fun _ _ _ _ _ hc => callsIn_wide.2 hc))

/-- the blocks of T lie as they lay -/
def KeepT (T : Nat → Prop) (W W' : World) : Prop := W.heap.size ≤ W'.heap.size ∧ ∀ k, T k → W'.heap[k]? = W.heap[k]?
theorem KeepT.refl (T : Nat → Prop) (W : World) : KeepT T W W := ⟨Nat.le_refl _, fun _ _ => rfl⟩
theorem KeepT.trans {T : Nat → Prop} {A B C : World} (h : KeepT T A B) (k : KeepT T B C) : KeepT T A C := ⟨Nat.le_trans h.1 k.1, fun i hi => (k.2 i hi).trans (h.2 i hi)⟩
theorem KeepT.cell {T : Nat → Prop} {W W' : World} (h : KeepT T W W') {p : Addr} (hp : T p.block) : W'.cell? p = W.cell? p := World.cell?_of_block (h.2 _ hp)
theorem KeepT.grown {T : Nat → Prop} {A W W' : World} {row : Option Nat} (h : KeepT T A W) (hg : W.grownBy W' row) (hT : ∀ k, T k → k < W.heap.size) (hr : ∀ k, row = some k → ¬ T k) : KeepT T A W' :=
  h.trans ⟨hg.size, fun k hk => hg.block k (hT k hk) (fun e => hr k e.symm hk)⟩
theorem keepT_b {T : Nat → Prop} {w : World} (hT : ∀ k, T k → k < w.heap.size) (W : World) (l : Nat) (o o' : Obj) (hl : w.heap.size ≤ l) (h : W.heap[l]? = some o) (_ : o.isCells = false) (_ : o.isWalk = false) : KeepT T W (W.putObj l o') := by
  have hlt := (Array.getElem?_eq_some_iff.1 h).1
  exact (KeepT.refl T W).grown (grownBy_putObj' W l o') (fun k hk => by have := hT k hk; omega) (fun k e hk => by cases e; have := hT _ hk; omega)
theorem KeepT.setCell {T : Nat → Prop} {A W : World} (h : KeepT T A W) {p : Addr} (hp : ¬ T p.block) (u : Value) : KeepT T A (W.setCell p u) :=
  h.trans ⟨by simp [World.setCell], fun k hk => Below.heap_setCell _ _ _ _ (fun e => hp (e ▸ hk))⟩

/-- a place of a list of n -/
abbrev Below_ (n : Nat) := { j : Nat // j < n }
/-- what has come when k rounds are over: the places n - 1, .., n - k -/
def downTo (n k : Nat) : List Nat := (List.range k).map fun j => n - 1 - j
theorem downTo_succ (n k : Nat) : downTo n (k + 1) = downTo n k ++ [n - 1 - k] := by simp [downTo, List.range_succ]
theorem downTo_length (n k : Nat) : (downTo n k).length = k := by simp [downTo]
def encAt (zs : List Int) (n : Nat) (x : Below_ n) : Array Value := #[Value.int .i64 (x.1 : Int), Value.int .i64 (zs[x.1]?.getD 0)]

set_option maxRecDepth 100000 in
set_option maxHeartbeats 2000000 in
theorem back1_in (F : Fence) (nf : Nat) (h7 : F.fn 141) (hro : F.round = none) (hn : 1 ≤ nf) (l Bs : Nat) (T : Nat → Prop) (A : Option Addr) (n c : Nat) (zs : List Int) (hreach : n ≤ 1152921504606846976) (hA : ∀ b off, A = some ⟨b, off, none⟩ → T b)
    (hnz : n = zs.length) (J Jx : List (Below_ n) → World → Prop)
    (hY : ∀ pre x W, J pre W → pre.length < n → YieldAt F (nf - 1) Try.prog l (encAt zs n x) W fun e W' =>
      (e = .returned (.bool true) ∧ J (pre ++ [x]) W' ∧ KeepT T W W') ∨ (e = .returned (.bool false) ∧ Jx (pre ++ [x]) W'))
    (W : World) (hBs : W.cell? ⟨Bs, 0, none⟩ = some (.slice A n c)) (hBn : T Bs) (ha : Rd W .i64 A zs) (h0 : J [] W) :
    CallsIn F nf Try.prog 141 #[.func (.yield l) #[] #[], .pointer (some ⟨Bs, 0, none⟩)] W fun e W' => (∃ v, e = .returned v) ∧
      ((∃ ys, ys.map (·.1) = downTo n n ∧ J ys W') ∨ (∃ pre, (∃ k, k ≤ n ∧ pre.map (·.1) = downTo n k) ∧ Jx pre W')) := by
  have HZ := Lib.hid hnz; clear hnz
  refine callsIn_of_wp Try.func141 rfl h7 ?_ hro
  simp only [Try.ntmps141, List.size_toArray, List.length_cons, List.length_nil, Nat.reduceAdd, Nat.reduceSub, Array.replicate_succ, Array.replicate_zero, List.push_toArray, List.append_toArray, List.nil_append, List.cons_append]
  gi_wp2
  gi_loopw [3] (fun i wr => ∃ k : Nat, k ≤ n ∧ i = .int .i64 ((n : Int) - 1 - k) ∧ (∃ pre : List (Below_ n), pre.map (·.1) = downTo n k ∧ J pre wr) ∧ KeepT T W wr)
    (fun i _ => (intOf i + 1).toNat)
  case atStart => exact ⟨0, Nat.zero_le _, by simp, ⟨[], rfl, h0⟩, KeepT.refl _ _⟩
  case round =>
    obtain ⟨k, hk, rfl, ⟨pre, hpre, hJs⟩, hnx⟩ := hrel
    have HP := Lib.hid hpre; clear hpre
    by_cases hlt : k < n
    · obtain ⟨j, hj⟩ : ∃ j, j + k + 1 = n := ⟨n - k - 1, by omega⟩
      obtain ⟨b1, o1, rfl, hc1⟩ := ha.at_ (i := j) (by rw [← HZ.out]; omega)
      have hb1 := hA b1 o1 rfl
      have hc2 := (hnx.cell (p := ⟨b1, o1 + j, none⟩) hb1).trans hc1
      have hc3 := (hnx.cell (p := ⟨Bs, 0, none⟩) hBn).trans hBs
      have hjn : j < n := by omega
      have hy0 := hY pre ⟨j, hjn⟩ wr hJs (by have := congrArg List.length HP.out; rw [List.length_map, downTo_length] at this; omega)
      have hs : (pre ++ [(⟨j, hjn⟩ : Below_ n)]).map (·.1) = downTo n (k + 1) := by
        rw [downTo_succ, List.map_append, HP.out, show n - 1 - k = j by omega]; rfl
      have HS := Lib.hid hs; clear hs
      obtain ⟨fn, tmps, assign, body, hy, hR⟩ := hy0
      simp only [encAt] at hy
      rw [show ((n : Int) - 1 - k) = (j : Int) by omega]
      have HJ := Lib.hid hj; clear hj hlt
      gi_wp2
      refine hR.mono ?_
      rintro e W3 (⟨rfl, hJ3, hk3⟩ | ⟨rfl, hJx3⟩)
      · gi_wp2
        go_roundw
        case rel => exact ⟨k + 1, by have := HJ.out; omega, by have := HJ.out; congr 1; omega, ⟨_, HS.out, hJ3⟩, hnx.trans hk3⟩
        case measure => simp [intOf]
      · gi_wp2
        refine bodyPost_ret (results_none rfl _ _ _) rfl ?_
        exact ⟨⟨_, rfl⟩, .inr ⟨_, ⟨k + 1, by have := HJ.out; omega, HS.out⟩, hJx3⟩⟩
    · obtain rfl : k = n := by omega
      gi_wp2
      go_end0
      exact ⟨⟨_, rfl⟩, .inl ⟨_, HP.out, hJs⟩⟩

set_option maxHeartbeats 1000000 in
theorem back_in (F : Fence) (nf : Nat) (h5 : F.fn 112) (hro : F.round = none) (a : Option Addr) (len cap : Nat) (w : World) :
    CallsIn F nf Try.prog 112 #[.slice a len cap] w fun e w' => e = .returned (.func (.func 141) #[] #[.pointer (some ⟨w.heap.size, 0, none⟩)]) ∧ w' = w.alloc (.cells #[.slice a len cap] 40) := by
  refine callsIn_of_wp Try.func112 rfl h5 ?_ hro
  simp only [Try.ntmps112, List.size_toArray, List.length_cons, List.length_nil, Nat.reduceAdd, Nat.reduceSub, Array.replicate_succ, Array.replicate_zero, List.push_toArray, List.append_toArray, List.nil_append, List.cons_append]
  gi_wp2
  go_ret
  exact ⟨rfl, rfl⟩

theorem back_stops (F : Fence) (nf : Nat) (h8 : F.fn 141) (hro : F.round = none) (hn : 1 ≤ nf) (Bs : Nat) (T : Nat → Prop) (A : Option Addr) (n c : Nat) (zs : List Int) (hreach : n ≤ 1152921504606846976) (w : World) (hBn : T Bs) (hBs : Bs < w.heap.size)
    (hc : w.cell? ⟨Bs, 0, none⟩ = some (.slice A n c)) (hnz : n = zs.length) (ha : Rd w .i64 A zs) (hA : ∀ b off, A = some ⟨b, off, none⟩ → T b) :
    SeqStopsK F nf Try.prog 141 #[.pointer (some ⟨Bs, 0, none⟩)] (encAt zs n) (KeepT T) (fun ys => ys.map (·.1) = downTo n n)
      (fun pre => ∃ k, k ≤ n ∧ pre.map (·.1) = downTo n k) n w := fun l J Jx W hW _ _ hY h0 => by
  have hc' := (hW.cell (p := ⟨Bs, 0, none⟩) hBs).trans hc
  exact back1_in F nf h8 hro hn l Bs T A n c zs hreach hA hnz J Jx hY W hc' hBn (ha.keep hW) h0
end Go.Proofs.Ytpjmiafefammkaa
