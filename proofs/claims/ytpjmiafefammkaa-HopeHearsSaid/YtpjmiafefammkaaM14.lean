/- Texts joined: Crc Cp Ls Tb. -/
import Derived.Test.YtpjmiafefammkaaM13
import Derived.Maps.AppendAt
/- Layer 7: the contracts of the program's sums. -/
namespace Go.Proofs.Ytpjmiafefammkaa
open Go.RowKit
set_option linter.unusedVariables false

section
variable {P : Program} {n : Cx} {fr : Fr} {w : World} {ty : TypeId} {x y : Operand} {m : Int} {T e : TypeId} {k : IntKind} {v : Value}
theorem os_ixa {g i l : Nat} (hT : P.underlying T = some (.array l e)) (hs : ∀ w, (sizeOf e).run P w = .ok 1 w) (hx : Fr.ev fr x = some (.pointer (some ⟨g, 0, none⟩))) (hy : Fr.ev fr y = some (.int k m)) (hm : m = (i : Int)) (h : i < l) : OS P n (.indexAddr T x y) ty fr w (.pointer (some ⟨g, 0 + i, none⟩)) w := by
  subst hm
  exact os_of fun a ha => by simp [execOp, ha.ev hx, ha.ev hy, Instr.indexAt, asIntOf, run_underlying hT, Instr.sureAddr, h, hs, addr_add]
theorem os_allocB {zc : Array Value} {cs : List Value} (hz : ∀ w, (zeroValue T).run P w = .ok (.agg zc) w) (he : zc = cs.toArray) : OS P n (.alloc T) ty fr w (.pointer (some ⟨w.heap.size, 0, none⟩)) (w.alloc (.cells cs.toArray T)) := by
  subst he
  exact os_alloc hz
end

section
variable {P : Program} {n : Cx} {fr : Fr} {w : World} {fn : Func} {U : Value → World → Prop} {t g : Nat} {T e : TypeId} {cs : List Value} {d : TypeDesc}
/-- a named result that lies in memory -/
theorem post_cell (hf : fn.results = #[.cell t T]) (hg : Fr.get fr t = some (.pointer (some ⟨g, 0, none⟩))) (hu : P.underlying T = some d) (hd : (match d with | .struct _ | .array _ _ => true | _ => false) = true) (hs : (P.info? T).map (·.size) = some cs.length) (hB : Bk w g cs e) (h : U (.agg cs.toArray) w) : Post P n fn U .ret fr w := by
  unfold Post
  refine ⟨_, fun a ha => ?_, h⟩
  have := run_loadVar_row (P := P) w g e T cs.toArray (0, 0) d hB hu hd (by simpa using hs)
  have h1 : a.tmps.getD t undef = .pointer (some ⟨g, 0, none⟩) := by simp [Array.getD_eq_getD_getElem?, ha.at_ t _ hg]
  simp only [Array.getD_eq_getD_getElem?] at h1
  simp [results, hf, h1, asAddr, this]
end

/-- lists of lists -/
def RdS (w : World) (k : IntKind) (A : Option Addr) (ls : List (List Int)) : Prop :=
  0 < ls.length → ∃ b off, A = some ⟨b, off, none⟩ ∧ ∀ i, i < ls.length → ∃ Ai ci, w.cell? ⟨b, off + i, none⟩ = some (.slice Ai (ls.getD i []).length ci) ∧ Rd w k Ai (ls.getD i []) ∧ (ls.getD i []).length ≤ ci ∧ (ls.getD i []).length ≤ 140737488351232
theorem RdS.nil {w k A} : RdS w k A [] := fun h => absurd h (by simp)
theorem RdS.at_ {w k A ls} (h : RdS w k A ls) {i : Nat} (hi : i < ls.length) : ∃ b off Ai ci, A = some ⟨b, off, none⟩ ∧ w.cell? ⟨b, off + i, none⟩ = some (.slice Ai (ls.getD i []).length ci) ∧ Rd w k Ai (ls.getD i []) ∧ (ls.getD i []).length ≤ ci ∧ (ls.getD i []).length ≤ 140737488351232 := by
  obtain ⟨b, off, e, hc⟩ := h (by omega)
  obtain ⟨Ai, ci, h1⟩ := hc i hi
  exact ⟨b, off, Ai, ci, e, h1⟩
theorem RdS.keep {w w' : World} {k A ls} (h : RdS w k A ls) (hb : Below w.heap.size w w') : RdS w' k A ls := by
  intro hl
  obtain ⟨b, off, e, hc⟩ := h hl
  refine ⟨b, off, e, fun i hi => ?_⟩
  obtain ⟨Ai, ci, h1, h2, h3, h4⟩ := hc i hi
  have := World.block_lt_of_cell? w ⟨b, off + i, none⟩ h1
  exact ⟨Ai, ci, (hb.cell (p := ⟨b, off + i, none⟩) this).trans h1, h2.keep hb, h3, h4⟩
theorem RdS.led {w w' : World} {k A ls} (h : RdS w k A ls) (hb : LeD w w') : RdS w' k A ls := by obtain ⟨q, rfl⟩ := hb; exact h

def crcCellsTo (k : Nat) : List Value := (List.range 256).map fun n => if n < k then .int .u32 ((crcTab n).toNat : Int) else .int .u32 0
def crcCells : List Value := crcCellsTo 256
theorem crcCellsTo_len (k : Nat) : (crcCellsTo k).length = 256 := by simp [crcCellsTo]
theorem crcCellsTo_set (k : Nat) (hk : k < 256) : (crcCellsTo k).set k (.int .u32 ((crcTab k).toNat : Int)) = crcCellsTo (k + 1) := by
  apply List.ext_getElem
  · simp [crcCellsTo]
  · intro i h1 h2
    rw [List.getElem_set]
    simp only [crcCellsTo, List.getElem_map, List.getElem_range]
    by_cases h : k = i
    · subst h; simp
    · rw [if_neg h]
      by_cases h3 : i < k
      · rw [if_pos h3, if_pos (by omega)]
      · rw [if_neg h3, if_neg (by omega)]
theorem crcCells_at {i : Nat} (hi : i < 256) : nthV crcCells i = some (.int .u32 ((crcTab i).toNat : Int)) := by
  rw [nthV_eq]
  simp [crcCells, crcCellsTo, hi]
theorem crcCellsTo_some (k : Nat) {i : Nat} (hi : i < 256) : ∃ v, nthV (crcCellsTo k) i = some v := by
  rw [nthV_eq]
  exact ⟨_, List.getElem?_eq_getElem (by rw [crcCellsTo_len]; exact hi)⟩
theorem crcCells_one : oneCells crcCells = true := by
  have : ∀ l : List Value, (∀ v ∈ l, v.oneCell' = true) → oneCells l = true := by
    intro l
    induction l with
    | nil => intro _; rfl
    | cons v r ih => intro h; simp only [oneCells, Bool.and_eq_true]; exact ⟨h v (by simp), ih fun u hu => h u (by simp [hu])⟩
  refine this _ fun v hv => ?_
  simp only [crcCells, crcCellsTo, List.mem_map] at hv
  obtain ⟨n, _, rfl⟩ := hv
  split <;> rfl
/-- each number is a byte -/
def AllB (zs : List Int) : Prop := ∀ z ∈ zs, 0 ≤ z ∧ z ≤ 255
theorem AllB.at_ {zs : List Int} (h : AllB zs) (k : Nat) : 0 ≤ zs.getD k 0 ∧ zs.getD k 0 ≤ 255 := by
  by_cases hk : k < zs.length
  · simp [hk]; exact h _ (List.getElem_mem _)
  · simp [hk]
theorem crcRun_take {s : BitVec 32} {zs : List Int} {k : Nat} (hk : k < zs.length) : crcRun s (zs.take (k + 1)) = crcStep (crcRun s (zs.take k)) (zs.getD k 0) := by
  rw [List.take_succ_eq_append_getElem hk, crcRun_app]
  simp [crcRun, hk]

end Go.Proofs.Ytpjmiafefammkaa

/- copy, and slices from a place on. No program in sight. -/
namespace Go.Proofs.Ytpjmiafefammkaa
open Go.RowKit
set_option linter.unusedVariables false

section
variable {P : Program} {n : Cx} {fr : Fr} {w : World} {ty : TypeId} {x y z : Operand} {v u : Value} {T T2 e : TypeId} {op : Op} {w' : World} {k : IntKind} {m : Int}
theorem Own.bk {B t g n c cs} (h : Own w B t (.slice (some ⟨g, 0, none⟩) n c) cs) (hc : c = cs.length) : Bk w g cs t := by
  rcases h.2 with ⟨h1, _⟩ | ⟨g', cap, cur, h1, hB, hg, hnc, hcm, hs, ht⟩
  · cases h1
  · cases h1
    unfold Bk
    rw [hg]
    have : cur = cs.toArray := by
      rw [← ht, ← hc]
      have hs' : cur.size = c := by simpa using hs
      rw [List.take_of_length_le (by simp [hs'])]
    rw [this]
theorem Bk.own {B t g cs} (h : Bk w g cs t) (hB : B ≤ g) (hl : cs.length ≤ maxLen) : Own w B t (.slice (some ⟨g, 0, none⟩) cs.length cs.length) cs :=
  ⟨by simp, .inr ⟨g, cs.length, cs.toArray, rfl, hB, h, Nat.le_refl _, hl, by simp, by simp⟩⟩
theorem os_copyB {g o dl dc sl sc q : Nat} {A : Addr} {cs ss : List Value} {t : TypeId} (hT : P.underlying T = some (.slice e)) (hs : (P.info? e).map (·.size) = some 1) (hx : Fr.ev fr x = some (.slice (some ⟨g, o, none⟩) dl dc)) (hy : Fr.ev fr y = some (.slice (some A) sl sc))
    (hB : Bk w g cs t) (hr : RdC w (some A) ss) (hq : ss.length = q) (hn : q = min sl dl) (hfit : o + q ≤ cs.length) (h1 : ∀ u ∈ ss, u.oneCell' = true) :
    OS P n (.call ⟨.builtin .copy, #[x, y], #[T, T2]⟩) ty fr w (.int .i64 q) (w.setRow g (cs.take o ++ ss ++ cs.drop (o + q)).toArray) := by
  subst hq
  have hrun := run_copy_row (P := P) w T T2 ty e g o dl dc A sl sc cs.toArray t ss hT hs hB hn (fun j u hu => by
    have hj := (List.getElem?_eq_some_iff.1 hu).1
    obtain ⟨b, off, e1, hc⟩ := hr (by omega)
    cases e1
    rw [addr_add, hc j hj]; exact hu) (by simpa using hfit) h1
  refine os_of fun a ha => ?_
  simp [execOp, resolve, invoke, builtin, ha.ev hx, ha.ev hy, hrun, Result.andThen, goInt]
theorem os_slice_l1 {b o l c i : Nat} {e : TypeId} (hT : P.underlying T = some (.slice e)) (hs : ∀ w, (sizeOf e).run P w = .ok 1 w) (hx : Fr.ev fr x = some (.slice (some ⟨b, o, none⟩) l c)) (hy : Fr.ev fr y = some (.int k m)) (hm : m = (i : Int)) (hh : i ≤ l) (hne : c ≠ i) :
    OS P n (.slice T x (some y) none none) ty fr w (.slice (some ⟨b, o + i, none⟩) (l - i) (c - i)) w := by
  have := os_slice_l (n := n) (w := w) (ty := ty) hT hs hx hy hm hh
  rw [if_neg hne] at this
  simpa [addr_add] using this
theorem grown_setRow (w : World) (g : Nat) (cs : Array Value) : w.grownBy (w.setRow g cs) (some g) :=
  ⟨rfl, rfl, rfl, by simp [World.setRow], fun k _ hk => setRow_other w g k cs (fun e => hk (by rw [e]))⟩
/-- copy(d, s): d a list of the call's own -/
theorem ot_copy {g dl dc sl sc q B : Nat} {A : Option Addr} {cs ss : List Value} {t : TypeId} (hT : P.underlying T = some (.slice e)) (hs : (P.info? e).map (·.size) = some 1) (hx : Fr.ev fr x = some (.slice (some ⟨g, 0, none⟩) dl dc)) (hy : Fr.ev fr y = some (.slice A sl sc))
    (ho : Own w B t (.slice (some ⟨g, 0, none⟩) dl dc) cs) (hr : RdC w A ss) (hq : ss.length = q) (hn : q = min sl dl) (h1 : ∀ u ∈ ss, u.oneCell' = true) :
    OT P n (.call ⟨.builtin .copy, #[x, y], #[T, T2]⟩) ty fr w fun v' w' => v' = .int .i64 q ∧ Own w' B t (.slice (some ⟨g, 0, none⟩) dl dc) (ss ++ cs.drop q) ∧ w.grownBy w' (some g) := by
  subst hq
  have hlen := ho.len
  rcases ho.2 with ⟨h0, _⟩ | ⟨g', cap, cur, h0, hB, hg, hnc, hcm, hcs, ht⟩
  · cases h0
  cases h0
  have hfit : 0 + ss.length ≤ cur.size := by rw [hcs]; omega
  have hset : ∀ a, A = some a → ∀ a', Ag n fr a' → (execOp a'.eval ⟨none, .call ⟨.builtin .copy, #[x, y], #[T, T2]⟩, ty, "", #[], none⟩).run P w = .ok (.value (.int .i64 ss.length)) (w.setRow g (cur.toList.take 0 ++ ss ++ cur.toList.drop (0 + ss.length)).toArray) := by
    rintro a rfl a' ha
    have hrun := run_copy_row (P := P) w T T2 ty e g 0 cs.length dc a sl sc cur t ss hT hs hg hn (fun j u hu => by
      have hj := (List.getElem?_eq_some_iff.1 hu).1
      obtain ⟨b, off, e1, hc⟩ := hr (by omega)
      cases e1
      rw [addr_add, hc j hj]; exact hu) hfit h1
    simp [execOp, resolve, invoke, builtin, ha.ev hx, ha.ev hy, hrun, Result.andThen, goInt]
  cases A with
  | some a =>
    refine ot_of fun a' ha => ⟨_, _, hset a rfl a' ha, rfl, ⟨?_, .inr ⟨g, dc, _, by simp only [List.length_append, List.length_drop]; congr 1; omega, hB, setRow_heap w g cur _ t _ hg, ?_, hcm, ?_, ?_⟩⟩, grown_setRow w g _⟩
    · simp
    · simp only [List.length_append, List.length_drop]; omega
    · simp only [List.take_zero, List.nil_append, List.size_toArray, List.length_append, List.length_drop, Array.length_toList]; omega
    · simp only [List.take_zero, List.nil_append, Nat.zero_add, List.length_append, List.length_drop, Nat.mul_one]
      have ht' : cs = cur.toList.take cs.length := by simpa using ht.symm
      rw [List.take_append, List.take_of_length_le (by omega), show ss.length + (cs.length - ss.length) - ss.length = cs.length - ss.length by omega]
      congr 1
      rw [ht', List.drop_take, ← ht']
  | none =>
    have h0 : ss = [] := by
      cases ss with
      | nil => rfl
      | cons a r => obtain ⟨b, o, e1, _⟩ := hr (by simp); cases e1
    subst h0
    have hmin : Nat.min sl cs.length = 0 := by simpa using hn.symm
    obtain ⟨i, hi, hi1⟩ : ∃ i, P.info? e = some i ∧ i.size = 1 := by
      cases hq : P.info? e with
      | none => simp [hq] at hs
      | some i => exact ⟨i, rfl, by simpa [hq] using hs⟩
    refine ot_of fun a' ha => ⟨.int .i64 0, w, ?_, rfl, by simpa using ho, ⟨rfl, rfl, rfl, Nat.le_refl _, fun _ _ _ => rfl⟩⟩
    simp [execOp, resolve, invoke, builtin, ha.ev hx, ha.ev hy, Builtin.copy_, run_underlying hT, Builtin.lenOf, Builtin.firstCells, sizeOf, typeInfo, hi, hi1, hmin, Result.andThen, goInt, storeCells, loadCells, loadCellsFrom]
end
end Go.Proofs.Ytpjmiafefammkaa

/- Literals of lists of structs. No program in sight. -/
namespace Go.Proofs.Ytpjmiafefammkaa
open Go.RowKit
set_option linter.unusedVariables false

theorem fold_set (off : Nat) : ∀ (cs : List Value) (k : Nat) (a : Array Value), off + k + cs.length ≤ a.size →
    ((cs.zipIdx k).foldl (fun (a : Array Value) (x : Value × Nat) => a.setIfInBounds (off + x.2) x.1) a).toList = a.toList.take (off + k) ++ cs ++ a.toList.drop (off + k + cs.length)
  | [], k, a, _ => by simp
  | c :: r, k, a, h => by
    simp only [List.length_cons] at h
    rw [List.zipIdx_cons, List.foldl_cons, fold_set off r (k + 1) _ (by simp; omega)]
    have h1 : off + k < a.toList.length := by simp; omega
    rw [Array.toList_setIfInBounds, show off + (k + 1) = off + k + 1 by omega]
    have h2 : (a.toList.set (off + k) c).take (off + k + 1) = a.toList.take (off + k) ++ [c] := by
      rw [List.take_succ_eq_append_getElem (by simpa using h1), List.take_set, List.set_eq_of_length_le (by simp; omega)]
      simp
    rw [h2, List.drop_set, if_pos (by omega)]
    simp only [List.length_cons, List.append_assoc, List.singleton_append]
    rw [show off + k + 1 + r.length = off + k + (r.length + 1) by omega]
def aggs (css : List (List Value)) : List Value := css.map fun cs => .agg cs.toArray
theorem fill_many {s : Nat} (hs : 0 < s) : ∀ (css : List (List Value)) (i : Nat) (cells : Array Value), (∀ cs ∈ css, cs.length = s) → i * s + css.length * s = cells.size →
    Instr.fill (fun i => some (i * s, s)) cells (partsOf (aggs css) i) = some (cells.toList.take (i * s) ++ css.flatten).toArray
  | [], i, cells, _, hl => by
    simp only [aggs, List.map_nil, partsOf, Instr.fill, List.flatten_nil, List.append_nil]
    have : i * s = cells.toList.length := by simpa using hl
    rw [this, List.take_length]
  | cs :: r, i, cells, h1, hl => by
    have h2 := h1 cs (by simp)
    simp only [List.length_cons, Nat.add_mul, Nat.one_mul] at hl
    have hc : (Value.agg cs.toArray).cells = cs.toArray := rfl
    have hfold : (cs.toArray.zipIdx.foldl (fun (a : Array Value) (x : Value × Nat) => a.setIfInBounds (i * s + x.2) x.1) cells).toList = cells.toList.take (i * s) ++ cs ++ cells.toList.drop (i * s + s) := by
      have := fold_set (i * s) cs 0 cells (by omega)
      rw [Nat.add_zero, h2] at this
      rw [← this]
      simp
    have hsz : (cs.toArray.zipIdx.foldl (fun (a : Array Value) (x : Value × Nat) => a.setIfInBounds (i * s + x.2) x.1) cells).size = cells.size := by
      rw [← Array.length_toList, hfold]
      simp only [List.length_append, List.length_take, List.length_drop, Array.length_toList]
      omega
    have ih := fill_many hs r (i + 1) _ (fun c hc => h1 c (by simp [hc])) (by rw [hsz, Nat.add_mul, Nat.one_mul]; omega)
    simp only [aggs, List.map_cons, partsOf, Instr.fill, hc]
    rw [if_neg (by simp [h2]; omega)]
    simp only [aggs] at ih
    rw [ih, hfold]
    congr 2
    rw [Nat.add_mul, Nat.one_mul, List.take_append_of_le_length (by simp; omega), List.take_of_length_le (by simp; omega)]
    simp
theorem flat_at {s : Nat} : ∀ (css : List (List Value)) (i j : Nat) (c : List Value), (∀ cs ∈ css, cs.length = s) → css[i]? = some c → j < s → css.flatten[i * s + j]? = c[j]?
  | cs :: r, 0, j, c, h, hc, hj => by
    cases hc
    have := h cs (by simp)
    rw [List.flatten_cons, Nat.zero_mul, Nat.zero_add, List.getElem?_append_left (by omega)]
  | cs :: r, i + 1, j, c, h, hc, hj => by
    have h1 := h cs (by simp)
    rw [List.flatten_cons, List.getElem?_append_right (by rw [Nat.add_mul]; omega), h1, show (i + 1) * s + j - s = i * s + j by rw [Nat.add_mul]; omega]
    exact flat_at r i j c (fun c hc => h c (by simp [hc])) hc hj
theorem flat_len {s : Nat} : ∀ (css : List (List Value)), (∀ cs ∈ css, cs.length = s) → css.flatten.length = css.length * s
  | [], _ => by simp
  | cs :: r, h => by
    rw [List.flatten_cons, List.length_append, flat_len r (fun c hc => h c (by simp [hc])), h cs (by simp), List.length_cons, Nat.add_mul]; omega
theorem rdp_alloc (w : World) {s : Nat} (css : List (List Value)) (e : TypeId) (h : ∀ cs ∈ css, cs.length = s) : RdP (w.alloc (.cells css.flatten.toArray e)) s (some ⟨w.heap.size, 0, none⟩) css := fun i c hc => by
  refine ⟨_, 0, rfl, fun j v hv => ?_⟩
  have hj := (List.getElem?_eq_some_iff.1 hv).1
  rw [h c (List.mem_of_getElem? hc)] at hj
  rw [cell_of_row _ w.heap.size (0 + i * s + j) css.flatten.toArray e (0, 0) (heap_alloc_new w _)]
  simp only [List.getElem?_toArray]
  rw [Nat.zero_add, flat_at css i j c h hc hj]; exact hv
section
variable {P : Program} {n : Cx} {fr : Fr} {w : World} {ty : TypeId} {x y z : Operand} {T T2 e : TypeId}
/-- []T{..} of structs, all its elements written out -/
theorem os_litS {l s : Nat} {ps : List (Nat × Operand)} {css : List (List Value)} {z0 : Value} (hT : P.underlying T = some (.slice e)) (hs : ∀ w, (sizeOf e).run P w = .ok s w) (hz : ∀ w, (zeroValue e).run P w = .ok z0 w) (hx : evP fr ps 0 = some (aggs css)) (hl : l = css.length) (h1 : ∀ cs ∈ css, cs.length = s) (h0 : 0 < l) (hs0 : 0 < s) (h2 : l * s ≤ 16777216) :
    OS P n (.buildSlice T l ps.toArray) ty fr w (.slice (some ⟨w.heap.size, 0, none⟩) l l) (w.alloc (.cells css.flatten.toArray e)) := by
  subst hl
  refine os_of fun a ha => ?_
  have hp := ha.evP hx
  have hfill := fill_many hs0 css 0 ((Array.range (css.length * s)).map (fun i => z0.cells[i % z0.cells.size]!)) h1 (by simp)
  simp only [Nat.zero_mul, List.take_zero, List.nil_append] at hfill
  have hgt : ¬ css.length * s > 2 ^ 24 := by omega
  have hne : ¬ css.length * s = 0 := by
    have := Nat.mul_pos h0 hs0; omega
  have hps : List.map (fun p : Nat × Operand => (p.1, a.eval p.2)) ps = partsOf (aggs css) 0 := hp
  simp only [execOp, Instr.buildSlice, run_underlying hT, hs, hz, newRow, Result.andThen, Sem.run_bind, Sem.run_pure, hgt, hne, if_false, hps, hfill, List.map_toArray]
  rfl
end
end Go.Proofs.Ytpjmiafefammkaa

/- Lists of structs that a call owns. No program in sight. -/
namespace Go.Proofs.Ytpjmiafefammkaa
open Go.RowKit
set_option linter.unusedVariables false

/-- v is a list of the call's own, of parts of s cells each -/
def OwnP (w : World) (B : Nat) (t : TypeId) (s : Nat) (v : Value) (ps : List (List Value)) : Prop := (∀ c ∈ ps, c.length = s) ∧ w.ownsRow B t s v ps.length ps.flatten
section
variable {w w' : World} {B B' : Nat} {t : TypeId} {s : Nat} {v : Value} {ps : List (List Value)}
theorem OwnP.nil : OwnP w B t s (.slice none 0 0) [] := ⟨fun c hc => (by cases hc), World.ownsRow_nil w B _ s⟩
theorem OwnP.lt (h : OwnP w B t s v ps) : ∀ k, v.ownBlock = some k → B ≤ k ∧ k < w.heap.size := World.ownsRow.lt h.2
theorem OwnP.blk (h : OwnP w B t s v ps) {w'' : World} (hk : ∀ k, v.ownBlock = some k → w''.heap[k]? = w.heap[k]?) : OwnP w'' B t s v ps := by
  refine ⟨h.1, h.2.1, ?_⟩
  rcases h.2.2 with hn | ⟨g, cap, cur, rfl, hB0, hgg, rest⟩
  · exact .inl hn
  · exact .inr ⟨g, cap, cur, rfl, hB0, (hk g rfl).trans hgg, rest⟩
theorem OwnP.keepAll (h : OwnP w B t s v ps) (hb : Below w.heap.size w w') : OwnP w' B t s v ps := h.blk fun k hk => hb.block k (h.lt k hk).2
theorem OwnP.alloc (h : OwnP w B t s v ps) (o : Obj) : OwnP (w.alloc o) B t s v ps := h.keepAll ((Below.refl _ _).alloc (Nat.le_refl _) o)
theorem OwnP.led (h : OwnP w B t s v ps) (hb : LeD w w') : OwnP w' B t s v ps := by obtain ⟨q, rfl⟩ := hb; exact h
theorem OwnP.mono (h : OwnP w B t s v ps) (hb : B' ≤ B) : OwnP w B' t s v ps := by
  refine ⟨h.1, h.2.1, ?_⟩
  rcases h.2.2 with hn | ⟨g, cap, cur, rfl, hB0, rest⟩
  · exact .inl hn
  · exact .inr ⟨g, cap, cur, rfl, by omega, rest⟩
theorem OwnP.form (h : OwnP w B t s v ps) : ∃ A c, v = .slice A ps.length c ∧ ps.length ≤ c ∧ c ≤ maxLen ∧ RdP w s A ps := by
  have hl := h.2.1
  rcases h.2.2 with ⟨rfl, h0⟩ | ⟨g, cap, cur, rfl, hB0, hgg, hnc, hcm, hs, ht⟩
  · refine ⟨none, 0, by rw [h0], by omega, by simp [maxLen], fun i c hc => ?_⟩
    have := List.eq_nil_of_length_eq_zero h0
    subst this; simp at hc
  · refine ⟨_, cap, rfl, hnc, hcm, fun i c hc => ⟨g, 0, rfl, fun j u hu => ?_⟩⟩
    have hi := (List.getElem?_eq_some_iff.1 hc).1
    have hj := (List.getElem?_eq_some_iff.1 hu).1
    have hcl := h.1 c (List.mem_of_getElem? hc)
    have hij : i * s + j < ps.length * s := by
      have : (i + 1) * s ≤ ps.length * s := Nat.mul_le_mul_right _ hi
      rw [Nat.add_mul, Nat.one_mul] at this
      omega
    rw [cell_of_row _ g (0 + i * s + j) cur t (0, 0) hgg, Nat.zero_add]
    have hcur : cur.toList[i * s + j]? = some u := by
      have e : (cur.toList.take (ps.length * s))[i * s + j]? = some u := by rw [ht, flat_at ps i j c h.1 hc (by omega)]; exact hu
      rw [List.getElem?_take, if_pos hij] at e
      exact e
    rw [← Array.getElem?_toList]; exact hcur
theorem Nc.ownP {Z : Nat} (h : Nc Z w w') (ho : OwnP w B t s v ps) : OwnP w' B t s v ps := by
  refine ⟨ho.1, ho.2.1, ?_⟩
  rcases ho.2.2 with hn | ⟨g, cap, cur, rfl, hB0, hgg, rest⟩
  · exact .inl hn
  · exact .inr ⟨g, cap, cur, rfl, hB0, h.block _ _ hgg (.inr rfl), rest⟩
theorem OwnP.below {w0 : World} (hb : Below B w0 w) (ho : OwnP w B' t s v ps) (hg : w.grownBy w' v.ownBlock) (hB : B ≤ B') (hs : B ≤ w.heap.size) : Below B w0 w' := hb.grown hg hs (fun k hk => Nat.le_trans hB (ho.lt k hk).1)
end
section
variable {P : Program} {n : Cx} {fr : Fr} {w w' : World} {ty : TypeId} {x y z : Operand} {v u : Value} {T T2 e : TypeId} {op : Op}
/-- append(s, x...) of structs, and where the result's row lies -/
theorem ot_append_p {A : Option Addr} {m c s : Nat} {ps news : List (List Value)} {z0 : Value} {bytes : Nat} {B : Nat} (hT : P.underlying T = some (.slice e)) (hi : TyInfo P e z0 s bytes) (hz : z0.cells.size = s) (hs0 : 0 < s) (hx : Fr.ev fr x = some v) (hy : Fr.ev fr y = some (.slice A m c))
    (ho : OwnP w B e s v ps) (hr : RdP w s A news) (hnl : ∀ c ∈ news, c.length = s) (hm : m = news.length) (h0 : 0 < news.length) (h1 : ∀ c ∈ news, ∀ u ∈ c, u.oneCell' = true) (hb : (ps.length + m) * bytes ≤ 140737488355328) (hl : ps.length + m ≤ maxLen) (hB : B ≤ w.heap.size) :
    OT P n (.call ⟨.builtin .append, #[x, y], #[T, T]⟩) ty fr w fun v' w' => OwnP w' B e s v' (ps ++ news) ∧ w.grownBy w' v.ownBlock ∧ (v'.ownBlock = v.ownBlock ∨ v'.ownBlock = some w.heap.size) := by
  obtain ⟨i, i1, i2, i3, i4⟩ := info_parts hi
  obtain ⟨b, o, rfl, _⟩ := hr 0 _ (List.getElem?_eq_getElem h0)
  obtain ⟨v', w', hrun, ho', hg, _, hown⟩ := run_append_own_at (P := P) w B T ty e i z0 s bytes hT i1 i2 i3 i4 hz hs0 v ps.length ps.flatten ho.2 ⟨b, o, none⟩ m c news.flatten (by rw [flat_len news hnl, hm])
    (fun j u hu => by
      have hj := (List.getElem?_eq_some_iff.1 hu).1
      rw [flat_len news hnl] at hj
      have e1 := Nat.div_add_mod j s
      have e2 := Nat.mod_lt j hs0
      have hi' : j / s < news.length := Nat.div_lt_of_lt_mul (by rw [Nat.mul_comm]; exact hj)
      have hc : news[j / s]? = some news[j / s] := List.getElem?_eq_getElem hi'
      have hu' : (news[j / s])[j % s]? = some u := by
        rw [← flat_at news (j / s) (j % s) _ hnl hc e2, show j / s * s + j % s = j by rw [Nat.mul_comm]; exact e1]; exact hu
      obtain ⟨b', o', e3, hcell⟩ := hr (j / s) _ hc
      cases e3
      have := hcell (j % s) u hu'
      rw [addr_add]
      rwa [show o + j / s * s + j % s = o + j by rw [Nat.add_assoc, Nat.mul_comm (j / s)]; omega] at this) (fun u hu => by
      obtain ⟨c, hc, hu⟩ := List.mem_flatten.1 hu
      exact h1 c hc u hu) hl hb hB
  refine ot_of fun a ha => ⟨v', w', by simp [execOp, resolve, invoke, builtin, ha.ev hx, ha.ev hy, hrun, Result.andThen], ⟨fun c hc => ?_, ?_⟩, hg, hown⟩
  · rcases List.mem_append.1 hc with h | h
    · exact ho.1 c h
    · exact hnl c h
  · rw [List.length_append, ← hm, List.flatten_append]
    exact ho'
end
end Go.Proofs.Ytpjmiafefammkaa
