/- Texts joined: NtR HdR V6 HdU. -/
import Derived.Test.YtpojijnjdlnokaaM16
import Derived.OrdersHeld
/- Layer 15: a report is read. -/
namespace Go.Proofs.Ytpojijnjdlnokaa
open Go.RowKit
set_option linter.unusedVariables false

/-- behind so many bytes that were asked for -/
def RSt (p : List Int) (pos : Nat) (bs : List Int) (e : Int) : Prop := ((e = 0 ∧ pos ≤ p.length ∧ bs = p.drop pos) ∨ (e ≠ 0 ∧ p.length < pos)) ∧ AllY bs ∧ bs.length ≤ p.length
def rdV (p : List Int) (pos s : Nat) : Int := if pos + s ≤ p.length then numAt p pos s else 0
theorem rst_step {p : List Int} {pos : Nat} {bs : List Int} {e : Int} {s : Nat} (h : RSt p pos bs e) (hs : 1 ≤ s ∧ s ≤ 4) :
    RSt p (pos + s) (if rnOk e s bs then bs.drop s else bs) (rnErr e s bs) ∧ (if rnOk e s bs then numOf (bs.take s) else 0) = rdV p pos s := by
  obtain ⟨h1, h2, h3⟩ := h
  rcases h1 with ⟨rfl, hp, rfl⟩ | ⟨he, hp⟩
  · have hdl : (p.drop pos).length = p.length - pos := List.length_drop
    by_cases hc : pos + s ≤ p.length
    · have ho : rnOk 0 s (p.drop pos) = true := by unfold rnOk; rw [hdl]; simp; omega
      have hee : rnErr 0 s (p.drop pos) = 0 := by unfold rnErr; rw [if_pos rfl, if_pos (by omega), if_pos (by rw [hdl]; omega)]
      rw [ho, hee]
      simp only [if_true]
      refine ⟨⟨.inl ⟨rfl, hc, by rw [List.drop_drop]⟩, h2.drop s, by rw [List.length_drop]; omega⟩, ?_⟩
      unfold rdV numAt
      rw [if_pos hc]
    · have ho : rnOk 0 s (p.drop pos) = false := by unfold rnOk; rw [hdl]; simp; omega
      have hee : rnErr 0 s (p.drop pos) = 4 := by unfold rnErr; rw [if_pos rfl, if_pos (by omega), if_neg (by rw [hdl]; omega)]
      rw [ho, hee]
      refine ⟨⟨.inr ⟨by decide, by omega⟩, h2, h3⟩, ?_⟩
      unfold rdV
      rw [if_neg hc]; rfl
  · have ho : rnOk e s bs = false := by unfold rnOk; simp [he]
    have hee : rnErr e s bs = e := by unfold rnErr; rw [if_neg he]
    rw [ho, hee]
    refine ⟨⟨.inr ⟨he, by omega⟩, h2, h3⟩, ?_⟩
    have hn : ¬ pos + s ≤ p.length := by omega
    unfold rdV
    rw [if_neg hn]; rfl
theorem rdV_bd {p : List Int} (h : AllY p) (pos s : Nat) : 0 ≤ rdV p pos s ∧ rdV p pos s < 256 ^ s := by
  unfold rdV
  split
  · exact numAt_bd h pos s
  · exact ⟨by omega, Int.pow_pos (by decide)⟩
/-- a reader over p, behind so many bytes that were asked for -/
structure RP (w : World) (B g : Nat) (V : Option Nat) (p : List Int) (pos : Nat) : Prop where
  ex : ∃ v bs e, RrS w B g v bs e ∧ RSt p pos bs e ∧ v.ownBlock = V
theorem RP.lt {w B g V p pos} (h : RP w B g V p pos) : g < w.heap.size ∧ B ≤ g ∧ ∀ k, V = some k → k < w.heap.size ∧ B ≤ k ∧ k ≠ g := by
  obtain ⟨v, bs, e, h1, h2, rfl⟩ := h.ex
  exact ⟨h1.bk.lt, h1.low, fun k hk => ⟨(h1.row k hk).2.1, (h1.row k hk).1, (h1.row k hk).2.2⟩⟩
theorem RP.kb {w w' B g V p pos S} (h : RP w B g V p pos) (hb : Kb S w w') (hg : g ∉ S) (hV : ∀ k, V = some k → k ∉ S) : RP w' B g V p pos := by
  obtain ⟨v, bs, e, h1, h2, h3⟩ := h.ex
  obtain ⟨A, c, rfl, f1, f2, f3⟩ := h1.form
  refine ⟨_, bs, e, ⟨h1.bk.kb hb hg, ⟨A, c, rfl, f1, f2, f3.kb hb fun b o ea => by subst ea; exact hV b h3.symm⟩, h1.low, fun b hb2 => ⟨(h1.row b hb2).1, Nat.lt_of_lt_of_le (h1.row b hb2).2.1 hb.size, (h1.row b hb2).2.2⟩⟩, h2, h3⟩
theorem RP.keep {w w' B g V p pos} (h : RP w B g V p pos) (hb : Below w.heap.size w w') : RP w' B g V p pos := h.kb (S := []) (Kb.of_below hb) (by simp) (fun _ _ => by simp)
theorem nt_num (B g : Nat) (V : Option Nat) (p : List Int) (pos : Nat) (size : Int) (s : Nat) (w : World) (h : RP w B g V p pos) (hB : B ≤ w.heap.size) (hl : p.length ≤ 10000000) (hs : size = (s : Int) ∧ 1 ≤ s ∧ s ≤ 4) :
    Gives Try.prog 136 #[.pointer (some ⟨g, 0, none⟩), .int .i64 size] w fun u w' => u = .int .i64 (rdV p pos s) ∧ RP w' B g V p (pos + s) ∧ Kb [g] w w' := by
  obtain ⟨rfl, hs⟩ := hs
  obtain ⟨v, bs, e, h1, h2, h3⟩ := h.ex
  obtain ⟨h4, h5⟩ := rst_step h2 hs
  refine (pk_RNumber g v bs e s B w h1 hB (by have := h2.2.2; omega) h2.2.1).mono fun u w' ⟨v', e1, r1, k1, o1⟩ => ?_
  rw [Int.toNat_natCast] at e1 r1
  exact ⟨by rw [e1, h5], ⟨v', _, _, r1, h4, o1.trans h3⟩, k1⟩

def cntsR (p : List Int) (k : Nat) : List (Int × Int) := (List.range k).map fun j => (rdV p (9 + 3 * j) 1, rdV p (10 + 3 * j) 2)
theorem cntsR_succ (p : List Int) (k : Nat) : cntsR p (k + 1) = cntsR p k ++ [(rdV p (9 + 3 * k) 1, rdV p (10 + 3 * k) 2)] := by simp [cntsR, List.range_succ]
theorem cntsR_len (p : List Int) (k : Nat) : (cntsR p k).length = k := by simp [cntsR]
theorem i64_rd {p : List Int} (h : AllY p) (pos s : Nat) (hs : s ≤ 4) : I64 (rdV p pos s) := by
  have h1 := rdV_bd h pos s
  have h2 := pow256 hs
  have h3 : (256 : Int) ^ 4 = 4294967296 := by decide
  exact ⟨by omega, by omega⟩
theorem one4' {a b c : Int} {v : Value} (h : v.oneCell' = true) : oneCells [.int .i64 a, .int .i64 b, .int .i64 c, v] = true := by
  show (true && (true && (true && (v.oneCell' && true)))) = true
  rw [h]; rfl
theorem OwnP.one' {w B t s v ps} (h : OwnP w B t s v ps) : v.oneCell' = true := by
  obtain ⟨A, c, rfl, _⟩ := h.form
  rfl
end Go.Proofs.Ytpojijnjdlnokaa

/- Layer 14: a header is read. -/
namespace Go.Proofs.Ytpojijnjdlnokaa
open Go.RowKit
set_option linter.unusedVariables false

theorem end_pos {p bs : List Int} {e : Int} {pos : Nat} (h : RSt p pos bs e) : (if 0 < (if e = 0 then (bs.length : Int) else 0) then (4 : Int) else e) = 0 ↔ pos = p.length := by
  rcases h.1 with ⟨rfl, hp, rfl⟩ | ⟨he, hp⟩
  · have hdl : (p.drop pos).length = p.length - pos := List.length_drop
    rw [hdl]
    simp only [if_true]
    constructor
    · intro hh
      split at hh
      · cases hh
      · omega
    · intro hh
      rw [if_neg (by omega)]
  · rw [if_neg he, if_neg (by omega)]
    exact ⟨fun h => absurd h he, fun h => by omega⟩
theorem hd_take (B g : Nat) (V : Option Nat) (p : List Int) (pos : Nat) (m : Int) (w : World) (h : RP w B g V p pos) (hB : B ≤ w.heap.size) (hl : p.length ≤ 10000000) :
    Gives Try.prog 138 #[.pointer (some ⟨g, 0, none⟩), .int .i64 m] w fun u w' => ∃ (bs : List Int) (pos' : Nat), OwnK w' w.heap.size 5 .u8 u bs ∧ RP w' B g V p pos' ∧ Kb [g] w w' ∧ (0 ≤ m ∧ pos + m.toNat ≤ p.length → bs = (p.drop pos).take m.toNat ∧ pos' = pos + m.toNat) ∧ (¬ (0 ≤ m ∧ pos + m.toNat ≤ p.length) → p.length < pos') ∧ bs.length ≤ p.length := by
  obtain ⟨v, bs, e, h1, h2, h3⟩ := h.ex
  refine (pk_Take g v bs e m B w h1 hB (by have := h2.2.2; omega)).mono fun u w' ⟨v', o1, r1, k1, e1⟩ => ?_
  obtain ⟨g1, g2, g3⟩ := h2
  by_cases hok : 0 ≤ m ∧ pos + m.toNat ≤ p.length
  · rcases g1 with ⟨rfl, hp, rfl⟩ | ⟨he, hp⟩
    · have hdl : (p.drop pos).length = p.length - pos := List.length_drop
      have ht : takeOk 0 m (p.drop pos) = true := by unfold takeOk; rw [hdl]; exact decide_eq_true ⟨rfl, hok.1, by omega⟩
      have hee : takeErr 0 m (p.drop pos) = 0 := by unfold takeErr; rw [if_pos rfl, if_neg (by omega), if_pos (by rw [hdl]; omega)]
      rw [ht, hee] at r1
      rw [ht] at o1
      simp only [if_true] at o1 r1
      exact ⟨_, pos + m.toNat, o1, ⟨v', _, _, r1, ⟨.inl ⟨rfl, hok.2, by rw [List.drop_drop]⟩, g2.drop _, by rw [List.length_drop]; omega⟩, e1.trans h3⟩, k1, fun _ => ⟨rfl, rfl⟩, fun h => absurd hok h, by rw [List.length_take]; omega⟩
    · exact absurd hok (by omega)
  · have hno : takeOk e m bs = false ∧ takeErr e m bs ≠ 0 := by
      rcases g1 with ⟨rfl, hp, rfl⟩ | ⟨he, hp⟩
      · have hdl : (p.drop pos).length = p.length - pos := List.length_drop
        refine ⟨by unfold takeOk; rw [hdl]; exact decide_eq_false (by omega), ?_⟩
        unfold takeErr
        rw [if_pos rfl]
        split
        · decide
        · rw [if_neg (by rw [hdl]; omega)]; decide
      · refine ⟨by unfold takeOk; exact decide_eq_false (fun h => he h.1), ?_⟩
        unfold takeErr
        rw [if_neg he]; exact he
    rw [hno.1] at o1 r1
    exact ⟨[], p.length + 1, o1, ⟨v', _, _, r1, ⟨.inr ⟨hno.2, by omega⟩, g2, g3⟩, e1.trans h3⟩, k1, fun h => absurd h hok, fun _ => by omega, by simp⟩
def rowsR (p : List Int) (k : Nat) : List (Int × Int) := (List.range k).map fun j => (rdV p (14 + 3 * j) 1, rdV p (15 + 3 * j) 2)
theorem rowsR_succ (p : List Int) (k : Nat) : rowsR p (k + 1) = rowsR p k ++ [(rdV p (14 + 3 * k) 1, rdV p (15 + 3 * k) 2)] := by simp [rowsR, List.range_succ]
theorem rowsR_len (p : List Int) (k : Nat) : (rowsR p k).length = k := by simp [rowsR]
def headR (p : List Int) : HeadP := ⟨rdV p 1 2, rdV p 3 4, rdV p 7 1, rdV p 8 1, rdV p 10 4, rowsR p (rdV p 9 1).toNat⟩
theorem headR_shape {p : List Int} (hy : AllY p) (hs : shapeH p = true) : headR p = headP p ∧ (rdV p 9 1).toNat = (numAt p 9 1).toNat := by
  obtain ⟨g1, g2⟩ : 14 ≤ p.length ∧ 14 + 3 * (numAt p 9 1).toNat ≤ p.length := by simpa [shapeH] using hs
  have h9 : rdV p 9 1 = numAt p 9 1 := by unfold rdV; rw [if_pos (by omega)]
  refine ⟨?_, by rw [h9]⟩
  have hr : rowsR p (numAt p 9 1).toNat = cntsAt p 14 (numAt p 9 1).toNat := by
    unfold rowsR cntsAt
    refine List.map_congr_left fun j hj => ?_
    have hj := List.mem_range.1 hj
    unfold rdV
    rw [if_pos (by omega), if_pos (by omega)]
  unfold headR headP
  rw [h9, hr]
  unfold rdV
  rw [if_pos (by omega), if_pos (by omega), if_pos (by omega), if_pos (by omega), if_pos (by omega)]
theorem shape_no {p : List Int} (hy : AllY p) (hs : shapeH p = false) : p.length < 14 + 3 * (rdV p 9 1).toNat := by
  have hn : ¬ (14 ≤ p.length ∧ 14 + 3 * (numAt p 9 1).toNat ≤ p.length) := by simpa [shapeH] using hs
  by_cases h : 14 ≤ p.length
  · have h9 : rdV p 9 1 = numAt p 9 1 := by unfold rdV; rw [if_pos (by omega)]
    rw [h9]; omega
  · omega
end Go.Proofs.Ytpojijnjdlnokaa

/- Regions that draw their order, order by order, under a condition on the world: what yields in every world that meets it may be taken first. No program in sight. -/
namespace Go.Proofs.Ytpojijnjdlnokaa
open Go.RowKit
set_option linter.unusedVariables false

/-- so many operations are left at most; which have come up, says 'listed'; the world meets S -/
def VH (P : Program) (n : Cx) (all : List Oper) (S : World → Prop) (fuel : Nat) (listed : List Bool) (fr : Fr) (w : World) (Q : Exit → Fr → World → Prop) : Prop :=
  all.all (dstOk n.sz) = true → S w → ∀ a, Ag n fr a → wpAnyH P .any all.toArray (nrm n Q) S fuel listed.toArray a w
def VHN (P : Program) (n : Cx) (all : List Oper) (S : World → Prop) (fuel : Nat) (listed : List Bool) (i : Nat) (fr : Fr) (w : World) (Q : Exit → Fr → World → Prop) : Prop :=
  all.all (dstOk n.sz) = true → S w → ∀ a, Ag n fr a → wpOp P all.toArray (nrm n Q) i (fun a' w' => S w' ∧ wpAnyH P .any all.toArray (nrm n Q) S fuel (setB listed i).toArray a' w') a w

section
variable {P : Program} {n : Cx} {all : List Oper} {S : World → Prop} {fuel : Nat} {listed : List Bool} {fr : Fr} {w w' : World} {Q : Exit → Fr → World → Prop} {d : Nat} {op : Op} {ty : TypeId} {pos : String} {aft : Array Edge} {v : Value}

theorem v_region_h (S : World → Prop) {id : Nat} {l : List Oper} (hm : P.follows .mixedOrders = true) (hS : S { w with drawn := w.drawn + 1 }) (h : VH P n l S l.length (List.replicate l.length false) fr { w with drawn := w.drawn + 1 } Q) (hro : n.ro = none := by rfl) : V P n (.region id l.toArray true) fr w Q := by
  unfold V
  intro hok a ha
  rw [fw_none hro]
  refine wpIn_wide.2 (Code.wp_mono (fun e a w hq => ?_) (wp_region_held (S := S) (Q := nrm n Q) hm ?_))
  · cases e with
    | normal => exact .inl hq
    | _ => exact hq.elim
  · have := h (by simpa [codeOk] using hok) hS a ha
    simpa using this
theorem vh_done (hr : Region.ready .any all.toArray listed.toArray = []) (h : S w → Q .normal fr w) : VH P n all S fuel listed fr w Q := by
  intro hok hS a ha
  exact wpAnyH_done hr ⟨fr, ha, h hS⟩ fuel
theorem vh_all (rs : List Nat) (hr : Region.ready .any all.toArray listed.toArray = rs) (hne : rs ≠ []) (h : ∀ i ∈ rs, VHN P n all S fuel listed i fr w Q) : VH P n all S (fuel + 1) listed fr w Q := by
  intro hok hS a ha
  refine wpAnyH_all hr hne fun i hi => ?_
  have := h i hi hok hS a ha
  rw [setB_eq] at this
  exact this
theorem vh_pure {g : Option (Nat × Bool)} (i : Nat) (hi : all[i]? = some ⟨some d, op, ty, pos, aft, g⟩) (hs : Region.noSelect all.toArray = true) (hf : Region.free .any all.toArray listed.toArray i = true) (hr : (Region.ready .any all.toArray listed.toArray).contains i = true)
    (h : ∀ w, S w → OS P n op ty fr w v w) (k : VH P n all S fuel (setB listed i) ((d, v) :: fr) w Q) (hg : GOk all fr g := by first | exact True.intro | rfl) : VH P n all S (fuel + 1) listed fr w Q := by
  intro hok hS a ha
  have h1 := dstOk_at hok hi rfl
  refine wpAnyH_take (oi := ⟨some d, op, ty, pos, aft, g⟩) (v := v) (by simpa using hi) hs hf hr (fun c a w hq => hq.elim) (.inl ⟨GOk.wanted ha hg, fun w hw => ?_⟩) hS ?_
  · have := h w hw
    unfold OS at this
    rw [execOp_bare]
    exact this a ha
  · have := k hok hS _ (ha.put h1 v)
    rw [setB_eq] at this
    exact this
theorem vh_skip {j : Nat} {b c : Bool} (i : Nat) (hi : all[i]? = some ⟨some d, op, ty, pos, aft, some (j, b)⟩) (hs : Region.noSelect all.toArray = true) (hf : Region.free .any all.toArray listed.toArray i = true) (hr : (Region.ready .any all.toArray listed.toArray).contains i = true)
    (hg : guardF all fr j = some (.bool c)) (hb : (c == b) = false) (k : VH P n all S fuel (setB listed i) ((d, undef) :: fr) w Q) : VH P n all S (fuel + 1) listed fr w Q := by
  intro hok hS a ha
  have h1 := dstOk_at hok hi rfl
  have hne : (some c == some b) = false := by simpa using hb
  refine wpAnyH_take (oi := ⟨some d, op, ty, pos, aft, some (j, b)⟩) (v := undef) (by simpa using hi) hs hf hr (fun c a w hq => hq.elim) (.inr ⟨?_, rfl⟩) hS ?_
  · simp only [Region.wanted, guardF_yields ha hg, hne]
  · have := k hok hS _ (ha.put h1 undef)
    rw [setB_eq] at this
    exact this
theorem vh_one (i : Nat) (hr : (Region.ready .any all.toArray listed.toArray == [i]) = true) (h : VHN P n all S fuel listed i fr w Q) : VH P n all S (fuel + 1) listed fr w Q :=
  vh_all [i] (by simpa using hr) (by simp) fun j hj => by
    simp only [List.mem_cons, List.not_mem_nil, or_false] at hj
    subst hj; exact h
theorem vh_two (i j : Nat) (hr : (Region.ready .any all.toArray listed.toArray == [i, j]) = true) (h : VHN P n all S fuel listed i fr w Q) (h2 : VHN P n all S fuel listed j fr w Q) : VH P n all S (fuel + 1) listed fr w Q :=
  vh_all [i, j] (by simpa using hr) (by simp) fun k hk => by
    simp only [List.mem_cons, List.not_mem_nil, or_false] at hk
    rcases hk with rfl | rfl
    · exact h
    · exact h2
theorem vh_three (i j l : Nat) (hr : (Region.ready .any all.toArray listed.toArray == [i, j, l]) = true) (h : VHN P n all S fuel listed i fr w Q) (h2 : VHN P n all S fuel listed j fr w Q) (h3 : VHN P n all S fuel listed l fr w Q) : VH P n all S (fuel + 1) listed fr w Q :=
  vh_all [i, j, l] (by simpa using hr) (by simp) fun k hk => by
    simp only [List.mem_cons, List.not_mem_nil, or_false] at hk
    rcases hk with rfl | rfl | rfl
    · exact h
    · exact h2
    · exact h3
theorem vhn_some {g : Option (Nat × Bool)} {i : Nat} {U : Value → World → Prop} (hi : all[i]? = some ⟨some d, op, ty, pos, aft, g⟩) (h : OT P n op ty fr w U) (hS : S w → ∀ v w', U v w' → S w') (k : ∀ v w', U v w' → VH P n all S fuel (setB listed i) ((d, v) :: fr) w' Q) (hg : GOk all fr g := by first | exact True.intro | rfl) : VHN P n all S fuel listed i fr w Q := by
  intro hok hw a ha
  have h1 := dstOk_at hok hi rfl
  unfold wpOp
  simp only [List.getElem?_toArray, hi, GOk.wanted ha hg, if_true]
  left
  unfold OT at h
  obtain ⟨v, w', hr, hu⟩ := h a ha
  unfold Oper.wp
  rw [execOp_bare, hr]
  exact ⟨hS hw v w' hu, k v w' hu hok (hS hw v w' hu) _ (ha.put h1 v)⟩
theorem vhn_val {g : Option (Nat × Bool)} {i : Nat} (hi : all[i]? = some ⟨some d, op, ty, pos, aft, g⟩) (h : OS P n op ty fr w v w') (hS : S w → S w') (k : VH P n all S fuel (setB listed i) ((d, v) :: fr) w' Q) (hg : GOk all fr g := by first | exact True.intro | rfl) : VHN P n all S fuel listed i fr w Q :=
  vhn_some (U := fun v1 w1 => v1 = v ∧ w1 = w') hi (h.ot' ⟨rfl, rfl⟩) (fun hw v1 w1 e => by obtain ⟨-, rfl⟩ := e; exact hS hw) (by rintro v1 w1 ⟨rfl, rfl⟩; exact k) hg
theorem vhn_unit {g : Option (Nat × Bool)} {i : Nat} (hi : all[i]? = some ⟨none, op, ty, pos, aft, g⟩) (h : OU P n op ty fr w w') (hS : S w → S w') (k : VH P n all S fuel (setB listed i) fr w' Q) (hg : GOk all fr g := by first | exact True.intro | rfl) : VHN P n all S fuel listed i fr w Q := by
  intro hok hw a ha
  unfold wpOp
  simp only [List.getElem?_toArray, hi, GOk.wanted ha hg, if_true]
  left
  unfold OU at h
  unfold Oper.wp
  rw [execOp_bare, h a ha]
  exact ⟨hS hw, k hok (hS hw) _ ha⟩
theorem vhn_call {g : Option (Nat × Bool)} {i : Nat} {f : FuncId} {xs : List Operand} {tt : Array TypeId} {args : List Value} {U : Value → World → Prop} (hi : all[i]? = some ⟨some d, .call ⟨.value (.func f), xs.toArray, tt⟩, ty, pos, aft, g⟩) (h : Gives P f args.toArray w U) (hx : evL fr xs = some args) (hS : S w → ∀ v w', U v w' → S w')
    (k : ∀ v w', U v w' → VH P n all S fuel (setB listed i) ((d, v) :: fr) w' Q) (hg : GOk all fr g := by first | exact True.intro | rfl) : VHN P n all S fuel listed i fr w Q := by
  intro hok hw a ha
  have h1 := dstOk_at hok hi rfl
  unfold wpOp
  simp only [List.getElem?_toArray, hi, GOk.wanted ha hg, if_true]
  left
  unfold Gives at h
  unfold Oper.wp
  rw [execOp_bare, run_callee (first := #[]) (cap := #[]) h.1 rfl hx ha]
  simp only [Array.append_empty, Array.empty_append]
  refine h.2.mono ?_
  rintro e w' ⟨v, rfl, h2⟩
  exact ⟨hS hw v w' h2, k v w' h2 hok (hS hw v w' h2) _ (ha.put h1 v)⟩
/-- the condition holds ahead of the next operation -/
theorem vhn_hold {i : Nat} (h : S w → VHN P n all S fuel listed i fr w Q) : VHN P n all S fuel listed i fr w Q := fun hok hw => h hw hok hw
end
attribute [irreducible] VH VHN
end Go.Proofs.Ytpojijnjdlnokaa

/- Layer 14: a header is read; the walk. -/
namespace Go.Proofs.Ytpojijnjdlnokaa
open Go.RowKit
set_option linter.unusedVariables false

theorem one6' {a b c d e : Int} {v : Value} (h : v.oneCell' = true) : oneCells [.int .i64 a, .int .i64 b, .int .i64 c, .int .i64 d, .int .i64 e, v] = true := by
  show (true && (true && (true && (true && (true && (v.oneCell' && true)))))) = true
  rw [h]; rfl
set_option maxHeartbeats 4000000 in
theorem hd_read (B g : Nat) (V : Option Nat) (p : List Int) (w : World) (h : RP w B g V p 1) (hB : B ≤ w.heap.size) (hl : p.length ≤ 10000000) (hy : AllY p) :
    Gives Try.prog 137 #[.pointer (some ⟨g, 0, none⟩)] w fun u w' => ∃ A l c, u = .agg (HeadV.cells ⟨headR p, A, l, c⟩).toArray ∧ HeadOk w' ⟨headR p, A, l, c⟩ ∧ RP w' B g V p (14 + 3 * (rdV p 9 1).toNat) ∧ Kb [g] w w' ∧ ∀ a, A = some a → w.heap.size ≤ a.block := by
  obtain ⟨hg, hgB, hV⟩ := h.lt
  obtain ⟨N, hN⟩ : ∃ N, N = w.heap.size := ⟨_, rfl⟩
  obtain ⟨w1, hw1⟩ : ∃ w1, w1 = w.alloc (.cells zH.toArray 65) := ⟨_, rfl⟩
  have hN1 : Bk w1 N zH 65 := by rw [hw1, hN]; exact bk_new w _ _
  have hb1 : Below w.heap.size w w1 := by rw [hw1]; exact (Below.refl _ w).alloc (Nat.le_refl _) _
  have hs1 : w1.heap.size = w.heap.size + 1 := by rw [hw1]; simp
  have hP1 := h.keep hb1
  have hNg : N ∉ [g] := by simp; omega
  have hK := rdV_bd hy 9 1
  have hK2 : (256 : Int) ^ 1 = 256 := by decide
  refine gives_enter Try.call137 Try.func137 rfl rfl rfl (by kernel_rfl) ?_
  refine v_seq ?_
  refine v_region ?_
  refine vl_val (os_allocB Try.zeroValue65 (zc := _) (cs := zH) rfl) ?_
  rw [← hw1, ← hN]
  refine vl_nil ?_
  refine v_seq ?_
  refine v_region ?_
  refine vl_val (os_move rfl) ?_
  refine vl_call (nt_num B g V p 1 2 2 _ hP1 (by omega) hl ⟨rfl, by omega, by omega⟩) rfl ?_
  rintro u5 w5 ⟨rfl, hP5, k5⟩
  have s5 := k5.size
  refine vl_val (os_move rfl) ?_
  refine vl_call (nt_num B g V p 3 4 4 w5 hP5 (by omega) hl ⟨rfl, by omega, by omega⟩) rfl ?_
  rintro u7 w7 ⟨rfl, hP7, k7⟩
  have s7 := k7.size
  have hN7 := (hN1.kb k5 hNg).kb k7 hNg
  refine vl_val (os_fa (o := 0) (k := 0) (by kernel_rfl) rfl) ?_
  refine vl_unit (ou_store Try.sizeOf3 rfl rfl rfl (hN7.cell (i := 0) rfl) (hN7.free _)) ?_
  have hN8 := hN7.set 0 (.int .i64 (rdV p 1 2))
  refine vl_val (os_fa (o := 1) (k := 0) (by kernel_rfl) rfl) ?_
  refine vl_unit (ou_store Try.sizeOf3 rfl rfl rfl (hN8.cell (i := 1) rfl) (hN8.free _)) ?_
  have hN9 := hN8.set 1 (.int .i64 (rdV p 3 4))
  have kS : Kb [N] w7 ((w7.setCell ⟨N, 0 + 0, none⟩ (.int .i64 (rdV p 1 2))).setCell ⟨N, 0 + 1, none⟩ (.int .i64 (rdV p 3 4))) := (Kb.set (S := [N]) (by simp) _ _).trans (Kb.set (S := [N]) (by simp) _ _) (fun k hk => .inl hk)
  have hP9 := hP7.kb kS (by simp; omega) (fun k hk => by have := hV k hk; simp; omega)
  have k9w : Kb [g] w _ := ((Kb.of_below (S := [g]) hb1).trans (k5.trans k7 (fun k hk => .inl hk)) (fun k hk => .inl hk)).trans kS (fun k hk => .inr (by simp at hk; omega))
  obtain ⟨w9, hw9⟩ : ∃ w9, w9 = (w7.setCell ⟨N, 0 + 0, none⟩ (.int .i64 (rdV p 1 2))).setCell ⟨N, 0 + 1, none⟩ (.int .i64 (rdV p 3 4)) := ⟨_, rfl⟩
  rw [← hw9] at hN9 hP9 k9w
  rw [← hw9]
  have s9 := k9w.size
  have e9 : Bk w9 N [.int .i64 (rdV p 1 2), .int .i64 (rdV p 3 4), .int .i64 0, .int .i64 0, .int .i64 0, .slice none 0 0] 65 := hN9
  have hN9l := hN9.lt
  refine vl_nil ?_
  refine v_seq ?_
  refine v_region ?_
  refine vl_val (os_move rfl) ?_
  refine vl_call (nt_num B g V p 7 1 1 w9 hP9 (by omega) hl ⟨rfl, by omega, by omega⟩) rfl ?_
  rintro u11 w11 ⟨rfl, hP11, k11⟩
  have s11 := k11.size
  refine vl_val (os_move rfl) ?_
  refine vl_call (nt_num B g V p 8 1 1 w11 hP11 (by omega) hl ⟨rfl, by omega, by omega⟩) rfl ?_
  rintro u13 w13 ⟨rfl, hP13, k13⟩
  have s13 := k13.size
  have hN13 := (e9.kb k11 hNg).kb k13 hNg
  refine vl_val (os_fa (o := 2) (k := 0) (by kernel_rfl) rfl) ?_
  refine vl_unit (ou_store Try.sizeOf3 rfl rfl rfl (hN13.cell (i := 2) rfl) (hN13.free _)) ?_
  have hN14 := hN13.set 2 (.int .i64 (rdV p 7 1))
  refine vl_val (os_fa (o := 3) (k := 0) (by kernel_rfl) rfl) ?_
  refine vl_unit (ou_store Try.sizeOf3 rfl rfl rfl (hN14.cell (i := 3) rfl) (hN14.free _)) ?_
  have hN15 := hN14.set 3 (.int .i64 (rdV p 8 1))
  have kT : Kb [N] w13 ((w13.setCell ⟨N, 0 + 2, none⟩ (.int .i64 (rdV p 7 1))).setCell ⟨N, 0 + 3, none⟩ (.int .i64 (rdV p 8 1))) := (Kb.set (S := [N]) (by simp) _ _).trans (Kb.set (S := [N]) (by simp) _ _) (fun k hk => .inl hk)
  have hP15 := hP13.kb kT (by simp; omega) (fun k hk => by have := hV k hk; simp; omega)
  have k15w : Kb [g] w _ := (k9w.trans (k11.trans k13 (fun k hk => .inl hk)) (fun k hk => .inl hk)).trans kT (fun k hk => .inr (by simp at hk; omega))
  obtain ⟨w15, hw15⟩ : ∃ w15, w15 = (w13.setCell ⟨N, 0 + 2, none⟩ (.int .i64 (rdV p 7 1))).setCell ⟨N, 0 + 3, none⟩ (.int .i64 (rdV p 8 1)) := ⟨_, rfl⟩
  rw [← hw15] at hN15 hP15 k15w
  rw [← hw15]
  have s15 := k15w.size
  have e15 : Bk w15 N [.int .i64 (rdV p 1 2), .int .i64 (rdV p 3 4), .int .i64 (rdV p 7 1), .int .i64 (rdV p 8 1), .int .i64 0, .slice none 0 0] 65 := hN15
  refine vl_nil ?_
  refine v_seq ?_
  refine v_region ?_
  refine vl_val (os_move rfl) ?_
  refine vl_call (nt_num B g V p 9 1 1 w15 hP15 (by omega) hl ⟨rfl, by omega, by omega⟩) rfl ?_
  rintro u17 w17 ⟨rfl, hP17, k17⟩
  have s17 := k17.size
  refine vl_val (os_assign rfl) ?_
  refine vl_nil ?_
  refine v_seq ?_
  refine v_region ?_
  refine vl_val (os_move rfl) ?_
  refine vl_call (nt_num B g V p 10 4 4 w17 hP17 (by omega) hl ⟨rfl, by omega, by omega⟩) rfl ?_
  rintro u19 w19 ⟨rfl, hP19, k19⟩
  have s19 := k19.size
  have hN19 := (e15.kb k17 hNg).kb k19 hNg
  refine vl_val (os_fa (o := 4) (k := 0) (by kernel_rfl) rfl) ?_
  refine vl_unit (ou_store Try.sizeOf3 rfl rfl rfl (hN19.cell (i := 4) rfl) (hN19.free _)) ?_
  have hN20 := hN19.set 4 (.int .i64 (rdV p 10 4))
  have kU : Kb [N] w19 (w19.setCell ⟨N, 0 + 4, none⟩ (.int .i64 (rdV p 10 4))) := Kb.set (S := [N]) (by simp) _ _
  have hP20 := hP19.kb kU (by simp; omega) (fun k hk => by have := hV k hk; simp; omega)
  have k20w : Kb [g] w _ := (k15w.trans (k17.trans k19 (fun k hk => .inl hk)) (fun k hk => .inl hk)).trans kU (fun k hk => .inr (by simp at hk; omega))
  obtain ⟨w20, hw20⟩ : ∃ w20, w20 = w19.setCell ⟨N, 0 + 4, none⟩ (.int .i64 (rdV p 10 4)) := ⟨_, rfl⟩
  rw [← hw20] at hN20 hP20 k20w
  rw [← hw20]
  have s20 := k20w.size
  have e20 : Bk w20 N [.int .i64 (rdV p 1 2), .int .i64 (rdV p 3 4), .int .i64 (rdV p 7 1), .int .i64 (rdV p 8 1), .int .i64 (rdV p 10 4), .slice none 0 0] 65 := hN20
  have hN20l := e20.lt
  obtain ⟨K, hKK⟩ : ∃ K : Nat, rdV p 9 1 = (K : Int) := ⟨(rdV p 9 1).toNat, by omega⟩
  rw [hKK]
  rw [hKK] at hK
  have hb9 : ∀ j, I64 (rdV p j 1) := fun j => i64_rd hy j 1 (by omega)
  have hb10 : ∀ j, I64 (rdV p j 2) := fun j => i64_rd hy j 2 (by omega)
  clear hw1 hw9 hw15 hw20 hN9 hN15 hN20 hN1 hN7 hN8 hN13 hN14 hN19 e9 e15 hP1 hP5 hP7 hP9 hP11 hP13 hP15 hP17 hP19 k5 k7 kS k9w k11 k13 kT k15w k17 k19 kU hb1
  refine vl_nil ?_
  refine v_seq ?_
  refine v_seq ?_
  refine v_region ?_
  refine vl_val (os_move rfl) ?_
  refine vl_val (os_move rfl) ?_
  refine vl_nil ?_
  refine v_block ?_
  refine v_loop [(0, _), (2, _), (21, _)] (fun (i : Nat) => [(22, .int .i64 i)]) (fun i w' => i ≤ K ∧ RP w' B g V p (14 + 3 * i) ∧ Kb [g] w w' ∧ w20.heap.size ≤ w'.heap.size ∧ ∃ v, Bk w' N [.int .i64 (rdV p 1 2), .int .i64 (rdV p 3 4), .int .i64 (rdV p 7 1), .int .i64 (rdV p 8 1), .int .i64 (rdV p 10 4), v] 65 ∧ OwnP w' (N + 1) 62 2 v ((rowsR p i).map rowC)) (fun i => K - i) (0) ⟨rfl, rfl, rfl, trivial⟩ ⟨rfl, trivial⟩ (⟨by omega, hP20, k20w, Nat.le_refl _, _, e20, OwnP.nil⟩) ?_
  rintro i w16 ⟨hi, hP16, k16, s16, v, hN16, hv16⟩
  refine v_seq ?_
  refine v_region ?_
  refine vl_val (os_lss rfl rfl) ?_
  refine vl_nil ?_
  refine v_seq ?_
  refine v_cond_d rfl (fun hlt => ?_) (fun hlt => ?_)
  · have c0 : Below w16.heap.size w16 { w16 with drawn := w16.drawn + 1 } := (Below.refl _ _).drew
    have hrl : ((rowsR p i).map rowC).length = i := by simp [rowsR_len]
    refine v_skip ?_
    refine v_mid [(0, _), (21, _), (22, _)] (fun (x : Nat) => [(2, .pointer (some ⟨N, 0, none⟩))]) (fun x w' => RP w' B g V p (14 + 3 * (i + 1)) ∧ Kb [g] w w' ∧ w20.heap.size ≤ w'.heap.size ∧ ∃ v, Bk w' N [.int .i64 (rdV p 1 2), .int .i64 (rdV p 3 4), .int .i64 (rdV p 7 1), .int .i64 (rdV p 8 1), .int .i64 (rdV p 10 4), v] 65 ∧ OwnP w' (N + 1) 62 2 v ((rowsR p (i + 1)).map rowC)) ⟨rfl, rfl, rfl, trivial⟩ ?_ ?_
    · refine v_block ?_
      refine v_region_a mixed ?_
      refine va_pure 0 rfl (by kernel_rfl) (by kernel_rfl) (by kernel_rfl) (fun w => (os_fa (o := 5) (k := 0) (by kernel_rfl) rfl)) ?_
      refine va_pure 2 rfl (by kernel_rfl) (by kernel_rfl) (by kernel_rfl) (fun w => (os_move rfl)) ?_
      refine va_pure 4 rfl (by kernel_rfl) (by kernel_rfl) (by kernel_rfl) (fun w => (os_move rfl)) ?_
      refine va_two 1 3 (by kernel_rfl) ?_ ?_
      · refine vn_val rfl (os_load Try.isAgg63 rfl ((by first | exact hN29.cell (i := 5) rfl | exact hN27.cell (i := 5) rfl | exact hN24.cell (i := 5) rfl | exact (hN16.keep c0).cell (i := 5) rfl))) ?_
        refine va_one 3 (by kernel_rfl) ?_
        refine vn_call rfl (nt_num B g V p (14 + 3 * i) 1 1 _ (hP16.keep c0) (by have := c0.size; omega) hl ⟨rfl, by omega, by omega⟩) rfl ?_
        rintro u24 w24 ⟨rfl, hP24, k24⟩
        have hN24 := (hN16.keep c0).kb k24 hNg
        have s24 : w16.heap.size ≤ w24.heap.size := k24.size
        have hv24 := (hv16.keepAll c0).blk (w'' := w24) (fun k hk => k24.block k ((hv16.keepAll c0).lt k hk).2 (by have := (hv16.lt k hk).1; simp; omega))
        refine va_one 5 (by kernel_rfl) ?_
        refine vn_call rfl (nt_num B g V p (14 + 3 * i + 1) 2 2 w24 hP24 (by omega) hl ⟨rfl, by omega, by omega⟩) rfl ?_
        rintro u27 w27 ⟨rfl, hP27, k27⟩
        have hN27 := hN24.kb k27 hNg
        have s27 := k27.size
        have hv27 := hv24.blk (w'' := w27) (fun k hk => k27.block k (hv24.lt k hk).2 (by have := (hv24.lt k hk).1; simp; omega))
        refine va_pure 6 rfl (by kernel_rfl) (by kernel_rfl) (by kernel_rfl) (fun w => (os_build (cs := [.int .i64 (rdV p (14 + 3 * i) 1), .int .i64 (rdV p (14 + 3 * i + 1) 2)]) rfl (by kernel_rfl))) ?_
        refine va_one 7 (by kernel_rfl) ?_
        refine vn_val rfl (os_litS (css := [[.int .i64 (rdV p (14 + 3 * i) 1), .int .i64 (rdV p (14 + 3 * i + 1) 2)]]) Try.underlying63 Try.sizeOf62 Try.zeroValue62 rfl rfl (by intro c hc; simp at hc; subst hc; rfl) (by decide) (by decide) (by decide)) ?_
        have r29 := rdp_alloc w27 [[Value.int .i64 (rdV p (14 + 3 * i) 1), .int .i64 (rdV p (14 + 3 * i + 1) 2)]] 62 (s := 2) (by intro c hc; simp at hc; subst hc; rfl)
        have c29 : Below w27.heap.size w27 (w27.alloc (.cells [[Value.int .i64 (rdV p (14 + 3 * i) 1), .int .i64 (rdV p (14 + 3 * i + 1) 2)]].flatten.toArray 62)) := (Below.refl _ _).alloc (Nat.le_refl _) _
        have hN29 := hN27.keep c29
        have hv29 := hv27.keepAll c29
        have hP29 := hP27.keep c29
        have s29 := c29.size
        refine va_one 8 (by kernel_rfl) ?_
        refine vn_some rfl (ot_append_pn Try.underlying63 ti_wTable rfl (by decide) rfl rfl hv29 r29 (by intro c hc; simp at hc; subst hc; rfl) rfl (by intro c hc u hu; simp at hc; subst hc; simp at hu; rcases hu with rfl | rfl <;> rfl) (by rw [hrl]; omega) (by rw [hrl]; simp only [maxLen]; omega) (by omega)) ?_
        rintro v30 w30 ⟨ho30, hg30⟩
        have hvl := hv29.lt
        have hN30 := hN29.grown hg30 (fun e => by have := (hvl N e.symm).1; omega)
        have k30 : Kb v.ownBlock.toList (w27.alloc (.cells [[Value.int .i64 (rdV p (14 + 3 * i) 1), .int .i64 (rdV p (14 + 3 * i + 1) 2)]].flatten.toArray 62)) w30 := Kb.grown hg30 (fun k hk => by simp [hk])
        have hgv : g ∉ v.ownBlock.toList := fun hh => by have := (hvl g (by simpa using hh)).1; omega
        have hP30 := hP29.kb k30 hgv (fun k hk hh => by have := (hvl k (by simpa using hh)).1; have := hV k hk; omega)
        have hv30 := ho30.lt
        have s30 := k30.size
        refine va_pure 9 rfl (by kernel_rfl) (by kernel_rfl) (by kernel_rfl) (fun w => (os_fa (o := 5) (k := 0) (by kernel_rfl) rfl)) ?_
        refine va_one 10 (by kernel_rfl) ?_
        refine vn_unit rfl (ou_store Try.sizeOf63 rfl rfl (OwnP.one' ho30) (hN30.cell (i := 5) rfl) (hN30.free _)) ?_
        have kS : Kb [N] w30 (w30.setCell ⟨N, 0 + 5, none⟩ v30) := Kb.set (S := [N]) (by simp) _ _
        have kall : Kb [g] w w30 := ((k16.trans ((Kb.of_below (S := [g]) c0).trans (k24.trans k27 (fun k hk => .inl hk)) (fun k hk => .inl hk)) (fun k hk => .inl hk)).trans (Kb.of_below (S := [g]) c29) (fun k hk => .inl hk)).trans k30 (fun k hk => .inr (by have := (hvl k (by simpa using hk)).1; omega))
        refine va_done (by kernel_rfl) ?_
        exact ⟨0, ⟨rfl, rfl, rfl, trivial⟩, ⟨rfl, trivial⟩, ⟨by have := hP30.kb kS (by simp; omega) (fun k hk => by have := hV k hk; simp; omega); rw [show 14 + 3 * (i + 1) = 14 + 3 * i + 1 + 2 by omega]; exact this, kall.trans kS (fun k hk => .inr (by simp at hk; omega)), by simp [World.setCell]; omega, v30, hN30.set 5 v30, by rw [rowsR_succ, List.map_append, show 15 + 3 * i = 14 + 3 * i + 1 by omega]; exact ho30.blk fun k hk => Below.heap_setCell _ _ _ _ (fun e => by have := (hv30 k hk).1; simp at e; omega)⟩⟩
      · refine vn_call rfl (nt_num B g V p (14 + 3 * i) 1 1 _ (hP16.keep c0) (by have := c0.size; omega) hl ⟨rfl, by omega, by omega⟩) rfl ?_
        rintro u24 w24 ⟨rfl, hP24, k24⟩
        have hN24 := (hN16.keep c0).kb k24 hNg
        have s24 : w16.heap.size ≤ w24.heap.size := k24.size
        have hv24 := (hv16.keepAll c0).blk (w'' := w24) (fun k hk => k24.block k ((hv16.keepAll c0).lt k hk).2 (by have := (hv16.lt k hk).1; simp; omega))
        refine va_two 1 5 (by kernel_rfl) ?_ ?_
        · refine vn_val rfl (os_load Try.isAgg63 rfl ((by first | exact hN29.cell (i := 5) rfl | exact hN27.cell (i := 5) rfl | exact hN24.cell (i := 5) rfl | exact (hN16.keep c0).cell (i := 5) rfl))) ?_
          refine va_one 5 (by kernel_rfl) ?_
          refine vn_call rfl (nt_num B g V p (14 + 3 * i + 1) 2 2 w24 hP24 (by omega) hl ⟨rfl, by omega, by omega⟩) rfl ?_
          rintro u27 w27 ⟨rfl, hP27, k27⟩
          have hN27 := hN24.kb k27 hNg
          have s27 := k27.size
          have hv27 := hv24.blk (w'' := w27) (fun k hk => k27.block k (hv24.lt k hk).2 (by have := (hv24.lt k hk).1; simp; omega))
          refine va_pure 6 rfl (by kernel_rfl) (by kernel_rfl) (by kernel_rfl) (fun w => (os_build (cs := [.int .i64 (rdV p (14 + 3 * i) 1), .int .i64 (rdV p (14 + 3 * i + 1) 2)]) rfl (by kernel_rfl))) ?_
          refine va_one 7 (by kernel_rfl) ?_
          refine vn_val rfl (os_litS (css := [[.int .i64 (rdV p (14 + 3 * i) 1), .int .i64 (rdV p (14 + 3 * i + 1) 2)]]) Try.underlying63 Try.sizeOf62 Try.zeroValue62 rfl rfl (by intro c hc; simp at hc; subst hc; rfl) (by decide) (by decide) (by decide)) ?_
          have r29 := rdp_alloc w27 [[Value.int .i64 (rdV p (14 + 3 * i) 1), .int .i64 (rdV p (14 + 3 * i + 1) 2)]] 62 (s := 2) (by intro c hc; simp at hc; subst hc; rfl)
          have c29 : Below w27.heap.size w27 (w27.alloc (.cells [[Value.int .i64 (rdV p (14 + 3 * i) 1), .int .i64 (rdV p (14 + 3 * i + 1) 2)]].flatten.toArray 62)) := (Below.refl _ _).alloc (Nat.le_refl _) _
          have hN29 := hN27.keep c29
          have hv29 := hv27.keepAll c29
          have hP29 := hP27.keep c29
          have s29 := c29.size
          refine va_one 8 (by kernel_rfl) ?_
          refine vn_some rfl (ot_append_pn Try.underlying63 ti_wTable rfl (by decide) rfl rfl hv29 r29 (by intro c hc; simp at hc; subst hc; rfl) rfl (by intro c hc u hu; simp at hc; subst hc; simp at hu; rcases hu with rfl | rfl <;> rfl) (by rw [hrl]; omega) (by rw [hrl]; simp only [maxLen]; omega) (by omega)) ?_
          rintro v30 w30 ⟨ho30, hg30⟩
          have hvl := hv29.lt
          have hN30 := hN29.grown hg30 (fun e => by have := (hvl N e.symm).1; omega)
          have k30 : Kb v.ownBlock.toList (w27.alloc (.cells [[Value.int .i64 (rdV p (14 + 3 * i) 1), .int .i64 (rdV p (14 + 3 * i + 1) 2)]].flatten.toArray 62)) w30 := Kb.grown hg30 (fun k hk => by simp [hk])
          have hgv : g ∉ v.ownBlock.toList := fun hh => by have := (hvl g (by simpa using hh)).1; omega
          have hP30 := hP29.kb k30 hgv (fun k hk hh => by have := (hvl k (by simpa using hh)).1; have := hV k hk; omega)
          have hv30 := ho30.lt
          have s30 := k30.size
          refine va_pure 9 rfl (by kernel_rfl) (by kernel_rfl) (by kernel_rfl) (fun w => (os_fa (o := 5) (k := 0) (by kernel_rfl) rfl)) ?_
          refine va_one 10 (by kernel_rfl) ?_
          refine vn_unit rfl (ou_store Try.sizeOf63 rfl rfl (OwnP.one' ho30) (hN30.cell (i := 5) rfl) (hN30.free _)) ?_
          have kS : Kb [N] w30 (w30.setCell ⟨N, 0 + 5, none⟩ v30) := Kb.set (S := [N]) (by simp) _ _
          have kall : Kb [g] w w30 := ((k16.trans ((Kb.of_below (S := [g]) c0).trans (k24.trans k27 (fun k hk => .inl hk)) (fun k hk => .inl hk)) (fun k hk => .inl hk)).trans (Kb.of_below (S := [g]) c29) (fun k hk => .inl hk)).trans k30 (fun k hk => .inr (by have := (hvl k (by simpa using hk)).1; omega))
          refine va_done (by kernel_rfl) ?_
          exact ⟨0, ⟨rfl, rfl, rfl, trivial⟩, ⟨rfl, trivial⟩, ⟨by have := hP30.kb kS (by simp; omega) (fun k hk => by have := hV k hk; simp; omega); rw [show 14 + 3 * (i + 1) = 14 + 3 * i + 1 + 2 by omega]; exact this, kall.trans kS (fun k hk => .inr (by simp at hk; omega)), by simp [World.setCell]; omega, v30, hN30.set 5 v30, by rw [rowsR_succ, List.map_append, show 15 + 3 * i = 14 + 3 * i + 1 by omega]; exact ho30.blk fun k hk => Below.heap_setCell _ _ _ _ (fun e => by have := (hv30 k hk).1; simp at e; omega)⟩⟩
        · refine vn_call rfl (nt_num B g V p (14 + 3 * i + 1) 2 2 w24 hP24 (by omega) hl ⟨rfl, by omega, by omega⟩) rfl ?_
          rintro u27 w27 ⟨rfl, hP27, k27⟩
          have hN27 := hN24.kb k27 hNg
          have s27 := k27.size
          have hv27 := hv24.blk (w'' := w27) (fun k hk => k27.block k (hv24.lt k hk).2 (by have := (hv24.lt k hk).1; simp; omega))
          refine va_pure 6 rfl (by kernel_rfl) (by kernel_rfl) (by kernel_rfl) (fun w => (os_build (cs := [.int .i64 (rdV p (14 + 3 * i) 1), .int .i64 (rdV p (14 + 3 * i + 1) 2)]) rfl (by kernel_rfl))) ?_
          refine va_two 1 7 (by kernel_rfl) ?_ ?_
          · refine vn_val rfl (os_load Try.isAgg63 rfl ((by first | exact hN29.cell (i := 5) rfl | exact hN27.cell (i := 5) rfl | exact hN24.cell (i := 5) rfl | exact (hN16.keep c0).cell (i := 5) rfl))) ?_
            refine va_one 7 (by kernel_rfl) ?_
            refine vn_val rfl (os_litS (css := [[.int .i64 (rdV p (14 + 3 * i) 1), .int .i64 (rdV p (14 + 3 * i + 1) 2)]]) Try.underlying63 Try.sizeOf62 Try.zeroValue62 rfl rfl (by intro c hc; simp at hc; subst hc; rfl) (by decide) (by decide) (by decide)) ?_
            have r29 := rdp_alloc w27 [[Value.int .i64 (rdV p (14 + 3 * i) 1), .int .i64 (rdV p (14 + 3 * i + 1) 2)]] 62 (s := 2) (by intro c hc; simp at hc; subst hc; rfl)
            have c29 : Below w27.heap.size w27 (w27.alloc (.cells [[Value.int .i64 (rdV p (14 + 3 * i) 1), .int .i64 (rdV p (14 + 3 * i + 1) 2)]].flatten.toArray 62)) := (Below.refl _ _).alloc (Nat.le_refl _) _
            have hN29 := hN27.keep c29
            have hv29 := hv27.keepAll c29
            have hP29 := hP27.keep c29
            have s29 := c29.size
            refine va_one 8 (by kernel_rfl) ?_
            refine vn_some rfl (ot_append_pn Try.underlying63 ti_wTable rfl (by decide) rfl rfl hv29 r29 (by intro c hc; simp at hc; subst hc; rfl) rfl (by intro c hc u hu; simp at hc; subst hc; simp at hu; rcases hu with rfl | rfl <;> rfl) (by rw [hrl]; omega) (by rw [hrl]; simp only [maxLen]; omega) (by omega)) ?_
            rintro v30 w30 ⟨ho30, hg30⟩
            have hvl := hv29.lt
            have hN30 := hN29.grown hg30 (fun e => by have := (hvl N e.symm).1; omega)
            have k30 : Kb v.ownBlock.toList (w27.alloc (.cells [[Value.int .i64 (rdV p (14 + 3 * i) 1), .int .i64 (rdV p (14 + 3 * i + 1) 2)]].flatten.toArray 62)) w30 := Kb.grown hg30 (fun k hk => by simp [hk])
            have hgv : g ∉ v.ownBlock.toList := fun hh => by have := (hvl g (by simpa using hh)).1; omega
            have hP30 := hP29.kb k30 hgv (fun k hk hh => by have := (hvl k (by simpa using hh)).1; have := hV k hk; omega)
            have hv30 := ho30.lt
            have s30 := k30.size
            refine va_pure 9 rfl (by kernel_rfl) (by kernel_rfl) (by kernel_rfl) (fun w => (os_fa (o := 5) (k := 0) (by kernel_rfl) rfl)) ?_
            refine va_one 10 (by kernel_rfl) ?_
            refine vn_unit rfl (ou_store Try.sizeOf63 rfl rfl (OwnP.one' ho30) (hN30.cell (i := 5) rfl) (hN30.free _)) ?_
            have kS : Kb [N] w30 (w30.setCell ⟨N, 0 + 5, none⟩ v30) := Kb.set (S := [N]) (by simp) _ _
            have kall : Kb [g] w w30 := ((k16.trans ((Kb.of_below (S := [g]) c0).trans (k24.trans k27 (fun k hk => .inl hk)) (fun k hk => .inl hk)) (fun k hk => .inl hk)).trans (Kb.of_below (S := [g]) c29) (fun k hk => .inl hk)).trans k30 (fun k hk => .inr (by have := (hvl k (by simpa using hk)).1; omega))
            refine va_done (by kernel_rfl) ?_
            exact ⟨0, ⟨rfl, rfl, rfl, trivial⟩, ⟨rfl, trivial⟩, ⟨by have := hP30.kb kS (by simp; omega) (fun k hk => by have := hV k hk; simp; omega); rw [show 14 + 3 * (i + 1) = 14 + 3 * i + 1 + 2 by omega]; exact this, kall.trans kS (fun k hk => .inr (by simp at hk; omega)), by simp [World.setCell]; omega, v30, hN30.set 5 v30, by rw [rowsR_succ, List.map_append, show 15 + 3 * i = 14 + 3 * i + 1 by omega]; exact ho30.blk fun k hk => Below.heap_setCell _ _ _ _ (fun e => by have := (hv30 k hk).1; simp at e; omega)⟩⟩
          · refine vn_val rfl (os_litS (css := [[.int .i64 (rdV p (14 + 3 * i) 1), .int .i64 (rdV p (14 + 3 * i + 1) 2)]]) Try.underlying63 Try.sizeOf62 Try.zeroValue62 rfl rfl (by intro c hc; simp at hc; subst hc; rfl) (by decide) (by decide) (by decide)) ?_
            have r29 := rdp_alloc w27 [[Value.int .i64 (rdV p (14 + 3 * i) 1), .int .i64 (rdV p (14 + 3 * i + 1) 2)]] 62 (s := 2) (by intro c hc; simp at hc; subst hc; rfl)
            have c29 : Below w27.heap.size w27 (w27.alloc (.cells [[Value.int .i64 (rdV p (14 + 3 * i) 1), .int .i64 (rdV p (14 + 3 * i + 1) 2)]].flatten.toArray 62)) := (Below.refl _ _).alloc (Nat.le_refl _) _
            have hN29 := hN27.keep c29
            have hv29 := hv27.keepAll c29
            have hP29 := hP27.keep c29
            have s29 := c29.size
            refine va_one 1 (by kernel_rfl) ?_
            refine vn_val rfl (os_load Try.isAgg63 rfl ((by first | exact hN29.cell (i := 5) rfl | exact hN27.cell (i := 5) rfl | exact hN24.cell (i := 5) rfl | exact (hN16.keep c0).cell (i := 5) rfl))) ?_
            refine va_one 8 (by kernel_rfl) ?_
            refine vn_some rfl (ot_append_pn Try.underlying63 ti_wTable rfl (by decide) rfl rfl hv29 r29 (by intro c hc; simp at hc; subst hc; rfl) rfl (by intro c hc u hu; simp at hc; subst hc; simp at hu; rcases hu with rfl | rfl <;> rfl) (by rw [hrl]; omega) (by rw [hrl]; simp only [maxLen]; omega) (by omega)) ?_
            rintro v30 w30 ⟨ho30, hg30⟩
            have hvl := hv29.lt
            have hN30 := hN29.grown hg30 (fun e => by have := (hvl N e.symm).1; omega)
            have k30 : Kb v.ownBlock.toList (w27.alloc (.cells [[Value.int .i64 (rdV p (14 + 3 * i) 1), .int .i64 (rdV p (14 + 3 * i + 1) 2)]].flatten.toArray 62)) w30 := Kb.grown hg30 (fun k hk => by simp [hk])
            have hgv : g ∉ v.ownBlock.toList := fun hh => by have := (hvl g (by simpa using hh)).1; omega
            have hP30 := hP29.kb k30 hgv (fun k hk hh => by have := (hvl k (by simpa using hh)).1; have := hV k hk; omega)
            have hv30 := ho30.lt
            have s30 := k30.size
            refine va_pure 9 rfl (by kernel_rfl) (by kernel_rfl) (by kernel_rfl) (fun w => (os_fa (o := 5) (k := 0) (by kernel_rfl) rfl)) ?_
            refine va_one 10 (by kernel_rfl) ?_
            refine vn_unit rfl (ou_store Try.sizeOf63 rfl rfl (OwnP.one' ho30) (hN30.cell (i := 5) rfl) (hN30.free _)) ?_
            have kS : Kb [N] w30 (w30.setCell ⟨N, 0 + 5, none⟩ v30) := Kb.set (S := [N]) (by simp) _ _
            have kall : Kb [g] w w30 := ((k16.trans ((Kb.of_below (S := [g]) c0).trans (k24.trans k27 (fun k hk => .inl hk)) (fun k hk => .inl hk)) (fun k hk => .inl hk)).trans (Kb.of_below (S := [g]) c29) (fun k hk => .inl hk)).trans k30 (fun k hk => .inr (by have := (hvl k (by simpa using hk)).1; omega))
            refine va_done (by kernel_rfl) ?_
            exact ⟨0, ⟨rfl, rfl, rfl, trivial⟩, ⟨rfl, trivial⟩, ⟨by have := hP30.kb kS (by simp; omega) (fun k hk => by have := hV k hk; simp; omega); rw [show 14 + 3 * (i + 1) = 14 + 3 * i + 1 + 2 by omega]; exact this, kall.trans kS (fun k hk => .inr (by simp at hk; omega)), by simp [World.setCell]; omega, v30, hN30.set 5 v30, by rw [rowsR_succ, List.map_append, show 15 + 3 * i = 14 + 3 * i + 1 by omega]; exact ho30.blk fun k hk => Below.heap_setCell _ _ _ _ (fun e => by have := (hv30 k hk).1; simp at e; omega)⟩⟩
    · rintro x w31 ⟨a2, a3, a4, v31, a5, a6⟩
      refine v_region ?_
      refine vl_val (os_addi rfl rfl (by omega)) ?_
      refine vl_val (os_move rfl) ?_
      refine vl_nil ?_
      exact ⟨i + 1, ⟨rfl, rfl, rfl, trivial⟩, ⟨rfl, trivial⟩, ⟨by omega, a2, a3, a4, v31, a5, a6⟩, by dsimp only; omega⟩
  · obtain rfl : K = i := by omega
    refine v_exit ?_
    refine v_seq ?_
    refine v_region ?_
    refine vl_val (os_loadB Try.underlying65 rfl (by kernel_rfl) rfl (hN16)) ?_
    refine vl_unit (ou_storeB (by kernel_rfl) rfl rfl hN16 rfl (one6' (OwnP.one' hv16))) ?_
    have hN17 := setRow_bk hN16 [.int .i64 (rdV p 1 2), .int .i64 (rdV p 3 4), .int .i64 (rdV p 7 1), .int .i64 (rdV p 8 1), .int .i64 (rdV p 10 4), v]
    have kS : Kb [N] w16 (w16.setRow N [Value.int .i64 (rdV p 1 2), .int .i64 (rdV p 3 4), .int .i64 (rdV p 7 1), .int .i64 (rdV p 8 1), .int .i64 (rdV p 10 4), v].toArray) := Kb.setRow (S := [N]) (by simp) _
    obtain ⟨A, c, rfl, hcc, -, hr⟩ := hv16.form
    have hrl : ((rowsR p K).map rowC).length = K := by simp [rowsR_len]
    have hr17 := OwnP.rdp (hv16.blk (w'' := w16.setRow N [Value.int .i64 (rdV p 1 2), .int .i64 (rdV p 3 4), .int .i64 (rdV p 7 1), .int .i64 (rdV p 8 1), .int .i64 (rdV p 10 4), .slice A ((rowsR p K).map rowC).length c].toArray) (fun k hk => kS.block k (hv16.lt k hk).2 (by have := (hv16.lt k hk).1; simp; omega)))
    have eH : headR p = ⟨rdV p 1 2, rdV p 3 4, rdV p 7 1, rdV p 8 1, rdV p 10 4, rowsR p K⟩ := by unfold headR; rw [hKK, Int.toNat_natCast]
    refine vl_nil ?_
    refine v_ret ?_
    exact post_cell rfl rfl Try.underlying65 rfl (by kernel_rfl) hN17 ⟨A, ((rowsR p K).map rowC).length, c, by rw [eH]; rfl, by rw [eH]; exact ⟨hr17, by simp, by simp only [hrl]; omega, ⟨hb10 1, i64_rd hy 3 4 (by omega), hb9 7, hb9 8, i64_rd hy 10 4 (by omega)⟩, fun e he => by obtain ⟨j, _, rfl⟩ := List.mem_map.1 he; exact ⟨hb9 _, hb10 _⟩, hcc⟩, by rw [Int.toNat_natCast]; exact hP16.kb kS (by simp; omega) (fun k hk => by have := hV k hk; simp; omega), k16.trans kS (fun k hk => .inr (by simp at hk; omega)), fun a ha => by have := (hv16.lt a.block (by subst ha; rfl)).1; omega⟩
end Go.Proofs.Ytpojijnjdlnokaa
