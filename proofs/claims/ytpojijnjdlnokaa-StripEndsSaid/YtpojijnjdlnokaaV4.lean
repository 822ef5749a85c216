/- Regions that draw their order, order by order: what may be taken first is taken first, the rest is gone through. No program in sight. -/
import Derived.Test.YtpojijnjdlnokaaV3
namespace Go.Proofs.Ytpojijnjdlnokaa
open Go.RowKit
set_option linter.unusedVariables false

def nrm (n : Cx) (Q : Exit → Fr → World → Prop) : Exit → Act → World → Prop
  | .normal, a, w => ∃ fr, Ag n fr a ∧ Q .normal fr w
  | _, _, _ => False

/-- so many operations are left at most; which have come up, says 'listed' -/
def VA (P : Program) (n : Cx) (all : List Oper) (fuel : Nat) (listed : List Bool) (fr : Fr) (w : World) (Q : Exit → Fr → World → Prop) : Prop :=
  all.all (dstOk n.sz) = true → ∀ a, Ag n fr a → wpAny P .any all.toArray (nrm n Q) fuel listed.toArray a w

def setB : List Bool → Nat → List Bool
  | [], _ => []
  | _ :: r, 0 => true :: r
  | b :: r, i + 1 => b :: setB r i
theorem setB_eq : ∀ (l : List Bool) (i : Nat), (setB l i).toArray = l.toArray.setIfInBounds i true
  | [], i => by simp [setB]
  | _ :: r, 0 => by simp [setB]
  | b :: r, i + 1 => by
    have := setB_eq r i
    simp only [List.setIfInBounds_toArray, List.toArray_inj] at this
    have h2 : setB r i = r.set i true := by simpa using this
    simp [setB, h2]

theorem OS.ot' {P : Program} {n : Cx} {op : Op} {ty : TypeId} {fr : Fr} {w w' : World} {v : Value} (h : OS P n op ty fr w v w') {U : Value → World → Prop} (hU : U v w') : OT P n op ty fr w U := by
  unfold OS at h
  unfold OT
  exact fun a ha => ⟨v, w', h a ha, hU⟩
section
variable {P : Program} {n : Cx} {all : List Oper} {fuel : Nat} {listed : List Bool} {fr : Fr} {w w' : World} {Q : Exit → Fr → World → Prop} {d : Nat} {op : Op} {ty : TypeId} {pos : String} {aft : Array Edge} {v : Value}

theorem dstOk_at {all : List Oper} {i : Nat} {o : Oper} (h : all.all (dstOk n.sz) = true) (hi : all[i]? = some o) {d : Nat} (hd : o.dst = some d) : d < n.sz := by
  have hm := List.mem_of_getElem? hi
  have := List.all_eq_true.1 h o hm
  simp only [dstOk, hd] at this
  exact (Nat.blt_eq ..).mp this

theorem v_region_a {id : Nat} {l : List Oper} (hm : P.follows .mixedOrders = true) (h : VA P n l l.length (List.replicate l.length false) fr { w with drawn := w.drawn + 1 } Q) (hro : n.ro = none := by rfl) : V P n (.region id l.toArray true) fr w Q := by
  unfold V
  intro hok a ha
  rw [fw_none hro]
  refine wpIn_wide.2 (Code.wp_mono (fun e a w hq => ?_) (wp_region_any (Q := nrm n Q) hm ?_))
  · cases e with
    | normal => exact .inl hq
    | _ => exact hq.elim
  · have := h (by simpa [codeOk] using hok) a ha
    simpa using this

/-- a pure operation may be taken first -/
theorem va_take (i : Nat) (hi : all[i]? = some ⟨some d, op, ty, pos, aft, none⟩) (hs : Region.noSelect all.toArray = true) (hf : Region.free .any all.toArray listed.toArray i = true) (hr : (Region.ready .any all.toArray listed.toArray).contains i = true)
    (h : ∀ w, OS P n op ty fr w v w) (k : VA P n all fuel (setB listed i) ((d, v) :: fr) w Q) : VA P n all (fuel + 1) listed fr w Q := by
  intro hok a ha
  have h1 := dstOk_at hok hi rfl
  refine wpAny_take (oi := ⟨some d, op, ty, pos, aft, none⟩) (v := v) (by simpa using hi) hs hf hr (fun c a w hq => hq.elim) (.inl ⟨rfl, fun w => ?_⟩) ?_
  · have := h w
    unfold OS at this
    exact this a ha
  · have := k hok _ (ha.put h1 v)
    rw [setB_eq] at this
    exact this

theorem va_all (rs : List Nat) (hr : Region.ready .any all.toArray listed.toArray = rs) (hne : rs ≠ []) (h : ∀ i ∈ rs, (all.all (dstOk n.sz) = true → ∀ a, Ag n fr a → wpOp P all.toArray (nrm n Q) i (wpAny P .any all.toArray (nrm n Q) fuel (setB listed i).toArray) a w)) : VA P n all (fuel + 1) listed fr w Q := by
  intro hok a ha
  refine wpAny_all hr hne fun i hi => ?_
  have := h i hi hok a ha
  rw [setB_eq] at this
  exact this

theorem va_some {U : Value → World → Prop} (i : Nat) (hi : all[i]? = some ⟨some d, op, ty, pos, aft, none⟩) (h : OT P n op ty fr w U) (k : ∀ v w', U v w' → VA P n all fuel (setB listed i) ((d, v) :: fr) w' Q) :
    all.all (dstOk n.sz) = true → ∀ a, Ag n fr a → wpOp P all.toArray (nrm n Q) i (wpAny P .any all.toArray (nrm n Q) fuel (setB listed i).toArray) a w := by
  intro hok a ha
  have h1 := dstOk_at hok hi rfl
  unfold OT at h
  obtain ⟨v, w', hr, hu⟩ := h a ha
  unfold wpOp
  simp only [List.getElem?_toArray, hi, Region.wanted, if_true]
  left
  unfold Oper.wp
  rw [execOp_bare, hr]
  exact k v w' hu hok _ (ha.put h1 v)

theorem va_done (hr : Region.ready .any all.toArray listed.toArray = []) (h : Q .normal fr w) : VA P n all fuel listed fr w Q := by
  intro hok a ha
  exact wpAny_done hr ⟨fr, ha, h⟩ fuel

/-! ### with guards, calls, stores -/
/-- a pure operation, whatever its guard, may be taken first -/
theorem va_pure {g : Option (Nat × Bool)} (i : Nat) (hi : all[i]? = some ⟨some d, op, ty, pos, aft, g⟩) (hs : Region.noSelect all.toArray = true) (hf : Region.free .any all.toArray listed.toArray i = true) (hr : (Region.ready .any all.toArray listed.toArray).contains i = true)
    (h : ∀ w, OS P n op ty fr w v w) (k : VA P n all fuel (setB listed i) ((d, v) :: fr) w Q) (hg : GOk all fr g := by first | exact True.intro | rfl) : VA P n all (fuel + 1) listed fr w Q := by
  intro hok a ha
  have h1 := dstOk_at hok hi rfl
  refine wpAny_take (oi := ⟨some d, op, ty, pos, aft, g⟩) (v := v) (by simpa using hi) hs hf hr (fun c a w hq => hq.elim) (.inl ⟨GOk.wanted ha hg, fun w => ?_⟩) ?_
  · have := h w
    unfold OS at this
    rw [execOp_bare]
    exact this a ha
  · have := k hok _ (ha.put h1 v)
    rw [setB_eq] at this
    exact this
/-- an operation whose guard is not met -/
theorem va_skip {j : Nat} {b c : Bool} (i : Nat) (hi : all[i]? = some ⟨some d, op, ty, pos, aft, some (j, b)⟩) (hs : Region.noSelect all.toArray = true) (hf : Region.free .any all.toArray listed.toArray i = true) (hr : (Region.ready .any all.toArray listed.toArray).contains i = true)
    (hg : guardF all fr j = some (.bool c)) (hb : (c == b) = false) (k : VA P n all fuel (setB listed i) ((d, undef) :: fr) w Q) : VA P n all (fuel + 1) listed fr w Q := by
  intro hok a ha
  have h1 := dstOk_at hok hi rfl
  have hne : (some c == some b) = false := by simpa using hb
  refine wpAny_take (oi := ⟨some d, op, ty, pos, aft, some (j, b)⟩) (v := undef) (by simpa using hi) hs hf hr (fun c a w hq => hq.elim) (.inr ⟨?_, rfl⟩) ?_
  · simp only [Region.wanted, guardF_yields ha hg, hne]
  · have := k hok _ (ha.put h1 undef)
    rw [setB_eq] at this
    exact this

theorem va_skipu {j : Nat} {b : Bool} (i : Nat) (hi : all[i]? = some ⟨some d, op, ty, pos, aft, some (j, b)⟩) (hs : Region.noSelect all.toArray = true) (hf : Region.free .any all.toArray listed.toArray i = true) (hr : (Region.ready .any all.toArray listed.toArray).contains i = true)
    (hg : guardF all fr j = some undef) (k : VA P n all fuel (setB listed i) ((d, undef) :: fr) w Q) : VA P n all (fuel + 1) listed fr w Q := by
  intro hok a ha
  have h1 := dstOk_at hok hi rfl
  refine wpAny_take (oi := ⟨some d, op, ty, pos, aft, some (j, b)⟩) (v := undef) (by simpa using hi) hs hf hr (fun c a w hq => hq.elim) (.inr ⟨wanted_undef ha hg, rfl⟩) ?_
  have := k hok _ (ha.put h1 undef)
  rw [setB_eq] at this
  exact this

/-- what may come up next -/
def VN (P : Program) (n : Cx) (all : List Oper) (fuel : Nat) (listed : List Bool) (i : Nat) (fr : Fr) (w : World) (Q : Exit → Fr → World → Prop) : Prop :=
  all.all (dstOk n.sz) = true → ∀ a, Ag n fr a → wpOp P all.toArray (nrm n Q) i (wpAny P .any all.toArray (nrm n Q) fuel (setB listed i).toArray) a w
theorem va_one (i : Nat) (hr : (Region.ready .any all.toArray listed.toArray == [i]) = true) (h : VN P n all fuel listed i fr w Q) : VA P n all (fuel + 1) listed fr w Q :=
  va_all [i] (by simpa using hr) (by simp) fun j hj => by
    simp only [List.mem_cons, List.not_mem_nil, or_false] at hj
    subst hj; exact h
theorem va_two (i j : Nat) (hr : (Region.ready .any all.toArray listed.toArray == [i, j]) = true) (h : VN P n all fuel listed i fr w Q) (h2 : VN P n all fuel listed j fr w Q) : VA P n all (fuel + 1) listed fr w Q :=
  va_all [i, j] (by simpa using hr) (by simp) fun k hk => by
    simp only [List.mem_cons, List.not_mem_nil, or_false] at hk
    rcases hk with rfl | rfl
    · exact h
    · exact h2
theorem va_three (i j l : Nat) (hr : (Region.ready .any all.toArray listed.toArray == [i, j, l]) = true) (h : VN P n all fuel listed i fr w Q) (h2 : VN P n all fuel listed j fr w Q) (h3 : VN P n all fuel listed l fr w Q) : VA P n all (fuel + 1) listed fr w Q :=
  va_all [i, j, l] (by simpa using hr) (by simp) fun k hk => by
    simp only [List.mem_cons, List.not_mem_nil, or_false] at hk
    rcases hk with rfl | rfl | rfl
    · exact h
    · exact h2
    · exact h3

theorem va_four (i j l m : Nat) (hr : (Region.ready .any all.toArray listed.toArray == [i, j, l, m]) = true) (h : VN P n all fuel listed i fr w Q) (h2 : VN P n all fuel listed j fr w Q) (h3 : VN P n all fuel listed l fr w Q) (h4 : VN P n all fuel listed m fr w Q) : VA P n all (fuel + 1) listed fr w Q :=
  va_all [i, j, l, m] (by simpa using hr) (by simp) fun k hk => by
    simp only [List.mem_cons, List.not_mem_nil, or_false] at hk
    rcases hk with rfl | rfl | rfl | rfl
    · exact h
    · exact h2
    · exact h3
    · exact h4

theorem vn_some {g : Option (Nat × Bool)} {i : Nat} {U : Value → World → Prop} (hi : all[i]? = some ⟨some d, op, ty, pos, aft, g⟩) (h : OT P n op ty fr w U) (k : ∀ v w', U v w' → VA P n all fuel (setB listed i) ((d, v) :: fr) w' Q) (hg : GOk all fr g := by first | exact True.intro | rfl) : VN P n all fuel listed i fr w Q := by
  intro hok a ha
  have h1 := dstOk_at hok hi rfl
  unfold wpOp
  simp only [List.getElem?_toArray, hi, GOk.wanted ha hg, if_true]
  left
  unfold OT at h
  obtain ⟨v, w', hr, hu⟩ := h a ha
  unfold Oper.wp
  rw [execOp_bare, hr]
  exact k v w' hu hok _ (ha.put h1 v)
theorem vn_val {g : Option (Nat × Bool)} {i : Nat} (hi : all[i]? = some ⟨some d, op, ty, pos, aft, g⟩) (h : OS P n op ty fr w v w') (k : VA P n all fuel (setB listed i) ((d, v) :: fr) w' Q) (hg : GOk all fr g := by first | exact True.intro | rfl) : VN P n all fuel listed i fr w Q :=
  vn_some (U := fun v1 w1 => v1 = v ∧ w1 = w') hi (h.ot' ⟨rfl, rfl⟩) (by rintro v1 w1 ⟨rfl, rfl⟩; exact k) hg
theorem vn_unit {g : Option (Nat × Bool)} {i : Nat} (hi : all[i]? = some ⟨none, op, ty, pos, aft, g⟩) (h : OU P n op ty fr w w') (k : VA P n all fuel (setB listed i) fr w' Q) (hg : GOk all fr g := by first | exact True.intro | rfl) : VN P n all fuel listed i fr w Q := by
  intro hok a ha
  unfold wpOp
  simp only [List.getElem?_toArray, hi, GOk.wanted ha hg, if_true]
  left
  unfold OU at h
  unfold Oper.wp
  rw [execOp_bare, h a ha]
  exact k hok _ ha
theorem vn_call {g : Option (Nat × Bool)} {i : Nat} {f : FuncId} {xs : List Operand} {tt : Array TypeId} {args : List Value} {U : Value → World → Prop} (hi : all[i]? = some ⟨some d, .call ⟨.value (.func f), xs.toArray, tt⟩, ty, pos, aft, g⟩) (h : Gives P f args.toArray w U) (hx : evL fr xs = some args)
    (k : ∀ v w', U v w' → VA P n all fuel (setB listed i) ((d, v) :: fr) w' Q) (hg : GOk all fr g := by first | exact True.intro | rfl) : VN P n all fuel listed i fr w Q := by
  intro hok a ha
  have h1 := dstOk_at hok hi rfl
  unfold wpOp
  simp only [List.getElem?_toArray, hi, GOk.wanted ha hg, if_true]
  left
  unfold Gives at h
  unfold Oper.wp
  rw [execOp_bare, run_callee (first := #[]) (cap := #[]) h.1 rfl hx ha]
  simp only [Array.append_empty, Array.empty_append]
  refine h.2.mono ?_
  rintro e w' ⟨v, rfl, h2⟩
  exact k v w' h2 hok _ (ha.put h1 v)
theorem vn_calln {g : Option (Nat × Bool)} {i : Nat} {f : FuncId} {xs : List Operand} {tt : Array TypeId} {args : List Value} {U : Value → World → Prop} (hi : all[i]? = some ⟨none, .call ⟨.value (.func f), xs.toArray, tt⟩, ty, pos, aft, g⟩) (h : Gives P f args.toArray w U) (hx : evL fr xs = some args)
    (k : ∀ v w', U v w' → VA P n all fuel (setB listed i) fr w' Q) (hg : GOk all fr g := by first | exact True.intro | rfl) : VN P n all fuel listed i fr w Q := by
  intro hok a ha
  unfold wpOp
  simp only [List.getElem?_toArray, hi, GOk.wanted ha hg, if_true]
  left
  unfold Gives at h
  unfold Oper.wp
  rw [execOp_bare, run_callee (first := #[]) (cap := #[]) h.1 rfl hx ha]
  simp only [Array.append_empty, Array.empty_append]
  refine h.2.mono ?_
  rintro e w' ⟨v, rfl, h2⟩
  exact k v w' h2 hok _ ha
end
attribute [irreducible] VA VN
end Go.Proofs.Ytpojijnjdlnokaa
