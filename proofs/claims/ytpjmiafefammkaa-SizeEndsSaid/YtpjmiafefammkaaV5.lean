/- In a region that draws: a call of which several arguments bear facts. No program in sight. -/
import Derived.Test.YtpjmiafefammkaaM
namespace Go.Proofs.Ytpjmiafefammkaa
open Go.RowKit
set_option linter.unusedVariables false

def FactsIn (ts : Ts) (look : List Nat) : List (Nat × Fact) → Prop
  | [] => True
  | (t, T) :: r => (Ts.get ts t = some T ∧ look.contains t = true) ∧ FactsIn ts look r
def AllU (K : Fr → Prop) (w : World) : List (Nat × Fact) → Fr → Prop
  | [], fr => K fr
  | (t, T) :: r, fr => ∀ u, T u w → AllU K w r ((t, u) :: fr)
theorem allU_ag {K : Fr → Prop} {n : Cx} {w : World} {a : Act} {ts : Ts} {look : List Nat} (hfs : ∀ t ∈ look, ∀ T, Ts.get ts t = some T → ∃ u, a.tmps[t]? = some u ∧ T u w) : ∀ (sl : List (Nat × Fact)) (fr : Fr), FactsIn ts look sl → AllU K w sl fr → Ag n fr a → ∃ fr', Ag n fr' a ∧ K fr'
  | [], fr, _, h, ha => ⟨fr, ha, h⟩
  | (t, T) :: r, fr, hs, h, ha => by
    obtain ⟨⟨h1, h2⟩, h3⟩ := hs
    obtain ⟨u, hu, hTu⟩ := hfs t (by simpa using h2) T h1
    refine allU_ag hfs r ((t, u) :: fr) h3 (h u hTu) ⟨ha.defers, ha.size, fun s x hs => ?_⟩
    simp only [Fr.get] at hs
    cases hb : Nat.beq t s with
    | true =>
      rw [hb] at hs
      have hts : t = s := Nat.eq_of_beq_eq_true hb
      subst hts
      rw [← hs]; exact hu
    | false => rw [hb] at hs; exact ha.at_ s x hs

section
variable {P : Program} {n : Cx} {all rest : List Oper} {le : World → World → Prop} {w0 w : World} {fr : Fr} {ts : Ts} {Q : Exit → Fr → World → Prop} {d : Nat} {op : Op} {ty : TypeId} {pos : String} {aft : Array Edge} {gw : World → Prop}
theorem vt_calls {g : Option (Nat × Bool)} {f : FuncId} {xs : List Operand} {tt : Array TypeId} (sl : List (Nat × Fact)) (v : Value)
    (hs : FactsIn ts (Oper.looksAt all.toArray ⟨some d, .call ⟨.value (.func f), xs.toArray, tt⟩, ty, pos, aft, g⟩) sl)
    (h : ∀ w, le w0 w → AllU (fun fr' => ∃ args, evL fr' xs = some args ∧ Gives P f args.toArray w (fun v' w' => v' = v ∧ le w w')) w sl fr) (k : VT P n all le w0 rest ((d, v) :: fr) ts Q gw) (hg : GOk all fr g := by first | exact True.intro | rfl)
    (hcl : clean fr ts all ⟨some d, .call ⟨.value (.func f), xs.toArray, tt⟩, ty, pos, aft, g⟩ = true := by rfl) (hts : Ts.get ts d = none := by rfl) :
    VT P n all le w0 (⟨some d, .call ⟨.value (.func f), xs.toArray, tt⟩, ty, pos, aft, g⟩ :: rest) fr ts Q gw := by
  unfold VT at k ⊢
  intro hle hok hlt htn
  obtain ⟨h1, h2⟩ := dst_lt hok rfl
  refine vt_gen (stable_eq le v) hcl htn (fun a w ha hlw hfs => ?_) (by show VTL _ _ _ _ _ _ _ (ext (lf fr ts) (some d) _) gw; rw [lf_cons hts]; exact k hle h2 (hlt.cons h1 v) htn) hlt
  rw [hg.wanted ha, if_pos rfl]
  obtain ⟨fr', ha2, args, hx, hgv⟩ := allU_ag hfs sl fr hs (h w hlw) ha
  unfold Oper.wp
  unfold Gives at hgv
  rw [execOp_bare, run_callee (first := #[]) (cap := #[]) hgv.1 rfl hx ha2]
  simp only [Array.append_empty, Array.empty_append]
  refine hgv.2.mono ?_
  rintro e w' ⟨v', rfl, h1, h2⟩
  exact ⟨v', rfl, h2, h1⟩
/-- a call, whatever its guard, of whose value a fact is known -/
theorem vt_callfg {g : Option (Nat × Bool)} {f : FuncId} {xs : List Operand} {tt : Array TypeId} {args : List Value} (U : Fact) (hU : Stable le U) (h : ∀ w, le w0 w → Gives P f args.toArray w (fun v w' => le w w' ∧ U v w')) (hx : evL fr xs = some args) (k : VT P n all le w0 rest fr ((d, U) :: ts) Q gw)
    (hg : GOk all fr g := by first | exact True.intro | rfl) (hcl : clean fr ts all ⟨some d, .call ⟨.value (.func f), xs.toArray, tt⟩, ty, pos, aft, g⟩ = true := by rfl) : VT P n all le w0 (⟨some d, .call ⟨.value (.func f), xs.toArray, tt⟩, ty, pos, aft, g⟩ :: rest) fr ts Q gw := by
  unfold VT at k ⊢
  intro hle hok hlt htn
  obtain ⟨h1, h2⟩ := dst_lt hok rfl
  refine vt_callx (first := #[]) (cap := #[]) hU rfl hx (fun w hw => ?_) hcl (fun a ha => hg.wanted ha) hlt htn (by rw [lf_fact]; exact k hle h2 hlt (ts_keep htn h1 U))
  simp only [Array.append_empty, Array.empty_append]
  exact h w hw
/-- a call of which several arguments bear facts, of whose value a fact is known -/
theorem vt_callsg {g : Option (Nat × Bool)} {f : FuncId} {xs : List Operand} {tt : Array TypeId} (sl : List (Nat × Fact)) (U : Fact) (hU : Stable le U)
    (hs : FactsIn ts (Oper.looksAt all.toArray ⟨some d, .call ⟨.value (.func f), xs.toArray, tt⟩, ty, pos, aft, g⟩) sl)
    (h : ∀ w, le w0 w → AllU (fun fr' => ∃ args, evL fr' xs = some args ∧ Gives P f args.toArray w (fun v' w' => le w w' ∧ U v' w')) w sl fr) (k : VT P n all le w0 rest fr ((d, U) :: ts) Q gw) (hg : GOk all fr g := by first | exact True.intro | rfl)
    (hcl : clean fr ts all ⟨some d, .call ⟨.value (.func f), xs.toArray, tt⟩, ty, pos, aft, g⟩ = true := by rfl) :
    VT P n all le w0 (⟨some d, .call ⟨.value (.func f), xs.toArray, tt⟩, ty, pos, aft, g⟩ :: rest) fr ts Q gw := by
  unfold VT at k ⊢
  intro hle hok hlt htn
  obtain ⟨h1, h2⟩ := dst_lt hok rfl
  refine vt_gen hU hcl htn (fun a w ha hlw hfs => ?_) (by show VTL _ _ _ _ _ _ _ (ext (lf fr ts) (some d) _) gw; rw [lf_fact]; exact k hle h2 hlt (ts_keep htn h1 U)) hlt
  rw [hg.wanted ha, if_pos rfl]
  obtain ⟨fr', ha2, args, hx, hgv⟩ := allU_ag hfs sl fr hs (h w hlw) ha
  unfold Oper.wp
  unfold Gives at hgv
  rw [execOp_bare, run_callee (first := #[]) (cap := #[]) hgv.1 rfl hx ha2]
  simp only [Array.append_empty, Array.empty_append]
  refine hgv.2.mono ?_
  rintro e w' ⟨v', rfl, h1, h2⟩
  exact ⟨v', rfl, h1, h2⟩
/-- an operation, whatever its guard, that looks at a slot of which a fact is known -/
theorem vt_useg {g : Option (Nat × Bool)} (t : Nat) {T : Fact} (hT : Ts.get ts t = some T) (U : Fact) (hU : Stable le U) (h : ∀ u w, le w0 w → T u w → OT P n op ty ((t, u) :: fr) w (fun v w' => le w w' ∧ U v w')) (k : VT P n all le w0 rest fr ((d, U) :: ts) Q gw)
    (hg : GOk all fr g := by first | exact True.intro | rfl) (ht : (Oper.looksAt all.toArray ⟨some d, op, ty, pos, aft, g⟩).contains t = true := by rfl) (hcl : clean fr ts all ⟨some d, op, ty, pos, aft, g⟩ = true := by rfl) : VT P n all le w0 (⟨some d, op, ty, pos, aft, g⟩ :: rest) fr ts Q gw := by
  unfold VT at k ⊢
  intro hle hok hlt htn
  obtain ⟨h1, h2⟩ := dst_lt hok rfl
  refine vt_run hU hcl hlt htn (fun a ha => hg.wanted ha) (fun a w ha hlw hfs => ?_) (by rw [lf_fact]; exact k hle h2 hlt (ts_keep htn h1 U))
  obtain ⟨u, hu, hTu⟩ := hfs t (by simpa using ht) T hT
  have := h u w hlw hTu
  unfold OT at this
  refine this a ⟨ha.defers, ha.size, fun s x hs => ?_⟩
  simp only [Fr.get] at hs
  cases hb : Nat.beq t s with
  | true =>
    rw [hb] at hs
    have hts : t = s := Nat.eq_of_beq_eq_true hb
    subst hts
    rw [← hs]; exact hu
  | false => rw [hb] at hs; exact ha.at_ s x hs
end
/-- a list of numbers that a region lays -/
def IsRow (k : IntKind) (zs : List Int) : Fact := fun v w => ∃ A c, v = .slice A zs.length c ∧ Rd w k A zs
theorem isRow_stable (k : IntKind) (zs : List Int) : Stable LeG (IsRow k zs) := fun v w w' h ⟨A, c, e, r⟩ => ⟨A, c, e, r.keep h⟩
theorem isRow_lit (k : IntKind) (w : World) (zs : List Int) (e : TypeId) : LeG w (w.alloc (.cells (zs.map (Value.int k)).toArray e)) ∧ IsRow k zs (.slice (some ⟨w.heap.size, 0, none⟩) zs.length zs.length) (w.alloc (.cells (zs.map (Value.int k)).toArray e)) :=
  ⟨(Below.refl _ _).alloc (Nat.le_refl _) _, _, _, rfl, rd_alloc w k zs e⟩
end Go.Proofs.Ytpjmiafefammkaa
