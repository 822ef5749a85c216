/- Texts joined: V3 Vp. -/
import Derived.Test.YtpojijnjdlnokaaM1
import Derived.OrdersIn
import Derived.Test.YtpojijnjdlnokaaProg
/- Regions that draw their order: one walk of the text's order serves every order, if what each operation tells is said of each world that may stand there. No program in sight. -/
namespace Go.Proofs.Ytpojijnjdlnokaa
open Go.RowKit
set_option linter.unusedVariables false

abbrev Fact := Value → World → Prop

structure Lee (le : World → World → Prop) : Prop where
  refl : ∀ w, le w w
  trans : ∀ {a b c}, le a b → le b c → le a c

def Stable (le : World → World → Prop) (T : Fact) : Prop := ∀ v w w', le w w' → T v w → T v w'

def ext (l : Nat → Fact) (d : Option Nat) (T : Fact) : Nat → Fact := match d with
  | some d => fun t => if t = d then T else l t
  | none => l

/-- what an operation without a slot leaves: a fact on the world -/
def exg (g : World → Prop) (d : Option Nat) (T : Fact) : World → Prop := match d with
  | some _ => g
  | none => fun w => g w ∧ ∃ v, T v w
theorem exg_comm (g : World → Prop) (d e : Option Nat) (S T : Fact) : exg (exg g d S) e T = exg (exg g e T) d S := by
  cases d <;> cases e <;> simp only [exg]
  funext w
  exact propext ⟨fun ⟨⟨a, b⟩, c⟩ => ⟨⟨a, c⟩, b⟩, fun ⟨⟨a, b⟩, c⟩ => ⟨⟨a, c⟩, b⟩⟩
theorem exg_keep {le : World → World → Prop} {g : World → Prop} (hg : ∀ w w', le w w' → g w → g w') {d : Option Nat} {T : Fact} (hT : Stable le T) : ∀ w w', le w w' → exg g d T w → exg g d T w' := by
  intro w w' h
  cases d with
  | some d => exact hg w w' h
  | none => exact fun ⟨a, v, b⟩ => ⟨hg w w' h a, v, hT v w w' h b⟩

def holdsAt (l : Nat → Fact) (a : Act) (w : World) (t : Nat) : Prop := ∀ u, a.tmps[t]? = some u → l t u w

theorem ext_comm (l : Nat → Fact) {d e : Option Nat} (S T : Fact) (h : ∀ x, d = some x → e ≠ some x) : ext (ext l d S) e T = ext (ext l e T) d S := by
  cases d with
  | none => rfl
  | some d =>
    cases e with
    | none => rfl
    | some e =>
      have hne : d ≠ e := fun he => h d rfl (he ▸ rfl)
      funext t
      simp only [ext]
      by_cases h1 : t = d
      · subst h1; simp [hne]
      · simp [h1]

theorem ext_ne {l : Nat → Fact} {d : Option Nat} {T : Fact} {t : Nat} (h : d ≠ some t) : ext l d T t = l t := by
  cases d with
  | none => rfl
  | some d => simp only [ext]; rw [if_neg]; intro he; exact h (he ▸ rfl)

section
variable (P : Program) (n : Cx) (ops : Array Oper) (Q : Exit → Act → World → Prop) (le : World → World → Prop) (w0 : World)

/-- what an operation must show: in each world that may stand, from each frame that holds what it looks at -/
def ObT (o : Oper) (l : Nat → Fact) (T : Fact) : Prop :=
  ∀ a w, a.defers = n.ds → a.tmps.size = n.sz → le w0 w → (∀ t ∈ o.looksAt ops, holdsAt l a w t) →
    if Region.wanted o (yielded ops a.tmps) then o.wp P a w (fun a' w' => ∃ v, a' = a.put o.dst v ∧ le w w' ∧ T v w') Q else T undef w

def EndT (l : Nat → Fact) (g : World → Prop) : Prop := ∀ a w, a.defers = n.ds → a.tmps.size = n.sz → le w0 w → (∀ t, holdsAt l a w t) → g w → Q .normal a w

def WT (md : Region.Mode) : Nat → Array Bool → (Nat → Fact) → (World → Prop) → Prop
  | 0, listed, l, g => Region.ready md ops listed = [] ∧ EndT n Q le w0 l g
  | f + 1, listed, l, g => (Region.ready md ops listed = [] → EndT n Q le w0 l g) ∧
    ∀ i ∈ Region.ready md ops listed, ∃ o T, ops[i]? = some o ∧ Stable le T ∧ ObT P n ops Q le w0 o l T ∧ WT md f (listed.setIfInBounds i true) (ext l o.dst T) (exg g o.dst T)

def VTL : List Oper → (Nat → Fact) → (World → Prop) → Prop
  | [], l, g => EndT n Q le w0 l g
  | o :: rest, l, g => ∃ T, Stable le T ∧ ObT P n ops Q le w0 o l T ∧ VTL rest (ext l o.dst T) (exg g o.dst T)
end

section
variable {P : Program} {n : Cx} {ops : Array Oper} {Q : Exit → Act → World → Prop} {le : World → World → Prop} {w0 : World} {md : Region.Mode}

theorem ObT.congr {o : Oper} {l l' : Nat → Fact} {T : Fact} (h : ObT P n ops Q le w0 o l T) (he : ∀ t ∈ o.looksAt ops, l t = l' t) : ObT P n ops Q le w0 o l' T :=
  fun a w h1 h2 h3 h4 => h a w h1 h2 h3 fun t ht => by unfold holdsAt; rw [he t ht]; exact h4 t ht

theorem wt_first {i : Nat} {oi : Oper} {T : Fact} (hi : ops[i]? = some oi) (hT : Stable le T) :
    ∀ (f : Nat) (listed : Array Bool) (l : Nat → Fact) (g : World → Prop),
      (∀ j oj, ops[j]? = some oj → j ≠ i → listed.getD j true = false → (∀ e ∈ oj.after, Region.binds md e = true → e.on ≠ i) → oi.apart ops oj = true) →
      i ∈ Region.ready md ops listed → ObT P n ops Q le w0 oi l T →
      WT P n ops Q le w0 md f (listed.setIfInBounds i true) (ext l oi.dst T) (exg g oi.dst T) → WT P n ops Q le w0 md (f + 1) listed l g := by
  intro f
  induction f with
  | zero =>
    intro listed l g _ hr hy H
    refine ⟨fun h => (by rw [h] at hr; cases hr), fun j hj => ?_⟩
    by_cases hji : j = i
    · subst hji; exact ⟨oi, T, hi, hT, hy, H⟩
    · have := ready_mono hj hji
      rw [H.1] at this
      cases this
  | succ f ih =>
    intro listed l g hfree hr hy H
    refine ⟨fun h => (by rw [h] at hr; cases hr), fun j hj => ?_⟩
    by_cases hji : j = i
    · subst hji; exact ⟨oi, T, hi, hT, hy, H⟩
    · obtain ⟨oj', Tj, hoj', hTj, hyj, hW⟩ := H.2 j (ready_mono hj hji)
      obtain ⟨hjun, oj, hoj, hall⟩ := mem_ready.1 hj
      have heq : oj' = oj := by rw [hoj] at hoj'; exact (Option.some.inj hoj').symm
      subst heq
      have hnot : ∀ e ∈ oj'.after, Region.binds md e = true → e.on ≠ i := fun e he hb heq => by
        have h1 := hall e he hb
        have h0 := (mem_ready.1 hr).1
        rw [heq] at h1
        rcases Nat.lt_or_ge i listed.size with h' | h'
        · simp [h'] at h0 h1; rw [h0] at h1; cases h1
        · simp [Array.getElem?_eq_none h'] at h1
      obtain ⟨a1, a2, a3⟩ := Oper.apart_spec (hfree j oj' hoj hji hjun hnot)
      have hfree' : ∀ k ok, ops[k]? = some ok → k ≠ i → (listed.setIfInBounds j true).getD k true = false →
          (∀ e ∈ ok.after, Region.binds md e = true → e.on ≠ i) → oi.apart ops ok = true := fun k ok hk hki hun hno => by
        refine hfree k ok hk hki ?_ hno
        by_cases hjk : j = k
        · subst hjk; exact hjun
        · rw [getD_set_ne true hjk] at hun; exact hun
      refine ⟨oj', Tj, hoj, hTj, hyj.congr fun t ht => ext_ne fun hd => a1 t hd ht, ?_⟩
      refine ih (listed.setIfInBounds j true) (ext l oj'.dst Tj) (exg g oj'.dst Tj) hfree' (ready_mono hr (Ne.symm hji)) (hy.congr fun t ht => (ext_ne fun hd => a3 t hd ht).symm) ?_
      rw [Array.setIfInBounds_comm _ _ hji, ext_comm l Tj T fun x hx hd => a2 x hd hx, exg_comm g]
      exact hW

theorem wt_lex (hs : Region.noSelect ops = true) : ∀ (r : List Oper) (k : Nat) (listed : Array Bool) (l : Nat → Fact) (g : World → Prop), (∀ j, r[j]? = ops[k + j]?) →
    Region.lexFrom md ops r.length k listed = true → VTL P n ops Q le w0 r l g → WT P n ops Q le w0 md r.length listed l g
  | [], _, _, _, _, _, hB, h => ⟨by simpa [Region.lexFrom] using hB, h⟩
  | o :: r, k, listed, l, g, hl, hB, h => by
    have h0 : ops[k]? = some o := by simpa using (hl 0).symm
    simp only [List.length_cons, Region.lexFrom, Bool.and_eq_true] at hB
    obtain ⟨⟨hr, hf⟩, hB'⟩ := hB
    obtain ⟨T, hT, hy, hK⟩ := h
    exact wt_first h0 hT r.length listed l g (Region.free_spec h0 hf) (by simpa using hr) hy
      (wt_lex hs r (k + 1) _ _ _ (fun j => by have := hl (j + 1); simpa [Nat.add_assoc, Nat.add_comm 1 j] using this) hB' hK)

/-- what one operation shows, shown where the round is another's -/
theorem wpIn_of_wp {ro : Option Nat} {o : Oper} {a : Act} {w : World} {T : Value → World → Prop} {K : Act → World → Prop} {X : Exit → Act → World → Prop} (h : o.wp P a w (fun a' w' => ∃ v, a' = a.put o.dst v ∧ T v w') X)
    (hK : ∀ v w', T v w' → K (a.put o.dst v) w') : o.wpIn (fw ro) 0 P a w K X := by
  refine ⟨fun _ _ => trivial, ?_⟩
  unfold Oper.wp at h
  have hput : ∀ (d : Deferred) v, ({ a with defers := d :: a.defers } : Act).put o.dst undef = a.put o.dst v → False := fun d v e => by
    have := congrArg Act.defers e
    cases hd : o.dst <;> simp [hd, Act.put] at this
  generalize hr : (execOp a.eval o).run P w = r at h
  cases r with
  | ok x w' =>
    cases x with
    | value v =>
      rw [show (o.semAt (fw ro).round a.eval).run P w = _ from semAt_run hr (fun d w' e => by cases e)]
      obtain ⟨v', e, ht⟩ := h
      show K _ _
      rw [e]; exact hK v' _ ht
    | skip =>
      rw [show (o.semAt (fw ro).round a.eval).run P w = _ from semAt_run hr (fun d w' e => by cases e)]
      obtain ⟨v', e, ht⟩ := h
      show K _ _
      rw [e]; exact hK v' _ ht
    | defer d =>
      obtain ⟨v', e, ht⟩ := h
      exact (hput d v' e).elim
    | enter f args =>
      rw [show (o.semAt (fw ro).round a.eval).run P w = _ from semAt_run hr (fun d w' e => by cases e)]
      rw [Oper.uponIn_enter]
      refine ⟨fun h => by simp [fw] at h, ?_⟩
      have h1 : CallsIn Fence.wide (0 - 1) P f args w' (fun | .returned v, w'' => K (a.put o.dst v) w'' | .panicked chain, w'' => X (.panic chain) a w'' | .outgrown, _ => LetsOut X) := callsIn_wide.2 (Calls.mono h (by
        intro e w'' hh
        cases e with
        | returned v => obtain ⟨v', e, ht⟩ := hh; show K _ _; rw [e]; exact hK v' _ ht
        | panicked c => exact hh
        | outgrown => exact hh))
      exact h1
    | row row args =>
      rw [show (o.semAt (fw ro).round a.eval).run P w = _ from semAt_run hr (fun d w' e => by cases e)]
      refine ⟨fun h => by simp [fw] at h, ?_⟩
      intro c cs _
      obtain ⟨v, w2, hh, hs⟩ := h c cs
      obtain ⟨v', e, ht⟩ := hh
      exact ⟨v, w2, (by show K _ _; rw [e]; exact hK v' _ ht), stepsIn_wide.2 hs⟩
    | _ => exact h.elim
  | halt x w' =>
    rw [show (o.semAt (fw ro).round a.eval).run P w = _ from semAt_run hr (fun d w' e => by cases e)]
    cases x <;> exact h

theorem wt_sound (hle : Lee le) : ∀ (f : Nat) (listed : Array Bool) (l : Nat → Fact) (g : World → Prop) (a : Act) (w : World), a.defers = n.ds → a.tmps.size = n.sz → le w0 w → (∀ t, holdsAt l a w t) → (∀ t, Stable le (l t)) → g w → (∀ w w', le w w' → g w → g w') →
    WT P n ops Q le w0 md f listed l g → wpAnyIn (fw n.ro) 0 P md ops Q f listed a w
  | 0, _, _, _, _, _, h1, h2, h3, h4, _, h6, _, h => ⟨h.1, h.2 _ _ h1 h2 h3 h4 h6⟩
  | f + 1, listed, l, g, a, w, h1, h2, h3, h4, h5, h6, h7, h => by
    refine ⟨fun h0 => h.1 h0 a w h1 h2 h3 h4 h6, fun i hi => ?_⟩
    obtain ⟨o, T, ho, hT, hy, hW⟩ := h.2 i hi
    have hob := hy a w h1 h2 h3 fun t _ => h4 t
    have key : ∀ v w', le w w' → T v w' → wpAnyIn (fw n.ro) 0 P md ops Q f (listed.setIfInBounds i true) (a.put o.dst v) w' := by
      intro v w' hlw ht
      have hnext : ∀ t, holdsAt (ext l o.dst T) (a.put o.dst v) w' t := by
        intro t u hu
        cases hd : o.dst with
        | none => rw [hd] at hu; exact h5 t u w w' hlw (h4 t u hu)
        | some d =>
          rw [hd] at hu
          simp only [ext]
          by_cases htd : t = d
          · subst htd
            rw [if_pos rfl]
            simp only [Act.put] at hu
            rw [Array.getElem?_setIfInBounds_self] at hu
            split at hu
            · cases hu; exact ht
            · cases hu
          · rw [if_neg htd]
            simp only [Act.put] at hu
            rw [Array.getElem?_setIfInBounds_ne (Ne.symm htd)] at hu
            exact h5 t u w w' hlw (h4 t u hu)
      refine wt_sound hle f _ _ _ _ _ ?_ ?_ (hle.trans h3 hlw) hnext ?_ ?_ (exg_keep h7 hT) hW
      · cases o.dst <;> exact h1
      · cases o.dst <;> simp [Act.put, h2]
      · intro t
        cases hd : o.dst with
        | none => exact h5 t
        | some d =>
          simp only [ext]
          split
          · exact hT
          · exact h5 t
      · cases hd : o.dst with
        | some d => exact h7 w w' hlw h6
        | none => exact ⟨h7 w w' hlw h6, v, ht⟩
    unfold wpOpIn
    simp only [ho]
    split
    · rename_i hw
      rw [if_pos hw] at hob
      exact wpIn_of_wp (T := fun v w' => le w w' ∧ T v w') hob fun v w' hh => key v w' hh.1 hh.2
    · rename_i hw
      rw [if_neg hw] at hob
      exact ⟨fun _ _ => trivial, key undef w (hle.refl w) hob⟩

/-- one walk of the text's order serves every order -/
theorem wp_region_T {id : Nat} {a : Act} {w : World} {r : List Oper} {l : Nat → Fact} (hm : P.follows .mixedOrders = true) (hB : Region.lexB .any r.toArray = true) (hle : Lee le) (h0 : le w0 { w with drawn := w.drawn + 1 })
    (h1 : a.defers = n.ds) (h2 : a.tmps.size = n.sz) (h3 : ∀ t, holdsAt l a { w with drawn := w.drawn + 1 } t) (h4 : ∀ t, Stable le (l t)) (h : VTL P n r.toArray Q le w0 r l (fun _ => True)) : (Code.region id r.toArray true).wpIn (fw n.ro) 0 P Q a w := by
  simp only [Region.lexB, Bool.and_eq_true] at hB
  refine wpIn_region_any hm (wt_sound hle _ _ l (fun _ => True) _ _ h1 h2 h0 h3 h4 trivial (fun _ _ _ _ => trivial) ?_)
  have := wt_lex (md := .any) hB.1 r 0 (Array.replicate r.toArray.size false) l (fun _ => True) (by simp) (by simpa using hB.2) h
  simpa using this
end

/-! ### the same, on what is known of the frame -/

abbrev Ts := List (Nat × Fact)
def Ts.get : Ts → Nat → Option Fact
  | [], _ => none
  | (k, v) :: r, t => match Nat.beq k t with
    | true => some v
    | false => Ts.get r t
def lf (fr : Fr) (ts : Ts) : Nat → Fact := fun t => match Ts.get ts t with
  | some T => T
  | none => match Fr.get fr t with
    | some v => fun u _ => u = v
    | none => fun _ _ => True

def FrLt (n : Cx) (fr : Fr) : Prop := ∀ t v, Fr.get fr t = some v → t < n.sz
theorem FrLt.cons {n : Cx} {fr : Fr} (h : FrLt n fr) {d : Nat} (hd : d < n.sz) (v : Value) : FrLt n ((d, v) :: fr) := by
  intro t u ht
  simp only [Fr.get] at ht
  cases hb : Nat.beq d t with
  | true => have := Nat.eq_of_beq_eq_true hb; omega
  | false => rw [hb] at ht; exact h t u ht

/-- in a region that draws: what is left of the text's order, in worlds from w0 on -/
def VT (P : Program) (n : Cx) (all : List Oper) (le : World → World → Prop) (w0 : World) (rest : List Oper) (fr : Fr) (ts : Ts) (Q : Exit → Fr → World → Prop) (g : World → Prop := fun _ => True) : Prop :=
  Lee le → rest.all (dstOk n.sz) = true → FrLt n fr → (∀ t T, Ts.get ts t = some T → t < n.sz) → VTL P n all.toArray (up n Q) le w0 rest (lf fr ts) g

/-- a frame that holds all of fr, and is a where fr says nothing -/
def patch (n : Cx) (fr : Fr) (a : Act) : Act := { tmps := Array.ofFn fun t : Fin n.sz => match Fr.get fr t with | some v => v | none => a.tmps.getD t undef, defers := n.ds }
theorem patch_ag {n : Cx} {fr : Fr} {a : Act} (h : FrLt n fr) : Ag n fr (patch n fr a) := by
  refine ⟨rfl, by simp [patch], fun t v ht => ?_⟩
  have := h t v ht
  simp [patch, this, ht]
theorem patch_eval {n : Cx} {fr : Fr} {a : Act} (hs : a.tmps.size = n.sz) {x : Operand} (h : ∀ t, x = .tmp t → ∀ v, Fr.get fr t = some v → ∀ u, a.tmps[t]? = some u → u = v) : (patch n fr a).eval x = a.eval x := by
  cases x with
  | tmp t =>
    simp only [Act.eval]
    by_cases ht : t < n.sz
    · have ht' : t < a.tmps.size := by rw [hs]; exact ht
      have hu : a.tmps[t]? = some a.tmps[t] := Array.getElem?_eq_getElem ht'
      simp only [patch, Array.getD_eq_getD_getElem?, hu]
      simp only [Array.getElem?_ofFn, ht, dif_pos]
      cases hg : Fr.get fr t with
      | none => simp [hu]
      | some v => simpa using (h t rfl v hg _ hu).symm
    · simp [patch, Array.getD_eq_getD_getElem?, ht, hs]
  | _ => rfl

theorem lf_fr {fr : Fr} {ts : Ts} {t : Nat} {v : Value} (h : Ts.get ts t = none) (hg : Fr.get fr t = some v) : lf fr ts t = fun u _ => u = v := by simp [lf, h, hg]

def noSel : Op → Bool
  | .select .. => false
  | _ => true
/-- a slot that an operation looks at bears a value or a fact, not both -/
def clean (fr : Fr) (ts : Ts) (all : List Oper) (o : Oper) : Bool := noSel o.op && (o.looksAt all.toArray).all fun t => (Ts.get ts t).isNone || (Fr.get fr t).isNone
theorem clean_sel {fr : Fr} {ts : Ts} {all : List Oper} {o : Oper} (h : clean fr ts all o = true) : ∀ cs b, o.op ≠ .select cs b := by
  intro cs b he
  simp [clean, he, noSel] at h
theorem clean_at {fr : Fr} {ts : Ts} {all : List Oper} {o : Oper} (h : clean fr ts all o = true) {t : Nat} (ht : t ∈ o.looksAt all.toArray) : Ts.get ts t = none ∨ Fr.get fr t = none := by
  simp only [clean, Bool.and_eq_true, List.all_eq_true] at h
  have := h.2 t ht
  simpa using this

theorem exec_patch {P : Program} {n : Cx} {all : List Oper} {fr : Fr} {ts : Ts} {o : Oper} {a : Act} {w : World} (hs : a.tmps.size = n.sz) (hcl : clean fr ts all o = true) (hh : ∀ t ∈ o.looksAt all.toArray, holdsAt (lf fr ts) a w t) :
    execOp (patch n fr a).eval o = execOp a.eval o := by
  refine execOp_congr o (clean_sel hcl) fun x hx => patch_eval hs fun t ht v hg u hu => ?_
  subst ht
  have hmem : t ∈ o.looksAt all.toArray := List.mem_append_left _ (List.mem_filterMap.2 ⟨.tmp t, by simpa using hx, rfl⟩)
  have h1 := hh t hmem u hu
  have h2 : Ts.get ts t = none := by
    rcases clean_at hcl hmem with h2 | h2
    · exact h2
    · rw [hg] at h2; cases h2
  rw [lf_fr h2 hg] at h1
  exact h1

theorem lf_cons {fr : Fr} {ts : Ts} {d : Nat} {v : Value} (h : Ts.get ts d = none) : ext (lf fr ts) (some d) (fun u _ => u = v) = lf ((d, v) :: fr) ts := by
  funext t
  simp only [ext]
  by_cases htd : t = d
  · subst htd; rw [if_pos rfl]; simp [lf, h, Fr.get]
  · rw [if_neg htd]
    have : Nat.beq d t = false := by
      cases hb : Nat.beq d t with
      | true => exact absurd (Nat.eq_of_beq_eq_true hb).symm htd
      | false => rfl
    simp [lf, Fr.get, this]
theorem lf_fact {fr : Fr} {ts : Ts} {d : Nat} {T : Fact} : ext (lf fr ts) (some d) T = lf fr ((d, T) :: ts) := by
  funext t
  simp only [ext]
  by_cases htd : t = d
  · subst htd; rw [if_pos rfl]; simp [lf, Ts.get]
  · rw [if_neg htd]
    have : Nat.beq d t = false := by
      cases hb : Nat.beq d t with
      | true => exact absurd (Nat.eq_of_beq_eq_true hb).symm htd
      | false => rfl
    simp [lf, Ts.get, this]

theorem stable_eq (le : World → World → Prop) (v : Value) : Stable le (fun u _ => u = v) := fun _ _ _ _ h => h

section
variable {P : Program} {n : Cx} {all rest : List Oper} {le : World → World → Prop} {w0 w : World} {fr : Fr} {ts : Ts} {Q : Exit → Fr → World → Prop} {d : Nat} {op : Op} {ty : TypeId} {pos : String} {aft : Array Edge} {v : Value} {T : Fact} {gw : World → Prop}

/-- the beginning -/
theorem v_region_t {id : Nat} {l : List Oper} (le : World → World → Prop) (w0 : World) (hm : P.follows .mixedOrders = true) (hB : Region.lexB .any l.toArray = true) (hle : Lee le) (h0 : le w0 { w with drawn := w.drawn + 1 }) (h : VT P n l le w0 l fr [] Q) :
    V P n (.region id l.toArray true) fr w Q := by
  unfold V
  intro hok a ha
  have hlt : FrLt n fr := fun t v ht => by have := ha.at_ t v ht; rw [← ha.size]; exact (Array.getElem?_eq_some_iff.1 this).1
  refine wp_region_T hm hB hle h0 ha.defers ha.size ?_ ?_ (h hle (by simpa [codeOk] using hok) hlt (fun t T ht => by cases ht))
  · intro t u hu
    unfold lf
    simp only [Ts.get]
    cases hg : Fr.get fr t with
    | none => trivial
    | some v => have := ha.at_ t v hg; rw [this] at hu; exact (Option.some.inj hu).symm
  · intro t
    unfold lf
    simp only [Ts.get]
    cases Fr.get fr t with
    | none => exact fun _ _ _ _ _ => trivial
    | some v => exact stable_eq le v

theorem vt_gen {o : Oper} {U : Fact} (hU : Stable le U) (hcl : clean fr ts all o = true) (htn : ∀ t T, Ts.get ts t = some T → t < n.sz)
    (h : ∀ a w, Ag n fr a → le w0 w → (∀ t ∈ o.looksAt all.toArray, ∀ T, Ts.get ts t = some T → ∃ u, a.tmps[t]? = some u ∧ T u w) → if Region.wanted o (yielded all.toArray a.tmps) then o.wp P a w (fun a' w' => ∃ v, a' = a.put o.dst v ∧ le w w' ∧ U v w') (fun _ _ _ => False) else U undef w)
    (k : VTL P n all.toArray (up n Q) le w0 rest (ext (lf fr ts) o.dst U) (exg gw o.dst U)) (hlt : FrLt n fr) : VTL P n all.toArray (up n Q) le w0 (o :: rest) (lf fr ts) gw := by
  refine ⟨U, hU, ?_, k⟩
  intro a w h1 h2 h3 h4
  have he := exec_patch (P := P) h2 hcl h4
  have hw : Region.wanted o (yielded all.toArray (patch n fr a).tmps) = Region.wanted o (yielded all.toArray a.tmps) := by
    unfold Region.wanted
    cases hg : o.guard with
    | none => rfl
    | some gw =>
      obtain ⟨g, want⟩ := gw
      have hy : yielded all.toArray (patch n fr a).tmps g = yielded all.toArray a.tmps g := by
        unfold yielded
        cases ht : (all.toArray[g]?).bind (·.dst) with
        | none => rfl
        | some t =>
          have hmem : t ∈ o.looksAt all.toArray := by
            unfold Oper.looksAt
            rw [hg]
            simp only [ht]
            simp
          simp only [Option.bind_some]
          by_cases htn : t < n.sz
          · have ht' : t < a.tmps.size := by rw [h2]; exact htn
            have hu : a.tmps[t]? = some a.tmps[t] := Array.getElem?_eq_getElem ht'
            have h5 := h4 t hmem _ hu
            simp only [patch, Array.getElem?_ofFn, htn, dif_pos, hu]
            cases hgt : Fr.get fr t with
            | none => simp [Array.getD_eq_getD_getElem?, hu]
            | some v =>
              have hnone : Ts.get ts t = none := by
                rcases clean_at hcl hmem with h6 | h6
                · exact h6
                · rw [hgt] at h6; cases h6
              rw [lf_fr hnone hgt] at h5; simp [h5]
          · simp [patch, htn, h2]
      simp only [hy]
  have hh := h (patch n fr a) w (patch_ag hlt) h3 (by
    intro t ht T hT
    have htn' := htn t T hT
    have hu : a.tmps[t]? = some (a.tmps[t]'(by rw [h2]; exact htn')) := Array.getElem?_eq_getElem _
    have h6 : Fr.get fr t = none := by
      rcases clean_at hcl ht with h6 | h6
      · rw [hT] at h6; cases h6
      · exact h6
    have h7 := h4 t ht _ hu
    simp only [lf, hT] at h7
    exact ⟨_, by simp [patch, htn', h6, Array.getD_eq_getD_getElem?, hu], h7⟩)
  rw [hw] at hh
  split
  · rename_i hwt
    rw [if_pos hwt] at hh
    unfold Oper.wp at hh ⊢
    rw [he] at hh
    generalize (execOp a.eval o).run P w = r at *
    cases r with
    | ok x w' =>
      cases x <;> simp only [Oper.upon] at hh ⊢
      case value u =>
        obtain ⟨v, e1, e2, e3⟩ := hh
        have e4 : ∀ t, some t = o.dst → t < n.sz → u = v := fun t ht htn => by
          have := congrArg (fun a : Act => a.tmps[t]?) e1
          simp [Act.put, ← ht, patch, htn] at this
          exact this
        cases hd : o.dst with
        | none => exact ⟨v, rfl, e2, e3⟩
        | some t =>
          by_cases htn : t < n.sz
          · have := e4 t hd.symm htn; subst this; exact ⟨u, rfl, e2, e3⟩
          · exact ⟨v, by simp [Act.put, Array.setIfInBounds, h2, htn], e2, e3⟩
      case skip =>
        obtain ⟨v, e1, e2, e3⟩ := hh
        have e4 : ∀ t, some t = o.dst → t < n.sz → undef = v := fun t ht htn => by
          have := congrArg (fun a : Act => a.tmps[t]?) e1
          simp [Act.put, ← ht, patch, htn] at this
          exact this
        cases hd : o.dst with
        | none => exact ⟨v, rfl, e2, e3⟩
        | some t =>
          by_cases htn : t < n.sz
          · have := e4 t hd.symm htn; subst this; exact ⟨undef, rfl, e2, e3⟩
          · exact ⟨v, by simp [Act.put, Array.setIfInBounds, h2, htn], e2, e3⟩
      case defer dd =>
        obtain ⟨v, e1, e2, e3⟩ := hh
        exfalso
        have := congrArg (fun a : Act => a.defers) e1
        cases hd : o.dst <;> simp [hd, Act.put, patch] at this
      case enter f args =>
        refine Calls.mono hh fun e w'' hhe => ?_
        cases e with
        | returned u =>
          obtain ⟨v, e1, e2, e3⟩ := hhe
          have e4 : ∀ t, some t = o.dst → t < n.sz → u = v := fun t ht htn => by
            have := congrArg (fun a : Act => a.tmps[t]?) e1
            simp [Act.put, ← ht, patch, htn] at this
            exact this
          cases hd : o.dst with
          | none => exact ⟨v, rfl, e2, e3⟩
          | some t =>
            by_cases htn : t < n.sz
            · have := e4 t hd.symm htn; subst this; exact ⟨u, rfl, e2, e3⟩
            · exact ⟨v, by simp [Act.put, Array.setIfInBounds, h2, htn], e2, e3⟩
        | panicked c => exact hhe.elim
        | outgrown => obtain ⟨_, _, hf⟩ := hhe; exact hf.elim
      case row row args =>
        refine Rows.mono hh fun u w'' hhe => ?_
        obtain ⟨v, e1, e2, e3⟩ := hhe
        have e4 : ∀ t, some t = o.dst → t < n.sz → u = v := fun t ht htn => by
          have := congrArg (fun a : Act => a.tmps[t]?) e1
          simp [Act.put, ← ht, patch, htn] at this
          exact this
        cases hd : o.dst with
        | none => exact ⟨v, rfl, e2, e3⟩
        | some t =>
          by_cases htn : t < n.sz
          · have := e4 t hd.symm htn; subst this; exact ⟨u, rfl, e2, e3⟩
          · exact ⟨v, by simp [Act.put, Array.setIfInBounds, h2, htn], e2, e3⟩
    | halt x w' => cases x <;> simp only [Oper.upon] at hh ⊢
  · rename_i hwt
    rw [if_neg hwt] at hh
    exact hh

theorem ts_keep {n : Cx} {ts : Ts} (h : ∀ t T, Ts.get ts t = some T → t < n.sz) {d : Nat} (hd : d < n.sz) (U : Fact) : ∀ t T, Ts.get ((d, U) :: ts) t = some T → t < n.sz := by
  intro t T ht
  simp only [Ts.get] at ht
  cases hb : Nat.beq d t with
  | true => have := Nat.eq_of_beq_eq_true hb; omega
  | false => rw [hb] at ht; exact h t T ht

/-- an operation that is wanted, by its own run -/
theorem vt_run {g : Option (Nat × Bool)} {U : Fact} (hU : Stable le U) (hcl : clean fr ts all ⟨some d, op, ty, pos, aft, g⟩ = true) (hlt : FrLt n fr) (htn : ∀ t T, Ts.get ts t = some T → t < n.sz)
    (hw : ∀ a, Ag n fr a → Region.wanted ⟨some d, op, ty, pos, aft, g⟩ (yielded all.toArray a.tmps) = true)
    (h : ∀ a w, Ag n fr a → le w0 w → (∀ t ∈ Oper.looksAt all.toArray ⟨some d, op, ty, pos, aft, g⟩, ∀ T, Ts.get ts t = some T → ∃ u, a.tmps[t]? = some u ∧ T u w) →
      ∃ v w', (execOp a.eval ⟨none, op, ty, "", #[], none⟩).run P w = .ok (.value v) w' ∧ le w w' ∧ U v w')
    (k : VTL P n all.toArray (up n Q) le w0 rest (ext (lf fr ts) (some d) U) gw) : VTL P n all.toArray (up n Q) le w0 (⟨some d, op, ty, pos, aft, g⟩ :: rest) (lf fr ts) gw := by
  refine vt_gen hU hcl htn (fun a w ha hlw hfs => ?_) k hlt
  rw [hw a ha, if_pos rfl]
  obtain ⟨v, w', hr, h1, h2⟩ := h a w ha hlw hfs
  unfold Oper.wp
  rw [execOp_bare, hr]
  exact ⟨v, rfl, h1, h2⟩

theorem wanted_none {a : Act} {d : Option Tmp} : Region.wanted ⟨d, op, ty, pos, aft, none⟩ (yielded all.toArray a.tmps) = true := rfl
theorem wanted_some {a : Act} (ha : Ag n fr a) {d : Option Tmp} {j : Nat} {b : Bool} (hg : guardF all fr j = some (.bool b)) : Region.wanted ⟨d, op, ty, pos, aft, some (j, b)⟩ (yielded all.toArray a.tmps) = true := by
  simp [Region.wanted, guardF_yields ha hg]

theorem vt_val (h : ∀ w, le w0 w → OS P n op ty fr w v w) (k : VT P n all le w0 rest ((d, v) :: fr) ts Q gw) (hcl : clean fr ts all ⟨some d, op, ty, pos, aft, none⟩ = true := by rfl) (hts : Ts.get ts d = none := by rfl) : VT P n all le w0 (⟨some d, op, ty, pos, aft, none⟩ :: rest) fr ts Q gw := by
  intro hle hok hlt htn
  obtain ⟨h1, h2⟩ := dst_lt hok rfl
  refine vt_run (stable_eq le v) hcl hlt htn (fun _ _ => wanted_none) (fun a w ha hlw _ => ?_) (by rw [lf_cons hts]; exact k hle h2 (hlt.cons h1 v) htn)
  have := h w hlw
  unfold OS at this
  exact ⟨v, w, this a ha, hle.refl w, rfl⟩

theorem vt_valg {j : Nat} {b : Bool} (hg : guardF all fr j = some (.bool b)) (h : ∀ w, le w0 w → OS P n op ty fr w v w) (k : VT P n all le w0 rest ((d, v) :: fr) ts Q gw) (hcl : clean fr ts all ⟨some d, op, ty, pos, aft, some (j, b)⟩ = true := by rfl) (hts : Ts.get ts d = none := by rfl) :
    VT P n all le w0 (⟨some d, op, ty, pos, aft, some (j, b)⟩ :: rest) fr ts Q gw := by
  intro hle hok hlt htn
  obtain ⟨h1, h2⟩ := dst_lt hok rfl
  refine vt_run (stable_eq le v) hcl hlt htn (fun a ha => wanted_some ha hg) (fun a w ha hlw _ => ?_) (by rw [lf_cons hts]; exact k hle h2 (hlt.cons h1 v) htn)
  have := h w hlw
  unfold OS at this
  exact ⟨v, w, this a ha, hle.refl w, rfl⟩

theorem vt_skip {j : Nat} {b c : Bool} (hg : guardF all fr j = some (.bool c)) (hb : (c == b) = false) (k : VT P n all le w0 rest ((d, undef) :: fr) ts Q gw) (hcl : clean fr ts all ⟨some d, op, ty, pos, aft, some (j, b)⟩ = true := by rfl) (hts : Ts.get ts d = none := by rfl) :
    VT P n all le w0 (⟨some d, op, ty, pos, aft, some (j, b)⟩ :: rest) fr ts Q gw := by
  intro hle hok hlt htn
  obtain ⟨h1, h2⟩ := dst_lt hok rfl
  refine vt_gen (stable_eq le undef) hcl htn (fun a w ha hlw _ => ?_) (by show VTL _ _ _ _ _ _ _ (ext (lf fr ts) (some d) _) gw; rw [lf_cons hts]; exact k hle h2 (hlt.cons h1 undef) htn) hlt
  have hne : (some c == some b) = false := by simpa using hb
  simp only [Region.wanted, guardF_yields ha hg, hne, Bool.false_eq_true, if_false]

theorem guardF_undef {a : Act} (ha : Ag n fr a) {j : Nat} (h : guardF all fr j = some undef) : yielded all.toArray a.tmps j = none := by
  unfold guardF at h
  unfold yielded
  simp only [List.getElem?_toArray]
  cases ho : all[j]? with
  | none => simp [ho] at h
  | some o =>
    simp only [ho] at h
    cases hd : o.dst with
    | none => simp [hd] at h
    | some t =>
      simp only [hd] at h
      simp [hd, ha.at_ t undef h, undef]
theorem wanted_undef {a : Act} (ha : Ag n fr a) {d : Option Tmp} {j : Nat} {b : Bool} (hg : guardF all fr j = some undef) : Region.wanted ⟨d, op, ty, pos, aft, some (j, b)⟩ (yielded all.toArray a.tmps) = false := by
  simp [Region.wanted, guardF_undef ha hg]
theorem vt_skipu {j : Nat} {b : Bool} (hg : guardF all fr j = some undef) (k : VT P n all le w0 rest ((d, undef) :: fr) ts Q gw) (hcl : clean fr ts all ⟨some d, op, ty, pos, aft, some (j, b)⟩ = true := by rfl) (hts : Ts.get ts d = none := by rfl) :
    VT P n all le w0 (⟨some d, op, ty, pos, aft, some (j, b)⟩ :: rest) fr ts Q gw := by
  intro hle hok hlt htn
  obtain ⟨h1, h2⟩ := dst_lt hok rfl
  refine vt_gen (stable_eq le undef) hcl htn (fun a w ha hlw _ => ?_) (by show VTL _ _ _ _ _ _ _ (ext (lf fr ts) (some d) _) gw; rw [lf_cons hts]; exact k hle h2 (hlt.cons h1 undef) htn) hlt
  rw [wanted_undef ha hg]
  simp
theorem vl_skipu {j : Nat} {b : Bool} (hg : guardF all fr j = some undef) (k : VL P n all rest ((d, undef) :: fr) w Q) : VL P n all (⟨some d, op, ty, pos, aft, some (j, b)⟩ :: rest) fr w Q := by
  unfold VL at k ⊢
  intro hok a ha
  obtain ⟨h1, h2⟩ := dst_lt hok rfl
  unfold wpListIn
  rw [wanted_undef ha hg]
  simp only [Bool.false_eq_true, if_false]
  exact ⟨fun _ _ => trivial, k h2 _ (ha.put h1 undef)⟩

def GOk (all : List Oper) (fr : Fr) : Option (Nat × Bool) → Prop
  | none => True
  | some (j, b) => guardF all fr j = some (.bool b)
theorem GOk.wanted {a : Act} (ha : Ag n fr a) {d : Option Tmp} {g : Option (Nat × Bool)} (h : GOk all fr g) : Region.wanted ⟨d, op, ty, pos, aft, g⟩ (yielded all.toArray a.tmps) = true := by
  cases g with
  | none => rfl
  | some g => obtain ⟨j, b⟩ := g; exact wanted_some ha h

/-- a fact on what an operation yields -/
theorem vt_fact {g : Option (Nat × Bool)} (U : Fact) (hU : Stable le U) (h : ∀ w, le w0 w → OT P n op ty fr w (fun v w' => le w w' ∧ U v w')) (k : VT P n all le w0 rest fr ((d, U) :: ts) Q gw) (hg : GOk all fr g := by first | exact True.intro | rfl) (hcl : clean fr ts all ⟨some d, op, ty, pos, aft, g⟩ = true := by rfl) : VT P n all le w0 (⟨some d, op, ty, pos, aft, g⟩ :: rest) fr ts Q gw := by
  intro hle hok hlt htn
  obtain ⟨h1, h2⟩ := dst_lt hok rfl
  refine vt_run hU hcl hlt htn (fun a ha => hg.wanted ha) (fun a w ha hlw _ => ?_) (by rw [lf_fact]; exact k hle h2 hlt (ts_keep htn h1 U))
  have := h w hlw
  unfold OT at this
  exact this a ha

/-- an operation that looks at a slot of which a fact is known -/
theorem vt_use (t : Nat) {T : Fact} (hT : Ts.get ts t = some T) (U : Fact) (hU : Stable le U) (h : ∀ u w, le w0 w → T u w → OT P n op ty ((t, u) :: fr) w (fun v w' => le w w' ∧ U v w')) (k : VT P n all le w0 rest fr ((d, U) :: ts) Q gw)
    (ht : (Oper.looksAt all.toArray ⟨some d, op, ty, pos, aft, none⟩).contains t = true := by rfl) (hcl : clean fr ts all ⟨some d, op, ty, pos, aft, none⟩ = true := by rfl) : VT P n all le w0 (⟨some d, op, ty, pos, aft, none⟩ :: rest) fr ts Q gw := by
  intro hle hok hlt htn
  obtain ⟨h1, h2⟩ := dst_lt hok rfl
  refine vt_run hU hcl hlt htn (fun _ _ => wanted_none) (fun a w ha hlw hfs => ?_) (by rw [lf_fact]; exact k hle h2 hlt (ts_keep htn h1 U))
  obtain ⟨u, hu, hTu⟩ := hfs t (by simpa using ht) T hT
  have := h u w hlw hTu
  unfold OT at this
  refine this a ⟨ha.defers, ha.size, fun s x hs => ?_⟩
  simp only [Fr.get] at hs
  cases hb : Nat.beq t s with
  | true =>
    rw [hb] at hs
    have hts : t = s := Nat.eq_of_beq_eq_true hb
    subst hts
    rw [← hs]; exact hu
  | false => rw [hb] at hs; exact ha.at_ s x hs

/-- the end: the facts are laid into the frame -/
def EndQ (Q : Exit → Fr → World → Prop) (w : World) : Ts → Fr → Prop
  | [], fr => Q .normal fr w
  | (d, T) :: r, fr => ∀ v, T v w → EndQ Q w r ((d, v) :: fr)
/-- each slot bears one fact -/
def once : Ts → Bool
  | [] => true
  | (d, _) :: r => (Ts.get r d).isNone && once r

theorem endq {w : World} {a : Act} : ∀ (ts : Ts) (fr : Fr), once ts = true → (∀ t T, Ts.get ts t = some T → ∃ u, a.tmps[t]? = some u ∧ T u w) → (∀ t v, Fr.get fr t = some v → Ts.get ts t = none → a.tmps[t]? = some v) → a.defers = n.ds → a.tmps.size = n.sz → EndQ Q w ts fr → ∃ fr', Ag n fr' a ∧ Q .normal fr' w
  | [], fr, _, _, h2, h3, h4, h => ⟨fr, ⟨h3, h4, fun t v ht => h2 t v ht rfl⟩, h⟩
  | (d, T) :: r, fr, ho, h1, h2, h3, h4, h => by
    simp only [once, Bool.and_eq_true] at ho
    have hgd : Ts.get ((d, T) :: r) d = some T := by simp [Ts.get]
    obtain ⟨u, hu, hTu⟩ := h1 d T hgd
    have hne : ∀ {t}, Ts.get r t ≠ none → Nat.beq d t = false := by
      intro t ht
      cases hb : Nat.beq d t with
      | false => rfl
      | true =>
        have := Nat.eq_of_beq_eq_true hb
        subst this
        have := ho.1
        simp at this
        exact absurd this ht
    refine endq r ((d, u) :: fr) ho.2 (fun t S hS => h1 t S ?_) (fun t v ht hn => ?_) h3 h4 (h u hTu)
    · simp only [Ts.get, hne (t := t) (by rw [hS]; simp)]; exact hS
    · simp only [Fr.get] at ht
      cases hb : Nat.beq d t with
      | true =>
        rw [hb] at ht
        have := Nat.eq_of_beq_eq_true hb
        subst this
        rw [← ht]; exact hu
      | false =>
        rw [hb] at ht
        exact h2 t v ht (by simp only [Ts.get, hb]; exact hn)

theorem vt_nil (h : ∀ w, le w0 w → EndQ Q w ts fr) (ho : once ts = true := by rfl) : VT P n all le w0 [] fr ts Q gw := by
  intro hle hok hlt htn a w h1 h2 h3 h4 _
  refine .inl (endq ts fr ho (fun t T hT => ?_) (fun t v hv hn => ?_) h1 h2 (h w h3))
  · have htn' := htn t T hT
    have hu : a.tmps[t]? = some (a.tmps[t]'(by rw [h2]; exact htn')) := Array.getElem?_eq_getElem _
    have := h4 t _ hu
    simp only [lf, hT] at this
    exact ⟨_, hu, this⟩
  · have htn' := hlt t v hv
    have hu : a.tmps[t]? = some (a.tmps[t]'(by rw [h2]; exact htn')) := Array.getElem?_eq_getElem _
    have := h4 t _ hu
    rw [lf_fr hn hv] at this
    rw [hu, this]

theorem vt_nilg (h : ∀ w, le w0 w → gw w → EndQ Q w ts fr) (ho : once ts = true := by rfl) : VT P n all le w0 [] fr ts Q gw := by
  intro hle hok hlt htn a w h1 h2 h3 h4 h5
  refine .inl (endq ts fr ho (fun t T hT => ?_) (fun t v hv hn => ?_) h1 h2 (h w h3 h5))
  · have htn' := htn t T hT
    have hu : a.tmps[t]? = some (a.tmps[t]'(by rw [h2]; exact htn')) := Array.getElem?_eq_getElem _
    have := h4 t _ hu
    simp only [lf, hT] at this
    exact ⟨_, hu, this⟩
  · have htn' := hlt t v hv
    have hu : a.tmps[t]? = some (a.tmps[t]'(by rw [h2]; exact htn')) := Array.getElem?_eq_getElem _
    have := h4 t _ hu
    rw [lf_fr hn hv] at this
    rw [hu, this]

/-- a call whose value is known -/
theorem vt_callx {g : Option (Nat × Bool)} {f : FuncId} {c : Operand} {first cap : Array Value} {xs : List Operand} {tt : Array TypeId} {args : List Value} {U : Fact} (hU : Stable le U) (hc : Fr.ev fr c = some (.func (.func f) first cap)) (hx : evL fr xs = some args)
    (h : ∀ w, le w0 w → Gives P f (first ++ args.toArray ++ cap) w (fun v w' => le w w' ∧ U v w')) (hcl : clean fr ts all ⟨some d, .call ⟨.value c, xs.toArray, tt⟩, ty, pos, aft, g⟩ = true)
    (hw : ∀ a, Ag n fr a → Region.wanted ⟨some d, .call ⟨.value c, xs.toArray, tt⟩, ty, pos, aft, g⟩ (yielded all.toArray a.tmps) = true) (hlt : FrLt n fr) (htn : ∀ t T, Ts.get ts t = some T → t < n.sz)
    (k : VTL P n all.toArray (up n Q) le w0 rest (ext (lf fr ts) (some d) U) gw) : VTL P n all.toArray (up n Q) le w0 (⟨some d, .call ⟨.value c, xs.toArray, tt⟩, ty, pos, aft, g⟩ :: rest) (lf fr ts) gw := by
  refine vt_gen hU hcl htn (fun a w ha hlw _ => ?_) k hlt
  rw [hw a ha, if_pos rfl]
  have hg := h w hlw
  unfold Oper.wp
  unfold Gives at hg
  rw [execOp_bare, run_callee hg.1 hc hx ha]
  refine hg.2.mono ?_
  rintro e w' ⟨v, rfl, h1, h2⟩
  exact ⟨v, rfl, h1, h2⟩

theorem vt_call {f : FuncId} {xs : List Operand} {tt : Array TypeId} {args : List Value} (h : ∀ w, le w0 w → Gives P f args.toArray w (fun v' w' => v' = v ∧ le w w')) (hx : evL fr xs = some args) (k : VT P n all le w0 rest ((d, v) :: fr) ts Q gw)
    (hcl : clean fr ts all ⟨some d, .call ⟨.value (.func f), xs.toArray, tt⟩, ty, pos, aft, none⟩ = true := by rfl) (hts : Ts.get ts d = none := by rfl) : VT P n all le w0 (⟨some d, .call ⟨.value (.func f), xs.toArray, tt⟩, ty, pos, aft, none⟩ :: rest) fr ts Q gw := by
  intro hle hok hlt htn
  obtain ⟨h1, h2⟩ := dst_lt hok rfl
  refine vt_callx (first := #[]) (cap := #[]) (stable_eq le v) rfl hx (fun w hw => ?_) hcl (fun _ _ => wanted_none) hlt htn (by rw [lf_cons hts]; exact k hle h2 (hlt.cons h1 v) htn)
  simp only [Array.append_empty, Array.empty_append]
  exact (h w hw).mono fun v' w' hh => ⟨hh.2, hh.1⟩
theorem vt_callv {f : FuncId} {c : Operand} {first cap : List Value} {xs : List Operand} {tt : Array TypeId} {args : List Value} (hc : Fr.ev fr c = some (.func (.func f) first.toArray cap.toArray)) (h : ∀ w, le w0 w → Gives P f (first ++ args ++ cap).toArray w (fun v' w' => v' = v ∧ le w w')) (hx : evL fr xs = some args) (k : VT P n all le w0 rest ((d, v) :: fr) ts Q gw)
    (hcl : clean fr ts all ⟨some d, .call ⟨.value c, xs.toArray, tt⟩, ty, pos, aft, none⟩ = true := by rfl) (hts : Ts.get ts d = none := by rfl) : VT P n all le w0 (⟨some d, .call ⟨.value c, xs.toArray, tt⟩, ty, pos, aft, none⟩ :: rest) fr ts Q gw := by
  intro hle hok hlt htn
  obtain ⟨h1, h2⟩ := dst_lt hok rfl
  refine vt_callx (first := first.toArray) (cap := cap.toArray) (stable_eq le v) hc hx (fun w hw => ?_) hcl (fun _ _ => wanted_none) hlt htn (by rw [lf_cons hts]; exact k hle h2 (hlt.cons h1 v) htn)
  have e : first.toArray ++ args.toArray ++ cap.toArray = (first ++ args ++ cap).toArray := by simp
  rw [e]
  exact (h w hw).mono fun v' w' hh => ⟨hh.2, hh.1⟩
theorem vt_callg {f : FuncId} {xs : List Operand} {tt : Array TypeId} {args : List Value} {j : Nat} {b : Bool} (hg : guardF all fr j = some (.bool b)) (h : ∀ w, le w0 w → Gives P f args.toArray w (fun v' w' => v' = v ∧ le w w')) (hx : evL fr xs = some args) (k : VT P n all le w0 rest ((d, v) :: fr) ts Q gw)
    (hcl : clean fr ts all ⟨some d, .call ⟨.value (.func f), xs.toArray, tt⟩, ty, pos, aft, some (j, b)⟩ = true := by rfl) (hts : Ts.get ts d = none := by rfl) : VT P n all le w0 (⟨some d, .call ⟨.value (.func f), xs.toArray, tt⟩, ty, pos, aft, some (j, b)⟩ :: rest) fr ts Q gw := by
  intro hle hok hlt htn
  obtain ⟨h1, h2⟩ := dst_lt hok rfl
  refine vt_callx (first := #[]) (cap := #[]) (stable_eq le v) rfl hx (fun w hw => ?_) hcl (fun a ha => wanted_some ha hg) hlt htn (by rw [lf_cons hts]; exact k hle h2 (hlt.cons h1 v) htn)
  simp only [Array.append_empty, Array.empty_append]
  exact (h w hw).mono fun v' w' hh => ⟨hh.2, hh.1⟩
/-- a call of whose value a fact is known -/
theorem vt_callf {f : FuncId} {xs : List Operand} {tt : Array TypeId} {args : List Value} (U : Fact) (hU : Stable le U) (h : ∀ w, le w0 w → Gives P f args.toArray w (fun v w' => le w w' ∧ U v w')) (hx : evL fr xs = some args) (k : VT P n all le w0 rest fr ((d, U) :: ts) Q gw)
    (hcl : clean fr ts all ⟨some d, .call ⟨.value (.func f), xs.toArray, tt⟩, ty, pos, aft, none⟩ = true := by rfl) : VT P n all le w0 (⟨some d, .call ⟨.value (.func f), xs.toArray, tt⟩, ty, pos, aft, none⟩ :: rest) fr ts Q gw := by
  intro hle hok hlt htn
  obtain ⟨h1, h2⟩ := dst_lt hok rfl
  refine vt_callx (first := #[]) (cap := #[]) hU rfl hx (fun w hw => ?_) hcl (fun _ _ => wanted_none) hlt htn (by rw [lf_fact]; exact k hle h2 hlt (ts_keep htn h1 U))
  simp only [Array.append_empty, Array.empty_append]
  exact h w hw

/-- a call one of whose operands is known by a fact; its value is known -/
theorem vt_callu {g : Option (Nat × Bool)} {f : FuncId} {xs : List Operand} {tt : Array TypeId} (t : Nat) {T : Fact} (v : Value) (hT : Ts.get ts t = some T)
    (h : ∀ u w, le w0 w → T u w → ∃ args, evL ((t, u) :: fr) xs = some args ∧ Gives P f args.toArray w (fun v' w' => v' = v ∧ le w w')) (k : VT P n all le w0 rest ((d, v) :: fr) ts Q gw) (hg : GOk all fr g := by first | exact True.intro | rfl)
    (ht : (Oper.looksAt all.toArray ⟨some d, .call ⟨.value (.func f), xs.toArray, tt⟩, ty, pos, aft, g⟩).contains t = true := by rfl) (hcl : clean fr ts all ⟨some d, .call ⟨.value (.func f), xs.toArray, tt⟩, ty, pos, aft, g⟩ = true := by rfl) (hts : Ts.get ts d = none := by rfl) :
    VT P n all le w0 (⟨some d, .call ⟨.value (.func f), xs.toArray, tt⟩, ty, pos, aft, g⟩ :: rest) fr ts Q gw := by
  intro hle hok hlt htn
  obtain ⟨h1, h2⟩ := dst_lt hok rfl
  refine vt_gen (stable_eq le v) hcl htn (fun a w ha hlw hfs => ?_) (by show VTL _ _ _ _ _ _ _ (ext (lf fr ts) (some d) _) gw; rw [lf_cons hts]; exact k hle h2 (hlt.cons h1 v) htn) hlt
  rw [hg.wanted ha, if_pos rfl]
  obtain ⟨u, hu, hTu⟩ := hfs t (by simpa using ht) T hT
  obtain ⟨args, hx, hgv⟩ := h u w hlw hTu
  have ha2 : Ag n ((t, u) :: fr) a := ⟨ha.defers, ha.size, fun s x hs => by
    simp only [Fr.get] at hs
    cases hb : Nat.beq t s with
    | true =>
      rw [hb] at hs
      have hts : t = s := Nat.eq_of_beq_eq_true hb
      subst hts
      rw [← hs]; exact hu
    | false => rw [hb] at hs; exact ha.at_ s x hs⟩
  unfold Oper.wp
  unfold Gives at hgv
  rw [execOp_bare, run_callee (first := #[]) (cap := #[]) hgv.1 rfl hx ha2]
  simp only [Array.append_empty, Array.empty_append]
  refine hgv.2.mono ?_
  rintro e w' ⟨v', rfl, h1, h2⟩
  exact ⟨v', rfl, h2, h1⟩

/-- a store, behind which all worlds may stand that do from w0 on -/
theorem vt_unit (h : ∀ w, le w0 w → ∃ w', OU P n op ty fr w w' ∧ le w w') (k : VT P n all le w0 rest fr ts Q (fun w => gw w ∧ ∃ _ : Value, True)) (hcl : clean fr ts all ⟨none, op, ty, pos, aft, none⟩ = true := by rfl) : VT P n all le w0 (⟨none, op, ty, pos, aft, none⟩ :: rest) fr ts Q gw := by
  intro hle hok hlt htn
  refine vt_gen (U := fun _ _ => True) (fun _ _ _ _ _ => trivial) hcl htn (fun a w ha hlw _ => ?_) (k hle (dst_rest hok) hlt htn) hlt
  obtain ⟨w', h1, h2⟩ := h w hlw
  unfold OU at h1
  simp only [Region.wanted, if_true]
  unfold Oper.wp
  rw [execOp_bare, h1 a ha]
  exact ⟨undef, rfl, h2, trivial⟩
/-- a store, and what is known of the world behind it -/
theorem vt_unitg (G : World → Prop) (hG : ∀ w w', le w w' → G w → G w') (h : ∀ w, le w0 w → ∃ w', OU P n op ty fr w w' ∧ le w w' ∧ G w') (k : VT P n all le w0 rest fr ts Q (fun w => gw w ∧ ∃ _ : Value, G w)) (hcl : clean fr ts all ⟨none, op, ty, pos, aft, none⟩ = true := by rfl) : VT P n all le w0 (⟨none, op, ty, pos, aft, none⟩ :: rest) fr ts Q gw := by
  intro hle hok hlt htn
  refine vt_gen (U := fun _ w => G w) (fun _ w w' hw hg => hG w w' hw hg) hcl htn (fun a w ha hlw _ => ?_) (k hle (dst_rest hok) hlt htn) hlt
  obtain ⟨w', h1, h2, h3⟩ := h w hlw
  unfold OU at h1
  simp only [Region.wanted, if_true]
  unfold Oper.wp
  rw [execOp_bare, h1 a ha]
  exact ⟨undef, rfl, h2, h3⟩
end

theorem os_pickb {P : Program} {n : Cx} {fr : Fr} {w : World} {ty : TypeId} {x y z : Operand} {b c d : Bool} (hc : Fr.ev fr x = some (.bool b)) (hx : Fr.ev fr y = some (.bool c)) (hy : Fr.ev fr z = some (.bool d)) : OS P n (.pick x y z) ty fr w (.bool (bif b then c else d)) w := by
  have := os_pick (P := P) (n := n) (w := w) (ty := ty) hc hx hy
  cases b <;> exact this

/-! ### the worlds that may stand -/
def LeD (w w' : World) : Prop := ∃ q, w' = w.drewN q
theorem lee_d : Lee LeD := ⟨fun w => ⟨0, rfl⟩, fun {a b c} ⟨q, h⟩ ⟨r, h'⟩ => ⟨q + r, by subst h; subst h'; exact World.drewN_drewN ..⟩⟩
theorem led_start (w : World) : LeD w { w with drawn := w.drawn + 1 } := ⟨1, rfl⟩
theorem lee_b (B : Nat) : Lee (Below B) := ⟨fun w => Below.refl B w, fun h h' => h.trans h'⟩
theorem leb_start (B : Nat) (w : World) : Below B w { w with drawn := w.drawn + 1 } := (Below.refl B w).drew

theorem led_cell {w w' : World} (h : LeD w w') {a : Addr} {v : Option Value} (hc : w.cell? a = v) : w'.cell? a = v := by obtain ⟨q, rfl⟩ := h; exact hc
theorem leb_cell {w w' : World} {B b o : Nat} {v : Option Value} (h : Below B w w') (hb : b < B) (hc : w.cell? ⟨b, o, none⟩ = v) : w'.cell? ⟨b, o, none⟩ = v := (h.cell (p := ⟨b, o, none⟩) hb).trans hc
theorem led_below {w w' : World} {B : Nat} (h : LeD w w') : Below B w w' := by obtain ⟨q, rfl⟩ := h; exact below_drewN_ (Below.refl B w) q

/-- all that there was, stays -/
def LeG (w w' : World) : Prop := Below w.heap.size w w'
theorem lee_g : Lee LeG := ⟨fun w => Below.refl _ w, fun {a b c} h h' => by unfold LeG at *; exact h.trans (h'.mono h.size)⟩
theorem leg_start (w : World) : LeG w { w with drawn := w.drawn + 1 } := (Below.refl _ w).drew
theorem leg_cell {w w' : World} (h : LeG w w') {a : Addr} {v : Value} (hc : w.cell? a = some v) : w'.cell? a = some v := by
  have := World.block_lt_of_cell? w a hc
  exact (Below.cell h this).trans hc
theorem leg_d {w w' : World} (h : LeD w w') : LeG w w' := led_below h

/-- the same but for one cell that is written, and then holds v -/
def LeS (a : Addr) (v : Value) (w w' : World) : Prop := (∃ q, w' = w.drewN q) ∨ ∃ q, w' = (w.setCell a v).drewN q
theorem setCell_drewN (w : World) (q : Nat) (a : Addr) (v : Value) : (w.drewN q).setCell a v = (w.setCell a v).drewN q := rfl
theorem setCell_twice (w : World) (a : Addr) (v : Value) : (w.setCell a v).setCell a v = w.setCell a v := by
  unfold World.setCell
  simp only [World.mk.injEq, and_true]
  apply Array.ext
  · simp
  · intro i h1 h2
    have hi : i < w.heap.size := by simpa using h2
    simp only [Array.getElem_modify]
    by_cases hb : a.block = i
    · simp only [hb, if_true]
      generalize w.heap[i] = o
      cases o <;> simp
      cases hs : a.spot <;> simp
    · simp only [hb, if_false]
theorem lee_s (a : Addr) (v : Value) : Lee (LeS a v) := ⟨fun w => .inl ⟨0, rfl⟩, fun {x y z} h h' => by
  rcases h with ⟨q, rfl⟩ | ⟨q, rfl⟩ <;> rcases h' with ⟨r, rfl⟩ | ⟨r, rfl⟩
  · exact .inl ⟨q + r, World.drewN_drewN ..⟩
  · exact .inr ⟨q + r, by rw [setCell_drewN]; exact World.drewN_drewN ..⟩
  · exact .inr ⟨q + r, World.drewN_drewN ..⟩
  · exact .inr ⟨q + r, by rw [setCell_drewN, setCell_twice]; exact World.drewN_drewN ..⟩⟩
theorem les_start (a : Addr) (v : Value) (w : World) : LeS a v w { w with drawn := w.drawn + 1 } := .inl ⟨1, rfl⟩
theorem les_cell {a : Addr} {v : Value} {w w' : World} (h : LeS a v w w') {b : Addr} (hne : b ≠ a) {u : Value} (hc : w.cell? b = some u) : w'.cell? b = some u := by
  rcases h with ⟨q, rfl⟩ | ⟨q, rfl⟩
  · exact hc
  · show (w.setCell a v).cell? b = some u
    rw [World.cell?_setCell_other _ _ _ _ (Ne.symm hne)]; exact hc
theorem les_done {a : Addr} {v : Value} {w : World} : ∀ x y, LeS a v x y → (∃ q, x = (w.setCell a v).drewN q) → ∃ q, y = (w.setCell a v).drewN q := by
  intro x y h ⟨q, hx⟩
  subst hx
  rcases h with ⟨r, rfl⟩ | ⟨r, rfl⟩
  · exact ⟨q + r, World.drewN_drewN ..⟩
  · exact ⟨q + r, by rw [setCell_drewN, setCell_twice]; exact World.drewN_drewN ..⟩
theorem les_set {a : Addr} {v : Value} {w w' : World} (h : LeS a v w w') : LeS a v w' (w'.setCell a v) ∧ ∃ q, w'.setCell a v = (w.setCell a v).drewN q := by
  refine ⟨.inr ⟨0, rfl⟩, ?_⟩
  rcases h with ⟨q, rfl⟩ | ⟨q, rfl⟩
  · exact ⟨q, rfl⟩
  · exact ⟨q, by rw [setCell_drewN, setCell_twice]⟩

theorem les_some {a : Addr} {v u : Value} {w w' : World} (h : LeS a v w w') (hc : w.cell? a = some u) : ∃ u', w'.cell? a = some u' := by
  rcases h with ⟨q, rfl⟩ | ⟨q, rfl⟩
  · exact ⟨u, hc⟩
  · exact RowKit.cell?_setCell_some hc
theorem les_free {a : Addr} {v : Value} {w w' : World} (h : LeS a v w w') {b : Addr} (hc : w.frozen? b = false) : w'.frozen? b = false := by
  rcases h with ⟨q, rfl⟩ | ⟨q, rfl⟩
  · exact hc
  · show (w.setCell a v).frozen? b = false
    rw [World.frozen?_setCell]; exact hc
section
variable {P : Program} {n : Cx} {all rest : List Oper} {w0 : World} {fr : Fr} {ts : Ts} {Q : Exit → Fr → World → Prop} {ty T : TypeId} {pos : String} {aft : Array Edge} {v u : Value} {gw : World → Prop} {A : Addr} {x y : Operand}
/-- the one store of a region that draws -/
theorem vt_store (hT : ∀ w, (sizeOf T).run P w = .ok 1 w) (hx : Fr.ev fr x = some (.pointer (some A))) (hy : Fr.ev fr y = some v) (h1 : v.oneCell' = true) (hc : w0.cell? A = some u) (hf : w0.frozen? A = false)
    (k : VT P n all (LeS A v) w0 rest fr ts Q (fun w => gw w ∧ ∃ _ : Value, ∃ q, w = (w0.setCell A v).drewN q)) (hcl : clean fr ts all ⟨none, .store T x y, ty, pos, aft, none⟩ = true := by rfl) : VT P n all (LeS A v) w0 (⟨none, .store T x y, ty, pos, aft, none⟩ :: rest) fr ts Q gw :=
  vt_unitg _ les_done (fun w hw => by
    obtain ⟨u', hu⟩ := les_some hw hc
    exact ⟨_, ou_store hT hx hy h1 hu (les_free hw hf), les_set hw⟩) k hcl
end

attribute [irreducible] VT
end Go.Proofs.Ytpojijnjdlnokaa

/- What the rules want of the program. -/
namespace Go.Proofs.Ytpojijnjdlnokaa
theorem mixed : Try.prog.follows .mixedOrders = true := by kernel_rfl
end Go.Proofs.Ytpojijnjdlnokaa
