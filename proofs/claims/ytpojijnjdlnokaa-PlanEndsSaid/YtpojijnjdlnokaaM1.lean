/- Texts joined: V1 V2 Lib. -/
import Derived.WalkKit
import Derived.Lib.Hide
import Derived.Deep.Quiet
import Derived.Shelf.Abstract
import Derived.Deep.LoopGhost
import Derived.Sort.LoopGhostIn
import Derived.RangeFuncCalls
import Derived.RangeFuncRecord
import Derived.WalkSpells
import Derived.WalkLawsBesides
import Derived.Deep.QuietTactic
import Derived.BigQuiet
import Derived.Deep.Draws
import Derived.KernelRfl
/- A walk over few slots: what a frame is known to hold, as a list; the rules of the code's shapes and of single operations. No program in sight. -/
namespace Go.Proofs.Ytpojijnjdlnokaa
open Go.RowKit
set_option linter.unusedVariables false

abbrev Fr := List (Nat × Value)

def Fr.get : Fr → Nat → Option Value
  | [], _ => none
  | (k, v) :: r, t => match Nat.beq k t with
    | true => some v
    | false => Fr.get r t

theorem get_int {fr : Fr} {t : Nat} {k : IntKind} {a b : Int} (h : Fr.get fr t = some (.int k a)) (e : a = b) : Fr.get fr t = some (.int k b) := by rw [h, e]

def Fr.ev (fr : Fr) : Operand → Option Value
  | .tmp t => Fr.get fr t
  | .const v => some v
  | .global g => some (.pointer (some ⟨g, 0, none⟩))
  | .func f => some (.func (.func f) #[] #[])

/-- the place of a walk: how many slots; in whose round; which calls are put off; what else the function's end may be -/
structure Cx where
  sz : Nat
  ro : Option Nat := none
  ds : List Deferred := []
  esc : Act → World → Prop := fun _ _ => False
def fw (ro : Option Nat) : Fence := { fn := fun _ => True, depth := none, alive := false, round := ro }

structure Ag (n : Cx) (fr : Fr) (a : Act) : Prop where
  defers : a.defers = n.ds
  size : a.tmps.size = n.sz
  at_ : ∀ t v, Fr.get fr t = some v → a.tmps[t]? = some v

theorem Ag.ev {n : Cx} {fr : Fr} {a : Act} (h : Ag n fr a) {x : Operand} {v : Value} (hx : Fr.ev fr x = some v) : a.eval x = v := by
  cases x with
  | tmp t => have := h.at_ t v hx; simp [Act.eval, Array.getD_eq_getD_getElem?, this]
  | const u => exact Option.some.inj hx
  | «global» g => exact Option.some.inj hx
  | func f => exact Option.some.inj hx

theorem Ag.put {n : Cx} {fr : Fr} {a : Act} (h : Ag n fr a) {d : Nat} (hd : d < n.sz) (v : Value) : Ag n ((d, v) :: fr) (a.put (some d) v) := by
  refine ⟨h.defers, by simp [Act.put, h.size], fun t u ht => ?_⟩
  simp only [Fr.get] at ht
  cases hb : Nat.beq d t with
  | true =>
    rw [hb] at ht
    have hdt : d = t := Nat.eq_of_beq_eq_true hb
    subst hdt
    simp [Act.put, h.size, hd]
    simpa using ht
  | false =>
    rw [hb] at ht
    have hdt : d ≠ t := Nat.ne_of_beq_eq_false hb
    simp [Act.put, Array.getElem?_setIfInBounds_ne hdt]
    exact h.at_ t u ht

def Sub : Fr → Fr → Prop
  | [], _ => True
  | (t, v) :: r, fr => Fr.get fr t = some v ∧ Sub r fr

theorem Sub.get {f g : Fr} (h : Sub f g) : ∀ t v, Fr.get f t = some v → Fr.get g t = some v := by
  induction f with
  | nil => intro t v ht; cases ht
  | cons p r ih =>
    obtain ⟨k, u⟩ := p
    obtain ⟨h1, h2⟩ := h
    intro t v ht
    simp only [Fr.get] at ht
    cases hb : Nat.beq k t with
    | true =>
      rw [hb] at ht
      have hkt : k = t := Nat.eq_of_beq_eq_true hb
      subst hkt
      rw [h1]; exact ht
    | false => rw [hb] at ht; exact ih h2 t v ht

theorem sub_self_aux {fr g : Fr} (h : ∀ t v, Fr.get fr t = some v → Fr.get g t = some v) {n : Cx} {a : Act} (ha : Ag n g a) : Ag n fr a := ⟨ha.defers, ha.size, fun t v ht => ha.at_ t v (h t v ht)⟩

theorem Ag.sub {n : Cx} {f g : Fr} {a : Act} (h : Ag n g a) (hs : Sub f g) : Ag n f a := ⟨h.defers, h.size, fun t v ht => h.at_ t v (hs.get t v ht)⟩

def dstOk (n : Nat) (o : Oper) : Bool := match o.dst with
  | some d => Nat.blt d n
  | none => true

def codeOk (n : Nat) : Code → Bool
  | .region _ ops _ => ops.toList.all (dstOk n)
  | .seq a b => codeOk n a && codeOk n b
  | .cond _ a b => codeOk n a && codeOk n b
  | .block _ b => codeOk n b
  | .loop b => codeOk n b
  | .scope b => codeOk n b
  | _ => true

/-- what is known of a frame, carried on to frames -/
def up (n : Cx) (Q : Exit → Fr → World → Prop) : Exit → Act → World → Prop := fun e a w => (∃ fr, Ag n fr a ∧ Q e fr w) ∨ (e = .ret ∧ n.esc a w)

/-- the code c, from every frame that holds what fr says, in the world w, comes to Q -/
def V (P : Program) (n : Cx) (c : Code) (fr : Fr) (w : World) (Q : Exit → Fr → World → Prop) : Prop :=
  codeOk n.sz c = true → ∀ a, Ag n fr a → c.wpIn (fw n.ro) 0 P (up n Q) a w

def VL (P : Program) (n : Cx) (all : List Oper) (rest : List Oper) (fr : Fr) (w : World) (Q : Exit → Fr → World → Prop) : Prop :=
  rest.all (dstOk n.sz) = true → ∀ a, Ag n fr a → wpListIn (fw n.ro) 0 P all.toArray (up n Q) rest a w

def Thn (P : Program) (n : Cx) (y : Code) (Q : Exit → Fr → World → Prop) : Exit → Fr → World → Prop
  | .normal, fr, w => V P n y fr w Q
  | e, fr, w => Q e fr w

def Blk (id : Nat) (Q : Exit → Fr → World → Prop) : Exit → Fr → World → Prop
  | .exit k, fr, w => match Nat.beq k id with
    | true => Q .normal fr w
    | false => Q (.exit k) fr w
  | e, fr, w => Q e fr w

section
variable {P : Program} {n : Cx} {fr : Fr} {w : World} {Q : Exit → Fr → World → Prop}

theorem up_mono {Q' : Exit → Fr → World → Prop} (hq : ∀ e fr w, Q e fr w → Q' e fr w) : ∀ e a w, up n Q e a w → up n Q' e a w
  | e, a, w, .inl ⟨fr, h1, h2⟩ => .inl ⟨fr, h1, hq _ _ _ h2⟩
  | e, a, w, .inr h => .inr h
theorem v_mono {c : Code} {Q' : Exit → Fr → World → Prop} (h : V P n c fr w Q) (hq : ∀ e fr w, Q e fr w → Q' e fr w) : V P n c fr w Q' :=
  fun hok a ha => wpIn_mono (h hok a ha) (up_mono hq)
theorem v_sub {c : Code} {fr' : Fr} (hs : Sub fr' fr) (h : V P n c fr' w Q) : V P n c fr w Q := fun hok a ha => h hok a (ha.sub hs)
theorem v_skip (h : Q .normal fr w) : V P n .skip fr w Q := fun _ a ha => wpIn_skip (.inl ⟨fr, ha, h⟩)
theorem v_label {l : Nat} (h : Q .normal fr w) : V P n (.label l) fr w Q := fun _ a ha => wpIn_label (.inl ⟨fr, ha, h⟩)
theorem v_exit {id : Nat} (h : Q (.exit id) fr w) : V P n (.exit id) fr w Q := fun _ a ha => wpIn_exit (.inl ⟨fr, ha, h⟩)
theorem v_goto {l : Nat} (h : Q (.goto l) fr w) : V P n (.goto l) fr w Q := fun _ a ha => wpIn_goto (.inl ⟨fr, ha, h⟩)
theorem v_ret (h : Q .ret fr w) : V P n .ret fr w Q := fun _ a ha => wpIn_ret (.inl ⟨fr, ha, h⟩)

theorem v_seq {x y : Code} (h : V P n x fr w (Thn P n y Q)) : V P n (.seq x y) fr w Q := by
  intro hok a ha
  simp only [codeOk, Bool.and_eq_true] at hok
  refine wpIn_seq (wpIn_mono (h hok.1 a ha) (fun e a' w' hh => ?_))
  rcases hh with ⟨fr', h1, h2⟩ | ⟨rfl, h2⟩
  · cases e with
    | normal => exact h2 hok.2 a' h1
    | _ => exact .inl ⟨fr', h1, h2⟩
  · exact .inr ⟨rfl, h2⟩

/-- what lies behind is walked once, from a middle that is said -/
theorem v_cut {x y : Code} (M : Fr → World → Prop) (h : V P n x fr w (fun e fr' w' => match e with | .normal => M fr' w' | e => Q e fr' w')) (h2 : ∀ fr' w', M fr' w' → V P n y fr' w' Q) : V P n (.seq x y) fr w Q :=
  v_seq (v_mono h fun e fr' w' hh => by
    cases e with
    | normal => exact h2 _ _ hh
    | _ => exact hh)

theorem v_cond {c : Operand} {x y : Code} {t : Bool} (hc : Fr.ev fr c = some (.bool t)) (hx : t = true → V P n x fr w Q) (hy : t = false → V P n y fr w Q) : V P n (.cond c x y) fr w Q := by
  intro hok a ha
  simp only [codeOk, Bool.and_eq_true] at hok
  refine wpIn_cond (ha.ev hc) ?_
  cases t with
  | true => exact hx rfl hok.1 a ha
  | false => exact hy rfl hok.2 a ha
theorem v_cond_d {c : Operand} {x y : Code} {p : Prop} [Decidable p] (hc : Fr.ev fr c = some (.bool (decide p))) (hx : p → V P n x fr w Q) (hy : ¬ p → V P n y fr w Q) : V P n (.cond c x y) fr w Q :=
  v_cond hc (fun h => hx (of_decide_eq_true h)) (fun h => hy (of_decide_eq_false h))
theorem v_cond_t {c : Operand} {x y : Code} (hc : Fr.ev fr c = some (.bool true)) (hx : V P n x fr w Q) : V P n (.cond c x y) fr w Q := v_cond hc (fun _ => hx) (fun h => by cases h)
theorem v_cond_f {c : Operand} {x y : Code} (hc : Fr.ev fr c = some (.bool false)) (hy : V P n y fr w Q) : V P n (.cond c x y) fr w Q := v_cond hc (fun h => by cases h) (fun _ => hy)
theorem v_cond_yes {c : Operand} {x y : Code} {p : Prop} [Decidable p] (hc : Fr.ev fr c = some (.bool (decide p))) (hp : p) (hx : V P n x fr w Q) : V P n (.cond c x y) fr w Q := v_cond_d hc (fun _ => hx) (fun h => absurd hp h)
theorem v_cond_no {c : Operand} {x y : Code} {p : Prop} [Decidable p] (hc : Fr.ev fr c = some (.bool (decide p))) (hp : ¬ p) (hy : V P n y fr w Q) : V P n (.cond c x y) fr w Q := v_cond_d hc (fun h => absurd h hp) (fun _ => hy)

theorem v_block {id : Nat} {c : Code} (h : V P n c fr w (Blk id Q)) : V P n (.block id c) fr w Q := by
  intro hok a ha
  refine wpIn_block (wpIn_mono (h hok a ha) (fun e a' w' hh => ?_))
  rcases hh with ⟨fr', h1, h2⟩ | ⟨rfl, h2⟩
  · cases e with
    | exit k =>
      simp only [Blk] at h2
      simp only [Exit.inBlock]
      cases hb : Nat.beq k id with
      | true =>
        rw [hb] at h2
        rw [if_pos (Nat.eq_of_beq_eq_true hb)]
        exact .inl ⟨fr', h1, h2⟩
      | false =>
        rw [hb] at h2
        rw [if_neg (Nat.ne_of_beq_eq_false hb)]
        exact .inl ⟨fr', h1, h2⟩
    | _ => exact .inl ⟨fr', h1, h2⟩
  · exact .inr ⟨rfl, h2⟩

theorem Sub.app {f g fr : Fr} (hf : Sub f fr) (hg : Sub g fr) : Sub (f ++ g) fr := by
  induction f with
  | nil => exact hg
  | cons p r ih => obtain ⟨k, u⟩ := p; exact ⟨hf.1, ih hf.2⟩

/-- the post of a loop's round -/
def Rnd {X : Type} (S : Fr) (F : X → Fr) (R : X → World → Prop) (m : X → Nat) (x : X) (Q : Exit → Fr → World → Prop) : Exit → Fr → World → Prop
  | .normal, fr', w' => ∃ x', Sub S fr' ∧ Sub (F x') fr' ∧ R x' w' ∧ m x' < m x
  | e, fr', w' => Q e fr' w'

theorem v_loop {c : Code} {X : Type} (S : Fr) (F : X → Fr) (R : X → World → Prop) (m : X → Nat) (x0 : X) (hS : Sub S fr) (h0 : Sub (F x0) fr) (hR : R x0 w)
    (hround : ∀ x w, R x w → V P n c (F x ++ S) w (Rnd S F R m x Q)) : V P n (.loop c) fr w Q := by
  intro hok a ha
  refine wpIn_loop_ghost (fun k a w => ∃ x, Ag n (F x ++ S) a ∧ R x w ∧ m x = k) (m x0) ⟨x0, ha.sub (h0.app hS), hR, rfl⟩ ?_
  rintro k a w ⟨x, hx, hRx, rfl⟩
  refine wpIn_mono (hround x w hRx hok a hx) (fun e a' w' hh => ?_)
  rcases hh with ⟨fr', h1, h2⟩ | ⟨rfl, h2⟩
  · cases e with
    | normal =>
      obtain ⟨x', h3, h4, h5, h6⟩ := h2
      exact ⟨m x', h6, x', h1.sub (h4.app h3), h5, rfl⟩
    | _ => exact .inl ⟨fr', h1, h2⟩
  · exact .inr ⟨rfl, h2⟩

theorem v_loop2 {c : Code} {X Y : Type} (S : Fr) (F : X → Y → Fr) (R : X → Y → World → Prop) (m : X → Y → Nat) (x0 : X) (y0 : Y) (hS : Sub S fr) (h0 : Sub (F x0 y0) fr) (hR : R x0 y0 w)
    (hround : ∀ x y w, R x y w → V P n c (F x y ++ S) w (Rnd S (fun p : X × Y => F p.1 p.2) (fun p w => R p.1 p.2 w) (fun p => m p.1 p.2) (x, y) Q)) : V P n (.loop c) fr w Q :=
  v_loop S (fun p : X × Y => F p.1 p.2) (fun p w => R p.1 p.2 w) (fun p => m p.1 p.2) (x0, y0) hS h0 hR fun ⟨x, y⟩ w h => hround x y w h
theorem v_loop3 {c : Code} {X Y Z : Type} (S : Fr) (F : X → Y → Z → Fr) (R : X → Y → Z → World → Prop) (m : X → Y → Z → Nat) (x0 : X) (y0 : Y) (z0 : Z) (hS : Sub S fr) (h0 : Sub (F x0 y0 z0) fr) (hR : R x0 y0 z0 w)
    (hround : ∀ x y z w, R x y z w → V P n c (F x y z ++ S) w (Rnd S (fun p : X × Y × Z => F p.1 p.2.1 p.2.2) (fun p w => R p.1 p.2.1 p.2.2 w) (fun p => m p.1 p.2.1 p.2.2) (x, y, z) Q)) : V P n (.loop c) fr w Q :=
  v_loop S (fun p : X × Y × Z => F p.1 p.2.1 p.2.2) (fun p w => R p.1 p.2.1 p.2.2 w) (fun p => m p.1 p.2.1 p.2.2) (x0, y0, z0) hS h0 hR fun ⟨x, y, z⟩ w h => hround x y z w h
theorem v_loop4 {c : Code} {X Y Z U : Type} (S : Fr) (F : X → Y → Z → U → Fr) (R : X → Y → Z → U → World → Prop) (m : X → Y → Z → U → Nat) (x0 : X) (y0 : Y) (z0 : Z) (u0 : U) (hS : Sub S fr) (h0 : Sub (F x0 y0 z0 u0) fr) (hR : R x0 y0 z0 u0 w)
    (hround : ∀ x y z u w, R x y z u w → V P n c (F x y z u ++ S) w (Rnd S (fun p : X × Y × Z × U => F p.1 p.2.1 p.2.2.1 p.2.2.2) (fun p w => R p.1 p.2.1 p.2.2.1 p.2.2.2 w) (fun p => m p.1 p.2.1 p.2.2.1 p.2.2.2) (x, y, z, u) Q)) : V P n (.loop c) fr w Q :=
  v_loop S (fun p : X × Y × Z × U => F p.1 p.2.1 p.2.2.1 p.2.2.2) (fun p w => R p.1 p.2.1 p.2.2.1 p.2.2.2 w) (fun p => m p.1 p.2.1 p.2.2.1 p.2.2.2) (x0, y0, z0, u0) hS h0 hR fun ⟨x, y, z, u⟩ w h => hround x y z u w h

def Mid {X : Type} (S : Fr) (F : X → Fr) (R : X → World → Prop) (Q : Exit → Fr → World → Prop) : Exit → Fr → World → Prop
  | .normal, fr', w' => ∃ x, Sub S fr' ∧ Sub (F x) fr' ∧ R x w'
  | e, fr', w' => Q e fr' w'

/-- one walk behind where ways meet -/
theorem v_mid {x y : Code} {X : Type} (S : Fr) (F : X → Fr) (R : X → World → Prop) (hS : Sub S fr) (h : V P n x fr w (Mid S F R Q)) (h2 : ∀ x w', R x w' → V P n y (F x ++ S) w' Q) : V P n (.seq x y) fr w Q := by
  intro hok a ha
  simp only [codeOk, Bool.and_eq_true] at hok
  refine wpIn_seq (wpIn_mono (h hok.1 a ha) (fun e a' w' hh => ?_))
  rcases hh with ⟨fr', h1, h3⟩ | ⟨rfl, h3⟩
  · cases e with
    | normal =>
      obtain ⟨x, h4, h5, h6⟩ := h3
      exact h2 x w' h6 hok.2 a' (h1.sub (h5.app h4))
    | _ => exact .inl ⟨fr', h1, h3⟩
  · exact .inr ⟨rfl, h3⟩

theorem v_mid2 {x y : Code} {X Y : Type} (S : Fr) (F : X → Y → Fr) (R : X → Y → World → Prop) (hS : Sub S fr) (h : V P n x fr w (Mid S (fun p : X × Y => F p.1 p.2) (fun p w => R p.1 p.2 w) Q)) (h2 : ∀ x0 y0 w', R x0 y0 w' → V P n y (F x0 y0 ++ S) w' Q) : V P n (.seq x y) fr w Q :=
  v_mid S (fun p : X × Y => F p.1 p.2) (fun p w => R p.1 p.2 w) hS h fun ⟨x0, y0⟩ w' hh => h2 x0 y0 w' hh
theorem v_mid3 {x y : Code} {X Y Z : Type} (S : Fr) (F : X → Y → Z → Fr) (R : X → Y → Z → World → Prop) (hS : Sub S fr) (h : V P n x fr w (Mid S (fun p : X × Y × Z => F p.1 p.2.1 p.2.2) (fun p w => R p.1 p.2.1 p.2.2 w) Q)) (h2 : ∀ x0 y0 z0 w', R x0 y0 z0 w' → V P n y (F x0 y0 z0 ++ S) w' Q) : V P n (.seq x y) fr w Q :=
  v_mid S (fun p : X × Y × Z => F p.1 p.2.1 p.2.2) (fun p w => R p.1 p.2.1 p.2.2 w) hS h fun ⟨x0, y0, z0⟩ w' hh => h2 x0 y0 z0 w' hh

def NoGoto (Q : Exit → Fr → World → Prop) : Exit → Fr → World → Prop
  | .goto _, _, _ => False
  | e, fr, w => Q e fr w

theorem fw_none (hro : n.ro = none) : fw n.ro = Fence.wide := by rw [hro]; rfl
theorem v_scope {c : Code} (h : V P n c fr w (NoGoto Q)) (hro : n.ro = none := by rfl) : V P n (.scope c) fr w Q := by
  intro hok a ha
  have h0 := h hok a ha
  rw [fw_none hro] at h0 ⊢
  refine wpIn_wide.2 (wp_scope_straight (Code.wp_mono (fun e a' w' hh => ?_) (wpIn_wide.1 h0)))
  rcases hh with ⟨fr', h1, h2⟩ | ⟨rfl, h2⟩
  · cases e with
    | goto l => exact h2.elim
    | _ => exact .inl ⟨fr', h1, h2⟩
  · exact .inr ⟨rfl, h2⟩

theorem v_raw {c : Code} (h : ∀ a, Ag n fr a → c.wpIn (fw n.ro) 0 P (up n Q) a w) : V P n c fr w Q := fun _ => h

theorem v_region {id : Nat} {l : List Oper} (h : VL P n l l fr w Q) : V P n (.region id l.toArray false) fr w Q := by
  intro hok a ha
  exact wpIn_region_lit (h (by simpa [codeOk] using hok) a ha)
end

/-! ### single operations -/

/-- the operation yields v and leaves w' -/
def OS (P : Program) (n : Cx) (op : Op) (ty : TypeId) (fr : Fr) (w : World) (v : Value) (w' : World) : Prop :=
  ∀ a, Ag n fr a → (execOp a.eval ⟨none, op, ty, "", #[], none⟩).run P w = .ok (.value v) w'
/-- the operation yields nothing and leaves w' -/
def OU (P : Program) (n : Cx) (op : Op) (ty : TypeId) (fr : Fr) (w : World) (w' : World) : Prop :=
  ∀ a, Ag n fr a → (execOp a.eval ⟨none, op, ty, "", #[], none⟩).run P w = .ok .skip w'
/-- the operation yields some v and leaves some w' of which T holds -/
def OT (P : Program) (n : Cx) (op : Op) (ty : TypeId) (fr : Fr) (w : World) (T : Value → World → Prop) : Prop :=
  ∀ a, Ag n fr a → ∃ v w', (execOp a.eval ⟨none, op, ty, "", #[], none⟩).run P w = .ok (.value v) w' ∧ T v w'
/-- f, called so in w, returns some v and leaves some w' of which T holds -/
def Gives (P : Program) (f : FuncId) (args : Array Value) (w : World) (T : Value → World → Prop) : Prop :=
  Enters P f ∧ Calls P f args w fun e w' => ∃ v, e = .returned v ∧ T v w'

theorem Gives.mono {P : Program} {f : FuncId} {args : Array Value} {w : World} {T T' : Value → World → Prop} (h : Gives P f args w T) (hT : ∀ v w', T v w' → T' v w') : Gives P f args w T' :=
  ⟨h.1, h.2.mono fun _ _ ⟨v, he, ht⟩ => ⟨v, he, hT _ _ ht⟩⟩
theorem Gives.calls {P : Program} {f : FuncId} {args : Array Value} {w : World} {T : Value → World → Prop} {R : Ending → World → Prop} (h : Gives P f args w T) (hT : ∀ v w', T v w' → R (.returned v) w') : Calls P f args w R :=
  h.2.mono fun _ _ ⟨v, he, ht⟩ => he ▸ hT _ _ ht
theorem gives_of {P : Program} {f : FuncId} {args : Array Value} {w : World} {T : Value → World → Prop} {R : Ending → World → Prop} (he : Enters P f) (h : Calls P f args w R) (hT : ∀ e w', R e w' → ∃ v, e = .returned v ∧ T v w') : Gives P f args w T :=
  ⟨he, h.mono hT⟩

theorem gives_bool {P : Program} {f : FuncId} {args : Array Value} {w : World} {b c : Bool} (h : Gives P f args w fun v w' => v = .bool b ∧ w' = w) (e : b = c) : Gives P f args w fun v w' => v = .bool c ∧ w' = w := by subst e; exact h
theorem gives_boolb {P : Program} {f : FuncId} {args : Array Value} {w : World} {b c : Bool} {R : World → Prop} (h : Gives P f args w fun v w' => v = .bool b ∧ R w') (e : b = c) : Gives P f args w fun v w' => v = .bool c ∧ R w' := by subst e; exact h

def guardF (all : List Oper) (fr : Fr) (j : Nat) : Option Value := match all[j]? with
  | some o => match o.dst with
    | some t => Fr.get fr t
    | none => none
  | none => none

theorem guardF_yields {all : List Oper} {n : Cx} {fr : Fr} {a : Act} (ha : Ag n fr a) {j : Nat} {b : Bool} (h : guardF all fr j = some (.bool b)) : yielded all.toArray a.tmps j = some b := by
  unfold guardF at h
  unfold yielded
  simp only [List.getElem?_toArray]
  cases ho : all[j]? with
  | none => simp [ho] at h
  | some o =>
    simp only [ho] at h
    cases hd : o.dst with
    | none => simp [hd] at h
    | some t =>
      simp only [hd] at h
      simp [hd, ha.at_ t _ h]

theorem execOp_bare (ρ : Operand → Value) (d : Option Tmp) (op : Op) (ty : TypeId) (pos : String) (aft : Array Edge) (g : Option (Nat × Bool)) :
    execOp ρ ⟨d, op, ty, pos, aft, g⟩ = execOp ρ ⟨none, op, ty, "", #[], none⟩ := rfl

def evL (fr : Fr) : List Operand → Option (List Value)
  | [] => some []
  | x :: r => match Fr.ev fr x with
    | some v => match evL fr r with
      | some vs => some (v :: vs)
      | none => none
    | none => none

theorem Ag.evL {n : Cx} {fr : Fr} {a : Act} (h : Ag n fr a) : ∀ {xs : List Operand} {vs : List Value}, evL fr xs = some vs → xs.map a.eval = vs
  | [], vs, hx => by simp [Ytpojijnjdlnokaa.evL] at hx; simp [hx]
  | x :: r, vs, hx => by
    simp only [Ytpojijnjdlnokaa.evL] at hx
    cases h1 : Fr.ev fr x with
    | none => simp [h1] at hx
    | some v =>
      cases h2 : Ytpojijnjdlnokaa.evL fr r with
      | none => simp [h1, h2] at hx
      | some us =>
        simp [h1, h2] at hx
        subst hx
        simp [h.ev h1, h.evL h2]

section
variable {P : Program} {n : Cx} {all rest : List Oper} {fr : Fr} {w w' : World} {Q : Exit → Fr → World → Prop} {d : Nat} {op : Op} {ty : TypeId} {pos : String} {aft : Array Edge} {v : Value}

theorem dst_lt {m : Nat} {o : Oper} {rest : List Oper} (h : (o :: rest).all (dstOk m) = true) {d : Nat} (hd : o.dst = some d) : d < m ∧ rest.all (dstOk m) = true := by
  simp only [List.all_cons, Bool.and_eq_true] at h
  refine ⟨?_, h.2⟩
  have := h.1
  simp only [dstOk, hd] at this
  exact (Nat.blt_eq ..).mp this
theorem dst_rest {m : Nat} {o : Oper} {rest : List Oper} (h : (o :: rest).all (dstOk m) = true) : rest.all (dstOk m) = true := by
  simp only [List.all_cons, Bool.and_eq_true] at h
  exact h.2

theorem semAt_run {ro : Option Nat} {ρ : Operand → Value} {o : Oper} {r : Result Next} {w : World} (h : (execOp ρ o).run P w = r) (hd : ∀ d w', r ≠ .ok (.defer d) w') : (o.semAt ro ρ).run P w = r := by
  unfold Oper.semAt
  cases ro with
  | none => exact h
  | some l =>
    split
    · rename_i l' c he ho
      unfold execOp at h
      rw [ho] at h
      simp only [Sem.run_bind] at h ⊢
      cases hx : (resolve ρ c o.type).run P w with
      | ok d w1 => rw [hx] at h; exact absurd h.symm (hd d w1)
      | halt x w1 => rw [hx] at h; exact h
    · exact h
theorem in_value {ro : Option Nat} {o : Oper} {a : Act} {K : Act → World → Prop} {X : Exit → Act → World → Prop} (h : (execOp a.eval o).run P w = .ok (.value v) w') (k : K (a.put o.dst v) w') : o.wpIn (fw ro) 0 P a w K X := by
  refine ⟨fun _ _ => trivial, ?_⟩
  rw [show (o.semAt (fw ro).round a.eval).run P w = _ from semAt_run h (fun d w' e => by cases e)]
  exact k
theorem in_skip {ro : Option Nat} {o : Oper} {a : Act} {K : Act → World → Prop} {X : Exit → Act → World → Prop} (h : (execOp a.eval o).run P w = .ok .skip w') (k : K (a.put o.dst undef) w') : o.wpIn (fw ro) 0 P a w K X := by
  refine ⟨fun _ _ => trivial, ?_⟩
  rw [show (o.semAt (fw ro).round a.eval).run P w = _ from semAt_run h (fun d w' e => by cases e)]
  exact k
theorem in_enter {ro : Option Nat} {o : Oper} {a : Act} {f : FuncId} {args : Array Value} {K : Act → World → Prop} {X : Exit → Act → World → Prop} (h : (execOp a.eval o).run P w = .ok (.enter f args) w') (k : Calls P f args w' fun e w'' => ∃ v, e = .returned v ∧ K (a.put o.dst v) w'') : o.wpIn (fw ro) 0 P a w K X := by
  refine ⟨fun _ _ => trivial, ?_⟩
  rw [show (o.semAt (fw ro).round a.eval).run P w = _ from semAt_run h (fun d w' e => by cases e)]
  rw [Oper.uponIn_enter]
  refine ⟨fun h => by simp [fw] at h, ?_⟩
  have h1 : CallsIn Fence.wide (0 - 1) P f args w' (fun | .returned v, w'' => K (a.put o.dst v) w'' | .panicked chain, w'' => X (.panic chain) a w'' | .outgrown, _ => LetsOut X) := callsIn_wide.2 (k.mono (by rintro e w'' ⟨v, rfl, hk⟩; exact hk))
  exact h1
theorem vl_nil (h : Q .normal fr w) : VL P n all [] fr w Q := fun _ a ha => wpListIn_nil (.inl ⟨fr, ha, h⟩)

theorem vl_val (h : OS P n op ty fr w v w') (k : VL P n all rest ((d, v) :: fr) w' Q) : VL P n all (⟨some d, op, ty, pos, aft, none⟩ :: rest) fr w Q := by
  intro hok a ha
  obtain ⟨h1, h2⟩ := dst_lt hok rfl
  unfold wpListIn
  simp only [Region.wanted, if_true]
  exact in_value (by rw [execOp_bare, h a ha]) (k h2 _ (ha.put h1 v))

theorem vl_valn (h : OS P n op ty fr w v w') (k : VL P n all rest fr w' Q) : VL P n all (⟨none, op, ty, pos, aft, none⟩ :: rest) fr w Q := by
  intro hok a ha
  unfold wpListIn
  simp only [Region.wanted, if_true]
  exact in_value (by rw [execOp_bare, h a ha]) (k (dst_rest hok) _ ha)

theorem vl_unit (h : OU P n op ty fr w w') (k : VL P n all rest fr w' Q) : VL P n all (⟨none, op, ty, pos, aft, none⟩ :: rest) fr w Q := by
  intro hok a ha
  unfold wpListIn
  simp only [Region.wanted, if_true]
  exact in_skip (by rw [execOp_bare, h a ha]) (k (dst_rest hok) _ ha)

theorem vl_some {T : Value → World → Prop} (h : OT P n op ty fr w T) (k : ∀ v w', T v w' → VL P n all rest ((d, v) :: fr) w' Q) : VL P n all (⟨some d, op, ty, pos, aft, none⟩ :: rest) fr w Q := by
  intro hok a ha
  obtain ⟨h1, h2⟩ := dst_lt hok rfl
  obtain ⟨v, w', hr, ht⟩ := h a ha
  unfold wpListIn
  simp only [Region.wanted, if_true]
  exact in_value (by rw [execOp_bare, hr]) (k v w' ht h2 _ (ha.put h1 v))

theorem vl_valg {j : Nat} {b : Bool} (hg : guardF all fr j = some (.bool b)) (h : OS P n op ty fr w v w') (k : VL P n all rest ((d, v) :: fr) w' Q) : VL P n all (⟨some d, op, ty, pos, aft, some (j, b)⟩ :: rest) fr w Q := by
  intro hok a ha
  obtain ⟨h1, h2⟩ := dst_lt hok rfl
  unfold wpListIn
  simp only [Region.wanted, guardF_yields ha hg, BEq.rfl, if_true]
  exact in_value (by rw [execOp_bare, h a ha]) (k h2 _ (ha.put h1 v))

theorem vl_skip {j : Nat} {b c : Bool} (hg : guardF all fr j = some (.bool c)) (hb : (c == b) = false) (k : VL P n all rest ((d, undef) :: fr) w Q) : VL P n all (⟨some d, op, ty, pos, aft, some (j, b)⟩ :: rest) fr w Q := by
  intro hok a ha
  obtain ⟨h1, h2⟩ := dst_lt hok rfl
  have hne : (some c == some b) = false := by simpa using hb
  unfold wpListIn
  simp only [Region.wanted, guardF_yields ha hg, hne, Bool.false_eq_true, if_false]
  exact ⟨fun _ _ => trivial, k h2 _ (ha.put h1 undef)⟩

theorem vl_skipn {j : Nat} {b c : Bool} (hg : guardF all fr j = some (.bool c)) (hb : (c == b) = false) (k : VL P n all rest fr w Q) : VL P n all (⟨none, op, ty, pos, aft, some (j, b)⟩ :: rest) fr w Q := by
  intro hok a ha
  have hne : (some c == some b) = false := by simpa using hb
  unfold wpListIn
  simp only [Region.wanted, guardF_yields ha hg, hne, Bool.false_eq_true, if_false]
  exact ⟨fun _ _ => trivial, k (dst_rest hok) _ ha⟩

/-- a truth that is known by its test -/
theorem Ag.lay {n : Cx} {fr : Fr} {a : Act} (h : Ag n fr a) {t : Nat} {v : Value} (hg : Fr.get fr t = some v) : Ag n ((t, v) :: fr) a := by
  refine ⟨h.defers, h.size, fun s u hs => ?_⟩
  simp only [Fr.get] at hs
  cases hb : Nat.beq t s with
  | true =>
    rw [hb] at hs
    have hts : t = s := Nat.eq_of_beq_eq_true hb
    subst hts
    rw [← hs]; exact h.at_ t v hg
  | false => rw [hb] at hs; exact h.at_ s u hs
theorem vl_bool (t : Nat) {b : Bool} (hg : Fr.get fr t = some (.bool b)) (h1 : b = true → VL P n all rest ((t, .bool true) :: fr) w Q) (h2 : b = false → VL P n all rest ((t, .bool false) :: fr) w Q) : VL P n all rest fr w Q := by
  intro hok a ha
  cases b with
  | true => exact h1 rfl hok a (ha.lay hg)
  | false => exact h2 rfl hok a (ha.lay hg)
theorem vl_sub {fr' : Fr} (hs : Sub fr' fr) (h : VL P n all rest fr' w Q) : VL P n all rest fr w Q := fun hok a ha => h hok a (ha.sub hs)

theorem run_callee {f : FuncId} {c : Operand} {first cap : Array Value} {xs : List Operand} {ts : Array TypeId} {args : List Value} (he : Enters P f) (hc : Fr.ev fr c = some (.func (.func f) first cap)) (hx : evL fr xs = some args) {a : Act} (ha : Ag n fr a) :
    (execOp a.eval ⟨none, .call ⟨.value c, xs.toArray, ts⟩, ty, "", #[], none⟩).run P w = .ok (.enter f (first ++ args.toArray ++ cap)) w := by
  simp [execOp, resolve, ha.ev hc, ha.evL hx, Deferred.ofValue, invoke, he _ w]

theorem vl_call {f : FuncId} {xs : List Operand} {ts : Array TypeId} {args : List Value} {T : Value → World → Prop} (h : Gives P f args.toArray w T) (hx : evL fr xs = some args)
    (k : ∀ v w', T v w' → VL P n all rest ((d, v) :: fr) w' Q) : VL P n all (⟨some d, .call ⟨.value (.func f), xs.toArray, ts⟩, ty, pos, aft, none⟩ :: rest) fr w Q := by
  intro hok a ha
  obtain ⟨h1, h2⟩ := dst_lt hok rfl
  unfold wpListIn
  simp only [Region.wanted, if_true]
  refine in_enter (by rw [execOp_bare, run_callee (first := #[]) (cap := #[]) h.1 rfl hx ha]) ?_
  simp only [Array.append_empty, Array.empty_append]
  exact h.calls fun v w' ht => ⟨v, rfl, k v w' ht h2 _ (ha.put h1 v)⟩
theorem vl_calln {f : FuncId} {xs : List Operand} {ts : Array TypeId} {args : List Value} {T : Value → World → Prop} (h : Gives P f args.toArray w T) (hx : evL fr xs = some args)
    (k : ∀ v w', T v w' → VL P n all rest fr w' Q) : VL P n all (⟨none, .call ⟨.value (.func f), xs.toArray, ts⟩, ty, pos, aft, none⟩ :: rest) fr w Q := by
  intro hok a ha
  unfold wpListIn
  simp only [Region.wanted, if_true]
  refine in_enter (by rw [execOp_bare, run_callee (first := #[]) (cap := #[]) h.1 rfl hx ha]) ?_
  simp only [Array.append_empty, Array.empty_append]
  exact h.calls fun v w' ht => ⟨v, rfl, k v w' ht (dst_rest hok) _ ha⟩

theorem vl_callg {f : FuncId} {xs : List Operand} {ts : Array TypeId} {args : List Value} {T : Value → World → Prop} {j : Nat} {b : Bool} (hg : guardF all fr j = some (.bool b)) (h : Gives P f args.toArray w T) (hx : evL fr xs = some args)
    (k : ∀ v w', T v w' → VL P n all rest ((d, v) :: fr) w' Q) : VL P n all (⟨some d, .call ⟨.value (.func f), xs.toArray, ts⟩, ty, pos, aft, some (j, b)⟩ :: rest) fr w Q := by
  intro hok a ha
  obtain ⟨h1, h2⟩ := dst_lt hok rfl
  unfold wpListIn
  simp only [Region.wanted, guardF_yields ha hg, BEq.rfl, if_true]
  refine in_enter (by rw [execOp_bare, run_callee (first := #[]) (cap := #[]) h.1 rfl hx ha]) ?_
  simp only [Array.append_empty, Array.empty_append]
  exact h.calls fun v w' ht => ⟨v, rfl, k v w' ht h2 _ (ha.put h1 v)⟩

/-- a call of a function value -/
theorem vl_callv {f : FuncId} {c : Operand} {first cap : List Value} {xs : List Operand} {ts : Array TypeId} {args : List Value} {T : Value → World → Prop} (hc : Fr.ev fr c = some (.func (.func f) first.toArray cap.toArray)) (h : Gives P f (first ++ args ++ cap).toArray w T) (hx : evL fr xs = some args)
    (k : ∀ v w', T v w' → VL P n all rest ((d, v) :: fr) w' Q) : VL P n all (⟨some d, .call ⟨.value c, xs.toArray, ts⟩, ty, pos, aft, none⟩ :: rest) fr w Q := by
  intro hok a ha
  obtain ⟨h1, h2⟩ := dst_lt hok rfl
  unfold wpListIn
  simp only [Region.wanted, if_true]
  refine in_enter (by rw [execOp_bare, run_callee h.1 hc hx ha]) ?_
  have e : first.toArray ++ args.toArray ++ cap.toArray = (first ++ args ++ cap).toArray := by simp
  rw [e]
  exact h.calls fun v w' ht => ⟨v, rfl, k v w' ht h2 _ (ha.put h1 v)⟩
end

/-! ### the function's end and its beginning -/

/-- what the function hands back, out of what is known of its frame -/
def Post (P : Program) (n : Cx) (fn : Func) (T : Value → World → Prop) : Exit → Fr → World → Prop
  | .normal, fr, w => ∃ v, (∀ a, Ag n fr a → (results fn a.tmps).run P w = .ok v w) ∧ T v w
  | .ret, fr, w => ∃ v, (∀ a, Ag n fr a → (results fn a.tmps).run P w = .ok v w) ∧ T v w
  | _, _, _ => False

def argsFr : List Value → Nat → Fr
  | [], _ => []
  | v :: r, i => (i, v) :: argsFr r (i + 1)

theorem argsFr_get : ∀ (l : List Value) (i t : Nat) (v : Value), Fr.get (argsFr l i) t = some v → i ≤ t ∧ l[t - i]? = some v
  | [], i, t, v, h => by cases h
  | u :: r, i, t, v, h => by
    simp only [argsFr, Fr.get] at h
    cases hb : Nat.beq i t with
    | true =>
      rw [hb] at h
      have hit : i = t := Nat.eq_of_beq_eq_true hb
      subst hit
      exact ⟨Nat.le_refl _, by simpa using h⟩
    | false =>
      rw [hb] at h
      have hit : i ≠ t := Nat.ne_of_beq_eq_false hb
      obtain ⟨h1, h2⟩ := argsFr_get r (i + 1) t v h
      refine ⟨by omega, ?_⟩
      rw [show t - i = (t - (i + 1)) + 1 from by omega]
      simpa using h2

/-- the end of a function that has ranged over a function -/
def EndM (P : Program) (fn : Func) (T : Value → World → Prop) (a : Act) (w : World) : Prop :=
  ∃ D v, a.defers = [{ target := .collected D, args := #[] }] ∧ w.heap[D]? = some (.deferred (some [])) ∧ (results fn a.tmps).run P (w.putObj D (.deferred none)) = .ok v (w.putObj D (.deferred none)) ∧ T v (w.putObj D (.deferred none))

theorem gives_enter {P : Program} {f : FuncId} {fn : Func} {c : Code} {n : Nat} {args : List Value} {w : World} {T : Value → World → Prop} (he : ∀ (args : Array Value) (w : World), (callFunc f args).run P w = .ok (.enter f args) w) (hf : P.funcs[f]? = some fn) (hb : fn.body = some c) (hn : fn.ntmps = n)
    (hsz : Nat.ble args.length n = true) (hok : codeOk n c = true) (h : V P ⟨n, none, [], EndM P fn T⟩ c (argsFr args 0) w (Post P ⟨n, none, [], EndM P fn T⟩ fn T)) : Gives P f args.toArray w T := by
  have hag : Ag ⟨n, none, [], EndM P fn T⟩ (argsFr args 0) { tmps := args.toArray ++ Array.replicate (fn.ntmps - args.toArray.size) undef, defers := [] } := by
    refine ⟨rfl, ?_, ?_⟩
    · have h1 := Nat.le_of_ble_eq_true hsz
      simp only [Array.size_append, List.size_toArray, Array.size_replicate, hn]; omega
    · intro t v ht
      obtain ⟨-, h2⟩ := argsFr_get args 0 t v ht
      have hlt : t < args.length := (List.getElem?_eq_some_iff.1 (by simpa using h2)).1
      simp [Array.getElem?_append, hlt]
      simpa using (List.getElem?_eq_some_iff.1 (by simpa using h2)).2
  have h0 : c.wpIn Fence.wide 0 P (up ⟨n, none, [], EndM P fn T⟩ (Post P ⟨n, none, [], EndM P fn T⟩ fn T)) { tmps := args.toArray ++ Array.replicate (fn.ntmps - args.toArray.size) undef, defers := [] } w := h hok _ hag
  refine ⟨he, callsIn_wide.1 (callsIn_of_wp_marks (F := Fence.wide) (n := 0) hf hb trivial (wpIn_mono h0 ?_) rfl)⟩
  rintro e a' w' (⟨fr', h1, h2⟩ | ⟨rfl, D, v, h1, h2, h3, h4⟩)
  · have hd : a'.defers = [] := h1.defers
    cases e with
    | normal => obtain ⟨v, hr, ht⟩ := h2; show LeavesInM _ _ _ _ _ _ _ _ _; rw [hd]; exact ⟨v, hr _ h1, v, rfl, ht⟩
    | ret => obtain ⟨v, hr, ht⟩ := h2; show LeavesInM _ _ _ _ _ _ _ _ _; rw [hd]; exact ⟨v, hr _ h1, v, rfl, ht⟩
    | _ => exact h2.elim
  · show LeavesInM _ _ _ _ _ _ _ _ _
    rw [h1]
    exact ⟨by simp, .inl ⟨D, _, rfl, run_takeDeferred h2, v, h3, v, rfl, h4⟩⟩

section
variable {P : Program} {n : Cx} {fr : Fr} {w : World} {fn : Func} {T : Value → World → Prop} {v v2 v3 : Value} {t t2 t3 : Nat}
theorem post_ret (hf : fn.results = #[.tmp t]) (hg : Fr.get fr t = some v) (h : T v w) : Post P n fn T .ret fr w :=
  ⟨v, fun a ha => by rw [results_tmp hf]; simp [Array.getD_eq_getD_getElem?, ha.at_ t v hg], h⟩
theorem post_ret2 (hf : fn.results = #[.tmp t, .tmp t2]) (hg : Fr.get fr t = some v) (hg2 : Fr.get fr t2 = some v2) (h : T (.tuple #[v, v2]) w) : Post P n fn T .ret fr w :=
  ⟨_, fun a ha => by rw [results_tmp2 hf]; simp [Array.getD_eq_getD_getElem?, ha.at_ t v hg, ha.at_ t2 v2 hg2], h⟩
theorem post_ret3 (hf : fn.results = #[.tmp t, .tmp t2, .tmp t3]) (hg : Fr.get fr t = some v) (hg2 : Fr.get fr t2 = some v2) (hg3 : Fr.get fr t3 = some v3) (h : T (.tuple #[v, v2, v3]) w) : Post P n fn T .ret fr w :=
  ⟨_, fun a ha => by simp [results, hf, Array.getD_eq_getD_getElem?, ha.at_ t v hg, ha.at_ t2 v2 hg2, ha.at_ t3 v3 hg3], h⟩
theorem post_ret0 (hf : fn.results = #[]) (h : T (.tuple #[]) w) : Post P n fn T .ret fr w := ⟨_, fun a ha => by rw [results_none hf], h⟩
theorem post_end0 (hf : fn.results = #[]) (h : T (.tuple #[]) w) : Post P n fn T .normal fr w := ⟨_, fun a ha => by rw [results_none hf], h⟩
end
attribute [irreducible] V VL OS OU OT Gives Post
attribute [reducible] Thn Blk NoGoto
end Go.Proofs.Ytpojijnjdlnokaa

/- The rules of single operations, each on what is known of the frame. No program in sight. -/
namespace Go.Proofs.Ytpojijnjdlnokaa
open Go.RowKit
set_option linter.unusedVariables false

section
variable {P : Program} {n : Cx} {fr : Fr} {w : World} {ty : TypeId} {x y z : Operand} {v u : Value} {k k2 : IntKind} {m p r : Int} {T T2 : TypeId} {op : Op} {w' : World}

theorem os_of (h : ∀ a, Ag n fr a → (execOp a.eval ⟨none, op, ty, "", #[], none⟩).run P w = .ok (.value v) w') : OS P n op ty fr w v w' := by unfold OS; exact h
theorem i64_fit {n : Int} (h : -9223372036854775808 ≤ n ∧ n ≤ 9223372036854775807) : IntKind.i64.wrap n = n := IntWalk.i64_in _ h

theorem os_move (hx : Fr.ev fr x = some v) : OS P n (.move x) ty fr w v w := os_of fun a ha => by simp [execOp, ha.ev hx]
theorem os_assign (hx : Fr.ev fr x = some v) : OS P n (.assign x) ty fr w v w := os_of fun a ha => by simp [execOp, ha.ev hx]
theorem os_pick_t (hc : Fr.ev fr x = some (.bool true)) (hx : Fr.ev fr y = some v) : OS P n (.pick x y z) ty fr w v w := os_of fun a ha => by simp [execOp, ha.ev hx, ha.ev hc, asBool]
theorem os_pick_f (hc : Fr.ev fr x = some (.bool false)) (hx : Fr.ev fr z = some v) : OS P n (.pick x y z) ty fr w v w := os_of fun a ha => by simp [execOp, ha.ev hx, ha.ev hc, asBool]
theorem os_pick {b : Bool} (hc : Fr.ev fr x = some (.bool b)) (hx : Fr.ev fr y = some v) (hy : Fr.ev fr z = some u) : OS P n (.pick x y z) ty fr w (if b then v else u) w := os_of fun a ha => by cases b <;> simp [execOp, ha.ev hx, ha.ev hy, ha.ev hc, asBool]

theorem os_add (hx : Fr.ev fr x = some (.int k m)) (hy : Fr.ev fr y = some (.int k p)) (hr : k.wrap (m + p) = r) : OS P n (.binOp .add T x y T2) ty fr w (.int k r) w := os_of fun a ha => by
  simp [execOp, ha.ev hx, ha.ev hy, binOp, eqGuard, Op.intArith, hr]
theorem os_sub (hx : Fr.ev fr x = some (.int k m)) (hy : Fr.ev fr y = some (.int k p)) (hr : k.wrap (m - p) = r) : OS P n (.binOp .sub T x y T2) ty fr w (.int k r) w := os_of fun a ha => by
  simp [execOp, ha.ev hx, ha.ev hy, binOp, eqGuard, Op.intArith, hr]
theorem os_mul (hx : Fr.ev fr x = some (.int k m)) (hy : Fr.ev fr y = some (.int k p)) (hr : k.wrap (m * p) = r) : OS P n (.binOp .mul T x y T2) ty fr w (.int k r) w := os_of fun a ha => by
  simp [execOp, ha.ev hx, ha.ev hy, binOp, eqGuard, Op.intArith, hr]
theorem os_addi (hx : Fr.ev fr x = some (.int .i64 m)) (hy : Fr.ev fr y = some (.int .i64 p)) (hr : -9223372036854775808 ≤ m + p ∧ m + p ≤ 9223372036854775807) : OS P n (.binOp .add T x y T2) ty fr w (.int .i64 (m + p)) w := os_add hx hy (i64_fit hr)
theorem os_subi (hx : Fr.ev fr x = some (.int .i64 m)) (hy : Fr.ev fr y = some (.int .i64 p)) (hr : -9223372036854775808 ≤ m - p ∧ m - p ≤ 9223372036854775807) : OS P n (.binOp .sub T x y T2) ty fr w (.int .i64 (m - p)) w := os_sub hx hy (i64_fit hr)
theorem os_muli (hx : Fr.ev fr x = some (.int .i64 m)) (hy : Fr.ev fr y = some (.int .i64 p)) (hr : -9223372036854775808 ≤ m * p ∧ m * p ≤ 9223372036854775807) : OS P n (.binOp .mul T x y T2) ty fr w (.int .i64 (m * p)) w := os_mul hx hy (i64_fit hr)
theorem os_quo (hx : Fr.ev fr x = some (.int k m)) (hy : Fr.ev fr y = some (.int k p)) (h0 : p ≠ 0) (hr : k.wrap (m.tdiv p) = r) : OS P n (.binOp .quo T x y T2) ty fr w (.int k r) w := os_of fun a ha => by
  simp [execOp, ha.ev hx, ha.ev hy, binOp, eqGuard, Op.intDiv, h0, hr]
theorem os_rem (hx : Fr.ev fr x = some (.int k m)) (hy : Fr.ev fr y = some (.int k p)) (h0 : p ≠ 0) (hr : m.tmod p = r) : OS P n (.binOp .rem T x y T2) ty fr w (.int k r) w := os_of fun a ha => by
  simp [execOp, ha.ev hx, ha.ev hy, binOp, eqGuard, Op.intDiv, h0, hr]
/-- both at least 0, Go's int -/
theorem os_quoi (hx : Fr.ev fr x = some (.int .i64 m)) (hy : Fr.ev fr y = some (.int .i64 p)) (h : 0 ≤ m ∧ m ≤ 9223372036854775807 ∧ 0 < p) : OS P n (.binOp .quo T x y T2) ty fr w (.int .i64 (m / p)) w := by
  refine os_quo hx hy (by omega) ?_
  rw [Int.tdiv_eq_ediv_of_nonneg h.1]
  refine i64_fit ⟨?_, ?_⟩
  · have := Int.ediv_nonneg h.1 (Int.le_of_lt h.2.2); omega
  · have := Int.ediv_le_self p h.1; omega
theorem os_remi (hx : Fr.ev fr x = some (.int k m)) (hy : Fr.ev fr y = some (.int k p)) (h : 0 ≤ m ∧ 0 < p) : OS P n (.binOp .rem T x y T2) ty fr w (.int k (m % p)) w := os_rem hx hy (by omega) (Int.tmod_eq_emod_of_nonneg h.1)
theorem os_shl (hx : Fr.ev fr x = some (.int k m)) (hy : Fr.ev fr y = some (.int k2 p)) (h0 : 0 ≤ p) (hr : k.wrap (m * 2 ^ min p.toNat k.bits) = r) : OS P n (.binOp .shl T x y T2) ty fr w (.int k r) w := os_of fun a ha => by
  simp [execOp, ha.ev hx, ha.ev hy, binOp, eqGuard, Op.shift, show ¬ p < 0 from by omega, hr]
theorem os_shr (hx : Fr.ev fr x = some (.int k m)) (hy : Fr.ev fr y = some (.int k2 p)) (h0 : 0 ≤ p) (hr : m.fdiv (2 ^ min p.toNat k.bits) = r) : OS P n (.binOp .shr T x y T2) ty fr w (.int k r) w := os_of fun a ha => by
  simp [execOp, ha.ev hx, ha.ev hy, binOp, eqGuard, Op.shift, show ¬ p < 0 from by omega, hr]
theorem os_and (hx : Fr.ev fr x = some (.int k m)) (hy : Fr.ev fr y = some (.int k p)) (hr : k.wrap ((BitVec.ofInt k.bits m &&& BitVec.ofInt k.bits p).toNat : Nat) = r) : OS P n (.binOp .and T x y T2) ty fr w (.int k r) w := os_of fun a ha => by
  subst hr; simp [execOp, ha.ev hx, ha.ev hy, binOp, eqGuard, Op.intBits]
theorem os_or (hx : Fr.ev fr x = some (.int k m)) (hy : Fr.ev fr y = some (.int k p)) (hr : k.wrap ((BitVec.ofInt k.bits m ||| BitVec.ofInt k.bits p).toNat : Nat) = r) : OS P n (.binOp .or T x y T2) ty fr w (.int k r) w := os_of fun a ha => by
  subst hr; simp [execOp, ha.ev hx, ha.ev hy, binOp, eqGuard, Op.intBits]
theorem os_xor (hx : Fr.ev fr x = some (.int k m)) (hy : Fr.ev fr y = some (.int k p)) (hr : k.wrap ((BitVec.ofInt k.bits m ^^^ BitVec.ofInt k.bits p).toNat : Nat) = r) : OS P n (.binOp .xor T x y T2) ty fr w (.int k r) w := os_of fun a ha => by
  subst hr; simp [execOp, ha.ev hx, ha.ev hy, binOp, eqGuard, Op.intBits]
theorem os_lss (hx : Fr.ev fr x = some (.int k m)) (hy : Fr.ev fr y = some (.int k p)) : OS P n (.binOp .lss T x y T2) ty fr w (.bool (decide (m < p))) w := os_of fun a ha => by
  simp [execOp, ha.ev hx, ha.ev hy, binOp, eqGuard, Op.intCmp]
theorem os_leq (hx : Fr.ev fr x = some (.int k m)) (hy : Fr.ev fr y = some (.int k p)) : OS P n (.binOp .leq T x y T2) ty fr w (.bool (decide (m ≤ p))) w := os_of fun a ha => by
  simp [execOp, ha.ev hx, ha.ev hy, binOp, eqGuard, Op.intCmp]
theorem os_gtr (hx : Fr.ev fr x = some (.int k m)) (hy : Fr.ev fr y = some (.int k p)) : OS P n (.binOp .gtr T x y T2) ty fr w (.bool (decide (p < m))) w := os_of fun a ha => by
  simp [execOp, ha.ev hx, ha.ev hy, binOp, eqGuard, Op.intCmp]
theorem os_geq (hx : Fr.ev fr x = some (.int k m)) (hy : Fr.ev fr y = some (.int k p)) : OS P n (.binOp .geq T x y T2) ty fr w (.bool (decide (p ≤ m))) w := os_of fun a ha => by
  simp [execOp, ha.ev hx, ha.ev hy, binOp, eqGuard, Op.intCmp]
theorem os_eql (hx : Fr.ev fr x = some (.int k m)) (hy : Fr.ev fr y = some (.int k p)) : OS P n (.binOp .eql T x y T2) ty fr w (.bool (decide (m = p))) w := os_of fun a ha => by
  simp [execOp, ha.ev hx, ha.ev hy, binOp, eqGuard, Op.intCmp]; rfl
theorem os_neq (hx : Fr.ev fr x = some (.int k m)) (hy : Fr.ev fr y = some (.int k p)) : OS P n (.binOp .neq T x y T2) ty fr w (.bool (decide (m ≠ p))) w := os_of fun a ha => by
  simp [execOp, ha.ev hx, ha.ev hy, binOp, eqGuard, Op.intCmp, bne]; rfl
theorem os_eqlb {b c : Bool} (hT : P.underlying T = some .bool) (hx : Fr.ev fr x = some (.bool b)) (hy : Fr.ev fr y = some (.bool c)) : OS P n (.binOp .eql T x y T2) ty fr w (.bool (b == c)) w := os_of fun a ha => by
  simp [execOp, ha.ev hx, ha.ev hy, eqGuard, run_eql_bool w T b c hT]
theorem os_neqb {b c : Bool} (hT : P.underlying T = some .bool) (hx : Fr.ev fr x = some (.bool b)) (hy : Fr.ev fr y = some (.bool c)) : OS P n (.binOp .neq T x y T2) ty fr w (.bool (!(b == c))) w := os_of fun a ha => by
  simp [execOp, ha.ev hx, ha.ev hy, eqGuard, run_neq_bool w T b c hT]
theorem os_not {b : Bool} (hx : Fr.ev fr x = some (.bool b)) : OS P n (.unOp .not T x) ty fr w (.bool (!b)) w := os_of fun a ha => by simp [execOp, ha.ev hx, Op.unary]
theorem os_neg (hx : Fr.ev fr x = some (.int k m)) (hr : k.wrap (0 - m) = r) : OS P n (.unOp .neg T x) ty fr w (.int k r) w := os_of fun a ha => by
  subst hr; simp [execOp, ha.ev hx, Op.unary, Op.intArith]
theorem os_com (hx : Fr.ev fr x = some (.int k m)) (hr : k.wrap ((BitVec.ofInt k.bits (if k.signed then -1 else k.max) ^^^ BitVec.ofInt k.bits m).toNat : Nat) = r) : OS P n (.unOp .xor T x) ty fr w (.int k r) w := os_of fun a ha => by
  subst hr; simp [execOp, ha.ev hx, Op.unary, Op.intBits]
theorem os_conv {k' : IntKind} (h1 : P.underlying T = some (.int k')) (h2 : P.underlying T2 = some (.int k)) (hx : Fr.ev fr x = some (.int k' m)) (hr : k.wrap m = r) : OS P n (.convert T T2 x) ty fr w (.int k r) w := os_of fun a ha => by
  subst hr; simp [execOp, ha.ev hx, convert, run_underlying h1, run_underlying h2, Conv.intToInt]

theorem os_len {A : Option Addr} {l c : Nat} {e : TypeId} (hT : P.underlying T = some (.slice e)) (hx : Fr.ev fr x = some (.slice A l c)) : OS P n (.call ⟨.builtin .len, #[x], #[T]⟩) ty fr w (.int .i64 l) w := os_of fun a ha => by
  simp [execOp, resolve, invoke, builtin, ha.ev hx, Builtin.len_, run_underlying hT, goInt]
theorem os_cap {A : Option Addr} {l c : Nat} {e : TypeId} (hT : P.underlying T = some (.slice e)) (hx : Fr.ev fr x = some (.slice A l c)) : OS P n (.call ⟨.builtin .cap, #[x], #[T]⟩) ty fr w (.int .i64 c) w := os_of fun a ha => by
  simp [execOp, resolve, invoke, builtin, ha.ev hx, Builtin.cap_, run_underlying hT, goInt]
theorem os_min {T' : TypeId} (hx : Fr.ev fr x = some (.int k m)) (hy : Fr.ev fr y = some (.int k p)) : OS P n (.call ⟨.builtin .min, #[x, y], #[T, T']⟩) ty fr w (.int k (min m p)) w := os_of fun a ha => by
  simp [execOp, resolve, invoke, builtin, ha.ev hx, ha.ev hy, Builtin.min_, Builtin.min2]
  split <;> omega
theorem os_max {T' : TypeId} (hx : Fr.ev fr x = some (.int k m)) (hy : Fr.ev fr y = some (.int k p)) : OS P n (.call ⟨.builtin .max, #[x, y], #[T, T']⟩) ty fr w (.int k (max m p)) w := os_of fun a ha => by
  simp [execOp, resolve, invoke, builtin, ha.ev hx, ha.ev hy, Builtin.max_, Builtin.max2]
  split <;> omega

theorem os_t {q : Prop} [Decidable q] (h : OS P n op ty fr w (.bool (decide q)) w') (hq : q) : OS P n op ty fr w (.bool true) w' := by rw [decide_eq_true hq] at h; exact h
theorem os_f {q : Prop} [Decidable q] (h : OS P n op ty fr w (.bool (decide q)) w') (hq : ¬ q) : OS P n op ty fr w (.bool false) w' := by rw [decide_eq_false hq] at h; exact h
theorem os_is {b c : Bool} (h : OS P n op ty fr w (.bool b) w') (hq : b = c) : OS P n op ty fr w (.bool c) w' := by rw [hq] at h; exact h
theorem os_int {b c : Int} (h : OS P n op ty fr w (.int k b) w') (hq : b = c) : OS P n op ty fr w (.int k c) w' := by rw [hq] at h; exact h
theorem os_box (hx : Fr.ev fr x = some v) : OS P n (.box T x) ty fr w (.pointer (some ⟨w.heap.size, 0, none⟩)) (w.alloc (.cells v.cells T)) := os_of fun a ha => by
  simp [execOp, ha.ev hx, Instr.box, newVar, newRow]
theorem os_alloc (hz : ∀ w, (zeroValue T).run P w = .ok v w) : OS P n (.alloc T) ty fr w (.pointer (some ⟨w.heap.size, 0, none⟩)) (w.alloc (.cells v.cells T)) := os_of fun a ha => by
  simp [execOp, Instr.alloc, hz, newVar, newRow]
theorem os_load {A : Addr} (hT : ∀ w, (isAgg T).run P w = .ok false w) (hx : Fr.ev fr x = some (.pointer (some A))) (hc : w.cell? A = some v) : OS P n (.load T x) ty fr w v w := os_of fun a ha => by
  simp [execOp, ha.ev hx, Instr.loadAt, Instr.sureAddr, loadVar, hT, hc]
theorem ou_store {A : Addr} (hT : ∀ w, (sizeOf T).run P w = .ok 1 w) (hx : Fr.ev fr x = some (.pointer (some A))) (hy : Fr.ev fr y = some v) (h1 : v.oneCell' = true) (hc : w.cell? A = some u) (hf : w.frozen? A = false) : OU P n (.store T x y) ty fr w (w.setCell A v) := by
  unfold OU
  intro a ha
  have hcells : v.cells = #[v] := by cases v <;> simp_all [Value.cells, Value.oneCell']
  have hA : A.add 0 = A := by simp [Addr.add]
  simp [execOp, ha.ev hx, ha.ev hy, Instr.storeAt, Instr.sureAddr, storeVar, hT, hcells, storeCells, hA, run_store P w A v .plain h1, hc, hf]
theorem os_nilCheck {A : Addr} (hx : Fr.ev fr x = some (.pointer (some A))) : OS P n (.nilCheck x) ty fr w (.pointer (some A)) w := os_of fun a ha => by
  simp [execOp, ha.ev hx]
theorem os_slice_h {A : Option Addr} {l c h : Nat} {e : TypeId} {s : Nat} (hT : P.underlying T = some (.slice e)) (hs : ∀ w, (sizeOf e).run P w = .ok s w) (hx : Fr.ev fr x = some (.slice A l c)) (hy : Fr.ev fr y = some (.int k m)) (hm : m = (h : Int)) (hh : h ≤ c) :
    OS P n (.slice T x none (some y) none) ty fr w (.slice A h c) w := os_of fun a ha => by
  subst hm
  have h0 : (A.map fun b => b.add (0 * s)) = A := by cases A <;> simp [Addr.add]
  have h1 : (A.map fun b => b.add 0) = A := by cases A <;> simp [Addr.add]
  simp [execOp, ha.ev hx, ha.ev hy, Instr.sliceAt, Instr.slice, run_underlying hT, Instr.sliceBounds, Instr.sliceBound, asIntOf, hs, hh, h1]
theorem os_slice_l {A : Option Addr} {l c i : Nat} {e : TypeId} {s : Nat} (hT : P.underlying T = some (.slice e)) (hs : ∀ w, (sizeOf e).run P w = .ok s w) (hx : Fr.ev fr x = some (.slice A l c)) (hy : Fr.ev fr y = some (.int k m)) (hm : m = (i : Int)) (hh : i ≤ l) :
    OS P n (.slice T x (some y) none none) ty fr w (.slice (if c = i then A else A.map (·.add (i * s))) (l - i) (c - i)) w := os_of fun a ha => by
  subst hm
  simp [execOp, ha.ev hx, ha.ev hy, Instr.sliceAt, Instr.slice, run_underlying hT, Instr.sliceBounds, Instr.sliceBound, asIntOf, hs, hh]
theorem os_slice_lh {A : Option Addr} {l c i j : Nat} {e : TypeId} {s : Nat} {k' : IntKind} {m' : Int} (hT : P.underlying T = some (.slice e)) (hs : ∀ w, (sizeOf e).run P w = .ok s w) (hx : Fr.ev fr x = some (.slice A l c)) (hy : Fr.ev fr y = some (.int k m)) (hm : m = (i : Int)) (hz : Fr.ev fr z = some (.int k' m')) (hm' : m' = (j : Int)) (hh : i ≤ j) (hj : j ≤ c) :
    OS P n (.slice T x (some y) (some z) none) ty fr w (.slice (if c = i then A else A.map (·.add (i * s))) (j - i) (c - i)) w := os_of fun a ha => by
  subst hm; subst hm'
  simp [execOp, ha.ev hx, ha.ev hy, ha.ev hz, Instr.sliceAt, Instr.slice, run_underlying hT, Instr.sliceBounds, Instr.sliceBound, asIntOf, hs, hh, hj]
theorem os_indexAddr {A : Addr} {l c : Nat} {e : TypeId} {s : Nat} (hT : P.underlying T = some (.slice e)) (hs : ∀ w, (sizeOf e).run P w = .ok s w) (hx : Fr.ev fr x = some (.slice (some A) l c)) (hy : Fr.ev fr y = some (.int k m)) (h : 0 ≤ m ∧ m < l) :
    OS P n (.indexAddr T x y) ty fr w (.pointer (some (A.add (m.toNat * s)))) w := os_of fun a ha => by
  simp [execOp, ha.ev hx, ha.ev hy, Instr.indexAt, asIntOf, run_underlying hT, h, hs]
theorem addr_add (b o i : Nat) : (⟨b, o, none⟩ : Addr).add i = ⟨b, o + i, none⟩ := by unfold Addr.add; split <;> simp_all
/-- place i of a slice of one-cell elements -/
theorem os_ix {b o l c i : Nat} {e : TypeId} (hT : P.underlying T = some (.slice e)) (hs : ∀ w, (sizeOf e).run P w = .ok 1 w) (hx : Fr.ev fr x = some (.slice (some ⟨b, o, none⟩) l c)) (hy : Fr.ev fr y = some (.int k m)) (hm : m = (i : Int)) (h : i < l) :
    OS P n (.indexAddr T x y) ty fr w (.pointer (some ⟨b, o + i, none⟩)) w := by
  subst hm
  have := os_indexAddr (ty := ty) (w := w) (n := n) hT hs hx hy ⟨by omega, by omega⟩
  rw [addr_add] at this
  simpa using this
/-- place i of a slice of elements of s cells -/
theorem os_ixs {b o l c i s : Nat} {e : TypeId} (hT : P.underlying T = some (.slice e)) (hs : ∀ w, (sizeOf e).run P w = .ok s w) (hx : Fr.ev fr x = some (.slice (some ⟨b, o, none⟩) l c)) (hy : Fr.ev fr y = some (.int k m)) (hm : m = (i : Int)) (h : i < l) :
    OS P n (.indexAddr T x y) ty fr w (.pointer (some ⟨b, o + i * s, none⟩)) w := by
  subst hm
  have := os_indexAddr (ty := ty) (w := w) (n := n) hT hs hx hy ⟨by omega, by omega⟩
  rw [addr_add] at this
  simpa using this
def nthV : List Value → Nat → Option Value
  | [], _ => none
  | v :: _, 0 => some v
  | _ :: r, i + 1 => nthV r i
theorem nthV_eq : ∀ (l : List Value) (i : Nat), nthV l i = l[i]?
  | [], _ => by simp [nthV]
  | _ :: _, 0 => by simp [nthV]
  | _ :: r, i + 1 => by simp [nthV, nthV_eq r i]
theorem os_extract {vs : List Value} {i : Nat} (hx : Fr.ev fr x = some (.tuple vs.toArray)) (hv : nthV vs i = some v) : OS P n (.extract x i) ty fr w v w := os_of fun a ha => by
  rw [nthV_eq] at hv
  simp [execOp, ha.ev hx, Instr.extract, hv]
theorem os_makeFunc {f : Fn} {xs : List Operand} {vs : List Value} (hx : evL fr xs = some vs) : OS P n (.makeFunc f #[] xs.toArray) ty fr w (.func f #[] vs.toArray) w := os_of fun a ha => by
  simp [execOp, ha.evL hx, Instr.makeFunc]
end
end Go.Proofs.Ytpojijnjdlnokaa

/- Words for memory and small lemmas: a slice that reads as a list, a block that is known whole, worlds that differ by draws. No program in sight. -/
namespace Go.Proofs.Ytpojijnjdlnokaa
open Go.RowKit

/-! ### lists that are read -/

/-- the address A leads to a row whose first cells are the integers zs -/
def Rd (w : World) (k : IntKind) (A : Option Addr) (zs : List Int) : Prop :=
  0 < zs.length → ∃ b off, A = some ⟨b, off, none⟩ ∧ ∀ i, i < zs.length → w.cell? ⟨b, off + i, none⟩ = some (.int k (zs.getD i 0))

theorem Rd.at_ {w k A zs} (h : Rd w k A zs) {i : Nat} (hi : i < zs.length) : ∃ b off, A = some ⟨b, off, none⟩ ∧ w.cell? ⟨b, off + i, none⟩ = some (.int k (zs.getD i 0)) := by
  obtain ⟨b, off, e, hc⟩ := h (by omega)
  exact ⟨b, off, e, hc i hi⟩

theorem Rd.nil {w k A} : Rd w k A [] := fun h => absurd h (by simp)

/-- whatever lies in the world's cells below, stays: worlds that agree on all blocks that there were -/
theorem Rd.below {w w' : World} {B k A zs} (h : Rd w k A zs) (hb : Below B w w') (hB : ∀ b off, A = some ⟨b, off, none⟩ → b < B) : Rd w' k A zs := by
  intro hl
  obtain ⟨b, off, e, hc⟩ := h hl
  exact ⟨b, off, e, fun i hi => (hb.cell (p := ⟨b, off + i, none⟩) (hB b off e)).trans (hc i hi)⟩

theorem Rd.lt {w k A zs} (h : Rd w k A zs) (hl : 0 < zs.length) : ∃ b off, A = some ⟨b, off, none⟩ ∧ b < w.heap.size := by
  obtain ⟨b, off, e, hc⟩ := h hl
  exact ⟨b, off, e, World.block_lt_of_cell? w ⟨b, off + 0, none⟩ (hc 0 hl)⟩

/-- all that a world has stays in a world that is as it was below its size -/
theorem Rd.keep {w w' : World} {k A zs} (h : Rd w k A zs) (hb : Below w.heap.size w w') : Rd w' k A zs := by
  intro hl
  obtain ⟨b, off, e, hc⟩ := h hl
  refine ⟨b, off, e, fun i hi => ?_⟩
  have := World.block_lt_of_cell? w ⟨b, off + i, none⟩ (hc i hi)
  exact (hb.cell (p := ⟨b, off + i, none⟩) this).trans (hc i hi)

theorem Rd.drewN {w k A zs} (h : Rd w k A zs) (q : Nat) : Rd (w.drewN q) k A zs := h

theorem Rd.alloc {w k A zs} (h : Rd w k A zs) (o : Obj) : Rd (w.alloc o) k A zs := h.keep ((Below.refl _ _).alloc (Nat.le_refl _) o)

theorem below_drewN_ {B : Nat} {w w' : World} (h : Below B w w') (q : Nat) : Below B w (w'.drewN q) := ⟨h.os, h.tape, h.output, h.size, h.block⟩

/-! ### a test in the walk's two spellings -/
theorem ret_bool {a b : Bool} (h : a = b) : Ending.returned (.bool a) = .returned (.bool b) := by rw [h]
theorem ret_int {k : IntKind} {a b : Int} (h : a = b) : Ending.returned (.int k a) = .returned (.int k b) := by rw [h]

theorem drew_ex {w : World} {a b : Nat} : ∃ q, (w.drewN a).drewN b = w.drewN q := ⟨a + b, World.drewN_drewN ..⟩
theorem drew_of {w wr : World} (h : ∃ q, wr = w.drewN q) (n : Nat) : ∃ q, wr.drewN n = w.drewN q := by obtain ⟨q, rfl⟩ := h; exact drew_ex
theorem cell_of_drew {w wr : World} (h : ∃ q, wr = w.drewN q) {a : Addr} {v : Option Value} (hc : w.cell? a = v) : wr.cell? a = v := by obtain ⟨q, rfl⟩ := h; exact hc
theorem ne_of_bne {a b : Int} (h : (a != b) = true) : a ≠ b := by simpa using h
theorem eq_of_bne {a b : Int} (h : (a != b) = false) : a = b := by simpa using h
theorem take_succ_eq {α} {xs ys : List α} {k n : Nat} (hx : n = xs.length) (hy : n = ys.length) (hk : k < n) (h : xs.take k = ys.take k) (d : α)
    (e : xs[k]?.getD d = ys[k]?.getD d) : xs.take (k + 1) = ys.take (k + 1) := by
  have h1 : k < xs.length := by omega
  have h2 : k < ys.length := by omega
  rw [List.take_succ_eq_append_getElem h1, List.take_succ_eq_append_getElem h2, h]
  simp [h1, h2] at e
  rw [e]

theorem ne_of_getD {α} {xs ys : List α} {k : Nat} (d : α) (e : xs[k]?.getD d ≠ ys[k]?.getD d) : xs ≠ ys := fun h => e (by rw [h])

theorem eq_of_take {α} {xs ys : List α} {n : Nat} (hx : n = xs.length) (hy : n = ys.length) (h : xs.take n = ys.take n) : xs = ys := by
  rw [hx, List.take_length] at h
  rw [h, ← hx, hy, List.take_length]


/-! ### one element appended to a list of the call's own -/
theorem wpl_append1 {P : Program} {ops : Array Oper} {rest : List Oper} {o : Oper} {a : Act} {Q : Exit → Act → World → Prop} {w : World} (hgd : o.guard = none) (s x : Operand) (t : TypeId)
    (ho : o.op = .call { callee := .builtin .append, args := #[s, x], argTypes := #[t, t] }) (B : Nat) (e : TypeId) (z : Value) (bytes : Nat) (ht : P.underlying t = some (.slice e))
    (hinfo : (P.info? e).map (fun i => (i.zero, i.size, i.bytes)) = some (some z, 1, bytes)) (hz : z.oneCell' = true) (v : Value) (n : Nat) (xs : List Value) (hs : a.eval s = v) (hown : w.ownsRow B e 1 v n xs) (b c : Nat) (u : Value)
    (hx : a.eval x = .slice (some ⟨b, 0, none⟩) 1 c) (hc : w.cell? ⟨b, 0, none⟩ = some u) (h1 : u.oneCell' = true) (hlen : (n + 1) * bytes ≤ 140737488355328) (hlen' : n + 1 ≤ maxLen) (hB : B ≤ w.heap.size)
    (h : ∀ v' w', w'.ownsRow B e 1 v' (n + 1) (xs ++ [u]) → w.grownBy w' v.ownBlock → wpList P ops Q rest (a.put o.dst v') w') : wpList P ops Q (o :: rest) a w := by
  obtain ⟨i0, hi, hz0, hz1, hz2⟩ := info_parts hinfo
  refine wpList_append_own w hgd s x t ho B e i0 z 1 bytes ht hi hz0 hz1 hz2 (by cases z <;> simp_all [Value.cells, Value.oneCell']) (by decide) v n xs hs hown ⟨b, 0, none⟩ 1 c [u] hx rfl ?_ ?_ hlen' hlen hB (fun v' w' a1 a2 _ => h v' w' a1 a2)
  · intro j u' hu
    cases j with
    | zero => simp at hu; subst hu; simpa [Addr.add] using hc
    | succ j => simp at hu
  · intro u' hu; simp at hu; subst hu; exact h1

theorem cell_one_alloc (w : World) (u : Value) (t : TypeId) : (w.alloc (.cells #[u] t)).cell? ⟨w.heap.size, 0, none⟩ = some u := by
  rw [cell_of_row _ w.heap.size 0 #[u] t (0, 0) (heap_alloc_new w _)]; rfl
theorem cell_one_drewN (w : World) (q : Nat) (u : Value) (t : TypeId) : ((w.drewN q).alloc (.cells #[u] t)).cell? ⟨w.heap.size, 0, none⟩ = some u := cell_one_alloc (w.drewN q) u t
theorem ownsRow_drewN {w : World} {B : Nat} {e : TypeId} {size : Nat} {v : Value} {n : Nat} {xs : List Value} (h : w.ownsRow B e size v n xs) (q : Nat) : (w.drewN q).ownsRow B e size v n xs := h

/-- a block laid behind: what the call owns stays -/
theorem below_grown_own {w w1 w2 : World} {B : Nat} {e : TypeId} {size : Nat} {v : Value} {n : Nat} {xs : List Value} (hb : Below B w w1) (ho : w1.ownsRow B e size v n xs) (hg : w1.grownBy w2 v.ownBlock) (hB : B ≤ w1.heap.size) : Below B w w2 :=
  hb.grown hg hB fun k hk => (World.ownsRow.lt ho k hk).1

theorem snoc_ind {α : Type} {P : List α → Prop} (h0 : P []) (h1 : ∀ l x, P l → P (l ++ [x])) (l : List α) : P l := by
  have h : ∀ r : List α, P r.reverse := by
    intro r
    induction r with
    | nil => exact h0
    | cons x r ih => rw [List.reverse_cons]; exact h1 _ _ ih
  have := h l.reverse
  rwa [List.reverse_reverse] at this
end Go.Proofs.Ytpojijnjdlnokaa
