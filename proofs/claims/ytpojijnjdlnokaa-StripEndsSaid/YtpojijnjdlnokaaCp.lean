/- copy, and slices from a place on. No program in sight. -/
import Derived.Test.YtpojijnjdlnokaaN
namespace Go.Proofs.Ytpojijnjdlnokaa
open Go.RowKit
set_option linter.unusedVariables false

section
variable {P : Program} {n : Cx} {fr : Fr} {w : World} {ty : TypeId} {x y z : Operand} {v u : Value} {T T2 e : TypeId} {op : Op} {w' : World} {k : IntKind} {m : Int}
theorem Own.bk {B t g n c cs} (h : Own w B t (.slice (some ⟨g, 0, none⟩) n c) cs) (hc : c = cs.length) : Bk w g cs t := by
  rcases h.2 with ⟨h1, _⟩ | ⟨g', cap, cur, h1, hB, hg, hnc, hcm, hs, ht⟩
  · cases h1
  · cases h1
    unfold Bk
    rw [hg]
    have : cur = cs.toArray := by
      rw [← ht, ← hc]
      have hs' : cur.size = c := by simpa using hs
      rw [List.take_of_length_le (by simp [hs'])]
    rw [this]
theorem Bk.own {B t g cs} (h : Bk w g cs t) (hB : B ≤ g) (hl : cs.length ≤ maxLen) : Own w B t (.slice (some ⟨g, 0, none⟩) cs.length cs.length) cs :=
  ⟨by simp, .inr ⟨g, cs.length, cs.toArray, rfl, hB, h, Nat.le_refl _, hl, by simp, by simp⟩⟩
theorem os_copyB {g o dl dc sl sc q : Nat} {A : Addr} {cs ss : List Value} {t : TypeId} (hT : P.underlying T = some (.slice e)) (hs : (P.info? e).map (·.size) = some 1) (hx : Fr.ev fr x = some (.slice (some ⟨g, o, none⟩) dl dc)) (hy : Fr.ev fr y = some (.slice (some A) sl sc))
    (hB : Bk w g cs t) (hr : RdC w (some A) ss) (hq : ss.length = q) (hn : q = min sl dl) (hfit : o + q ≤ cs.length) (h1 : ∀ u ∈ ss, u.oneCell' = true) :
    OS P n (.call ⟨.builtin .copy, #[x, y], #[T, T2]⟩) ty fr w (.int .i64 q) (w.setRow g (cs.take o ++ ss ++ cs.drop (o + q)).toArray) := by
  subst hq
  have hrun := run_copy_row (P := P) w T T2 ty e g o dl dc A sl sc cs.toArray t ss hT hs hB hn (fun j u hu => by
    have hj := (List.getElem?_eq_some_iff.1 hu).1
    obtain ⟨b, off, e1, hc⟩ := hr (by omega)
    cases e1
    rw [addr_add, hc j hj]; exact hu) (by simpa using hfit) h1
  refine os_of fun a ha => ?_
  simp [execOp, resolve, invoke, builtin, ha.ev hx, ha.ev hy, hrun, Result.andThen, goInt]
theorem os_slice_l1 {b o l c i : Nat} {e : TypeId} (hT : P.underlying T = some (.slice e)) (hs : ∀ w, (sizeOf e).run P w = .ok 1 w) (hx : Fr.ev fr x = some (.slice (some ⟨b, o, none⟩) l c)) (hy : Fr.ev fr y = some (.int k m)) (hm : m = (i : Int)) (hh : i ≤ l) (hne : c ≠ i) :
    OS P n (.slice T x (some y) none none) ty fr w (.slice (some ⟨b, o + i, none⟩) (l - i) (c - i)) w := by
  have := os_slice_l (n := n) (w := w) (ty := ty) hT hs hx hy hm hh
  rw [if_neg hne] at this
  simpa [addr_add] using this
theorem grown_setRow (w : World) (g : Nat) (cs : Array Value) : w.grownBy (w.setRow g cs) (some g) :=
  ⟨rfl, rfl, rfl, by simp [World.setRow], fun k _ hk => setRow_other w g k cs (fun e => hk (by rw [e]))⟩
/-- copy(d, s): d a list of the call's own -/
theorem ot_copy {g dl dc sl sc q B : Nat} {A : Option Addr} {cs ss : List Value} {t : TypeId} (hT : P.underlying T = some (.slice e)) (hs : (P.info? e).map (·.size) = some 1) (hx : Fr.ev fr x = some (.slice (some ⟨g, 0, none⟩) dl dc)) (hy : Fr.ev fr y = some (.slice A sl sc))
    (ho : Own w B t (.slice (some ⟨g, 0, none⟩) dl dc) cs) (hr : RdC w A ss) (hq : ss.length = q) (hn : q = min sl dl) (h1 : ∀ u ∈ ss, u.oneCell' = true) :
    OT P n (.call ⟨.builtin .copy, #[x, y], #[T, T2]⟩) ty fr w fun v' w' => v' = .int .i64 q ∧ Own w' B t (.slice (some ⟨g, 0, none⟩) dl dc) (ss ++ cs.drop q) ∧ w.grownBy w' (some g) := by
  subst hq
  have hlen := ho.len
  rcases ho.2 with ⟨h0, _⟩ | ⟨g', cap, cur, h0, hB, hg, hnc, hcm, hcs, ht⟩
  · cases h0
  cases h0
  have hfit : 0 + ss.length ≤ cur.size := by rw [hcs]; omega
  have hset : ∀ a, A = some a → ∀ a', Ag n fr a' → (execOp a'.eval ⟨none, .call ⟨.builtin .copy, #[x, y], #[T, T2]⟩, ty, "", #[], none⟩).run P w = .ok (.value (.int .i64 ss.length)) (w.setRow g (cur.toList.take 0 ++ ss ++ cur.toList.drop (0 + ss.length)).toArray) := by
    rintro a rfl a' ha
    have hrun := run_copy_row (P := P) w T T2 ty e g 0 cs.length dc a sl sc cur t ss hT hs hg hn (fun j u hu => by
      have hj := (List.getElem?_eq_some_iff.1 hu).1
      obtain ⟨b, off, e1, hc⟩ := hr (by omega)
      cases e1
      rw [addr_add, hc j hj]; exact hu) hfit h1
    simp [execOp, resolve, invoke, builtin, ha.ev hx, ha.ev hy, hrun, Result.andThen, goInt]
  cases A with
  | some a =>
    refine ot_of fun a' ha => ⟨_, _, hset a rfl a' ha, rfl, ⟨?_, .inr ⟨g, dc, _, by simp only [List.length_append, List.length_drop]; congr 1; omega, hB, setRow_heap w g cur _ t _ hg, ?_, hcm, ?_, ?_⟩⟩, grown_setRow w g _⟩
    · simp
    · simp only [List.length_append, List.length_drop]; omega
    · simp only [List.take_zero, List.nil_append, List.size_toArray, List.length_append, List.length_drop, Array.length_toList]; omega
    · simp only [List.take_zero, List.nil_append, Nat.zero_add, List.length_append, List.length_drop, Nat.mul_one]
      have ht' : cs = cur.toList.take cs.length := by simpa using ht.symm
      rw [List.take_append, List.take_of_length_le (by omega), show ss.length + (cs.length - ss.length) - ss.length = cs.length - ss.length by omega]
      congr 1
      rw [ht', List.drop_take, ← ht']
  | none =>
    have h0 : ss = [] := by
      cases ss with
      | nil => rfl
      | cons a r => obtain ⟨b, o, e1, _⟩ := hr (by simp); cases e1
    subst h0
    have hmin : Nat.min sl cs.length = 0 := by simpa using hn.symm
    obtain ⟨i, hi, hi1⟩ : ∃ i, P.info? e = some i ∧ i.size = 1 := by
      cases hq : P.info? e with
      | none => simp [hq] at hs
      | some i => exact ⟨i, rfl, by simpa [hq] using hs⟩
    refine ot_of fun a' ha => ⟨.int .i64 0, w, ?_, rfl, by simpa using ho, ⟨rfl, rfl, rfl, Nat.le_refl _, fun _ _ _ => rfl⟩⟩
    simp [execOp, resolve, invoke, builtin, ha.ev hx, ha.ev hy, Builtin.copy_, run_underlying hT, Builtin.lenOf, Builtin.firstCells, sizeOf, typeInfo, hi, hi1, hmin, Result.andThen, goInt, storeCells, loadCells, loadCellsFrom]
end
end Go.Proofs.Ytpojijnjdlnokaa
