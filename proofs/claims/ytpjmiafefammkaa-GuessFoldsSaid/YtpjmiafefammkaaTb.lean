/- Lists of structs that a call owns. No program in sight. -/
import Derived.Test.YtpjmiafefammkaaLs
import Derived.Test.YtpjmiafefammkaaRg
import Derived.Maps.AppendAt
namespace Go.Proofs.Ytpjmiafefammkaa
open Go.RowKit
set_option linter.unusedVariables false

/-- v is a list of the call's own, of parts of s cells each -/
def OwnP (w : World) (B : Nat) (t : TypeId) (s : Nat) (v : Value) (ps : List (List Value)) : Prop := (∀ c ∈ ps, c.length = s) ∧ w.ownsRow B t s v ps.length ps.flatten
section
variable {w w' : World} {B B' : Nat} {t : TypeId} {s : Nat} {v : Value} {ps : List (List Value)}
theorem OwnP.nil : OwnP w B t s (.slice none 0 0) [] := ⟨fun c hc => (by cases hc), World.ownsRow_nil w B _ s⟩
theorem OwnP.lt (h : OwnP w B t s v ps) : ∀ k, v.ownBlock = some k → B ≤ k ∧ k < w.heap.size := World.ownsRow.lt h.2
theorem OwnP.blk (h : OwnP w B t s v ps) {w'' : World} (hk : ∀ k, v.ownBlock = some k → w''.heap[k]? = w.heap[k]?) : OwnP w'' B t s v ps := by
  refine ⟨h.1, h.2.1, ?_⟩
  rcases h.2.2 with hn | ⟨g, cap, cur, rfl, hB0, hgg, rest⟩
  · exact .inl hn
  · exact .inr ⟨g, cap, cur, rfl, hB0, (hk g rfl).trans hgg, rest⟩
theorem OwnP.keepAll (h : OwnP w B t s v ps) (hb : Below w.heap.size w w') : OwnP w' B t s v ps := h.blk fun k hk => hb.block k (h.lt k hk).2
theorem OwnP.alloc (h : OwnP w B t s v ps) (o : Obj) : OwnP (w.alloc o) B t s v ps := h.keepAll ((Below.refl _ _).alloc (Nat.le_refl _) o)
theorem OwnP.led (h : OwnP w B t s v ps) (hb : LeD w w') : OwnP w' B t s v ps := by obtain ⟨q, rfl⟩ := hb; exact h
theorem OwnP.mono (h : OwnP w B t s v ps) (hb : B' ≤ B) : OwnP w B' t s v ps := by
  refine ⟨h.1, h.2.1, ?_⟩
  rcases h.2.2 with hn | ⟨g, cap, cur, rfl, hB0, rest⟩
  · exact .inl hn
  · exact .inr ⟨g, cap, cur, rfl, by omega, rest⟩
theorem OwnP.form (h : OwnP w B t s v ps) : ∃ A c, v = .slice A ps.length c ∧ ps.length ≤ c ∧ c ≤ maxLen ∧ RdP w s A ps := by
  have hl := h.2.1
  rcases h.2.2 with ⟨rfl, h0⟩ | ⟨g, cap, cur, rfl, hB0, hgg, hnc, hcm, hs, ht⟩
  · refine ⟨none, 0, by rw [h0], by omega, by simp [maxLen], fun i c hc => ?_⟩
    have := List.eq_nil_of_length_eq_zero h0
    subst this; simp at hc
  · refine ⟨_, cap, rfl, hnc, hcm, fun i c hc => ⟨g, 0, rfl, fun j u hu => ?_⟩⟩
    have hi := (List.getElem?_eq_some_iff.1 hc).1
    have hj := (List.getElem?_eq_some_iff.1 hu).1
    have hcl := h.1 c (List.mem_of_getElem? hc)
    have hij : i * s + j < ps.length * s := by
      have : (i + 1) * s ≤ ps.length * s := Nat.mul_le_mul_right _ hi
      rw [Nat.add_mul, Nat.one_mul] at this
      omega
    rw [cell_of_row _ g (0 + i * s + j) cur t (0, 0) hgg, Nat.zero_add]
    have hcur : cur.toList[i * s + j]? = some u := by
      have e : (cur.toList.take (ps.length * s))[i * s + j]? = some u := by rw [ht, flat_at ps i j c h.1 hc (by omega)]; exact hu
      rw [List.getElem?_take, if_pos hij] at e
      exact e
    rw [← Array.getElem?_toList]; exact hcur
theorem Nc.ownP {Z : Nat} (h : Nc Z w w') (ho : OwnP w B t s v ps) : OwnP w' B t s v ps := by
  refine ⟨ho.1, ho.2.1, ?_⟩
  rcases ho.2.2 with hn | ⟨g, cap, cur, rfl, hB0, hgg, rest⟩
  · exact .inl hn
  · exact .inr ⟨g, cap, cur, rfl, hB0, h.block _ _ hgg (.inr rfl), rest⟩
theorem OwnP.below {w0 : World} (hb : Below B w0 w) (ho : OwnP w B' t s v ps) (hg : w.grownBy w' v.ownBlock) (hB : B ≤ B') (hs : B ≤ w.heap.size) : Below B w0 w' := hb.grown hg hs (fun k hk => Nat.le_trans hB (ho.lt k hk).1)
end
section
variable {P : Program} {n : Cx} {fr : Fr} {w w' : World} {ty : TypeId} {x y z : Operand} {v u : Value} {T T2 e : TypeId} {op : Op}
/-- append(s, x...) of structs, and where the result's row lies -/
theorem ot_append_p {A : Option Addr} {m c s : Nat} {ps news : List (List Value)} {z0 : Value} {bytes : Nat} {B : Nat} (hT : P.underlying T = some (.slice e)) (hi : TyInfo P e z0 s bytes) (hz : z0.cells.size = s) (hs0 : 0 < s) (hx : Fr.ev fr x = some v) (hy : Fr.ev fr y = some (.slice A m c))
    (ho : OwnP w B e s v ps) (hr : RdP w s A news) (hnl : ∀ c ∈ news, c.length = s) (hm : m = news.length) (h0 : 0 < news.length) (h1 : ∀ c ∈ news, ∀ u ∈ c, u.oneCell' = true) (hb : (ps.length + m) * bytes ≤ 140737488355328) (hl : ps.length + m ≤ maxLen) (hB : B ≤ w.heap.size) :
    OT P n (.call ⟨.builtin .append, #[x, y], #[T, T]⟩) ty fr w fun v' w' => OwnP w' B e s v' (ps ++ news) ∧ w.grownBy w' v.ownBlock ∧ (v'.ownBlock = v.ownBlock ∨ v'.ownBlock = some w.heap.size) := by
  obtain ⟨i, i1, i2, i3, i4⟩ := info_parts hi
  obtain ⟨b, o, rfl, _⟩ := hr 0 _ (List.getElem?_eq_getElem h0)
  obtain ⟨v', w', hrun, ho', hg, _, hown⟩ := run_append_own_at (P := P) w B T ty e i z0 s bytes hT i1 i2 i3 i4 hz hs0 v ps.length ps.flatten ho.2 ⟨b, o, none⟩ m c news.flatten (by rw [flat_len news hnl, hm])
    (fun j u hu => by
      have hj := (List.getElem?_eq_some_iff.1 hu).1
      rw [flat_len news hnl] at hj
      have e1 := Nat.div_add_mod j s
      have e2 := Nat.mod_lt j hs0
      have hi' : j / s < news.length := Nat.div_lt_of_lt_mul (by rw [Nat.mul_comm]; exact hj)
      have hc : news[j / s]? = some news[j / s] := List.getElem?_eq_getElem hi'
      have hu' : (news[j / s])[j % s]? = some u := by
        rw [← flat_at news (j / s) (j % s) _ hnl hc e2, show j / s * s + j % s = j by rw [Nat.mul_comm]; exact e1]; exact hu
      obtain ⟨b', o', e3, hcell⟩ := hr (j / s) _ hc
      cases e3
      have := hcell (j % s) u hu'
      rw [addr_add]
      rwa [show o + j / s * s + j % s = o + j by rw [Nat.add_assoc, Nat.mul_comm (j / s)]; omega] at this) (fun u hu => by
      obtain ⟨c, hc, hu⟩ := List.mem_flatten.1 hu
      exact h1 c hc u hu) hl hb hB
  refine ot_of fun a ha => ⟨v', w', by simp [execOp, resolve, invoke, builtin, ha.ev hx, ha.ev hy, hrun, Result.andThen], ⟨fun c hc => ?_, ?_⟩, hg, hown⟩
  · rcases List.mem_append.1 hc with h | h
    · exact ho.1 c h
    · exact hnl c h
  · rw [List.length_append, ← hm, List.flatten_append]
    exact ho'
end
end Go.Proofs.Ytpjmiafefammkaa
