/- Texts joined: Tb CrcP V32 Crc Tw. -/
import Derived.Test.YtpojijnjdlnokaaM6
import Derived.Maps.AppendAt
import Derived.Laws.StructEq
/- Lists of structs that a call owns. No program in sight. -/
namespace Go.Proofs.Ytpojijnjdlnokaa
open Go.RowKit
set_option linter.unusedVariables false

/-- v is a list of the call's own, of parts of s cells each -/
def OwnP (w : World) (B : Nat) (t : TypeId) (s : Nat) (v : Value) (ps : List (List Value)) : Prop := (∀ c ∈ ps, c.length = s) ∧ w.ownsRow B t s v ps.length ps.flatten
section
variable {w w' : World} {B B' : Nat} {t : TypeId} {s : Nat} {v : Value} {ps : List (List Value)}
theorem OwnP.nil : OwnP w B t s (.slice none 0 0) [] := ⟨fun c hc => (by cases hc), World.ownsRow_nil w B _ s⟩
theorem OwnP.lt (h : OwnP w B t s v ps) : ∀ k, v.ownBlock = some k → B ≤ k ∧ k < w.heap.size := World.ownsRow.lt h.2
theorem OwnP.blk (h : OwnP w B t s v ps) {w'' : World} (hk : ∀ k, v.ownBlock = some k → w''.heap[k]? = w.heap[k]?) : OwnP w'' B t s v ps := by
  refine ⟨h.1, h.2.1, ?_⟩
  rcases h.2.2 with hn | ⟨g, cap, cur, rfl, hB0, hgg, rest⟩
  · exact .inl hn
  · exact .inr ⟨g, cap, cur, rfl, hB0, (hk g rfl).trans hgg, rest⟩
theorem OwnP.keepAll (h : OwnP w B t s v ps) (hb : Below w.heap.size w w') : OwnP w' B t s v ps := h.blk fun k hk => hb.block k (h.lt k hk).2
theorem OwnP.alloc (h : OwnP w B t s v ps) (o : Obj) : OwnP (w.alloc o) B t s v ps := h.keepAll ((Below.refl _ _).alloc (Nat.le_refl _) o)
theorem OwnP.led (h : OwnP w B t s v ps) (hb : LeD w w') : OwnP w' B t s v ps := by obtain ⟨q, rfl⟩ := hb; exact h
theorem OwnP.mono (h : OwnP w B t s v ps) (hb : B' ≤ B) : OwnP w B' t s v ps := by
  refine ⟨h.1, h.2.1, ?_⟩
  rcases h.2.2 with hn | ⟨g, cap, cur, rfl, hB0, rest⟩
  · exact .inl hn
  · exact .inr ⟨g, cap, cur, rfl, by omega, rest⟩
theorem OwnP.form (h : OwnP w B t s v ps) : ∃ A c, v = .slice A ps.length c ∧ ps.length ≤ c ∧ c ≤ maxLen ∧ RdP w s A ps := by
  have hl := h.2.1
  rcases h.2.2 with ⟨rfl, h0⟩ | ⟨g, cap, cur, rfl, hB0, hgg, hnc, hcm, hs, ht⟩
  · refine ⟨none, 0, by rw [h0], by omega, by simp [maxLen], fun i c hc => ?_⟩
    have := List.eq_nil_of_length_eq_zero h0
    subst this; simp at hc
  · refine ⟨_, cap, rfl, hnc, hcm, fun i c hc => ⟨g, 0, rfl, fun j u hu => ?_⟩⟩
    have hi := (List.getElem?_eq_some_iff.1 hc).1
    have hj := (List.getElem?_eq_some_iff.1 hu).1
    have hcl := h.1 c (List.mem_of_getElem? hc)
    have hij : i * s + j < ps.length * s := by
      have : (i + 1) * s ≤ ps.length * s := Nat.mul_le_mul_right _ hi
      rw [Nat.add_mul, Nat.one_mul] at this
      omega
    rw [cell_of_row _ g (0 + i * s + j) cur t (0, 0) hgg, Nat.zero_add]
    have hcur : cur.toList[i * s + j]? = some u := by
      have e : (cur.toList.take (ps.length * s))[i * s + j]? = some u := by rw [ht, flat_at ps i j c h.1 hc (by omega)]; exact hu
      rw [List.getElem?_take, if_pos hij] at e
      exact e
    rw [← Array.getElem?_toList]; exact hcur
theorem Nc.ownP {Z : Nat} (h : Nc Z w w') (ho : OwnP w B t s v ps) : OwnP w' B t s v ps := by
  refine ⟨ho.1, ho.2.1, ?_⟩
  rcases ho.2.2 with hn | ⟨g, cap, cur, rfl, hB0, hgg, rest⟩
  · exact .inl hn
  · exact .inr ⟨g, cap, cur, rfl, hB0, h.block _ _ hgg (.inr rfl), rest⟩
theorem OwnP.below {w0 : World} (hb : Below B w0 w) (ho : OwnP w B' t s v ps) (hg : w.grownBy w' v.ownBlock) (hB : B ≤ B') (hs : B ≤ w.heap.size) : Below B w0 w' := hb.grown hg hs (fun k hk => Nat.le_trans hB (ho.lt k hk).1)
end
section
variable {P : Program} {n : Cx} {fr : Fr} {w w' : World} {ty : TypeId} {x y z : Operand} {v u : Value} {T T2 e : TypeId} {op : Op}
/-- append(s, x...) of structs, and where the result's row lies -/
theorem ot_append_p {A : Option Addr} {m c s : Nat} {ps news : List (List Value)} {z0 : Value} {bytes : Nat} {B : Nat} (hT : P.underlying T = some (.slice e)) (hi : TyInfo P e z0 s bytes) (hz : z0.cells.size = s) (hs0 : 0 < s) (hx : Fr.ev fr x = some v) (hy : Fr.ev fr y = some (.slice A m c))
    (ho : OwnP w B e s v ps) (hr : RdP w s A news) (hnl : ∀ c ∈ news, c.length = s) (hm : m = news.length) (h0 : 0 < news.length) (h1 : ∀ c ∈ news, ∀ u ∈ c, u.oneCell' = true) (hb : (ps.length + m) * bytes ≤ 140737488355328) (hl : ps.length + m ≤ maxLen) (hB : B ≤ w.heap.size) :
    OT P n (.call ⟨.builtin .append, #[x, y], #[T, T]⟩) ty fr w fun v' w' => OwnP w' B e s v' (ps ++ news) ∧ w.grownBy w' v.ownBlock ∧ (v'.ownBlock = v.ownBlock ∨ v'.ownBlock = some w.heap.size) := by
  obtain ⟨i, i1, i2, i3, i4⟩ := info_parts hi
  obtain ⟨b, o, rfl, _⟩ := hr 0 _ (List.getElem?_eq_getElem h0)
  obtain ⟨v', w', hrun, ho', hg, _, hown⟩ := run_append_own_at (P := P) w B T ty e i z0 s bytes hT i1 i2 i3 i4 hz hs0 v ps.length ps.flatten ho.2 ⟨b, o, none⟩ m c news.flatten (by rw [flat_len news hnl, hm])
    (fun j u hu => by
      have hj := (List.getElem?_eq_some_iff.1 hu).1
      rw [flat_len news hnl] at hj
      have e1 := Nat.div_add_mod j s
      have e2 := Nat.mod_lt j hs0
      have hi' : j / s < news.length := Nat.div_lt_of_lt_mul (by rw [Nat.mul_comm]; exact hj)
      have hc : news[j / s]? = some news[j / s] := List.getElem?_eq_getElem hi'
      have hu' : (news[j / s])[j % s]? = some u := by
        rw [← flat_at news (j / s) (j % s) _ hnl hc e2, show j / s * s + j % s = j by rw [Nat.mul_comm]; exact e1]; exact hu
      obtain ⟨b', o', e3, hcell⟩ := hr (j / s) _ hc
      cases e3
      have := hcell (j % s) u hu'
      rw [addr_add]
      rwa [show o + j / s * s + j % s = o + j by rw [Nat.add_assoc, Nat.mul_comm (j / s)]; omega] at this) (fun u hu => by
      obtain ⟨c, hc, hu⟩ := List.mem_flatten.1 hu
      exact h1 c hc u hu) hl hb hB
  refine ot_of fun a ha => ⟨v', w', by simp [execOp, resolve, invoke, builtin, ha.ev hx, ha.ev hy, hrun, Result.andThen], ⟨fun c hc => ?_, ?_⟩, hg, hown⟩
  · rcases List.mem_append.1 hc with h | h
    · exact ho.1 c h
    · exact hnl c h
  · rw [List.length_append, ← hm, List.flatten_append]
    exact ho'
end
end Go.Proofs.Ytpojijnjdlnokaa

/- Layer 7, plain: the sums as functions on bits; they are linear. No program in sight. -/
namespace Go.Proofs.Ytpojijnjdlnokaa
open Go.RowKit

def crcPoly : BitVec 32 := 0xEDB88320#32
def crcRnd (s : BitVec 32) : BitVec 32 := (s >>> 1) ^^^ (crcPoly &&& -(s &&& 1#32))
def crcRnds : Nat → BitVec 32 → BitVec 32
  | 0, s => s
  | k + 1, s => crcRnd (crcRnds k s)
def crcTab (n : Nat) : BitVec 32 := crcRnds 8 (BitVec.ofNat 32 n)
def crcStep (s : BitVec 32) (z : Int) : BitVec 32 := (s >>> 8) ^^^ crcTab (s.setWidth 8 ^^^ BitVec.ofInt 8 z).toNat
def crcRun (s : BitVec 32) (zs : List Int) : BitVec 32 := zs.foldl crcStep s
def crcGo (s : BitVec 32) (zs : List Int) : BitVec 32 := ~~~ crcRun (~~~ s) zs
def crcOf (parts : List (List Int)) : BitVec 32 := ~~~ parts.foldl crcRun (~~~ 0#32)

theorem crc_neg (s : BitVec 32) : -(s &&& 1#32) = if s.getLsbD 0 then BitVec.allOnes 32 else 0#32 := by
  have h : s &&& 1#32 = if s.getLsbD 0 then 1#32 else 0#32 := by
    apply BitVec.eq_of_getLsbD_eq
    intro i hi
    by_cases h0 : i = 0
    · subst h0
      cases hs : s.getLsbD 0 <;> simp at hs ⊢ <;> simp [hs]
    · have h1 : (1#32).getLsbD i = false := by simp [BitVec.getLsbD_one, h0]
      simp only [BitVec.getLsbD_and, h1, Bool.and_false]
      split <;> simp [h1]
  rw [h]
  split <;> decide
theorem crcRnd_eq (s : BitVec 32) : crcRnd s = (s >>> 1) ^^^ (if s.getLsbD 0 then crcPoly else 0#32) := by
  unfold crcRnd
  rw [crc_neg]
  split
  · rw [show crcPoly &&& BitVec.allOnes 32 = crcPoly from by decide]
  · rw [show crcPoly &&& 0#32 = 0#32 from by decide]
theorem xor_lc (a b c : BitVec 32) : a ^^^ (b ^^^ c) = b ^^^ (a ^^^ c) := by rw [← BitVec.xor_assoc, BitVec.xor_comm a b, BitVec.xor_assoc]
theorem xor_cc (a b : BitVec 32) : a ^^^ (a ^^^ b) = b := by rw [← BitVec.xor_assoc]; simp
theorem crcRnd_xor (a b : BitVec 32) : crcRnd (a ^^^ b) = crcRnd a ^^^ crcRnd b := by
  rw [crcRnd_eq, crcRnd_eq, crcRnd_eq, BitVec.ushiftRight_xor_distrib, BitVec.getLsbD_xor]
  generalize a >>> 1 = x
  generalize b >>> 1 = y
  cases a.getLsbD 0 <;> cases b.getLsbD 0 <;> simp [BitVec.xor_assoc]
  · rw [BitVec.xor_comm]
  · rw [BitVec.xor_comm y, xor_cc]
theorem crcRnds_xor (k : Nat) (a b : BitVec 32) : crcRnds k (a ^^^ b) = crcRnds k a ^^^ crcRnds k b := by
  induction k with
  | zero => rfl
  | succ k ih => simp only [crcRnds, ih, crcRnd_xor]
theorem crcRnds_zero (k : Nat) : crcRnds k 0#32 = 0#32 := by
  induction k with
  | zero => rfl
  | succ k ih => simp only [crcRnds, ih]; decide
/-- rounds that take out noughts shift -/
theorem crcRnds_shift (k : Nat) : ∀ s : BitVec 32, (∀ i, i < k → s.getLsbD i = false) → crcRnds k s = s >>> k := by
  induction k with
  | zero => intro s _; simp [crcRnds]
  | succ k ih =>
    intro s h
    simp only [crcRnds]
    rw [ih s (fun i hi => h i (by omega)), crcRnd_eq]
    have : (s >>> k).getLsbD 0 = false := by simpa using h k (by omega)
    rw [this]
    simp [← BitVec.shiftRight_add]
theorem crcStep_rnds (s : BitVec 32) (z : Int) : crcStep s z = crcRnds 8 (s ^^^ BitVec.setWidth 32 (BitVec.ofInt 8 z)) := by
  have h : s ^^^ BitVec.setWidth 32 (BitVec.ofInt 8 z) = ((s >>> 8) <<< 8) ^^^ BitVec.setWidth 32 (s.setWidth 8 ^^^ BitVec.ofInt 8 z) := by
    apply BitVec.eq_of_getLsbD_eq
    intro i hi
    simp only [BitVec.getLsbD_xor, BitVec.getLsbD_setWidth, BitVec.getLsbD_shiftLeft, BitVec.getLsbD_ushiftRight, hi, decide_true, Bool.true_and]
    by_cases h8 : i < 8
    · simp [h8]
    · simp [h8, show 8 + (i - 8) = i by omega]
  rw [h, crcRnds_xor, crcRnds_shift 8 _ (fun i hi => by simp [hi])]
  unfold crcStep crcTab
  congr 1
  · apply BitVec.eq_of_getLsbD_eq
    intro i hi
    simp only [BitVec.getLsbD_ushiftRight, BitVec.getLsbD_shiftLeft]
    by_cases h1 : 8 + i < 32
    · simp [h1]
    · simp [h1]; exact BitVec.getLsbD_of_ge _ _ (by omega)
  · congr 1
    apply BitVec.eq_of_toNat_eq
    simp [BitVec.toNat_setWidth, BitVec.toNat_ofNat]
theorem crcStep_xor (a b : BitVec 32) (x y z : Int) (h : BitVec.ofInt 8 z = BitVec.ofInt 8 x ^^^ BitVec.ofInt 8 y) : crcStep (a ^^^ b) z = crcStep a x ^^^ crcStep b y := by
  rw [crcStep_rnds, crcStep_rnds, crcStep_rnds, ← crcRnds_xor, h]
  congr 1
  rw [BitVec.setWidth_xor]
  generalize BitVec.setWidth 32 (BitVec.ofInt 8 x) = u
  generalize BitVec.setWidth 32 (BitVec.ofInt 8 y) = v
  rw [BitVec.xor_assoc, BitVec.xor_assoc, xor_lc b u v]
theorem crcRun_xor : ∀ (xs ys zs : List Int) (a b : BitVec 32), xs.length = ys.length → zs.length = xs.length → (∀ i, i < xs.length → BitVec.ofInt 8 (zs.getD i 0) = BitVec.ofInt 8 (xs.getD i 0) ^^^ BitVec.ofInt 8 (ys.getD i 0)) →
    crcRun (a ^^^ b) zs = crcRun a xs ^^^ crcRun b ys
  | [], ys, zs, a, b, h1, h2, _ => by
    have e1 : ys = [] := List.eq_nil_of_length_eq_zero (by simpa using h1.symm)
    have e2 : zs = [] := List.eq_nil_of_length_eq_zero (by simpa using h2)
    subst e1; subst e2; rfl
  | x :: xs, [], zs, a, b, h1, _, _ => by simp at h1
  | x :: xs, y :: ys, [], a, b, _, h2, _ => by simp at h2
  | x :: xs, y :: ys, z :: zs, a, b, h1, h2, h => by
    have h0 := h 0 (by simp)
    simp at h0
    have ih := crcRun_xor xs ys zs (crcStep a x) (crcStep b y) (by simpa using h1) (by simpa using h2) fun i hi => by have := h (i + 1) (by simpa using hi); simpa using this
    show crcRun (crcStep (a ^^^ b) z) zs = crcRun (crcStep a x) xs ^^^ crcRun (crcStep b y) ys
    rw [crcStep_xor a b x y z h0, ih]
theorem crcRun_app (s : BitVec 32) (a b : List Int) : crcRun s (a ++ b) = crcRun (crcRun s a) b := by simp [crcRun]
theorem crcOf_one (a : List Int) : crcOf [a] = crcGo 0#32 a := rfl
/-- the law's sums -/
theorem crcOf_parts (xs : List Int) {lo hi : Nat} (h : lo ≤ hi) : crcOf [xs.take lo, (xs.drop lo).take (hi - lo), [], xs.drop hi] = crcOf [xs] := by
  unfold crcOf
  simp only [List.foldl_cons, List.foldl_nil]
  rw [← crcRun_app, ← crcRun_app, ← crcRun_app]
  have : xs.take lo ++ ((xs.drop lo).take (hi - lo) ++ ([] ++ xs.drop hi)) = xs := by
    rw [List.nil_append]
    have h2 : (xs.drop lo).take (hi - lo) ++ xs.drop hi = xs.drop lo := by
      have : xs.drop hi = (xs.drop lo).drop (hi - lo) := by rw [List.drop_drop]; congr 1; omega
      rw [this, List.take_append_drop]
    rw [h2, List.take_append_drop]
  rw [this]
theorem crcGo_parts (xs : List Int) (lo : Nat) : crcGo (crcOf [xs.take lo]) (xs.drop lo) = crcOf [xs] := by
  unfold crcGo crcOf
  simp only [List.foldl_cons, List.foldl_nil]
  rw [BitVec.not_not, ← crcRun_app, List.take_append_drop]
theorem not_xor (a b : BitVec 32) : ~~~ a ^^^ ~~~ b = a ^^^ b := by
  apply BitVec.eq_of_getLsbD_eq
  intro i hi
  simp [hi]
theorem crcOf_diff (xs ys ds zs : List Int) (h1 : xs.length = ys.length) (h2 : ds.length = xs.length) (h3 : zs.length = xs.length) (hd : ∀ i, i < xs.length → BitVec.ofInt 8 (ds.getD i 0) = BitVec.ofInt 8 (xs.getD i 0) ^^^ BitVec.ofInt 8 (ys.getD i 0))
    (hz : ∀ i, i < xs.length → zs.getD i 0 = 0) : crcOf [xs] ^^^ crcOf [ys] = crcOf [ds] ^^^ crcOf [zs] := by
  unfold crcOf
  simp only [List.foldl_cons, List.foldl_nil]
  rw [not_xor, not_xor, ← crcRun_xor xs ys ds _ _ h1 h2 hd, ← crcRun_xor ds zs ds _ _ (by omega) rfl fun i hi => by rw [hz i (by omega)]; simp]
end Go.Proofs.Ytpojijnjdlnokaa

/- The rules of operations on 32 bits and on bytes, as functions on bits. No program in sight. -/
namespace Go.Proofs.Ytpojijnjdlnokaa
open Go.RowKit
set_option linter.unusedVariables false

theorem u32_of (x : BitVec 32) : BitVec.ofInt 32 (x.toNat : Int) = x := by rw [BitVec.ofInt_natCast]; simp
theorem u32_fit (x : BitVec 32) : IntKind.u32.wrap (x.toNat : Int) = x.toNat := by rw [IntKind.wrap_u32]; have := x.isLt; omega
theorem u8_of (x : BitVec 8) : BitVec.ofInt 8 (x.toNat : Int) = x := by rw [BitVec.ofInt_natCast]; simp
theorem u8_fit (x : BitVec 8) : IntKind.u8.wrap (x.toNat : Int) = x.toNat := by rw [IntKind.wrap_u8]; have := x.isLt; omega
theorem u8_int {z : Int} (h0 : 0 ≤ z) (h1 : z ≤ 255) : ((BitVec.ofInt 8 z).toNat : Int) = z := by
  rw [BitVec.toNat_ofInt]; simp; omega
theorem u32_int {z : Int} (h0 : 0 ≤ z) (h1 : z ≤ 4294967295) : ((BitVec.ofInt 32 z).toNat : Int) = z := by
  rw [BitVec.toNat_ofInt]; simp; omega

section
variable {P : Program} {n : Cx} {fr : Fr} {w : World} {ty : TypeId} {x y z : Operand} {m p : Int} {T T2 : TypeId} {k2 : IntKind}
theorem os_xor32 (a b : BitVec 32) (hx : Fr.ev fr x = some (.int .u32 m)) (hm : m = (a.toNat : Int)) (hy : Fr.ev fr y = some (.int .u32 p)) (hp : p = (b.toNat : Int)) : OS P n (.binOp .xor T x y T2) ty fr w (.int .u32 ((a ^^^ b).toNat : Int)) w :=
  os_xor hx hy (by subst hm; subst hp; show IntKind.u32.wrap ((BitVec.ofInt 32 _ ^^^ BitVec.ofInt 32 _).toNat : Nat) = _; rw [u32_of, u32_of]; exact u32_fit _)
theorem os_and32 (a b : BitVec 32) (hx : Fr.ev fr x = some (.int .u32 m)) (hm : m = (a.toNat : Int)) (hy : Fr.ev fr y = some (.int .u32 p)) (hp : p = (b.toNat : Int)) : OS P n (.binOp .and T x y T2) ty fr w (.int .u32 ((a &&& b).toNat : Int)) w :=
  os_and hx hy (by subst hm; subst hp; show IntKind.u32.wrap ((BitVec.ofInt 32 _ &&& BitVec.ofInt 32 _).toNat : Nat) = _; rw [u32_of, u32_of]; exact u32_fit _)
theorem os_shr32 (a : BitVec 32) (s : Nat) (hx : Fr.ev fr x = some (.int .u32 m)) (hm : m = (a.toNat : Int)) (hy : Fr.ev fr y = some (.int k2 p)) (hp : p = (s : Int)) : OS P n (.binOp .shr T x y T2) ty fr w (.int .u32 ((a >>> s).toNat : Int)) w :=
  os_shr hx hy (by omega) (by
    subst hm; subst hp
    show (a.toNat : Int).fdiv (2 ^ min ((s : Int)).toNat 32) = _
    have e : ((s : Int)).toNat = s := by omega
    rw [e, BitVec.toNat_ushiftRight, Nat.shiftRight_eq_div_pow, Int.fdiv_eq_ediv_of_nonneg _ (by exact_mod_cast Nat.zero_le _)]
    by_cases h : s ≤ 32
    · rw [Nat.min_eq_left h]; simp
    · rw [Nat.min_eq_right (by omega)]
      have h1 : a.toNat / 2 ^ s = 0 := Nat.div_eq_of_lt (Nat.lt_of_lt_of_le a.isLt (Nat.pow_le_pow_right (by omega) (by omega)))
      have h2 : a.toNat / 2 ^ 32 = 0 := Nat.div_eq_of_lt a.isLt
      rw [h1]
      have : ((a.toNat : Int) / 2 ^ 32) = ((a.toNat / 2 ^ 32 : Nat) : Int) := by simp
      rw [this, h2])
theorem os_neg32 (a : BitVec 32) (hx : Fr.ev fr x = some (.int .u32 m)) (hm : m = (a.toNat : Int)) : OS P n (.unOp .neg T x) ty fr w (.int .u32 ((-a).toNat : Int)) w :=
  os_neg hx (by subst hm; rw [IntKind.wrap_u32, BitVec.toNat_neg]; have := a.isLt; simp; omega)
theorem os_com32 (a : BitVec 32) (hx : Fr.ev fr x = some (.int .u32 m)) (hm : m = (a.toNat : Int)) : OS P n (.unOp .xor T x) ty fr w (.int .u32 ((~~~ a).toNat : Int)) w :=
  os_com hx (by
    subst hm
    show IntKind.u32.wrap ((BitVec.ofInt 32 4294967295 ^^^ BitVec.ofInt 32 _).toNat : Nat) = _
    rw [u32_of, show BitVec.ofInt 32 4294967295 = BitVec.allOnes 32 from by decide, BitVec.allOnes_xor]; exact u32_fit _)
theorem os_xor8 (a b : BitVec 8) (hx : Fr.ev fr x = some (.int .u8 m)) (hm : m = (a.toNat : Int)) (hy : Fr.ev fr y = some (.int .u8 p)) (hp : p = (b.toNat : Int)) : OS P n (.binOp .xor T x y T2) ty fr w (.int .u8 ((a ^^^ b).toNat : Int)) w :=
  os_xor hx hy (by subst hm; subst hp; show IntKind.u8.wrap ((BitVec.ofInt 8 _ ^^^ BitVec.ofInt 8 _).toNat : Nat) = _; rw [u8_of, u8_of]; exact u8_fit _)
/-- a byte of 32 bits -/
theorem os_low8 (a : BitVec 32) (h1 : P.underlying T = some (.int .u32)) (h2 : P.underlying T2 = some (.int .u8)) (hx : Fr.ev fr x = some (.int .u32 m)) (hm : m = (a.toNat : Int)) : OS P n (.convert T T2 x) ty fr w (.int .u8 ((a.setWidth 8).toNat : Int)) w :=
  os_conv h1 h2 hx (by subst hm; rw [IntKind.wrap_u8, BitVec.toNat_setWidth]; simp)
end
end Go.Proofs.Ytpojijnjdlnokaa

/- Layer 7: the contracts of the program's sums. -/
namespace Go.Proofs.Ytpojijnjdlnokaa
open Go.RowKit
set_option linter.unusedVariables false

section
variable {P : Program} {n : Cx} {fr : Fr} {w : World} {ty : TypeId} {x y : Operand} {m : Int} {T e : TypeId} {k : IntKind} {v : Value}
theorem os_ixa {g i l : Nat} (hT : P.underlying T = some (.array l e)) (hs : ∀ w, (sizeOf e).run P w = .ok 1 w) (hx : Fr.ev fr x = some (.pointer (some ⟨g, 0, none⟩))) (hy : Fr.ev fr y = some (.int k m)) (hm : m = (i : Int)) (h : i < l) : OS P n (.indexAddr T x y) ty fr w (.pointer (some ⟨g, 0 + i, none⟩)) w := by
  subst hm
  exact os_of fun a ha => by simp [execOp, ha.ev hx, ha.ev hy, Instr.indexAt, asIntOf, run_underlying hT, Instr.sureAddr, h, hs, addr_add]
theorem os_allocB {zc : Array Value} {cs : List Value} (hz : ∀ w, (zeroValue T).run P w = .ok (.agg zc) w) (he : zc = cs.toArray) : OS P n (.alloc T) ty fr w (.pointer (some ⟨w.heap.size, 0, none⟩)) (w.alloc (.cells cs.toArray T)) := by
  subst he
  exact os_alloc hz
end

section
variable {P : Program} {n : Cx} {fr : Fr} {w : World} {fn : Func} {U : Value → World → Prop} {t g : Nat} {T e : TypeId} {cs : List Value} {d : TypeDesc}
/-- a named result that lies in memory -/
theorem post_cell (hf : fn.results = #[.cell t T]) (hg : Fr.get fr t = some (.pointer (some ⟨g, 0, none⟩))) (hu : P.underlying T = some d) (hd : (match d with | .struct _ | .array _ _ => true | _ => false) = true) (hs : (P.info? T).map (·.size) = some cs.length) (hB : Bk w g cs e) (h : U (.agg cs.toArray) w) : Post P n fn U .ret fr w := by
  unfold Post
  refine ⟨_, fun a ha => ?_, h⟩
  have := run_loadVar_row (P := P) w g e T cs.toArray (0, 0) d hB hu hd (by simpa using hs)
  have h1 : a.tmps.getD t undef = .pointer (some ⟨g, 0, none⟩) := by simp [Array.getD_eq_getD_getElem?, ha.at_ t _ hg]
  simp only [Array.getD_eq_getD_getElem?] at h1
  simp [results, hf, h1, asAddr, this]
end

/-- lists of lists -/
def RdS (w : World) (k : IntKind) (A : Option Addr) (ls : List (List Int)) : Prop :=
  0 < ls.length → ∃ b off, A = some ⟨b, off, none⟩ ∧ ∀ i, i < ls.length → ∃ Ai ci, w.cell? ⟨b, off + i, none⟩ = some (.slice Ai (ls.getD i []).length ci) ∧ Rd w k Ai (ls.getD i []) ∧ (ls.getD i []).length ≤ ci ∧ (ls.getD i []).length ≤ 140737488351232
theorem RdS.nil {w k A} : RdS w k A [] := fun h => absurd h (by simp)
theorem RdS.at_ {w k A ls} (h : RdS w k A ls) {i : Nat} (hi : i < ls.length) : ∃ b off Ai ci, A = some ⟨b, off, none⟩ ∧ w.cell? ⟨b, off + i, none⟩ = some (.slice Ai (ls.getD i []).length ci) ∧ Rd w k Ai (ls.getD i []) ∧ (ls.getD i []).length ≤ ci ∧ (ls.getD i []).length ≤ 140737488351232 := by
  obtain ⟨b, off, e, hc⟩ := h (by omega)
  obtain ⟨Ai, ci, h1⟩ := hc i hi
  exact ⟨b, off, Ai, ci, e, h1⟩
theorem RdS.keep {w w' : World} {k A ls} (h : RdS w k A ls) (hb : Below w.heap.size w w') : RdS w' k A ls := by
  intro hl
  obtain ⟨b, off, e, hc⟩ := h hl
  refine ⟨b, off, e, fun i hi => ?_⟩
  obtain ⟨Ai, ci, h1, h2, h3, h4⟩ := hc i hi
  have := World.block_lt_of_cell? w ⟨b, off + i, none⟩ h1
  exact ⟨Ai, ci, (hb.cell (p := ⟨b, off + i, none⟩) this).trans h1, h2.keep hb, h3, h4⟩
theorem RdS.led {w w' : World} {k A ls} (h : RdS w k A ls) (hb : LeD w w') : RdS w' k A ls := by obtain ⟨q, rfl⟩ := hb; exact h

def crcCellsTo (k : Nat) : List Value := (List.range 256).map fun n => if n < k then .int .u32 ((crcTab n).toNat : Int) else .int .u32 0
def crcCells : List Value := crcCellsTo 256
theorem crcCellsTo_len (k : Nat) : (crcCellsTo k).length = 256 := by simp [crcCellsTo]
theorem crcCellsTo_set (k : Nat) (hk : k < 256) : (crcCellsTo k).set k (.int .u32 ((crcTab k).toNat : Int)) = crcCellsTo (k + 1) := by
  apply List.ext_getElem
  · simp [crcCellsTo]
  · intro i h1 h2
    rw [List.getElem_set]
    simp only [crcCellsTo, List.getElem_map, List.getElem_range]
    by_cases h : k = i
    · subst h; simp
    · rw [if_neg h]
      by_cases h3 : i < k
      · rw [if_pos h3, if_pos (by omega)]
      · rw [if_neg h3, if_neg (by omega)]
theorem crcCells_at {i : Nat} (hi : i < 256) : nthV crcCells i = some (.int .u32 ((crcTab i).toNat : Int)) := by
  rw [nthV_eq]
  simp [crcCells, crcCellsTo, hi]
theorem crcCellsTo_some (k : Nat) {i : Nat} (hi : i < 256) : ∃ v, nthV (crcCellsTo k) i = some v := by
  rw [nthV_eq]
  exact ⟨_, List.getElem?_eq_getElem (by rw [crcCellsTo_len]; exact hi)⟩
theorem crcCells_one : oneCells crcCells = true := by
  have : ∀ l : List Value, (∀ v ∈ l, v.oneCell' = true) → oneCells l = true := by
    intro l
    induction l with
    | nil => intro _; rfl
    | cons v r ih => intro h; simp only [oneCells, Bool.and_eq_true]; exact ⟨h v (by simp), ih fun u hu => h u (by simp [hu])⟩
  refine this _ fun v hv => ?_
  simp only [crcCells, crcCellsTo, List.mem_map] at hv
  obtain ⟨n, _, rfl⟩ := hv
  split <;> rfl
theorem zc_table : Try.zeroCells231 = (crcCellsTo 0).toArray := by kernel_rfl

set_option maxHeartbeats 1000000 in
theorem sum_filled (w : World) : Gives Try.prog 172 #[] w fun v w' => v = .agg crcCells.toArray ∧ Below w.heap.size w w' := by
  have hb0 : Below w.heap.size w (w.alloc (.cells (crcCellsTo 0).toArray 231)) := (Below.refl _ w).alloc (Nat.le_refl _) _
  have hB0 := bk_new w (crcCellsTo 0) 231
  refine gives_enter Try.call172 Try.func172 rfl rfl rfl (by kernel_rfl) ?_
  refine v_seq ?_
  refine v_region ?_
  refine vl_val (os_allocB Try.zeroValue231 zc_table) ?_
  refine vl_nil ?_
  refine v_seq ?_
  refine v_seq ?_
  refine v_region ?_
  refine vl_val (os_move rfl) ?_
  refine vl_nil ?_
  refine v_block ?_
  refine v_loop [(0, _)] (fun (k : Nat) => [(3, .int .i64 k)]) (fun k w' => k ≤ 256 ∧ Bk w' w.heap.size (crcCellsTo k) 231 ∧ Below w.heap.size w w') (fun k => 256 - k) (0) ⟨rfl, trivial⟩ ⟨rfl, trivial⟩ (⟨by omega, hB0, hb0⟩) ?_
  rintro k W ⟨hk, hB, hb⟩
  refine v_seq ?_
  refine v_region ?_
  refine vl_val (os_lss rfl rfl) ?_
  refine vl_nil ?_
  refine v_seq ?_
  refine v_cond_d rfl (fun hlt => ?_) (fun hlt => ?_)
  · refine v_skip ?_
    refine v_seq ?_
    refine v_block ?_
    refine v_seq ?_
    refine v_region ?_
    refine vl_val (os_move rfl) ?_
    refine vl_val (os_assign rfl) ?_
    refine vl_nil ?_
    refine v_seq ?_
    refine v_region ?_
    refine vl_val (os_move rfl) ?_
    refine vl_val (os_conv Try.underlying3 Try.underlying171 rfl (show IntKind.u32.wrap (k : Int) = ((crcRnds 0 (BitVec.ofNat 32 k)).toNat : Int) by rw [IntKind.wrap_u32]; simp [crcRnds])) ?_
    refine vl_val (os_assign rfl) ?_
    refine vl_nil ?_
    refine v_seq ?_
    refine v_seq ?_
    refine v_region ?_
    refine vl_val (os_move rfl) ?_
    refine vl_nil ?_
    refine v_block ?_
    refine v_loop [(0, _), (1, _), (3, _)] (fun (j : Nat) => [(2, .int .u32 ((crcRnds j (BitVec.ofNat 32 k)).toNat : Int)), (8, .int .i64 j)]) (fun j w' => j ≤ 8 ∧ w' = W) (fun j => 8 - j) (0) ⟨rfl, rfl, rfl, trivial⟩ ⟨rfl, rfl, trivial⟩ (⟨by omega, rfl⟩) ?_
    rintro j W ⟨hj, rfl⟩
    refine v_seq ?_
    refine v_region ?_
    refine vl_val (os_lss rfl rfl) ?_
    refine vl_nil ?_
    refine v_seq ?_
    refine v_cond_d rfl (fun hj8 => ?_) (fun hj8 => ?_)
    · have hn : crcRnds (j + 1) (BitVec.ofNat 32 k) = crcRnd (crcRnds j (BitVec.ofNat 32 k)) := rfl
      refine v_skip ?_
      refine v_seq ?_
      refine v_block ?_
      refine v_region ?_
      refine vl_val (os_move rfl) ?_
      refine vl_val (os_shr32 (crcRnds j (BitVec.ofNat 32 k)) 1 rfl rfl rfl rfl) ?_
      refine vl_val (os_move rfl) ?_
      refine vl_val (os_and32 (crcRnds j (BitVec.ofNat 32 k)) 1#32 rfl rfl rfl rfl) ?_
      refine vl_val (os_neg32 (crcRnds j (BitVec.ofNat 32 k) &&& 1#32) rfl rfl) ?_
      refine vl_val (os_and32 crcPoly (-(crcRnds j (BitVec.ofNat 32 k) &&& 1#32)) rfl rfl rfl rfl) ?_
      refine vl_val (os_xor32 (crcRnds j (BitVec.ofNat 32 k) >>> 1) (crcPoly &&& -(crcRnds j (BitVec.ofNat 32 k) &&& 1#32)) rfl rfl rfl rfl) ?_
      refine vl_val (os_assign rfl) ?_
      refine vl_nil ?_
      refine v_region ?_
      refine vl_val (os_addi rfl rfl (by omega)) ?_
      refine vl_val (os_move rfl) ?_
      refine vl_nil ?_
      exact ⟨j + 1, ⟨rfl, rfl, rfl, trivial⟩, ⟨rfl, rfl, trivial⟩, ⟨by omega, rfl⟩, by dsimp only; omega⟩
    · obtain rfl : j = 8 := by omega
      obtain ⟨u, hu⟩ := crcCellsTo_some k (i := k) (by omega)
      refine v_exit ?_
      refine v_region ?_
      refine vl_val (os_move rfl) ?_
      refine vl_val (os_move rfl) ?_
      refine vl_val (os_ixa Try.underlying231 Try.sizeOf171 rfl rfl (i := k) rfl (by omega)) ?_
      refine vl_unit (ou_store Try.sizeOf171 rfl rfl rfl (hB.cell hu) (hB.free _)) ?_
      have hs := hB.set k (.int .u32 ((crcTab k).toNat : Int))
      rw [crcCellsTo_set k (by omega)] at hs
      refine vl_nil ?_
      refine v_region ?_
      refine vl_val (os_addi rfl rfl (by omega)) ?_
      refine vl_val (os_move rfl) ?_
      refine vl_nil ?_
      exact ⟨k + 1, ⟨rfl, trivial⟩, ⟨rfl, trivial⟩, ⟨by omega, hs, below_set hb (Nat.le_refl _) _ _⟩, by dsimp only; omega⟩
  · obtain rfl : k = 256 := by omega
    refine v_exit ?_
    refine v_seq ?_
    refine v_region ?_
    refine vl_val (os_loadB Try.underlying231 rfl (by rw [crcCellsTo_len]; kernel_rfl) rfl hB) ?_
    refine vl_unit (ou_storeB (by rw [crcCellsTo_len]; kernel_rfl) rfl rfl hB rfl crcCells_one) ?_
    have hE := setRow_bk hB (crcCellsTo 256)
    refine vl_nil ?_
    refine v_ret ?_
    exact post_cell rfl rfl Try.underlying231 rfl (by rw [crcCellsTo_len]; kernel_rfl) hE ⟨rfl, below_setRow hb (Nat.le_refl _) _⟩

/-- each number is a byte -/
def AllB (zs : List Int) : Prop := ∀ z ∈ zs, 0 ≤ z ∧ z ≤ 255
theorem AllB.at_ {zs : List Int} (h : AllB zs) (k : Nat) : 0 ≤ zs.getD k 0 ∧ zs.getD k 0 ≤ 255 := by
  by_cases hk : k < zs.length
  · simp [hk]; exact h _ (List.getElem_mem _)
  · simp [hk]
theorem crcRun_take {s : BitVec 32} {zs : List Int} {k : Nat} (hk : k < zs.length) : crcRun s (zs.take (k + 1)) = crcStep (crcRun s (zs.take k)) (zs.getD k 0) := by
  rw [List.take_succ_eq_append_getElem hk, crcRun_app]
  simp [crcRun, hk]

theorem sum_run (g : Nat) (s : BitVec 32) (A : Option Addr) (n c : Nat) (zs : List Int) (w : World) (hB : Bk w g crcCells 231) (ha : Rd w .u8 A zs) (hn : n = zs.length) (hn' : n ≤ 9223372036854775807) (hz : AllB zs) :
    Gives Try.prog 173 #[.pointer (some ⟨g, 0, none⟩), .int .u32 (s.toNat : Int), .slice A n c] w fun v w' => v = .int .u32 ((crcRun s zs).toNat : Int) ∧ w' = w := by
  refine gives_enter Try.call173 Try.func173 rfl rfl rfl (by kernel_rfl) ?_
  refine v_seq ?_
  refine v_region ?_
  refine vl_val (os_assign rfl) ?_
  refine vl_nil ?_
  refine v_seq ?_
  refine v_seq ?_
  refine v_region ?_
  refine vl_val (os_move rfl) ?_
  refine vl_val (os_len Try.underlying22 rfl) ?_
  refine vl_val (os_move rfl) ?_
  refine vl_nil ?_
  refine v_block ?_
  refine v_loop [(0, _), (9, _), (10, _)] (fun (k : Nat) => [(1, .int .u32 ((crcRun s (zs.take k)).toNat : Int)), (11, .int .i64 k)]) (fun k w' => k ≤ n ∧ w' = w) (fun k => n - k) (0) ⟨rfl, rfl, rfl, trivial⟩ ⟨rfl, rfl, trivial⟩ (⟨by omega, rfl⟩) ?_
  rintro k w ⟨hk, rfl⟩
  refine v_seq ?_
  refine v_region ?_
  refine vl_val (os_lss rfl rfl) ?_
  refine vl_nil ?_
  refine v_seq ?_
  refine v_cond_d rfl (fun hlt => ?_) (fun hlt => ?_)
  · obtain ⟨b1, o1, rfl, c1⟩ := ha.at_ (i := k) (by omega)
    have hb := hz.at_ k
    have e1 : (zs.getD k 0) = ((BitVec.ofInt 8 (zs.getD k 0)).toNat : Int) := (u8_int hb.1 hb.2).symm
    have hst := crcRun_take (s := s) (zs := zs) (k := k) (by omega)
    generalize crcRun s (zs.take k) = S at *
    refine v_skip ?_
    refine v_seq ?_
    refine v_block ?_
    refine v_seq ?_
    refine v_region ?_
    refine vl_val (os_ix Try.underlying22 Try.sizeOf5 rfl rfl (i := k) (by omega) (by omega)) ?_
    refine vl_val (os_load Try.isAgg5 rfl (c1)) ?_
    refine vl_val (os_assign rfl) ?_
    refine vl_nil ?_
    refine v_region ?_
    refine vl_val (os_move rfl) ?_
    refine vl_val (os_shr32 S 8 rfl rfl rfl rfl) ?_
    refine vl_val (os_move rfl) ?_
    refine vl_val (os_move rfl) ?_
    refine vl_val (os_low8 S Try.underlying171 Try.underlying5 rfl rfl) ?_
    refine vl_val (os_move rfl) ?_
    refine vl_val (os_xor8 (S.setWidth 8) (BitVec.ofInt 8 (zs.getD k 0)) rfl rfl rfl e1) ?_
    refine vl_val (os_nilCheck rfl) ?_
    refine vl_val (os_ixa Try.underlying231 Try.sizeOf171 rfl rfl (i := (S.setWidth 8 ^^^ BitVec.ofInt 8 (zs.getD k 0)).toNat) rfl (BitVec.isLt _)) ?_
    refine vl_val (os_load Try.isAgg171 rfl (hB.cell (crcCells_at (BitVec.isLt _)))) ?_
    refine vl_val (os_xor32 (S >>> 8) (crcTab (S.setWidth 8 ^^^ BitVec.ofInt 8 (zs.getD k 0)).toNat) rfl rfl rfl rfl) ?_
    refine vl_val (os_assign rfl) ?_
    refine vl_nil ?_
    refine v_region ?_
    refine vl_val (os_addi rfl rfl (by omega)) ?_
    refine vl_val (os_move rfl) ?_
    refine vl_nil ?_
    exact ⟨k + 1, ⟨rfl, rfl, rfl, trivial⟩, ⟨by rw [hst]; rfl, rfl, trivial⟩, ⟨by omega, rfl⟩, by dsimp only; omega⟩
  · refine v_exit ?_
    refine v_seq ?_
    refine v_region ?_
    refine vl_val (os_move rfl) ?_
    refine vl_val (os_assign rfl) ?_
    refine vl_nil ?_
    refine v_ret ?_
    exact post_ret rfl rfl (⟨by rw [List.take_of_length_le (by omega)], rfl⟩)

theorem sum_Of (A : Option Addr) (n c : Nat) (ls : List (List Int)) (w : World) (ha : RdS w .u8 A ls) (hn : n = ls.length) (hn' : n ≤ 9223372036854775807) (hz : ∀ l ∈ ls, AllB l) :
    Gives Try.prog 163 #[.slice A n c] w fun v w' => v = .int .u32 ((crcOf ls).toNat : Int) ∧ Below w.heap.size w w' := by
  refine gives_enter Try.call163 Try.func163 rfl rfl rfl (by kernel_rfl) ?_
  refine v_seq ?_
  refine v_region ?_
  refine vl_val (os_assign rfl) ?_
  refine vl_nil ?_
  refine v_seq ?_
  refine v_region ?_
  refine vl_call (sum_filled w) rfl ?_
  rintro v w1 ⟨rfl, hb1⟩
  refine vl_val (os_allocB Try.zeroValue231 zc_table) ?_
  have hB0 := bk_new w1 (crcCellsTo 0) 231
  have hb2 : Below w.heap.size w (w1.alloc (.cells (crcCellsTo 0).toArray 231)) := hb1.alloc hb1.size _
  refine vl_unit (ou_storeB (by rw [show crcCells.length = 256 from crcCellsTo_len _]; kernel_rfl) rfl rfl hB0 ((crcCellsTo_len 0).trans (crcCellsTo_len 256).symm) crcCells_one) ?_
  have hB := setRow_bk hB0 crcCells
  have hb3 := below_setRow hb2 hb1.size crcCells.toArray
  have ha3 := ha.keep hb3
  generalize (w1.alloc (.cells (crcCellsTo 0).toArray 231)).setRow w1.heap.size crcCells.toArray = w3 at *
  refine vl_nil ?_
  refine v_seq ?_
  refine v_region ?_
  refine vl_val (os_assign rfl) ?_
  refine vl_nil ?_
  refine v_seq ?_
  refine v_seq ?_
  refine v_region ?_
  refine vl_val (os_move rfl) ?_
  refine vl_val (os_len Try.underlying23 rfl) ?_
  refine vl_val (os_move rfl) ?_
  refine vl_nil ?_
  refine v_block ?_
  refine v_loop [(3, _), (8, _), (9, _)] (fun (k : Nat) => [(4, .int .u32 (((ls.take k).foldl crcRun (~~~ 0#32)).toNat : Int)), (10, .int .i64 k)]) (fun k w' => k ≤ n ∧ w' = w3) (fun k => n - k) (0) ⟨rfl, rfl, rfl, trivial⟩ ⟨rfl, rfl, trivial⟩ (⟨by omega, rfl⟩) ?_
  rintro k w3 ⟨hk, rfl⟩
  refine v_seq ?_
  refine v_region ?_
  refine vl_val (os_lss rfl rfl) ?_
  refine vl_nil ?_
  refine v_seq ?_
  refine v_cond_d rfl (fun hlt => ?_) (fun hlt => ?_)
  · obtain ⟨b1, o1, Ai, ci, rfl, c1, r1, l1, l2⟩ := ha3.at_ (i := k) (by omega)
    have hst : (ls.take (k + 1)).foldl crcRun (~~~ 0#32) = crcRun ((ls.take k).foldl crcRun (~~~ 0#32)) (ls.getD k []) := by
      rw [List.take_succ_eq_append_getElem (by omega), List.foldl_append]; simp [show k < ls.length by omega]
    refine v_skip ?_
    refine v_seq ?_
    refine v_block ?_
    refine v_seq ?_
    refine v_region ?_
    refine vl_val (os_ix Try.underlying23 Try.sizeOf22 rfl rfl (i := k) (by omega) (by omega)) ?_
    refine vl_val (os_load Try.isAgg22 rfl (c1)) ?_
    refine vl_val (os_assign rfl) ?_
    refine vl_nil ?_
    refine v_region ?_
    refine vl_val (os_move rfl) ?_
    refine vl_val (os_move rfl) ?_
    refine vl_call (sum_run _ _ Ai _ ci (ls.getD k []) w3 hB r1 rfl (by omega) (by rw [List.getD_eq_getElem?_getD, List.getElem?_eq_getElem (by omega)]; exact hz _ (List.getElem_mem _))) rfl ?_
    rintro v w3 ⟨rfl, rfl⟩
    refine vl_val (os_assign rfl) ?_
    refine vl_nil ?_
    refine v_region ?_
    refine vl_val (os_addi rfl rfl (by omega)) ?_
    refine vl_val (os_move rfl) ?_
    refine vl_nil ?_
    exact ⟨k + 1, ⟨rfl, rfl, rfl, trivial⟩, ⟨by rw [hst]; rfl, rfl, trivial⟩, ⟨by omega, rfl⟩, by dsimp only; omega⟩
  · refine v_exit ?_
    refine v_seq ?_
    refine v_region ?_
    refine vl_val (os_move rfl) ?_
    refine vl_val (os_com32 ((ls.take k).foldl crcRun (~~~ 0#32)) rfl rfl) ?_
    refine vl_val (os_assign rfl) ?_
    refine vl_nil ?_
    refine v_ret ?_
    exact post_ret rfl rfl (⟨by rw [List.take_of_length_le (by omega)]; rfl, hb3⟩)
end Go.Proofs.Ytpojijnjdlnokaa

/- Structs of two numbers: how they compare; the law's kit: lists of such that are lent, with marks behind their ends; whether they, and the marks, are still as they were. -/
namespace Go.Proofs.Ytpojijnjdlnokaa
open Go.RowKit
set_option linter.unusedVariables false

section
variable {P : Program} {n : Cx} {fr : Fr} {w w' : World} {ty : TypeId} {x y z : Operand} {v u : Value} {T T2 e : TypeId} {op : Op}
theorem run_part_int {t : TypeId} {cs : Array Value} {i : Nat} {v : Value} (h : ∀ w, (isAgg t).run P w = .ok false w) (hv : cs[i]? = some v) (w : World) : (part t cs i).run P w = .ok v w := by
  simp [part, h, hv]
theorem run_eqS2 {tI : TypeId} {x1 x2 y1 y2 : Int} (d : Nat) (hu : P.underlying T = some (.struct (P.fieldsOf T))) (hp : P.stoodInHeld T = false)
    (hf : (P.fieldsOf T).toList.map (fun f => (f.name == "_", f.type, f.offset)) = [(false, tI, 0), (false, tI, 1)]) (hI : P.underlying tI = some (.int .i64)) (hA : ∀ w, (isAgg tI).run P w = .ok false w) :
    (Op.equalIn (d + 1 + 1) T (.agg #[.int .i64 x1, .int .i64 x2]) (.agg #[.int .i64 y1, .int .i64 y2])).run P w = .ok (decide (x1 = y1 ∧ x2 = y2)) w := by
  rw [run_equalIn_agg (P := P) w (d + 1) T _ _ hu hp]
  obtain ⟨f1, f2, e, n1, t1, o1, n2, t2, o2⟩ : ∃ f1 f2, (P.fieldsOf T).toList = [f1, f2] ∧ f1.name ≠ "_" ∧ f1.type = tI ∧ f1.offset = 0 ∧ f2.name ≠ "_" ∧ f2.type = tI ∧ f2.offset = 1 := by
    match h : (P.fieldsOf T).toList with
    | [] => rw [h] at hf; simp at hf
    | [f1] => rw [h] at hf; simp at hf
    | f1 :: f2 :: f3 :: r => rw [h] at hf; simp at hf
    | [f1, f2] =>
      rw [h] at hf
      simp at hf
      exact ⟨f1, f2, rfl, hf.1.1, hf.1.2.1, hf.1.2.2, hf.2.1, hf.2.2.1, hf.2.2.2⟩
  rw [e]
  have q1 : ∀ w, (part tI #[.int .i64 x1, .int .i64 x2] 0).run P w = .ok (.int .i64 x1) w := run_part_int hA rfl
  have q2 : ∀ w, (part tI #[.int .i64 x1, .int .i64 x2] 1).run P w = .ok (.int .i64 x2) w := run_part_int hA rfl
  have q3 : ∀ w, (part tI #[.int .i64 y1, .int .i64 y2] 0).run P w = .ok (.int .i64 y1) w := run_part_int hA rfl
  have q4 : ∀ w, (part tI #[.int .i64 y1, .int .i64 y2] 1).run P w = .ok (.int .i64 y2) w := run_part_int hA rfl
  have e1 := fun (a b : Int) (w : World) => run_equalIn_int (P := P) w d tI .i64 .i64 a b hI
  simp only [Op.eqFields, ne_eq, n1, n2, not_false_eq_true, if_true, t1, o1, t2, o2, Sem.run_bind, q1, q2, q3, q4, e1, Result.andThen_ok, Sem.run_ite, Sem.run_pure]
  by_cases c1 : x1 = y1 <;> by_cases c2 : x2 = y2 <;> simp [c1, c2]

/-- two structs of two integers each -/
theorem os_eqlS2 {tI : TypeId} {x1 x2 y1 y2 : Int} (hg : P.eqGuardType P.depth T = false) (hu : P.underlying T = some (.struct (P.fieldsOf T))) (hp : P.stoodInHeld T = false)
    (hf : (P.fieldsOf T).toList.map (fun f => (f.name == "_", f.type, f.offset)) = [(false, tI, 0), (false, tI, 1)]) (hI : P.underlying tI = some (.int .i64)) (hA : ∀ w, (isAgg tI).run P w = .ok false w)
    (hx : Fr.ev fr x = some (.agg #[.int .i64 x1, .int .i64 x2])) (hy : Fr.ev fr y = some (.agg #[.int .i64 y1, .int .i64 y2])) :
    OS P n (.binOp .eql T x y T2) ty fr w (.bool (decide (x1 = y1 ∧ x2 = y2))) w := os_of fun a ha => by
  have h1 := run_eqGuard_agg (P := P) w .eql T x y #[.int .i64 x1, .int .i64 x2] #[.int .i64 y1, .int .i64 y2] hg
  have h2 : (Op.equalIn 10000 T (.agg #[.int .i64 x1, .int .i64 x2]) (.agg #[.int .i64 y1, .int .i64 y2])).run P w = .ok (decide (x1 = y1 ∧ x2 = y2)) w := by
    exact run_eqS2 9998 hu hp hf hI hA
  have h3 := run_eql_struct (P := P) w T #[.int .i64 x1, .int .i64 x2] #[.int .i64 y1, .int .i64 y2]
  rw [h2] at h3
  simp [execOp, ha.ev hx, ha.ev hy, h1, h3, Result.andThen]

/-- make([]T, 0, n) of structs -/
theorem ot_make0_p {k k2 : IntKind} {m c : Int} {l s : Nat} {z0 : Value} {bytes : Nat} (hT : P.underlying T = some (.slice e)) (hi : TyInfo P e z0 s bytes) (hx : Fr.ev fr x = some (.int k m)) (hy : Fr.ev fr y = some (.int k2 c)) (hm : m = 0) (hc : c = (l : Int))
    (hb : bytes * l ≤ 281474976710656) (hl : l ≤ maxLen) (B : Nat) (hB : B ≤ w.heap.size) : OT P n (.makeSlice T x y) ty fr w fun v w' => v = .slice (some ⟨w.heap.size, 0, none⟩) 0 l ∧ OwnP w' B e s v [] ∧ w.grownBy w' none := by
  subst hm; subst hc
  obtain ⟨i, h1, h2, h3, h4⟩ := info_parts hi
  obtain ⟨w', hr, ho, hg⟩ := run_make_own (P := P) w B T e i z0 s hT h1 h2 h3 k k2 l (by rw [h4]; exact hb) hl hB
  exact ot_of fun a ha => ⟨_, w', by simp [execOp, ha.ev hx, ha.ev hy, hr, Result.andThen], rfl, ⟨fun c hc => (by cases hc), ho⟩, hg⟩
/-- append(s, x...) of structs; x may be empty -/
theorem ot_append_pn {A : Option Addr} {m c s : Nat} {ps news : List (List Value)} {z0 : Value} {bytes : Nat} {B : Nat} (hT : P.underlying T = some (.slice e)) (hi : TyInfo P e z0 s bytes) (hz : z0.cells.size = s) (hs0 : 0 < s) (hx : Fr.ev fr x = some v) (hy : Fr.ev fr y = some (.slice A m c))
    (ho : OwnP w B e s v ps) (hr : RdP w s A news) (hnl : ∀ c ∈ news, c.length = s) (hm : m = news.length) (h1 : ∀ c ∈ news, ∀ u ∈ c, u.oneCell' = true) (hb : (ps.length + m) * bytes ≤ 140737488355328) (hl : ps.length + m ≤ maxLen) (hB : B ≤ w.heap.size) :
    OT P n (.call ⟨.builtin .append, #[x, y], #[T, T]⟩) ty fr w fun v' w' => OwnP w' B e s v' (ps ++ news) ∧ w.grownBy w' v.ownBlock := by
  by_cases h0 : 0 < news.length
  · exact (ot_append_p hT hi hz hs0 hx hy ho hr hnl hm h0 h1 hb hl hB).mono fun v w' ⟨a, b, _⟩ => ⟨a, b⟩
  · have hnil : news = [] := List.eq_nil_of_length_eq_zero (by omega)
    subst hnil
    have hm0 : m = 0 := by simpa using hm
    subst hm0
    obtain ⟨i, i1, i2, i3, i4⟩ := info_parts hi
    have hrun : (Builtin.append_ #[T, T] ty #[v, .slice A 0 c]).run P w = .ok v w := by
      rcases ho.2.2 with ⟨rfl, h2⟩ | ⟨g, cap, cur, rfl, _, _, hnc, _⟩
      · cases A <;> simp [Builtin.append_, run_underlying hT, sizeOf, typeInfo, i1, Builtin.lenOf, Builtin.firstCells, loadCells, loadCellsFrom]
      · cases A <;> simp [Builtin.append_, run_underlying hT, sizeOf, typeInfo, i1, Builtin.lenOf, Builtin.firstCells, hnc, storeCells, loadCells, loadCellsFrom]
    refine ot_of fun a ha => ⟨v, w, by simp [execOp, resolve, invoke, builtin, ha.ev hx, ha.ev hy, hrun, Result.andThen], by simpa using ho, World.grownBy.refl _ _⟩
end

def marksP (n : Nat) : List (Int × Int) := (List.range n).map fun (i : Nat) => (markZ 1 (i : Int), 0)
theorem marksP_len (n : Nat) : (marksP n).length = n := by simp [marksP]
theorem marksP_succ (n : Nat) : marksP (n + 1) = marksP n ++ [(markZ 1 n, 0)] := by simp [marksP, List.range_succ]
theorem marksP_at {n i : Nat} (hi : i < n) : (marksP n).getD i (0, 0) = (markZ 1 i, 0) := by simp [marksP, hi]
/-- v is a list of structs of two numbers that the kit has lent -/
def LentW (w : World) (B : Nat) (t : TypeId) (v : Value) (ps : List (Int × Int)) : Prop :=
  ∃ g C, v = .slice (some ⟨g, 0, none⟩) ps.length C ∧ ps.length + 12 ≤ C ∧ OwnP w B t 2 (.slice (some ⟨g, 0, none⟩) (ps ++ marksP 12).length C) ((ps ++ marksP 12).map rowC)
theorem LentW.keep {w w' B t v ps} (h : LentW w B t v ps) (hb : Below w.heap.size w w') : LentW w' B t v ps := by
  obtain ⟨g, C, e, hc, ho⟩ := h
  exact ⟨g, C, e, hc, OwnP.keepAll ho hb⟩
theorem LentW.led {w w' B t v ps} (h : LentW w B t v ps) (hb : LeD w w') : LentW w' B t v ps := by
  obtain ⟨g, C, e, hc, ho⟩ := h
  exact ⟨g, C, e, hc, OwnP.led ho hb⟩
theorem OwnP.rdp {w B t s A n c ps} (h : OwnP w B t s (.slice A n c) ps) : RdP w s A ps := by
  obtain ⟨A', c', e, _, _, hr⟩ := h.form
  cases e
  exact hr
theorem OwnP.row {w B t s v ps} (h : OwnP w B t s v ps) (h0 : 0 < ps.length) : ∃ g c, v = .slice (some ⟨g, 0, none⟩) ps.length c ∧ ps.length ≤ c ∧ c ≤ maxLen := by
  rcases h.2.2 with ⟨rfl, h1⟩ | ⟨g, cap, cur, rfl, hB, hg, hn, hm, hs, ht⟩
  · omega
  · exact ⟨g, cap, rfl, hn, hm⟩
theorem LentW.form {w B t v ps} (h : LentW w B t v ps) : ∃ g C, v = .slice (some ⟨g, 0, none⟩) ps.length C ∧ ps.length + 12 ≤ C ∧ B ≤ g ∧ g < w.heap.size ∧ RdP w 2 (some ⟨g, 0, none⟩) (ps.map rowC) := by
  obtain ⟨g, C, e, hc, ho⟩ := h
  have h1 := OwnP.lt ho g rfl
  have h2 := (OwnP.rdp ho).take ps.length
  rw [List.map_append, show (ps.map rowC ++ (marksP 12).map rowC).take ps.length = ps.map rowC by rw [show ps.length = (ps.map rowC).length by simp, List.take_left]] at h2
  exact ⟨g, C, e, hc, h1.1, h1.2, h2⟩

theorem lent_b0 {n : Nat} (h : n ≤ 100000000) : 16 * (n + 12) ≤ 281474976710656 := by omega
theorem lent_b1 {n : Nat} (h : n ≤ 100000000) : n + 12 ≤ maxLen := by simp [maxLen]; omega
theorem lent_b2 {n i : Nat} (h : n ≤ 100000000) (hi : i < 12) : (n + i + 1) * 16 ≤ 140737488355328 := by omega
theorem lent_b3 {n i : Nat} (h : n ≤ 100000000) (hi : i < 12) : n + i + 1 ≤ maxLen := by simp [maxLen]; omega
theorem lent_b4 {n : Nat} (h : n ≤ 100000000) : n * 16 ≤ 140737488355328 := by omega
theorem lent_b5 {n : Nat} (h : n ≤ 100000000) : n ≤ maxLen := by simp [maxLen]; omega
theorem ti_wTable : TyInfo Try.prog 62 (.agg #[.int .i64 0, .int .i64 0]) 2 16 := by unfold TyInfo; kernel_rfl
theorem kit_markRow (k i : Int) (w : World) (hk : 0 ≤ k ∧ k ≤ 1000000000) (hi : 0 ≤ i ∧ i ≤ 1000000000000000) : Gives Try.prog 153 #[.int .i64 k, .int .i64 i] w fun v w' => v = .agg #[.int .i64 (markZ k i), .int .i64 0] ∧ Below w.heap.size w w' := by
  have hB0 := bk_new w [.int .i64 0, .int .i64 0] 62
  have hb0 : Below w.heap.size w (w.alloc (.cells [Value.int .i64 0, .int .i64 0].toArray 62)) := (Below.refl _ w).alloc (Nat.le_refl _) _
  refine gives_enter Try.call153 Try.func153 rfl rfl rfl (by kernel_rfl) ?_
  refine v_seq ?_
  refine v_region ?_
  refine vl_val (os_allocB Try.zeroValue62 (zc := _) (cs := [.int .i64 0, .int .i64 0]) rfl) ?_
  refine vl_nil ?_
  refine v_seq ?_
  refine v_region ?_
  refine vl_val (os_move rfl) ?_
  refine vl_val (os_move rfl) ?_
  refine vl_call (kit_mark k i _ hk hi) rfl ?_
  rintro v1 w1 ⟨rfl, rfl⟩
  refine vl_val (os_build (cs := [.int .i64 (markZ k i), .int .i64 0]) rfl (by kernel_rfl)) ?_
  refine vl_unit (ou_storeB (by kernel_rfl) rfl rfl hB0 rfl rfl) ?_
  refine vl_nil ?_
  refine v_ret ?_
  exact post_cell rfl rfl Try.underlying62 rfl (by kernel_rfl) (setRow_bk hB0 [.int .i64 (markZ k i), .int .i64 0]) ⟨rfl, below_setRow hb0 (Nat.le_refl _) _⟩
set_option maxHeartbeats 1000000 in
theorem kit_LentTable (A : Option Addr) (n c : Nat) (ps : List (Int × Int)) (w : World) (ha : RdP w 2 A (ps.map rowC)) (hn : n = ps.length) (hb : n ≤ 100000000) : Gives Try.prog 120 #[.slice A n c] w fun v w' => LentW w' w.heap.size 62 v ps ∧ Below w.heap.size w w' := by
  refine gives_enter Try.call120 Try.func120 rfl rfl rfl (by kernel_rfl) ?_
  refine v_seq ?_
  refine v_region ?_
  refine vl_val (os_assign rfl) ?_
  refine vl_nil ?_
  refine v_seq ?_
  refine v_region ?_
  refine vl_val (os_move rfl) ?_
  refine vl_val (os_len Try.underlying63 rfl) ?_
  refine vl_val (os_addi rfl rfl (by omega)) ?_
  refine vl_some (ot_make0_p (l := n + 12) Try.underlying63 ti_wTable rfl rfl rfl rfl (lent_b0 hb) (lent_b1 hb) w.heap.size (Nat.le_refl _)) ?_
  rintro v1 w1 ⟨rfl, ho, hg⟩
  have hb1 : Below w.heap.size w w1 := (Below.refl _ _).grown hg (Nat.le_refl _) (fun k hk => by cases hk)
  refine vl_val (os_assign rfl) ?_
  refine vl_nil ?_
  refine v_seq ?_
  refine v_region ?_
  refine vl_val (os_move rfl) ?_
  refine vl_val (os_move rfl) ?_
  refine vl_some (ot_append_pn Try.underlying63 ti_wTable rfl (by decide) rfl rfl ho (ha.keep hb1) (rowC_len _) (by simp [hn]) (rowC_one _) (by simpa using lent_b4 hb) (by simpa using lent_b5 hb) hb1.size) ?_
  rintro v2 w2 ⟨ho2, hg2⟩
  have hb2 := OwnP.below hb1 ho hg2 (Nat.le_refl _) hb1.size
  refine vl_val (os_assign rfl) ?_
  refine vl_nil ?_
  refine v_seq ?_
  refine v_seq ?_
  refine v_region ?_
  refine vl_val (os_assign rfl) ?_
  refine vl_nil ?_
  refine v_block ?_
  refine v_loop2 [(0, _)] (fun (v : Value) (i : Nat) => [(3, v), (4, .int .i64 i)]) (fun v i w' => i ≤ 12 ∧ OwnP w' w.heap.size 62 2 v ((ps ++ marksP i).map rowC) ∧ Below w.heap.size w w') (fun v i => 12 - i) (v2) (0) ⟨rfl, trivial⟩ ⟨rfl, rfl, trivial⟩ (⟨by omega, by simpa [marksP] using ho2, hb2⟩) ?_
  rintro v i w3 ⟨hi, ho3, hb3⟩
  refine v_seq ?_
  refine v_seq ?_
  refine v_region ?_
  refine vl_val (os_move rfl) ?_
  refine vl_val (os_lss rfl rfl) ?_
  refine vl_nil ?_
  refine v_cond_d rfl (fun h => ?_) (fun h => ?_)
  · refine v_skip ?_
    refine v_seq ?_
    refine v_block ?_
    refine v_region ?_
    refine vl_val (os_move rfl) ?_
    refine vl_val (os_move rfl) ?_
    refine vl_call (kit_markRow 1 i w3 (by omega) (by omega)) rfl ?_
    rintro v4 w4 ⟨rfl, hb34⟩
    have hb4 := hb3.trans (hb34.mono hb3.size)
    have eln : ((ps ++ marksP i).map rowC).length = n + i := by simp [marksP_len, hn]
    refine vl_val (os_litS (css := [[.int .i64 (markZ 1 i), .int .i64 0]]) Try.underlying63 Try.sizeOf62 Try.zeroValue62 rfl rfl (by intro c hc; simp at hc; subst hc; rfl) (by decide) (by decide) (by decide)) ?_
    refine vl_some (ot_append_pn Try.underlying63 ti_wTable rfl (by decide) rfl rfl (OwnP.alloc (OwnP.keepAll ho3 hb34) _) (rdp_alloc _ _ _ (by intro c hc; simp at hc; subst hc; rfl)) (by intro c hc; simp at hc; subst hc; rfl) rfl (by intro c hc u hu; simp at hc; subst hc; simp at hu; rcases hu with rfl | rfl <;> rfl) (by rw [eln]; exact lent_b2 hb (by omega)) (by rw [eln]; exact lent_b3 hb (by omega)) (hb4.alloc hb4.size _).size) ?_
    rintro v5 w5 ⟨ho5, hg5⟩
    refine vl_val (os_assign rfl) ?_
    refine vl_nil ?_
    refine v_region ?_
    refine vl_val (os_move rfl) ?_
    refine vl_val (os_addi rfl rfl (by omega)) ?_
    refine vl_val (os_assign rfl) ?_
    refine vl_nil ?_
    exact ⟨⟨v5, i + 1⟩, ⟨rfl, trivial⟩, ⟨rfl, rfl, trivial⟩, ⟨by omega, by rw [marksP_succ, ← List.append_assoc, List.map_append]; exact ho5, OwnP.below (hb4.alloc hb4.size _) (OwnP.alloc (OwnP.keepAll ho3 hb34) _) hg5 (Nat.le_refl _) (hb4.alloc hb4.size _).size⟩, by dsimp only; omega⟩
  · obtain rfl : i = 12 := by omega
    have h12 : 0 < ((ps ++ marksP 12).map rowC).length := by simp [marksP_len]
    obtain ⟨g, C, rfl, h1, h2⟩ := OwnP.row ho3 h12
    have e12 : ((ps ++ marksP 12).map rowC).length = n + 12 := by simp [marksP_len, hn]
    rw [e12] at h1
    refine v_exit ?_
    refine v_seq ?_
    refine v_region ?_
    refine vl_val (os_move rfl) ?_
    refine vl_val (os_move rfl) ?_
    refine vl_val (os_len Try.underlying63 rfl) ?_
    refine vl_val (os_slice_h Try.underlying63 Try.sizeOf62 rfl rfl (h := n) (by omega) (by omega)) ?_
    refine vl_val (os_assign rfl) ?_
    refine vl_nil ?_
    refine v_ret ?_
    exact post_ret rfl rfl (⟨⟨g, C, by rw [hn], by omega, by simpa [marksP_len] using ho3⟩, hb3⟩)
set_option maxHeartbeats 1000000 in
theorem kit_KeptTable (v : Value) (B : Nat) (A : Option Addr) (n c : Nat) (ps : List (Int × Int)) (w : World) (hv : LentW w B 62 v ps) (ha : RdP w 2 A (ps.map rowC)) (hn : n = ps.length) (hb : n ≤ 100000000) : Gives Try.prog 130 #[v, .slice A n c] w fun v w' => v = .bool true ∧ Below w.heap.size w w' := by
  obtain ⟨g, C, rfl, hC, ho⟩ := hv
  refine gives_enter Try.call130 Try.func130 rfl rfl rfl (by kernel_rfl) ?_
  refine v_seq ?_
  refine v_region ?_
  refine vl_val (os_assign rfl) ?_
  refine vl_nil ?_
  refine v_seq ?_
  refine v_seq ?_
  refine v_region ?_
  refine vl_val (os_move rfl) ?_
  refine vl_val (os_len Try.underlying63 rfl) ?_
  refine vl_val (os_move rfl) ?_
  refine vl_val (os_len Try.underlying63 rfl) ?_
  refine vl_val (os_neq rfl rfl) ?_
  refine vl_nil ?_
  refine v_cond_no rfl (by omega) ?_
  refine v_skip ?_
  refine v_seq ?_
  refine v_region ?_
  refine vl_val (os_move rfl) ?_
  refine vl_val (os_move rfl) ?_
  refine vl_val (os_len Try.underlying63 rfl) ?_
  refine vl_val (os_addi rfl rfl (by omega)) ?_
  refine vl_val (os_slice_h Try.underlying63 Try.sizeOf62 rfl rfl (h := n + 12) (by omega) (by omega)) ?_
  refine vl_val (os_assign rfl) ?_
  refine vl_nil ?_
  refine v_seq ?_
  refine v_seq ?_
  refine v_region ?_
  refine vl_val (os_assign rfl) ?_
  refine vl_nil ?_
  refine v_block ?_
  refine v_loop [(1, _), (5, _)] (fun (i : Nat) => [(6, .int .i64 i)]) (fun i w' => i ≤ n + 12 ∧ Below w.heap.size w w') (fun i => n + 12 - i) (0) ⟨rfl, rfl, trivial⟩ ⟨rfl, trivial⟩ (⟨by omega, Below.refl _ _⟩) ?_
  rintro i w1 ⟨hi, hq⟩
  refine v_seq ?_
  refine v_seq ?_
  refine v_region ?_
  refine vl_val (os_move rfl) ?_
  refine vl_val (os_move rfl) ?_
  refine vl_val (os_len Try.underlying63 rfl) ?_
  refine vl_val (os_lss rfl rfl) ?_
  refine vl_nil ?_
  refine v_cond_d rfl (fun h => ?_) (fun h => ?_)
  · have hr := OwnP.rdp (OwnP.keepAll ho hq)
    obtain ⟨bg, og, eg, c1, c2, hrc⟩ := RdP.at2 hr (i := i) (by rw [List.length_append, marksP_len]; omega)
    cases eg
    rcases Nat.lt_or_ge i n with hlt | hge
    · obtain ⟨bA, oA, rfl, d1, d2, hra⟩ := RdP.at2 (show RdP w1 2 A (ps.map rowC) from ha.keep hq) (i := i) (by omega)
      rw [show (ps ++ marksP 12).getD i (0, 0) = ps.getD i (0, 0) by simp [List.getElem?_append, show i < ps.length by omega]] at hrc
      refine v_skip ?_
      refine v_seq ?_
      refine v_block ?_
      refine v_seq ?_
      refine v_region_t LeG _ mixed (by kernel_rfl) lee_g (leg_start _) ?_
      refine vt_val (fun w hw => os_move rfl) ?_
      refine vt_val (fun w hw => os_move rfl) ?_
      refine vt_val (fun w hw => os_len Try.underlying63 rfl) ?_
      refine vt_val (fun w hw => os_t (os_lss rfl rfl) (by omega)) ?_
      refine vt_val (fun w hw => os_move rfl) ?_
      refine vt_valg rfl (fun w hw => os_move rfl) ?_
      refine vt_valg rfl (fun w hw => os_move rfl) ?_
      refine vt_valg rfl (fun w hw => os_ixs Try.underlying63 Try.sizeOf62 rfl rfl (i := i) (by omega) (by omega)) ?_
      refine vt_valg rfl (fun w hw => os_loadP Try.underlying62 rfl (by kernel_rfl) rfl (hrc.keep hw)) ?_
      refine vt_valg rfl (fun w hw => os_move rfl) ?_
      refine vt_valg rfl (fun w hw => os_move rfl) ?_
      refine vt_valg rfl (fun w hw => os_ixs Try.underlying63 Try.sizeOf62 rfl rfl (i := i) (by omega) (by omega)) ?_
      refine vt_valg rfl (fun w hw => os_loadP Try.underlying62 rfl (by kernel_rfl) rfl (hra.keep hw)) ?_
      refine vt_valg rfl (fun w hw => os_t (os_eqlS2 Try.eqGuardType62 (by kernel_rfl) Try.stoodInHeld62 (by kernel_rfl) Try.underlying3 Try.isAgg3 rfl rfl) ((by simp))) ?_
      refine vt_valg rfl (fun w hw => os_not rfl) ?_
      refine vt_val (fun w hw => os_pick_t rfl rfl) ?_
      refine vt_val (fun w hw => os_move rfl) ?_
      refine vt_valg rfl (fun w hw => os_move rfl) ?_
      refine vt_valg rfl (fun w hw => os_move rfl) ?_
      refine vt_valg rfl (fun w hw => os_len Try.underlying63 rfl) ?_
      refine vt_valg rfl (fun w hw => os_f (os_geq rfl rfl) (by omega)) ?_
      refine vt_valg rfl (fun w hw => os_move rfl) ?_
      refine vt_skip rfl rfl ?_
      refine vt_skip rfl rfl ?_
      refine vt_skip rfl rfl ?_
      refine vt_skip rfl rfl ?_
      refine vt_skip rfl rfl ?_
      refine vt_skip rfl rfl ?_
      refine vt_skip rfl rfl ?_
      refine vt_skip rfl rfl ?_
      refine vt_skip rfl rfl ?_
      refine vt_skip rfl rfl ?_
      refine vt_skip rfl rfl ?_
      refine vt_valg rfl (fun w hw => os_pick_f rfl rfl) ?_
      refine vt_val (fun w hw => os_pick_f rfl rfl) ?_
      refine vt_nil (fun Hw H => ?_)
      refine v_cond_f rfl ?_
      refine v_skip ?_
      refine v_region ?_
      refine vl_val (os_move rfl) ?_
      refine vl_val (os_addi rfl rfl (by omega)) ?_
      refine vl_val (os_assign rfl) ?_
      refine vl_nil ?_
      exact ⟨i + 1, ⟨rfl, rfl, trivial⟩, ⟨rfl, trivial⟩, ⟨by omega, hq.trans (H.mono hq.size)⟩, by dsimp only; omega⟩
    · rw [show (ps ++ marksP 12).getD i (0, 0) = (markZ 1 ((i : Int) - (n : Int)), 0) by
        have e : (ps ++ marksP 12).getD i (0, 0) = (marksP 12).getD (i - ps.length) (0, 0) := by simp [List.getElem?_append, show ¬ i < ps.length by omega]
        rw [e, marksP_at (by omega)]; congr 2; omega] at hrc
      refine v_skip ?_
      refine v_seq ?_
      refine v_block ?_
      refine v_seq ?_
      refine v_region_t LeG _ mixed (by kernel_rfl) lee_g (leg_start _) ?_
      refine vt_val (fun w hw => os_move rfl) ?_
      refine vt_val (fun w hw => os_move rfl) ?_
      refine vt_val (fun w hw => os_len Try.underlying63 rfl) ?_
      refine vt_val (fun w hw => os_f (os_lss rfl rfl) (by omega)) ?_
      refine vt_val (fun w hw => os_move rfl) ?_
      refine vt_skip rfl rfl ?_
      refine vt_skip rfl rfl ?_
      refine vt_skip rfl rfl ?_
      refine vt_skip rfl rfl ?_
      refine vt_skip rfl rfl ?_
      refine vt_skip rfl rfl ?_
      refine vt_skip rfl rfl ?_
      refine vt_skip rfl rfl ?_
      refine vt_skip rfl rfl ?_
      refine vt_skip rfl rfl ?_
      refine vt_val (fun w hw => os_pick_f rfl rfl) ?_
      refine vt_val (fun w hw => os_move rfl) ?_
      refine vt_valg rfl (fun w hw => os_move rfl) ?_
      refine vt_valg rfl (fun w hw => os_move rfl) ?_
      refine vt_valg rfl (fun w hw => os_len Try.underlying63 rfl) ?_
      refine vt_valg rfl (fun w hw => os_t (os_geq rfl rfl) (by omega)) ?_
      refine vt_valg rfl (fun w hw => os_move rfl) ?_
      refine vt_valg rfl (fun w hw => os_move rfl) ?_
      refine vt_valg rfl (fun w hw => os_move rfl) ?_
      refine vt_valg rfl (fun w hw => os_ixs Try.underlying63 Try.sizeOf62 rfl rfl (i := i) (by omega) (by omega)) ?_
      refine vt_valg rfl (fun w hw => os_loadP Try.underlying62 rfl (by kernel_rfl) rfl (hrc.keep hw)) ?_
      refine vt_valg rfl (fun w hw => os_move rfl) ?_
      refine vt_valg rfl (fun w hw => os_move rfl) ?_
      refine vt_valg rfl (fun w hw => os_len Try.underlying63 rfl) ?_
      refine vt_valg rfl (fun w hw => os_subi rfl rfl (by omega)) ?_
      refine vt_callg rfl (v := _) (fun w hw => kit_markRow 1 ((i : Int) - (n : Int)) w (by omega) (by omega)) rfl ?_
      refine vt_valg rfl (fun w hw => os_t (os_eqlS2 Try.eqGuardType62 (by kernel_rfl) Try.stoodInHeld62 (by kernel_rfl) Try.underlying3 Try.isAgg3 rfl rfl) ((by simp))) ?_
      refine vt_valg rfl (fun w hw => os_not rfl) ?_
      refine vt_valg rfl (fun w hw => os_pick_t rfl rfl) ?_
      refine vt_val (fun w hw => os_pick_f rfl rfl) ?_
      refine vt_nil (fun Hw H => ?_)
      refine v_cond_f rfl ?_
      refine v_skip ?_
      refine v_region ?_
      refine vl_val (os_move rfl) ?_
      refine vl_val (os_addi rfl rfl (by omega)) ?_
      refine vl_val (os_assign rfl) ?_
      refine vl_nil ?_
      exact ⟨i + 1, ⟨rfl, rfl, trivial⟩, ⟨rfl, trivial⟩, ⟨by omega, hq.trans (H.mono hq.size)⟩, by dsimp only; omega⟩
  · refine v_exit ?_
    refine v_seq ?_
    refine v_region ?_
    refine vl_val (os_assign rfl) ?_
    refine vl_nil ?_
    refine v_ret ?_
    exact post_ret rfl rfl (⟨rfl, hq⟩)
theorem ti_wCounts : TyInfo Try.prog 201 (.agg #[.int .i64 0, .int .i64 0]) 2 16 := by unfold TyInfo; kernel_rfl
theorem kit_markCount (k i : Int) (w : World) (hk : 0 ≤ k ∧ k ≤ 1000000000) (hi : 0 ≤ i ∧ i ≤ 1000000000000000) : Gives Try.prog 155 #[.int .i64 k, .int .i64 i] w fun v w' => v = .agg #[.int .i64 (markZ k i), .int .i64 0] ∧ Below w.heap.size w w' := by
  have hB0 := bk_new w [.int .i64 0, .int .i64 0] 201
  have hb0 : Below w.heap.size w (w.alloc (.cells [Value.int .i64 0, .int .i64 0].toArray 201)) := (Below.refl _ w).alloc (Nat.le_refl _) _
  refine gives_enter Try.call155 Try.func155 rfl rfl rfl (by kernel_rfl) ?_
  refine v_seq ?_
  refine v_region ?_
  refine vl_val (os_allocB Try.zeroValue201 (zc := _) (cs := [.int .i64 0, .int .i64 0]) rfl) ?_
  refine vl_nil ?_
  refine v_seq ?_
  refine v_region ?_
  refine vl_val (os_move rfl) ?_
  refine vl_val (os_move rfl) ?_
  refine vl_call (kit_mark k i _ hk hi) rfl ?_
  rintro v1 w1 ⟨rfl, rfl⟩
  refine vl_val (os_build (cs := [.int .i64 (markZ k i), .int .i64 0]) rfl (by kernel_rfl)) ?_
  refine vl_unit (ou_storeB (by kernel_rfl) rfl rfl hB0 rfl rfl) ?_
  refine vl_nil ?_
  refine v_ret ?_
  exact post_cell rfl rfl Try.underlying201 rfl (by kernel_rfl) (setRow_bk hB0 [.int .i64 (markZ k i), .int .i64 0]) ⟨rfl, below_setRow hb0 (Nat.le_refl _) _⟩
end Go.Proofs.Ytpojijnjdlnokaa
