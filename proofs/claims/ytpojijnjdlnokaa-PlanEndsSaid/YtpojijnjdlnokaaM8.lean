/- Texts joined: Tb CrcP V32 Crc. -/
import Derived.Test.YtpojijnjdlnokaaM7
import Derived.Maps.AppendAt
/- Lists of structs that a call owns. No program in sight. -/
namespace Go.Proofs.Ytpojijnjdlnokaa
open Go.RowKit
set_option linter.unusedVariables false

/-- v is a list of the call's own, of parts of s cells each -/
def OwnP (w : World) (B : Nat) (t : TypeId) (s : Nat) (v : Value) (ps : List (List Value)) : Prop := (∀ c ∈ ps, c.length = s) ∧ w.ownsRow B t s v ps.length ps.flatten
section
variable {w w' : World} {B B' : Nat} {t : TypeId} {s : Nat} {v : Value} {ps : List (List Value)}
theorem OwnP.nil : OwnP w B t s (.slice none 0 0) [] := ⟨fun c hc => (by cases hc), World.ownsRow_nil w B _ s⟩
theorem OwnP.lt (h : OwnP w B t s v ps) : ∀ k, v.ownBlock = some k → B ≤ k ∧ k < w.heap.size := World.ownsRow.lt h.2
theorem OwnP.blk (h : OwnP w B t s v ps) {w'' : World} (hk : ∀ k, v.ownBlock = some k → w''.heap[k]? = w.heap[k]?) : OwnP w'' B t s v ps := by
  refine ⟨h.1, h.2.1, ?_⟩
  rcases h.2.2 with hn | ⟨g, cap, cur, rfl, hB0, hgg, rest⟩
  · exact .inl hn
  · exact .inr ⟨g, cap, cur, rfl, hB0, (hk g rfl).trans hgg, rest⟩
theorem OwnP.keepAll (h : OwnP w B t s v ps) (hb : Below w.heap.size w w') : OwnP w' B t s v ps := h.blk fun k hk => hb.block k (h.lt k hk).2
theorem OwnP.alloc (h : OwnP w B t s v ps) (o : Obj) : OwnP (w.alloc o) B t s v ps := h.keepAll ((Below.refl _ _).alloc (Nat.le_refl _) o)
theorem OwnP.led (h : OwnP w B t s v ps) (hb : LeD w w') : OwnP w' B t s v ps := by obtain ⟨q, rfl⟩ := hb; exact h
theorem OwnP.mono (h : OwnP w B t s v ps) (hb : B' ≤ B) : OwnP w B' t s v ps := by
  refine ⟨h.1, h.2.1, ?_⟩
  rcases h.2.2 with hn | ⟨g, cap, cur, rfl, hB0, rest⟩
  · exact .inl hn
  · exact .inr ⟨g, cap, cur, rfl, by omega, rest⟩
theorem OwnP.form (h : OwnP w B t s v ps) : ∃ A c, v = .slice A ps.length c ∧ ps.length ≤ c ∧ c ≤ maxLen ∧ RdP w s A ps := by
  have hl := h.2.1
  rcases h.2.2 with ⟨rfl, h0⟩ | ⟨g, cap, cur, rfl, hB0, hgg, hnc, hcm, hs, ht⟩
  · refine ⟨none, 0, by rw [h0], by omega, by simp [maxLen], fun i c hc => ?_⟩
    have := List.eq_nil_of_length_eq_zero h0
    subst this; simp at hc
  · refine ⟨_, cap, rfl, hnc, hcm, fun i c hc => ⟨g, 0, rfl, fun j u hu => ?_⟩⟩
    have hi := (List.getElem?_eq_some_iff.1 hc).1
    have hj := (List.getElem?_eq_some_iff.1 hu).1
    have hcl := h.1 c (List.mem_of_getElem? hc)
    have hij : i * s + j < ps.length * s := by
      have : (i + 1) * s ≤ ps.length * s := Nat.mul_le_mul_right _ hi
      rw [Nat.add_mul, Nat.one_mul] at this
      omega
    rw [cell_of_row _ g (0 + i * s + j) cur t (0, 0) hgg, Nat.zero_add]
    have hcur : cur.toList[i * s + j]? = some u := by
      have e : (cur.toList.take (ps.length * s))[i * s + j]? = some u := by rw [ht, flat_at ps i j c h.1 hc (by omega)]; exact hu
      rw [List.getElem?_take, if_pos hij] at e
      exact e
    rw [← Array.getElem?_toList]; exact hcur
theorem Nc.ownP {Z : Nat} (h : Nc Z w w') (ho : OwnP w B t s v ps) : OwnP w' B t s v ps := by
  refine ⟨ho.1, ho.2.1, ?_⟩
  rcases ho.2.2 with hn | ⟨g, cap, cur, rfl, hB0, hgg, rest⟩
  · exact .inl hn
  · exact .inr ⟨g, cap, cur, rfl, hB0, h.block _ _ hgg (.inr rfl), rest⟩
theorem OwnP.below {w0 : World} (hb : Below B w0 w) (ho : OwnP w B' t s v ps) (hg : w.grownBy w' v.ownBlock) (hB : B ≤ B') (hs : B ≤ w.heap.size) : Below B w0 w' := hb.grown hg hs (fun k hk => Nat.le_trans hB (ho.lt k hk).1)
end
section
variable {P : Program} {n : Cx} {fr : Fr} {w w' : World} {ty : TypeId} {x y z : Operand} {v u : Value} {T T2 e : TypeId} {op : Op}
/-- append(s, x...) of structs, and where the result's row lies -/
theorem ot_append_p {A : Option Addr} {m c s : Nat} {ps news : List (List Value)} {z0 : Value} {bytes : Nat} {B : Nat} (hT : P.underlying T = some (.slice e)) (hi : TyInfo P e z0 s bytes) (hz : z0.cells.size = s) (hs0 : 0 < s) (hx : Fr.ev fr x = some v) (hy : Fr.ev fr y = some (.slice A m c))
    (ho : OwnP w B e s v ps) (hr : RdP w s A news) (hnl : ∀ c ∈ news, c.length = s) (hm : m = news.length) (h0 : 0 < news.length) (h1 : ∀ c ∈ news, ∀ u ∈ c, u.oneCell' = true) (hb : (ps.length + m) * bytes ≤ 140737488355328) (hl : ps.length + m ≤ maxLen) (hB : B ≤ w.heap.size) :
    OT P n (.call ⟨.builtin .append, #[x, y], #[T, T]⟩) ty fr w fun v' w' => OwnP w' B e s v' (ps ++ news) ∧ w.grownBy w' v.ownBlock ∧ (v'.ownBlock = v.ownBlock ∨ v'.ownBlock = some w.heap.size) := by
  obtain ⟨i, i1, i2, i3, i4⟩ := info_parts hi
  obtain ⟨b, o, rfl, _⟩ := hr 0 _ (List.getElem?_eq_getElem h0)
  obtain ⟨v', w', hrun, ho', hg, _, hown⟩ := run_append_own_at (P := P) w B T ty e i z0 s bytes hT i1 i2 i3 i4 hz hs0 v ps.length ps.flatten ho.2 ⟨b, o, none⟩ m c news.flatten (by rw [flat_len news hnl, hm])
    (fun j u hu => by
      have hj := (List.getElem?_eq_some_iff.1 hu).1
      rw [flat_len news hnl] at hj
      have e1 := Nat.div_add_mod j s
      have e2 := Nat.mod_lt j hs0
      have hi' : j / s < news.length := Nat.div_lt_of_lt_mul (by rw [Nat.mul_comm]; exact hj)
      have hc : news[j / s]? = some news[j / s] := List.getElem?_eq_getElem hi'
      have hu' : (news[j / s])[j % s]? = some u := by
        rw [← flat_at news (j / s) (j % s) _ hnl hc e2, show j / s * s + j % s = j by rw [Nat.mul_comm]; exact e1]; exact hu
      obtain ⟨b', o', e3, hcell⟩ := hr (j / s) _ hc
      cases e3
      have := hcell (j % s) u hu'
      rw [addr_add]
      rwa [show o + j / s * s + j % s = o + j by rw [Nat.add_assoc, Nat.mul_comm (j / s)]; omega] at this) (fun u hu => by
      obtain ⟨c, hc, hu⟩ := List.mem_flatten.1 hu
      exact h1 c hc u hu) hl hb hB
  refine ot_of fun a ha => ⟨v', w', by simp [execOp, resolve, invoke, builtin, ha.ev hx, ha.ev hy, hrun, Result.andThen], ⟨fun c hc => ?_, ?_⟩, hg, hown⟩
  · rcases List.mem_append.1 hc with h | h
    · exact ho.1 c h
    · exact hnl c h
  · rw [List.length_append, ← hm, List.flatten_append]
    exact ho'
end
end Go.Proofs.Ytpojijnjdlnokaa

/- Layer 7, plain: the sums as functions on bits; they are linear. No program in sight. -/
namespace Go.Proofs.Ytpojijnjdlnokaa
open Go.RowKit

def crcPoly : BitVec 32 := 0xEDB88320#32
def crcRnd (s : BitVec 32) : BitVec 32 := (s >>> 1) ^^^ (crcPoly &&& -(s &&& 1#32))
def crcRnds : Nat → BitVec 32 → BitVec 32
  | 0, s => s
  | k + 1, s => crcRnd (crcRnds k s)
def crcTab (n : Nat) : BitVec 32 := crcRnds 8 (BitVec.ofNat 32 n)
def crcStep (s : BitVec 32) (z : Int) : BitVec 32 := (s >>> 8) ^^^ crcTab (s.setWidth 8 ^^^ BitVec.ofInt 8 z).toNat
def crcRun (s : BitVec 32) (zs : List Int) : BitVec 32 := zs.foldl crcStep s
def crcGo (s : BitVec 32) (zs : List Int) : BitVec 32 := ~~~ crcRun (~~~ s) zs
def crcOf (parts : List (List Int)) : BitVec 32 := ~~~ parts.foldl crcRun (~~~ 0#32)

theorem crc_neg (s : BitVec 32) : -(s &&& 1#32) = if s.getLsbD 0 then BitVec.allOnes 32 else 0#32 := by
  have h : s &&& 1#32 = if s.getLsbD 0 then 1#32 else 0#32 := by
    apply BitVec.eq_of_getLsbD_eq
    intro i hi
    by_cases h0 : i = 0
    · subst h0
      cases hs : s.getLsbD 0 <;> simp at hs ⊢ <;> simp [hs]
    · have h1 : (1#32).getLsbD i = false := by simp [BitVec.getLsbD_one, h0]
      simp only [BitVec.getLsbD_and, h1, Bool.and_false]
      split <;> simp [h1]
  rw [h]
  split <;> decide
theorem crcRnd_eq (s : BitVec 32) : crcRnd s = (s >>> 1) ^^^ (if s.getLsbD 0 then crcPoly else 0#32) := by
  unfold crcRnd
  rw [crc_neg]
  split
  · rw [show crcPoly &&& BitVec.allOnes 32 = crcPoly from by decide]
  · rw [show crcPoly &&& 0#32 = 0#32 from by decide]
theorem xor_lc (a b c : BitVec 32) : a ^^^ (b ^^^ c) = b ^^^ (a ^^^ c) := by rw [← BitVec.xor_assoc, BitVec.xor_comm a b, BitVec.xor_assoc]
theorem xor_cc (a b : BitVec 32) : a ^^^ (a ^^^ b) = b := by rw [← BitVec.xor_assoc]; simp
theorem crcRnd_xor (a b : BitVec 32) : crcRnd (a ^^^ b) = crcRnd a ^^^ crcRnd b := by
  rw [crcRnd_eq, crcRnd_eq, crcRnd_eq, BitVec.ushiftRight_xor_distrib, BitVec.getLsbD_xor]
  generalize a >>> 1 = x
  generalize b >>> 1 = y
  cases a.getLsbD 0 <;> cases b.getLsbD 0 <;> simp [BitVec.xor_assoc]
  · rw [BitVec.xor_comm]
  · rw [BitVec.xor_comm y, xor_cc]
theorem crcRnds_xor (k : Nat) (a b : BitVec 32) : crcRnds k (a ^^^ b) = crcRnds k a ^^^ crcRnds k b := by
  induction k with
  | zero => rfl
  | succ k ih => simp only [crcRnds, ih, crcRnd_xor]
theorem crcRnds_zero (k : Nat) : crcRnds k 0#32 = 0#32 := by
  induction k with
  | zero => rfl
  | succ k ih => simp only [crcRnds, ih]; decide
/-- rounds that take out noughts shift -/
theorem crcRnds_shift (k : Nat) : ∀ s : BitVec 32, (∀ i, i < k → s.getLsbD i = false) → crcRnds k s = s >>> k := by
  induction k with
  | zero => intro s _; simp [crcRnds]
  | succ k ih =>
    intro s h
    simp only [crcRnds]
    rw [ih s (fun i hi => h i (by omega)), crcRnd_eq]
    have : (s >>> k).getLsbD 0 = false := by simpa using h k (by omega)
    rw [this]
    simp [← BitVec.shiftRight_add]
theorem crcStep_rnds (s : BitVec 32) (z : Int) : crcStep s z = crcRnds 8 (s ^^^ BitVec.setWidth 32 (BitVec.ofInt 8 z)) := by
  have h : s ^^^ BitVec.setWidth 32 (BitVec.ofInt 8 z) = ((s >>> 8) <<< 8) ^^^ BitVec.setWidth 32 (s.setWidth 8 ^^^ BitVec.ofInt 8 z) := by
    apply BitVec.eq_of_getLsbD_eq
    intro i hi
    simp only [BitVec.getLsbD_xor, BitVec.getLsbD_setWidth, BitVec.getLsbD_shiftLeft, BitVec.getLsbD_ushiftRight, hi, decide_true, Bool.true_and]
    by_cases h8 : i < 8
    · simp [h8]
    · simp [h8, show 8 + (i - 8) = i by omega]
  rw [h, crcRnds_xor, crcRnds_shift 8 _ (fun i hi => by simp [hi])]
  unfold crcStep crcTab
  congr 1
  · apply BitVec.eq_of_getLsbD_eq
    intro i hi
    simp only [BitVec.getLsbD_ushiftRight, BitVec.getLsbD_shiftLeft]
    by_cases h1 : 8 + i < 32
    · simp [h1]
    · simp [h1]; exact BitVec.getLsbD_of_ge _ _ (by omega)
  · congr 1
    apply BitVec.eq_of_toNat_eq
    simp [BitVec.toNat_setWidth, BitVec.toNat_ofNat]
theorem crcStep_xor (a b : BitVec 32) (x y z : Int) (h : BitVec.ofInt 8 z = BitVec.ofInt 8 x ^^^ BitVec.ofInt 8 y) : crcStep (a ^^^ b) z = crcStep a x ^^^ crcStep b y := by
  rw [crcStep_rnds, crcStep_rnds, crcStep_rnds, ← crcRnds_xor, h]
  congr 1
  rw [BitVec.setWidth_xor]
  generalize BitVec.setWidth 32 (BitVec.ofInt 8 x) = u
  generalize BitVec.setWidth 32 (BitVec.ofInt 8 y) = v
  rw [BitVec.xor_assoc, BitVec.xor_assoc, xor_lc b u v]
theorem crcRun_xor : ∀ (xs ys zs : List Int) (a b : BitVec 32), xs.length = ys.length → zs.length = xs.length → (∀ i, i < xs.length → BitVec.ofInt 8 (zs.getD i 0) = BitVec.ofInt 8 (xs.getD i 0) ^^^ BitVec.ofInt 8 (ys.getD i 0)) →
    crcRun (a ^^^ b) zs = crcRun a xs ^^^ crcRun b ys
  | [], ys, zs, a, b, h1, h2, _ => by
    have e1 : ys = [] := List.eq_nil_of_length_eq_zero (by simpa using h1.symm)
    have e2 : zs = [] := List.eq_nil_of_length_eq_zero (by simpa using h2)
    subst e1; subst e2; rfl
  | x :: xs, [], zs, a, b, h1, _, _ => by simp at h1
  | x :: xs, y :: ys, [], a, b, _, h2, _ => by simp at h2
  | x :: xs, y :: ys, z :: zs, a, b, h1, h2, h => by
    have h0 := h 0 (by simp)
    simp at h0
    have ih := crcRun_xor xs ys zs (crcStep a x) (crcStep b y) (by simpa using h1) (by simpa using h2) fun i hi => by have := h (i + 1) (by simpa using hi); simpa using this
    show crcRun (crcStep (a ^^^ b) z) zs = crcRun (crcStep a x) xs ^^^ crcRun (crcStep b y) ys
    rw [crcStep_xor a b x y z h0, ih]
theorem crcRun_app (s : BitVec 32) (a b : List Int) : crcRun s (a ++ b) = crcRun (crcRun s a) b := by simp [crcRun]
theorem crcOf_one (a : List Int) : crcOf [a] = crcGo 0#32 a := rfl
/-- the law's sums -/
theorem crcOf_parts (xs : List Int) {lo hi : Nat} (h : lo ≤ hi) : crcOf [xs.take lo, (xs.drop lo).take (hi - lo), [], xs.drop hi] = crcOf [xs] := by
  unfold crcOf
  simp only [List.foldl_cons, List.foldl_nil]
  rw [← crcRun_app, ← crcRun_app, ← crcRun_app]
  have : xs.take lo ++ ((xs.drop lo).take (hi - lo) ++ ([] ++ xs.drop hi)) = xs := by
    rw [List.nil_append]
    have h2 : (xs.drop lo).take (hi - lo) ++ xs.drop hi = xs.drop lo := by
      have : xs.drop hi = (xs.drop lo).drop (hi - lo) := by rw [List.drop_drop]; congr 1; omega
      rw [this, List.take_append_drop]
    rw [h2, List.take_append_drop]
  rw [this]
theorem crcGo_parts (xs : List Int) (lo : Nat) : crcGo (crcOf [xs.take lo]) (xs.drop lo) = crcOf [xs] := by
  unfold crcGo crcOf
  simp only [List.foldl_cons, List.foldl_nil]
  rw [BitVec.not_not, ← crcRun_app, List.take_append_drop]
theorem not_xor (a b : BitVec 32) : ~~~ a ^^^ ~~~ b = a ^^^ b := by
  apply BitVec.eq_of_getLsbD_eq
  intro i hi
  simp [hi]
theorem crcOf_diff (xs ys ds zs : List Int) (h1 : xs.length = ys.length) (h2 : ds.length = xs.length) (h3 : zs.length = xs.length) (hd : ∀ i, i < xs.length → BitVec.ofInt 8 (ds.getD i 0) = BitVec.ofInt 8 (xs.getD i 0) ^^^ BitVec.ofInt 8 (ys.getD i 0))
    (hz : ∀ i, i < xs.length → zs.getD i 0 = 0) : crcOf [xs] ^^^ crcOf [ys] = crcOf [ds] ^^^ crcOf [zs] := by
  unfold crcOf
  simp only [List.foldl_cons, List.foldl_nil]
  rw [not_xor, not_xor, ← crcRun_xor xs ys ds _ _ h1 h2 hd, ← crcRun_xor ds zs ds _ _ (by omega) rfl fun i hi => by rw [hz i (by omega)]; simp]
end Go.Proofs.Ytpojijnjdlnokaa

/- The rules of operations on 32 bits and on bytes, as functions on bits. No program in sight. -/
namespace Go.Proofs.Ytpojijnjdlnokaa
open Go.RowKit
set_option linter.unusedVariables false

theorem u32_of (x : BitVec 32) : BitVec.ofInt 32 (x.toNat : Int) = x := by rw [BitVec.ofInt_natCast]; simp
theorem u32_fit (x : BitVec 32) : IntKind.u32.wrap (x.toNat : Int) = x.toNat := by rw [IntKind.wrap_u32]; have := x.isLt; omega
theorem u8_of (x : BitVec 8) : BitVec.ofInt 8 (x.toNat : Int) = x := by rw [BitVec.ofInt_natCast]; simp
theorem u8_fit (x : BitVec 8) : IntKind.u8.wrap (x.toNat : Int) = x.toNat := by rw [IntKind.wrap_u8]; have := x.isLt; omega
theorem u8_int {z : Int} (h0 : 0 ≤ z) (h1 : z ≤ 255) : ((BitVec.ofInt 8 z).toNat : Int) = z := by
  rw [BitVec.toNat_ofInt]; simp; omega
theorem u32_int {z : Int} (h0 : 0 ≤ z) (h1 : z ≤ 4294967295) : ((BitVec.ofInt 32 z).toNat : Int) = z := by
  rw [BitVec.toNat_ofInt]; simp; omega

section
variable {P : Program} {n : Cx} {fr : Fr} {w : World} {ty : TypeId} {x y z : Operand} {m p : Int} {T T2 : TypeId} {k2 : IntKind}
theorem os_xor32 (a b : BitVec 32) (hx : Fr.ev fr x = some (.int .u32 m)) (hm : m = (a.toNat : Int)) (hy : Fr.ev fr y = some (.int .u32 p)) (hp : p = (b.toNat : Int)) : OS P n (.binOp .xor T x y T2) ty fr w (.int .u32 ((a ^^^ b).toNat : Int)) w :=
  os_xor hx hy (by subst hm; subst hp; show IntKind.u32.wrap ((BitVec.ofInt 32 _ ^^^ BitVec.ofInt 32 _).toNat : Nat) = _; rw [u32_of, u32_of]; exact u32_fit _)
theorem os_and32 (a b : BitVec 32) (hx : Fr.ev fr x = some (.int .u32 m)) (hm : m = (a.toNat : Int)) (hy : Fr.ev fr y = some (.int .u32 p)) (hp : p = (b.toNat : Int)) : OS P n (.binOp .and T x y T2) ty fr w (.int .u32 ((a &&& b).toNat : Int)) w :=
  os_and hx hy (by subst hm; subst hp; show IntKind.u32.wrap ((BitVec.ofInt 32 _ &&& BitVec.ofInt 32 _).toNat : Nat) = _; rw [u32_of, u32_of]; exact u32_fit _)
theorem os_shr32 (a : BitVec 32) (s : Nat) (hx : Fr.ev fr x = some (.int .u32 m)) (hm : m = (a.toNat : Int)) (hy : Fr.ev fr y = some (.int k2 p)) (hp : p = (s : Int)) : OS P n (.binOp .shr T x y T2) ty fr w (.int .u32 ((a >>> s).toNat : Int)) w :=
  os_shr hx hy (by omega) (by
    subst hm; subst hp
    show (a.toNat : Int).fdiv (2 ^ min ((s : Int)).toNat 32) = _
    have e : ((s : Int)).toNat = s := by omega
    rw [e, BitVec.toNat_ushiftRight, Nat.shiftRight_eq_div_pow, Int.fdiv_eq_ediv_of_nonneg _ (by exact_mod_cast Nat.zero_le _)]
    by_cases h : s ≤ 32
    · rw [Nat.min_eq_left h]; simp
    · rw [Nat.min_eq_right (by omega)]
      have h1 : a.toNat / 2 ^ s = 0 := Nat.div_eq_of_lt (Nat.lt_of_lt_of_le a.isLt (Nat.pow_le_pow_right (by omega) (by omega)))
      have h2 : a.toNat / 2 ^ 32 = 0 := Nat.div_eq_of_lt a.isLt
      rw [h1]
      have : ((a.toNat : Int) / 2 ^ 32) = ((a.toNat / 2 ^ 32 : Nat) : Int) := by simp
      rw [this, h2])
theorem os_neg32 (a : BitVec 32) (hx : Fr.ev fr x = some (.int .u32 m)) (hm : m = (a.toNat : Int)) : OS P n (.unOp .neg T x) ty fr w (.int .u32 ((-a).toNat : Int)) w :=
  os_neg hx (by subst hm; rw [IntKind.wrap_u32, BitVec.toNat_neg]; have := a.isLt; simp; omega)
theorem os_com32 (a : BitVec 32) (hx : Fr.ev fr x = some (.int .u32 m)) (hm : m = (a.toNat : Int)) : OS P n (.unOp .xor T x) ty fr w (.int .u32 ((~~~ a).toNat : Int)) w :=
  os_com hx (by
    subst hm
    show IntKind.u32.wrap ((BitVec.ofInt 32 4294967295 ^^^ BitVec.ofInt 32 _).toNat : Nat) = _
    rw [u32_of, show BitVec.ofInt 32 4294967295 = BitVec.allOnes 32 from by decide, BitVec.allOnes_xor]; exact u32_fit _)
theorem os_xor8 (a b : BitVec 8) (hx : Fr.ev fr x = some (.int .u8 m)) (hm : m = (a.toNat : Int)) (hy : Fr.ev fr y = some (.int .u8 p)) (hp : p = (b.toNat : Int)) : OS P n (.binOp .xor T x y T2) ty fr w (.int .u8 ((a ^^^ b).toNat : Int)) w :=
  os_xor hx hy (by subst hm; subst hp; show IntKind.u8.wrap ((BitVec.ofInt 8 _ ^^^ BitVec.ofInt 8 _).toNat : Nat) = _; rw [u8_of, u8_of]; exact u8_fit _)
/-- a byte of 32 bits -/
theorem os_low8 (a : BitVec 32) (h1 : P.underlying T = some (.int .u32)) (h2 : P.underlying T2 = some (.int .u8)) (hx : Fr.ev fr x = some (.int .u32 m)) (hm : m = (a.toNat : Int)) : OS P n (.convert T T2 x) ty fr w (.int .u8 ((a.setWidth 8).toNat : Int)) w :=
  os_conv h1 h2 hx (by subst hm; rw [IntKind.wrap_u8, BitVec.toNat_setWidth]; simp)
end
end Go.Proofs.Ytpojijnjdlnokaa

/- Layer 7: the contracts of the program's sums. -/
namespace Go.Proofs.Ytpojijnjdlnokaa
open Go.RowKit
set_option linter.unusedVariables false

section
variable {P : Program} {n : Cx} {fr : Fr} {w : World} {ty : TypeId} {x y : Operand} {m : Int} {T e : TypeId} {k : IntKind} {v : Value}
theorem os_ixa {g i l : Nat} (hT : P.underlying T = some (.array l e)) (hs : ∀ w, (sizeOf e).run P w = .ok 1 w) (hx : Fr.ev fr x = some (.pointer (some ⟨g, 0, none⟩))) (hy : Fr.ev fr y = some (.int k m)) (hm : m = (i : Int)) (h : i < l) : OS P n (.indexAddr T x y) ty fr w (.pointer (some ⟨g, 0 + i, none⟩)) w := by
  subst hm
  exact os_of fun a ha => by simp [execOp, ha.ev hx, ha.ev hy, Instr.indexAt, asIntOf, run_underlying hT, Instr.sureAddr, h, hs, addr_add]
theorem os_allocB {zc : Array Value} {cs : List Value} (hz : ∀ w, (zeroValue T).run P w = .ok (.agg zc) w) (he : zc = cs.toArray) : OS P n (.alloc T) ty fr w (.pointer (some ⟨w.heap.size, 0, none⟩)) (w.alloc (.cells cs.toArray T)) := by
  subst he
  exact os_alloc hz
end

section
variable {P : Program} {n : Cx} {fr : Fr} {w : World} {fn : Func} {U : Value → World → Prop} {t g : Nat} {T e : TypeId} {cs : List Value} {d : TypeDesc}
/-- a named result that lies in memory -/
theorem post_cell (hf : fn.results = #[.cell t T]) (hg : Fr.get fr t = some (.pointer (some ⟨g, 0, none⟩))) (hu : P.underlying T = some d) (hd : (match d with | .struct _ | .array _ _ => true | _ => false) = true) (hs : (P.info? T).map (·.size) = some cs.length) (hB : Bk w g cs e) (h : U (.agg cs.toArray) w) : Post P n fn U .ret fr w := by
  unfold Post
  refine ⟨_, fun a ha => ?_, h⟩
  have := run_loadVar_row (P := P) w g e T cs.toArray (0, 0) d hB hu hd (by simpa using hs)
  have h1 : a.tmps.getD t undef = .pointer (some ⟨g, 0, none⟩) := by simp [Array.getD_eq_getD_getElem?, ha.at_ t _ hg]
  simp only [Array.getD_eq_getD_getElem?] at h1
  simp [results, hf, h1, asAddr, this]
end

/-- lists of lists -/
def RdS (w : World) (k : IntKind) (A : Option Addr) (ls : List (List Int)) : Prop :=
  0 < ls.length → ∃ b off, A = some ⟨b, off, none⟩ ∧ ∀ i, i < ls.length → ∃ Ai ci, w.cell? ⟨b, off + i, none⟩ = some (.slice Ai (ls.getD i []).length ci) ∧ Rd w k Ai (ls.getD i []) ∧ (ls.getD i []).length ≤ ci ∧ (ls.getD i []).length ≤ 140737488351232
theorem RdS.nil {w k A} : RdS w k A [] := fun h => absurd h (by simp)
theorem RdS.at_ {w k A ls} (h : RdS w k A ls) {i : Nat} (hi : i < ls.length) : ∃ b off Ai ci, A = some ⟨b, off, none⟩ ∧ w.cell? ⟨b, off + i, none⟩ = some (.slice Ai (ls.getD i []).length ci) ∧ Rd w k Ai (ls.getD i []) ∧ (ls.getD i []).length ≤ ci ∧ (ls.getD i []).length ≤ 140737488351232 := by
  obtain ⟨b, off, e, hc⟩ := h (by omega)
  obtain ⟨Ai, ci, h1⟩ := hc i hi
  exact ⟨b, off, Ai, ci, e, h1⟩
theorem RdS.keep {w w' : World} {k A ls} (h : RdS w k A ls) (hb : Below w.heap.size w w') : RdS w' k A ls := by
  intro hl
  obtain ⟨b, off, e, hc⟩ := h hl
  refine ⟨b, off, e, fun i hi => ?_⟩
  obtain ⟨Ai, ci, h1, h2, h3, h4⟩ := hc i hi
  have := World.block_lt_of_cell? w ⟨b, off + i, none⟩ h1
  exact ⟨Ai, ci, (hb.cell (p := ⟨b, off + i, none⟩) this).trans h1, h2.keep hb, h3, h4⟩
theorem RdS.led {w w' : World} {k A ls} (h : RdS w k A ls) (hb : LeD w w') : RdS w' k A ls := by obtain ⟨q, rfl⟩ := hb; exact h

def crcCellsTo (k : Nat) : List Value := (List.range 256).map fun n => if n < k then .int .u32 ((crcTab n).toNat : Int) else .int .u32 0
def crcCells : List Value := crcCellsTo 256
theorem crcCellsTo_len (k : Nat) : (crcCellsTo k).length = 256 := by simp [crcCellsTo]
theorem crcCellsTo_set (k : Nat) (hk : k < 256) : (crcCellsTo k).set k (.int .u32 ((crcTab k).toNat : Int)) = crcCellsTo (k + 1) := by
  apply List.ext_getElem
  · simp [crcCellsTo]
  · intro i h1 h2
    rw [List.getElem_set]
    simp only [crcCellsTo, List.getElem_map, List.getElem_range]
    by_cases h : k = i
    · subst h; simp
    · rw [if_neg h]
      by_cases h3 : i < k
      · rw [if_pos h3, if_pos (by omega)]
      · rw [if_neg h3, if_neg (by omega)]
theorem crcCells_at {i : Nat} (hi : i < 256) : nthV crcCells i = some (.int .u32 ((crcTab i).toNat : Int)) := by
  rw [nthV_eq]
  simp [crcCells, crcCellsTo, hi]
theorem crcCellsTo_some (k : Nat) {i : Nat} (hi : i < 256) : ∃ v, nthV (crcCellsTo k) i = some v := by
  rw [nthV_eq]
  exact ⟨_, List.getElem?_eq_getElem (by rw [crcCellsTo_len]; exact hi)⟩
theorem crcCells_one : oneCells crcCells = true := by
  have : ∀ l : List Value, (∀ v ∈ l, v.oneCell' = true) → oneCells l = true := by
    intro l
    induction l with
    | nil => intro _; rfl
    | cons v r ih => intro h; simp only [oneCells, Bool.and_eq_true]; exact ⟨h v (by simp), ih fun u hu => h u (by simp [hu])⟩
  refine this _ fun v hv => ?_
  simp only [crcCells, crcCellsTo, List.mem_map] at hv
  obtain ⟨n, _, rfl⟩ := hv
  split <;> rfl
theorem zc_table : Try.zeroCells231 = (crcCellsTo 0).toArray := by kernel_rfl

set_option maxHeartbeats 1000000 in
theorem sum_filled (w : World) : Gives Try.prog 172 #[] w fun v w' => v = .agg crcCells.toArray ∧ Below w.heap.size w w' := by
  have hb0 : Below w.heap.size w (w.alloc (.cells (crcCellsTo 0).toArray 231)) := (Below.refl _ w).alloc (Nat.le_refl _) _
  have hB0 := bk_new w (crcCellsTo 0) 231
  refine gives_enter Try.call172 Try.func172 rfl rfl rfl (by kernel_rfl) ?_
  refine v_seq ?_
  refine v_region ?_
  refine vl_val (os_allocB Try.zeroValue231 zc_table) ?_
  refine vl_nil ?_
  refine v_seq ?_
  refine v_seq ?_
  refine v_region ?_
  refine vl_val (os_move rfl) ?_
  refine vl_nil ?_
  refine v_block ?_
  refine v_loop [(0, _)] (fun (k : Nat) => [(3, .int .i64 k)]) (fun k w' => k ≤ 256 ∧ Bk w' w.heap.size (crcCellsTo k) 231 ∧ Below w.heap.size w w') (fun k => 256 - k) (0) ⟨rfl, trivial⟩ ⟨rfl, trivial⟩ (⟨by omega, hB0, hb0⟩) ?_
  rintro k W ⟨hk, hB, hb⟩
  refine v_seq ?_
  refine v_region ?_
  refine vl_val (os_lss rfl rfl) ?_
  refine vl_nil ?_
  refine v_seq ?_
  refine v_cond_d rfl (fun hlt => ?_) (fun hlt => ?_)
  · refine v_skip ?_
    refine v_seq ?_
    refine v_block ?_
    refine v_seq ?_
    refine v_region ?_
    refine vl_val (os_move rfl) ?_
    refine vl_val (os_assign rfl) ?_
    refine vl_nil ?_
    refine v_seq ?_
    refine v_region ?_
    refine vl_val (os_move rfl) ?_
    refine vl_val (os_conv Try.underlying3 Try.underlying171 rfl (show IntKind.u32.wrap (k : Int) = ((crcRnds 0 (BitVec.ofNat 32 k)).toNat : Int) by rw [IntKind.wrap_u32]; simp [crcRnds])) ?_
    refine vl_val (os_assign rfl) ?_
    refine vl_nil ?_
    refine v_seq ?_
    refine v_seq ?_
    refine v_region ?_
    refine vl_val (os_move rfl) ?_
    refine vl_nil ?_
    refine v_block ?_
    refine v_loop [(0, _), (1, _), (3, _)] (fun (j : Nat) => [(2, .int .u32 ((crcRnds j (BitVec.ofNat 32 k)).toNat : Int)), (8, .int .i64 j)]) (fun j w' => j ≤ 8 ∧ w' = W) (fun j => 8 - j) (0) ⟨rfl, rfl, rfl, trivial⟩ ⟨rfl, rfl, trivial⟩ (⟨by omega, rfl⟩) ?_
    rintro j W ⟨hj, rfl⟩
    refine v_seq ?_
    refine v_region ?_
    refine vl_val (os_lss rfl rfl) ?_
    refine vl_nil ?_
    refine v_seq ?_
    refine v_cond_d rfl (fun hj8 => ?_) (fun hj8 => ?_)
    · have hn : crcRnds (j + 1) (BitVec.ofNat 32 k) = crcRnd (crcRnds j (BitVec.ofNat 32 k)) := rfl
      refine v_skip ?_
      refine v_seq ?_
      refine v_block ?_
      refine v_region ?_
      refine vl_val (os_move rfl) ?_
      refine vl_val (os_shr32 (crcRnds j (BitVec.ofNat 32 k)) 1 rfl rfl rfl rfl) ?_
      refine vl_val (os_move rfl) ?_
      refine vl_val (os_and32 (crcRnds j (BitVec.ofNat 32 k)) 1#32 rfl rfl rfl rfl) ?_
      refine vl_val (os_neg32 (crcRnds j (BitVec.ofNat 32 k) &&& 1#32) rfl rfl) ?_
      refine vl_val (os_and32 crcPoly (-(crcRnds j (BitVec.ofNat 32 k) &&& 1#32)) rfl rfl rfl rfl) ?_
      refine vl_val (os_xor32 (crcRnds j (BitVec.ofNat 32 k) >>> 1) (crcPoly &&& -(crcRnds j (BitVec.ofNat 32 k) &&& 1#32)) rfl rfl rfl rfl) ?_
      refine vl_val (os_assign rfl) ?_
      refine vl_nil ?_
      refine v_region ?_
      refine vl_val (os_addi rfl rfl (by omega)) ?_
      refine vl_val (os_move rfl) ?_
      refine vl_nil ?_
      exact ⟨j + 1, ⟨rfl, rfl, rfl, trivial⟩, ⟨rfl, rfl, trivial⟩, ⟨by omega, rfl⟩, by dsimp only; omega⟩
    · obtain rfl : j = 8 := by omega
      obtain ⟨u, hu⟩ := crcCellsTo_some k (i := k) (by omega)
      refine v_exit ?_
      refine v_region ?_
      refine vl_val (os_move rfl) ?_
      refine vl_val (os_move rfl) ?_
      refine vl_val (os_ixa Try.underlying231 Try.sizeOf171 rfl rfl (i := k) rfl (by omega)) ?_
      refine vl_unit (ou_store Try.sizeOf171 rfl rfl rfl (hB.cell hu) (hB.free _)) ?_
      have hs := hB.set k (.int .u32 ((crcTab k).toNat : Int))
      rw [crcCellsTo_set k (by omega)] at hs
      refine vl_nil ?_
      refine v_region ?_
      refine vl_val (os_addi rfl rfl (by omega)) ?_
      refine vl_val (os_move rfl) ?_
      refine vl_nil ?_
      exact ⟨k + 1, ⟨rfl, trivial⟩, ⟨rfl, trivial⟩, ⟨by omega, hs, below_set hb (Nat.le_refl _) _ _⟩, by dsimp only; omega⟩
  · obtain rfl : k = 256 := by omega
    refine v_exit ?_
    refine v_seq ?_
    refine v_region ?_
    refine vl_val (os_loadB Try.underlying231 rfl (by rw [crcCellsTo_len]; kernel_rfl) rfl hB) ?_
    refine vl_unit (ou_storeB (by rw [crcCellsTo_len]; kernel_rfl) rfl rfl hB rfl crcCells_one) ?_
    have hE := setRow_bk hB (crcCellsTo 256)
    refine vl_nil ?_
    refine v_ret ?_
    exact post_cell rfl rfl Try.underlying231 rfl (by rw [crcCellsTo_len]; kernel_rfl) hE ⟨rfl, below_setRow hb (Nat.le_refl _) _⟩

/-- each number is a byte -/
def AllB (zs : List Int) : Prop := ∀ z ∈ zs, 0 ≤ z ∧ z ≤ 255
theorem AllB.at_ {zs : List Int} (h : AllB zs) (k : Nat) : 0 ≤ zs.getD k 0 ∧ zs.getD k 0 ≤ 255 := by
  by_cases hk : k < zs.length
  · simp [hk]; exact h _ (List.getElem_mem _)
  · simp [hk]
theorem crcRun_take {s : BitVec 32} {zs : List Int} {k : Nat} (hk : k < zs.length) : crcRun s (zs.take (k + 1)) = crcStep (crcRun s (zs.take k)) (zs.getD k 0) := by
  rw [List.take_succ_eq_append_getElem hk, crcRun_app]
  simp [crcRun, hk]

theorem sum_run (g : Nat) (s : BitVec 32) (A : Option Addr) (n c : Nat) (zs : List Int) (w : World) (hB : Bk w g crcCells 231) (ha : Rd w .u8 A zs) (hn : n = zs.length) (hn' : n ≤ 9223372036854775807) (hz : AllB zs) :
    Gives Try.prog 173 #[.pointer (some ⟨g, 0, none⟩), .int .u32 (s.toNat : Int), .slice A n c] w fun v w' => v = .int .u32 ((crcRun s zs).toNat : Int) ∧ w' = w := by
  refine gives_enter Try.call173 Try.func173 rfl rfl rfl (by kernel_rfl) ?_
  refine v_seq ?_
  refine v_region ?_
  refine vl_val (os_assign rfl) ?_
  refine vl_nil ?_
  refine v_seq ?_
  refine v_seq ?_
  refine v_region ?_
  refine vl_val (os_move rfl) ?_
  refine vl_val (os_len Try.underlying22 rfl) ?_
  refine vl_val (os_move rfl) ?_
  refine vl_nil ?_
  refine v_block ?_
  refine v_loop [(0, _), (9, _), (10, _)] (fun (k : Nat) => [(1, .int .u32 ((crcRun s (zs.take k)).toNat : Int)), (11, .int .i64 k)]) (fun k w' => k ≤ n ∧ w' = w) (fun k => n - k) (0) ⟨rfl, rfl, rfl, trivial⟩ ⟨rfl, rfl, trivial⟩ (⟨by omega, rfl⟩) ?_
  rintro k w ⟨hk, rfl⟩
  refine v_seq ?_
  refine v_region ?_
  refine vl_val (os_lss rfl rfl) ?_
  refine vl_nil ?_
  refine v_seq ?_
  refine v_cond_d rfl (fun hlt => ?_) (fun hlt => ?_)
  · obtain ⟨b1, o1, rfl, c1⟩ := ha.at_ (i := k) (by omega)
    have hb := hz.at_ k
    have e1 : (zs.getD k 0) = ((BitVec.ofInt 8 (zs.getD k 0)).toNat : Int) := (u8_int hb.1 hb.2).symm
    have hst := crcRun_take (s := s) (zs := zs) (k := k) (by omega)
    generalize crcRun s (zs.take k) = S at *
    refine v_skip ?_
    refine v_seq ?_
    refine v_block ?_
    refine v_seq ?_
    refine v_region ?_
    refine vl_val (os_ix Try.underlying22 Try.sizeOf5 rfl rfl (i := k) (by omega) (by omega)) ?_
    refine vl_val (os_load Try.isAgg5 rfl (c1)) ?_
    refine vl_val (os_assign rfl) ?_
    refine vl_nil ?_
    refine v_region ?_
    refine vl_val (os_move rfl) ?_
    refine vl_val (os_shr32 S 8 rfl rfl rfl rfl) ?_
    refine vl_val (os_move rfl) ?_
    refine vl_val (os_move rfl) ?_
    refine vl_val (os_low8 S Try.underlying171 Try.underlying5 rfl rfl) ?_
    refine vl_val (os_move rfl) ?_
    refine vl_val (os_xor8 (S.setWidth 8) (BitVec.ofInt 8 (zs.getD k 0)) rfl rfl rfl e1) ?_
    refine vl_val (os_nilCheck rfl) ?_
    refine vl_val (os_ixa Try.underlying231 Try.sizeOf171 rfl rfl (i := (S.setWidth 8 ^^^ BitVec.ofInt 8 (zs.getD k 0)).toNat) rfl (BitVec.isLt _)) ?_
    refine vl_val (os_load Try.isAgg171 rfl (hB.cell (crcCells_at (BitVec.isLt _)))) ?_
    refine vl_val (os_xor32 (S >>> 8) (crcTab (S.setWidth 8 ^^^ BitVec.ofInt 8 (zs.getD k 0)).toNat) rfl rfl rfl rfl) ?_
    refine vl_val (os_assign rfl) ?_
    refine vl_nil ?_
    refine v_region ?_
    refine vl_val (os_addi rfl rfl (by omega)) ?_
    refine vl_val (os_move rfl) ?_
    refine vl_nil ?_
    exact ⟨k + 1, ⟨rfl, rfl, rfl, trivial⟩, ⟨by rw [hst]; rfl, rfl, trivial⟩, ⟨by omega, rfl⟩, by dsimp only; omega⟩
  · refine v_exit ?_
    refine v_seq ?_
    refine v_region ?_
    refine vl_val (os_move rfl) ?_
    refine vl_val (os_assign rfl) ?_
    refine vl_nil ?_
    refine v_ret ?_
    exact post_ret rfl rfl (⟨by rw [List.take_of_length_le (by omega)], rfl⟩)

theorem sum_Of (A : Option Addr) (n c : Nat) (ls : List (List Int)) (w : World) (ha : RdS w .u8 A ls) (hn : n = ls.length) (hn' : n ≤ 9223372036854775807) (hz : ∀ l ∈ ls, AllB l) :
    Gives Try.prog 163 #[.slice A n c] w fun v w' => v = .int .u32 ((crcOf ls).toNat : Int) ∧ Below w.heap.size w w' := by
  refine gives_enter Try.call163 Try.func163 rfl rfl rfl (by kernel_rfl) ?_
  refine v_seq ?_
  refine v_region ?_
  refine vl_val (os_assign rfl) ?_
  refine vl_nil ?_
  refine v_seq ?_
  refine v_region ?_
  refine vl_call (sum_filled w) rfl ?_
  rintro v w1 ⟨rfl, hb1⟩
  refine vl_val (os_allocB Try.zeroValue231 zc_table) ?_
  have hB0 := bk_new w1 (crcCellsTo 0) 231
  have hb2 : Below w.heap.size w (w1.alloc (.cells (crcCellsTo 0).toArray 231)) := hb1.alloc hb1.size _
  refine vl_unit (ou_storeB (by rw [show crcCells.length = 256 from crcCellsTo_len _]; kernel_rfl) rfl rfl hB0 ((crcCellsTo_len 0).trans (crcCellsTo_len 256).symm) crcCells_one) ?_
  have hB := setRow_bk hB0 crcCells
  have hb3 := below_setRow hb2 hb1.size crcCells.toArray
  have ha3 := ha.keep hb3
  generalize (w1.alloc (.cells (crcCellsTo 0).toArray 231)).setRow w1.heap.size crcCells.toArray = w3 at *
  refine vl_nil ?_
  refine v_seq ?_
  refine v_region ?_
  refine vl_val (os_assign rfl) ?_
  refine vl_nil ?_
  refine v_seq ?_
  refine v_seq ?_
  refine v_region ?_
  refine vl_val (os_move rfl) ?_
  refine vl_val (os_len Try.underlying23 rfl) ?_
  refine vl_val (os_move rfl) ?_
  refine vl_nil ?_
  refine v_block ?_
  refine v_loop [(3, _), (8, _), (9, _)] (fun (k : Nat) => [(4, .int .u32 (((ls.take k).foldl crcRun (~~~ 0#32)).toNat : Int)), (10, .int .i64 k)]) (fun k w' => k ≤ n ∧ w' = w3) (fun k => n - k) (0) ⟨rfl, rfl, rfl, trivial⟩ ⟨rfl, rfl, trivial⟩ (⟨by omega, rfl⟩) ?_
  rintro k w3 ⟨hk, rfl⟩
  refine v_seq ?_
  refine v_region ?_
  refine vl_val (os_lss rfl rfl) ?_
  refine vl_nil ?_
  refine v_seq ?_
  refine v_cond_d rfl (fun hlt => ?_) (fun hlt => ?_)
  · obtain ⟨b1, o1, Ai, ci, rfl, c1, r1, l1, l2⟩ := ha3.at_ (i := k) (by omega)
    have hst : (ls.take (k + 1)).foldl crcRun (~~~ 0#32) = crcRun ((ls.take k).foldl crcRun (~~~ 0#32)) (ls.getD k []) := by
      rw [List.take_succ_eq_append_getElem (by omega), List.foldl_append]; simp [show k < ls.length by omega]
    refine v_skip ?_
    refine v_seq ?_
    refine v_block ?_
    refine v_seq ?_
    refine v_region ?_
    refine vl_val (os_ix Try.underlying23 Try.sizeOf22 rfl rfl (i := k) (by omega) (by omega)) ?_
    refine vl_val (os_load Try.isAgg22 rfl (c1)) ?_
    refine vl_val (os_assign rfl) ?_
    refine vl_nil ?_
    refine v_region ?_
    refine vl_val (os_move rfl) ?_
    refine vl_val (os_move rfl) ?_
    refine vl_call (sum_run _ _ Ai _ ci (ls.getD k []) w3 hB r1 rfl (by omega) (by rw [List.getD_eq_getElem?_getD, List.getElem?_eq_getElem (by omega)]; exact hz _ (List.getElem_mem _))) rfl ?_
    rintro v w3 ⟨rfl, rfl⟩
    refine vl_val (os_assign rfl) ?_
    refine vl_nil ?_
    refine v_region ?_
    refine vl_val (os_addi rfl rfl (by omega)) ?_
    refine vl_val (os_move rfl) ?_
    refine vl_nil ?_
    exact ⟨k + 1, ⟨rfl, rfl, rfl, trivial⟩, ⟨by rw [hst]; rfl, rfl, trivial⟩, ⟨by omega, rfl⟩, by dsimp only; omega⟩
  · refine v_exit ?_
    refine v_seq ?_
    refine v_region ?_
    refine vl_val (os_move rfl) ?_
    refine vl_val (os_com32 ((ls.take k).foldl crcRun (~~~ 0#32)) rfl rfl) ?_
    refine vl_val (os_assign rfl) ?_
    refine vl_nil ?_
    refine v_ret ?_
    exact post_ret rfl rfl (⟨by rw [List.take_of_length_le (by omega)]; rfl, hb3⟩)
end Go.Proofs.Ytpojijnjdlnokaa
