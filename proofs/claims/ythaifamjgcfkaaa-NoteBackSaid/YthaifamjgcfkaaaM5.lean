/- Texts joined: NtQ NtS Ls NtW Vp Ty CrcP V32 Crc. -/
import Derived.Test.YthaifamjgcfkaaaM4
import Derived.Test.YthaifamjgcfkaaaProg
/- Layer 15, plain: a report's bytes; what bytes are as a report. No program in sight. -/
namespace Go.Proofs.Ythaifamjgcfkaaa
open Go.RowKit
set_option linter.unusedVariables false

structure NoteP where
  st : Int
  sq : Int
  n : Int
  cs : List (Int × Int)
def NoteV.p (d : NoteV) : NoteP := ⟨d.st, d.sq, d.n, d.cs⟩
def rightP (q : NoteP) : Bool := cntOk q.n 0 q.cs && inB q.st 0 65535 && inB q.sq 1 2147483647 && inB q.n 1 255
theorem rightN_p (d : NoteV) : rightN d = rightP d.p := rfl
def cntB (cs : List (Int × Int)) : List Int := cs.flatMap fun c => numBytes c.1 1 ++ numBytes c.2 2
/-- a report's bytes -/
def noteB (q : NoteP) : List Int := numBytes 2 1 ++ (numBytes q.st 2 ++ (numBytes q.sq 4 ++ (numBytes q.n 1 ++ (numBytes (q.cs.length : Int) 1 ++ cntB q.cs))))
/-- the number in so many bytes from a place on -/
def numAt (p : List Int) (i s : Nat) : Int := numOf ((p.drop i).take s)
def cntsAt (p : List Int) (i k : Nat) : List (Int × Int) := (List.range k).map fun j => (numAt p (i + 3 * j) 1, numAt p (i + 1 + 3 * j) 2)
def noteP (p : List Int) : NoteP := ⟨numAt p 1 2, numAt p 3 4, numAt p 7 1, cntsAt p 9 (numAt p 8 1).toNat⟩
def goodP (p : List Int) : Bool := decide (9 ≤ p.length ∧ (p.length : Int) = 9 + 3 * numAt p 8 1)
def parseE (p : List Int) : Int := if p.length = 0 then 4 else if numAt p 0 1 ≠ 2 then 11 else if goodP p && rightP (noteP p) then 0 else 4

theorem numAt_one {p : List Int} {i : Nat} (h : i < p.length) : numAt p i 1 = p.getD i 0 := by
  unfold numAt
  rw [List.drop_eq_getElem_cons h, List.take_succ_cons, List.take_zero]
  show 0 * 256 + p[i] = _
  simp [h]
theorem numAt_two {p : List Int} {i : Nat} (h : i + 1 < p.length) : numAt p i 2 = p.getD i 0 * 256 + p.getD (i + 1) 0 := by
  unfold numAt
  rw [List.drop_eq_getElem_cons (by omega), List.drop_eq_getElem_cons (by omega), List.take_succ_cons, List.take_succ_cons, List.take_zero]
  show (0 * 256 + p[i]) * 256 + p[i + 1] = _
  simp [h, show i < p.length by omega]
theorem numAt_four {p : List Int} {i : Nat} (h : i + 3 < p.length) : numAt p i 4 = ((p.getD i 0 * 256 + p.getD (i + 1) 0) * 256 + p.getD (i + 2) 0) * 256 + p.getD (i + 3) 0 := by
  unfold numAt
  rw [List.drop_eq_getElem_cons (by omega), List.drop_eq_getElem_cons (by omega), List.drop_eq_getElem_cons (by omega), List.drop_eq_getElem_cons (by omega), List.take_succ_cons, List.take_succ_cons, List.take_succ_cons, List.take_succ_cons, List.take_zero]
  show (((0 * 256 + p[i]) * 256 + p[i + 1]) * 256 + p[i + 2]) * 256 + p[i + 3] = _
  simp [h, show i < p.length by omega, show i + 1 < p.length by omega, show i + 2 < p.length by omega]
theorem pow256 {a b : Nat} (h : a ≤ b) : (256 : Int) ^ a ≤ 256 ^ b := by
  induction b with
  | zero => obtain rfl : a = 0 := by omega
            exact Int.le_refl _
  | succ b ih =>
    rcases Nat.lt_or_ge b a with h1 | h1
    · obtain rfl : a = b + 1 := by omega
      exact Int.le_refl _
    · have h2 := ih h1
      have h3 : (0 : Int) < 256 ^ b := Int.pow_pos (by decide)
      rw [Int.pow_succ]; omega
theorem numAt_bd {p : List Int} (h : AllY p) (i s : Nat) : 0 ≤ numAt p i s ∧ numAt p i s < 256 ^ s := by
  have h1 := numOf_bound ((p.drop i).take s) ((h.drop i).take s)
  have h2 : ((p.drop i).take s).length ≤ s := List.length_take_le _ _
  have h3 := pow256 h2
  unfold numAt
  omega
theorem nb_of {bs : List Int} (h : AllY bs) {s : Nat} (hl : bs.length = s) (hs : 1 ≤ s ∧ s ≤ 4) : numBytes (numOf bs) s = bs := by
  subst hl
  match bs, h, hs with
  | [a], h, _ => have := h a (by simp); simp [numOf, numBytes, List.range_succ]; omega
  | [a, b], h, _ => have := h a (by simp); have := h b (by simp); simp [numOf, numBytes, List.range_succ]; omega
  | [a, b, c], h, _ => have := h a (by simp); have := h b (by simp); have := h c (by simp); simp [numOf, numBytes, List.range_succ]; omega
  | [a, b, c, d], h, _ => have := h a (by simp); have := h b (by simp); have := h c (by simp); have := h d (by simp); simp [numOf, numBytes, List.range_succ]; omega
  | [], _, hs => simp at hs
  | _ :: _ :: _ :: _ :: _ :: _, _, hs => simp at hs
theorem nb_at {p : List Int} (h : AllY p) {i s : Nat} (hl : i + s ≤ p.length) (hs : 1 ≤ s ∧ s ≤ 4) : numBytes (numAt p i s) s = (p.drop i).take s :=
  nb_of ((h.drop i).take s) (by rw [List.length_take, List.length_drop]; omega) hs
theorem take_drop (p : List Int) (i s : Nat) : (p.drop i).take s ++ p.drop (i + s) = p.drop i := by
  rw [← List.drop_drop, List.take_append_drop]
theorem cntB_at {p : List Int} (h : AllY p) : ∀ (k i : Nat), p.length = i + 3 * k → cntB (cntsAt p i k) = p.drop i := by
  intro k
  induction k with
  | zero => intro i hl; rw [List.drop_of_length_le (by omega)]; rfl
  | succ k ih =>
    intro i hl
    have e : cntsAt p i (k + 1) = (numAt p i 1, numAt p (i + 1) 2) :: cntsAt p (i + 3) k := by
      unfold cntsAt
      rw [List.range_succ_eq_map, List.map_cons, List.map_map]
      refine List.cons_eq_cons.2 ⟨rfl, List.map_congr_left fun j _ => ?_⟩
      show (numAt p (i + 3 * (j + 1)) 1, numAt p (i + 1 + 3 * (j + 1)) 2) = _
      rw [show i + 3 * (j + 1) = i + 3 + 3 * j by omega, show i + 1 + 3 * (j + 1) = i + 3 + 1 + 3 * j by omega]
    rw [e]
    show (numBytes (numAt p i 1) 1 ++ numBytes (numAt p (i + 1) 2) 2) ++ cntB (cntsAt p (i + 3) k) = _
    rw [ih (i + 3) (by omega), nb_at h (by omega) (by omega), nb_at h (by omega) (by omega), List.append_assoc, show i + 3 = i + 1 + 2 by omega, take_drop, take_drop]
theorem good_len {p : List Int} (h : goodP p = true) : 9 ≤ p.length ∧ (p.length : Int) = 9 + 3 * numAt p 8 1 := by simpa [goodP] using h
theorem cntsAt_len (p : List Int) (i k : Nat) : (cntsAt p i k).length = k := by simp [cntsAt]
/-- bytes that are a report are just its bytes -/
theorem noteB_of {p : List Int} (h : AllY p) (hg : goodP p = true) (h2 : numAt p 0 1 = 2) : noteB (noteP p) = p := by
  obtain ⟨g1, g2⟩ := good_len hg
  have hb := numAt_bd h 8 1
  have hk : (((numAt p 8 1).toNat : Nat) : Int) = numAt p 8 1 := Int.toNat_of_nonneg hb.1
  unfold noteB noteP
  simp only [cntsAt_len]
  rw [hk, cntB_at h _ 9 (by omega), ← h2, nb_at h (by omega) (by omega), nb_at h (by omega) (by omega), nb_at h (by omega) (by omega), nb_at h (by omega) (by omega), nb_at h (by omega) (by omega)]
  rw [take_drop p 8 1, take_drop p 7 1, take_drop p 3 4, take_drop p 1 2, take_drop p 0 1]; rfl
structure RightQ (q : NoteP) : Prop where
  st : 0 ≤ q.st ∧ q.st ≤ 65535
  sq : 1 ≤ q.sq ∧ q.sq ≤ 2147483647
  n : 1 ≤ q.n ∧ q.n ≤ 255
  cnt : cntOk q.n 0 q.cs = true
theorem rightQ_iff {q : NoteP} : rightP q = true ↔ RightQ q := by
  simp only [rightP, Bool.and_eq_true, inB_iff]
  exact ⟨fun h => ⟨h.1.1.2, h.1.2, h.2, h.1.1.1⟩, fun h => ⟨⟨⟨h.cnt, h.st⟩, h.sq⟩, h.n⟩⟩
theorem RightQ.len {q : NoteP} (h : RightQ q) : (q.cs.length : Int) ≤ 255 := by
  have := (cnt_all h.cnt).2 (by have := h.n; omega)
  have := h.n
  omega
theorem cntB_len (cs : List (Int × Int)) : (cntB cs).length = 3 * cs.length := by
  induction cs with
  | nil => rfl
  | cons c r ih =>
    show ((numBytes c.1 1 ++ numBytes c.2 2) ++ cntB r).length = _
    simp only [List.length_append, numBytes_len, ih, List.length_cons]; omega
theorem noteB_len (q : NoteP) : (noteB q).length = 9 + 3 * q.cs.length := by
  unfold noteB
  simp only [List.length_append, numBytes_len, cntB_len]; omega
theorem numAt_app {a b : List Int} {i s : Nat} (h : a.length = i) : numAt (a ++ b) i s = numOf (b.take s) := by
  unfold numAt
  rw [List.drop_left' h]
theorem num_head {n : Int} {s : Nat} (b : List Int) (hs : 1 ≤ s ∧ s ≤ 4) (hn : 0 ≤ n ∧ n < 256 ^ s) : numOf ((numBytes n s ++ b).take s) = n := by
  rw [List.take_left' (numBytes_len n s)]
  exact numOf_numBytes hs hn
theorem cnts_of : ∀ (cs : List (Int × Int)) (a : List Int) (i : Nat), a.length = i → (∀ c ∈ cs, 0 ≤ c.1 ∧ c.1 ≤ 255 ∧ 0 ≤ c.2 ∧ c.2 ≤ 65535) → cntsAt (a ++ cntB cs) i cs.length = cs
  | [], a, i, _, _ => rfl
  | c :: r, a, i, ha, h => by
    have hc := h c (by simp)
    have e : cntsAt (a ++ cntB (c :: r)) i (r.length + 1) = (numAt (a ++ cntB (c :: r)) i 1, numAt (a ++ cntB (c :: r)) (i + 1) 2) :: cntsAt (a ++ cntB (c :: r)) (i + 3) r.length := by
      unfold cntsAt
      rw [List.range_succ_eq_map, List.map_cons, List.map_map]
      refine List.cons_eq_cons.2 ⟨rfl, List.map_congr_left fun j _ => ?_⟩
      show (numAt _ (i + 3 * (j + 1)) 1, numAt _ (i + 1 + 3 * (j + 1)) 2) = _
      rw [show i + 3 * (j + 1) = i + 3 + 3 * j by omega, show i + 1 + 3 * (j + 1) = i + 3 + 1 + 3 * j by omega]
    have eb : cntB (c :: r) = numBytes c.1 1 ++ (numBytes c.2 2 ++ cntB r) := by
      show (numBytes c.1 1 ++ numBytes c.2 2) ++ cntB r = _
      rw [List.append_assoc]
    rw [List.length_cons, e, eb, numAt_app ha, num_head _ (by omega) ⟨by omega, by simp; omega⟩, ← List.append_assoc, numAt_app (by rw [List.length_append, numBytes_len, ha]), num_head _ (by omega) ⟨by omega, by simp; omega⟩, ← List.append_assoc]
    rw [cnts_of r (a ++ numBytes c.1 1 ++ numBytes c.2 2) (i + 3) (by simp only [List.length_append, numBytes_len, ha]) (fun x hx => h x (by simp [hx]))]
/-- what a right report's bytes are -/
theorem note_back {q : NoteP} (h : RightQ q) : parseE (noteB q) = 0 ∧ noteP (noteB q) = q ∧ numAt (noteB q) 0 1 = 2 := by
  have hl := h.len
  have hst := h.st
  have hsq := h.sq
  have hn := h.n
  have p0 : numAt (noteB q) 0 1 = 2 := by unfold noteB; exact num_head _ (by omega) ⟨by omega, by simp⟩
  have p1 : numAt (noteB q) 1 2 = q.st := by
    unfold noteB; rw [numAt_app (numBytes_len _ _)]; exact num_head _ (by omega) ⟨by omega, by simp; omega⟩
  have p3 : numAt (noteB q) 3 4 = q.sq := by
    unfold noteB
    rw [← List.append_assoc, numAt_app (by simp only [List.length_append, numBytes_len])]; exact num_head _ (by omega) ⟨by omega, by simp; omega⟩
  have p7 : numAt (noteB q) 7 1 = q.n := by
    unfold noteB
    rw [← List.append_assoc, ← List.append_assoc, numAt_app (by simp only [List.length_append, numBytes_len])]; exact num_head _ (by omega) ⟨by omega, by simp; omega⟩
  have p8 : numAt (noteB q) 8 1 = q.cs.length := by
    unfold noteB
    rw [← List.append_assoc, ← List.append_assoc, ← List.append_assoc, numAt_app (by simp only [List.length_append, numBytes_len])]; exact num_head _ (by omega) ⟨by omega, by simp; omega⟩
  have p9 : cntsAt (noteB q) 9 q.cs.length = q.cs := by
    unfold noteB
    rw [← List.append_assoc, ← List.append_assoc, ← List.append_assoc, ← List.append_assoc]
    exact cnts_of q.cs _ 9 (by simp only [List.length_append, numBytes_len]) fun c hc => by have := (cnt_all h.cnt).1 c hc; omega
  have hp : noteP (noteB q) = q := by
    unfold noteP
    rw [p1, p3, p7, p8, Int.toNat_natCast, p9]
  refine ⟨?_, hp, p0⟩
  have hg : goodP (noteB q) = true := by
    unfold goodP
    rw [p8, noteB_len]; simp
  unfold parseE
  rw [if_neg (by rw [noteB_len]; omega), if_neg (by rw [p0]; decide), hg, hp, rightQ_iff.2 h]; rfl
theorem noteB_Y {q : NoteP} : AllY (noteB q) := by
  intro z hz
  unfold noteB cntB at hz
  simp only [List.mem_append, List.mem_flatMap] at hz
  rcases hz with h | h | h | h | h | ⟨c, _, h | h⟩ <;> exact numBytes_Y _ _ z h
end Go.Proofs.Ythaifamjgcfkaaa

/- Layer 15, plain: how many frames a report tells of, and how often of so many datagrams. No program in sight. -/
namespace Go.Proofs.Ythaifamjgcfkaaa
open Go.RowKit
set_option linter.unusedVariables false

/-- the times of the count of so many -/
def cntV : List (Int × Int) → Int → Int
  | [], _ => 0
  | c :: r, k => if c.1 = k then c.2 else cntV r k
def sumK (f : Int → Int) : Nat → Int
  | 0 => 0
  | m + 1 => sumK f m + f ((m : Int) + 1)
theorem sumK_add (f g : Int → Int) : ∀ m, sumK (fun k => f k + g k) m = sumK f m + sumK g m
  | 0 => rfl
  | m + 1 => by simp only [sumK]; rw [sumK_add f g m]; omega
theorem sumK_zero : ∀ m, sumK (fun _ => 0) m = 0
  | 0 => rfl
  | m + 1 => by simp only [sumK]; rw [sumK_zero m]; rfl
theorem sumK_pick (x v : Int) : ∀ m : Nat, sumK (fun k => if x = k then v else 0) m = if 1 ≤ x ∧ x ≤ m then v else 0
  | 0 => by simp only [sumK]; rw [if_neg (by omega)]
  | m + 1 => by
    simp only [sumK]
    rw [sumK_pick x v m]
    by_cases h : x = (m : Int) + 1
    · rw [if_neg (by omega), if_pos h, if_pos (by omega)]; omega
    · rw [if_neg h]
      by_cases h2 : 1 ≤ x ∧ x ≤ m
      · rw [if_pos h2, if_pos (by omega)]; omega
      · rw [if_neg h2, if_neg (by omega)]; rfl
theorem cntV_out {cs : List (Int × Int)} {k : Int} (h : ∀ c ∈ cs, c.1 ≠ k) : cntV cs k = 0 := by
  induction cs with
  | nil => rfl
  | cons c r ih =>
    rw [cntV, if_neg (h c (by simp)), ih fun x hx => h x (by simp [hx])]
theorem cntV_split {n last : Int} {c : Int × Int} {r : List (Int × Int)} (h : cntOk n last (c :: r) = true) (k : Int) : cntV (c :: r) k = (if c.1 = k then c.2 else 0) + cntV r k := by
  simp only [cntOk, Bool.and_eq_true] at h
  rw [cntV]
  split
  · rename_i e
    rw [cntV_out (cs := r) fun x hx => by have := (cnt_all h.2).1 x hx; omega]; omega
  · omega
theorem cntV_sum {n last : Int} {cs : List (Int × Int)} (h : cntOk n last cs = true) (h0 : 0 ≤ last) (m : Nat) (hm : n = m) : sumK (cntV cs) m = timesL cs := by
  induction cs generalizing last with
  | nil => exact sumK_zero m
  | cons c r ih =>
    have hc := (cnt_all h).1 c (by simp)
    have e : cntV (c :: r) = fun k => (if c.1 = k then c.2 else 0) + cntV r k := funext (cntV_split h)
    simp only [cntOk, Bool.and_eq_true] at h
    rw [e, sumK_add, sumK_pick, if_pos (by omega), ih h.2 (by omega)]
    simp [timesL]
theorem cntV_in {n last : Int} {cs : List (Int × Int)} (h : cntOk n last cs = true) : ∀ c ∈ cs, cntV cs c.1 = c.2 := by
  induction cs generalizing last with
  | nil => intro c hc; cases hc
  | cons x r ih =>
    intro c hc
    rcases List.mem_cons.1 hc with rfl | hc
    · rw [cntV, if_pos rfl]
    · simp only [cntOk, Bool.and_eq_true] at h
      have := (cnt_all h.2).1 c hc
      rw [cntV, if_neg (by omega), ih h.2 c hc]
theorem cntV_bd {n last : Int} {cs : List (Int × Int)} (h : cntOk n last cs = true) (k : Int) : 0 ≤ cntV cs k ∧ cntV cs k ≤ 65535 := by
  by_cases hk : ∃ c ∈ cs, c.1 = k
  · obtain ⟨c, hc, rfl⟩ := hk
    rw [cntV_in h c hc]
    have := (cnt_all h).1 c hc
    omega
  · rw [cntV_out fun c hc e => hk ⟨c, hc, e⟩]; omega
theorem cntV_step {cs : List (Int × Int)} {k : Int} {i : Nat} (hi : i < cs.length) : cntV (cs.drop i) k = if (cs.getD i (0, 0)).1 = k then (cs.getD i (0, 0)).2 else cntV (cs.drop (i + 1)) k := by
  have e : cs.getD i (0, 0) = cs[i] := by simp [hi]
  rw [List.drop_eq_getElem_cons hi, cntV, e]
theorem cnt_take {n last : Int} {cs : List (Int × Int)} (h : cntOk n last cs = true) (i : Nat) : cntOk n last (cs.take i) = true := by
  induction cs generalizing last i with
  | nil => simpa using h
  | cons c r ih =>
    cases i with
    | zero => rfl
    | succ i =>
      simp only [cntOk, Bool.and_eq_true, List.take_succ_cons] at h ⊢
      exact ⟨h.1, ih h.2 i⟩
theorem sumK_bd {n last : Int} {cs : List (Int × Int)} (h : cntOk n last cs = true) : ∀ m : Nat, 0 ≤ sumK (cntV cs) m ∧ sumK (cntV cs) m ≤ m * 65535
  | 0 => by simp [sumK]
  | m + 1 => by
    have h1 := sumK_bd h m
    have h2 := cntV_bd h ((m : Int) + 1)
    simp only [sumK]
    omega
/-- what the program tells: of a report that is not right nothing -/
def ntSum (d : NoteV) : Int := if rightN d then timesL d.cs else 0
def ntCnt (d : NoteV) (k : Int) : Int := if rightN d then cntV d.cs k else 0
end Go.Proofs.Ythaifamjgcfkaaa

/- Literals of lists of structs. No program in sight. -/
namespace Go.Proofs.Ythaifamjgcfkaaa
open Go.RowKit
set_option linter.unusedVariables false

theorem fold_set (off : Nat) : ∀ (cs : List Value) (k : Nat) (a : Array Value), off + k + cs.length ≤ a.size →
    ((cs.zipIdx k).foldl (fun (a : Array Value) (x : Value × Nat) => a.setIfInBounds (off + x.2) x.1) a).toList = a.toList.take (off + k) ++ cs ++ a.toList.drop (off + k + cs.length)
  | [], k, a, _ => by simp
  | c :: r, k, a, h => by
    simp only [List.length_cons] at h
    rw [List.zipIdx_cons, List.foldl_cons, fold_set off r (k + 1) _ (by simp; omega)]
    have h1 : off + k < a.toList.length := by simp; omega
    rw [Array.toList_setIfInBounds, show off + (k + 1) = off + k + 1 by omega]
    have h2 : (a.toList.set (off + k) c).take (off + k + 1) = a.toList.take (off + k) ++ [c] := by
      rw [List.take_succ_eq_append_getElem (by simpa using h1), List.take_set, List.set_eq_of_length_le (by simp; omega)]
      simp
    rw [h2, List.drop_set, if_pos (by omega)]
    simp only [List.length_cons, List.append_assoc, List.singleton_append]
    rw [show off + k + 1 + r.length = off + k + (r.length + 1) by omega]
def aggs (css : List (List Value)) : List Value := css.map fun cs => .agg cs.toArray
theorem fill_many {s : Nat} (hs : 0 < s) : ∀ (css : List (List Value)) (i : Nat) (cells : Array Value), (∀ cs ∈ css, cs.length = s) → i * s + css.length * s = cells.size →
    Instr.fill (fun i => some (i * s, s)) cells (partsOf (aggs css) i) = some (cells.toList.take (i * s) ++ css.flatten).toArray
  | [], i, cells, _, hl => by
    simp only [aggs, List.map_nil, partsOf, Instr.fill, List.flatten_nil, List.append_nil]
    have : i * s = cells.toList.length := by simpa using hl
    rw [this, List.take_length]
  | cs :: r, i, cells, h1, hl => by
    have h2 := h1 cs (by simp)
    simp only [List.length_cons, Nat.add_mul, Nat.one_mul] at hl
    have hc : (Value.agg cs.toArray).cells = cs.toArray := rfl
    have hfold : (cs.toArray.zipIdx.foldl (fun (a : Array Value) (x : Value × Nat) => a.setIfInBounds (i * s + x.2) x.1) cells).toList = cells.toList.take (i * s) ++ cs ++ cells.toList.drop (i * s + s) := by
      have := fold_set (i * s) cs 0 cells (by omega)
      rw [Nat.add_zero, h2] at this
      rw [← this]
      simp
    have hsz : (cs.toArray.zipIdx.foldl (fun (a : Array Value) (x : Value × Nat) => a.setIfInBounds (i * s + x.2) x.1) cells).size = cells.size := by
      rw [← Array.length_toList, hfold]
      simp only [List.length_append, List.length_take, List.length_drop, Array.length_toList]
      omega
    have ih := fill_many hs r (i + 1) _ (fun c hc => h1 c (by simp [hc])) (by rw [hsz, Nat.add_mul, Nat.one_mul]; omega)
    simp only [aggs, List.map_cons, partsOf, Instr.fill, hc]
    rw [if_neg (by simp [h2]; omega)]
    simp only [aggs] at ih
    rw [ih, hfold]
    congr 2
    rw [Nat.add_mul, Nat.one_mul, List.take_append_of_le_length (by simp; omega), List.take_of_length_le (by simp; omega)]
    simp
theorem flat_at {s : Nat} : ∀ (css : List (List Value)) (i j : Nat) (c : List Value), (∀ cs ∈ css, cs.length = s) → css[i]? = some c → j < s → css.flatten[i * s + j]? = c[j]?
  | cs :: r, 0, j, c, h, hc, hj => by
    cases hc
    have := h cs (by simp)
    rw [List.flatten_cons, Nat.zero_mul, Nat.zero_add, List.getElem?_append_left (by omega)]
  | cs :: r, i + 1, j, c, h, hc, hj => by
    have h1 := h cs (by simp)
    rw [List.flatten_cons, List.getElem?_append_right (by rw [Nat.add_mul]; omega), h1, show (i + 1) * s + j - s = i * s + j by rw [Nat.add_mul]; omega]
    exact flat_at r i j c (fun c hc => h c (by simp [hc])) hc hj
theorem flat_len {s : Nat} : ∀ (css : List (List Value)), (∀ cs ∈ css, cs.length = s) → css.flatten.length = css.length * s
  | [], _ => by simp
  | cs :: r, h => by
    rw [List.flatten_cons, List.length_append, flat_len r (fun c hc => h c (by simp [hc])), h cs (by simp), List.length_cons, Nat.add_mul]; omega
theorem rdp_alloc (w : World) {s : Nat} (css : List (List Value)) (e : TypeId) (h : ∀ cs ∈ css, cs.length = s) : RdP (w.alloc (.cells css.flatten.toArray e)) s (some ⟨w.heap.size, 0, none⟩) css := fun i c hc => by
  refine ⟨_, 0, rfl, fun j v hv => ?_⟩
  have hj := (List.getElem?_eq_some_iff.1 hv).1
  rw [h c (List.mem_of_getElem? hc)] at hj
  rw [cell_of_row _ w.heap.size (0 + i * s + j) css.flatten.toArray e (0, 0) (heap_alloc_new w _)]
  simp only [List.getElem?_toArray]
  rw [Nat.zero_add, flat_at css i j c h hc hj]; exact hv
section
variable {P : Program} {n : Cx} {fr : Fr} {w : World} {ty : TypeId} {x y z : Operand} {T T2 e : TypeId}
/-- []T{..} of structs, all its elements written out -/
theorem os_litS {l s : Nat} {ps : List (Nat × Operand)} {css : List (List Value)} {z0 : Value} (hT : P.underlying T = some (.slice e)) (hs : ∀ w, (sizeOf e).run P w = .ok s w) (hz : ∀ w, (zeroValue e).run P w = .ok z0 w) (hx : evP fr ps 0 = some (aggs css)) (hl : l = css.length) (h1 : ∀ cs ∈ css, cs.length = s) (h0 : 0 < l) (hs0 : 0 < s) (h2 : l * s ≤ 16777216) :
    OS P n (.buildSlice T l ps.toArray) ty fr w (.slice (some ⟨w.heap.size, 0, none⟩) l l) (w.alloc (.cells css.flatten.toArray e)) := by
  subst hl
  refine os_of fun a ha => ?_
  have hp := ha.evP hx
  have hfill := fill_many hs0 css 0 ((Array.range (css.length * s)).map (fun i => z0.cells[i % z0.cells.size]!)) h1 (by simp)
  simp only [Nat.zero_mul, List.take_zero, List.nil_append] at hfill
  have hgt : ¬ css.length * s > 2 ^ 24 := by omega
  have hne : ¬ css.length * s = 0 := by
    have := Nat.mul_pos h0 hs0; omega
  have hps : List.map (fun p : Nat × Operand => (p.1, a.eval p.2)) ps = partsOf (aggs css) 0 := hp
  simp only [execOp, Instr.buildSlice, run_underlying hT, hs, hz, newRow, Result.andThen, Sem.run_bind, Sem.run_pure, hgt, hne, if_false, hps, hfill, List.map_toArray]
  rfl
end
end Go.Proofs.Ythaifamjgcfkaaa

/- Whole rows that are written; all else stays. No program in sight. -/
namespace Go.Proofs.Ythaifamjgcfkaaa
open Go.RowKit
set_option linter.unusedVariables false

theorem Bk.rowOther {w : World} {g g' : Nat} {cs : List Value} {t : TypeId} (h : Bk w g' cs t) (hne : g ≠ g') (ds : Array Value) : Bk (w.setRow g ds) g' cs t := by
  unfold Bk at *
  simp [World.setRow, Array.getElem?_modify, hne, h]
theorem Kb.setRow {S : List Nat} {w : World} {g : Nat} (hg : g ∈ S) (cs : Array Value) : Kb S w (w.setRow g cs) :=
  ⟨rfl, rfl, rfl, by simp [World.setRow], fun k hk hn => by
    have : g ≠ k := fun e => hn (e ▸ hg)
    simp [World.setRow, Array.getElem?_modify, this]⟩
section
variable {P : Program} {n : Cx} {fr : Fr} {w : World} {ty : TypeId} {T e : TypeId}
theorem ot_litS {l s : Nat} {ps : List (Nat × Operand)} {css : List (List Value)} {z0 : Value} (hT : P.underlying T = some (.slice e)) (hs : ∀ w, (sizeOf e).run P w = .ok s w) (hz : ∀ w, (zeroValue e).run P w = .ok z0 w) (hx : evP fr ps 0 = some (aggs css)) (hl : l = css.length) (h1 : ∀ cs ∈ css, cs.length = s) (h0 : 0 < l) (hs0 : 0 < s) (h2 : l * s ≤ 16777216) :
    OT P n (.buildSlice T l ps.toArray) ty fr w fun v w' => v = .slice (some ⟨w.heap.size, 0, none⟩) l l ∧ RdP w' s (some ⟨w.heap.size, 0, none⟩) css ∧ w'.heap.size = w.heap.size + 1 ∧ LeG w w' :=
  (os_litS hT hs hz hx hl h1 h0 hs0 h2).ot ⟨rfl, rdp_alloc _ _ _ h1, by simp, (Below.refl _ _).alloc (Nat.le_refl _) _⟩
end
end Go.Proofs.Ythaifamjgcfkaaa

/- What the rules want of the program. -/
namespace Go.Proofs.Ythaifamjgcfkaaa
theorem mixed : Try.prog.follows .mixedOrders = true := by kernel_rfl
end Go.Proofs.Ythaifamjgcfkaaa

/- Rows of the table of types. -/
namespace Go.Proofs.Ythaifamjgcfkaaa
theorem ti_int : TyInfo Try.prog 3 (.int .i64 0) 1 8 := by unfold TyInfo; kernel_rfl
theorem ti_u8 : TyInfo Try.prog 5 (.int .u8 0) 1 1 := by unfold TyInfo; kernel_rfl
end Go.Proofs.Ythaifamjgcfkaaa

/- Layer 7, plain: the sums as functions on bits; they are linear. No program in sight. -/
namespace Go.Proofs.Ythaifamjgcfkaaa
open Go.RowKit

def crcPoly : BitVec 32 := 0xEDB88320#32
def crcRnd (s : BitVec 32) : BitVec 32 := (s >>> 1) ^^^ (crcPoly &&& -(s &&& 1#32))
def crcRnds : Nat → BitVec 32 → BitVec 32
  | 0, s => s
  | k + 1, s => crcRnd (crcRnds k s)
def crcTab (n : Nat) : BitVec 32 := crcRnds 8 (BitVec.ofNat 32 n)
def crcStep (s : BitVec 32) (z : Int) : BitVec 32 := (s >>> 8) ^^^ crcTab (s.setWidth 8 ^^^ BitVec.ofInt 8 z).toNat
def crcRun (s : BitVec 32) (zs : List Int) : BitVec 32 := zs.foldl crcStep s
def crcGo (s : BitVec 32) (zs : List Int) : BitVec 32 := ~~~ crcRun (~~~ s) zs
def crcOf (parts : List (List Int)) : BitVec 32 := ~~~ parts.foldl crcRun (~~~ 0#32)

theorem crc_neg (s : BitVec 32) : -(s &&& 1#32) = if s.getLsbD 0 then BitVec.allOnes 32 else 0#32 := by
  have h : s &&& 1#32 = if s.getLsbD 0 then 1#32 else 0#32 := by
    apply BitVec.eq_of_getLsbD_eq
    intro i hi
    by_cases h0 : i = 0
    · subst h0
      cases hs : s.getLsbD 0 <;> simp at hs ⊢ <;> simp [hs]
    · have h1 : (1#32).getLsbD i = false := by simp [BitVec.getLsbD_one, h0]
      simp only [BitVec.getLsbD_and, h1, Bool.and_false]
      split <;> simp [h1]
  rw [h]
  split <;> decide
theorem crcRnd_eq (s : BitVec 32) : crcRnd s = (s >>> 1) ^^^ (if s.getLsbD 0 then crcPoly else 0#32) := by
  unfold crcRnd
  rw [crc_neg]
  split
  · rw [show crcPoly &&& BitVec.allOnes 32 = crcPoly from by decide]
  · rw [show crcPoly &&& 0#32 = 0#32 from by decide]
theorem xor_lc (a b c : BitVec 32) : a ^^^ (b ^^^ c) = b ^^^ (a ^^^ c) := by rw [← BitVec.xor_assoc, BitVec.xor_comm a b, BitVec.xor_assoc]
theorem xor_cc (a b : BitVec 32) : a ^^^ (a ^^^ b) = b := by rw [← BitVec.xor_assoc]; simp
theorem crcRnd_xor (a b : BitVec 32) : crcRnd (a ^^^ b) = crcRnd a ^^^ crcRnd b := by
  rw [crcRnd_eq, crcRnd_eq, crcRnd_eq, BitVec.ushiftRight_xor_distrib, BitVec.getLsbD_xor]
  generalize a >>> 1 = x
  generalize b >>> 1 = y
  cases a.getLsbD 0 <;> cases b.getLsbD 0 <;> simp [BitVec.xor_assoc]
  · rw [BitVec.xor_comm]
  · rw [BitVec.xor_comm y, xor_cc]
theorem crcRnds_xor (k : Nat) (a b : BitVec 32) : crcRnds k (a ^^^ b) = crcRnds k a ^^^ crcRnds k b := by
  induction k with
  | zero => rfl
  | succ k ih => simp only [crcRnds, ih, crcRnd_xor]
theorem crcRnds_zero (k : Nat) : crcRnds k 0#32 = 0#32 := by
  induction k with
  | zero => rfl
  | succ k ih => simp only [crcRnds, ih]; decide
/-- rounds that take out noughts shift -/
theorem crcRnds_shift (k : Nat) : ∀ s : BitVec 32, (∀ i, i < k → s.getLsbD i = false) → crcRnds k s = s >>> k := by
  induction k with
  | zero => intro s _; simp [crcRnds]
  | succ k ih =>
    intro s h
    simp only [crcRnds]
    rw [ih s (fun i hi => h i (by omega)), crcRnd_eq]
    have : (s >>> k).getLsbD 0 = false := by simpa using h k (by omega)
    rw [this]
    simp [← BitVec.shiftRight_add]
theorem crcStep_rnds (s : BitVec 32) (z : Int) : crcStep s z = crcRnds 8 (s ^^^ BitVec.setWidth 32 (BitVec.ofInt 8 z)) := by
  have h : s ^^^ BitVec.setWidth 32 (BitVec.ofInt 8 z) = ((s >>> 8) <<< 8) ^^^ BitVec.setWidth 32 (s.setWidth 8 ^^^ BitVec.ofInt 8 z) := by
    apply BitVec.eq_of_getLsbD_eq
    intro i hi
    simp only [BitVec.getLsbD_xor, BitVec.getLsbD_setWidth, BitVec.getLsbD_shiftLeft, BitVec.getLsbD_ushiftRight, hi, decide_true, Bool.true_and]
    by_cases h8 : i < 8
    · simp [h8]
    · simp [h8, show 8 + (i - 8) = i by omega]
  rw [h, crcRnds_xor, crcRnds_shift 8 _ (fun i hi => by simp [hi])]
  unfold crcStep crcTab
  congr 1
  · apply BitVec.eq_of_getLsbD_eq
    intro i hi
    simp only [BitVec.getLsbD_ushiftRight, BitVec.getLsbD_shiftLeft]
    by_cases h1 : 8 + i < 32
    · simp [h1]
    · simp [h1]; exact BitVec.getLsbD_of_ge _ _ (by omega)
  · congr 1
    apply BitVec.eq_of_toNat_eq
    simp [BitVec.toNat_setWidth, BitVec.toNat_ofNat]
theorem crcStep_xor (a b : BitVec 32) (x y z : Int) (h : BitVec.ofInt 8 z = BitVec.ofInt 8 x ^^^ BitVec.ofInt 8 y) : crcStep (a ^^^ b) z = crcStep a x ^^^ crcStep b y := by
  rw [crcStep_rnds, crcStep_rnds, crcStep_rnds, ← crcRnds_xor, h]
  congr 1
  rw [BitVec.setWidth_xor]
  generalize BitVec.setWidth 32 (BitVec.ofInt 8 x) = u
  generalize BitVec.setWidth 32 (BitVec.ofInt 8 y) = v
  rw [BitVec.xor_assoc, BitVec.xor_assoc, xor_lc b u v]
theorem crcRun_xor : ∀ (xs ys zs : List Int) (a b : BitVec 32), xs.length = ys.length → zs.length = xs.length → (∀ i, i < xs.length → BitVec.ofInt 8 (zs.getD i 0) = BitVec.ofInt 8 (xs.getD i 0) ^^^ BitVec.ofInt 8 (ys.getD i 0)) →
    crcRun (a ^^^ b) zs = crcRun a xs ^^^ crcRun b ys
  | [], ys, zs, a, b, h1, h2, _ => by
    have e1 : ys = [] := List.eq_nil_of_length_eq_zero (by simpa using h1.symm)
    have e2 : zs = [] := List.eq_nil_of_length_eq_zero (by simpa using h2)
    subst e1; subst e2; rfl
  | x :: xs, [], zs, a, b, h1, _, _ => by simp at h1
  | x :: xs, y :: ys, [], a, b, _, h2, _ => by simp at h2
  | x :: xs, y :: ys, z :: zs, a, b, h1, h2, h => by
    have h0 := h 0 (by simp)
    simp at h0
    have ih := crcRun_xor xs ys zs (crcStep a x) (crcStep b y) (by simpa using h1) (by simpa using h2) fun i hi => by have := h (i + 1) (by simpa using hi); simpa using this
    show crcRun (crcStep (a ^^^ b) z) zs = crcRun (crcStep a x) xs ^^^ crcRun (crcStep b y) ys
    rw [crcStep_xor a b x y z h0, ih]
theorem crcRun_app (s : BitVec 32) (a b : List Int) : crcRun s (a ++ b) = crcRun (crcRun s a) b := by simp [crcRun]
theorem crcOf_one (a : List Int) : crcOf [a] = crcGo 0#32 a := rfl
/-- the law's sums -/
theorem crcOf_parts (xs : List Int) {lo hi : Nat} (h : lo ≤ hi) : crcOf [xs.take lo, (xs.drop lo).take (hi - lo), [], xs.drop hi] = crcOf [xs] := by
  unfold crcOf
  simp only [List.foldl_cons, List.foldl_nil]
  rw [← crcRun_app, ← crcRun_app, ← crcRun_app]
  have : xs.take lo ++ ((xs.drop lo).take (hi - lo) ++ ([] ++ xs.drop hi)) = xs := by
    rw [List.nil_append]
    have h2 : (xs.drop lo).take (hi - lo) ++ xs.drop hi = xs.drop lo := by
      have : xs.drop hi = (xs.drop lo).drop (hi - lo) := by rw [List.drop_drop]; congr 1; omega
      rw [this, List.take_append_drop]
    rw [h2, List.take_append_drop]
  rw [this]
theorem crcGo_parts (xs : List Int) (lo : Nat) : crcGo (crcOf [xs.take lo]) (xs.drop lo) = crcOf [xs] := by
  unfold crcGo crcOf
  simp only [List.foldl_cons, List.foldl_nil]
  rw [BitVec.not_not, ← crcRun_app, List.take_append_drop]
theorem not_xor (a b : BitVec 32) : ~~~ a ^^^ ~~~ b = a ^^^ b := by
  apply BitVec.eq_of_getLsbD_eq
  intro i hi
  simp [hi]
theorem crcOf_diff (xs ys ds zs : List Int) (h1 : xs.length = ys.length) (h2 : ds.length = xs.length) (h3 : zs.length = xs.length) (hd : ∀ i, i < xs.length → BitVec.ofInt 8 (ds.getD i 0) = BitVec.ofInt 8 (xs.getD i 0) ^^^ BitVec.ofInt 8 (ys.getD i 0))
    (hz : ∀ i, i < xs.length → zs.getD i 0 = 0) : crcOf [xs] ^^^ crcOf [ys] = crcOf [ds] ^^^ crcOf [zs] := by
  unfold crcOf
  simp only [List.foldl_cons, List.foldl_nil]
  rw [not_xor, not_xor, ← crcRun_xor xs ys ds _ _ h1 h2 hd, ← crcRun_xor ds zs ds _ _ (by omega) rfl fun i hi => by rw [hz i (by omega)]; simp]
end Go.Proofs.Ythaifamjgcfkaaa

/- The rules of operations on 32 bits and on bytes, as functions on bits. No program in sight. -/
namespace Go.Proofs.Ythaifamjgcfkaaa
open Go.RowKit
set_option linter.unusedVariables false

theorem u32_of (x : BitVec 32) : BitVec.ofInt 32 (x.toNat : Int) = x := by rw [BitVec.ofInt_natCast]; simp
theorem u32_fit (x : BitVec 32) : IntKind.u32.wrap (x.toNat : Int) = x.toNat := by rw [IntKind.wrap_u32]; have := x.isLt; omega
theorem u8_of (x : BitVec 8) : BitVec.ofInt 8 (x.toNat : Int) = x := by rw [BitVec.ofInt_natCast]; simp
theorem u8_fit (x : BitVec 8) : IntKind.u8.wrap (x.toNat : Int) = x.toNat := by rw [IntKind.wrap_u8]; have := x.isLt; omega
theorem u8_int {z : Int} (h0 : 0 ≤ z) (h1 : z ≤ 255) : ((BitVec.ofInt 8 z).toNat : Int) = z := by
  rw [BitVec.toNat_ofInt]; simp; omega
theorem u32_int {z : Int} (h0 : 0 ≤ z) (h1 : z ≤ 4294967295) : ((BitVec.ofInt 32 z).toNat : Int) = z := by
  rw [BitVec.toNat_ofInt]; simp; omega

section
variable {P : Program} {n : Cx} {fr : Fr} {w : World} {ty : TypeId} {x y z : Operand} {m p : Int} {T T2 : TypeId} {k2 : IntKind}
theorem os_xor32 (a b : BitVec 32) (hx : Fr.ev fr x = some (.int .u32 m)) (hm : m = (a.toNat : Int)) (hy : Fr.ev fr y = some (.int .u32 p)) (hp : p = (b.toNat : Int)) : OS P n (.binOp .xor T x y T2) ty fr w (.int .u32 ((a ^^^ b).toNat : Int)) w :=
  os_xor hx hy (by subst hm; subst hp; show IntKind.u32.wrap ((BitVec.ofInt 32 _ ^^^ BitVec.ofInt 32 _).toNat : Nat) = _; rw [u32_of, u32_of]; exact u32_fit _)
theorem os_and32 (a b : BitVec 32) (hx : Fr.ev fr x = some (.int .u32 m)) (hm : m = (a.toNat : Int)) (hy : Fr.ev fr y = some (.int .u32 p)) (hp : p = (b.toNat : Int)) : OS P n (.binOp .and T x y T2) ty fr w (.int .u32 ((a &&& b).toNat : Int)) w :=
  os_and hx hy (by subst hm; subst hp; show IntKind.u32.wrap ((BitVec.ofInt 32 _ &&& BitVec.ofInt 32 _).toNat : Nat) = _; rw [u32_of, u32_of]; exact u32_fit _)
theorem os_shr32 (a : BitVec 32) (s : Nat) (hx : Fr.ev fr x = some (.int .u32 m)) (hm : m = (a.toNat : Int)) (hy : Fr.ev fr y = some (.int k2 p)) (hp : p = (s : Int)) : OS P n (.binOp .shr T x y T2) ty fr w (.int .u32 ((a >>> s).toNat : Int)) w :=
  os_shr hx hy (by omega) (by
    subst hm; subst hp
    show (a.toNat : Int).fdiv (2 ^ min ((s : Int)).toNat 32) = _
    have e : ((s : Int)).toNat = s := by omega
    rw [e, BitVec.toNat_ushiftRight, Nat.shiftRight_eq_div_pow, Int.fdiv_eq_ediv_of_nonneg _ (by exact_mod_cast Nat.zero_le _)]
    by_cases h : s ≤ 32
    · rw [Nat.min_eq_left h]; simp
    · rw [Nat.min_eq_right (by omega)]
      have h1 : a.toNat / 2 ^ s = 0 := Nat.div_eq_of_lt (Nat.lt_of_lt_of_le a.isLt (Nat.pow_le_pow_right (by omega) (by omega)))
      have h2 : a.toNat / 2 ^ 32 = 0 := Nat.div_eq_of_lt a.isLt
      rw [h1]
      have : ((a.toNat : Int) / 2 ^ 32) = ((a.toNat / 2 ^ 32 : Nat) : Int) := by simp
      rw [this, h2])
theorem os_neg32 (a : BitVec 32) (hx : Fr.ev fr x = some (.int .u32 m)) (hm : m = (a.toNat : Int)) : OS P n (.unOp .neg T x) ty fr w (.int .u32 ((-a).toNat : Int)) w :=
  os_neg hx (by subst hm; rw [IntKind.wrap_u32, BitVec.toNat_neg]; have := a.isLt; simp; omega)
theorem os_com32 (a : BitVec 32) (hx : Fr.ev fr x = some (.int .u32 m)) (hm : m = (a.toNat : Int)) : OS P n (.unOp .xor T x) ty fr w (.int .u32 ((~~~ a).toNat : Int)) w :=
  os_com hx (by
    subst hm
    show IntKind.u32.wrap ((BitVec.ofInt 32 4294967295 ^^^ BitVec.ofInt 32 _).toNat : Nat) = _
    rw [u32_of, show BitVec.ofInt 32 4294967295 = BitVec.allOnes 32 from by decide, BitVec.allOnes_xor]; exact u32_fit _)
theorem os_xor8 (a b : BitVec 8) (hx : Fr.ev fr x = some (.int .u8 m)) (hm : m = (a.toNat : Int)) (hy : Fr.ev fr y = some (.int .u8 p)) (hp : p = (b.toNat : Int)) : OS P n (.binOp .xor T x y T2) ty fr w (.int .u8 ((a ^^^ b).toNat : Int)) w :=
  os_xor hx hy (by subst hm; subst hp; show IntKind.u8.wrap ((BitVec.ofInt 8 _ ^^^ BitVec.ofInt 8 _).toNat : Nat) = _; rw [u8_of, u8_of]; exact u8_fit _)
/-- a byte of 32 bits -/
theorem os_low8 (a : BitVec 32) (h1 : P.underlying T = some (.int .u32)) (h2 : P.underlying T2 = some (.int .u8)) (hx : Fr.ev fr x = some (.int .u32 m)) (hm : m = (a.toNat : Int)) : OS P n (.convert T T2 x) ty fr w (.int .u8 ((a.setWidth 8).toNat : Int)) w :=
  os_conv h1 h2 hx (by subst hm; rw [IntKind.wrap_u8, BitVec.toNat_setWidth]; simp)
end
end Go.Proofs.Ythaifamjgcfkaaa

/- Layer 7: the contracts of the program's sums. -/
namespace Go.Proofs.Ythaifamjgcfkaaa
open Go.RowKit
set_option linter.unusedVariables false

section
variable {P : Program} {n : Cx} {fr : Fr} {w : World} {ty : TypeId} {x y : Operand} {m : Int} {T e : TypeId} {k : IntKind} {v : Value}
theorem os_ixa {g i l : Nat} (hT : P.underlying T = some (.array l e)) (hs : ∀ w, (sizeOf e).run P w = .ok 1 w) (hx : Fr.ev fr x = some (.pointer (some ⟨g, 0, none⟩))) (hy : Fr.ev fr y = some (.int k m)) (hm : m = (i : Int)) (h : i < l) : OS P n (.indexAddr T x y) ty fr w (.pointer (some ⟨g, 0 + i, none⟩)) w := by
  subst hm
  exact os_of fun a ha => by simp [execOp, ha.ev hx, ha.ev hy, Instr.indexAt, asIntOf, run_underlying hT, Instr.sureAddr, h, hs, addr_add]
theorem os_allocB {zc : Array Value} {cs : List Value} (hz : ∀ w, (zeroValue T).run P w = .ok (.agg zc) w) (he : zc = cs.toArray) : OS P n (.alloc T) ty fr w (.pointer (some ⟨w.heap.size, 0, none⟩)) (w.alloc (.cells cs.toArray T)) := by
  subst he
  exact os_alloc hz
end

section
variable {P : Program} {n : Cx} {fr : Fr} {w : World} {fn : Func} {U : Value → World → Prop} {t g : Nat} {T e : TypeId} {cs : List Value} {d : TypeDesc}
/-- a named result that lies in memory -/
theorem post_cell (hf : fn.results = #[.cell t T]) (hg : Fr.get fr t = some (.pointer (some ⟨g, 0, none⟩))) (hu : P.underlying T = some d) (hd : (match d with | .struct _ | .array _ _ => true | _ => false) = true) (hs : (P.info? T).map (·.size) = some cs.length) (hB : Bk w g cs e) (h : U (.agg cs.toArray) w) : Post P n fn U .ret fr w := by
  unfold Post
  refine ⟨_, fun a ha => ?_, h⟩
  have := run_loadVar_row (P := P) w g e T cs.toArray (0, 0) d hB hu hd (by simpa using hs)
  have h1 : a.tmps.getD t undef = .pointer (some ⟨g, 0, none⟩) := by simp [Array.getD_eq_getD_getElem?, ha.at_ t _ hg]
  simp only [Array.getD_eq_getD_getElem?] at h1
  simp [results, hf, h1, asAddr, this]
end

/-- lists of lists -/
def RdS (w : World) (k : IntKind) (A : Option Addr) (ls : List (List Int)) : Prop :=
  0 < ls.length → ∃ b off, A = some ⟨b, off, none⟩ ∧ ∀ i, i < ls.length → ∃ Ai ci, w.cell? ⟨b, off + i, none⟩ = some (.slice Ai (ls.getD i []).length ci) ∧ Rd w k Ai (ls.getD i []) ∧ (ls.getD i []).length ≤ ci ∧ (ls.getD i []).length ≤ 140737488351232
theorem RdS.nil {w k A} : RdS w k A [] := fun h => absurd h (by simp)
theorem RdS.at_ {w k A ls} (h : RdS w k A ls) {i : Nat} (hi : i < ls.length) : ∃ b off Ai ci, A = some ⟨b, off, none⟩ ∧ w.cell? ⟨b, off + i, none⟩ = some (.slice Ai (ls.getD i []).length ci) ∧ Rd w k Ai (ls.getD i []) ∧ (ls.getD i []).length ≤ ci ∧ (ls.getD i []).length ≤ 140737488351232 := by
  obtain ⟨b, off, e, hc⟩ := h (by omega)
  obtain ⟨Ai, ci, h1⟩ := hc i hi
  exact ⟨b, off, Ai, ci, e, h1⟩
theorem RdS.keep {w w' : World} {k A ls} (h : RdS w k A ls) (hb : Below w.heap.size w w') : RdS w' k A ls := by
  intro hl
  obtain ⟨b, off, e, hc⟩ := h hl
  refine ⟨b, off, e, fun i hi => ?_⟩
  obtain ⟨Ai, ci, h1, h2, h3, h4⟩ := hc i hi
  have := World.block_lt_of_cell? w ⟨b, off + i, none⟩ h1
  exact ⟨Ai, ci, (hb.cell (p := ⟨b, off + i, none⟩) this).trans h1, h2.keep hb, h3, h4⟩
theorem RdS.led {w w' : World} {k A ls} (h : RdS w k A ls) (hb : LeD w w') : RdS w' k A ls := by obtain ⟨q, rfl⟩ := hb; exact h

def crcCellsTo (k : Nat) : List Value := (List.range 256).map fun n => if n < k then .int .u32 ((crcTab n).toNat : Int) else .int .u32 0
def crcCells : List Value := crcCellsTo 256
theorem crcCellsTo_len (k : Nat) : (crcCellsTo k).length = 256 := by simp [crcCellsTo]
theorem crcCellsTo_set (k : Nat) (hk : k < 256) : (crcCellsTo k).set k (.int .u32 ((crcTab k).toNat : Int)) = crcCellsTo (k + 1) := by
  apply List.ext_getElem
  · simp [crcCellsTo]
  · intro i h1 h2
    rw [List.getElem_set]
    simp only [crcCellsTo, List.getElem_map, List.getElem_range]
    by_cases h : k = i
    · subst h; simp
    · rw [if_neg h]
      by_cases h3 : i < k
      · rw [if_pos h3, if_pos (by omega)]
      · rw [if_neg h3, if_neg (by omega)]
theorem crcCells_at {i : Nat} (hi : i < 256) : nthV crcCells i = some (.int .u32 ((crcTab i).toNat : Int)) := by
  rw [nthV_eq]
  simp [crcCells, crcCellsTo, hi]
theorem crcCellsTo_some (k : Nat) {i : Nat} (hi : i < 256) : ∃ v, nthV (crcCellsTo k) i = some v := by
  rw [nthV_eq]
  exact ⟨_, List.getElem?_eq_getElem (by rw [crcCellsTo_len]; exact hi)⟩
theorem crcCells_one : oneCells crcCells = true := by
  have : ∀ l : List Value, (∀ v ∈ l, v.oneCell' = true) → oneCells l = true := by
    intro l
    induction l with
    | nil => intro _; rfl
    | cons v r ih => intro h; simp only [oneCells, Bool.and_eq_true]; exact ⟨h v (by simp), ih fun u hu => h u (by simp [hu])⟩
  refine this _ fun v hv => ?_
  simp only [crcCells, crcCellsTo, List.mem_map] at hv
  obtain ⟨n, _, rfl⟩ := hv
  split <;> rfl
theorem zc_table : Try.zeroCells151 = (crcCellsTo 0).toArray := by kernel_rfl

set_option maxHeartbeats 1000000 in
theorem sum_filled (w : World) : Gives Try.prog 93 #[] w fun v w' => v = .agg crcCells.toArray ∧ Below w.heap.size w w' := by
  have hb0 : Below w.heap.size w (w.alloc (.cells (crcCellsTo 0).toArray 151)) := (Below.refl _ w).alloc (Nat.le_refl _) _
  have hB0 := bk_new w (crcCellsTo 0) 151
  refine gives_enter Try.call93 Try.func93 rfl rfl rfl (by kernel_rfl) ?_
  refine v_seq ?_
  refine v_region ?_
  refine vl_val (os_allocB Try.zeroValue151 zc_table) ?_
  refine vl_nil ?_
  refine v_seq ?_
  refine v_seq ?_
  refine v_region ?_
  refine vl_val (os_move rfl) ?_
  refine vl_nil ?_
  refine v_block ?_
  refine v_loop [(0, _)] (fun (k : Nat) => [(3, .int .i64 k)]) (fun k w' => k ≤ 256 ∧ Bk w' w.heap.size (crcCellsTo k) 151 ∧ Below w.heap.size w w') (fun k => 256 - k) (0) ⟨rfl, trivial⟩ ⟨rfl, trivial⟩ (⟨by omega, hB0, hb0⟩) ?_
  rintro k W ⟨hk, hB, hb⟩
  refine v_seq ?_
  refine v_region ?_
  refine vl_val (os_lss rfl rfl) ?_
  refine vl_nil ?_
  refine v_seq ?_
  refine v_cond_d rfl (fun hlt => ?_) (fun hlt => ?_)
  · refine v_skip ?_
    refine v_seq ?_
    refine v_block ?_
    refine v_seq ?_
    refine v_region ?_
    refine vl_val (os_move rfl) ?_
    refine vl_val (os_assign rfl) ?_
    refine vl_nil ?_
    refine v_seq ?_
    refine v_region ?_
    refine vl_val (os_move rfl) ?_
    refine vl_val (os_conv Try.underlying3 Try.underlying78 rfl (show IntKind.u32.wrap (k : Int) = ((crcRnds 0 (BitVec.ofNat 32 k)).toNat : Int) by rw [IntKind.wrap_u32]; simp [crcRnds])) ?_
    refine vl_val (os_assign rfl) ?_
    refine vl_nil ?_
    refine v_seq ?_
    refine v_seq ?_
    refine v_region ?_
    refine vl_val (os_move rfl) ?_
    refine vl_nil ?_
    refine v_block ?_
    refine v_loop [(0, _), (1, _), (3, _)] (fun (j : Nat) => [(2, .int .u32 ((crcRnds j (BitVec.ofNat 32 k)).toNat : Int)), (8, .int .i64 j)]) (fun j w' => j ≤ 8 ∧ w' = W) (fun j => 8 - j) (0) ⟨rfl, rfl, rfl, trivial⟩ ⟨rfl, rfl, trivial⟩ (⟨by omega, rfl⟩) ?_
    rintro j W ⟨hj, rfl⟩
    refine v_seq ?_
    refine v_region ?_
    refine vl_val (os_lss rfl rfl) ?_
    refine vl_nil ?_
    refine v_seq ?_
    refine v_cond_d rfl (fun hj8 => ?_) (fun hj8 => ?_)
    · have hn : crcRnds (j + 1) (BitVec.ofNat 32 k) = crcRnd (crcRnds j (BitVec.ofNat 32 k)) := rfl
      refine v_skip ?_
      refine v_seq ?_
      refine v_block ?_
      refine v_region ?_
      refine vl_val (os_move rfl) ?_
      refine vl_val (os_shr32 (crcRnds j (BitVec.ofNat 32 k)) 1 rfl rfl rfl rfl) ?_
      refine vl_val (os_move rfl) ?_
      refine vl_val (os_and32 (crcRnds j (BitVec.ofNat 32 k)) 1#32 rfl rfl rfl rfl) ?_
      refine vl_val (os_neg32 (crcRnds j (BitVec.ofNat 32 k) &&& 1#32) rfl rfl) ?_
      refine vl_val (os_and32 crcPoly (-(crcRnds j (BitVec.ofNat 32 k) &&& 1#32)) rfl rfl rfl rfl) ?_
      refine vl_val (os_xor32 (crcRnds j (BitVec.ofNat 32 k) >>> 1) (crcPoly &&& -(crcRnds j (BitVec.ofNat 32 k) &&& 1#32)) rfl rfl rfl rfl) ?_
      refine vl_val (os_assign rfl) ?_
      refine vl_nil ?_
      refine v_region ?_
      refine vl_val (os_addi rfl rfl (by omega)) ?_
      refine vl_val (os_move rfl) ?_
      refine vl_nil ?_
      exact ⟨j + 1, ⟨rfl, rfl, rfl, trivial⟩, ⟨rfl, rfl, trivial⟩, ⟨by omega, rfl⟩, by dsimp only; omega⟩
    · obtain rfl : j = 8 := by omega
      obtain ⟨u, hu⟩ := crcCellsTo_some k (i := k) (by omega)
      refine v_exit ?_
      refine v_region ?_
      refine vl_val (os_move rfl) ?_
      refine vl_val (os_move rfl) ?_
      refine vl_val (os_ixa Try.underlying151 Try.sizeOf78 rfl rfl (i := k) rfl (by omega)) ?_
      refine vl_unit (ou_store Try.sizeOf78 rfl rfl rfl (hB.cell hu) (hB.free _)) ?_
      have hs := hB.set k (.int .u32 ((crcTab k).toNat : Int))
      rw [crcCellsTo_set k (by omega)] at hs
      refine vl_nil ?_
      refine v_region ?_
      refine vl_val (os_addi rfl rfl (by omega)) ?_
      refine vl_val (os_move rfl) ?_
      refine vl_nil ?_
      exact ⟨k + 1, ⟨rfl, trivial⟩, ⟨rfl, trivial⟩, ⟨by omega, hs, below_set hb (Nat.le_refl _) _ _⟩, by dsimp only; omega⟩
  · obtain rfl : k = 256 := by omega
    refine v_exit ?_
    refine v_seq ?_
    refine v_region ?_
    refine vl_val (os_loadB Try.underlying151 rfl (by rw [crcCellsTo_len]; kernel_rfl) rfl hB) ?_
    refine vl_unit (ou_storeB (by rw [crcCellsTo_len]; kernel_rfl) rfl rfl hB rfl crcCells_one) ?_
    have hE := setRow_bk hB (crcCellsTo 256)
    refine vl_nil ?_
    refine v_ret ?_
    exact post_cell rfl rfl Try.underlying151 rfl (by rw [crcCellsTo_len]; kernel_rfl) hE ⟨rfl, below_setRow hb (Nat.le_refl _) _⟩

/-- each number is a byte -/
def AllB (zs : List Int) : Prop := ∀ z ∈ zs, 0 ≤ z ∧ z ≤ 255
theorem AllB.at_ {zs : List Int} (h : AllB zs) (k : Nat) : 0 ≤ zs.getD k 0 ∧ zs.getD k 0 ≤ 255 := by
  by_cases hk : k < zs.length
  · simp [hk]; exact h _ (List.getElem_mem _)
  · simp [hk]
theorem crcRun_take {s : BitVec 32} {zs : List Int} {k : Nat} (hk : k < zs.length) : crcRun s (zs.take (k + 1)) = crcStep (crcRun s (zs.take k)) (zs.getD k 0) := by
  rw [List.take_succ_eq_append_getElem hk, crcRun_app]
  simp [crcRun, hk]

theorem sum_run (g : Nat) (s : BitVec 32) (A : Option Addr) (n c : Nat) (zs : List Int) (w : World) (hB : Bk w g crcCells 151) (ha : Rd w .u8 A zs) (hn : n = zs.length) (hn' : n ≤ 9223372036854775807) (hz : AllB zs) :
    Gives Try.prog 94 #[.pointer (some ⟨g, 0, none⟩), .int .u32 (s.toNat : Int), .slice A n c] w fun v w' => v = .int .u32 ((crcRun s zs).toNat : Int) ∧ w' = w := by
  refine gives_enter Try.call94 Try.func94 rfl rfl rfl (by kernel_rfl) ?_
  refine v_seq ?_
  refine v_region ?_
  refine vl_val (os_assign rfl) ?_
  refine vl_nil ?_
  refine v_seq ?_
  refine v_seq ?_
  refine v_region ?_
  refine vl_val (os_move rfl) ?_
  refine vl_val (os_len Try.underlying22 rfl) ?_
  refine vl_val (os_move rfl) ?_
  refine vl_nil ?_
  refine v_block ?_
  refine v_loop [(0, _), (9, _), (10, _)] (fun (k : Nat) => [(1, .int .u32 ((crcRun s (zs.take k)).toNat : Int)), (11, .int .i64 k)]) (fun k w' => k ≤ n ∧ w' = w) (fun k => n - k) (0) ⟨rfl, rfl, rfl, trivial⟩ ⟨rfl, rfl, trivial⟩ (⟨by omega, rfl⟩) ?_
  rintro k w ⟨hk, rfl⟩
  refine v_seq ?_
  refine v_region ?_
  refine vl_val (os_lss rfl rfl) ?_
  refine vl_nil ?_
  refine v_seq ?_
  refine v_cond_d rfl (fun hlt => ?_) (fun hlt => ?_)
  · obtain ⟨b1, o1, rfl, c1⟩ := ha.at_ (i := k) (by omega)
    have hb := hz.at_ k
    have e1 : (zs.getD k 0) = ((BitVec.ofInt 8 (zs.getD k 0)).toNat : Int) := (u8_int hb.1 hb.2).symm
    have hst := crcRun_take (s := s) (zs := zs) (k := k) (by omega)
    generalize crcRun s (zs.take k) = S at *
    refine v_skip ?_
    refine v_seq ?_
    refine v_block ?_
    refine v_seq ?_
    refine v_region ?_
    refine vl_val (os_ix Try.underlying22 Try.sizeOf5 rfl rfl (i := k) (by omega) (by omega)) ?_
    refine vl_val (os_load Try.isAgg5 rfl (c1)) ?_
    refine vl_val (os_assign rfl) ?_
    refine vl_nil ?_
    refine v_region ?_
    refine vl_val (os_move rfl) ?_
    refine vl_val (os_shr32 S 8 rfl rfl rfl rfl) ?_
    refine vl_val (os_move rfl) ?_
    refine vl_val (os_move rfl) ?_
    refine vl_val (os_low8 S Try.underlying78 Try.underlying5 rfl rfl) ?_
    refine vl_val (os_move rfl) ?_
    refine vl_val (os_xor8 (S.setWidth 8) (BitVec.ofInt 8 (zs.getD k 0)) rfl rfl rfl e1) ?_
    refine vl_val (os_nilCheck rfl) ?_
    refine vl_val (os_ixa Try.underlying151 Try.sizeOf78 rfl rfl (i := (S.setWidth 8 ^^^ BitVec.ofInt 8 (zs.getD k 0)).toNat) rfl (BitVec.isLt _)) ?_
    refine vl_val (os_load Try.isAgg78 rfl (hB.cell (crcCells_at (BitVec.isLt _)))) ?_
    refine vl_val (os_xor32 (S >>> 8) (crcTab (S.setWidth 8 ^^^ BitVec.ofInt 8 (zs.getD k 0)).toNat) rfl rfl rfl rfl) ?_
    refine vl_val (os_assign rfl) ?_
    refine vl_nil ?_
    refine v_region ?_
    refine vl_val (os_addi rfl rfl (by omega)) ?_
    refine vl_val (os_move rfl) ?_
    refine vl_nil ?_
    exact ⟨k + 1, ⟨rfl, rfl, rfl, trivial⟩, ⟨by rw [hst]; rfl, rfl, trivial⟩, ⟨by omega, rfl⟩, by dsimp only; omega⟩
  · refine v_exit ?_
    refine v_seq ?_
    refine v_region ?_
    refine vl_val (os_move rfl) ?_
    refine vl_val (os_assign rfl) ?_
    refine vl_nil ?_
    refine v_ret ?_
    exact post_ret rfl rfl (⟨by rw [List.take_of_length_le (by omega)], rfl⟩)

theorem sum_Of (A : Option Addr) (n c : Nat) (ls : List (List Int)) (w : World) (ha : RdS w .u8 A ls) (hn : n = ls.length) (hn' : n ≤ 9223372036854775807) (hz : ∀ l ∈ ls, AllB l) :
    Gives Try.prog 51 #[.slice A n c] w fun v w' => v = .int .u32 ((crcOf ls).toNat : Int) ∧ Below w.heap.size w w' := by
  refine gives_enter Try.call51 Try.func51 rfl rfl rfl (by kernel_rfl) ?_
  refine v_seq ?_
  refine v_region ?_
  refine vl_val (os_assign rfl) ?_
  refine vl_nil ?_
  refine v_seq ?_
  refine v_region ?_
  refine vl_call (sum_filled w) rfl ?_
  rintro v w1 ⟨rfl, hb1⟩
  refine vl_val (os_allocB Try.zeroValue151 zc_table) ?_
  have hB0 := bk_new w1 (crcCellsTo 0) 151
  have hb2 : Below w.heap.size w (w1.alloc (.cells (crcCellsTo 0).toArray 151)) := hb1.alloc hb1.size _
  refine vl_unit (ou_storeB (by rw [show crcCells.length = 256 from crcCellsTo_len _]; kernel_rfl) rfl rfl hB0 ((crcCellsTo_len 0).trans (crcCellsTo_len 256).symm) crcCells_one) ?_
  have hB := setRow_bk hB0 crcCells
  have hb3 := below_setRow hb2 hb1.size crcCells.toArray
  have ha3 := ha.keep hb3
  generalize (w1.alloc (.cells (crcCellsTo 0).toArray 151)).setRow w1.heap.size crcCells.toArray = w3 at *
  refine vl_nil ?_
  refine v_seq ?_
  refine v_region ?_
  refine vl_val (os_assign rfl) ?_
  refine vl_nil ?_
  refine v_seq ?_
  refine v_seq ?_
  refine v_region ?_
  refine vl_val (os_move rfl) ?_
  refine vl_val (os_len Try.underlying128 rfl) ?_
  refine vl_val (os_move rfl) ?_
  refine vl_nil ?_
  refine v_block ?_
  refine v_loop [(3, _), (8, _), (9, _)] (fun (k : Nat) => [(4, .int .u32 (((ls.take k).foldl crcRun (~~~ 0#32)).toNat : Int)), (10, .int .i64 k)]) (fun k w' => k ≤ n ∧ w' = w3) (fun k => n - k) (0) ⟨rfl, rfl, rfl, trivial⟩ ⟨rfl, rfl, trivial⟩ (⟨by omega, rfl⟩) ?_
  rintro k w3 ⟨hk, rfl⟩
  refine v_seq ?_
  refine v_region ?_
  refine vl_val (os_lss rfl rfl) ?_
  refine vl_nil ?_
  refine v_seq ?_
  refine v_cond_d rfl (fun hlt => ?_) (fun hlt => ?_)
  · obtain ⟨b1, o1, Ai, ci, rfl, c1, r1, l1, l2⟩ := ha3.at_ (i := k) (by omega)
    have hst : (ls.take (k + 1)).foldl crcRun (~~~ 0#32) = crcRun ((ls.take k).foldl crcRun (~~~ 0#32)) (ls.getD k []) := by
      rw [List.take_succ_eq_append_getElem (by omega), List.foldl_append]; simp [show k < ls.length by omega]
    refine v_skip ?_
    refine v_seq ?_
    refine v_block ?_
    refine v_seq ?_
    refine v_region ?_
    refine vl_val (os_ix Try.underlying128 Try.sizeOf22 rfl rfl (i := k) (by omega) (by omega)) ?_
    refine vl_val (os_load Try.isAgg22 rfl (c1)) ?_
    refine vl_val (os_assign rfl) ?_
    refine vl_nil ?_
    refine v_region ?_
    refine vl_val (os_move rfl) ?_
    refine vl_val (os_move rfl) ?_
    refine vl_call (sum_run _ _ Ai _ ci (ls.getD k []) w3 hB r1 rfl (by omega) (by rw [List.getD_eq_getElem?_getD, List.getElem?_eq_getElem (by omega)]; exact hz _ (List.getElem_mem _))) rfl ?_
    rintro v w3 ⟨rfl, rfl⟩
    refine vl_val (os_assign rfl) ?_
    refine vl_nil ?_
    refine v_region ?_
    refine vl_val (os_addi rfl rfl (by omega)) ?_
    refine vl_val (os_move rfl) ?_
    refine vl_nil ?_
    exact ⟨k + 1, ⟨rfl, rfl, rfl, trivial⟩, ⟨by rw [hst]; rfl, rfl, trivial⟩, ⟨by omega, rfl⟩, by dsimp only; omega⟩
  · refine v_exit ?_
    refine v_seq ?_
    refine v_region ?_
    refine vl_val (os_move rfl) ?_
    refine vl_val (os_com32 ((ls.take k).foldl crcRun (~~~ 0#32)) rfl rfl) ?_
    refine vl_val (os_assign rfl) ?_
    refine vl_nil ?_
    refine v_ret ?_
    exact post_ret rfl rfl (⟨by rw [List.take_of_length_le (by omega)]; rfl, hb3⟩)
end Go.Proofs.Ythaifamjgcfkaaa
