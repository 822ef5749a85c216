/- Texts joined: NtQ SzP LyP HdP Vp Ty V4. -/
import Derived.Test.YtpojijnjdlnokaaM4
import Derived.Test.YtpojijnjdlnokaaProg
/- Layer 15, plain: a report's bytes; what bytes are as a report. No program in sight. -/
namespace Go.Proofs.Ytpojijnjdlnokaa
open Go.RowKit
set_option linter.unusedVariables false

structure NoteP where
  st : Int
  sq : Int
  n : Int
  cs : List (Int × Int)
def NoteV.p (d : NoteV) : NoteP := ⟨d.st, d.sq, d.n, d.cs⟩
def rightP (q : NoteP) : Bool := cntOk q.n 0 q.cs && inB q.st 0 65535 && inB q.sq 1 2147483647 && inB q.n 1 255
theorem rightN_p (d : NoteV) : rightN d = rightP d.p := rfl
def cntB (cs : List (Int × Int)) : List Int := cs.flatMap fun c => numBytes c.1 1 ++ numBytes c.2 2
/-- a report's bytes -/
def noteB (q : NoteP) : List Int := numBytes 2 1 ++ (numBytes q.st 2 ++ (numBytes q.sq 4 ++ (numBytes q.n 1 ++ (numBytes (q.cs.length : Int) 1 ++ cntB q.cs))))
/-- the number in so many bytes from a place on -/
def numAt (p : List Int) (i s : Nat) : Int := numOf ((p.drop i).take s)
def cntsAt (p : List Int) (i k : Nat) : List (Int × Int) := (List.range k).map fun j => (numAt p (i + 3 * j) 1, numAt p (i + 1 + 3 * j) 2)
def noteP (p : List Int) : NoteP := ⟨numAt p 1 2, numAt p 3 4, numAt p 7 1, cntsAt p 9 (numAt p 8 1).toNat⟩
def goodP (p : List Int) : Bool := decide (9 ≤ p.length ∧ (p.length : Int) = 9 + 3 * numAt p 8 1)
def parseE (p : List Int) : Int := if p.length = 0 then 4 else if numAt p 0 1 ≠ 2 then 11 else if goodP p && rightP (noteP p) then 0 else 4

theorem numAt_one {p : List Int} {i : Nat} (h : i < p.length) : numAt p i 1 = p.getD i 0 := by
  unfold numAt
  rw [List.drop_eq_getElem_cons h, List.take_succ_cons, List.take_zero]
  show 0 * 256 + p[i] = _
  simp [h]
theorem numAt_two {p : List Int} {i : Nat} (h : i + 1 < p.length) : numAt p i 2 = p.getD i 0 * 256 + p.getD (i + 1) 0 := by
  unfold numAt
  rw [List.drop_eq_getElem_cons (by omega), List.drop_eq_getElem_cons (by omega), List.take_succ_cons, List.take_succ_cons, List.take_zero]
  show (0 * 256 + p[i]) * 256 + p[i + 1] = _
  simp [h, show i < p.length by omega]
theorem numAt_four {p : List Int} {i : Nat} (h : i + 3 < p.length) : numAt p i 4 = ((p.getD i 0 * 256 + p.getD (i + 1) 0) * 256 + p.getD (i + 2) 0) * 256 + p.getD (i + 3) 0 := by
  unfold numAt
  rw [List.drop_eq_getElem_cons (by omega), List.drop_eq_getElem_cons (by omega), List.drop_eq_getElem_cons (by omega), List.drop_eq_getElem_cons (by omega), List.take_succ_cons, List.take_succ_cons, List.take_succ_cons, List.take_succ_cons, List.take_zero]
  show (((0 * 256 + p[i]) * 256 + p[i + 1]) * 256 + p[i + 2]) * 256 + p[i + 3] = _
  simp [h, show i < p.length by omega, show i + 1 < p.length by omega, show i + 2 < p.length by omega]
theorem pow256 {a b : Nat} (h : a ≤ b) : (256 : Int) ^ a ≤ 256 ^ b := by
  induction b with
  | zero => obtain rfl : a = 0 := by omega
            exact Int.le_refl _
  | succ b ih =>
    rcases Nat.lt_or_ge b a with h1 | h1
    · obtain rfl : a = b + 1 := by omega
      exact Int.le_refl _
    · have h2 := ih h1
      have h3 : (0 : Int) < 256 ^ b := Int.pow_pos (by decide)
      rw [Int.pow_succ]; omega
theorem numAt_bd {p : List Int} (h : AllY p) (i s : Nat) : 0 ≤ numAt p i s ∧ numAt p i s < 256 ^ s := by
  have h1 := numOf_bound ((p.drop i).take s) ((h.drop i).take s)
  have h2 : ((p.drop i).take s).length ≤ s := List.length_take_le _ _
  have h3 := pow256 h2
  unfold numAt
  omega
theorem nb_of {bs : List Int} (h : AllY bs) {s : Nat} (hl : bs.length = s) (hs : 1 ≤ s ∧ s ≤ 4) : numBytes (numOf bs) s = bs := by
  subst hl
  match bs, h, hs with
  | [a], h, _ => have := h a (by simp); simp [numOf, numBytes, List.range_succ]; omega
  | [a, b], h, _ => have := h a (by simp); have := h b (by simp); simp [numOf, numBytes, List.range_succ]; omega
  | [a, b, c], h, _ => have := h a (by simp); have := h b (by simp); have := h c (by simp); simp [numOf, numBytes, List.range_succ]; omega
  | [a, b, c, d], h, _ => have := h a (by simp); have := h b (by simp); have := h c (by simp); have := h d (by simp); simp [numOf, numBytes, List.range_succ]; omega
  | [], _, hs => simp at hs
  | _ :: _ :: _ :: _ :: _ :: _, _, hs => simp at hs
theorem nb_at {p : List Int} (h : AllY p) {i s : Nat} (hl : i + s ≤ p.length) (hs : 1 ≤ s ∧ s ≤ 4) : numBytes (numAt p i s) s = (p.drop i).take s :=
  nb_of ((h.drop i).take s) (by rw [List.length_take, List.length_drop]; omega) hs
theorem take_drop (p : List Int) (i s : Nat) : (p.drop i).take s ++ p.drop (i + s) = p.drop i := by
  rw [← List.drop_drop, List.take_append_drop]
theorem cntB_at {p : List Int} (h : AllY p) : ∀ (k i : Nat), p.length = i + 3 * k → cntB (cntsAt p i k) = p.drop i := by
  intro k
  induction k with
  | zero => intro i hl; rw [List.drop_of_length_le (by omega)]; rfl
  | succ k ih =>
    intro i hl
    have e : cntsAt p i (k + 1) = (numAt p i 1, numAt p (i + 1) 2) :: cntsAt p (i + 3) k := by
      unfold cntsAt
      rw [List.range_succ_eq_map, List.map_cons, List.map_map]
      refine List.cons_eq_cons.2 ⟨rfl, List.map_congr_left fun j _ => ?_⟩
      show (numAt p (i + 3 * (j + 1)) 1, numAt p (i + 1 + 3 * (j + 1)) 2) = _
      rw [show i + 3 * (j + 1) = i + 3 + 3 * j by omega, show i + 1 + 3 * (j + 1) = i + 3 + 1 + 3 * j by omega]
    rw [e]
    show (numBytes (numAt p i 1) 1 ++ numBytes (numAt p (i + 1) 2) 2) ++ cntB (cntsAt p (i + 3) k) = _
    rw [ih (i + 3) (by omega), nb_at h (by omega) (by omega), nb_at h (by omega) (by omega), List.append_assoc, show i + 3 = i + 1 + 2 by omega, take_drop, take_drop]
theorem good_len {p : List Int} (h : goodP p = true) : 9 ≤ p.length ∧ (p.length : Int) = 9 + 3 * numAt p 8 1 := by simpa [goodP] using h
theorem cntsAt_len (p : List Int) (i k : Nat) : (cntsAt p i k).length = k := by simp [cntsAt]
/-- bytes that are a report are just its bytes -/
theorem noteB_of {p : List Int} (h : AllY p) (hg : goodP p = true) (h2 : numAt p 0 1 = 2) : noteB (noteP p) = p := by
  obtain ⟨g1, g2⟩ := good_len hg
  have hb := numAt_bd h 8 1
  have hk : (((numAt p 8 1).toNat : Nat) : Int) = numAt p 8 1 := Int.toNat_of_nonneg hb.1
  unfold noteB noteP
  simp only [cntsAt_len]
  rw [hk, cntB_at h _ 9 (by omega), ← h2, nb_at h (by omega) (by omega), nb_at h (by omega) (by omega), nb_at h (by omega) (by omega), nb_at h (by omega) (by omega), nb_at h (by omega) (by omega)]
  rw [take_drop p 8 1, take_drop p 7 1, take_drop p 3 4, take_drop p 1 2, take_drop p 0 1]; rfl
structure RightQ (q : NoteP) : Prop where
  st : 0 ≤ q.st ∧ q.st ≤ 65535
  sq : 1 ≤ q.sq ∧ q.sq ≤ 2147483647
  n : 1 ≤ q.n ∧ q.n ≤ 255
  cnt : cntOk q.n 0 q.cs = true
theorem rightQ_iff {q : NoteP} : rightP q = true ↔ RightQ q := by
  simp only [rightP, Bool.and_eq_true, inB_iff]
  exact ⟨fun h => ⟨h.1.1.2, h.1.2, h.2, h.1.1.1⟩, fun h => ⟨⟨⟨h.cnt, h.st⟩, h.sq⟩, h.n⟩⟩
theorem RightQ.len {q : NoteP} (h : RightQ q) : (q.cs.length : Int) ≤ 255 := by
  have := (cnt_all h.cnt).2 (by have := h.n; omega)
  have := h.n
  omega
theorem cntB_len (cs : List (Int × Int)) : (cntB cs).length = 3 * cs.length := by
  induction cs with
  | nil => rfl
  | cons c r ih =>
    show ((numBytes c.1 1 ++ numBytes c.2 2) ++ cntB r).length = _
    simp only [List.length_append, numBytes_len, ih, List.length_cons]; omega
theorem noteB_len (q : NoteP) : (noteB q).length = 9 + 3 * q.cs.length := by
  unfold noteB
  simp only [List.length_append, numBytes_len, cntB_len]; omega
theorem numAt_app {a b : List Int} {i s : Nat} (h : a.length = i) : numAt (a ++ b) i s = numOf (b.take s) := by
  unfold numAt
  rw [List.drop_left' h]
theorem num_head {n : Int} {s : Nat} (b : List Int) (hs : 1 ≤ s ∧ s ≤ 4) (hn : 0 ≤ n ∧ n < 256 ^ s) : numOf ((numBytes n s ++ b).take s) = n := by
  rw [List.take_left' (numBytes_len n s)]
  exact numOf_numBytes hs hn
theorem cnts_of : ∀ (cs : List (Int × Int)) (a : List Int) (i : Nat), a.length = i → (∀ c ∈ cs, 0 ≤ c.1 ∧ c.1 ≤ 255 ∧ 0 ≤ c.2 ∧ c.2 ≤ 65535) → cntsAt (a ++ cntB cs) i cs.length = cs
  | [], a, i, _, _ => rfl
  | c :: r, a, i, ha, h => by
    have hc := h c (by simp)
    have e : cntsAt (a ++ cntB (c :: r)) i (r.length + 1) = (numAt (a ++ cntB (c :: r)) i 1, numAt (a ++ cntB (c :: r)) (i + 1) 2) :: cntsAt (a ++ cntB (c :: r)) (i + 3) r.length := by
      unfold cntsAt
      rw [List.range_succ_eq_map, List.map_cons, List.map_map]
      refine List.cons_eq_cons.2 ⟨rfl, List.map_congr_left fun j _ => ?_⟩
      show (numAt _ (i + 3 * (j + 1)) 1, numAt _ (i + 1 + 3 * (j + 1)) 2) = _
      rw [show i + 3 * (j + 1) = i + 3 + 3 * j by omega, show i + 1 + 3 * (j + 1) = i + 3 + 1 + 3 * j by omega]
    have eb : cntB (c :: r) = numBytes c.1 1 ++ (numBytes c.2 2 ++ cntB r) := by
      show (numBytes c.1 1 ++ numBytes c.2 2) ++ cntB r = _
      rw [List.append_assoc]
    rw [List.length_cons, e, eb, numAt_app ha, num_head _ (by omega) ⟨by omega, by simp; omega⟩, ← List.append_assoc, numAt_app (by rw [List.length_append, numBytes_len, ha]), num_head _ (by omega) ⟨by omega, by simp; omega⟩, ← List.append_assoc]
    rw [cnts_of r (a ++ numBytes c.1 1 ++ numBytes c.2 2) (i + 3) (by simp only [List.length_append, numBytes_len, ha]) (fun x hx => h x (by simp [hx]))]
/-- what a right report's bytes are -/
theorem note_back {q : NoteP} (h : RightQ q) : parseE (noteB q) = 0 ∧ noteP (noteB q) = q ∧ numAt (noteB q) 0 1 = 2 := by
  have hl := h.len
  have hst := h.st
  have hsq := h.sq
  have hn := h.n
  have p0 : numAt (noteB q) 0 1 = 2 := by unfold noteB; exact num_head _ (by omega) ⟨by omega, by simp⟩
  have p1 : numAt (noteB q) 1 2 = q.st := by
    unfold noteB; rw [numAt_app (numBytes_len _ _)]; exact num_head _ (by omega) ⟨by omega, by simp; omega⟩
  have p3 : numAt (noteB q) 3 4 = q.sq := by
    unfold noteB
    rw [← List.append_assoc, numAt_app (by simp only [List.length_append, numBytes_len])]; exact num_head _ (by omega) ⟨by omega, by simp; omega⟩
  have p7 : numAt (noteB q) 7 1 = q.n := by
    unfold noteB
    rw [← List.append_assoc, ← List.append_assoc, numAt_app (by simp only [List.length_append, numBytes_len])]; exact num_head _ (by omega) ⟨by omega, by simp; omega⟩
  have p8 : numAt (noteB q) 8 1 = q.cs.length := by
    unfold noteB
    rw [← List.append_assoc, ← List.append_assoc, ← List.append_assoc, numAt_app (by simp only [List.length_append, numBytes_len])]; exact num_head _ (by omega) ⟨by omega, by simp; omega⟩
  have p9 : cntsAt (noteB q) 9 q.cs.length = q.cs := by
    unfold noteB
    rw [← List.append_assoc, ← List.append_assoc, ← List.append_assoc, ← List.append_assoc]
    exact cnts_of q.cs _ 9 (by simp only [List.length_append, numBytes_len]) fun c hc => by have := (cnt_all h.cnt).1 c hc; omega
  have hp : noteP (noteB q) = q := by
    unfold noteP
    rw [p1, p3, p7, p8, Int.toNat_natCast, p9]
  refine ⟨?_, hp, p0⟩
  have hg : goodP (noteB q) = true := by
    unfold goodP
    rw [p8, noteB_len]; simp
  unfold parseE
  rw [if_neg (by rw [noteB_len]; omega), if_neg (by rw [p0]; decide), hg, hp, rightQ_iff.2 h]; rfl
theorem noteB_Y {q : NoteP} : AllY (noteB q) := by
  intro z hz
  unfold noteB cntB at hz
  simp only [List.mem_append, List.mem_flatMap] at hz
  rcases hz with h | h | h | h | h | ⟨c, _, h | h⟩ <;> exact numBytes_Y _ _ z h
end Go.Proofs.Ytpojijnjdlnokaa

/- Layers 9, 11: widths, room, what fits: plain laws. No program in sight. -/
namespace Go.Proofs.Ytpojijnjdlnokaa

def betw (n a b : Int) : Bool := decide (a ≤ n ∧ n ≤ b)
def rightB (n m b : Int) : Bool := decide (1 ≤ n ∧ n ≤ 255 ∧ 64 ≤ m ∧ m ≤ 1500 ∧ 1 ≤ b ∧ b ≤ 524288)
def roomOk (n m b l : Int) : Bool := rightB n m b && betw l 1 8
def roomW (n m b l : Int) : Int := max (min m (b / n) - 18 - 3 * l) (-1)
def roomV (n m b l : Int) : Int := if roomOk n m b l then roomW n m b l else 0
def errE (ok : Bool) : Int := if ok then 0 else 2
def widthOk (long k : Int) : Bool := decide (0 ≤ long ∧ long ≤ 65535 ∧ 1 ≤ k ∧ k ≤ 255)
def widthW (long k : Int) : Int := (long + k - 1) / k
def widthV (long k : Int) : Int := if widthOk long k then widthW long k else 0
def lensB (ls : List Int) : Bool := betw ls.length 1 8 && !(ls.any fun z => !betw z 0 65535)
def sortedB (ks : List Int) : Bool := decide (∀ i, i < ks.length → i + 1 < ks.length → ks.getD i 0 ≤ ks.getD (i + 1) 0)
def fitGo (n : Int) : Int → List (Int × Int) → Bool
  | _, [] => true
  | room, p :: r => decide (p.2 ≤ n) && widthOk p.1 p.2 && decide (0 ≤ room - widthW p.1 p.2) && fitGo n (room - widthW p.1 p.2) r
def fitsB (n m b : Int) (lens ks : List Int) : Bool := roomOk n m b lens.length && lensB lens && decide (ks.length = lens.length) && sortedB ks && fitGo n (roomW n m b lens.length) (lens.zip ks)

theorem width_bd {long k : Int} (h : widthOk long k = true) : 0 ≤ widthW long k ∧ widthW long k ≤ 65535 := by
  simp only [widthOk, decide_eq_true_eq] at h
  unfold widthW
  constructor
  · exact Int.ediv_nonneg (by omega) (by omega)
  · have h1 : (long + k - 1) / k ≤ long := by
      by_cases h0 : long = 0
      · subst h0
        rw [Int.ediv_eq_zero_of_lt (by omega) (by omega)]; omega
      · have : long + k - 1 ≤ long * k := by
          have h2 : (long - 1) * (k - 1) ≥ 0 := Int.mul_nonneg (by omega) (by omega)
          have h3 : (long - 1) * (k - 1) = long * k - long - k + 1 := by
            rw [Int.sub_mul, Int.mul_sub]; omega
          omega
        exact Int.ediv_le_of_le_mul (by omega) this
    omega
/-- more bytes, no less wide; more rows, no wider -/
theorem width_mono {a b k : Int} (h : a ≤ b) (hk : 1 ≤ k) : widthW a k ≤ widthW b k := Int.ediv_le_ediv (by omega) (by omega)
theorem width_anti {a k j : Int} (h0 : 0 ≤ a) (hk : 1 ≤ k) (hj : k ≤ j) : widthW a j ≤ widthW a k := by
  unfold widthW
  have h1 : a ≤ (a + k - 1) / k * k := by
    have := Int.emod_add_mul_ediv (a + k - 1) k
    have h2 := Int.emod_lt_of_pos (a + k - 1) (show 0 < k by omega)
    rw [Int.mul_comm] at this
    omega
  have h3 : 0 ≤ (a + k - 1) / k := Int.ediv_nonneg (by omega) (by omega)
  have h4 : (a + k - 1) / k * k ≤ (a + k - 1) / k * j := Int.mul_le_mul_of_nonneg_left hj h3
  have h5 : a + j - 1 < ((a + k - 1) / k + 1) * j := by rw [Int.add_mul]; omega
  have h6 := Int.ediv_lt_of_lt_mul (show 0 < j by omega) h5
  omega

theorem room_bd {n m b l : Int} (h : roomOk n m b l = true) : -1 ≤ roomW n m b l ∧ roomW n m b l ≤ 1500 := by
  simp only [roomOk, rightB, betw, Bool.and_eq_true, decide_eq_true_eq] at h
  unfold roomW; omega
theorem room_mono {n m b l m' b' : Int} (h : 1 ≤ n) (hm : m ≤ m') (hb : b ≤ b') : roomW n m b l ≤ roomW n m' b' l := by
  have := Int.ediv_le_ediv (show 0 < n by omega) hb
  unfold roomW; omega

def sumW : List (Int × Int) → Int
  | [] => 0
  | p :: r => widthW p.1 p.2 + sumW r
theorem fitGo_iff {n : Int} : ∀ (zs : List (Int × Int)) (room : Int), fitGo n room zs = true ↔ (∀ p ∈ zs, p.2 ≤ n ∧ widthOk p.1 p.2 = true) ∧ (zs = [] ∨ sumW zs ≤ room)
  | [], room => by simp [fitGo]
  | p :: r, room => by
    have ih := fitGo_iff (n := n) r (room - widthW p.1 p.2)
    simp only [fitGo, Bool.and_eq_true, decide_eq_true_eq, ih, List.mem_cons, forall_eq_or_imp, sumW, reduceCtorEq, false_or]
    constructor
    · rintro ⟨⟨⟨h1, h2⟩, h3⟩, h4, h5⟩
      refine ⟨⟨⟨h1, h2⟩, h4⟩, ?_⟩
      rcases h5 with rfl | h5
      · simp [sumW]; omega
      · omega
    · rintro ⟨⟨⟨h1, h2⟩, h4⟩, h5⟩
      have hs : 0 ≤ sumW r := by
        clear ih h5
        induction r with
        | nil => simp [sumW]
        | cons q s ih => simp only [sumW]; have := (width_bd (h4 q (by simp)).2).1; have := ih (fun p hp => h4 p (by simp [hp])); omega
      exact ⟨⟨⟨h1, h2⟩, by omega⟩, h4, .inr (by omega)⟩
theorem fitGo_drop_false {n room : Int} {zs : List (Int × Int)} {p : Int × Int} {r : List (Int × Int)} (h : zs = p :: r) (h2 : ¬ (p.2 ≤ n ∧ widthOk p.1 p.2 = true ∧ 0 ≤ room - widthW p.1 p.2)) : fitGo n room zs = false := by
  subst h
  simp only [fitGo]
  cases hb : fitGo n (room - widthW p.1 p.2) r <;> simp
  intro h3 h4
  exact Int.not_le.1 fun h5 => h2 ⟨h3, h4, by omega⟩
end Go.Proofs.Ytpojijnjdlnokaa

/- Layer 10, plain: what a table is, how long a body is. No program in sight. -/
namespace Go.Proofs.Ytpojijnjdlnokaa
open Go.RowKit
set_option linter.unusedVariables false

def rowGood (n least : Int) (x : Int × Int) : Prop := least ≤ x.1 ∧ x.1 ≤ n ∧ 0 ≤ x.2 ∧ x.2 ≤ 65535
instance (n least : Int) (x : Int × Int) : Decidable (rowGood n least x) := by unfold rowGood; infer_instance
def layGo (n : Int) : Int → List (Int × Int) → Bool
  | _, [] => true
  | least, x :: r => decide (rowGood n least x) && layGo n x.1 r
def layOk (n : Int) (rows : List (Int × Int)) : Bool := decide (1 ≤ n ∧ n ≤ 255 ∧ 1 ≤ rows.length ∧ rows.length ≤ 8) && layGo n 1 rows
/-- the threshold ahead -/
def prevK (rows : List (Int × Int)) : Nat → Int
  | 0 => 1
  | i + 1 => (rows.getD i (0, 0)).1
theorem layGo_step {n : Int} {rows : List (Int × Int)} {i : Nat} (hi : i < rows.length) : layGo n (prevK rows i) (rows.drop i) = (decide (rowGood n (prevK rows i) (rows.getD i (0, 0))) && layGo n (prevK rows (i + 1)) (rows.drop (i + 1))) := by
  have e : rows.getD i (0, 0) = rows[i] := by simp [hi]
  rw [List.drop_eq_getElem_cons hi, layGo, show prevK rows (i + 1) = (rows.getD i (0, 0)).1 from rfl, e]
theorem layGo_all {n least : Int} {rows : List (Int × Int)} (h : layGo n least rows = true) (hl : 1 ≤ least) : ∀ x ∈ rows, least ≤ x.1 ∧ x.1 ≤ n ∧ 0 ≤ x.2 ∧ x.2 ≤ 65535 := by
  induction rows generalizing least with
  | nil => intro x hx; cases hx
  | cons y r ih =>
    simp only [layGo, Bool.and_eq_true, decide_eq_true_eq] at h
    obtain ⟨h1, h2⟩ := h
    unfold rowGood at h1
    intro x hx
    rcases List.mem_cons.1 hx with rfl | hx
    · exact h1
    · have := ih h2 (by omega) x hx; omega
theorem layOk_parts {n : Int} {rows : List (Int × Int)} (h : layOk n rows = true) : (1 ≤ n ∧ n ≤ 255) ∧ 1 ≤ rows.length ∧ rows.length ≤ 8 ∧ layGo n 1 rows = true ∧ ∀ i, i < rows.length → widthOk (rows.getD i (0, 0)).2 (rows.getD i (0, 0)).1 = true := by
  simp only [layOk, Bool.and_eq_true, decide_eq_true_eq] at h
  refine ⟨⟨h.1.1, h.1.2.1⟩, h.1.2.2.1, h.1.2.2.2, h.2, fun i hi => ?_⟩
  have := layGo_all h.2 (by omega) (rows.getD i (0, 0)) (by rw [List.getD_eq_getElem?_getD, List.getElem?_eq_getElem hi]; exact List.getElem_mem _)
  simp only [widthOk, decide_eq_true_eq]
  omega
/-- where stripe k begins -/
def offS (rows : List (Int × Int)) : Nat → Int
  | 0 => 0
  | k + 1 => offS rows k + widthV (rows.getD k (0, 0)).2 (rows.getD k (0, 0)).1
theorem offS_bd {rows : List (Int × Int)} : ∀ k, 0 ≤ offS rows k ∧ offS rows k ≤ k * 65535
  | 0 => by simp [offS]
  | k + 1 => by
    have h1 := offS_bd (rows := rows) k
    have h2 : 0 ≤ widthV (rows.getD k (0, 0)).2 (rows.getD k (0, 0)).1 ∧ widthV (rows.getD k (0, 0)).2 (rows.getD k (0, 0)).1 ≤ 65535 := by
      unfold widthV
      split
      · rename_i h; exact width_bd h
      · omega
    simp only [offS]
    omega
def longV (n : Int) (rows : List (Int × Int)) : Int := if layOk n rows then offS rows rows.length else 0
def ofV (n : Int) (rows : List (Int × Int)) : Int := if layOk n rows then 18 + 3 * rows.length + offS rows rows.length else 0
end Go.Proofs.Ytpojijnjdlnokaa

/- Layer 14, plain: a header's bytes; what bytes are as a header and a body. No program in sight. -/
namespace Go.Proofs.Ytpojijnjdlnokaa
open Go.RowKit
set_option linter.unusedVariables false

structure HeadP where
  st : Int
  fr : Int
  ix : Int
  n : Int
  dl : Int
  rows : List (Int × Int)
structure HeadV where
  q : HeadP
  A : Option Addr
  l : Nat
  c : Nat
def HeadV.cells (h : HeadV) : List Value := [.int .i64 h.q.st, .int .i64 h.q.fr, .int .i64 h.q.ix, .int .i64 h.q.n, .int .i64 h.q.dl, .slice h.A h.l h.c]
def HeadOk (w : World) (h : HeadV) : Prop := RdP w 2 h.A (h.q.rows.map rowC) ∧ h.l = h.q.rows.length ∧ h.l ≤ 9000000000000 ∧ (I64 h.q.st ∧ I64 h.q.fr ∧ I64 h.q.ix ∧ I64 h.q.n ∧ I64 h.q.dl) ∧ (∀ p ∈ h.q.rows, I64 p.1 ∧ I64 p.2) ∧ h.l ≤ h.c
theorem HeadOk.keep {w w' : World} {h : HeadV} (hh : HeadOk w h) (hb : Below w.heap.size w w') : HeadOk w' h := ⟨hh.1.keep hb, hh.2⟩
theorem HeadOk.blk {w w' : World} {h : HeadV} (hh : HeadOk w h) (hb : ∀ a, h.A = some a → w'.heap[a.block]? = w.heap[a.block]?) : HeadOk w' h := ⟨hh.1.blk hb, hh.2⟩
def rightH (q : HeadP) : Bool := layOk q.n q.rows && (betw q.ix 0 (q.n - 1) && (betw q.st 0 65535 && (betw q.fr 1 2147483647 && betw q.dl 0 2147483647)))
structure RightH (q : HeadP) : Prop where
  lay : layOk q.n q.rows = true
  ix : 0 ≤ q.ix ∧ q.ix ≤ q.n - 1
  st : 0 ≤ q.st ∧ q.st ≤ 65535
  fr : 1 ≤ q.fr ∧ q.fr ≤ 2147483647
  dl : 0 ≤ q.dl ∧ q.dl ≤ 2147483647
theorem rightH_iff {q : HeadP} : rightH q = true ↔ RightH q := by
  simp only [rightH, Bool.and_eq_true, betw, decide_eq_true_eq]
  exact ⟨fun h => ⟨h.1, h.2.1, h.2.2.1, h.2.2.2.1, h.2.2.2.2⟩, fun h => ⟨h.lay, h.ix, h.st, h.fr, h.dl⟩⟩
/-- a header's bytes -/
def headB (q : HeadP) : List Int := numBytes 1 1 ++ (numBytes q.st 2 ++ (numBytes q.fr 4 ++ (numBytes q.ix 1 ++ (numBytes q.n 1 ++ (numBytes (q.rows.length : Int) 1 ++ (numBytes q.dl 4 ++ cntB q.rows))))))
theorem headB_len (q : HeadP) : (headB q).length = 14 + 3 * q.rows.length := by
  unfold headB
  simp only [List.length_append, numBytes_len, cntB_len]; omega
theorem headB_Y {q : HeadP} : AllY (headB q) := by
  intro z hz
  unfold headB cntB at hz
  simp only [List.mem_append, List.mem_flatMap] at hz
  rcases hz with h | h | h | h | h | h | h | ⟨c, _, h | h⟩ <;> exact numBytes_Y _ _ z h
def headP (p : List Int) : HeadP := ⟨numAt p 1 2, numAt p 3 4, numAt p 7 1, numAt p 8 1, numAt p 10 4, cntsAt p 14 (numAt p 9 1).toNat⟩
def bodyP (p : List Int) : List Int := p.drop (14 + 3 * (numAt p 9 1).toNat)
def shapeH (p : List Int) : Bool := decide (14 ≤ p.length ∧ 14 + 3 * (numAt p 9 1).toNat ≤ p.length)
def putH (q : HeadP) (body : List Int) : Bool := rightH q && decide ((body.length : Int) = longV q.n q.rows)
def parseHE (p : List Int) : Int := if p.length = 0 then 4 else if numAt p 0 1 ≠ 1 then 11 else if shapeH p && putH (headP p) (bodyP p) then 0 else 4
/-- bytes that are a header and a body are just theirs -/
theorem headB_of {p : List Int} (h : AllY p) (hg : shapeH p = true) (h1 : numAt p 0 1 = 1) : headB (headP p) ++ bodyP p = p := by
  obtain ⟨g1, g2⟩ : 14 ≤ p.length ∧ 14 + 3 * (numAt p 9 1).toNat ≤ p.length := by simpa [shapeH] using hg
  have hb := numAt_bd h 9 1
  obtain ⟨k, hk⟩ : ∃ k, (numAt p 9 1).toNat = k := ⟨_, rfl⟩
  have hk9 : numAt p 9 1 = (k : Int) := by omega
  obtain ⟨p1, hp1⟩ : ∃ p1, p1 = p.take (14 + 3 * k) := ⟨_, rfl⟩
  have hl1 : p1.length = 14 + 3 * k := by rw [hp1, List.length_take]; omega
  have hy1 : AllY p1 := by rw [hp1]; exact h.take _
  have hAt : ∀ i s, i + s ≤ 14 + 3 * k → numAt p1 i s = numAt p i s := fun i s hi => by
    unfold numAt
    rw [hp1, List.drop_take, List.take_take, Nat.min_eq_left (by omega)]
  have hC : cntsAt p 14 k = cntsAt p1 14 k := by
    unfold cntsAt
    refine List.map_congr_left fun j hj => ?_
    have hj := List.mem_range.1 hj
    rw [hAt _ _ (by omega), hAt _ _ (by omega)]
  have hall : headB (headP p) = p1 := by
    unfold headB headP
    simp only [cntsAt_len]
    rw [hk, hC, cntB_at hy1 k 14 hl1, ← hk9, ← h1]
    rw [← hAt 0 1 (by omega), ← hAt 1 2 (by omega), ← hAt 3 4 (by omega), ← hAt 7 1 (by omega), ← hAt 8 1 (by omega), ← hAt 9 1 (by omega), ← hAt 10 4 (by omega)]
    rw [nb_at hy1 (by omega) (by omega), nb_at hy1 (by omega) (by omega), nb_at hy1 (by omega) (by omega), nb_at hy1 (by omega) (by omega), nb_at hy1 (by omega) (by omega), nb_at hy1 (by omega) (by omega), nb_at hy1 (by omega) (by omega)]
    rw [take_drop p1 10 4, take_drop p1 9 1, take_drop p1 8 1, take_drop p1 7 1, take_drop p1 3 4, take_drop p1 1 2, take_drop p1 0 1]; rfl
  rw [hall, hp1]
  unfold bodyP
  rw [hk, List.take_append_drop]
theorem rows_bd {n : Int} {rows : List (Int × Int)} (h : layOk n rows = true) : ∀ c ∈ rows, 0 ≤ c.1 ∧ c.1 ≤ 255 ∧ 0 ≤ c.2 ∧ c.2 ≤ 65535 := fun c hc => by
  obtain ⟨h1, h2, h3, h4, h5⟩ := layOk_parts h
  have := layGo_all h4 (by omega) c hc
  omega
theorem head_back {q : HeadP} {body : List Int} (h : putH q body = true) : parseHE (headB q ++ body) = 0 ∧ headP (headB q ++ body) = q ∧ bodyP (headB q ++ body) = body := by
  have h' := h
  unfold putH at h'
  rw [Bool.and_eq_true, decide_eq_true_iff] at h'
  have hr := rightH_iff.1 h'.1
  obtain ⟨l1, l2, l3, l4, l5⟩ := layOk_parts hr.lay
  have hst := hr.st
  have hfr := hr.fr
  have hix := hr.ix
  have hdl := hr.dl
  have ea : ∀ body : List Int, headB q ++ body = numBytes 1 1 ++ (numBytes q.st 2 ++ (numBytes q.fr 4 ++ (numBytes q.ix 1 ++ (numBytes q.n 1 ++ (numBytes (q.rows.length : Int) 1 ++ (numBytes q.dl 4 ++ (cntB q.rows ++ body))))))) := fun body => by
    unfold headB
    simp only [List.append_assoc]
  have p0 : numAt (headB q ++ body) 0 1 = 1 := by rw [ea]; exact num_head _ (by omega) ⟨by omega, by simp⟩
  have p1 : numAt (headB q ++ body) 1 2 = q.st := by
    rw [ea, numAt_app (numBytes_len _ _)]; exact num_head _ (by omega) ⟨by omega, by simp; omega⟩
  have p3 : numAt (headB q ++ body) 3 4 = q.fr := by
    rw [ea, ← List.append_assoc, numAt_app (by simp only [List.length_append, numBytes_len])]; exact num_head _ (by omega) ⟨by omega, by simp; omega⟩
  have p7 : numAt (headB q ++ body) 7 1 = q.ix := by
    rw [ea, ← List.append_assoc, ← List.append_assoc, numAt_app (by simp only [List.length_append, numBytes_len])]; exact num_head _ (by omega) ⟨by omega, by simp; omega⟩
  have p8 : numAt (headB q ++ body) 8 1 = q.n := by
    rw [ea, ← List.append_assoc, ← List.append_assoc, ← List.append_assoc, numAt_app (by simp only [List.length_append, numBytes_len])]; exact num_head _ (by omega) ⟨by omega, by simp; omega⟩
  have p9 : numAt (headB q ++ body) 9 1 = q.rows.length := by
    rw [ea, ← List.append_assoc, ← List.append_assoc, ← List.append_assoc, ← List.append_assoc, numAt_app (by simp only [List.length_append, numBytes_len])]; exact num_head _ (by omega) ⟨by omega, by simp; omega⟩
  have p10 : numAt (headB q ++ body) 10 4 = q.dl := by
    rw [ea, ← List.append_assoc, ← List.append_assoc, ← List.append_assoc, ← List.append_assoc, ← List.append_assoc, numAt_app (by simp only [List.length_append, numBytes_len])]; exact num_head _ (by omega) ⟨by omega, by simp; omega⟩
  have hlen : (headB q ++ body).length = 14 + 3 * q.rows.length + body.length := by rw [List.length_append, headB_len]
  have p14 : cntsAt (headB q ++ body) 14 q.rows.length = q.rows := by
    have e1 : cntsAt (headB q ++ body) 14 q.rows.length = cntsAt (headB q) 14 q.rows.length := by
      unfold cntsAt
      refine List.map_congr_left fun j hj => ?_
      have hj := List.mem_range.1 hj
      have hh : ∀ i s, i + s ≤ (headB q).length → numAt (headB q ++ body) i s = numAt (headB q) i s := fun i s hi => by
        unfold numAt
        rw [List.drop_append_of_le_length (by omega), List.take_append_of_le_length (by rw [List.length_drop]; omega)]
      rw [hh _ _ (by rw [headB_len]; omega), hh _ _ (by rw [headB_len]; omega)]
    rw [e1]
    unfold headB
    rw [← List.append_assoc, ← List.append_assoc, ← List.append_assoc, ← List.append_assoc, ← List.append_assoc, ← List.append_assoc]
    exact cnts_of q.rows _ 14 (by simp only [List.length_append, numBytes_len]) (rows_bd hr.lay)
  have hp : headP (headB q ++ body) = q := by
    unfold headP
    rw [p1, p3, p7, p8, p9, p10, Int.toNat_natCast, p14]
  have hbd : bodyP (headB q ++ body) = body := by
    unfold bodyP
    rw [p9, Int.toNat_natCast, List.drop_left' (headB_len q)]
  refine ⟨?_, hp, hbd⟩
  have hs : shapeH (headB q ++ body) = true := by
    unfold shapeH
    rw [p9, Int.toNat_natCast, hlen]
    exact decide_eq_true ⟨by omega, by omega⟩
  unfold parseHE
  rw [if_neg (by rw [hlen]; omega), if_neg (by rw [p0]; decide), hs, hp, hbd, h]; rfl
end Go.Proofs.Ytpojijnjdlnokaa

/- What the rules want of the program. -/
namespace Go.Proofs.Ytpojijnjdlnokaa
theorem mixed : Try.prog.follows .mixedOrders = true := by kernel_rfl
end Go.Proofs.Ytpojijnjdlnokaa

/- Rows of the table of types. -/
namespace Go.Proofs.Ytpojijnjdlnokaa
theorem ti_int : TyInfo Try.prog 3 (.int .i64 0) 1 8 := by unfold TyInfo; kernel_rfl
theorem ti_u8 : TyInfo Try.prog 5 (.int .u8 0) 1 1 := by unfold TyInfo; kernel_rfl
end Go.Proofs.Ytpojijnjdlnokaa

/- Regions that draw their order, order by order: what may be taken first is taken first, the rest is gone through. No program in sight. -/
namespace Go.Proofs.Ytpojijnjdlnokaa
open Go.RowKit
set_option linter.unusedVariables false

def nrm (n : Cx) (Q : Exit → Fr → World → Prop) : Exit → Act → World → Prop
  | .normal, a, w => ∃ fr, Ag n fr a ∧ Q .normal fr w
  | _, _, _ => False

/-- so many operations are left at most; which have come up, says 'listed' -/
def VA (P : Program) (n : Cx) (all : List Oper) (fuel : Nat) (listed : List Bool) (fr : Fr) (w : World) (Q : Exit → Fr → World → Prop) : Prop :=
  all.all (dstOk n.sz) = true → ∀ a, Ag n fr a → wpAny P .any all.toArray (nrm n Q) fuel listed.toArray a w

def setB : List Bool → Nat → List Bool
  | [], _ => []
  | _ :: r, 0 => true :: r
  | b :: r, i + 1 => b :: setB r i
theorem setB_eq : ∀ (l : List Bool) (i : Nat), (setB l i).toArray = l.toArray.setIfInBounds i true
  | [], i => by simp [setB]
  | _ :: r, 0 => by simp [setB]
  | b :: r, i + 1 => by
    have := setB_eq r i
    simp only [List.setIfInBounds_toArray, List.toArray_inj] at this
    have h2 : setB r i = r.set i true := by simpa using this
    simp [setB, h2]

theorem OS.ot' {P : Program} {n : Cx} {op : Op} {ty : TypeId} {fr : Fr} {w w' : World} {v : Value} (h : OS P n op ty fr w v w') {U : Value → World → Prop} (hU : U v w') : OT P n op ty fr w U := by
  unfold OS at h
  unfold OT
  exact fun a ha => ⟨v, w', h a ha, hU⟩
section
variable {P : Program} {n : Cx} {all : List Oper} {fuel : Nat} {listed : List Bool} {fr : Fr} {w w' : World} {Q : Exit → Fr → World → Prop} {d : Nat} {op : Op} {ty : TypeId} {pos : String} {aft : Array Edge} {v : Value}

theorem dstOk_at {all : List Oper} {i : Nat} {o : Oper} (h : all.all (dstOk n.sz) = true) (hi : all[i]? = some o) {d : Nat} (hd : o.dst = some d) : d < n.sz := by
  have hm := List.mem_of_getElem? hi
  have := List.all_eq_true.1 h o hm
  simp only [dstOk, hd] at this
  exact (Nat.blt_eq ..).mp this

theorem v_region_a {id : Nat} {l : List Oper} (hm : P.follows .mixedOrders = true) (h : VA P n l l.length (List.replicate l.length false) fr { w with drawn := w.drawn + 1 } Q) (hro : n.ro = none := by rfl) : V P n (.region id l.toArray true) fr w Q := by
  unfold V
  intro hok a ha
  rw [fw_none hro]
  refine wpIn_wide.2 (Code.wp_mono (fun e a w hq => ?_) (wp_region_any (Q := nrm n Q) hm ?_))
  · cases e with
    | normal => exact .inl hq
    | _ => exact hq.elim
  · have := h (by simpa [codeOk] using hok) a ha
    simpa using this

/-- a pure operation may be taken first -/
theorem va_take (i : Nat) (hi : all[i]? = some ⟨some d, op, ty, pos, aft, none⟩) (hs : Region.noSelect all.toArray = true) (hf : Region.free .any all.toArray listed.toArray i = true) (hr : (Region.ready .any all.toArray listed.toArray).contains i = true)
    (h : ∀ w, OS P n op ty fr w v w) (k : VA P n all fuel (setB listed i) ((d, v) :: fr) w Q) : VA P n all (fuel + 1) listed fr w Q := by
  intro hok a ha
  have h1 := dstOk_at hok hi rfl
  refine wpAny_take (oi := ⟨some d, op, ty, pos, aft, none⟩) (v := v) (by simpa using hi) hs hf hr (fun c a w hq => hq.elim) (.inl ⟨rfl, fun w => ?_⟩) ?_
  · have := h w
    unfold OS at this
    exact this a ha
  · have := k hok _ (ha.put h1 v)
    rw [setB_eq] at this
    exact this

theorem va_all (rs : List Nat) (hr : Region.ready .any all.toArray listed.toArray = rs) (hne : rs ≠ []) (h : ∀ i ∈ rs, (all.all (dstOk n.sz) = true → ∀ a, Ag n fr a → wpOp P all.toArray (nrm n Q) i (wpAny P .any all.toArray (nrm n Q) fuel (setB listed i).toArray) a w)) : VA P n all (fuel + 1) listed fr w Q := by
  intro hok a ha
  refine wpAny_all hr hne fun i hi => ?_
  have := h i hi hok a ha
  rw [setB_eq] at this
  exact this

theorem va_some {U : Value → World → Prop} (i : Nat) (hi : all[i]? = some ⟨some d, op, ty, pos, aft, none⟩) (h : OT P n op ty fr w U) (k : ∀ v w', U v w' → VA P n all fuel (setB listed i) ((d, v) :: fr) w' Q) :
    all.all (dstOk n.sz) = true → ∀ a, Ag n fr a → wpOp P all.toArray (nrm n Q) i (wpAny P .any all.toArray (nrm n Q) fuel (setB listed i).toArray) a w := by
  intro hok a ha
  have h1 := dstOk_at hok hi rfl
  unfold OT at h
  obtain ⟨v, w', hr, hu⟩ := h a ha
  unfold wpOp
  simp only [List.getElem?_toArray, hi, Region.wanted, if_true]
  left
  unfold Oper.wp
  rw [execOp_bare, hr]
  exact k v w' hu hok _ (ha.put h1 v)

theorem va_done (hr : Region.ready .any all.toArray listed.toArray = []) (h : Q .normal fr w) : VA P n all fuel listed fr w Q := by
  intro hok a ha
  exact wpAny_done hr ⟨fr, ha, h⟩ fuel

/-! ### with guards, calls, stores -/
/-- a pure operation, whatever its guard, may be taken first -/
theorem va_pure {g : Option (Nat × Bool)} (i : Nat) (hi : all[i]? = some ⟨some d, op, ty, pos, aft, g⟩) (hs : Region.noSelect all.toArray = true) (hf : Region.free .any all.toArray listed.toArray i = true) (hr : (Region.ready .any all.toArray listed.toArray).contains i = true)
    (h : ∀ w, OS P n op ty fr w v w) (k : VA P n all fuel (setB listed i) ((d, v) :: fr) w Q) (hg : GOk all fr g := by first | exact True.intro | rfl) : VA P n all (fuel + 1) listed fr w Q := by
  intro hok a ha
  have h1 := dstOk_at hok hi rfl
  refine wpAny_take (oi := ⟨some d, op, ty, pos, aft, g⟩) (v := v) (by simpa using hi) hs hf hr (fun c a w hq => hq.elim) (.inl ⟨GOk.wanted ha hg, fun w => ?_⟩) ?_
  · have := h w
    unfold OS at this
    rw [execOp_bare]
    exact this a ha
  · have := k hok _ (ha.put h1 v)
    rw [setB_eq] at this
    exact this
/-- an operation whose guard is not met -/
theorem va_skip {j : Nat} {b c : Bool} (i : Nat) (hi : all[i]? = some ⟨some d, op, ty, pos, aft, some (j, b)⟩) (hs : Region.noSelect all.toArray = true) (hf : Region.free .any all.toArray listed.toArray i = true) (hr : (Region.ready .any all.toArray listed.toArray).contains i = true)
    (hg : guardF all fr j = some (.bool c)) (hb : (c == b) = false) (k : VA P n all fuel (setB listed i) ((d, undef) :: fr) w Q) : VA P n all (fuel + 1) listed fr w Q := by
  intro hok a ha
  have h1 := dstOk_at hok hi rfl
  have hne : (some c == some b) = false := by simpa using hb
  refine wpAny_take (oi := ⟨some d, op, ty, pos, aft, some (j, b)⟩) (v := undef) (by simpa using hi) hs hf hr (fun c a w hq => hq.elim) (.inr ⟨?_, rfl⟩) ?_
  · simp only [Region.wanted, guardF_yields ha hg, hne]
  · have := k hok _ (ha.put h1 undef)
    rw [setB_eq] at this
    exact this

theorem va_skipu {j : Nat} {b : Bool} (i : Nat) (hi : all[i]? = some ⟨some d, op, ty, pos, aft, some (j, b)⟩) (hs : Region.noSelect all.toArray = true) (hf : Region.free .any all.toArray listed.toArray i = true) (hr : (Region.ready .any all.toArray listed.toArray).contains i = true)
    (hg : guardF all fr j = some undef) (k : VA P n all fuel (setB listed i) ((d, undef) :: fr) w Q) : VA P n all (fuel + 1) listed fr w Q := by
  intro hok a ha
  have h1 := dstOk_at hok hi rfl
  refine wpAny_take (oi := ⟨some d, op, ty, pos, aft, some (j, b)⟩) (v := undef) (by simpa using hi) hs hf hr (fun c a w hq => hq.elim) (.inr ⟨wanted_undef ha hg, rfl⟩) ?_
  have := k hok _ (ha.put h1 undef)
  rw [setB_eq] at this
  exact this

/-- what may come up next -/
def VN (P : Program) (n : Cx) (all : List Oper) (fuel : Nat) (listed : List Bool) (i : Nat) (fr : Fr) (w : World) (Q : Exit → Fr → World → Prop) : Prop :=
  all.all (dstOk n.sz) = true → ∀ a, Ag n fr a → wpOp P all.toArray (nrm n Q) i (wpAny P .any all.toArray (nrm n Q) fuel (setB listed i).toArray) a w
theorem va_one (i : Nat) (hr : (Region.ready .any all.toArray listed.toArray == [i]) = true) (h : VN P n all fuel listed i fr w Q) : VA P n all (fuel + 1) listed fr w Q :=
  va_all [i] (by simpa using hr) (by simp) fun j hj => by
    simp only [List.mem_cons, List.not_mem_nil, or_false] at hj
    subst hj; exact h
theorem va_two (i j : Nat) (hr : (Region.ready .any all.toArray listed.toArray == [i, j]) = true) (h : VN P n all fuel listed i fr w Q) (h2 : VN P n all fuel listed j fr w Q) : VA P n all (fuel + 1) listed fr w Q :=
  va_all [i, j] (by simpa using hr) (by simp) fun k hk => by
    simp only [List.mem_cons, List.not_mem_nil, or_false] at hk
    rcases hk with rfl | rfl
    · exact h
    · exact h2
theorem va_three (i j l : Nat) (hr : (Region.ready .any all.toArray listed.toArray == [i, j, l]) = true) (h : VN P n all fuel listed i fr w Q) (h2 : VN P n all fuel listed j fr w Q) (h3 : VN P n all fuel listed l fr w Q) : VA P n all (fuel + 1) listed fr w Q :=
  va_all [i, j, l] (by simpa using hr) (by simp) fun k hk => by
    simp only [List.mem_cons, List.not_mem_nil, or_false] at hk
    rcases hk with rfl | rfl | rfl
    · exact h
    · exact h2
    · exact h3

theorem va_four (i j l m : Nat) (hr : (Region.ready .any all.toArray listed.toArray == [i, j, l, m]) = true) (h : VN P n all fuel listed i fr w Q) (h2 : VN P n all fuel listed j fr w Q) (h3 : VN P n all fuel listed l fr w Q) (h4 : VN P n all fuel listed m fr w Q) : VA P n all (fuel + 1) listed fr w Q :=
  va_all [i, j, l, m] (by simpa using hr) (by simp) fun k hk => by
    simp only [List.mem_cons, List.not_mem_nil, or_false] at hk
    rcases hk with rfl | rfl | rfl | rfl
    · exact h
    · exact h2
    · exact h3
    · exact h4

theorem vn_some {g : Option (Nat × Bool)} {i : Nat} {U : Value → World → Prop} (hi : all[i]? = some ⟨some d, op, ty, pos, aft, g⟩) (h : OT P n op ty fr w U) (k : ∀ v w', U v w' → VA P n all fuel (setB listed i) ((d, v) :: fr) w' Q) (hg : GOk all fr g := by first | exact True.intro | rfl) : VN P n all fuel listed i fr w Q := by
  intro hok a ha
  have h1 := dstOk_at hok hi rfl
  unfold wpOp
  simp only [List.getElem?_toArray, hi, GOk.wanted ha hg, if_true]
  left
  unfold OT at h
  obtain ⟨v, w', hr, hu⟩ := h a ha
  unfold Oper.wp
  rw [execOp_bare, hr]
  exact k v w' hu hok _ (ha.put h1 v)
theorem vn_val {g : Option (Nat × Bool)} {i : Nat} (hi : all[i]? = some ⟨some d, op, ty, pos, aft, g⟩) (h : OS P n op ty fr w v w') (k : VA P n all fuel (setB listed i) ((d, v) :: fr) w' Q) (hg : GOk all fr g := by first | exact True.intro | rfl) : VN P n all fuel listed i fr w Q :=
  vn_some (U := fun v1 w1 => v1 = v ∧ w1 = w') hi (h.ot' ⟨rfl, rfl⟩) (by rintro v1 w1 ⟨rfl, rfl⟩; exact k) hg
theorem vn_unit {g : Option (Nat × Bool)} {i : Nat} (hi : all[i]? = some ⟨none, op, ty, pos, aft, g⟩) (h : OU P n op ty fr w w') (k : VA P n all fuel (setB listed i) fr w' Q) (hg : GOk all fr g := by first | exact True.intro | rfl) : VN P n all fuel listed i fr w Q := by
  intro hok a ha
  unfold wpOp
  simp only [List.getElem?_toArray, hi, GOk.wanted ha hg, if_true]
  left
  unfold OU at h
  unfold Oper.wp
  rw [execOp_bare, h a ha]
  exact k hok _ ha
theorem vn_call {g : Option (Nat × Bool)} {i : Nat} {f : FuncId} {xs : List Operand} {tt : Array TypeId} {args : List Value} {U : Value → World → Prop} (hi : all[i]? = some ⟨some d, .call ⟨.value (.func f), xs.toArray, tt⟩, ty, pos, aft, g⟩) (h : Gives P f args.toArray w U) (hx : evL fr xs = some args)
    (k : ∀ v w', U v w' → VA P n all fuel (setB listed i) ((d, v) :: fr) w' Q) (hg : GOk all fr g := by first | exact True.intro | rfl) : VN P n all fuel listed i fr w Q := by
  intro hok a ha
  have h1 := dstOk_at hok hi rfl
  unfold wpOp
  simp only [List.getElem?_toArray, hi, GOk.wanted ha hg, if_true]
  left
  unfold Gives at h
  unfold Oper.wp
  rw [execOp_bare, run_callee (first := #[]) (cap := #[]) h.1 rfl hx ha]
  simp only [Array.append_empty, Array.empty_append]
  refine h.2.mono ?_
  rintro e w' ⟨v, rfl, h2⟩
  exact k v w' h2 hok _ (ha.put h1 v)
theorem vn_calln {g : Option (Nat × Bool)} {i : Nat} {f : FuncId} {xs : List Operand} {tt : Array TypeId} {args : List Value} {U : Value → World → Prop} (hi : all[i]? = some ⟨none, .call ⟨.value (.func f), xs.toArray, tt⟩, ty, pos, aft, g⟩) (h : Gives P f args.toArray w U) (hx : evL fr xs = some args)
    (k : ∀ v w', U v w' → VA P n all fuel (setB listed i) fr w' Q) (hg : GOk all fr g := by first | exact True.intro | rfl) : VN P n all fuel listed i fr w Q := by
  intro hok a ha
  unfold wpOp
  simp only [List.getElem?_toArray, hi, GOk.wanted ha hg, if_true]
  left
  unfold Gives at h
  unfold Oper.wp
  rw [execOp_bare, run_callee (first := #[]) (cap := #[]) h.1 rfl hx ha]
  simp only [Array.append_empty, Array.empty_append]
  refine h.2.mono ?_
  rintro e w' ⟨v, rfl, h2⟩
  exact k v w' h2 hok _ ha
end
attribute [irreducible] VA VN
end Go.Proofs.Ytpojijnjdlnokaa
