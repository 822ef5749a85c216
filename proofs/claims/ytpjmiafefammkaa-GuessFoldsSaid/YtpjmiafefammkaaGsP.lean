/- Layer 24, plain: what a report is, whether it is right, what it says. No program in sight. -/
import Derived.Test.YtpjmiafefammkaaRw
import Derived.Test.YtpjmiafefammkaaFixQ
namespace Go.Proofs.Ytpjmiafefammkaa
open Go.RowKit
set_option linter.unusedVariables false

structure NoteV where
  st : Int
  sq : Int
  n : Int
  A : Option Addr
  l : Nat
  c : Nat
  cs : List (Int × Int)
def NoteV.cells (d : NoteV) : List Value := [.int .i64 d.st, .int .i64 d.sq, .int .i64 d.n, .slice d.A d.l d.c]
def NoteOk (w : World) (d : NoteV) : Prop := RdP w 2 d.A (d.cs.map rowC) ∧ d.l = d.cs.length ∧ d.l ≤ 9000000000000 ∧ (I64 d.st ∧ I64 d.sq ∧ I64 d.n) ∧ ∀ p ∈ d.cs, I64 p.1 ∧ I64 p.2
theorem NoteOk.keep {w w' : World} {d : NoteV} (h : NoteOk w d) (hb : Below w.heap.size w w') : NoteOk w' d := ⟨h.1.keep hb, h.2⟩
theorem NoteOk.led {w w' : World} {d : NoteV} (h : NoteOk w d) (hb : LeD w w') : NoteOk w' d := ⟨h.1.led hb, h.2⟩

def inB (n a b : Int) : Bool := decide (a ≤ n ∧ n ≤ b)
def cntOk (n : Int) : Int → List (Int × Int) → Bool
  | _, [] => true
  | last, c :: r => (inB c.1 (last + 1) n && inB c.2 1 65535) && cntOk n c.1 r
def rightN (d : NoteV) : Bool := cntOk d.n 0 d.cs && inB d.st 0 65535 && inB d.sq 1 2147483647 && inB d.n 1 255
def whyN (st n sq : Int) (d : NoteV) : Int :=
  if rightN d = false then 2 else if d.st ≠ st ∨ d.n ≠ n then 13 else if d.sq ≤ sq then 14 else if d.l = 0 then 5 else 0
theorem why_ok {st n sq : Int} {d : NoteV} : whyN st n sq d = 0 ↔ rightN d = true ∧ d.st = st ∧ d.n = n ∧ sq < d.sq ∧ 0 < d.l := by
  unfold whyN
  cases rightN d
  · simp
  · simp only [Bool.true_eq_false, if_false]
    split
    · constructor
      · intro h; cases h
      · intro h; omega
    · split
      · constructor
        · intro h; cases h
        · intro h; omega
      · split
        · constructor
          · intro h; cases h
          · intro h; omega
        · simp; omega
theorem cnt_step {n : Int} {cs : List (Int × Int)} {i : Nat} {last : Int} (hi : i < cs.length) : cntOk n last (cs.drop i) = ((inB (cs.getD i (0, 0)).1 (last + 1) n && inB (cs.getD i (0, 0)).2 1 65535) && cntOk n (cs.getD i (0, 0)).1 (cs.drop (i + 1))) := by
  have e : cs.getD i (0, 0) = cs[i] := by simp [hi]
  rw [List.drop_eq_getElem_cons hi, cntOk, e]
theorem inB_iff {n a b : Int} : inB n a b = true ↔ a ≤ n ∧ n ≤ b := by simp [inB]
/-- the last count ahead of one -/
def lastC (cs : List (Int × Int)) : Nat → Int
  | 0 => 0
  | i + 1 => (cs.getD i (0, 0)).1
theorem cnt_all {n last : Int} {cs : List (Int × Int)} (h : cntOk n last cs = true) : (∀ c ∈ cs, last < c.1 ∧ c.1 ≤ n ∧ 1 ≤ c.2 ∧ c.2 ≤ 65535) ∧ (last ≤ n → last + (cs.length : Int) ≤ n) := by
  induction cs generalizing last with
  | nil => exact ⟨(fun c hc => by cases hc), (fun h => by simpa using h)⟩
  | cons x r ih =>
    simp only [cntOk, Bool.and_eq_true, inB_iff] at h
    obtain ⟨⟨h1, h2⟩, h3⟩ := h
    obtain ⟨i1, i2⟩ := ih h3
    refine ⟨fun c hc => ?_, fun _ => ?_⟩
    · rcases List.mem_cons.1 hc with rfl | hc
      · omega
      · have := i1 c hc; omega
    · have := i2 h1.2
      simp only [List.length_cons]; omega
/-- no place twice -/
theorem cnt_inc {n last : Int} {cs : List (Int × Int)} (h : cntOk n last cs = true) : cs.Pairwise fun a b => a.1 < b.1 := by
  induction cs generalizing last with
  | nil => exact List.Pairwise.nil
  | cons x r ih =>
    simp only [cntOk, Bool.and_eq_true] at h
    exact List.Pairwise.cons (fun c hc => ((cnt_all h.2).1 c hc).1) (ih h.2)

def timesL (cs : List (Int × Int)) : Int := (cs.map (·.2)).sum
def saysGo (all : Int) : List (Int × Int) → List Int → List Int
  | [], out => out
  | c :: r, out => saysGo all r (out.set c.1.toNat (shareV c.2 all))
def saysL (n : Int) (cs : List (Int × Int)) : List Int := saysGo (timesL cs) cs (List.replicate (n.toNat + 1) 0)
theorem saysGo_len (all : Int) : ∀ (cs : List (Int × Int)) (out : List Int), (saysGo all cs out).length = out.length
  | [], out => rfl
  | c :: r, out => by rw [saysGo, saysGo_len all r]; simp
theorem saysL_len (n : Int) (cs : List (Int × Int)) : (saysL n cs).length = n.toNat + 1 := by simp [saysL, saysGo_len]
theorem saysGo_step {all : Int} {cs : List (Int × Int)} {out : List Int} {i : Nat} (hi : i < cs.length) : saysGo all (cs.drop i) out = saysGo all (cs.drop (i + 1)) (out.set (cs.getD i (0, 0)).1.toNat (shareV (cs.getD i (0, 0)).2 all)) := by
  have e : cs.getD i (0, 0) = cs[i] := by simp [hi]
  rw [List.drop_eq_getElem_cons hi, saysGo, e]
theorem times_bd {n last : Int} {cs : List (Int × Int)} (h : cntOk n last cs = true) : (cs.length : Int) ≤ timesL cs ∧ timesL cs ≤ cs.length * 65535 ∧ ∀ c ∈ cs, c.2 ≤ timesL cs := by
  induction cs generalizing last with
  | nil => simp [timesL]
  | cons x r ih =>
    have hx := (cnt_all h).1 x (by simp)
    simp only [cntOk, Bool.and_eq_true] at h
    obtain ⟨i1, i2, i3⟩ := ih h.2
    simp only [timesL, List.map_cons, List.sum_cons, List.length_cons] at i1 i2 i3 ⊢
    refine ⟨by omega, by omega, fun c hc => ?_⟩
    rcases List.mem_cons.1 hc with rfl | hc
    · omega
    · have := i3 c hc; omega
theorem times_take {n last : Int} {cs : List (Int × Int)} (h : cntOk n last cs = true) (i : Nat) : 0 ≤ timesL (cs.take i) ∧ timesL (cs.take i) ≤ cs.length * 65535 := by
  induction cs generalizing last i with
  | nil => simp [timesL]
  | cons x r ih =>
    have hx := (cnt_all h).1 x (by simp)
    simp only [cntOk, Bool.and_eq_true] at h
    cases i with
    | zero => simp [timesL]; omega
    | succ i =>
      have := ih h.2 i
      simp only [timesL, List.take_succ_cons, List.map_cons, List.sum_cons, List.length_cons] at this ⊢
      omega
theorem times_succ {cs : List (Int × Int)} {i : Nat} (hi : i < cs.length) : timesL (cs.take (i + 1)) = timesL (cs.take i) + (cs.getD i (0, 0)).2 := by
  have e : cs.getD i (0, 0) = cs[i] := by simp [hi]
  unfold timesL
  rw [List.take_succ_eq_append_getElem hi, List.map_append, List.sum_append, e]
  simp
structure RightD (d : NoteV) : Prop where
  st : 0 ≤ d.st ∧ d.st ≤ 65535
  sq : 1 ≤ d.sq ∧ d.sq ≤ 2147483647
  n : 1 ≤ d.n ∧ d.n ≤ 255
  cnt : cntOk d.n 0 d.cs = true
theorem right_iff {d : NoteV} : rightN d = true ↔ RightD d := by
  simp only [rightN, Bool.and_eq_true, inB_iff]
  exact ⟨fun h => ⟨h.1.1.2, h.1.2, h.2, h.1.1.1⟩, fun h => ⟨⟨⟨h.cnt, h.st⟩, h.sq⟩, h.n⟩⟩
theorem share_bd {a b : Int} : 0 ≤ shareV a b ∧ shareV a b ≤ 65536 := by
  unfold shareV shareOk
  split
  · rename_i h
    simp only [decide_eq_true_eq] at h
    refine ⟨Int.ediv_nonneg (by omega) (by omega), ?_⟩
    have : a * 65536 / b ≤ 65536 := by
      apply Int.ediv_le_of_le_mul (by omega)
      rw [Int.mul_comm]
      exact Int.mul_le_mul_of_nonneg_left (by omega) (by decide)
    exact this
  · omega
theorem saysGo_bd {all : Int} : ∀ (cs : List (Int × Int)) (out : List Int), (∀ z ∈ out, 0 ≤ z ∧ z ≤ 65536) → ∀ z ∈ saysGo all cs out, 0 ≤ z ∧ z ≤ 65536
  | [], out, h => h
  | c :: r, out, h => saysGo_bd r _ fun z hz => by
    rcases List.mem_or_eq_of_mem_set hz with h1 | rfl
    · exact h z h1
    · exact share_bd
theorem saysL_bd {n : Int} {cs : List (Int × Int)} : ∀ z ∈ saysL n cs, 0 ≤ z ∧ z ≤ 65536 := saysGo_bd cs _ fun z hz => by
  rw [(List.mem_replicate.1 hz).2]; decide
theorem saysL_row {n : Int} {cs : List (Int × Int)} (hn : n ≤ 255) : rowB (saysL n cs) = true := by
  refine rowB_mk (by rw [saysL_len]; omega) (by rw [saysL_len]; omega) fun k hk => ?_
  rw [List.getElem?_eq_getElem hk]
  exact saysL_bd _ (List.getElem_mem _)
end Go.Proofs.Ytpjmiafefammkaa
