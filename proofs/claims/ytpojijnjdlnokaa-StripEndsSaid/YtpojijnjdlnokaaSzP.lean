/- Layers 9, 11: widths, room, what fits: plain laws. No program in sight. -/
import Derived.Test.YtpojijnjdlnokaaLib
namespace Go.Proofs.Ytpojijnjdlnokaa

def betw (n a b : Int) : Bool := decide (a ≤ n ∧ n ≤ b)
def rightB (n m b : Int) : Bool := decide (1 ≤ n ∧ n ≤ 255 ∧ 64 ≤ m ∧ m ≤ 1500 ∧ 1 ≤ b ∧ b ≤ 524288)
def roomOk (n m b l : Int) : Bool := rightB n m b && betw l 1 8
def roomW (n m b l : Int) : Int := max (min m (b / n) - 18 - 3 * l) (-1)
def roomV (n m b l : Int) : Int := if roomOk n m b l then roomW n m b l else 0
def errE (ok : Bool) : Int := if ok then 0 else 2
def widthOk (long k : Int) : Bool := decide (0 ≤ long ∧ long ≤ 65535 ∧ 1 ≤ k ∧ k ≤ 255)
def widthW (long k : Int) : Int := (long + k - 1) / k
def widthV (long k : Int) : Int := if widthOk long k then widthW long k else 0
def lensB (ls : List Int) : Bool := betw ls.length 1 8 && !(ls.any fun z => !betw z 0 65535)
def sortedB (ks : List Int) : Bool := decide (∀ i, i < ks.length → i + 1 < ks.length → ks.getD i 0 ≤ ks.getD (i + 1) 0)
def fitGo (n : Int) : Int → List (Int × Int) → Bool
  | _, [] => true
  | room, p :: r => decide (p.2 ≤ n) && widthOk p.1 p.2 && decide (0 ≤ room - widthW p.1 p.2) && fitGo n (room - widthW p.1 p.2) r
def fitsB (n m b : Int) (lens ks : List Int) : Bool := roomOk n m b lens.length && lensB lens && decide (ks.length = lens.length) && sortedB ks && fitGo n (roomW n m b lens.length) (lens.zip ks)

theorem width_bd {long k : Int} (h : widthOk long k = true) : 0 ≤ widthW long k ∧ widthW long k ≤ 65535 := by
  simp only [widthOk, decide_eq_true_eq] at h
  unfold widthW
  constructor
  · exact Int.ediv_nonneg (by omega) (by omega)
  · have h1 : (long + k - 1) / k ≤ long := by
      by_cases h0 : long = 0
      · subst h0
        rw [Int.ediv_eq_zero_of_lt (by omega) (by omega)]; omega
      · have : long + k - 1 ≤ long * k := by
          have h2 : (long - 1) * (k - 1) ≥ 0 := Int.mul_nonneg (by omega) (by omega)
          have h3 : (long - 1) * (k - 1) = long * k - long - k + 1 := by
            rw [Int.sub_mul, Int.mul_sub]; omega
          omega
        exact Int.ediv_le_of_le_mul (by omega) this
    omega
/-- more bytes, no less wide; more rows, no wider -/
theorem width_mono {a b k : Int} (h : a ≤ b) (hk : 1 ≤ k) : widthW a k ≤ widthW b k := Int.ediv_le_ediv (by omega) (by omega)
theorem width_anti {a k j : Int} (h0 : 0 ≤ a) (hk : 1 ≤ k) (hj : k ≤ j) : widthW a j ≤ widthW a k := by
  unfold widthW
  have h1 : a ≤ (a + k - 1) / k * k := by
    have := Int.emod_add_mul_ediv (a + k - 1) k
    have h2 := Int.emod_lt_of_pos (a + k - 1) (show 0 < k by omega)
    rw [Int.mul_comm] at this
    omega
  have h3 : 0 ≤ (a + k - 1) / k := Int.ediv_nonneg (by omega) (by omega)
  have h4 : (a + k - 1) / k * k ≤ (a + k - 1) / k * j := Int.mul_le_mul_of_nonneg_left hj h3
  have h5 : a + j - 1 < ((a + k - 1) / k + 1) * j := by rw [Int.add_mul]; omega
  have h6 := Int.ediv_lt_of_lt_mul (show 0 < j by omega) h5
  omega

theorem room_bd {n m b l : Int} (h : roomOk n m b l = true) : -1 ≤ roomW n m b l ∧ roomW n m b l ≤ 1500 := by
  simp only [roomOk, rightB, betw, Bool.and_eq_true, decide_eq_true_eq] at h
  unfold roomW; omega
theorem room_mono {n m b l m' b' : Int} (h : 1 ≤ n) (hm : m ≤ m') (hb : b ≤ b') : roomW n m b l ≤ roomW n m' b' l := by
  have := Int.ediv_le_ediv (show 0 < n by omega) hb
  unfold roomW; omega

def sumW : List (Int × Int) → Int
  | [] => 0
  | p :: r => widthW p.1 p.2 + sumW r
theorem fitGo_iff {n : Int} : ∀ (zs : List (Int × Int)) (room : Int), fitGo n room zs = true ↔ (∀ p ∈ zs, p.2 ≤ n ∧ widthOk p.1 p.2 = true) ∧ (zs = [] ∨ sumW zs ≤ room)
  | [], room => by simp [fitGo]
  | p :: r, room => by
    have ih := fitGo_iff (n := n) r (room - widthW p.1 p.2)
    simp only [fitGo, Bool.and_eq_true, decide_eq_true_eq, ih, List.mem_cons, forall_eq_or_imp, sumW, reduceCtorEq, false_or]
    constructor
    · rintro ⟨⟨⟨h1, h2⟩, h3⟩, h4, h5⟩
      refine ⟨⟨⟨h1, h2⟩, h4⟩, ?_⟩
      rcases h5 with rfl | h5
      · simp [sumW]; omega
      · omega
    · rintro ⟨⟨⟨h1, h2⟩, h4⟩, h5⟩
      have hs : 0 ≤ sumW r := by
        clear ih h5
        induction r with
        | nil => simp [sumW]
        | cons q s ih => simp only [sumW]; have := (width_bd (h4 q (by simp)).2).1; have := ih (fun p hp => h4 p (by simp [hp])); omega
      exact ⟨⟨⟨h1, h2⟩, by omega⟩, h4, .inr (by omega)⟩
theorem fitGo_drop_false {n room : Int} {zs : List (Int × Int)} {p : Int × Int} {r : List (Int × Int)} (h : zs = p :: r) (h2 : ¬ (p.2 ≤ n ∧ widthOk p.1 p.2 = true ∧ 0 ≤ room - widthW p.1 p.2)) : fitGo n room zs = false := by
  subst h
  simp only [fitGo]
  cases hb : fitGo n (room - widthW p.1 p.2) r <;> simp
  intro h3 h4
  exact Int.not_le.1 fun h5 => h2 ⟨h3, h4, by omega⟩
end Go.Proofs.Ytpojijnjdlnokaa
