/- Texts joined: WgLP Hp Rg. -/
import Derived.Test.YtpjmiafefammkaaM9
import Derived.RangeFuncIn
import Derived.RangeFuncOwn
/- Layer 12, plain: how scores move. No program in sight. -/
namespace Go.Proofs.Ytpjmiafefammkaa
set_option linter.unusedVariables false

theorem getD_set' {xs : List Int} {k : Nat} (hk : k < xs.length) (x : Int) (i : Nat) : (xs.set k x).getD i 0 = if i = k then x else xs.getD i 0 := by
  simp only [List.getD_eq_getElem?_getD, List.getElem?_set]
  by_cases h : k = i
  · subst h; simp [hk]
  · rw [if_neg h, if_neg (fun e => h e.symm)]
theorem sc_parts {worths ks w : List Int} : scOk worths ks w = true ↔ (rightB ((w.length : Int) - 1) w = true ∧ ks.length = worths.length ∧ ks.length ≤ 8 ∧ ∀ i, i < ks.length → scGood worths ks w i) := by
  simp only [scOk, Bool.and_eq_true, decide_eq_true_eq]
theorem scSum_le {worths ks ws worths' ks' ws' : List Int} : ∀ (m : Nat), (∀ i, i < m → scT worths ks ws i ≤ scT worths' ks' ws' i) → scSum worths ks ws m ≤ scSum worths' ks' ws' m
  | 0, _ => by simp [scSum]
  | m + 1, h => by
    have := scSum_le m (fun i hi => h i (by omega))
    have := h m (by omega)
    simp only [scSum]; omega
theorem scSum_add {worths ks ws w1 w2 : List Int} : ∀ (m : Nat), (∀ i, i < m → scT w1 ks ws i + scT w2 ks ws i = scT worths ks ws i) → scSum w1 ks ws m + scSum w2 ks ws m = scSum worths ks ws m
  | 0, _ => by simp [scSum]
  | m + 1, h => by
    have := scSum_add m (fun i hi => h i (by omega))
    have := h m (by omega)
    simp only [scSum]; omega
def sumTo (xs : List Int) : Nat → Int
  | 0 => 0
  | k + 1 => sumTo xs k + xs.getD k 0
theorem scSum_even {worths ks ws : List Int} : ∀ (m : Nat), (∀ i, i < m → ws.getD (ks.getD i 0).toNat 0 = 65536) → scSum worths ks ws m = sumTo worths m * 65536
  | 0, _ => by simp [scSum, sumTo]
  | m + 1, h => by
    have h1 := scSum_even (worths := worths) m (fun i hi => h i (by omega))
    have h2 := h m (by omega)
    simp only [scSum, sumTo, scT, h1, h2, Int.add_mul]
theorem scV_ok {worths ks ws : List Int} (h : scOk worths ks ws = true) : scV worths ks ws = scSum worths ks ws ks.length := by simp [scV, h]

/-- a greater threshold -/
theorem sc_up {worths ks ws : List Int} (h : scOk worths ks ws = true) {k : Nat} (hk : k < ks.length) {x : Int} (h1 : ks.getD k 0 ≤ x) (h2 : x < ws.length) :
    scOk worths (ks.set k x) ws = true ∧ scV worths (ks.set k x) ws ≤ scV worths ks ws := by
  obtain ⟨a, b, c, d⟩ := sc_parts.1 h
  have hk0 := d k hk
  have hok : scOk worths (ks.set k x) ws = true := by
    refine sc_parts.2 ⟨a, by simpa using b, by simpa using c, fun i hi => ?_⟩
    have hi' : i < ks.length := by simpa using hi
    have := d i hi'
    unfold scGood at this ⊢
    rw [getD_set' hk]
    unfold scGood at hk0
    split
    · rename_i e; subst e; omega
    · exact this
  refine ⟨hok, ?_⟩
  rw [scV_ok h, scV_ok hok, List.length_set]
  refine scSum_le _ fun i hi => ?_
  unfold scT
  rw [getD_set' hk]
  split
  · rename_i e
    subst e
    unfold scGood at hk0
    have hf : fallsB ws = true := by simp only [rightB, Bool.and_eq_true] at a; exact a.2.2.2
    have := falls_le hf (i := (ks.getD i 0).toNat) (k := x.toNat - (ks.getD i 0).toNat) (by omega)
    rw [show (ks.getD i 0).toNat + (x.toNat - (ks.getD i 0).toNat) = x.toNat by omega] at this
    exact Int.mul_le_mul_of_nonneg_left this hk0.2.2.1
  · exact Int.le_refl _
/-- a greater worth -/
theorem sc_rich {worths ks ws : List Int} (h : scOk worths ks ws = true) {k : Nat} (hk : k < ks.length) {y : Int} (h1 : worths.getD k 0 ≤ y) (h2 : y ≤ 1048576) :
    scOk (worths.set k y) ks ws = true ∧ scV worths ks ws ≤ scV (worths.set k y) ks ws := by
  obtain ⟨a, b, c, d⟩ := sc_parts.1 h
  have hk0 := d k hk
  have hok : scOk (worths.set k y) ks ws = true := by
    refine sc_parts.2 ⟨a, by simpa using b, c, fun i hi => ?_⟩
    have := d i hi
    unfold scGood at this ⊢
    rw [getD_set' (by omega)]
    unfold scGood at hk0
    split
    · rename_i e; subst e; omega
    · exact this
  refine ⟨hok, ?_⟩
  rw [scV_ok h, scV_ok hok]
  refine scSum_le _ fun i hi => ?_
  unfold scT
  rw [getD_set' (by omega)]
  split
  · rename_i e
    subst e
    unfold scGood at hk0
    exact Int.mul_le_mul_of_nonneg_right h1 (right_bd a _ (by omega)).1
  · exact Int.le_refl _
/-- even weights -/
theorem sc_even {worths ks ws : List Int} (h : scOk worths ks ws = true) {n : Nat} (hn : ws.length = n + 1) : (1 ≤ n ∧ n ≤ 255) ∧ scOk worths ks (List.replicate (n + 1) 65536) = true ∧ scV worths ks (List.replicate (n + 1) 65536) = sumTo worths worths.length * 65536 := by
  obtain ⟨a, b, c, d⟩ := sc_parts.1 h
  have hn2 : 1 ≤ n ∧ n ≤ 255 := by simp only [rightB, Bool.and_eq_true, decide_eq_true_eq] at a; omega
  have hat : ∀ i, i < n + 1 → (List.replicate (n + 1) (65536 : Int)).getD i 0 = 65536 := fun i hi => by simp [hi]
  have hok : scOk worths ks (List.replicate (n + 1) 65536) = true := by
    refine sc_parts.2 ⟨?_, b, c, fun i hi => ?_⟩
    · simp only [rightB, fallsB, Bool.and_eq_true, decide_eq_true_eq, List.length_replicate]
      refine ⟨by omega, by rw [hat 0 (by omega)]; omega, by rw [hat _ (by omega)]; omega, fun i hi hi2 => by rw [hat i hi, hat (i + 1) hi2]; omega⟩
    · have := d i hi
      unfold scGood at this ⊢
      rw [List.length_replicate]
      omega
  refine ⟨hn2, hok, ?_⟩
  rw [scV_ok hok, scSum_even _ (fun i hi => ?_), b]
  have := d i hi
  unfold scGood at this
  exact hat _ (by omega)
/-- worths in two rows -/
theorem sc_halves {worths ks ws : List Int} (h : scOk worths ks ws = true) : scOk (worths.map (· / 2)) ks ws = true ∧ scOk (worths.map (fun x => x - x / 2)) ks ws = true ∧
    scV (worths.map (· / 2)) ks ws + scV (worths.map (fun x => x - x / 2)) ks ws = scV worths ks ws := by
  obtain ⟨a, b, c, d⟩ := sc_parts.1 h
  have m1 : ∀ i, i < worths.length → (worths.map (· / 2)).getD i 0 = worths.getD i 0 / 2 := fun i hi => by simp [hi]
  have m2 : ∀ i, i < worths.length → (worths.map (fun x => x - x / 2)).getD i 0 = worths.getD i 0 - worths.getD i 0 / 2 := fun i hi => by simp [hi]
  have o1 : scOk (worths.map (· / 2)) ks ws = true := sc_parts.2 ⟨a, by simpa using b, c, fun i hi => by have := d i hi; unfold scGood at this ⊢; rw [m1 i (by omega)]; omega⟩
  have o2 : scOk (worths.map (fun x => x - x / 2)) ks ws = true := sc_parts.2 ⟨a, by simpa using b, c, fun i hi => by have := d i hi; unfold scGood at this ⊢; rw [m2 i (by omega)]; omega⟩
  refine ⟨o1, o2, ?_⟩
  rw [scV_ok h, scV_ok o1, scV_ok o2]
  refine scSum_add _ fun i hi => ?_
  unfold scT
  rw [m1 i (by omega), m2 i (by omega), ← Int.add_mul]
  congr 1
  omega
theorem sumTo_bd {worths ks ws : List Int} (h : scOk worths ks ws = true) : ∀ k, k ≤ worths.length → 0 ≤ sumTo worths k ∧ sumTo worths k ≤ k * 1048576
  | 0, _ => by simp [sumTo]
  | k + 1, hk => by
    obtain ⟨a, b, c, d⟩ := sc_parts.1 h
    have ih := sumTo_bd h k (by omega)
    have := d k (by omega)
    unfold scGood at this
    simp only [sumTo]
    push_cast
    omega
theorem sc_bd {worths ks ws : List Int} (h : scOk worths ks ws = true) : 0 ≤ scV worths ks ws ∧ scV worths ks ws ≤ 8 * 68719476736 := by
  obtain ⟨a, b, c, d⟩ := sc_parts.1 h
  rw [scV_ok h]
  have : ∀ k, k ≤ ks.length → 0 ≤ scSum worths ks ws k ∧ scSum worths ks ws k ≤ k * 68719476736 := by
    intro k
    induction k with
    | zero => intro _; simp [scSum]
    | succ k ih =>
      intro hk
      have h1 := ih (by omega)
      have h2 := scT_bd (right_bd a) (d k (by omega))
      simp only [scSum]
      push_cast
      omega
  have := this _ (Nat.le_refl _)
  omega
end Go.Proofs.Ytpjmiafefammkaa

/- Layer 25: what the program hopes for. -/
namespace Go.Proofs.Ytpjmiafefammkaa
open Go.RowKit
set_option linter.unusedVariables false

def wtOk (hs : List Int) : Bool := decide (2 ≤ hs.length) && rowB hs
def wtV (hs : List Int) : List Int := if wtOk hs then tailsL hs else []
def exOk (worths ks hs : List Int) : Bool := wtOk hs && scOk worths ks (tailsL hs)
def exV (worths ks hs : List Int) : Int := if exOk worths ks hs then scSum worths ks (tailsL hs) ks.length else 0
/-- the sum over places of the place by what stands there, up to m -/
def meanS (hs : List Int) : Nat → Int
  | 0 => 0
  | k + 1 => meanS hs k + (k : Int) * hs.getD k 0
def meanV (hs : List Int) : Int := if wtOk hs then meanS hs hs.length else 0
theorem wtOk_parts {hs : List Int} (h : wtOk hs = true) : 2 ≤ hs.length ∧ hs.length ≤ 256 ∧ rowB hs = true := by
  simp only [wtOk, Bool.and_eq_true, decide_eq_true_eq] at h
  have := rowB_len h.2
  exact ⟨h.1, this.2, h.2⟩
theorem argE_zero {b : Bool} : argE b = 0 ↔ b = true := by cases b <;> simp [argE]
theorem argE_errA (b : Bool) : argE b = errA b := by cases b <;> rfl

theorem hope_Weights (A : Option Addr) (n c : Nat) (hs : List Int) (w : World) (ha : Rd w .i64 A hs) (hn : n = hs.length) (hn' : n ≤ 9223372036854775807) (ih : AllI hs) :
    Gives Try.prog 36 #[.slice A n c] w fun v w' => ∃ u, v = .tuple #[u, .int .i64 (errA (wtOk hs))] ∧ OwnK w' w.heap.size 3 .i64 u (wtV hs) ∧ Below w.heap.size w w' := by
  refine gives_enter Try.call36 Try.func36 rfl rfl rfl (by kernel_rfl) ?_
  refine v_seq ?_
  refine v_region ?_
  refine vl_val (os_assign rfl) ?_
  refine vl_val (os_assign rfl) ?_
  refine vl_nil ?_
  refine v_seq ?_
  refine v_seq ?_
  refine v_region ?_
  refine vl_val (os_move rfl) ?_
  refine vl_val (os_len Try.underlying40 rfl) ?_
  refine vl_val (os_lss rfl rfl) ?_
  refine vl_nil ?_
  refine v_cond_d rfl (fun h => ?_) (fun h => ?_)
  · have e : wtOk hs = false := by simp [wtOk]; omega
    refine v_seq ?_
    refine v_region ?_
    refine vl_val (os_assign rfl) ?_
    refine vl_val (os_assign rfl) ?_
    refine vl_nil ?_
    refine v_ret ?_
    exact post_ret2 rfl rfl rfl (⟨_, by rw [e]; rfl, by rw [wtV, e]; exact Own.nil _ _ _, Below.refl _ _⟩)
  · have e : wtOk hs = rowB hs := by simp [wtOk]; omega
    refine v_skip ?_
    refine v_seq ?_
    refine v_region ?_
    refine vl_val (os_move rfl) ?_
    refine vl_call (g_Tails A n c hs w ha hn hn' ih) rfl ?_
    rintro v w1 ⟨u, rfl, o1, b1⟩
    have o1 : OwnK w1 w.heap.size 3 .i64 u (tailsV hs) := by have := o1; unfold OwnI at this; unfold OwnK Own; rwa [List.length_map]
    refine vl_val (os_extract rfl rfl) ?_
    refine vl_val (os_extract rfl rfl) ?_
    refine vl_val (os_assign rfl) ?_
    refine vl_val (os_assign rfl) ?_
    refine vl_nil ?_
    refine v_ret ?_
    exact post_ret2 rfl rfl rfl (⟨u, by rw [e, ← argE_errA], by rw [wtV, e]; exact o1, b1⟩)
theorem tails_len (hs : List Int) : (tailsL hs).length = hs.length := by unfold tailsL; rw [tFold_len]
theorem wtV_ok {hs : List Int} (h : wtOk hs = true) : wtV hs = tailsL hs := by simp [wtV, h]
theorem exOk_false {worths ks hs : List Int} (h : wtOk hs = false) : exOk worths ks hs = false := by simp [exOk, h]
theorem exV_sc {worths ks hs : List Int} (h : wtOk hs = true) : exV worths ks hs = scV worths ks (tailsL hs) ∧ exOk worths ks hs = scOk worths ks (tailsL hs) := by simp [exV, exOk, scV, h]

theorem hope_Expect (A B C : Option Addr) (l m n c d e : Nat) (worths ks hs : List Int) (w : World) (ha : Rd w .i64 A worths) (hb : Rd w .i64 B ks) (hc : Rd w .i64 C hs) (hl : l = worths.length) (hm : m = ks.length) (hn : n = hs.length) (hl' : l ≤ 9000000000000000) (hm' : m ≤ 9000000000000000) (hn' : n ≤ 9000000000000000) (ih : AllI hs) :
    Gives Try.prog 34 #[.slice A l c, .slice B m d, .slice C n e] w fun v w' => v = .tuple #[.int .i64 (exV worths ks hs), .int .i64 (errA (exOk worths ks hs))] ∧ Below w.heap.size w w' := by
  refine gives_enter Try.call34 Try.func34 rfl rfl rfl (by kernel_rfl) ?_
  refine v_seq ?_
  refine v_region ?_
  refine vl_val (os_assign rfl) ?_
  refine vl_val (os_assign rfl) ?_
  refine vl_nil ?_
  refine v_seq ?_
  refine v_region ?_
  refine vl_val (os_move rfl) ?_
  refine vl_call (hope_Weights C n e hs w hc hn (by omega) ih) rfl ?_
  rintro v w1 ⟨u, rfl, o1, b1⟩
  refine vl_val (os_move rfl) ?_
  refine vl_val (os_extract rfl rfl) ?_
  refine vl_val (os_extract rfl rfl) ?_
  refine vl_val (os_assign rfl) ?_
  refine vl_val (os_assign rfl) ?_
  refine vl_nil ?_
  cases hw : wtOk hs
  · refine v_seq ?_
    refine v_seq ?_
    refine v_region ?_
    refine vl_val (os_move rfl) ?_
    refine vl_val (os_neq rfl rfl) ?_
    refine vl_nil ?_
    refine v_cond_yes rfl (by decide) ?_
    refine v_seq ?_
    refine v_region ?_
    refine vl_val (os_move rfl) ?_
    refine vl_val (os_assign rfl) ?_
    refine vl_val (os_assign rfl) ?_
    refine vl_nil ?_
    refine v_ret ?_
    exact post_ret2 rfl rfl rfl (⟨by rw [exOk_false hw]; simp [exV, exOk_false hw, errA], b1⟩)
  · refine v_seq ?_
    refine v_seq ?_
    refine v_region ?_
    refine vl_val (os_move rfl) ?_
    refine vl_val (os_neq rfl rfl) ?_
    refine vl_nil ?_
    refine v_cond_no rfl (by decide) ?_
    rw [wtV_ok hw] at o1
    obtain ⟨A1, c1, rfl, _, _, r1, _⟩ := OwnK.form o1
    have hlen := tails_len hs
    refine v_skip ?_
    refine v_seq ?_
    refine v_region ?_
    refine vl_val (os_move rfl) ?_
    refine vl_val (os_move rfl) ?_
    refine vl_val (os_move rfl) ?_
    refine vl_call (wg_Score A B A1 l m _ c d c1 worths ks (tailsL hs) w1 (ha.keep b1) (hb.keep b1) r1 hl hm rfl hl' hm' (by omega)) rfl ?_
    rintro v2 w2 ⟨rfl, d2⟩
    obtain ⟨x1, x2⟩ := exV_sc (worths := worths) (ks := ks) hw
    refine vl_val (os_extract rfl rfl) ?_
    refine vl_val (os_extract rfl rfl) ?_
    refine vl_val (os_assign rfl) ?_
    refine vl_val (os_assign rfl) ?_
    refine vl_nil ?_
    refine v_ret ?_
    exact post_ret2 rfl rfl rfl (⟨by rw [x1, x2], b1.trans ((led_below d2).mono b1.size)⟩)

theorem meanS_bd {hs : List Int} (h : rowB hs = true) : ∀ k, k ≤ hs.length → 0 ≤ meanS hs k ∧ meanS hs k ≤ k * (256 * 65536) := by
  have hl := rowB_len h
  intro k
  induction k with
  | zero => intro _; simp [meanS]
  | succ k ih =>
    intro hk
    have h1 := ih (by omega)
    have h2 := rowB_at h (k := k) (by omega)
    have h3 : 0 ≤ (k : Int) * hs.getD k 0 := Int.mul_nonneg (by omega) h2.1
    have h4 : (k : Int) * hs.getD k 0 ≤ 256 * 65536 := Int.mul_le_mul (by omega) h2.2 h2.1 (by omega)
    simp only [meanS]
    omega
theorem hope_Mean_fn (r x : Int) (w : World) (hr : 0 ≤ r ∧ r ≤ 256) (hx : 0 ≤ x ∧ x ≤ 65536) : Gives Try.prog 77 #[.int .i64 r, .int .i64 x] w fun v w' => v = .int .i64 (r * x) ∧ w' = w := by
  have h1 : 0 ≤ r * x := Int.mul_nonneg hr.1 hx.1
  have h2 : r * x ≤ 256 * 65536 := Int.mul_le_mul hr.2 hx.2 hx.1 (by omega)
  refine gives_enter Try.call77 Try.func77 rfl rfl rfl (by kernel_rfl) ?_
  refine v_seq ?_
  refine v_region ?_
  refine vl_val (os_assign rfl) ?_
  refine vl_nil ?_
  refine v_seq ?_
  refine v_region ?_
  refine vl_val (os_move rfl) ?_
  refine vl_val (os_move rfl) ?_
  refine vl_val (os_mul rfl rfl (i64_fit ⟨by omega, by omega⟩)) ?_
  refine vl_val (os_assign rfl) ?_
  refine vl_nil ?_
  refine v_ret ?_
  exact post_ret rfl rfl (⟨rfl, rfl⟩)
theorem hope_sum (A : Option Addr) (n c : Nat) (hs : List Int) (w : World) (ha : Rd w .i64 A hs) (hn : n = hs.length) (hr : rowB hs = true) :
    Gives Try.prog 76 #[.slice A n c, .func (.func 77) #[] #[]] w fun v w' => v = .int .i64 (meanS hs hs.length) ∧ w' = w := by
  have hl := rowB_len hr
  refine gives_enter Try.call76 Try.func76 rfl rfl rfl (by kernel_rfl) ?_
  refine v_seq ?_
  refine v_region ?_
  refine vl_val (os_assign rfl) ?_
  refine vl_nil ?_
  refine v_seq ?_
  refine v_seq ?_
  refine v_region ?_
  refine vl_val (os_move rfl) ?_
  refine vl_val (os_len Try.underlying40 rfl) ?_
  refine vl_val (os_move rfl) ?_
  refine vl_nil ?_
  refine v_block ?_
  refine v_loop [(1, _), (7, _), (8, _)] (fun (k : Nat) => [(4, .int .i64 (meanS hs k)), (9, .int .i64 k)]) (fun k w' => k ≤ n ∧ w' = w) (fun k => n - k) (0) ⟨rfl, rfl, rfl, trivial⟩ ⟨rfl, rfl, trivial⟩ (⟨by omega, rfl⟩) ?_
  rintro k w ⟨hk, rfl⟩
  refine v_seq ?_
  refine v_region ?_
  refine vl_val (os_lss rfl rfl) ?_
  refine vl_nil ?_
  refine v_seq ?_
  refine v_cond_d rfl (fun h => ?_) (fun h => ?_)
  · obtain ⟨b, o, rfl, hc⟩ := ha.at_ (i := k) (by omega)
    have hp := rowB_at hr (k := k) (by omega)
    have hb := meanS_bd hr k (by omega)
    have h3 : 0 ≤ (k : Int) * hs.getD k 0 := Int.mul_nonneg (by omega) hp.1
    have h4 : (k : Int) * hs.getD k 0 ≤ 256 * 65536 := Int.mul_le_mul (by omega) hp.2 hp.1 (by omega)
    refine v_skip ?_
    refine v_seq ?_
    refine v_block ?_
    refine v_seq ?_
    refine v_region ?_
    refine vl_val (os_move rfl) ?_
    refine vl_val (os_ix Try.underlying40 Try.sizeOf3 rfl rfl (i := k) (by omega) (by omega)) ?_
    refine vl_val (os_load Try.isAgg3 rfl (hc)) ?_
    refine vl_val (os_assign rfl) ?_
    refine vl_val (os_assign rfl) ?_
    refine vl_nil ?_
    refine v_region ?_
    refine vl_val (os_move rfl) ?_
    refine vl_val (os_move rfl) ?_
    refine vl_val (os_move rfl) ?_
    refine vl_val (os_move rfl) ?_
    refine vl_callv rfl (hope_Mean_fn k (hs.getD k 0) w ⟨by omega, by omega⟩ hp) rfl ?_
    rintro v w ⟨rfl, rfl⟩
    refine vl_val (os_addi rfl rfl (by omega)) ?_
    refine vl_val (os_assign rfl) ?_
    refine vl_nil ?_
    refine v_region ?_
    refine vl_val (os_addi rfl rfl (by omega)) ?_
    refine vl_val (os_move rfl) ?_
    refine vl_nil ?_
    exact ⟨k + 1, ⟨rfl, rfl, rfl, trivial⟩, ⟨rfl, rfl, trivial⟩, ⟨by omega, rfl⟩, by dsimp only; omega⟩
  · obtain rfl : n = k := by omega
    refine v_exit ?_
    refine v_seq ?_
    refine v_region ?_
    refine vl_val (os_move rfl) ?_
    refine vl_val (os_assign rfl) ?_
    refine vl_nil ?_
    refine v_ret ?_
    exact post_ret rfl rfl (⟨by rw [hn], rfl⟩)
theorem hope_Mean (C : Option Addr) (n e : Nat) (hs : List Int) (w : World) (hc : Rd w .i64 C hs) (hn : n = hs.length) (hn' : n ≤ 9000000000000000) (ih : AllI hs) :
    Gives Try.prog 39 #[.slice C n e] w fun v w' => v = .tuple #[.int .i64 (meanV hs), .int .i64 (errA (wtOk hs))] ∧ Below w.heap.size w w' := by
  refine gives_enter Try.call39 Try.func39 rfl rfl rfl (by kernel_rfl) ?_
  refine v_seq ?_
  refine v_region ?_
  refine vl_val (os_assign rfl) ?_
  refine vl_val (os_assign rfl) ?_
  refine vl_nil ?_
  refine v_seq ?_
  refine v_seq ?_
  refine v_region ?_
  refine vl_val (os_move rfl) ?_
  refine vl_call (hope_Weights C n e hs w hc hn (by omega) ih) rfl ?_
  rintro v w1 ⟨u, rfl, o1, b1⟩
  refine vl_val (os_move rfl) ?_
  refine vl_val (os_extract rfl rfl) ?_
  refine vl_val (os_extract rfl rfl) ?_
  refine vl_val (os_assign rfl) ?_
  refine vl_val (os_assign rfl) ?_
  refine vl_nil ?_
  cases hw : wtOk hs
  · refine v_seq ?_
    refine v_region ?_
    refine vl_val (os_move rfl) ?_
    refine vl_val (os_neq rfl rfl) ?_
    refine vl_nil ?_
    refine v_cond_yes rfl (by decide) ?_
    refine v_seq ?_
    refine v_region ?_
    refine vl_val (os_move rfl) ?_
    refine vl_val (os_assign rfl) ?_
    refine vl_val (os_assign rfl) ?_
    refine vl_nil ?_
    refine v_ret ?_
    exact post_ret2 rfl rfl rfl (⟨by simp [meanV, hw, errA], b1⟩)
  · refine v_seq ?_
    refine v_region ?_
    refine vl_val (os_move rfl) ?_
    refine vl_val (os_neq rfl rfl) ?_
    refine vl_nil ?_
    refine v_cond_no rfl (by decide) ?_
    refine v_skip ?_
    refine v_seq ?_
    refine v_region ?_
    refine vl_val (os_move rfl) ?_
    refine vl_call (hope_sum C n e hs w1 (hc.keep b1) hn (wtOk_parts hw).2.2) rfl ?_
    rintro v2 w1 ⟨rfl, rfl⟩
    refine vl_val (os_assign rfl) ?_
    refine vl_val (os_assign rfl) ?_
    refine vl_nil ?_
    refine v_ret ?_
    exact post_ret2 rfl rfl rfl (⟨by simp [meanV, hw, errA], b1⟩)

theorem allI_lit {zs : List Int} (h : zs.all (fun z => decide (-9223372036854775808 ≤ z ∧ z ≤ 9223372036854775807)) = true) : AllI zs := by
  intro z hz; have := List.all_eq_true.1 h z hz; simpa [I64] using this
theorem law25_awake (w : World) : Gives Try.prog 33 #[] w fun v w' => v = .bool true ∧ Below w.heap.size w w' := by
  have t1 : tailsL [0, 0, 16384, 49152] = [65536, 65536, 65536, 49152] := by decide
  have t2 : wtOk [0, 0, 16384, 49152] = true := by decide
  have t3 : meanV [0, 0, 16384, 49152] = 180224 := by decide
  have t4 : exV [3, 5] [2, 3] [0, 0, 16384, 49152] = 442368 := by unfold exV exOk; rw [t1, t2]; decide
  have t5 : exOk [3, 5] [2, 3] [0, 0, 16384, 49152] = true := by unfold exOk; rw [t1, t2]; decide
  have hA : AllI [0, 0, 16384, 49152] := allI_lit rfl
  refine gives_enter Try.call33 Try.func33 rfl rfl rfl (by kernel_rfl) ?_
  have r0 := rd_alloc w .i64 [0, 0, 16384, 49152] 3
  have b0 := (Below.refl w.heap.size w).alloc (Nat.le_refl _) (.cells [Value.int .i64 0, .int .i64 0, .int .i64 16384, .int .i64 49152].toArray 3)
  refine v_seq ?_
  refine v_region ?_
  refine vl_val (os_assign rfl) ?_
  refine vl_nil ?_
  refine v_seq ?_
  refine v_region ?_
  refine vl_val (os_lit Try.underlying40 Try.sizeOf3 Try.zeroValue3 rfl rfl rfl rfl (by decide)) ?_
  refine vl_val (os_assign rfl) ?_
  refine vl_nil ?_
  refine v_seq ?_
  refine v_region ?_
  refine vl_val (os_move rfl) ?_
  refine vl_call (hope_Weights _ 4 4 [0, 0, 16384, 49152] _ r0 rfl (by decide) hA) rfl ?_
  rintro v1 w1 ⟨u, rfl, o1, b1⟩
  rw [wtV_ok t2, t1] at o1
  rw [t2]
  have b01 := b0.trans (b1.mono b0.size)
  obtain ⟨A1, c1, rfl, _, _, r1, _⟩ := OwnK.form o1
  refine vl_val (os_move rfl) ?_
  refine vl_val (os_extract rfl rfl) ?_
  refine vl_val (os_extract rfl rfl) ?_
  refine vl_val (os_assign rfl) ?_
  refine vl_val (os_assign rfl) ?_
  refine vl_nil ?_
  refine v_seq ?_
  refine v_region ?_
  refine vl_val (os_move rfl) ?_
  refine vl_call (hope_Mean _ 4 4 [0, 0, 16384, 49152] w1 (r0.keep b1) rfl (by decide) hA) rfl ?_
  rintro v2 w2 ⟨rfl, b2⟩
  rw [t3, t2]
  have b02 := b01.trans (b2.mono b01.size)
  have q1 := rd_alloc w2 .i64 [3, 5] 3
  have q2 := rd_alloc (w2.alloc (.cells [Value.int .i64 3, .int .i64 5].toArray 3)) .i64 [2, 3] 3
  have ba := (Below.refl _ w2).alloc (Nat.le_refl _) (.cells [Value.int .i64 3, .int .i64 5].toArray 3)
  have bb := (Below.refl _ (w2.alloc (.cells [Value.int .i64 3, .int .i64 5].toArray 3))).alloc (Nat.le_refl _) (.cells [Value.int .i64 2, .int .i64 3].toArray 3)
  have bab := ba.trans (bb.mono ba.size)
  refine vl_val (os_move rfl) ?_
  refine vl_val (os_extract rfl rfl) ?_
  refine vl_val (os_extract rfl rfl) ?_
  refine vl_val (os_assign rfl) ?_
  refine vl_val (os_assign rfl) ?_
  refine vl_nil ?_
  refine v_seq ?_
  refine v_region ?_
  refine vl_val (os_lit Try.underlying40 Try.sizeOf3 Try.zeroValue3 rfl rfl rfl rfl (by decide)) ?_
  refine vl_val (os_lit Try.underlying40 Try.sizeOf3 Try.zeroValue3 rfl rfl rfl rfl (by decide)) ?_
  refine vl_val (os_move rfl) ?_
  refine vl_call (hope_Expect _ _ _ 2 2 4 2 2 4 [3, 5] [2, 3] [0, 0, 16384, 49152] _ (q1.keep bb) q2 (((r0.keep b1).keep b2).keep bab) rfl rfl rfl (by decide) (by decide) (by decide) hA) rfl ?_
  rintro v3 w3 ⟨rfl, b3⟩
  rw [t4, t5]
  have b23 := bab.trans (b3.mono bab.size)
  have b03 := b02.trans (b23.mono b02.size)
  refine vl_val (os_move rfl) ?_
  refine vl_val (os_extract rfl rfl) ?_
  refine vl_val (os_extract rfl rfl) ?_
  refine vl_val (os_assign rfl) ?_
  refine vl_val (os_assign rfl) ?_
  refine vl_nil ?_
  refine v_seq ?_
  refine v_region ?_
  refine vl_val (os_move rfl) ?_
  refine vl_val (os_t (os_eql rfl rfl) (rfl)) ?_
  refine vl_val (os_move rfl) ?_
  refine vl_valg rfl (os_move rfl) ?_
  refine vl_valg rfl (os_t (os_eql rfl rfl) (rfl)) ?_
  refine vl_val (os_pick_t rfl rfl) ?_
  refine vl_val (os_move rfl) ?_
  refine vl_valg rfl (os_move rfl) ?_
  refine vl_valg rfl (os_t (os_eql rfl rfl) (rfl)) ?_
  refine vl_val (os_pick_t rfl rfl) ?_
  refine vl_val (os_move rfl) ?_
  refine vl_valg rfl (os_move rfl) ?_
  refine vl_valg rfl (os_t (os_eql rfl rfl) (rfl)) ?_
  refine vl_val (os_pick_t rfl rfl) ?_
  refine vl_val (os_move rfl) ?_
  refine vl_valg rfl (os_move rfl) ?_
  refine vl_valg rfl (os_t (os_eql rfl rfl) (rfl)) ?_
  have r3 := (r1.keep b2).keep b23
  have bl := (Below.refl _ w3).alloc (Nat.le_refl _) (.cells [Value.int .i64 65536, .int .i64 65536, .int .i64 65536, .int .i64 49152].toArray 3)
  refine vl_val (os_pick_t rfl rfl) ?_
  refine vl_val (os_move rfl) ?_
  refine vl_valg rfl (os_move rfl) ?_
  refine vl_valg rfl (os_lit Try.underlying40 Try.sizeOf3 Try.zeroValue3 rfl rfl rfl rfl (by decide)) ?_
  refine vl_callg rfl ((kit_SameInts A1 _ 4 4 c1 4 [65536, 65536, 65536, 49152] [65536, 65536, 65536, 49152] _ (r3.keep bl) (rd_alloc w3 .i64 [65536, 65536, 65536, 49152] 3) rfl rfl (by decide) (by decide)).mono fun v w' hh => (⟨by rw [hh.1, decide_eq_true rfl], hh.2⟩ : v = .bool true ∧ LeD _ w')) rfl ?_
  rintro v4 w4 ⟨rfl, d4⟩
  have b3l := b03.trans (bl.mono b03.size)
  refine vl_val (os_pick_t rfl rfl) ?_
  refine vl_val (os_assign rfl) ?_
  refine vl_nil ?_
  refine v_ret ?_
  exact post_ret rfl rfl (⟨rfl, b3l.trans ((led_below d4).mono b3l.size)⟩)
end Go.Proofs.Ytpjmiafefammkaa

/- Ranging over a function: the rounds of an iterator; a loop over it. No program in sight. -/
namespace Go.Proofs.Ytpjmiafefammkaa
open Go.RowKit
set_option linter.unusedVariables false

/-- W' is W grown; of what lay there, blocks that are no cells may have turned, from B on -/
structure Nc (B : Nat) (W W' : World) : Prop where
  os : W'.os = W.os
  tape : W'.tape = W.tape
  output : W'.output = W.output
  size : W.heap.size ≤ W'.heap.size
  block : ∀ (k : Nat) (o : Obj), W.heap[k]? = some o → (k < B ∨ o.isCells = true) → W'.heap[k]? = some o
theorem Nc.refl (B : Nat) (W : World) : Nc B W W := ⟨rfl, rfl, rfl, Nat.le_refl _, fun _ _ h _ => h⟩
theorem Nc.trans {B : Nat} {a b c : World} (h : Nc B a b) (h' : Nc B b c) : Nc B a c := ⟨h'.os.trans h.os, h'.tape.trans h.tape, h'.output.trans h.output, Nat.le_trans h.size h'.size, fun k o hk ho => h'.block k o (h.block k o hk ho) ho⟩
theorem Nc.of_leg {B : Nat} {a b : World} (h : LeG a b) : Nc B a b := ⟨h.os, h.tape, h.output, h.size, fun k o hk _ => (h.block k (Array.getElem?_eq_some_iff.1 hk).1).trans hk⟩
theorem Nc.put {B l : Nat} {W : World} {o : Obj} (o' : Obj) (hl : B ≤ l) (ho : W.heap[l]? = some o) (hc : o.isCells = false) : Nc B W (W.putObj l o') :=
  ⟨rfl, rfl, rfl, by simp, fun k x hk hx => by
    rw [World.putObj_heap_other, hk]
    rintro rfl
    rw [ho] at hk; cases hk
    rcases hx with h | h
    · omega
    · rw [hc] at h; cases h⟩
theorem Nc.below {B n0 : Nat} {w0 W W' : World} (h : Nc B W W') (hb : Below n0 w0 W) (hB : n0 ≤ B) (hn : n0 ≤ w0.heap.size) : Below n0 w0 W' :=
  ⟨h.os.trans hb.os, h.tape.trans hb.tape, h.output.trans hb.output, Nat.le_trans hb.size h.size, fun k hk => by
    have hlt : k < w0.heap.size := by omega
    rw [← hb.block k hk]
    have : k < W.heap.size := Nat.lt_of_lt_of_le hlt hb.size
    rw [Array.getElem?_eq_getElem this]
    exact h.block k _ (Array.getElem?_eq_getElem this) (.inl (by omega))⟩
theorem Nc.cell {B : Nat} {W W' : World} (h : Nc B W W') {a : Addr} {v : Value} (hc : W.cell? a = some v) : W'.cell? a = some v := by
  obtain ⟨o, ho, hc'⟩ := cells_of_cell hc
  rw [World.cell?_of_block (a := a) ((h.block _ o ho (.inr hc')).trans ho.symm)]; exact hc
theorem Nc.frozen {B : Nat} {W W' : World} (h : Nc B W W') {a : Addr} {v : Value} (hc : W.cell? a = some v) : W'.frozen? a = W.frozen? a := by
  obtain ⟨o, ho, hc'⟩ := cells_of_cell hc
  exact World.frozen?_of_block (a := a) ((h.block _ o ho (.inr hc')).trans ho.symm)
theorem Nc.own {B B' : Nat} {W W' : World} (h : Nc B W W') {t : TypeId} {v : Value} {cs : List Value} (ho : Own W B' t v cs) : Own W' B' t v cs := by
  refine ⟨ho.1, ?_⟩
  rcases ho.2 with hn | ⟨g, cap, cur, rfl, hB0, hgg, rest⟩
  · exact .inl hn
  · exact .inr ⟨g, cap, cur, rfl, hB0, h.block _ _ hgg (.inr rfl), rest⟩
theorem Nc.bk {B : Nat} {W W' : World} (h : Nc B W W') {g : Nat} {cs : List Value} {t : TypeId} (hb : Bk W g cs t) : Bk W' g cs t := h.block _ _ hb (.inr rfl)
theorem Nc.rdc {B : Nat} {W W' : World} (h : Nc B W W') {A : Option Addr} {cs : List Value} (hr : RdC W A cs) : RdC W' A cs := fun h0 => by
  obtain ⟨b, o, e, hc⟩ := hr h0
  exact ⟨b, o, e, fun i hi => by rw [List.getElem?_eq_getElem hi]; exact h.cell (by rw [hc i hi, List.getElem?_eq_getElem hi])⟩
theorem Nc.rd {B : Nat} {W W' : World} (h : Nc B W W') {k : IntKind} {A : Option Addr} {zs : List Int} (hr : Rd W k A zs) : Rd W' k A zs := fun h0 => by
  obtain ⟨b, o, e, hc⟩ := hr h0
  exact ⟨b, o, e, fun i hi => h.cell (hc i hi)⟩
theorem Bk.setOther {w : World} {g g' : Nat} {cs : List Value} {t : TypeId} (h : Bk w g cs t) (hne : g' ≠ g) (i : Nat) (u : Value) : Bk (w.setCell ⟨g', i, none⟩ u) g cs t := (Below.heap_setCell _ _ _ _ (fun e => hne e.symm)).trans h
/-- what abides such turns -/
def Abd (B : Nat) (I : World → Prop) : Prop := ∀ W W', I W → Nc B W W' → I W'
theorem Abd.and {B : Nat} {I J : World → Prop} (h : Abd B I) (h' : Abd B J) : Abd B (fun W => I W ∧ J W) := fun W W' hh hn => ⟨h W W' hh.1 hn, h' W W' hh.2 hn⟩
theorem Abd.no {B : Nat} : Abd B (fun _ => False) := fun _ _ h _ => h

/-- blocks that are no cells stay, from B on -/
structure Kn (B : Nat) (W W' : World) : Prop where
  size : W.heap.size ≤ W'.heap.size
  block : ∀ (k : Nat) (o : Obj), B ≤ k → W.heap[k]? = some o → o.isCells = false → W'.heap[k]? = some o
theorem Kn.refl (B : Nat) (W : World) : Kn B W W := ⟨Nat.le_refl _, fun _ _ _ h _ => h⟩
theorem Kn.trans {B : Nat} {a b c : World} (h : Kn B a b) (h' : Kn B b c) : Kn B a c := ⟨Nat.le_trans h.size h'.size, fun k o hB hk ho => h'.block k o hB (h.block k o hB hk ho) ho⟩
theorem Kn.of_leg {B : Nat} {a b : World} (h : LeG a b) : Kn B a b := ⟨h.size, fun k o _ hk _ => (h.block k (Array.getElem?_eq_some_iff.1 hk).1).trans hk⟩
theorem Kn.alloc {B : Nat} (W : World) (o : Obj) : Kn B W (W.alloc o) := Kn.of_leg ((Below.refl _ _).alloc (Nat.le_refl _) _)
theorem Kn.grown {B : Nat} {W W' : World} {row : Option Nat} (h : W.grownBy W' row) (hr : ∀ r, row = some r → ∃ o : Obj, W.heap[r]? = some o ∧ o.isCells = true) : Kn B W W' :=
  ⟨h.size, fun k o _ hk ho => (h.block k (Array.getElem?_eq_some_iff.1 hk).1 (fun e => by
    obtain ⟨o', h1, h2⟩ := hr k e.symm
    rw [hk] at h1; cases h1; rw [ho] at h2; cases h2)).trans hk⟩
theorem Own.row_cells {W : World} {B : Nat} {t : TypeId} {v : Value} {cs : List Value} (ho : Own W B t v cs) : ∀ r, v.ownBlock = some r → ∃ o : Obj, W.heap[r]? = some o ∧ o.isCells = true := fun r e => by
  rcases ho.2 with hn | ⟨g, cap, cur, rfl, hB0, hgg, rest⟩
  · rw [hn.1] at e; cases e
  · cases e; exact ⟨_, hgg, rfl⟩
theorem Kn.set {B : Nat} {W : World} {a : Addr} {v : Value} (hc : W.cell? a = some v) (u : Value) : Kn B W (W.setCell a u) := by
  obtain ⟨o, ho, hc'⟩ := cells_of_cell hc
  refine ⟨by simp [World.setCell], fun k x _ hk hx => ?_⟩
  rw [Below.heap_setCell _ _ _ _ (fun e => ?_)]
  · exact hk
  · rw [e] at hk; rw [ho] at hk; cases hk; rw [hc'] at hx; cases hx

section
variable {P : Program} {n : Cx} {all rest : List Oper} {fr : Fr} {w w' : World} {Q : Exit → Fr → World → Prop} {d : Nat} {op : Op} {ty : TypeId} {pos : String} {aft : Array Edge} {v : Value}

/-- yield, called so in W, tells whether to go on -/
def YieldsAt (P : Program) (l : Nat) (args : Array Value) (W : World) (R : Bool → World → Prop) : Prop :=
  YieldAt (fw none) 0 P l args W fun e W' => ∃ b, e = .returned (.bool b) ∧ R b W'
/-- the rounds of a loop over an iterator -/
def Rounds (P : Program) (l : Nat) (args : Nat → List Value) (N : Nat) (J Jx : Nat → World → Prop) : Prop :=
  ∀ k W, J k W → k < N → YieldsAt P l (args k).toArray W fun b W' => (b = true → J (k + 1) W') ∧ (b = false → Jx k W')

theorem vl_yield {l : Nat} {c : Operand} {xs : List Operand} {ts : Array TypeId} {args : List Value} {R : Bool → World → Prop} (hc : Fr.ev fr c = some (.func (.yield l) #[] #[])) (hx : evL fr xs = some args) (h : YieldsAt P l args.toArray w R)
    (k : ∀ b w', R b w' → VL P n all rest ((d, .bool b) :: fr) w' Q) (hro : n.ro = none := by rfl) : VL P n all (⟨some d, .call ⟨.value c, xs.toArray, ts⟩, ty, pos, aft, none⟩ :: rest) fr w Q := by
  unfold VL at k ⊢
  intro hok a ha
  obtain ⟨h1, h2⟩ := dst_lt hok rfl
  obtain ⟨fn, tmps, ac, body, hy, hR⟩ := h
  unfold wpListIn
  simp only [Region.wanted, if_true]
  refine ⟨fun _ _ => trivial, ?_⟩
  have hrun : (execOp a.eval ⟨some d, .call ⟨.value c, xs.toArray, ts⟩, ty, pos, aft, none⟩).run P w = .ok (.round l fn tmps ac body) w := by
    simp [execOp, resolve, ha.ev hc, ha.evL hx, Deferred.ofValue, invoke, hy]
  rw [show (Oper.semAt (fw n.ro).round a.eval ⟨some d, .call ⟨.value c, xs.toArray, ts⟩, ty, pos, aft, none⟩).run P w = _ from semAt_run hrun (fun d w' e => by cases e)]
  rw [Oper.uponIn_round]
  refine ⟨fun h => by simp [fw] at h, ?_⟩
  rw [hro]
  refine RoundIn.mono hR ?_
  rintro e w' ⟨b, rfl, hb⟩
  have := k b w' hb h2 _ (ha.put h1 (.bool b))
  rw [hro] at this
  exact this

/-- what stands behind the first half of a sequence -/
def VR (P : Program) (n : Cx) (B y : Code) (fr : Fr) (w : World) (Q : Exit → Fr → World → Prop) : Prop :=
  codeOk n.sz B = true → codeOk n.sz y = true → ∀ a, Ag n fr a → B.wpIn (fw n.ro) 0 P (Exit.then (y.wpIn (fw n.ro) 0 P (up n Q)) (up n Q)) a w
def ThnR (P : Program) (n : Cx) (B y : Code) (Q : Exit → Fr → World → Prop) : Exit → Fr → World → Prop
  | .normal, fr, w => VR P n B y fr w Q
  | e, fr, w => Q e fr w
theorem v_range_seq {A B y : Code} (h : V P n A fr w (ThnR P n B y Q)) : V P n (.seq (.seq A B) y) fr w Q := by
  unfold V at h ⊢
  intro hok a ha
  simp only [codeOk, Bool.and_eq_true] at hok
  refine wpIn_seq (wpIn_seq (wpIn_mono (h hok.1.1 a ha) (fun e a' w' hh => ?_)))
  rcases hh with ⟨fr', h1, h2⟩ | ⟨rfl, h2⟩
  · cases e with
    | normal => exact h2 hok.1.2 hok.2 a' h1
    | _ => exact .inl ⟨fr', h1, h2⟩
  · exact .inr ⟨rfl, h2⟩

def zipFr : List Nat → List Value → Fr → Fr
  | p :: ps, v :: vs, fr => zipFr ps vs ((p, v) :: fr)
  | _, _, fr => fr
theorem zipFr_ag {C : Cx} (hds : C.ds = []) : ∀ (ps : List Nat) (vs : List Value) (fr : Fr) (t : Array Value), (ps.all fun p => Nat.blt p C.sz) = true → ps.length = vs.length → Ag C fr { tmps := t, defers := [] } →
    Ag C (zipFr ps vs fr) { tmps := (ps.zip vs).foldl (fun t (p, a) => t.setIfInBounds p a) t, defers := [] }
  | [], [], fr, t, _, _, h => h
  | p :: ps, v :: vs, fr, t, hp, hl, h => by
    simp only [List.all_cons, Bool.and_eq_true] at hp
    have h1 : p < C.sz := (Nat.blt_eq ..).mp hp.1
    have h2 := h.put h1 v
    exact zipFr_ag hds ps vs ((p, v) :: fr) (t.setIfInBounds p v) hp.2 (by simpa using hl) h2
  | [], _ :: _, _, _, _, hl, _ => by simp at hl
  | _ :: _, [], _, _, _, hl, _ => by simp at hl

/-- the jump by which a round leaves the loop -/
def jumpOf : Exit → Option Code
  | .ret => some .ret
  | .exit k => some (.exit k)
  | _ => none
/-- how a round may be left -/
def RPost (B : Nat) (J : World → Prop) (Ix : Exit → World → Prop) (W : World) : Exit → Fr → World → Prop
  | .normal, _, W' => Kn B W W' ∧ J W'
  | .ret, _, W' => Kn B W W' ∧ Ix .ret W'
  | .exit k, _, W' => Kn B W W' ∧ Ix (.exit k) W'
  | _, _, _ => False
def collD (D : Nat) : List Deferred := [{ target := .collected D, args := #[] }]
/-- the function's end behind a loop over a function -/
def PostE (n : Cx) (D : Nat) : Exit → Fr → World → Prop := fun e fr W => e = .ret ∧ ∀ a, Ag ⟨n.sz, none, collD D, n.esc⟩ fr a → n.esc a W

attribute [reducible] ThnR RPost
section
variable {fn : Func} {T : Value → World → Prop} {t t2 : Nat} {A : Addr} {u v2 : Value} {T1 : TypeId} {D : Nat}
theorem post_m {z : Nat} {ro : Option Nat} {ds : List Deferred} (hK : w.heap[D]? = some (.deferred (some []))) (hr : ∀ a, Ag ⟨z, none, collD D, EndM P fn T⟩ fr a → (results fn a.tmps).run P (w.putObj D (.deferred none)) = .ok v (w.putObj D (.deferred none)))
    (hT : T v (w.putObj D (.deferred none))) : PostE ⟨z, ro, ds, EndM P fn T⟩ D .ret fr w := ⟨rfl, fun a ha => ⟨D, v, ha.defers, hK, hr a ha, hT⟩⟩
theorem post_of (hr : ∀ a, Ag n fr a → (results fn a.tmps).run P w = .ok v w) (hT : T v w) : Post P n fn T .ret fr w := by unfold Post; exact ⟨v, hr, hT⟩
theorem res_ct (hf : fn.results = #[.cell t T1, .tmp t2]) (hg : Fr.get fr t = some (.pointer (some A))) (hg2 : Fr.get fr t2 = some v2) (hagg : ∀ w, (isAgg T1).run P w = .ok false w) (hc : w.cell? A = some u) {a : Act} (ha : Ag n fr a) : (results fn a.tmps).run P w = .ok (.tuple #[u, v2]) w := by
  have h1 : a.tmps.getD t undef = .pointer (some A) := by simp [Array.getD_eq_getD_getElem?, ha.at_ t _ hg]
  have h2 : a.tmps.getD t2 undef = v2 := by simp [Array.getD_eq_getD_getElem?, ha.at_ t2 _ hg2]
  simp only [Array.getD_eq_getD_getElem?] at h1 h2
  simp [results, hf, h1, h2, asAddr, loadVar, hagg, hc]
theorem res_cc {A2 : Addr} {u2 : Value} {T2 : TypeId} (hf : fn.results = #[.cell t T1, .cell t2 T2]) (hg : Fr.get fr t = some (.pointer (some A))) (hg2 : Fr.get fr t2 = some (.pointer (some A2))) (hagg : ∀ w, (isAgg T1).run P w = .ok false w) (hagg2 : ∀ w, (isAgg T2).run P w = .ok false w) (hc : w.cell? A = some u) (hc2 : w.cell? A2 = some u2) {a : Act} (ha : Ag n fr a) : (results fn a.tmps).run P w = .ok (.tuple #[u, u2]) w := by
  have h1 : a.tmps.getD t undef = .pointer (some A) := by simp [Array.getD_eq_getD_getElem?, ha.at_ t _ hg]
  have h2 : a.tmps.getD t2 undef = .pointer (some A2) := by simp [Array.getD_eq_getD_getElem?, ha.at_ t2 _ hg2]
  simp only [Array.getD_eq_getD_getElem?] at h1 h2
  simp [results, hf, h1, h2, asAddr, loadVar, hagg, hagg2, hc, hc2]
theorem res_c (hf : fn.results = #[.cell t T1]) (hg : Fr.get fr t = some (.pointer (some A))) (hagg : ∀ w, (isAgg T1).run P w = .ok false w) (hc : w.cell? A = some u) {a : Act} (ha : Ag n fr a) : (results fn a.tmps).run P w = .ok u w := by
  have h1 : a.tmps.getD t undef = .pointer (some A) := by simp [Array.getD_eq_getD_getElem?, ha.at_ t _ hg]
  simp only [Array.getD_eq_getD_getElem?] at h1
  simp [results, hf, h1, asAddr, loadVar, hagg, hc]
theorem res_t (hf : fn.results = #[.tmp t]) (hg : Fr.get fr t = some v) {a : Act} (ha : Ag n fr a) : (results fn a.tmps).run P w = .ok v w := by
  rw [results_tmp hf]; simp [Array.getD_eq_getD_getElem?, ha.at_ t v hg]
theorem res_tt (hf : fn.results = #[.tmp t, .tmp t2]) (hg : Fr.get fr t = some v) (hg2 : Fr.get fr t2 = some v2) {a : Act} (ha : Ag n fr a) : (results fn a.tmps).run P w = .ok (.tuple #[v, v2]) w := by
  rw [results_tmp2 hf]; simp [Array.getD_eq_getD_getElem?, ha.at_ t v hg, ha.at_ t2 v2 hg2]
end

set_option maxHeartbeats 1000000 in
theorem v_range {id : Nat} {g : Operand} {ps : List Nat} {ac body y : Code} {gf : FuncId} {lb : List Value} (N : Nat) (args : Nat → List Value) (I : Nat → World → Prop) (Ix : Exit → World → Prop) (FB : Nat → Fr)
    (he : Enters P gf) (hg : Fr.ev fr g = some (.func (.func gf) #[] lb.toArray)) (hps : ∀ k, ps.length = (args k).length) (hI : ∀ k, Abd w.heap.size (I k)) (hIx : ∀ e, Abd w.heap.size (Ix e)) (h0 : I 0 w)
    (hiter : ∀ (l : Nat) (J Jx : Nat → World → Prop) (W : World), LeG w W → (∀ k W, J k W → I k W) → (∀ k W W', J k W → LeG W W' → J k W') → (∀ k W W', Jx k W → LeG W W' → Jx k W') → Rounds P l args N J Jx → J 0 W →
      Gives P gf (Value.func (.yield l) #[] #[] :: lb).toArray W fun _ W' => J N W' ∨ ∃ k, Jx k W')
    (hassign : ∀ l k W, V P ⟨n.sz, some l, [], fun _ _ => False⟩ ac (zipFr ps (args k) fr) W fun e fr' W' => e = .normal ∧ W' = W ∧ Sub (FB k) fr')
    (hbody : ∀ l k W, k < N → I k W → V P ⟨n.sz, some l, [], fun _ _ => False⟩ body (FB k) W (RPost w.heap.size (I (k + 1)) Ix W))
    (hdone : ∀ D W, w.heap.size ≤ D → W.heap[D]? = some (.deferred (some [])) → I N W → V P ⟨n.sz, none, collD D, n.esc⟩ y fr W (PostE n D))
    (hret : ∀ D W, w.heap.size ≤ D → W.heap[D]? = some (.deferred (some [])) → Ix .ret W → PostE n D .ret fr W)
    (hexit : ∀ j D W, w.heap.size ≤ D → W.heap[D]? = some (.deferred (some [])) → Ix (.exit j) W → j = id ∧ V P ⟨n.sz, none, collD D, n.esc⟩ y fr W (PostE n D))
    (hro : n.ro = none := by rfl) (hds : n.ds = [] := by rfl) (hps2 : (ps.all fun p => Nat.blt p n.sz) = true := by rfl) (hok1 : codeOk n.sz ac = true := by kernel_rfl) (hok2 : codeOk n.sz body = true := by kernel_rfl) :
    VR P n (.block id (.rangeFunc g ps.toArray ac body)) y fr w Q := by
  unfold V at hassign hbody
  intro _ hokY a ha
  rw [fw_none hro]
  refine wpIn_block (wpIn_rangeFunc fun fn _ => ?_)
  obtain ⟨rec, hrec⟩ : ∃ rec : LoopState → Option Code → Loop, rec = fun st pe => { state := st, pending := pe, fn, tmps := a.tmps, params := ps.toArray, assign := ac, body, defers := w.heap.size } := ⟨_, rfl⟩
  obtain ⟨W1, hW1⟩ : ∃ W1, (w.alloc (.deferred (some []))).alloc (.loop (rec .ready none)) = W1 := ⟨_, rfl⟩
  obtain ⟨l, hl⟩ : ∃ l, l = w.heap.size + 1 := ⟨_, rfl⟩
  have hL1 : W1.heap[l]? = some (.loop (rec .ready none)) := by
    rw [← hW1, hl]; have := World.alloc_heap_new (w.alloc (.deferred (some []))) (.loop (rec .ready none)); rwa [World.size_alloc] at this
  have hK1 : W1.heap[w.heap.size]? = some (.deferred (some [])) := by
    rw [← hW1]; exact (Below.heap_alloc _ _ _ (by simp)).trans (World.alloc_heap_new w _)
  have hg1 : LeG w W1 := by
    rw [← hW1]; exact ((Below.refl _ w).alloc (Nat.le_refl _) _).alloc (by simp) _
  have hact : Ag ⟨n.sz, none, collD w.heap.size, n.esc⟩ fr { a with defers := collD w.heap.size ++ a.defers } := ⟨by rw [ha.defers, hds]; rfl, ha.size, ha.at_⟩
  -- behind the loop
  have hend : ∀ W, W.heap[w.heap.size]? = some (.deferred (some [])) → (V P ⟨n.sz, none, collD w.heap.size, n.esc⟩ y fr W (PostE n w.heap.size)) → y.wpIn Fence.wide 0 P (up n Q) { a with defers := collD w.heap.size ++ a.defers } W := by
    intro W hD hV
    unfold V at hV
    refine wpIn_mono (hV hokY _ hact) ?_
    rintro e a' w' (⟨fr', h1, rfl, h2⟩ | ⟨rfl, h2⟩)
    · exact .inr ⟨rfl, h2 a' h1⟩
    · exact .inr ⟨rfl, h2⟩
  have hendR : ∀ W, PostE n w.heap.size .ret fr W → up n Q .ret { a with defers := collD w.heap.size ++ a.defers } W := fun W h => .inr ⟨rfl, h.2 _ hact⟩
  refine ⟨l, collD w.heap.size, W1, { target := .fn (.func gf) lb.toArray, args := #[.func (.yield l) #[] #[]] }, W1, gf, #[.func (.yield l) #[] #[]] ++ lb.toArray, W1, ?_, ?_, fun _ _ => trivial, ?_, fun h => by simp [Fence.wide] at h, ?_⟩
  · rw [← hW1, hrec, hl]; exact run_enterLoop_outer _ _ _ _ _
  · simp only [resolve, ha.ev hg]
    simp [go_sem]
  · simp [invoke, he _ W1]
  · -- the rounds
    have hJ : ∀ (k : Nat) (st : LoopState) (pe : Option Code) (X : World → Prop), Abd w.heap.size X → ∀ W W', (X W ∧ W.heap[l]? = some (.loop (rec st pe)) ∧ W.heap[w.heap.size]? = some (.deferred (some []))) → LeG W W' →
        (X W' ∧ W'.heap[l]? = some (.loop (rec st pe)) ∧ W'.heap[w.heap.size]? = some (.deferred (some []))) := fun k st pe X hX W W' h hh =>
      ⟨hX W W' h.1 (Nc.of_leg hh), (hh.block _ (Array.getElem?_eq_some_iff.1 h.2.1).1).trans h.2.1, (hh.block _ (Array.getElem?_eq_some_iff.1 h.2.2).1).trans h.2.2⟩
    have hlw : w.heap.size ≤ l := by omega
    have hit := hiter l (fun k W => I k W ∧ W.heap[l]? = some (.loop (rec .ready none)) ∧ W.heap[w.heap.size]? = some (.deferred (some [])))
      (fun _ W => ∃ e c, jumpOf e = some c ∧ Ix e W ∧ W.heap[l]? = some (.loop (rec .done (some c))) ∧ W.heap[w.heap.size]? = some (.deferred (some []))) W1 hg1 (fun k W h => h.1)
      (fun k => hJ k .ready none (I k) (hI k)) (fun k W W' ⟨e, c, h1, h2⟩ hh => ⟨e, c, h1, hJ k .done (some c) (Ix e) (hIx e) W W' h2 hh⟩) ?_ ⟨hI 0 w W1 h0 (Nc.of_leg hg1), hL1, hK1⟩
    · unfold Gives at hit
      have hc := hit.2
      rw [show (Value.func (.yield l) #[] #[] :: lb).toArray = (#[.func (.yield l) #[] #[]] ++ lb.toArray : Array Value) by simp] at hc
      refine callsIn_wide.2 (hc.mono ?_)
      rintro e W2 ⟨v, rfl, hh⟩
      rcases hh with ⟨hi, hL, hK⟩ | ⟨k, e, c, hj, hi, hL, hK⟩
      · refine ⟨none, _, by have := run_endLoop (P := P) hL (by rw [hrec]; simp); rw [hrec] at this; exact this, ?_⟩
        exact hend _ ((World.putObj_heap_other (by omega)).trans hK) (hdone _ _ (Nat.le_refl _) ((World.putObj_heap_other (by omega)).trans hK) (hI N _ _ hi (Nc.put _ hlw hL rfl)))
      · refine ⟨some c, _, by have := run_endLoop (P := P) hL (by rw [hrec]; simp); rw [hrec] at this; exact this, ?_⟩
        have hi' := hIx e _ _ hi (Nc.put (.loop { rec .done (some c) with state := .exhausted }) hlw hL rfl)
        have hK' : (W2.putObj l (.loop { rec .done (some c) with state := .exhausted })).heap[w.heap.size]? = some (.deferred (some [])) := (World.putObj_heap_other (by omega)).trans hK
        rw [hrec] at hi' hK'
        cases e with
        | ret => cases hj; exact wpIn_ret (hendR _ (hret _ _ (Nat.le_refl _) hK' hi'))
        | exit j =>
          cases hj
          obtain ⟨rfl, hV⟩ := hexit j _ _ (Nat.le_refl _) hK' hi'
          refine wpIn_exit ?_
          have := hend _ hK' hV
          simpa [Exit.inBlock, Exit.then] using this
        | _ => cases hj
    · rintro k W ⟨hi, hL, hK⟩ hk
      have hy := run_yield (P := P) (args := (args k).toArray) hL (by rw [hrec]; simpa using (hps k).symm)
      rw [hrec] at hy
      refine ⟨fn, _, ac, body, hy, roundIn_of_wpIn trivial ?_⟩
      have hag0 : Ag ⟨n.sz, some l, [], fun _ _ => False⟩ fr { tmps := a.tmps, defers := [] } := ⟨rfl, ha.size, ha.at_⟩
      have hag := zipFr_ag (C := ⟨n.sz, some l, [], fun _ _ => False⟩) rfl ps (args k) fr a.tmps hps2 (hps k) hag0
      have ht : ((ps.toArray.zip (args k).toArray).foldl (fun tmps (t, a) => tmps.setIfInBounds t a) a.tmps) = (ps.zip (args k)).foldl (fun t (p, a) => t.setIfInBounds p a) a.tmps := by simp
      have hlt : l < W.heap.size := (Array.getElem?_eq_some_iff.1 hL).1
      have hb := run_beginRound (P := P) hL (by rw [hrec])
      show Code.wpIn (fw (some l)) 0 P _ _ _ W
      have hkL : (W.putObj l (.loop { rec .ready none with state := .busy })).heap[l]? = some (.loop { rec .ready none with state := .busy }) := World.putObj_heap_same hlt
      have hkK : (W.putObj l (.loop { rec .ready none with state := .busy })).heap[w.heap.size]? = some (.deferred (some [])) := (World.putObj_heap_other (by omega)).trans hK
      have hkI := hI k _ _ hi (Nc.put (.loop { rec .ready none with state := .busy }) hlw hL rfl)
      rw [ht]
      refine wpIn_mono (hassign l k W hok1 _ hag) ?_
      rintro e a1 W' (⟨fr1, h1, rfl, rfl, h3⟩ | ⟨_, h⟩)
      · refine ⟨_, hb, wpIn_mono (hbody l k _ hk hkI hok2 a1 (h1.sub h3)) ?_⟩
        have fin : ∀ (jump : Option Code) (W3 : World), Kn w.heap.size (W'.putObj l (.loop { rec .ready none with state := .busy })) W3 →
            (Instr.endRound l jump).run P W3 = .ok (.bool jump.isNone) (W3.putObj l (.loop (rec (if jump.isNone then .ready else .done) jump))) ∧ Nc w.heap.size W3 (W3.putObj l (.loop (rec (if jump.isNone then .ready else .done) jump))) ∧
            (W3.putObj l (.loop (rec (if jump.isNone then .ready else .done) jump))).heap[l]? = some (.loop (rec (if jump.isNone then .ready else .done) jump)) ∧
            (W3.putObj l (.loop (rec (if jump.isNone then .ready else .done) jump))).heap[w.heap.size]? = some (.deferred (some [])) := fun jump W3 hk3 => by
          have hl3 := hk3.block _ _ hlw hkL rfl
          have hd3 := hk3.block _ _ (Nat.le_refl _) hkK rfl
          have := run_endRound (P := P) jump hl3
          refine ⟨?_, Nc.put _ hlw hl3 rfl, World.putObj_heap_same (Array.getElem?_eq_some_iff.1 hl3).1, (World.putObj_heap_other (by omega)).trans hd3⟩
          rw [hrec] at this ⊢
          exact this
        rintro e a3 W3 (⟨fr3, h4, h5⟩ | ⟨_, h⟩)
        · cases e with
          | normal =>
            obtain ⟨h6, h7⟩ := h5
            obtain ⟨r1, r2, r3, r4⟩ := fin none W3 h6
            exact ⟨_, _, r1, true, rfl, fun _ => ⟨hI _ _ _ h7 r2, r3, r4⟩, fun h => by cases h⟩
          | ret =>
            obtain ⟨h6, h7⟩ := h5
            obtain ⟨r1, r2, r3, r4⟩ := fin (some .ret) W3 h6
            exact ⟨_, _, r1, (some Code.ret).isNone, rfl, fun h => by simp at h, fun _ => ⟨.ret, .ret, rfl, hIx .ret _ _ h7 r2, r3, r4⟩⟩
          | exit j =>
            obtain ⟨h6, h7⟩ := h5
            obtain ⟨r1, r2, r3, r4⟩ := fin (some (.exit j)) W3 h6
            exact ⟨_, _, r1, (some (Code.exit j)).isNone, rfl, fun h => by simp at h, fun _ => ⟨.exit j, .exit j, rfl, hIx (.exit j) _ _ h7 r2, r3, r4⟩⟩
          | _ => exact h5.elim
        · exact h.elim
      · exact h.elim
end
section
variable {P : Program} {n : Cx} {fr : Fr} {w : World} {ty T : TypeId}
theorem os_alloc1 {z0 : Value} (hz : ∀ w, (zeroValue T).run P w = .ok z0 w) (h1 : z0.cells = #[z0]) : OS P n (.alloc T) ty fr w (.pointer (some ⟨w.heap.size, 0, none⟩)) (w.alloc (.cells [z0].toArray T)) := by
  have := os_alloc (P := P) (n := n) (ty := ty) (fr := fr) (w := w) hz
  rw [h1] at this
  exact this
end
end Go.Proofs.Ytpjmiafefammkaa
