/- Layer 25: what the program hopes for. -/
import Derived.Test.YtpjmiafefammkaaTy
import Derived.Test.YtpjmiafefammkaaFixG
import Derived.Test.YtpjmiafefammkaaFixR
import Derived.Test.YtpjmiafefammkaaWg
import Derived.Test.YtpjmiafefammkaaWgLP
import Derived.Test.YtpjmiafefammkaaKitS
namespace Go.Proofs.Ytpjmiafefammkaa
open Go.RowKit
set_option linter.unusedVariables false

def wtOk (hs : List Int) : Bool := decide (2 ≤ hs.length) && rowB hs
def wtV (hs : List Int) : List Int := if wtOk hs then tailsL hs else []
def exOk (worths ks hs : List Int) : Bool := wtOk hs && scOk worths ks (tailsL hs)
def exV (worths ks hs : List Int) : Int := if exOk worths ks hs then scSum worths ks (tailsL hs) ks.length else 0
/-- the sum over places of the place by what stands there, up to m -/
def meanS (hs : List Int) : Nat → Int
  | 0 => 0
  | k + 1 => meanS hs k + (k : Int) * hs.getD k 0
def meanV (hs : List Int) : Int := if wtOk hs then meanS hs hs.length else 0
theorem wtOk_parts {hs : List Int} (h : wtOk hs = true) : 2 ≤ hs.length ∧ hs.length ≤ 256 ∧ rowB hs = true := by
  simp only [wtOk, Bool.and_eq_true, decide_eq_true_eq] at h
  have := rowB_len h.2
  exact ⟨h.1, this.2, h.2⟩
theorem argE_zero {b : Bool} : argE b = 0 ↔ b = true := by cases b <;> simp [argE]
theorem argE_errA (b : Bool) : argE b = errA b := by cases b <;> rfl

theorem hope_Weights (A : Option Addr) (n c : Nat) (hs : List Int) (w : World) (ha : Rd w .i64 A hs) (hn : n = hs.length) (hn' : n ≤ 9223372036854775807) (ih : AllI hs) :
    Gives Try.prog 36 #[.slice A n c] w fun v w' => ∃ u, v = .tuple #[u, .int .i64 (errA (wtOk hs))] ∧ OwnK w' w.heap.size 3 .i64 u (wtV hs) ∧ Below w.heap.size w w' := by
  refine gives_enter Try.call36 Try.func36 rfl rfl rfl (by kernel_rfl) ?_
  refine v_seq ?_
  refine v_region ?_
  refine vl_val (os_assign rfl) ?_
  refine vl_val (os_assign rfl) ?_
  refine vl_nil ?_
  refine v_seq ?_
  refine v_seq ?_
  refine v_region ?_
  refine vl_val (os_move rfl) ?_
  refine vl_val (os_len Try.underlying40 rfl) ?_
  refine vl_val (os_lss rfl rfl) ?_
  refine vl_nil ?_
  refine v_cond_d rfl (fun h => ?_) (fun h => ?_)
  · have e : wtOk hs = false := by simp [wtOk]; omega
    refine v_seq ?_
    refine v_region ?_
    refine vl_val (os_assign rfl) ?_
    refine vl_val (os_assign rfl) ?_
    refine vl_nil ?_
    refine v_ret ?_
    exact post_ret2 rfl rfl rfl (⟨_, by rw [e]; rfl, by rw [wtV, e]; exact Own.nil _ _ _, Below.refl _ _⟩)
  · have e : wtOk hs = rowB hs := by simp [wtOk]; omega
    refine v_skip ?_
    refine v_seq ?_
    refine v_region ?_
    refine vl_val (os_move rfl) ?_
    refine vl_call (g_Tails A n c hs w ha hn hn' ih) rfl ?_
    rintro v w1 ⟨u, rfl, o1, b1⟩
    have o1 : OwnK w1 w.heap.size 3 .i64 u (tailsV hs) := by have := o1; unfold OwnI at this; unfold OwnK Own; rwa [List.length_map]
    refine vl_val (os_extract rfl rfl) ?_
    refine vl_val (os_extract rfl rfl) ?_
    refine vl_val (os_assign rfl) ?_
    refine vl_val (os_assign rfl) ?_
    refine vl_nil ?_
    refine v_ret ?_
    exact post_ret2 rfl rfl rfl (⟨u, by rw [e, ← argE_errA], by rw [wtV, e]; exact o1, b1⟩)
theorem tails_len (hs : List Int) : (tailsL hs).length = hs.length := by unfold tailsL; rw [tFold_len]
theorem wtV_ok {hs : List Int} (h : wtOk hs = true) : wtV hs = tailsL hs := by simp [wtV, h]
theorem exOk_false {worths ks hs : List Int} (h : wtOk hs = false) : exOk worths ks hs = false := by simp [exOk, h]
theorem exV_sc {worths ks hs : List Int} (h : wtOk hs = true) : exV worths ks hs = scV worths ks (tailsL hs) ∧ exOk worths ks hs = scOk worths ks (tailsL hs) := by simp [exV, exOk, scV, h]

theorem hope_Expect (A B C : Option Addr) (l m n c d e : Nat) (worths ks hs : List Int) (w : World) (ha : Rd w .i64 A worths) (hb : Rd w .i64 B ks) (hc : Rd w .i64 C hs) (hl : l = worths.length) (hm : m = ks.length) (hn : n = hs.length) (hl' : l ≤ 9000000000000000) (hm' : m ≤ 9000000000000000) (hn' : n ≤ 9000000000000000) (ih : AllI hs) :
    Gives Try.prog 34 #[.slice A l c, .slice B m d, .slice C n e] w fun v w' => v = .tuple #[.int .i64 (exV worths ks hs), .int .i64 (errA (exOk worths ks hs))] ∧ Below w.heap.size w w' := by
  refine gives_enter Try.call34 Try.func34 rfl rfl rfl (by kernel_rfl) ?_
  refine v_seq ?_
  refine v_region ?_
  refine vl_val (os_assign rfl) ?_
  refine vl_val (os_assign rfl) ?_
  refine vl_nil ?_
  refine v_seq ?_
  refine v_region ?_
  refine vl_val (os_move rfl) ?_
  refine vl_call (hope_Weights C n e hs w hc hn (by omega) ih) rfl ?_
  rintro v w1 ⟨u, rfl, o1, b1⟩
  refine vl_val (os_move rfl) ?_
  refine vl_val (os_extract rfl rfl) ?_
  refine vl_val (os_extract rfl rfl) ?_
  refine vl_val (os_assign rfl) ?_
  refine vl_val (os_assign rfl) ?_
  refine vl_nil ?_
  cases hw : wtOk hs
  · refine v_seq ?_
    refine v_seq ?_
    refine v_region ?_
    refine vl_val (os_move rfl) ?_
    refine vl_val (os_neq rfl rfl) ?_
    refine vl_nil ?_
    refine v_cond_yes rfl (by decide) ?_
    refine v_seq ?_
    refine v_region ?_
    refine vl_val (os_move rfl) ?_
    refine vl_val (os_assign rfl) ?_
    refine vl_val (os_assign rfl) ?_
    refine vl_nil ?_
    refine v_ret ?_
    exact post_ret2 rfl rfl rfl (⟨by rw [exOk_false hw]; simp [exV, exOk_false hw, errA], b1⟩)
  · refine v_seq ?_
    refine v_seq ?_
    refine v_region ?_
    refine vl_val (os_move rfl) ?_
    refine vl_val (os_neq rfl rfl) ?_
    refine vl_nil ?_
    refine v_cond_no rfl (by decide) ?_
    rw [wtV_ok hw] at o1
    obtain ⟨A1, c1, rfl, _, _, r1, _⟩ := OwnK.form o1
    have hlen := tails_len hs
    refine v_skip ?_
    refine v_seq ?_
    refine v_region ?_
    refine vl_val (os_move rfl) ?_
    refine vl_val (os_move rfl) ?_
    refine vl_val (os_move rfl) ?_
    refine vl_call (wg_Score A B A1 l m _ c d c1 worths ks (tailsL hs) w1 (ha.keep b1) (hb.keep b1) r1 hl hm rfl hl' hm' (by omega)) rfl ?_
    rintro v2 w2 ⟨rfl, d2⟩
    obtain ⟨x1, x2⟩ := exV_sc (worths := worths) (ks := ks) hw
    refine vl_val (os_extract rfl rfl) ?_
    refine vl_val (os_extract rfl rfl) ?_
    refine vl_val (os_assign rfl) ?_
    refine vl_val (os_assign rfl) ?_
    refine vl_nil ?_
    refine v_ret ?_
    exact post_ret2 rfl rfl rfl (⟨by rw [x1, x2], b1.trans ((led_below d2).mono b1.size)⟩)

theorem meanS_bd {hs : List Int} (h : rowB hs = true) : ∀ k, k ≤ hs.length → 0 ≤ meanS hs k ∧ meanS hs k ≤ k * (256 * 65536) := by
  have hl := rowB_len h
  intro k
  induction k with
  | zero => intro _; simp [meanS]
  | succ k ih =>
    intro hk
    have h1 := ih (by omega)
    have h2 := rowB_at h (k := k) (by omega)
    have h3 : 0 ≤ (k : Int) * hs.getD k 0 := Int.mul_nonneg (by omega) h2.1
    have h4 : (k : Int) * hs.getD k 0 ≤ 256 * 65536 := Int.mul_le_mul (by omega) h2.2 h2.1 (by omega)
    simp only [meanS]
    omega
theorem hope_Mean_fn (r x : Int) (w : World) (hr : 0 ≤ r ∧ r ≤ 256) (hx : 0 ≤ x ∧ x ≤ 65536) : Gives Try.prog 77 #[.int .i64 r, .int .i64 x] w fun v w' => v = .int .i64 (r * x) ∧ w' = w := by
  have h1 : 0 ≤ r * x := Int.mul_nonneg hr.1 hx.1
  have h2 : r * x ≤ 256 * 65536 := Int.mul_le_mul hr.2 hx.2 hx.1 (by omega)
  refine gives_enter Try.call77 Try.func77 rfl rfl rfl (by kernel_rfl) ?_
  refine v_seq ?_
  refine v_region ?_
  refine vl_val (os_assign rfl) ?_
  refine vl_nil ?_
  refine v_seq ?_
  refine v_region ?_
  refine vl_val (os_move rfl) ?_
  refine vl_val (os_move rfl) ?_
  refine vl_val (os_mul rfl rfl (i64_fit ⟨by omega, by omega⟩)) ?_
  refine vl_val (os_assign rfl) ?_
  refine vl_nil ?_
  refine v_ret ?_
  exact post_ret rfl rfl (⟨rfl, rfl⟩)
theorem hope_sum (A : Option Addr) (n c : Nat) (hs : List Int) (w : World) (ha : Rd w .i64 A hs) (hn : n = hs.length) (hr : rowB hs = true) :
    Gives Try.prog 76 #[.slice A n c, .func (.func 77) #[] #[]] w fun v w' => v = .int .i64 (meanS hs hs.length) ∧ w' = w := by
  have hl := rowB_len hr
  refine gives_enter Try.call76 Try.func76 rfl rfl rfl (by kernel_rfl) ?_
  refine v_seq ?_
  refine v_region ?_
  refine vl_val (os_assign rfl) ?_
  refine vl_nil ?_
  refine v_seq ?_
  refine v_seq ?_
  refine v_region ?_
  refine vl_val (os_move rfl) ?_
  refine vl_val (os_len Try.underlying40 rfl) ?_
  refine vl_val (os_move rfl) ?_
  refine vl_nil ?_
  refine v_block ?_
  refine v_loop [(1, _), (7, _), (8, _)] (fun (k : Nat) => [(4, .int .i64 (meanS hs k)), (9, .int .i64 k)]) (fun k w' => k ≤ n ∧ w' = w) (fun k => n - k) (0) ⟨rfl, rfl, rfl, trivial⟩ ⟨rfl, rfl, trivial⟩ (⟨by omega, rfl⟩) ?_
  rintro k w ⟨hk, rfl⟩
  refine v_seq ?_
  refine v_region ?_
  refine vl_val (os_lss rfl rfl) ?_
  refine vl_nil ?_
  refine v_seq ?_
  refine v_cond_d rfl (fun h => ?_) (fun h => ?_)
  · obtain ⟨b, o, rfl, hc⟩ := ha.at_ (i := k) (by omega)
    have hp := rowB_at hr (k := k) (by omega)
    have hb := meanS_bd hr k (by omega)
    have h3 : 0 ≤ (k : Int) * hs.getD k 0 := Int.mul_nonneg (by omega) hp.1
    have h4 : (k : Int) * hs.getD k 0 ≤ 256 * 65536 := Int.mul_le_mul (by omega) hp.2 hp.1 (by omega)
    refine v_skip ?_
    refine v_seq ?_
    refine v_block ?_
    refine v_seq ?_
    refine v_region ?_
    refine vl_val (os_move rfl) ?_
    refine vl_val (os_ix Try.underlying40 Try.sizeOf3 rfl rfl (i := k) (by omega) (by omega)) ?_
    refine vl_val (os_load Try.isAgg3 rfl (hc)) ?_
    refine vl_val (os_assign rfl) ?_
    refine vl_val (os_assign rfl) ?_
    refine vl_nil ?_
    refine v_region ?_
    refine vl_val (os_move rfl) ?_
    refine vl_val (os_move rfl) ?_
    refine vl_val (os_move rfl) ?_
    refine vl_val (os_move rfl) ?_
    refine vl_callv rfl (hope_Mean_fn k (hs.getD k 0) w ⟨by omega, by omega⟩ hp) rfl ?_
    rintro v w ⟨rfl, rfl⟩
    refine vl_val (os_addi rfl rfl (by omega)) ?_
    refine vl_val (os_assign rfl) ?_
    refine vl_nil ?_
    refine v_region ?_
    refine vl_val (os_addi rfl rfl (by omega)) ?_
    refine vl_val (os_move rfl) ?_
    refine vl_nil ?_
    exact ⟨k + 1, ⟨rfl, rfl, rfl, trivial⟩, ⟨rfl, rfl, trivial⟩, ⟨by omega, rfl⟩, by dsimp only; omega⟩
  · obtain rfl : n = k := by omega
    refine v_exit ?_
    refine v_seq ?_
    refine v_region ?_
    refine vl_val (os_move rfl) ?_
    refine vl_val (os_assign rfl) ?_
    refine vl_nil ?_
    refine v_ret ?_
    exact post_ret rfl rfl (⟨by rw [hn], rfl⟩)
theorem hope_Mean (C : Option Addr) (n e : Nat) (hs : List Int) (w : World) (hc : Rd w .i64 C hs) (hn : n = hs.length) (hn' : n ≤ 9000000000000000) (ih : AllI hs) :
    Gives Try.prog 39 #[.slice C n e] w fun v w' => v = .tuple #[.int .i64 (meanV hs), .int .i64 (errA (wtOk hs))] ∧ Below w.heap.size w w' := by
  refine gives_enter Try.call39 Try.func39 rfl rfl rfl (by kernel_rfl) ?_
  refine v_seq ?_
  refine v_region ?_
  refine vl_val (os_assign rfl) ?_
  refine vl_val (os_assign rfl) ?_
  refine vl_nil ?_
  refine v_seq ?_
  refine v_seq ?_
  refine v_region ?_
  refine vl_val (os_move rfl) ?_
  refine vl_call (hope_Weights C n e hs w hc hn (by omega) ih) rfl ?_
  rintro v w1 ⟨u, rfl, o1, b1⟩
  refine vl_val (os_move rfl) ?_
  refine vl_val (os_extract rfl rfl) ?_
  refine vl_val (os_extract rfl rfl) ?_
  refine vl_val (os_assign rfl) ?_
  refine vl_val (os_assign rfl) ?_
  refine vl_nil ?_
  cases hw : wtOk hs
  · refine v_seq ?_
    refine v_region ?_
    refine vl_val (os_move rfl) ?_
    refine vl_val (os_neq rfl rfl) ?_
    refine vl_nil ?_
    refine v_cond_yes rfl (by decide) ?_
    refine v_seq ?_
    refine v_region ?_
    refine vl_val (os_move rfl) ?_
    refine vl_val (os_assign rfl) ?_
    refine vl_val (os_assign rfl) ?_
    refine vl_nil ?_
    refine v_ret ?_
    exact post_ret2 rfl rfl rfl (⟨by simp [meanV, hw, errA], b1⟩)
  · refine v_seq ?_
    refine v_region ?_
    refine vl_val (os_move rfl) ?_
    refine vl_val (os_neq rfl rfl) ?_
    refine vl_nil ?_
    refine v_cond_no rfl (by decide) ?_
    refine v_skip ?_
    refine v_seq ?_
    refine v_region ?_
    refine vl_val (os_move rfl) ?_
    refine vl_call (hope_sum C n e hs w1 (hc.keep b1) hn (wtOk_parts hw).2.2) rfl ?_
    rintro v2 w1 ⟨rfl, rfl⟩
    refine vl_val (os_assign rfl) ?_
    refine vl_val (os_assign rfl) ?_
    refine vl_nil ?_
    refine v_ret ?_
    exact post_ret2 rfl rfl rfl (⟨by simp [meanV, hw, errA], b1⟩)

theorem allI_lit {zs : List Int} (h : zs.all (fun z => decide (-9223372036854775808 ≤ z ∧ z ≤ 9223372036854775807)) = true) : AllI zs := by
  intro z hz; have := List.all_eq_true.1 h z hz; simpa [I64] using this
theorem law25_awake (w : World) : Gives Try.prog 33 #[] w fun v w' => v = .bool true ∧ Below w.heap.size w w' := by
  have t1 : tailsL [0, 0, 16384, 49152] = [65536, 65536, 65536, 49152] := by decide
  have t2 : wtOk [0, 0, 16384, 49152] = true := by decide
  have t3 : meanV [0, 0, 16384, 49152] = 180224 := by decide
  have t4 : exV [3, 5] [2, 3] [0, 0, 16384, 49152] = 442368 := by unfold exV exOk; rw [t1, t2]; decide
  have t5 : exOk [3, 5] [2, 3] [0, 0, 16384, 49152] = true := by unfold exOk; rw [t1, t2]; decide
  have hA : AllI [0, 0, 16384, 49152] := allI_lit rfl
  refine gives_enter Try.call33 Try.func33 rfl rfl rfl (by kernel_rfl) ?_
  have r0 := rd_alloc w .i64 [0, 0, 16384, 49152] 3
  have b0 := (Below.refl w.heap.size w).alloc (Nat.le_refl _) (.cells [Value.int .i64 0, .int .i64 0, .int .i64 16384, .int .i64 49152].toArray 3)
  refine v_seq ?_
  refine v_region ?_
  refine vl_val (os_assign rfl) ?_
  refine vl_nil ?_
  refine v_seq ?_
  refine v_region ?_
  refine vl_val (os_lit Try.underlying40 Try.sizeOf3 Try.zeroValue3 rfl rfl rfl rfl (by decide)) ?_
  refine vl_val (os_assign rfl) ?_
  refine vl_nil ?_
  refine v_seq ?_
  refine v_region ?_
  refine vl_val (os_move rfl) ?_
  refine vl_call (hope_Weights _ 4 4 [0, 0, 16384, 49152] _ r0 rfl (by decide) hA) rfl ?_
  rintro v1 w1 ⟨u, rfl, o1, b1⟩
  rw [wtV_ok t2, t1] at o1
  rw [t2]
  have b01 := b0.trans (b1.mono b0.size)
  obtain ⟨A1, c1, rfl, _, _, r1, _⟩ := OwnK.form o1
  refine vl_val (os_move rfl) ?_
  refine vl_val (os_extract rfl rfl) ?_
  refine vl_val (os_extract rfl rfl) ?_
  refine vl_val (os_assign rfl) ?_
  refine vl_val (os_assign rfl) ?_
  refine vl_nil ?_
  refine v_seq ?_
  refine v_region ?_
  refine vl_val (os_move rfl) ?_
  refine vl_call (hope_Mean _ 4 4 [0, 0, 16384, 49152] w1 (r0.keep b1) rfl (by decide) hA) rfl ?_
  rintro v2 w2 ⟨rfl, b2⟩
  rw [t3, t2]
  have b02 := b01.trans (b2.mono b01.size)
  have q1 := rd_alloc w2 .i64 [3, 5] 3
  have q2 := rd_alloc (w2.alloc (.cells [Value.int .i64 3, .int .i64 5].toArray 3)) .i64 [2, 3] 3
  have ba := (Below.refl _ w2).alloc (Nat.le_refl _) (.cells [Value.int .i64 3, .int .i64 5].toArray 3)
  have bb := (Below.refl _ (w2.alloc (.cells [Value.int .i64 3, .int .i64 5].toArray 3))).alloc (Nat.le_refl _) (.cells [Value.int .i64 2, .int .i64 3].toArray 3)
  have bab := ba.trans (bb.mono ba.size)
  refine vl_val (os_move rfl) ?_
  refine vl_val (os_extract rfl rfl) ?_
  refine vl_val (os_extract rfl rfl) ?_
  refine vl_val (os_assign rfl) ?_
  refine vl_val (os_assign rfl) ?_
  refine vl_nil ?_
  refine v_seq ?_
  refine v_region ?_
  refine vl_val (os_lit Try.underlying40 Try.sizeOf3 Try.zeroValue3 rfl rfl rfl rfl (by decide)) ?_
  refine vl_val (os_lit Try.underlying40 Try.sizeOf3 Try.zeroValue3 rfl rfl rfl rfl (by decide)) ?_
  refine vl_val (os_move rfl) ?_
  refine vl_call (hope_Expect _ _ _ 2 2 4 2 2 4 [3, 5] [2, 3] [0, 0, 16384, 49152] _ (q1.keep bb) q2 (((r0.keep b1).keep b2).keep bab) rfl rfl rfl (by decide) (by decide) (by decide) hA) rfl ?_
  rintro v3 w3 ⟨rfl, b3⟩
  rw [t4, t5]
  have b23 := bab.trans (b3.mono bab.size)
  have b03 := b02.trans (b23.mono b02.size)
  refine vl_val (os_move rfl) ?_
  refine vl_val (os_extract rfl rfl) ?_
  refine vl_val (os_extract rfl rfl) ?_
  refine vl_val (os_assign rfl) ?_
  refine vl_val (os_assign rfl) ?_
  refine vl_nil ?_
  refine v_seq ?_
  refine v_region ?_
  refine vl_val (os_move rfl) ?_
  refine vl_val (os_t (os_eql rfl rfl) (rfl)) ?_
  refine vl_val (os_move rfl) ?_
  refine vl_valg rfl (os_move rfl) ?_
  refine vl_valg rfl (os_t (os_eql rfl rfl) (rfl)) ?_
  refine vl_val (os_pick_t rfl rfl) ?_
  refine vl_val (os_move rfl) ?_
  refine vl_valg rfl (os_move rfl) ?_
  refine vl_valg rfl (os_t (os_eql rfl rfl) (rfl)) ?_
  refine vl_val (os_pick_t rfl rfl) ?_
  refine vl_val (os_move rfl) ?_
  refine vl_valg rfl (os_move rfl) ?_
  refine vl_valg rfl (os_t (os_eql rfl rfl) (rfl)) ?_
  refine vl_val (os_pick_t rfl rfl) ?_
  refine vl_val (os_move rfl) ?_
  refine vl_valg rfl (os_move rfl) ?_
  refine vl_valg rfl (os_t (os_eql rfl rfl) (rfl)) ?_
  have r3 := (r1.keep b2).keep b23
  have bl := (Below.refl _ w3).alloc (Nat.le_refl _) (.cells [Value.int .i64 65536, .int .i64 65536, .int .i64 65536, .int .i64 49152].toArray 3)
  refine vl_val (os_pick_t rfl rfl) ?_
  refine vl_val (os_move rfl) ?_
  refine vl_valg rfl (os_move rfl) ?_
  refine vl_valg rfl (os_lit Try.underlying40 Try.sizeOf3 Try.zeroValue3 rfl rfl rfl rfl (by decide)) ?_
  refine vl_callg rfl ((kit_SameInts A1 _ 4 4 c1 4 [65536, 65536, 65536, 49152] [65536, 65536, 65536, 49152] _ (r3.keep bl) (rd_alloc w3 .i64 [65536, 65536, 65536, 49152] 3) rfl rfl (by decide) (by decide)).mono fun v w' hh => (⟨by rw [hh.1, decide_eq_true rfl], hh.2⟩ : v = .bool true ∧ LeD _ w')) rfl ?_
  rintro v4 w4 ⟨rfl, d4⟩
  have b3l := b03.trans (bl.mono b03.size)
  refine vl_val (os_pick_t rfl rfl) ?_
  refine vl_val (os_assign rfl) ?_
  refine vl_nil ?_
  refine v_ret ?_
  exact post_ret rfl rfl (⟨rfl, b3l.trans ((led_below d4).mono b3l.size)⟩)
end Go.Proofs.Ytpjmiafefammkaa
