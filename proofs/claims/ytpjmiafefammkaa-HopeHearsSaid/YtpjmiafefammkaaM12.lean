/- Texts joined: HpT SlC V5 Nil GsZ. -/
import Derived.Test.YtpjmiafefammkaaM11
import Derived.Lib.SliceRun
import Derived.Test.YtpjmiafefammkaaProg
/- Layer 25: the document's answers; the walk of HopeTells. -/
namespace Go.Proofs.Ytpjmiafefammkaa
open Go.RowKit
set_option linter.unusedVariables false

theorem r25_Weights (A : Option Addr) (n c : Nat) (hs : List Int) (w : World) (ha : Rd w .i64 A hs) (hn : n = hs.length) (hn' : n ≤ 9223372036854775807) :
    Gives Try.prog 37 #[.slice A n c] w fun v w' => ∃ u, v = .tuple #[u, .int .i64 (errA (wtOk hs))] ∧ OwnK w' w.heap.size 3 .i64 u (wtV hs) ∧ Below w.heap.size w w' := by
  refine gives_enter Try.call37 Try.func37 rfl rfl rfl (by kernel_rfl) ?_
  refine v_seq ?_
  refine v_region ?_
  refine vl_val (os_assign rfl) ?_
  refine vl_val (os_assign rfl) ?_
  refine vl_nil ?_
  refine v_seq ?_
  refine v_seq ?_
  refine v_region ?_
  refine vl_val (os_move rfl) ?_
  refine vl_val (os_len Try.underlying40 rfl) ?_
  refine vl_val (os_lss rfl rfl) ?_
  refine vl_nil ?_
  refine v_cond_d rfl (fun h => ?_) (fun h => ?_)
  · have e : wtOk hs = false := by simp [wtOk]; omega
    refine v_seq ?_
    refine v_region ?_
    refine vl_val (os_assign rfl) ?_
    refine vl_val (os_assign rfl) ?_
    refine vl_nil ?_
    refine v_ret ?_
    exact post_ret2 rfl rfl rfl (⟨_, by rw [e]; rfl, by rw [wtV, e]; exact Own.nil _ _ _, Below.refl _ _⟩)
  · have e : wtOk hs = rowB hs := by simp [wtOk]; omega
    refine v_skip ?_
    refine v_seq ?_
    refine v_region ?_
    refine vl_val (os_move rfl) ?_
    refine vl_call (r_Tails A n c hs w ha hn hn') rfl ?_
    rintro v w1 ⟨u, rfl, o1, b1⟩
    refine vl_val (os_extract rfl rfl) ?_
    refine vl_val (os_extract rfl rfl) ?_
    refine vl_val (os_assign rfl) ?_
    refine vl_val (os_assign rfl) ?_
    refine vl_nil ?_
    refine v_ret ?_
    exact post_ret2 rfl rfl rfl (⟨u, by rw [e, ← argE_errA], by rw [wtV, e]; exact o1, b1⟩)
theorem r25_Expect (A B C : Option Addr) (l m n c d e : Nat) (worths ks hs : List Int) (w : World) (ha : Rd w .i64 A worths) (hb : Rd w .i64 B ks) (hc : Rd w .i64 C hs) (hl : l = worths.length) (hm : m = ks.length) (hn : n = hs.length) (hl' : l ≤ 9000000000000000) (hm' : m ≤ 9000000000000000) (hn' : n ≤ 9000000000000000) :
    Gives Try.prog 38 #[.slice A l c, .slice B m d, .slice C n e] w fun v w' => v = .tuple #[.int .i64 (exV worths ks hs), .int .i64 (errA (exOk worths ks hs))] ∧ Below w.heap.size w w' := by
  refine gives_enter Try.call38 Try.func38 rfl rfl rfl (by kernel_rfl) ?_
  refine v_seq ?_
  refine v_region ?_
  refine vl_val (os_assign rfl) ?_
  refine vl_val (os_assign rfl) ?_
  refine vl_nil ?_
  refine v_seq ?_
  refine v_region ?_
  refine vl_val (os_move rfl) ?_
  refine vl_call (r25_Weights C n e hs w hc hn (by omega)) rfl ?_
  rintro v w1 ⟨u, rfl, o1, b1⟩
  refine vl_val (os_move rfl) ?_
  refine vl_val (os_extract rfl rfl) ?_
  refine vl_val (os_extract rfl rfl) ?_
  refine vl_val (os_assign rfl) ?_
  refine vl_val (os_assign rfl) ?_
  refine vl_nil ?_
  cases hw : wtOk hs
  · refine v_seq ?_
    refine v_seq ?_
    refine v_region ?_
    refine vl_val (os_move rfl) ?_
    refine vl_val (os_neq rfl rfl) ?_
    refine vl_nil ?_
    refine v_cond_yes rfl (by decide) ?_
    refine v_seq ?_
    refine v_region ?_
    refine vl_val (os_move rfl) ?_
    refine vl_val (os_assign rfl) ?_
    refine vl_val (os_assign rfl) ?_
    refine vl_nil ?_
    refine v_ret ?_
    exact post_ret2 rfl rfl rfl (⟨by rw [exOk_false hw]; simp [exV, exOk_false hw, errA], b1⟩)
  · refine v_seq ?_
    refine v_seq ?_
    refine v_region ?_
    refine vl_val (os_move rfl) ?_
    refine vl_val (os_neq rfl rfl) ?_
    refine vl_nil ?_
    refine v_cond_no rfl (by decide) ?_
    rw [wtV_ok hw] at o1
    obtain ⟨A1, c1, rfl, _, _, r1, _⟩ := OwnK.form o1
    have hlen := tails_len hs
    refine v_skip ?_
    refine v_seq ?_
    refine v_region ?_
    refine vl_val (os_move rfl) ?_
    refine vl_val (os_move rfl) ?_
    refine vl_val (os_move rfl) ?_
    refine vl_call (ref_Score A B A1 l m _ c d c1 worths ks (tailsL hs) w1 (ha.keep b1) (hb.keep b1) r1 hl hm rfl hl' hm' (by omega)) rfl ?_
    rintro v2 w2 ⟨rfl, d2⟩
    obtain ⟨x1, x2⟩ := exV_sc (worths := worths) (ks := ks) hw
    refine vl_val (os_extract rfl rfl) ?_
    refine vl_val (os_extract rfl rfl) ?_
    refine vl_val (os_assign rfl) ?_
    refine vl_val (os_assign rfl) ?_
    refine vl_nil ?_
    refine v_ret ?_
    exact post_ret2 rfl rfl rfl (⟨by rw [x1, x2], b1.trans ((led_below d2).mono b1.size)⟩)
theorem r25_Mean (C : Option Addr) (n e : Nat) (hs : List Int) (w : World) (hc : Rd w .i64 C hs) (hn : n = hs.length) (hn' : n ≤ 9000000000000000) :
    Gives Try.prog 40 #[.slice C n e] w fun v w' => v = .tuple #[.int .i64 (meanV hs), .int .i64 (errA (wtOk hs))] ∧ Below w.heap.size w w' := by
  refine gives_enter Try.call40 Try.func40 rfl rfl rfl (by kernel_rfl) ?_
  refine v_seq ?_
  refine v_region ?_
  refine vl_val (os_assign rfl) ?_
  refine vl_val (os_assign rfl) ?_
  refine vl_nil ?_
  refine v_seq ?_
  refine v_region ?_
  refine vl_val (os_move rfl) ?_
  refine vl_call (r25_Weights C n e hs w hc hn (by omega)) rfl ?_
  rintro v w1 ⟨u, rfl, o1, b1⟩
  refine vl_val (os_move rfl) ?_
  refine vl_val (os_extract rfl rfl) ?_
  refine vl_val (os_extract rfl rfl) ?_
  refine vl_val (os_assign rfl) ?_
  refine vl_val (os_assign rfl) ?_
  refine vl_nil ?_
  cases hw : wtOk hs
  · refine v_seq ?_
    refine v_seq ?_
    refine v_region ?_
    refine vl_val (os_move rfl) ?_
    refine vl_val (os_neq rfl rfl) ?_
    refine vl_nil ?_
    refine v_cond_yes rfl (by decide) ?_
    refine v_seq ?_
    refine v_region ?_
    refine vl_val (os_move rfl) ?_
    refine vl_val (os_assign rfl) ?_
    refine vl_val (os_assign rfl) ?_
    refine vl_nil ?_
    refine v_ret ?_
    exact post_ret2 rfl rfl rfl (⟨by simp [meanV, hw, errA], b1⟩)
  · refine v_seq ?_
    refine v_seq ?_
    refine v_region ?_
    refine vl_val (os_move rfl) ?_
    refine vl_val (os_neq rfl rfl) ?_
    refine vl_nil ?_
    refine v_cond_no rfl (by decide) ?_
    have hr := (wtOk_parts hw).2.2
    have hl := rowB_len hr
    refine v_skip ?_
    refine v_seq ?_
    refine v_region ?_
    refine vl_val (os_assign rfl) ?_
    refine vl_nil ?_
    refine v_seq ?_
    refine v_seq ?_
    refine v_region ?_
    refine vl_val (os_assign rfl) ?_
    refine vl_nil ?_
    refine v_block ?_
    refine v_loop [(0, _)] (fun (k : Nat) => [(6, .int .i64 (meanS hs k)), (7, .int .i64 k)]) (fun k w' => k ≤ n ∧ w' = w1) (fun k => n - k) (0) ⟨rfl, trivial⟩ ⟨rfl, rfl, trivial⟩ (⟨by omega, rfl⟩) ?_
    rintro k w1 ⟨hk, rfl⟩
    refine v_seq ?_
    refine v_seq ?_
    refine v_region ?_
    refine vl_val (os_move rfl) ?_
    refine vl_val (os_move rfl) ?_
    refine vl_val (os_len Try.underlying40 rfl) ?_
    refine vl_val (os_lss rfl rfl) ?_
    refine vl_nil ?_
    refine v_cond_d rfl (fun h => ?_) (fun h => ?_)
    · obtain ⟨b, o, rfl, hcc⟩ := (hc.keep b1).at_ (i := k) (by omega)
      have hp := rowB_at hr (k := k) (by omega)
      have hb := meanS_bd hr k (by omega)
      have h3 : 0 ≤ (k : Int) * hs.getD k 0 := Int.mul_nonneg (by omega) hp.1
      have h4 : (k : Int) * hs.getD k 0 ≤ 256 * 65536 := Int.mul_le_mul (by omega) hp.2 hp.1 (by omega)
      refine v_skip ?_
      refine v_seq ?_
      refine v_block ?_
      refine v_region ?_
      refine vl_val (os_move rfl) ?_
      refine vl_val (os_move rfl) ?_
      refine vl_val (os_move rfl) ?_
      refine vl_val (os_move rfl) ?_
      refine vl_val (os_ix Try.underlying40 Try.sizeOf3 rfl rfl (i := k) (by omega) (by omega)) ?_
      refine vl_val (os_load Try.isAgg3 rfl (hcc)) ?_
      refine vl_val (os_mul rfl rfl (i64_fit ⟨by omega, by omega⟩)) ?_
      refine vl_val (os_addi rfl rfl (by omega)) ?_
      refine vl_val (os_assign rfl) ?_
      refine vl_nil ?_
      refine v_region ?_
      refine vl_val (os_move rfl) ?_
      refine vl_val (os_addi rfl rfl (by omega)) ?_
      refine vl_val (os_assign rfl) ?_
      refine vl_nil ?_
      exact ⟨k + 1, ⟨rfl, trivial⟩, ⟨rfl, rfl, trivial⟩, ⟨by omega, rfl⟩, by dsimp only; omega⟩
    · obtain rfl : n = k := by omega
      refine v_exit ?_
      refine v_seq ?_
      refine v_region ?_
      refine vl_val (os_move rfl) ?_
      refine vl_val (os_assign rfl) ?_
      refine vl_val (os_assign rfl) ?_
      refine vl_nil ?_
      refine v_ret ?_
      exact post_ret2 rfl rfl rfl (⟨by rw [hn]; simp [meanV, hw, errA], b1⟩)
theorem r25_Had (A B : Option Addr) (l m c d : Nat) (worths ks : List Int) (came : Int) (w : World) (ha : Rd w .i64 A worths) (hb : Rd w .i64 B ks) (hl : l = worths.length) (hm : m = ks.length) (hl' : l ≤ 9000000000000000) (hm' : m ≤ 9000000000000000) :
    Gives Try.prog 42 #[.slice A l c, .slice B m d, .int .i64 came] w fun v w' => v = .tuple #[.int .i64 (hdV worths ks came), .int .i64 (errA (hdOk worths ks came))] ∧ w' = w := by
  by_cases hbad : worths.length = ks.length ∧ ks.length ≤ 8 ∧ 0 ≤ came ∧ came ≤ 255
  · obtain ⟨e1, e2, e3, e4⟩ := hbad
    have e1' : l = m := by omega
    refine gives_enter Try.call42 Try.func42 rfl rfl rfl (by kernel_rfl) ?_
    refine v_seq ?_
    refine v_region ?_
    refine vl_val (os_assign rfl) ?_
    refine vl_val (os_assign rfl) ?_
    refine vl_nil ?_
    refine v_seq ?_
    refine v_seq ?_
    refine v_region ?_
    refine vl_val (os_move rfl) ?_
    refine vl_val (os_len Try.underlying40 rfl) ?_
    refine vl_val (os_move rfl) ?_
    refine vl_val (os_len Try.underlying40 rfl) ?_
    refine vl_val (os_f (os_neq rfl rfl) (by omega)) ?_
    refine vl_val (os_move rfl) ?_
    refine vl_valg rfl (os_move rfl) ?_
    refine vl_valg rfl (os_len Try.underlying40 rfl) ?_
    refine vl_valg rfl (os_f (os_gtr rfl rfl) (by omega)) ?_
    refine vl_val (os_pick_f rfl rfl) ?_
    refine vl_val (os_move rfl) ?_
    refine vl_valg rfl (os_move rfl) ?_
    refine vl_valg rfl (os_f (os_lss rfl rfl) (by omega)) ?_
    refine vl_val (os_pick_f rfl rfl) ?_
    refine vl_val (os_move rfl) ?_
    refine vl_valg rfl (os_move rfl) ?_
    refine vl_valg rfl (os_gtr rfl rfl) ?_
    refine vl_val (os_pick_f rfl rfl) ?_
    refine vl_nil ?_
    refine v_cond_no rfl (by omega) ?_
    refine v_skip ?_
    refine v_seq ?_
    refine v_region ?_
    refine vl_val (os_assign rfl) ?_
    refine vl_nil ?_
    refine v_seq ?_
    refine v_seq ?_
    refine v_region ?_
    refine vl_val (os_assign rfl) ?_
    refine vl_nil ?_
    refine v_block ?_
    refine v_loop [(0, _), (1, _), (2, _)] (fun (k : Nat) => [(8, .int .i64 (hdSum worths ks came k)), (9, .int .i64 k)]) (fun k w' => k ≤ m ∧ (∀ i, i < k → hdGood worths ks i) ∧ w' = w) (fun k => m - k) (0) ⟨rfl, rfl, rfl, trivial⟩ ⟨rfl, rfl, trivial⟩ (⟨by omega, (by intro i hi; omega), rfl⟩) ?_
    rintro k w ⟨hk, h0, rfl⟩
    refine v_seq ?_
    refine v_seq ?_
    refine v_region ?_
    refine vl_val (os_move rfl) ?_
    refine vl_val (os_move rfl) ?_
    refine vl_val (os_len Try.underlying40 rfl) ?_
    refine vl_val (os_lss rfl rfl) ?_
    refine vl_nil ?_
    refine v_cond_d rfl (fun h => ?_) (fun h => ?_)
    · obtain ⟨b1, o1, rfl, c1⟩ := ha.at_ (i := k) (by omega)
      obtain ⟨b2, o2, rfl, c2⟩ := hb.at_ (i := k) (by omega)
      have hsum := hdSum_bd (worths := worths) (ks := ks) (came := came) k h0
      rcases (by omega : worths.getD k 0 < 0 ∨ (0 ≤ worths.getD k 0 ∧ 1048576 < worths.getD k 0) ∨ ((0 ≤ worths.getD k 0 ∧ worths.getD k 0 ≤ 1048576) ∧ ks.getD k 0 < 1) ∨ ((0 ≤ worths.getD k 0 ∧ worths.getD k 0 ≤ 1048576) ∧ 1 ≤ ks.getD k 0 ∧ 255 < ks.getD k 0) ∨ ((0 ≤ worths.getD k 0 ∧ worths.getD k 0 ≤ 1048576) ∧ 1 ≤ ks.getD k 0 ∧ ks.getD k 0 ≤ 255)) with g | ⟨g, g2⟩ | ⟨g, g2⟩ | ⟨g, g2, g3⟩ | ⟨g, g2, g3⟩
      · refine v_skip ?_
        refine v_seq ?_
        refine v_block ?_
        refine v_seq ?_
        refine v_seq ?_
        refine v_region ?_
        refine vl_val (os_move rfl) ?_
        refine vl_val (os_move rfl) ?_
        refine vl_val (os_ix Try.underlying40 Try.sizeOf3 rfl rfl (i := k) (by omega) (by omega)) ?_
        refine vl_val (os_load Try.isAgg3 rfl (c1)) ?_
        refine vl_val (os_t (os_lss rfl rfl) (by omega)) ?_
        refine vl_val (os_move rfl) ?_
        refine vl_skip rfl rfl ?_
        refine vl_skip rfl rfl ?_
        refine vl_skip rfl rfl ?_
        refine vl_skip rfl rfl ?_
        refine vl_skip rfl rfl ?_
        refine vl_val (os_pick_t rfl rfl) ?_
        refine vl_val (os_move rfl) ?_
        refine vl_skip rfl rfl ?_
        refine vl_skip rfl rfl ?_
        refine vl_skip rfl rfl ?_
        refine vl_skip rfl rfl ?_
        refine vl_skip rfl rfl ?_
        refine vl_val (os_pick_t rfl rfl) ?_
        refine vl_val (os_move rfl) ?_
        refine vl_skip rfl rfl ?_
        refine vl_skip rfl rfl ?_
        refine vl_skip rfl rfl ?_
        refine vl_skip rfl rfl ?_
        refine vl_skip rfl rfl ?_
        refine vl_val (os_pick_t rfl rfl) ?_
        refine vl_nil ?_
        refine v_cond_t rfl ?_
        refine v_seq ?_
        refine v_region ?_
        refine vl_val (os_assign rfl) ?_
        refine vl_val (os_assign rfl) ?_
        refine vl_nil ?_
        refine v_ret ?_
        exact post_ret2 rfl rfl rfl (⟨by rw [hdV, hd_no (i := k) (by omega) (fun h => by unfold hdGood at h; omega)]; rfl, rfl⟩)
      · refine v_skip ?_
        refine v_seq ?_
        refine v_block ?_
        refine v_seq ?_
        refine v_seq ?_
        refine v_region ?_
        refine vl_val (os_move rfl) ?_
        refine vl_val (os_move rfl) ?_
        refine vl_val (os_ix Try.underlying40 Try.sizeOf3 rfl rfl (i := k) (by omega) (by omega)) ?_
        refine vl_val (os_load Try.isAgg3 rfl (c1)) ?_
        refine vl_val (os_f (os_lss rfl rfl) (by omega)) ?_
        refine vl_val (os_move rfl) ?_
        refine vl_valg rfl (os_move rfl) ?_
        refine vl_valg rfl (os_move rfl) ?_
        refine vl_valg rfl (os_ix Try.underlying40 Try.sizeOf3 rfl rfl (i := k) (by omega) (by omega)) ?_
        refine vl_valg rfl (os_load Try.isAgg3 rfl (c1)) ?_
        refine vl_valg rfl (os_t (os_gtr rfl rfl) (by omega)) ?_
        refine vl_val (os_pick_f rfl rfl) ?_
        refine vl_val (os_move rfl) ?_
        refine vl_skip rfl rfl ?_
        refine vl_skip rfl rfl ?_
        refine vl_skip rfl rfl ?_
        refine vl_skip rfl rfl ?_
        refine vl_skip rfl rfl ?_
        refine vl_val (os_pick_t rfl rfl) ?_
        refine vl_val (os_move rfl) ?_
        refine vl_skip rfl rfl ?_
        refine vl_skip rfl rfl ?_
        refine vl_skip rfl rfl ?_
        refine vl_skip rfl rfl ?_
        refine vl_skip rfl rfl ?_
        refine vl_val (os_pick_t rfl rfl) ?_
        refine vl_nil ?_
        refine v_cond_t rfl ?_
        refine v_seq ?_
        refine v_region ?_
        refine vl_val (os_assign rfl) ?_
        refine vl_val (os_assign rfl) ?_
        refine vl_nil ?_
        refine v_ret ?_
        exact post_ret2 rfl rfl rfl (⟨by rw [hdV, hd_no (i := k) (by omega) (fun h => by unfold hdGood at h; omega)]; rfl, rfl⟩)
      · refine v_skip ?_
        refine v_seq ?_
        refine v_block ?_
        refine v_seq ?_
        refine v_seq ?_
        refine v_region ?_
        refine vl_val (os_move rfl) ?_
        refine vl_val (os_move rfl) ?_
        refine vl_val (os_ix Try.underlying40 Try.sizeOf3 rfl rfl (i := k) (by omega) (by omega)) ?_
        refine vl_val (os_load Try.isAgg3 rfl (c1)) ?_
        refine vl_val (os_f (os_lss rfl rfl) (by omega)) ?_
        refine vl_val (os_move rfl) ?_
        refine vl_valg rfl (os_move rfl) ?_
        refine vl_valg rfl (os_move rfl) ?_
        refine vl_valg rfl (os_ix Try.underlying40 Try.sizeOf3 rfl rfl (i := k) (by omega) (by omega)) ?_
        refine vl_valg rfl (os_load Try.isAgg3 rfl (c1)) ?_
        refine vl_valg rfl (os_f (os_gtr rfl rfl) (by omega)) ?_
        refine vl_val (os_pick_f rfl rfl) ?_
        refine vl_val (os_move rfl) ?_
        refine vl_valg rfl (os_move rfl) ?_
        refine vl_valg rfl (os_move rfl) ?_
        refine vl_valg rfl (os_ix Try.underlying40 Try.sizeOf3 rfl rfl (i := k) (by omega) (by omega)) ?_
        refine vl_valg rfl (os_load Try.isAgg3 rfl (c2)) ?_
        refine vl_valg rfl (os_t (os_lss rfl rfl) (by omega)) ?_
        refine vl_val (os_pick_f rfl rfl) ?_
        refine vl_val (os_move rfl) ?_
        refine vl_skip rfl rfl ?_
        refine vl_skip rfl rfl ?_
        refine vl_skip rfl rfl ?_
        refine vl_skip rfl rfl ?_
        refine vl_skip rfl rfl ?_
        refine vl_val (os_pick_t rfl rfl) ?_
        refine vl_nil ?_
        refine v_cond_t rfl ?_
        refine v_seq ?_
        refine v_region ?_
        refine vl_val (os_assign rfl) ?_
        refine vl_val (os_assign rfl) ?_
        refine vl_nil ?_
        refine v_ret ?_
        exact post_ret2 rfl rfl rfl (⟨by rw [hdV, hd_no (i := k) (by omega) (fun h => by unfold hdGood at h; omega)]; rfl, rfl⟩)
      · refine v_skip ?_
        refine v_seq ?_
        refine v_block ?_
        refine v_seq ?_
        refine v_seq ?_
        refine v_region ?_
        refine vl_val (os_move rfl) ?_
        refine vl_val (os_move rfl) ?_
        refine vl_val (os_ix Try.underlying40 Try.sizeOf3 rfl rfl (i := k) (by omega) (by omega)) ?_
        refine vl_val (os_load Try.isAgg3 rfl (c1)) ?_
        refine vl_val (os_f (os_lss rfl rfl) (by omega)) ?_
        refine vl_val (os_move rfl) ?_
        refine vl_valg rfl (os_move rfl) ?_
        refine vl_valg rfl (os_move rfl) ?_
        refine vl_valg rfl (os_ix Try.underlying40 Try.sizeOf3 rfl rfl (i := k) (by omega) (by omega)) ?_
        refine vl_valg rfl (os_load Try.isAgg3 rfl (c1)) ?_
        refine vl_valg rfl (os_f (os_gtr rfl rfl) (by omega)) ?_
        refine vl_val (os_pick_f rfl rfl) ?_
        refine vl_val (os_move rfl) ?_
        refine vl_valg rfl (os_move rfl) ?_
        refine vl_valg rfl (os_move rfl) ?_
        refine vl_valg rfl (os_ix Try.underlying40 Try.sizeOf3 rfl rfl (i := k) (by omega) (by omega)) ?_
        refine vl_valg rfl (os_load Try.isAgg3 rfl (c2)) ?_
        refine vl_valg rfl (os_f (os_lss rfl rfl) (by omega)) ?_
        refine vl_val (os_pick_f rfl rfl) ?_
        refine vl_val (os_move rfl) ?_
        refine vl_valg rfl (os_move rfl) ?_
        refine vl_valg rfl (os_move rfl) ?_
        refine vl_valg rfl (os_ix Try.underlying40 Try.sizeOf3 rfl rfl (i := k) (by omega) (by omega)) ?_
        refine vl_valg rfl (os_load Try.isAgg3 rfl (c2)) ?_
        refine vl_valg rfl (os_gtr rfl rfl) ?_
        refine vl_val (os_pick_f rfl rfl) ?_
        refine vl_nil ?_
        refine v_cond_yes rfl (by omega) ?_
        refine v_seq ?_
        refine v_region ?_
        refine vl_val (os_assign rfl) ?_
        refine vl_val (os_assign rfl) ?_
        refine vl_nil ?_
        refine v_ret ?_
        exact post_ret2 rfl rfl rfl (⟨by rw [hdV, hd_no (i := k) (by omega) (fun h => by unfold hdGood at h; omega)]; rfl, rfl⟩)
      · have hgood : ∀ i, i < k + 1 → hdGood worths ks i := fun i hi => by
          by_cases hik : i < k
          · exact h0 i hik
          · obtain rfl : i = k := by omega
            exact ⟨g.1, g.2, g2, g3⟩
        refine v_skip ?_
        refine v_seq ?_
        refine v_block ?_
        refine v_seq ?_
        refine v_seq ?_
        refine v_region ?_
        refine vl_val (os_move rfl) ?_
        refine vl_val (os_move rfl) ?_
        refine vl_val (os_ix Try.underlying40 Try.sizeOf3 rfl rfl (i := k) (by omega) (by omega)) ?_
        refine vl_val (os_load Try.isAgg3 rfl (c1)) ?_
        refine vl_val (os_f (os_lss rfl rfl) (by omega)) ?_
        refine vl_val (os_move rfl) ?_
        refine vl_valg rfl (os_move rfl) ?_
        refine vl_valg rfl (os_move rfl) ?_
        refine vl_valg rfl (os_ix Try.underlying40 Try.sizeOf3 rfl rfl (i := k) (by omega) (by omega)) ?_
        refine vl_valg rfl (os_load Try.isAgg3 rfl (c1)) ?_
        refine vl_valg rfl (os_f (os_gtr rfl rfl) (by omega)) ?_
        refine vl_val (os_pick_f rfl rfl) ?_
        refine vl_val (os_move rfl) ?_
        refine vl_valg rfl (os_move rfl) ?_
        refine vl_valg rfl (os_move rfl) ?_
        refine vl_valg rfl (os_ix Try.underlying40 Try.sizeOf3 rfl rfl (i := k) (by omega) (by omega)) ?_
        refine vl_valg rfl (os_load Try.isAgg3 rfl (c2)) ?_
        refine vl_valg rfl (os_f (os_lss rfl rfl) (by omega)) ?_
        refine vl_val (os_pick_f rfl rfl) ?_
        refine vl_val (os_move rfl) ?_
        refine vl_valg rfl (os_move rfl) ?_
        refine vl_valg rfl (os_move rfl) ?_
        refine vl_valg rfl (os_ix Try.underlying40 Try.sizeOf3 rfl rfl (i := k) (by omega) (by omega)) ?_
        refine vl_valg rfl (os_load Try.isAgg3 rfl (c2)) ?_
        refine vl_valg rfl (os_gtr rfl rfl) ?_
        refine vl_val (os_pick_f rfl rfl) ?_
        refine vl_nil ?_
        refine v_cond_no rfl (by omega) ?_
        refine v_skip ?_
        refine v_seq ?_
        refine v_region ?_
        refine vl_val (os_move rfl) ?_
        refine vl_val (os_move rfl) ?_
        refine vl_val (os_ix Try.underlying40 Try.sizeOf3 rfl rfl (i := k) (by omega) (by omega)) ?_
        refine vl_val (os_load Try.isAgg3 rfl (c2)) ?_
        refine vl_val (os_move rfl) ?_
        refine vl_val (os_leq rfl rfl) ?_
        refine vl_nil ?_
        refine v_cond_d rfl (fun hk2 => ?_) (fun hk2 => ?_)
        · refine v_region ?_
          refine vl_val (os_move rfl) ?_
          refine vl_val (os_move rfl) ?_
          refine vl_val (os_move rfl) ?_
          refine vl_val (os_ix Try.underlying40 Try.sizeOf3 rfl rfl (i := k) (by omega) (by omega)) ?_
          refine vl_val (os_load Try.isAgg3 rfl (c1)) ?_
          refine vl_val (os_addi rfl rfl (by omega)) ?_
          refine vl_val (os_assign rfl) ?_
          refine vl_nil ?_
          refine v_region ?_
          refine vl_val (os_move rfl) ?_
          refine vl_val (os_addi rfl rfl (by omega)) ?_
          refine vl_val (os_assign rfl) ?_
          refine vl_nil ?_
          exact ⟨k + 1, ⟨rfl, rfl, rfl, trivial⟩, ⟨by simp only [hdSum, hdT]; rw [if_pos hk2]; rfl, rfl, trivial⟩, ⟨by omega, hgood, rfl⟩, by dsimp only; omega⟩
        · refine v_skip ?_
          refine v_region ?_
          refine vl_val (os_move rfl) ?_
          refine vl_val (os_addi rfl rfl (by omega)) ?_
          refine vl_val (os_assign rfl) ?_
          refine vl_nil ?_
          exact ⟨k + 1, ⟨rfl, rfl, rfl, trivial⟩, ⟨by simp only [hdSum, hdT]; rw [if_neg hk2, Int.add_zero]; rfl, rfl, trivial⟩, ⟨by omega, hgood, rfl⟩, by dsimp only; omega⟩
    · obtain rfl : m = k := by omega
      have hok : hdOk worths ks came = true := by simp only [hdOk, Bool.and_eq_true, decide_eq_true_eq]; exact ⟨e1, e2, ⟨e3, e4⟩, fun i hi => h0 i (by omega)⟩
      refine v_exit ?_
      refine v_seq ?_
      refine v_region ?_
      refine vl_val (os_move rfl) ?_
      refine vl_val (os_assign rfl) ?_
      refine vl_val (os_assign rfl) ?_
      refine vl_nil ?_
      refine v_ret ?_
      exact post_ret2 rfl rfl rfl (⟨by rw [hdV, hok, ← hm]; rfl, rfl⟩)
  · have hno : hdOk worths ks came = false := by
      cases h : hdOk worths ks came with
      | false => rfl
      | true =>
        simp only [hdOk, Bool.and_eq_true, decide_eq_true_eq] at h
        exact absurd ⟨h.1, h.2.1, h.2.2.1.1, h.2.2.1.2⟩ hbad
    refine gives_enter Try.call42 Try.func42 rfl rfl rfl (by kernel_rfl) ?_
    rcases (by omega : l ≠ m ∨ (l = m ∧ 8 < m) ∨ (l = m ∧ m ≤ 8 ∧ came < 0) ∨ (l = m ∧ m ≤ 8 ∧ 0 ≤ came ∧ 255 < came)) with g | ⟨g, g2⟩ | ⟨g, g2, g3⟩ | ⟨g, g2, g3, g4⟩
    · refine v_seq ?_
      refine v_region ?_
      refine vl_val (os_assign rfl) ?_
      refine vl_val (os_assign rfl) ?_
      refine vl_nil ?_
      refine v_seq ?_
      refine v_seq ?_
      refine v_region ?_
      refine vl_val (os_move rfl) ?_
      refine vl_val (os_len Try.underlying40 rfl) ?_
      refine vl_val (os_move rfl) ?_
      refine vl_val (os_len Try.underlying40 rfl) ?_
      refine vl_val (os_t (os_neq rfl rfl) (by omega)) ?_
      refine vl_val (os_move rfl) ?_
      refine vl_skip rfl rfl ?_
      refine vl_skip rfl rfl ?_
      refine vl_skip rfl rfl ?_
      refine vl_val (os_pick_t rfl rfl) ?_
      refine vl_val (os_move rfl) ?_
      refine vl_skip rfl rfl ?_
      refine vl_skip rfl rfl ?_
      refine vl_val (os_pick_t rfl rfl) ?_
      refine vl_val (os_move rfl) ?_
      refine vl_skip rfl rfl ?_
      refine vl_skip rfl rfl ?_
      refine vl_val (os_pick_t rfl rfl) ?_
      refine vl_nil ?_
      refine v_cond_t rfl ?_
      refine v_seq ?_
      refine v_region ?_
      refine vl_val (os_assign rfl) ?_
      refine vl_val (os_assign rfl) ?_
      refine vl_nil ?_
      refine v_ret ?_
      exact post_ret2 rfl rfl rfl (⟨by rw [hdV, hno]; rfl, rfl⟩)
    · refine v_seq ?_
      refine v_region ?_
      refine vl_val (os_assign rfl) ?_
      refine vl_val (os_assign rfl) ?_
      refine vl_nil ?_
      refine v_seq ?_
      refine v_seq ?_
      refine v_region ?_
      refine vl_val (os_move rfl) ?_
      refine vl_val (os_len Try.underlying40 rfl) ?_
      refine vl_val (os_move rfl) ?_
      refine vl_val (os_len Try.underlying40 rfl) ?_
      refine vl_val (os_f (os_neq rfl rfl) (by omega)) ?_
      refine vl_val (os_move rfl) ?_
      refine vl_valg rfl (os_move rfl) ?_
      refine vl_valg rfl (os_len Try.underlying40 rfl) ?_
      refine vl_valg rfl (os_t (os_gtr rfl rfl) (by omega)) ?_
      refine vl_val (os_pick_f rfl rfl) ?_
      refine vl_val (os_move rfl) ?_
      refine vl_skip rfl rfl ?_
      refine vl_skip rfl rfl ?_
      refine vl_val (os_pick_t rfl rfl) ?_
      refine vl_val (os_move rfl) ?_
      refine vl_skip rfl rfl ?_
      refine vl_skip rfl rfl ?_
      refine vl_val (os_pick_t rfl rfl) ?_
      refine vl_nil ?_
      refine v_cond_t rfl ?_
      refine v_seq ?_
      refine v_region ?_
      refine vl_val (os_assign rfl) ?_
      refine vl_val (os_assign rfl) ?_
      refine vl_nil ?_
      refine v_ret ?_
      exact post_ret2 rfl rfl rfl (⟨by rw [hdV, hno]; rfl, rfl⟩)
    · refine v_seq ?_
      refine v_region ?_
      refine vl_val (os_assign rfl) ?_
      refine vl_val (os_assign rfl) ?_
      refine vl_nil ?_
      refine v_seq ?_
      refine v_seq ?_
      refine v_region ?_
      refine vl_val (os_move rfl) ?_
      refine vl_val (os_len Try.underlying40 rfl) ?_
      refine vl_val (os_move rfl) ?_
      refine vl_val (os_len Try.underlying40 rfl) ?_
      refine vl_val (os_f (os_neq rfl rfl) (by omega)) ?_
      refine vl_val (os_move rfl) ?_
      refine vl_valg rfl (os_move rfl) ?_
      refine vl_valg rfl (os_len Try.underlying40 rfl) ?_
      refine vl_valg rfl (os_f (os_gtr rfl rfl) (by omega)) ?_
      refine vl_val (os_pick_f rfl rfl) ?_
      refine vl_val (os_move rfl) ?_
      refine vl_valg rfl (os_move rfl) ?_
      refine vl_valg rfl (os_t (os_lss rfl rfl) (by omega)) ?_
      refine vl_val (os_pick_f rfl rfl) ?_
      refine vl_val (os_move rfl) ?_
      refine vl_skip rfl rfl ?_
      refine vl_skip rfl rfl ?_
      refine vl_val (os_pick_t rfl rfl) ?_
      refine vl_nil ?_
      refine v_cond_t rfl ?_
      refine v_seq ?_
      refine v_region ?_
      refine vl_val (os_assign rfl) ?_
      refine vl_val (os_assign rfl) ?_
      refine vl_nil ?_
      refine v_ret ?_
      exact post_ret2 rfl rfl rfl (⟨by rw [hdV, hno]; rfl, rfl⟩)
    · refine v_seq ?_
      refine v_region ?_
      refine vl_val (os_assign rfl) ?_
      refine vl_val (os_assign rfl) ?_
      refine vl_nil ?_
      refine v_seq ?_
      refine v_seq ?_
      refine v_region ?_
      refine vl_val (os_move rfl) ?_
      refine vl_val (os_len Try.underlying40 rfl) ?_
      refine vl_val (os_move rfl) ?_
      refine vl_val (os_len Try.underlying40 rfl) ?_
      refine vl_val (os_f (os_neq rfl rfl) (by omega)) ?_
      refine vl_val (os_move rfl) ?_
      refine vl_valg rfl (os_move rfl) ?_
      refine vl_valg rfl (os_len Try.underlying40 rfl) ?_
      refine vl_valg rfl (os_f (os_gtr rfl rfl) (by omega)) ?_
      refine vl_val (os_pick_f rfl rfl) ?_
      refine vl_val (os_move rfl) ?_
      refine vl_valg rfl (os_move rfl) ?_
      refine vl_valg rfl (os_f (os_lss rfl rfl) (by omega)) ?_
      refine vl_val (os_pick_f rfl rfl) ?_
      refine vl_val (os_move rfl) ?_
      refine vl_valg rfl (os_move rfl) ?_
      refine vl_valg rfl (os_gtr rfl rfl) ?_
      refine vl_val (os_pick_f rfl rfl) ?_
      refine vl_nil ?_
      refine v_cond_yes rfl (by omega) ?_
      refine v_seq ?_
      refine v_region ?_
      refine vl_val (os_assign rfl) ?_
      refine vl_val (os_assign rfl) ?_
      refine vl_nil ?_
      refine v_ret ?_
      exact post_ret2 rfl rfl rfl (⟨by rw [hdV, hno]; rfl, rfl⟩)

set_option maxHeartbeats 8000000 in
theorem law25_HopeTells (A B C : Option Addr) (l m n c d e : Nat) (worths ks hs : List Int) (came : Int) (w : World) (ha : Rd w .i64 A worths) (hb : Rd w .i64 B ks) (hc : Rd w .i64 C hs) (hl : l = worths.length) (hm : m = ks.length) (hn : n = hs.length) (hl' : l ≤ 17592186044416) (hm' : m ≤ 17592186044416) (hn' : n ≤ 17592186044416) (ia : AllI worths) (ib : AllI ks) (ih : AllI hs) (hcm : -9223372036854775808 ≤ came ∧ came ≤ 9223372036854775807) :
    Gives Try.prog 8 #[.slice A l c, .slice B m d, .slice C n e, .int .i64 came] w fun v w' => v = .bool true ∧ Below w.heap.size w w' := by
  refine gives_enter Try.call8 Try.func8 rfl rfl rfl (by kernel_rfl) ?_
  refine v_seq ?_
  refine v_region ?_
  refine vl_val (os_assign rfl) ?_
  refine vl_nil ?_
  refine v_seq ?_
  refine v_seq ?_
  refine v_region ?_
  refine vl_val (os_move rfl) ?_
  refine vl_val (os_len Try.underlying40 rfl) ?_
  refine vl_val (os_move rfl) ?_
  refine vl_val (os_len Try.underlying40 rfl) ?_
  refine vl_val (os_addi rfl rfl (by omega)) ?_
  refine vl_val (os_move rfl) ?_
  refine vl_val (os_len Try.underlying40 rfl) ?_
  refine vl_val (os_addi rfl rfl (by omega)) ?_
  refine vl_val (os_gtr rfl rfl) ?_
  refine vl_nil ?_
  refine v_cond_d rfl (fun hbig => ?_) (fun hbig => ?_)
  · refine v_seq ?_
    refine v_region ?_
    refine vl_call (law25_awake w) rfl ?_
    rintro v1 w1 ⟨rfl, hb1⟩
    refine vl_val (os_assign rfl) ?_
    refine vl_nil ?_
    refine v_ret ?_
    exact post_ret rfl rfl (⟨rfl, hb1⟩)
  · refine v_skip ?_
    refine v_seq ?_
    refine v_region ?_
    refine vl_val (os_move rfl) ?_
    refine vl_call (kit_LentInts A l c worths w ha hl (by omega)) rfl ?_
    rintro v1 w1 ⟨hl1, b1⟩
    obtain ⟨g1, C1, rfl, hC1, hM1, hg1, hg1', rd1⟩ := hl1.form
    refine vl_val (os_move rfl) ?_
    refine vl_call (kit_LentInts B m d ks w1 (hb.keep b1) hm (by omega)) rfl ?_
    rintro v2 w2 ⟨hl2, b12⟩
    obtain ⟨g2, C2, rfl, hC2, hM2, hg2, hg2', rd2⟩ := hl2.form
    have b2 : Below w.heap.size w w2 := b1.trans (b12.mono b1.size)
    refine vl_val (os_move rfl) ?_
    refine vl_call (kit_LentInts C n e hs w2 (hc.keep b2) hn (by omega)) rfl ?_
    rintro v3 w3 ⟨hl3, b23⟩
    obtain ⟨g3, C3, rfl, hC3, hM3, hg3, hg3', rd3⟩ := hl3.form
    have b3 : Below w.heap.size w w3 := b2.trans (b23.mono b2.size)
    have hl1 := (hl1.keep b12).keep b23
    have hl2 := hl2.keep b23
    have rd1 := (rd1.keep b12).keep b23
    have rd2 := rd2.keep b23
    refine vl_val (os_assign rfl) ?_
    refine vl_val (os_assign rfl) ?_
    refine vl_val (os_assign rfl) ?_
    refine vl_nil ?_
    refine v_seq ?_
    refine v_region ?_
    refine vl_val (os_move rfl) ?_
    refine vl_call (hope_Weights (some ⟨g3, 0, none⟩) _ C3 hs w3 rd3 rfl (by omega) ih) rfl ?_
    rintro v4 w4 ⟨u4, rfl, o4, k4⟩
    have q4 := b3.trans (k4.mono b3.size)
    refine vl_val (os_move rfl) ?_
    refine vl_val (os_extract rfl rfl) ?_
    refine vl_val (os_extract rfl rfl) ?_
    refine vl_val (os_assign rfl) ?_
    refine vl_val (os_assign rfl) ?_
    refine vl_nil ?_
    refine v_seq ?_
    refine v_region ?_
    refine vl_val (os_move rfl) ?_
    refine vl_call (r25_Weights C n e hs w4 (hc.keep q4) hn (by omega)) rfl ?_
    rintro v5 w5 ⟨u5, rfl, o5, k45⟩
    have k5 := k4.trans (k45.mono k4.size)
    refine vl_val (os_move rfl) ?_
    refine vl_val (os_extract rfl rfl) ?_
    refine vl_val (os_extract rfl rfl) ?_
    refine vl_val (os_assign rfl) ?_
    refine vl_val (os_assign rfl) ?_
    refine vl_nil ?_
    refine v_seq ?_
    refine v_region ?_
    refine vl_val (os_move rfl) ?_
    refine vl_call (hope_Weights (some ⟨g3, 0, none⟩) _ C3 hs w5 (rd3.keep k5) rfl (by omega) ih) rfl ?_
    rintro v6 w6 ⟨u6, rfl, o6, k56⟩
    have k6 := k5.trans (k56.mono k5.size)
    refine vl_val (os_move rfl) ?_
    refine vl_val (os_extract rfl rfl) ?_
    refine vl_val (os_extract rfl rfl) ?_
    refine vl_val (os_assign rfl) ?_
    refine vl_val (os_assign rfl) ?_
    refine vl_nil ?_
    refine v_seq ?_
    refine v_region ?_
    refine vl_val (os_move rfl) ?_
    refine vl_val (os_move rfl) ?_
    refine vl_val (os_move rfl) ?_
    refine vl_call (hope_Expect (some ⟨g1, 0, none⟩) (some ⟨g2, 0, none⟩) (some ⟨g3, 0, none⟩) _ _ _ C1 C2 C3 worths ks hs w6 (rd1.keep k6) (rd2.keep k6) (rd3.keep k6) rfl rfl rfl (by omega) (by omega) (by omega) ih) rfl ?_
    rintro v7 w7 ⟨rfl, k67⟩
    have k7 := k6.trans (k67.mono k6.size)
    have q7 := b3.trans (k7.mono b3.size)
    refine vl_val (os_move rfl) ?_
    refine vl_val (os_extract rfl rfl) ?_
    refine vl_val (os_extract rfl rfl) ?_
    refine vl_val (os_assign rfl) ?_
    refine vl_val (os_assign rfl) ?_
    refine vl_nil ?_
    refine v_seq ?_
    refine v_region ?_
    refine vl_val (os_move rfl) ?_
    refine vl_val (os_move rfl) ?_
    refine vl_val (os_move rfl) ?_
    refine vl_call (r25_Expect A B C l m n c d e worths ks hs w7 (ha.keep q7) (hb.keep q7) (hc.keep q7) hl hm hn (by omega) (by omega) (by omega)) rfl ?_
    rintro v8 w8 ⟨rfl, k78⟩
    have k8 := k7.trans (k78.mono k7.size)
    refine vl_val (os_move rfl) ?_
    refine vl_val (os_extract rfl rfl) ?_
    refine vl_val (os_extract rfl rfl) ?_
    refine vl_val (os_assign rfl) ?_
    refine vl_val (os_assign rfl) ?_
    refine vl_nil ?_
    refine v_seq ?_
    refine v_region ?_
    refine vl_val (os_move rfl) ?_
    refine vl_call (hope_Mean (some ⟨g3, 0, none⟩) _ C3 hs w8 (rd3.keep k8) rfl (by omega) ih) rfl ?_
    rintro v9 w9 ⟨rfl, k89⟩
    have k9 := k8.trans (k89.mono k8.size)
    have q9 := b3.trans (k9.mono b3.size)
    refine vl_val (os_move rfl) ?_
    refine vl_val (os_extract rfl rfl) ?_
    refine vl_val (os_extract rfl rfl) ?_
    refine vl_val (os_assign rfl) ?_
    refine vl_val (os_assign rfl) ?_
    refine vl_nil ?_
    refine v_seq ?_
    refine v_region ?_
    refine vl_val (os_move rfl) ?_
    refine vl_call (r25_Mean C n e hs w9 (hc.keep q9) hn (by omega)) rfl ?_
    rintro v10 w10 ⟨rfl, k910⟩
    have k10 := k9.trans (k910.mono k9.size)
    refine vl_val (os_move rfl) ?_
    refine vl_val (os_extract rfl rfl) ?_
    refine vl_val (os_extract rfl rfl) ?_
    refine vl_val (os_assign rfl) ?_
    refine vl_val (os_assign rfl) ?_
    refine vl_nil ?_
    refine v_seq ?_
    refine v_region ?_
    refine vl_val (os_move rfl) ?_
    refine vl_val (os_move rfl) ?_
    refine vl_val (os_move rfl) ?_
    refine vl_call (hope_Had (some ⟨g1, 0, none⟩) (some ⟨g2, 0, none⟩) _ _ C1 C2 worths ks came w10 (rd1.keep k10) (rd2.keep k10) rfl rfl (by omega) (by omega) ia ib hcm) rfl ?_
    rintro v11 w11 ⟨rfl, k1011⟩
    have k11 := k10.trans (k1011.mono k10.size)
    have q11 := b3.trans (k11.mono b3.size)
    refine vl_val (os_move rfl) ?_
    refine vl_val (os_extract rfl rfl) ?_
    refine vl_val (os_extract rfl rfl) ?_
    refine vl_val (os_assign rfl) ?_
    refine vl_val (os_assign rfl) ?_
    refine vl_nil ?_
    refine v_seq ?_
    refine v_region ?_
    refine vl_val (os_move rfl) ?_
    refine vl_val (os_move rfl) ?_
    refine vl_val (os_move rfl) ?_
    refine vl_call (r25_Had A B l m c d worths ks came w11 (ha.keep q11) (hb.keep q11) hl hm (by omega) (by omega)) rfl ?_
    rintro v12 w11 ⟨rfl, rfl⟩
    have j411 : Below w4.heap.size w4 w11 := k45.trans ((k56.trans ((k67.trans ((k78.trans ((k89.trans ((k910.trans (k1011.mono k910.size)).mono k89.size)).mono k78.size)).mono k67.size)).mono k56.size)).mono k45.size)
    have j511 : Below w5.heap.size w5 w11 := k56.trans ((k67.trans ((k78.trans ((k89.trans ((k910.trans (k1011.mono k910.size)).mono k89.size)).mono k78.size)).mono k67.size)).mono k56.size)
    have j611 : Below w6.heap.size w6 w11 := k67.trans ((k78.trans ((k89.trans ((k910.trans (k1011.mono k910.size)).mono k89.size)).mono k78.size)).mono k67.size)
    have hwl : (wtV hs).length ≤ 1000 := by unfold wtV; split; (rename_i hh; have := wtOk_parts hh; rw [tails_len]; omega); simp
    have s46 : sep u4 u6 := sep_lt o4 o6 k45.size
    have o4 := Own.keepAll o4 j411
    have o5 := Own.keepAll o5 j511
    have o6 := Own.keepAll o6 j611
    obtain ⟨A4, c4, rfl, _, _, hr4, _⟩ := OwnK.form o4
    obtain ⟨A5, c5, rfl, _, _, hr5, _⟩ := OwnK.form o5
    obtain ⟨A6, c6, rfl, _, _, hr6, _⟩ := OwnK.form o6
    refine vl_val (os_move rfl) ?_
    refine vl_val (os_extract rfl rfl) ?_
    refine vl_val (os_extract rfl rfl) ?_
    refine vl_val (os_assign rfl) ?_
    refine vl_val (os_assign rfl) ?_
    refine vl_nil ?_
    refine v_seq ?_
    refine v_region ?_
    refine vl_val (os_move rfl) ?_
    refine vl_val (os_move rfl) ?_
    refine vl_val (os_t (os_eql rfl rfl) (rfl)) ?_
    refine vl_val (os_move rfl) ?_
    refine vl_valg rfl (os_move rfl) ?_
    refine vl_valg rfl (os_move rfl) ?_
    refine vl_callg rfl ((kit_SameInts A4 A5 _ _ c4 c5 _ _ w11 hr4 hr5 rfl rfl (by omega) (by omega)).mono fun v w' hh => (⟨by rw [hh.1, decide_eq_true rfl], hh.2⟩ : v = .bool true ∧ LeD w11 w')) rfl ?_
    rintro v13 w13 ⟨rfl, d13⟩
    refine vl_val (os_pick_t rfl rfl) ?_
    refine vl_val (os_move rfl) ?_
    refine vl_valg rfl (os_move rfl) ?_
    refine vl_valg rfl (os_move rfl) ?_
    refine vl_valg rfl (os_t (os_eql rfl rfl) (rfl)) ?_
    refine vl_val (os_pick_t rfl rfl) ?_
    refine vl_val (os_move rfl) ?_
    refine vl_valg rfl (os_move rfl) ?_
    refine vl_valg rfl (os_move rfl) ?_
    refine vl_valg rfl (os_t (os_eql rfl rfl) (rfl)) ?_
    refine vl_val (os_pick_t rfl rfl) ?_
    refine vl_val (os_move rfl) ?_
    refine vl_valg rfl (os_move rfl) ?_
    refine vl_valg rfl (os_move rfl) ?_
    refine vl_valg rfl (os_t (os_eql rfl rfl) (rfl)) ?_
    refine vl_val (os_pick_t rfl rfl) ?_
    refine vl_val (os_move rfl) ?_
    refine vl_valg rfl (os_move rfl) ?_
    refine vl_valg rfl (os_move rfl) ?_
    refine vl_valg rfl (os_t (os_eql rfl rfl) (rfl)) ?_
    refine vl_val (os_pick_t rfl rfl) ?_
    refine vl_val (os_move rfl) ?_
    refine vl_valg rfl (os_move rfl) ?_
    refine vl_valg rfl (os_move rfl) ?_
    refine vl_valg rfl (os_t (os_eql rfl rfl) (rfl)) ?_
    refine vl_val (os_pick_t rfl rfl) ?_
    refine vl_val (os_move rfl) ?_
    refine vl_valg rfl (os_move rfl) ?_
    refine vl_valg rfl (os_move rfl) ?_
    refine vl_valg rfl (os_t (os_eql rfl rfl) (rfl)) ?_
    have k13 := k11.trans ((led_below d13).mono k11.size)
    have q13 := b3.trans (k13.mono b3.size)
    refine vl_val (os_pick_t rfl rfl) ?_
    refine vl_val (os_move rfl) ?_
    refine vl_valg rfl (os_move rfl) ?_
    refine vl_valg rfl (os_move rfl) ?_
    refine vl_callg rfl (kit_KeptInts _ _ A l c worths w13 (hl1.keep k13) (ha.keep q13) hl (by omega)) rfl ?_
    rintro v14 w14 ⟨rfl, d14⟩
    have k14 := k13.trans ((led_below d14).mono k13.size)
    have q14 := b3.trans (k14.mono b3.size)
    refine vl_val (os_pick_t rfl rfl) ?_
    refine vl_val (os_move rfl) ?_
    refine vl_valg rfl (os_move rfl) ?_
    refine vl_valg rfl (os_move rfl) ?_
    refine vl_callg rfl (kit_KeptInts _ _ B m d ks w14 (hl2.keep k14) (hb.keep q14) hm (by omega)) rfl ?_
    rintro v15 w15 ⟨rfl, d15⟩
    have k15 := k14.trans ((led_below d15).mono k14.size)
    have q15 := b3.trans (k15.mono b3.size)
    refine vl_val (os_pick_t rfl rfl) ?_
    refine vl_val (os_move rfl) ?_
    refine vl_valg rfl (os_move rfl) ?_
    refine vl_valg rfl (os_move rfl) ?_
    refine vl_callg rfl (kit_KeptInts _ _ C n e hs w15 (hl3.keep k15) (hc.keep q15) hn (by omega)) rfl ?_
    rintro v16 w16 ⟨rfl, d16⟩
    have d1116 := lee_d.trans (lee_d.trans (lee_d.trans d13 d14) d15) d16
    have k16 := k15.trans ((led_below d16).mono k15.size)
    have q16 := b3.trans (k16.mono b3.size)
    obtain ⟨wa, hwa⟩ : ∃ wa, wa = w16.alloc (.cells #[.slice A4 (wtV hs).length c4, .slice A6 (wtV hs).length c6, .slice (some ⟨g3, 0, none⟩) hs.length C3] 40) := ⟨_, rfl⟩
    have ba : Below w16.heap.size w16 wa := by rw [hwa]; exact (Below.refl _ _).alloc (Nat.le_refl _) _
    have rdl := rdc_alloc w16 [.slice A4 (wtV hs).length c4, .slice A6 (wtV hs).length c6, .slice (some ⟨g3, 0, none⟩) hs.length C3] 40
    change RdC (w16.alloc (.cells #[.slice A4 (wtV hs).length c4, .slice A6 (wtV hs).length c6, .slice (some ⟨g3, 0, none⟩) hs.length C3] 40)) _ _ at rdl
    rw [← hwa] at rdl
    obtain ⟨ds, hds, od⟩ : ∃ ds : List Value, ds.length = hs.length ∧ Own wa w2.heap.size 3 (.slice (some ⟨g3, 0, none⟩) hs.length C3) ds := by
      obtain ⟨g', C', e', hc', ho'⟩ := (hl3.keep k16).keep ba
      cases e'
      exact Own.stretch ho' (by omega)
    have hown := all3 (P := fun j v => Own wa w2.heap.size 3 v ([(wtV hs).map (Value.int .i64), (wtV hs).map (Value.int .i64), ds].getD j [])) (((Own.led o4 d1116).keepAll ba).mono b23.size) (((Own.led o6 d1116).keepAll ba).mono (by have := k5.size; have := b23.size; omega)) od
    have s43 : sep (.slice A4 (wtV hs).length c4) (.slice (some ⟨g3, 0, none⟩) hs.length C3) := fun x hx e => by have h1 := (World.ownsRow.lt o4 x hx).1; have h2 : x = g3 := (by simpa [Value.ownBlock] using e.symm); omega
    have s63 : sep (.slice A6 (wtV hs).length c6) (.slice (some ⟨g3, 0, none⟩) hs.length C3) := fun x hx e => by have h1 := (World.ownsRow.lt o6 x hx).1; have h2 : x = g3 := (by simpa [Value.ownBlock] using e.symm); have := k5.size; omega
    refine vl_val (os_pick_t rfl rfl) ?_
    refine vl_val (os_move rfl) ?_
    refine vl_valg rfl (os_move rfl) ?_
    refine vl_valg rfl (os_move rfl) ?_
    refine vl_valg rfl (os_move rfl) ?_
    refine vl_valg rfl (os_lit Try.underlying70 Try.sizeOf40 Try.zeroValue40 rfl rfl rfl rfl (by decide)) ?_
    rw [← hwa]
    refine vl_callg rfl (kit_ApartInts (some ⟨w16.heap.size, 0, none⟩) 3 3 w2.heap.size [.slice A4 (wtV hs).length c4, .slice A6 (wtV hs).length c6, .slice (some ⟨g3, 0, none⟩) hs.length C3] (fun j => ([(wtV hs).map (Value.int .i64), (wtV hs).map (Value.int .i64), ds].getD j []).length) (fun j => [(wtV hs).map (Value.int .i64), (wtV hs).map (Value.int .i64), ds].getD j []) wa rdl rfl (by omega) hown (sep3 s46 s43 s63) (fun j _ => rfl) (nat3 (by simp; omega) (by simp; omega) (by simp [hds]; omega)) (by have := ba.size; have := k16.size; have := b23.size; omega)) rfl ?_
    rintro v17 w17 ⟨rfl, kb17⟩
    have j16 : Below w2.heap.size w2 w16 := b23.trans (k16.mono b23.size)
    have j17 : Below w2.heap.size w2 wa := j16.trans (ba.mono j16.size)
    have k17 : Below w2.heap.size w2 w17 := kb17.below j17 (own_low hown) j17.size
    have b17 : Below w.heap.size w w17 := b2.trans (k17.mono b2.size)
    refine vl_val (os_pick_t rfl rfl) ?_
    refine vl_val (os_move rfl) ?_
    refine vl_callg rfl (law25_awake w17) rfl ?_
    rintro v18 w18 ⟨rfl, hb18⟩
    refine vl_val (os_pick_t rfl rfl) ?_
    refine vl_val (os_assign rfl) ?_
    refine vl_nil ?_
    refine v_ret ?_
    exact post_ret rfl rfl (⟨rfl, b17.trans (hb18.mono b17.size)⟩)
end Go.Proofs.Ytpjmiafefammkaa

/- slices.Clone of bytes. -/
namespace Go.Proofs.Ytpjmiafefammkaa
open Go.RowKit
set_option linter.unusedVariables false

section
variable {P : Program} {n : Cx} {fr : Fr} {w w' : World} {ty : TypeId} {x y z : Operand} {v u : Value} {T T2 e : TypeId} {op : Op}
theorem os_eqlsnil {A : Option Addr} {l c : Nat} (hT : P.underlying T = some (.slice e)) (hx : Fr.ev fr x = some (.slice A l c)) (hy : Fr.ev fr y = some (.slice none 0 0)) : OS P n (.binOp .eql T x y T2) ty fr w (.bool A.isNone) w := os_of fun a ha => by
  simp [execOp, ha.ev hx, ha.ev hy, eqGuard, Lib.run_eql_slice_nil w T e A l c 0 0 hT]
end

end Go.Proofs.Ytpjmiafefammkaa

/- In a region that draws: a call of which several arguments bear facts. No program in sight. -/
namespace Go.Proofs.Ytpjmiafefammkaa
open Go.RowKit
set_option linter.unusedVariables false

def FactsIn (ts : Ts) (look : List Nat) : List (Nat × Fact) → Prop
  | [] => True
  | (t, T) :: r => (Ts.get ts t = some T ∧ look.contains t = true) ∧ FactsIn ts look r
def AllU (K : Fr → Prop) (w : World) : List (Nat × Fact) → Fr → Prop
  | [], fr => K fr
  | (t, T) :: r, fr => ∀ u, T u w → AllU K w r ((t, u) :: fr)
theorem allU_ag {K : Fr → Prop} {n : Cx} {w : World} {a : Act} {ts : Ts} {look : List Nat} (hfs : ∀ t ∈ look, ∀ T, Ts.get ts t = some T → ∃ u, a.tmps[t]? = some u ∧ T u w) : ∀ (sl : List (Nat × Fact)) (fr : Fr), FactsIn ts look sl → AllU K w sl fr → Ag n fr a → ∃ fr', Ag n fr' a ∧ K fr'
  | [], fr, _, h, ha => ⟨fr, ha, h⟩
  | (t, T) :: r, fr, hs, h, ha => by
    obtain ⟨⟨h1, h2⟩, h3⟩ := hs
    obtain ⟨u, hu, hTu⟩ := hfs t (by simpa using h2) T h1
    refine allU_ag hfs r ((t, u) :: fr) h3 (h u hTu) ⟨ha.defers, ha.size, fun s x hs => ?_⟩
    simp only [Fr.get] at hs
    cases hb : Nat.beq t s with
    | true =>
      rw [hb] at hs
      have hts : t = s := Nat.eq_of_beq_eq_true hb
      subst hts
      rw [← hs]; exact hu
    | false => rw [hb] at hs; exact ha.at_ s x hs

section
variable {P : Program} {n : Cx} {all rest : List Oper} {le : World → World → Prop} {w0 w : World} {fr : Fr} {ts : Ts} {Q : Exit → Fr → World → Prop} {d : Nat} {op : Op} {ty : TypeId} {pos : String} {aft : Array Edge} {gw : World → Prop}
theorem vt_calls {g : Option (Nat × Bool)} {f : FuncId} {xs : List Operand} {tt : Array TypeId} (sl : List (Nat × Fact)) (v : Value)
    (hs : FactsIn ts (Oper.looksAt all.toArray ⟨some d, .call ⟨.value (.func f), xs.toArray, tt⟩, ty, pos, aft, g⟩) sl)
    (h : ∀ w, le w0 w → AllU (fun fr' => ∃ args, evL fr' xs = some args ∧ Gives P f args.toArray w (fun v' w' => v' = v ∧ le w w')) w sl fr) (k : VT P n all le w0 rest ((d, v) :: fr) ts Q gw) (hg : GOk all fr g := by first | exact True.intro | rfl)
    (hcl : clean fr ts all ⟨some d, .call ⟨.value (.func f), xs.toArray, tt⟩, ty, pos, aft, g⟩ = true := by rfl) (hts : Ts.get ts d = none := by rfl) :
    VT P n all le w0 (⟨some d, .call ⟨.value (.func f), xs.toArray, tt⟩, ty, pos, aft, g⟩ :: rest) fr ts Q gw := by
  unfold VT at k ⊢
  intro hle hok hlt htn
  obtain ⟨h1, h2⟩ := dst_lt hok rfl
  refine vt_gen (stable_eq le v) hcl htn (fun a w ha hlw hfs => ?_) (by show VTL _ _ _ _ _ _ _ (ext (lf fr ts) (some d) _) gw; rw [lf_cons hts]; exact k hle h2 (hlt.cons h1 v) htn) hlt
  rw [hg.wanted ha, if_pos rfl]
  obtain ⟨fr', ha2, args, hx, hgv⟩ := allU_ag hfs sl fr hs (h w hlw) ha
  unfold Oper.wp
  unfold Gives at hgv
  rw [execOp_bare, run_callee (first := #[]) (cap := #[]) hgv.1 rfl hx ha2]
  simp only [Array.append_empty, Array.empty_append]
  refine hgv.2.mono ?_
  rintro e w' ⟨v', rfl, h1, h2⟩
  exact ⟨v', rfl, h2, h1⟩
/-- a call, whatever its guard, of whose value a fact is known -/
theorem vt_callfg {g : Option (Nat × Bool)} {f : FuncId} {xs : List Operand} {tt : Array TypeId} {args : List Value} (U : Fact) (hU : Stable le U) (h : ∀ w, le w0 w → Gives P f args.toArray w (fun v w' => le w w' ∧ U v w')) (hx : evL fr xs = some args) (k : VT P n all le w0 rest fr ((d, U) :: ts) Q gw)
    (hg : GOk all fr g := by first | exact True.intro | rfl) (hcl : clean fr ts all ⟨some d, .call ⟨.value (.func f), xs.toArray, tt⟩, ty, pos, aft, g⟩ = true := by rfl) : VT P n all le w0 (⟨some d, .call ⟨.value (.func f), xs.toArray, tt⟩, ty, pos, aft, g⟩ :: rest) fr ts Q gw := by
  unfold VT at k ⊢
  intro hle hok hlt htn
  obtain ⟨h1, h2⟩ := dst_lt hok rfl
  refine vt_callx (first := #[]) (cap := #[]) hU rfl hx (fun w hw => ?_) hcl (fun a ha => hg.wanted ha) hlt htn (by rw [lf_fact]; exact k hle h2 hlt (ts_keep htn h1 U))
  simp only [Array.append_empty, Array.empty_append]
  exact h w hw
/-- a call of which several arguments bear facts, of whose value a fact is known -/
theorem vt_callsg {g : Option (Nat × Bool)} {f : FuncId} {xs : List Operand} {tt : Array TypeId} (sl : List (Nat × Fact)) (U : Fact) (hU : Stable le U)
    (hs : FactsIn ts (Oper.looksAt all.toArray ⟨some d, .call ⟨.value (.func f), xs.toArray, tt⟩, ty, pos, aft, g⟩) sl)
    (h : ∀ w, le w0 w → AllU (fun fr' => ∃ args, evL fr' xs = some args ∧ Gives P f args.toArray w (fun v' w' => le w w' ∧ U v' w')) w sl fr) (k : VT P n all le w0 rest fr ((d, U) :: ts) Q gw) (hg : GOk all fr g := by first | exact True.intro | rfl)
    (hcl : clean fr ts all ⟨some d, .call ⟨.value (.func f), xs.toArray, tt⟩, ty, pos, aft, g⟩ = true := by rfl) :
    VT P n all le w0 (⟨some d, .call ⟨.value (.func f), xs.toArray, tt⟩, ty, pos, aft, g⟩ :: rest) fr ts Q gw := by
  unfold VT at k ⊢
  intro hle hok hlt htn
  obtain ⟨h1, h2⟩ := dst_lt hok rfl
  refine vt_gen hU hcl htn (fun a w ha hlw hfs => ?_) (by show VTL _ _ _ _ _ _ _ (ext (lf fr ts) (some d) _) gw; rw [lf_fact]; exact k hle h2 hlt (ts_keep htn h1 U)) hlt
  rw [hg.wanted ha, if_pos rfl]
  obtain ⟨fr', ha2, args, hx, hgv⟩ := allU_ag hfs sl fr hs (h w hlw) ha
  unfold Oper.wp
  unfold Gives at hgv
  rw [execOp_bare, run_callee (first := #[]) (cap := #[]) hgv.1 rfl hx ha2]
  simp only [Array.append_empty, Array.empty_append]
  refine hgv.2.mono ?_
  rintro e w' ⟨v', rfl, h1, h2⟩
  exact ⟨v', rfl, h1, h2⟩
/-- an operation, whatever its guard, that looks at a slot of which a fact is known -/
theorem vt_useg {g : Option (Nat × Bool)} (t : Nat) {T : Fact} (hT : Ts.get ts t = some T) (U : Fact) (hU : Stable le U) (h : ∀ u w, le w0 w → T u w → OT P n op ty ((t, u) :: fr) w (fun v w' => le w w' ∧ U v w')) (k : VT P n all le w0 rest fr ((d, U) :: ts) Q gw)
    (hg : GOk all fr g := by first | exact True.intro | rfl) (ht : (Oper.looksAt all.toArray ⟨some d, op, ty, pos, aft, g⟩).contains t = true := by rfl) (hcl : clean fr ts all ⟨some d, op, ty, pos, aft, g⟩ = true := by rfl) : VT P n all le w0 (⟨some d, op, ty, pos, aft, g⟩ :: rest) fr ts Q gw := by
  unfold VT at k ⊢
  intro hle hok hlt htn
  obtain ⟨h1, h2⟩ := dst_lt hok rfl
  refine vt_run hU hcl hlt htn (fun a ha => hg.wanted ha) (fun a w ha hlw hfs => ?_) (by rw [lf_fact]; exact k hle h2 hlt (ts_keep htn h1 U))
  obtain ⟨u, hu, hTu⟩ := hfs t (by simpa using ht) T hT
  have := h u w hlw hTu
  unfold OT at this
  refine this a ⟨ha.defers, ha.size, fun s x hs => ?_⟩
  simp only [Fr.get] at hs
  cases hb : Nat.beq t s with
  | true =>
    rw [hb] at hs
    have hts : t = s := Nat.eq_of_beq_eq_true hb
    subst hts
    rw [← hs]; exact hu
  | false => rw [hb] at hs; exact ha.at_ s x hs
end
/-- a list of numbers that a region lays -/
def IsRow (k : IntKind) (zs : List Int) : Fact := fun v w => ∃ A c, v = .slice A zs.length c ∧ Rd w k A zs
theorem isRow_stable (k : IntKind) (zs : List Int) : Stable LeG (IsRow k zs) := fun v w w' h ⟨A, c, e, r⟩ => ⟨A, c, e, r.keep h⟩
theorem isRow_lit (k : IntKind) (w : World) (zs : List Int) (e : TypeId) : LeG w (w.alloc (.cells (zs.map (Value.int k)).toArray e)) ∧ IsRow k zs (.slice (some ⟨w.heap.size, 0, none⟩) zs.length zs.length) (w.alloc (.cells (zs.map (Value.int k)).toArray e)) :=
  ⟨(Below.refl _ _).alloc (Nat.le_refl _) _, _, _, rfl, rd_alloc w k zs e⟩
end Go.Proofs.Ytpjmiafefammkaa

/- A pointer held against nil. No program in sight. -/
namespace Go.Proofs.Ytpjmiafefammkaa
open Go.RowKit
set_option linter.unusedVariables false
section
variable {P : Program} {n : Cx} {fr : Fr} {w w' : World} {ty : TypeId} {x y z : Operand} {v u : Value} {T T2 e : TypeId} {op : Op}
theorem os_eqlnil {A : Option Addr} (hT : P.underlying T = some (.pointer (P.pointee T))) (hx : Fr.ev fr x = some (.pointer A)) (hy : Fr.ev fr y = some (.pointer none)) : OS P n (.binOp .eql T x y T2) ty fr w (.bool A.isNone) w := os_of fun a ha => by
  simp [execOp, ha.ev hx, ha.ev hy, eqGuard, run_eql_pointer_nil w T A hT]
theorem os_neqnil {A : Option Addr} (hT : P.underlying T = some (.pointer (P.pointee T))) (hx : Fr.ev fr x = some (.pointer A)) (hy : Fr.ev fr y = some (.pointer none)) : OS P n (.binOp .neq T x y T2) ty fr w (.bool (!A.isNone)) w := os_of fun a ha => by
  simp [execOp, ha.ev hx, ha.ev hy, eqGuard, run_neq_pointer_nil w T A hT]

end
end Go.Proofs.Ytpjmiafefammkaa

/- Layer 24: no guesser. -/
namespace Go.Proofs.Ytpjmiafefammkaa
open Go.RowKit
set_option linter.unusedVariables false

theorem guess_made_nil (w : World) : Gives Try.prog 58 #[.pointer none] w fun v w' => v = .bool false ∧ w' = w := by
  refine gives_enter Try.call58 Try.func58 rfl rfl rfl (by kernel_rfl) ?_
  refine v_seq ?_
  refine v_region ?_
  refine vl_val (os_assign rfl) ?_
  refine vl_nil ?_
  refine v_seq ?_
  refine v_region ?_
  refine vl_val (os_move rfl) ?_
  refine vl_val (os_is (os_neqnil (by kernel_rfl) rfl rfl) (rfl)) ?_
  refine vl_val (os_move rfl) ?_
  refine vl_skip rfl rfl ?_
  refine vl_skip rfl rfl ?_
  refine vl_skip rfl rfl ?_
  refine vl_skip rfl rfl ?_
  refine vl_skip rfl rfl ?_
  refine vl_val (os_pick_f rfl rfl) ?_
  refine vl_val (os_assign rfl) ?_
  refine vl_nil ?_
  refine v_ret ?_
  exact post_ret rfl rfl (⟨rfl, rfl⟩)
theorem guess_made0 (g : Nat) (w : World) (h : w.cell? ⟨g, 0 + 257, none⟩ = some (.int .i64 0)) : Gives Try.prog 58 #[.pointer (some ⟨g, 0, none⟩)] w fun v w' => v = .bool false ∧ w' = w := by
  refine gives_enter Try.call58 Try.func58 rfl rfl rfl (by kernel_rfl) ?_
  refine v_seq ?_
  refine v_region ?_
  refine vl_val (os_assign rfl) ?_
  refine vl_nil ?_
  refine v_seq ?_
  refine v_region ?_
  refine vl_val (os_move rfl) ?_
  refine vl_val (os_is (os_neqnil (by kernel_rfl) rfl rfl) (rfl)) ?_
  refine vl_val (os_move rfl) ?_
  refine vl_valg rfl (os_move rfl) ?_
  refine vl_valg rfl (os_nilCheck rfl) ?_
  refine vl_valg rfl (os_fa (o := 257) (k := 0) (by kernel_rfl) rfl) ?_
  refine vl_valg rfl (os_load Try.isAgg3 rfl (h)) ?_
  refine vl_valg rfl (os_gtr rfl rfl) ?_
  refine vl_val (os_pick_t rfl rfl) ?_
  refine vl_val (os_assign rfl) ?_
  refine vl_nil ?_
  refine v_ret ?_
  exact post_ret rfl rfl (⟨rfl, rfl⟩)
theorem guess_Parts0 (p : Option Addr) (w : World) (h : Gives Try.prog 58 #[.pointer p] w fun v w' => v = .bool false ∧ w' = w) : Gives Try.prog 25 #[.pointer p] w fun v w' => v = .slice none 0 0 ∧ w' = w := by
  refine gives_enter Try.call25 Try.func25 rfl rfl rfl (by kernel_rfl) ?_
  refine v_seq ?_
  refine v_region ?_
  refine vl_val (os_assign rfl) ?_
  refine vl_nil ?_
  refine v_seq ?_
  refine v_seq ?_
  refine v_region ?_
  refine vl_val (os_move rfl) ?_
  refine vl_call (h) rfl ?_
  rintro v w ⟨rfl, rfl⟩
  refine vl_val (os_not rfl) ?_
  refine vl_nil ?_
  refine v_cond_t rfl ?_
  refine v_seq ?_
  refine v_region ?_
  refine vl_val (os_assign rfl) ?_
  refine vl_nil ?_
  refine v_ret ?_
  exact post_ret rfl rfl (⟨rfl, rfl⟩)
end Go.Proofs.Ytpjmiafefammkaa
