/- Layer 25: the walk of HopeMeans. -/
import Derived.Test.YtpjmiafefammkaaHpN
namespace Go.Proofs.Ytpjmiafefammkaa
open Go.RowKit
set_option linter.unusedVariables false

set_option maxHeartbeats 4000000 in
theorem law25_HopeMeans (A B C : Option Addr) (l m n c d e : Nat) (worths ks hs : List Int) (w : World) (ha : Rd w .i64 A worths) (hb : Rd w .i64 B ks) (hc : Rd w .i64 C hs) (hl : l = worths.length) (hm : m = ks.length) (hn : n = hs.length) (hl' : l ≤ 17592186044416) (hm' : m ≤ 17592186044416) (hn' : n ≤ 17592186044416) (ia : AllI worths) (ib : AllI ks) (ih : AllI hs) :
    Gives Try.prog 9 #[.slice A l c, .slice B m d, .slice C n e] w fun v w' => v = .bool true ∧ Below w.heap.size w w' := by
  refine gives_enter Try.call9 Try.func9 rfl rfl rfl (by kernel_rfl) ?_
  refine v_seq ?_
  refine v_region ?_
  refine vl_val (os_assign rfl) ?_
  refine vl_nil ?_
  refine v_seq ?_
  refine v_seq ?_
  refine v_region ?_
  refine vl_call (law25_awake w) rfl ?_
  rintro v1 w1 ⟨rfl, b1⟩
  refine vl_val (os_not rfl) ?_
  refine vl_nil ?_
  refine v_cond_f rfl ?_
  refine v_skip ?_
  refine v_seq ?_
  refine v_seq ?_
  refine v_region ?_
  refine vl_val (os_move rfl) ?_
  refine vl_val (os_len Try.underlying40 rfl) ?_
  refine vl_val (os_move rfl) ?_
  refine vl_val (os_len Try.underlying40 rfl) ?_
  refine vl_val (os_addi rfl rfl (by omega)) ?_
  refine vl_val (os_move rfl) ?_
  refine vl_val (os_len Try.underlying40 rfl) ?_
  refine vl_val (os_addi rfl rfl (by omega)) ?_
  refine vl_val (os_gtr rfl rfl) ?_
  refine vl_nil ?_
  refine v_cond_d rfl (fun hbig => ?_) (fun hbig => ?_)
  · refine v_seq ?_
    refine v_region ?_
    refine vl_val (os_assign rfl) ?_
    refine vl_nil ?_
    refine v_ret ?_
    exact post_ret rfl rfl (⟨rfl, b1⟩)
  · refine v_skip ?_
    refine v_seq ?_
    refine v_region ?_
    refine vl_val (os_move rfl) ?_
    refine vl_call (hope_Weights C n e hs w1 (hc.keep b1) hn (by omega) ih) rfl ?_
    rintro v2 w2 ⟨u, rfl, o2, b12⟩
    obtain ⟨A2, c2, rfl, _, _, r2, _⟩ := OwnK.form o2
    have b2 := b1.trans (b12.mono b1.size)
    refine vl_val (os_move rfl) ?_
    refine vl_val (os_extract rfl rfl) ?_
    refine vl_val (os_extract rfl rfl) ?_
    refine vl_val (os_assign rfl) ?_
    refine vl_val (os_assign rfl) ?_
    refine vl_nil ?_
    refine v_seq ?_
    refine v_region ?_
    refine vl_val (os_move rfl) ?_
    refine vl_val (os_move rfl) ?_
    refine vl_val (os_move rfl) ?_
    refine vl_call (hope_Expect A B C l m n c d e worths ks hs w2 (ha.keep b2) (hb.keep b2) (hc.keep b2) hl hm hn (by omega) (by omega) (by omega) ih) rfl ?_
    rintro v3 w3 ⟨rfl, b23⟩
    have b3 := b2.trans (b23.mono b2.size)
    refine vl_val (os_move rfl) ?_
    refine vl_val (os_extract rfl rfl) ?_
    refine vl_val (os_extract rfl rfl) ?_
    refine vl_val (os_assign rfl) ?_
    refine vl_val (os_assign rfl) ?_
    refine vl_nil ?_
    refine v_seq ?_
    refine v_region ?_
    refine vl_val (os_move rfl) ?_
    refine vl_call (hope_Mean C n e hs w3 (hc.keep b3) hn (by omega) ih) rfl ?_
    rintro v4 w4 ⟨rfl, b34⟩
    have b4 := b3.trans (b34.mono b3.size)
    have r4 := (r2.keep b23).keep b34
    refine vl_val (os_move rfl) ?_
    refine vl_val (os_extract rfl rfl) ?_
    refine vl_val (os_extract rfl rfl) ?_
    refine vl_val (os_assign rfl) ?_
    refine vl_val (os_assign rfl) ?_
    refine vl_nil ?_
    cases hw : wtOk hs
    · have hx0 := exOk_false (worths := worths) (ks := ks) hw
      have hwv : wtV hs = [] := by simp [wtV, hw]
      rw [show exV worths ks hs = 0 by simp [exV, hx0], show meanV hs = 0 by simp [meanV, hw]]
      refine v_seq ?_
      refine v_seq ?_
      refine v_region ?_
      refine vl_val (os_move rfl) ?_
      refine vl_val (os_neq rfl rfl) ?_
      refine vl_nil ?_
      refine v_cond_yes rfl (by decide) ?_
      refine v_seq ?_
      refine v_region ?_
      refine vl_val (os_move rfl) ?_
      refine vl_val (os_t (os_eql rfl rfl) (by decide)) ?_
      refine vl_val (os_move rfl) ?_
      refine vl_valg rfl (os_move rfl) ?_
      refine vl_valg rfl (os_move rfl) ?_
      refine vl_valg rfl (os_t (os_eql rfl rfl) (by rw [hx0])) ?_
      refine vl_val (os_pick_t rfl rfl) ?_
      refine vl_val (os_move rfl) ?_
      refine vl_valg rfl (os_move rfl) ?_
      refine vl_valg rfl (os_move rfl) ?_
      refine vl_valg rfl (os_t (os_eql rfl rfl) (rfl)) ?_
      refine vl_val (os_pick_t rfl rfl) ?_
      refine vl_val (os_move rfl) ?_
      refine vl_valg rfl (os_move rfl) ?_
      refine vl_valg rfl (os_len Try.underlying40 rfl) ?_
      refine vl_valg rfl (os_t (os_eql rfl rfl) (by rw [hwv]; rfl)) ?_
      refine vl_val (os_pick_t rfl rfl) ?_
      refine vl_val (os_move rfl) ?_
      refine vl_valg rfl (os_move rfl) ?_
      refine vl_valg rfl (os_move rfl) ?_
      refine vl_valg rfl (os_addi rfl rfl (by omega)) ?_
      refine vl_valg rfl (os_eql rfl rfl) ?_
      refine vl_val (os_pick_t rfl rfl) ?_
      refine vl_val (os_assign rfl) ?_
      refine vl_nil ?_
      refine v_ret ?_
      exact post_ret rfl rfl (⟨rfl, b4⟩)
    · refine v_seq ?_
      refine v_seq ?_
      refine v_region ?_
      refine vl_val (os_move rfl) ?_
      refine vl_val (os_neq rfl rfl) ?_
      refine vl_nil ?_
      refine v_cond_no rfl (by decide) ?_
      obtain ⟨w1', w2', hr⟩ := wtOk_parts hw
      rw [wtV_ok hw] at r4 ⊢
      have htl := tails_len hs
      have hright := tails_right hw
      have hwb := right_bd hright
      refine v_skip ?_
      refine v_seq ?_
      refine v_region ?_
      refine vl_val (os_assign rfl) ?_
      refine vl_val (os_assign rfl) ?_
      refine vl_val (os_assign rfl) ?_
      refine vl_nil ?_
      refine v_seq ?_
      refine v_seq ?_
      refine v_region ?_
      refine vl_val (os_assign rfl) ?_
      refine vl_nil ?_
      refine v_block ?_
      refine v_loop [(0, _), (1, _), (2, _), (7, _), (9, _), (10, _), (11, _), (12, _)] (fun (r : Nat) => [(13, .int .i64 (sumF (fun r => hs.getD r 0) r)), (14, .int .i64 (meanT worths ks hs r)), (15, .int .i64 (tailT (tailsL hs) r)), (16, .int .i64 r)]) (fun r w' => r ≤ n ∧ Below w4.heap.size w4 w') (fun r => n - r) (0) ⟨rfl, rfl, rfl, rfl, rfl, rfl, rfl, rfl, trivial⟩ ⟨rfl, rfl, rfl, rfl, trivial⟩ (⟨by omega, Below.refl _ _⟩) ?_
      rintro r w5 ⟨hr5, b45⟩
      have s1 := sumF_bd (f := fun r => hs.getD r 0) (m := 65536) r (fun k hk => rowB_at hr (by omega))
      have s2 := sumF_bd (f := fun r => if 0 < r then (tailsL hs).getD r 0 else 0) (m := 65536) r (fun k hk => by by_cases h0 : 0 < k; (simp only [if_pos h0]; exact hwb k (by omega)); (simp only [if_neg h0]; omega))
      have s3 := sumF_bd (f := fun r => if hdOk worths ks r then hs.getD r 0 * hdV worths ks r else 0) (m := 65536 * 8388608) r (fun k hk => by have h1 := rowB_at hr (k := k) (by omega); have h2 := hdV_bd worths ks k; by_cases h0 : hdOk worths ks k = true; (simp only [if_pos h0]; exact ⟨Int.mul_nonneg h1.1 h2.1, Int.mul_le_mul h1.2 h2.2 h2.1 (by omega)⟩); (simp only [if_neg h0]; omega))
      change 0 ≤ tailT (tailsL hs) r ∧ tailT (tailsL hs) r ≤ _ at s2
      change 0 ≤ meanT worths ks hs r ∧ meanT worths ks hs r ≤ _ at s3
      have b5 := b4.trans (b45.mono b4.size)
      refine v_seq ?_
      refine v_seq ?_
      refine v_region ?_
      refine vl_val (os_move rfl) ?_
      refine vl_val (os_move rfl) ?_
      refine vl_val (os_len Try.underlying40 rfl) ?_
      refine vl_val (os_lss rfl rfl) ?_
      refine vl_nil ?_
      refine v_cond_d rfl (fun hlt => ?_) (fun hlt => ?_)
      · obtain ⟨bh, oh, rfl, ch⟩ := (hc.keep b5).at_ (i := r) (by omega)
        have hhr := rowB_at hr (k := r) (by omega)
        refine v_skip ?_
        refine v_seq ?_
        refine v_block ?_
        refine v_seq ?_
        refine v_region ?_
        refine vl_val (os_move rfl) ?_
        refine vl_val (os_move rfl) ?_
        refine vl_val (os_move rfl) ?_
        refine vl_val (os_ix Try.underlying40 Try.sizeOf3 rfl rfl (i := r) (by omega) (by omega)) ?_
        refine vl_val (os_load Try.isAgg3 rfl (ch)) ?_
        refine vl_val (os_addi rfl rfl (by omega)) ?_
        refine vl_val (os_assign rfl) ?_
        refine vl_nil ?_
        refine v_mid [(0, _), (1, _), (2, _), (7, _), (9, _), (10, _), (11, _), (12, _), (13, _), (14, _), (16, _)] (fun (u : Unit) => [(15, .int .i64 (tailT (tailsL hs) (r + 1)))]) (fun u w' => w' = w5) ⟨rfl, rfl, rfl, rfl, rfl, rfl, rfl, rfl, rfl, rfl, rfl, trivial⟩ ?_ ?_
        · refine v_seq ?_
          refine v_region ?_
          refine vl_val (os_move rfl) ?_
          refine vl_val (os_gtr rfl rfl) ?_
          refine vl_nil ?_
          refine v_cond_d rfl (fun h0 => ?_) (fun h0 => ?_)
          · obtain ⟨bt, ot, rfl, ct⟩ := (r4.keep b45).at_ (i := r) (by omega)
            have hwr := hwb r (by omega)
            refine v_region ?_
            refine vl_val (os_move rfl) ?_
            refine vl_val (os_move rfl) ?_
            refine vl_val (os_move rfl) ?_
            refine vl_val (os_ix Try.underlying40 Try.sizeOf3 rfl rfl (i := r) (by omega) (by omega)) ?_
            refine vl_val (os_load Try.isAgg3 rfl (ct)) ?_
            refine vl_val (os_addi rfl rfl (by omega)) ?_
            refine vl_val (os_assign rfl) ?_
            refine vl_nil ?_
            exact ⟨(), ⟨rfl, rfl, rfl, rfl, rfl, rfl, rfl, rfl, rfl, rfl, rfl, trivial⟩, ⟨by show some (Value.int .i64 _) = some (.int .i64 (tailT (tailsL hs) r + (if 0 < r then (tailsL hs).getD r 0 else 0))); rw [if_pos (by omega)], trivial⟩, rfl⟩
          · refine v_skip ?_
            exact ⟨(), ⟨rfl, rfl, rfl, rfl, rfl, rfl, rfl, rfl, rfl, rfl, rfl, trivial⟩, ⟨by show some (Value.int .i64 _) = some (.int .i64 (tailT (tailsL hs) r + (if 0 < r then (tailsL hs).getD r 0 else 0))); rw [if_neg (by omega), Int.add_zero], trivial⟩, rfl⟩
        · rintro u w5 rfl
          refine v_seq ?_
          refine v_region ?_
          refine vl_val (os_move rfl) ?_
          refine vl_val (os_move rfl) ?_
          refine vl_val (os_move rfl) ?_
          refine vl_call (hope_Had A B l m c d worths ks r w5 (ha.keep b5) (hb.keep b5) hl hm (by omega) (by omega) ia ib ⟨by omega, by omega⟩) rfl ?_
          rintro v6 w6 ⟨rfl, b56⟩
          have b46 := b45.trans (b56.mono b45.size)
          have b6 := b4.trans (b46.mono b4.size)
          have hvb := hdV_bd worths ks r
          have hm1 : 0 ≤ hs.getD r 0 * hdV worths ks r := Int.mul_nonneg hhr.1 hvb.1
          have hm2 : hs.getD r 0 * hdV worths ks r ≤ 65536 * 8388608 := Int.mul_le_mul hhr.2 hvb.2 hvb.1 (by omega)
          have hex : exOk worths ks hs = true → hdOk worths ks r = true := fun h => ex_had h (by omega)
          refine vl_val (os_move rfl) ?_
          refine vl_val (os_extract rfl rfl) ?_
          refine vl_val (os_extract rfl rfl) ?_
          refine vl_val (os_assign rfl) ?_
          refine vl_val (os_assign rfl) ?_
          refine vl_nil ?_
          refine v_mid [(0, _), (1, _), (2, _), (7, _), (9, _), (10, _), (11, _), (12, _), (13, _), (15, _), (16, _), (18, _)] (fun (u : Unit) => [(14, .int .i64 (meanT worths ks hs (r + 1)))]) (fun u w' => w' = w6) ⟨rfl, rfl, rfl, rfl, rfl, rfl, rfl, rfl, rfl, rfl, rfl, rfl, trivial⟩ ?_ ?_
          · cases hk : hdOk worths ks r
            · refine v_seq ?_
              refine v_region ?_
              refine vl_val (os_move rfl) ?_
              refine vl_val (os_eql rfl rfl) ?_
              refine vl_nil ?_
              refine v_cond_no rfl (by decide) ?_
              refine v_skip ?_
              exact ⟨(), ⟨rfl, rfl, rfl, rfl, rfl, rfl, rfl, rfl, rfl, rfl, rfl, rfl, trivial⟩, ⟨by show some (Value.int .i64 _) = some (.int .i64 (meanT worths ks hs r + (if hdOk worths ks r then hs.getD r 0 * hdV worths ks r else 0))); rw [hk]; simp, trivial⟩, rfl⟩
            · obtain ⟨bx, ox, ex_, cx⟩ := (hc.keep b6).at_ (i := r) (by omega)
              cases ex_
              refine v_seq ?_
              refine v_region ?_
              refine vl_val (os_move rfl) ?_
              refine vl_val (os_eql rfl rfl) ?_
              refine vl_nil ?_
              refine v_cond_yes rfl (by decide) ?_
              refine v_region ?_
              refine vl_val (os_move rfl) ?_
              refine vl_val (os_move rfl) ?_
              refine vl_val (os_move rfl) ?_
              refine vl_val (os_ix Try.underlying40 Try.sizeOf3 rfl rfl (i := r) (by omega) (by omega)) ?_
              refine vl_val (os_load Try.isAgg3 rfl (cx)) ?_
              refine vl_val (os_move rfl) ?_
              refine vl_val (os_mul rfl rfl (i64_fit ⟨by omega, by omega⟩)) ?_
              refine vl_val (os_addi rfl rfl (by omega)) ?_
              refine vl_val (os_assign rfl) ?_
              refine vl_nil ?_
              exact ⟨(), ⟨rfl, rfl, rfl, rfl, rfl, rfl, rfl, rfl, rfl, rfl, rfl, rfl, trivial⟩, ⟨by show some (Value.int .i64 _) = some (.int .i64 (meanT worths ks hs r + (if hdOk worths ks r then hs.getD r 0 * hdV worths ks r else 0))); rw [hk]; rfl, trivial⟩, rfl⟩
          · rintro u w6 rfl
            cases hx : exOk worths ks hs
            · refine v_seq ?_
              refine v_region ?_
              refine vl_val (os_move rfl) ?_
              refine vl_val (os_f (os_eql rfl rfl) (by decide)) ?_
              refine vl_val (os_move rfl) ?_
              refine vl_skip rfl rfl ?_
              refine vl_skip rfl rfl ?_
              refine vl_val (os_pick_f rfl rfl) ?_
              refine vl_nil ?_
              refine v_cond_f rfl ?_
              refine v_skip ?_
              refine v_region ?_
              refine vl_val (os_move rfl) ?_
              refine vl_val (os_addi rfl rfl (by omega)) ?_
              refine vl_val (os_assign rfl) ?_
              refine vl_nil ?_
              exact ⟨r + 1, ⟨rfl, rfl, rfl, rfl, rfl, rfl, rfl, rfl, trivial⟩, ⟨rfl, rfl, rfl, rfl, trivial⟩, ⟨by omega, b46⟩, by dsimp only; omega⟩
            · rw [hex hx]
              refine v_seq ?_
              refine v_region ?_
              refine vl_val (os_move rfl) ?_
              refine vl_val (os_t (os_eql rfl rfl) (by decide)) ?_
              refine vl_val (os_move rfl) ?_
              refine vl_valg rfl (os_move rfl) ?_
              refine vl_valg rfl (os_neq rfl rfl) ?_
              refine vl_val (os_pick_t rfl rfl) ?_
              refine vl_nil ?_
              refine v_cond_no rfl (by decide) ?_
              refine v_skip ?_
              refine v_region ?_
              refine vl_val (os_move rfl) ?_
              refine vl_val (os_addi rfl rfl (by omega)) ?_
              refine vl_val (os_assign rfl) ?_
              refine vl_nil ?_
              exact ⟨r + 1, ⟨rfl, rfl, rfl, rfl, rfl, rfl, rfl, rfl, trivial⟩, ⟨rfl, rfl, rfl, rfl, trivial⟩, ⟨by omega, b46⟩, by dsimp only; omega⟩
      · obtain rfl : n = r := by omega
        refine v_exit ?_
        refine v_seq ?_
        refine v_seq ?_
        refine v_region ?_
        refine vl_val (os_move rfl) ?_
        refine vl_val (os_f (os_neq rfl rfl) (by decide)) ?_
        refine vl_val (os_move rfl) ?_
        refine vl_valg rfl (os_move rfl) ?_
        refine vl_valg rfl (os_len Try.underlying40 rfl) ?_
        refine vl_valg rfl (os_subi rfl rfl (by omega)) ?_
        refine vl_valg rfl (os_move rfl) ?_
        refine vl_callg rfl ((wg_Right ((n : Int) - 1) A2 (tailsL hs).length c2 (tailsL hs) w5 (r4.keep b45) rfl (by omega) ⟨by omega, by omega⟩).mono fun v w' hh => (⟨by rw [hh.1, hn, hright], hh.2⟩ : v = .bool true ∧ LeD w5 w')) rfl ?_
        rintro v7 w7 ⟨rfl, d7⟩
        have b7 := b5.trans ((led_below d7).mono b5.size)
        refine vl_valg rfl (os_not rfl) ?_
        refine vl_val (os_pick_f rfl rfl) ?_
        refine vl_nil ?_
        refine v_cond_f rfl ?_
        refine v_skip ?_
        refine v_seq ?_
        refine v_seq ?_
        refine v_region ?_
        refine vl_val (os_move rfl) ?_
        refine vl_val (os_gtr rfl rfl) ?_
        refine vl_nil ?_
        refine v_cond_d rfl (fun hall => ?_) (fun hall => ?_)
        · refine v_seq ?_
          refine v_region ?_
          refine vl_val (os_assign rfl) ?_
          refine vl_nil ?_
          refine v_ret ?_
          exact post_ret rfl rfl (⟨rfl, b7⟩)
        · have hall2 : hs.sum ≤ 65536 := by rw [← all_upT hs, ← hn]; omega
          obtain ⟨bt, ot, rfl, ct⟩ := ((r4.keep b45).led d7).at_ (i := 0) (by omega)
          cases hx : exOk worths ks hs
          · refine v_skip ?_
            refine v_seq ?_
            refine v_region ?_
            refine vl_val (os_move rfl) ?_
            refine vl_val (os_ix Try.underlying40 Try.sizeOf3 rfl rfl (i := 0) (by omega) (by omega)) ?_
            refine vl_val (os_load Try.isAgg3 rfl (ct)) ?_
            refine vl_val (os_move rfl) ?_
            refine vl_val (os_t (os_eql rfl rfl) (by rw [first_tail hr hall2, hn])) ?_
            refine vl_val (os_move rfl) ?_
            refine vl_valg rfl (os_move rfl) ?_
            refine vl_valg rfl (os_move rfl) ?_
            refine vl_valg rfl (os_t (os_eql rfl rfl) (by rw [show meanV hs = meanS hs hs.length by simp [meanV, hw], mean_tail hr hall2, hn])) ?_
            refine vl_val (os_pick_t rfl rfl) ?_
            refine vl_val (os_move rfl) ?_
            refine vl_valg rfl (os_move rfl) ?_
            refine vl_valg rfl (os_t (os_neq rfl rfl) (by decide)) ?_
            refine vl_valg rfl (os_move rfl) ?_
            refine vl_skip rfl rfl ?_
            refine vl_skip rfl rfl ?_
            refine vl_skip rfl rfl ?_
            refine vl_valg rfl (os_pick_t rfl rfl) ?_
            refine vl_val (os_pick_t rfl rfl) ?_
            refine vl_val (os_assign rfl) ?_
            refine vl_nil ?_
            refine v_ret ?_
            exact post_ret rfl rfl (⟨rfl, b7⟩)
          · refine v_skip ?_
            refine v_seq ?_
            refine v_region ?_
            refine vl_val (os_move rfl) ?_
            refine vl_val (os_ix Try.underlying40 Try.sizeOf3 rfl rfl (i := 0) (by omega) (by omega)) ?_
            refine vl_val (os_load Try.isAgg3 rfl (ct)) ?_
            refine vl_val (os_move rfl) ?_
            refine vl_val (os_t (os_eql rfl rfl) (by rw [first_tail hr hall2, hn])) ?_
            refine vl_val (os_move rfl) ?_
            refine vl_valg rfl (os_move rfl) ?_
            refine vl_valg rfl (os_move rfl) ?_
            refine vl_valg rfl (os_t (os_eql rfl rfl) (by rw [show meanV hs = meanS hs hs.length by simp [meanV, hw], mean_tail hr hall2, hn])) ?_
            refine vl_val (os_pick_t rfl rfl) ?_
            refine vl_val (os_move rfl) ?_
            refine vl_valg rfl (os_move rfl) ?_
            refine vl_valg rfl (os_f (os_neq rfl rfl) (by decide)) ?_
            refine vl_valg rfl (os_move rfl) ?_
            refine vl_valg rfl (os_move rfl) ?_
            refine vl_valg rfl (os_move rfl) ?_
            refine vl_valg rfl (os_eql rfl rfl) ?_
            refine vl_valg rfl (os_pick_f rfl rfl) ?_
            refine vl_val (os_pick_t rfl rfl) ?_
            refine vl_val (os_assign rfl) ?_
            refine vl_nil ?_
            refine v_ret ?_
            exact post_ret rfl rfl (⟨by rw [ex_mean hx hall2, hn]; simp, b7⟩)
end Go.Proofs.Ytpjmiafefammkaa
