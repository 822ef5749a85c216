/- Texts joined: Wg. -/
import Derived.Test.YtpojijnjdlnokaaM9
/- Layer 12: the contracts of the program's and the document's weights, scores and orders. -/
namespace Go.Proofs.Ytpojijnjdlnokaa
open Go.RowKit
set_option linter.unusedVariables false

theorem cmp_isNaN (x : Int) (w : World) : Gives Try.prog 149 #[.int .i64 x] w fun v w' => v = .bool false ∧ w' = w := by
  refine gives_enter Try.call149 Try.func149 rfl rfl rfl (by kernel_rfl) ?_
  refine v_seq ?_
  refine v_region ?_
  refine vl_val (os_assign rfl) ?_
  refine vl_nil ?_
  refine v_seq ?_
  refine v_region ?_
  refine vl_val (os_move rfl) ?_
  refine vl_val (os_move rfl) ?_
  refine vl_val (os_f (os_neq rfl rfl) (by simp)) ?_
  refine vl_val (os_assign rfl) ?_
  refine vl_nil ?_
  refine v_ret ?_
  exact post_ret rfl rfl (⟨rfl, rfl⟩)
def cmpV (x y : Int) : Int := if x < y then -1 else if y < x then 1 else 0
theorem cmp_Compare (x y : Int) (w : World) : Gives Try.prog 105 #[.int .i64 x, .int .i64 y] w fun v w' => v = .int .i64 (cmpV x y) ∧ w' = w := by
  refine gives_enter Try.call105 Try.func105 rfl rfl rfl (by kernel_rfl) ?_
  refine v_seq ?_
  refine v_region ?_
  refine vl_val (os_assign rfl) ?_
  refine vl_nil ?_
  refine v_seq ?_
  refine v_region ?_
  refine vl_val (os_move rfl) ?_
  refine vl_call (cmp_isNaN x _) rfl ?_
  rintro v w ⟨rfl, rfl⟩
  refine vl_val (os_assign rfl) ?_
  refine vl_nil ?_
  refine v_seq ?_
  refine v_region ?_
  refine vl_val (os_move rfl) ?_
  refine vl_call (cmp_isNaN y _) rfl ?_
  rintro v w ⟨rfl, rfl⟩
  refine vl_val (os_assign rfl) ?_
  refine vl_nil ?_
  refine v_seq ?_
  refine v_seq ?_
  refine v_region ?_
  refine vl_val (os_move rfl) ?_
  refine vl_nil ?_
  refine v_cond_f rfl ?_
  refine v_skip ?_
  refine v_seq ?_
  refine v_seq ?_
  refine v_region ?_
  refine vl_val (os_move rfl) ?_
  refine vl_nil ?_
  refine v_cond_f rfl ?_
  refine v_skip ?_
  refine v_seq ?_
  refine v_seq ?_
  refine v_region ?_
  refine vl_val (os_move rfl) ?_
  refine vl_val (os_move rfl) ?_
  refine vl_val (os_lss rfl rfl) ?_
  refine vl_nil ?_
  refine v_cond_d rfl (fun h => ?_) (fun h => ?_)
  · refine v_seq ?_
    refine v_region ?_
    refine vl_val (os_assign rfl) ?_
    refine vl_nil ?_
    refine v_ret ?_
    exact post_ret rfl rfl (⟨by simp [cmpV, h], rfl⟩)
  · refine v_skip ?_
    refine v_seq ?_
    refine v_seq ?_
    refine v_region ?_
    refine vl_val (os_move rfl) ?_
    refine vl_val (os_move rfl) ?_
    refine vl_val (os_gtr rfl rfl) ?_
    refine vl_nil ?_
    refine v_cond_d rfl (fun h2 => ?_) (fun h2 => ?_)
    · refine v_seq ?_
      refine v_region ?_
      refine vl_val (os_assign rfl) ?_
      refine vl_nil ?_
      refine v_ret ?_
      exact post_ret rfl rfl (⟨by simp [cmpV, h, h2], rfl⟩)
    · refine v_skip ?_
      refine v_seq ?_
      refine v_region ?_
      refine vl_val (os_assign rfl) ?_
      refine vl_nil ?_
      refine v_ret ?_
      exact post_ret rfl rfl (⟨by simp [cmpV, h, h2], rfl⟩)
theorem wg_rises (x y : Int) (w : World) : Gives Try.prog 104 #[.int .i64 x, .int .i64 y] w fun v w' => v = .int .i64 (cmpV y x) ∧ w' = w := by
  refine gives_enter Try.call104 Try.func104 rfl rfl rfl (by kernel_rfl) ?_
  refine v_seq ?_
  refine v_region ?_
  refine vl_val (os_assign rfl) ?_
  refine vl_nil ?_
  refine v_seq ?_
  refine v_region ?_
  refine vl_val (os_move rfl) ?_
  refine vl_val (os_move rfl) ?_
  refine vl_call (cmp_Compare y x w) rfl ?_
  rintro v w ⟨rfl, rfl⟩
  refine vl_val (os_assign rfl) ?_
  refine vl_nil ?_
  refine v_ret ?_
  exact post_ret rfl rfl (⟨rfl, rfl⟩)

theorem wg_falls (A : Option Addr) (n c : Nat) (zs : List Int) (w : World) (ha : Rd w .i64 A zs) (hn : n = zs.length) (hn' : n ≤ 9223372036854775807) :
    Gives Try.prog 106 #[.slice A n c, .func (.func 104) #[] #[]] w fun v w' => v = .bool (fallsB zs) ∧ LeD w w' := by
  refine gives_enter Try.call106 Try.func106 rfl rfl rfl (by kernel_rfl) ?_
  refine v_seq ?_
  refine v_region ?_
  refine vl_val (os_assign rfl) ?_
  refine vl_nil ?_
  refine v_seq ?_
  refine v_seq ?_
  refine v_region ?_
  refine vl_val (os_move rfl) ?_
  refine vl_val (os_len Try.underlying40 rfl) ?_
  refine vl_val (os_subi rfl rfl (by omega)) ?_
  refine vl_val (os_assign rfl) ?_
  refine vl_nil ?_
  refine v_block ?_
  refine v_loop [(0, _), (1, _)] (fun (k : Nat) => [(5, .int .i64 ((k : Int) - 1))]) (fun k w' => k ≤ n ∧ (∀ i, k ≤ i + 1 → i + 1 < zs.length → zs.getD (i + 1) 0 ≤ zs.getD i 0) ∧ LeD w w') (fun k => k) (n) ⟨rfl, rfl, trivial⟩ ⟨rfl, trivial⟩ (⟨by omega, fun i h1 h2 => by omega, lee_d.refl _⟩) ?_
  rintro k w' ⟨hk, hs, q, rfl⟩
  refine v_seq ?_
  refine v_seq ?_
  refine v_region ?_
  refine vl_val (os_move rfl) ?_
  refine vl_val (os_gtr rfl rfl) ?_
  refine vl_nil ?_
  refine v_cond_d rfl (fun hlt => ?_) (fun hlt => ?_)
  · obtain ⟨j, rfl⟩ : ∃ j, k = j + 2 := ⟨k - 2, by omega⟩
    obtain ⟨b1, o1, hA, c1⟩ := (ha.drewN q).at_ (i := j + 1) (by omega)
    obtain ⟨b2, o2, hA2, c2⟩ := (ha.drewN q).at_ (i := j) (by omega)
    subst hA
    cases hA2
    refine v_skip ?_
    refine v_seq ?_
    refine v_block ?_
    refine v_seq ?_
    refine v_region_t LeD _ mixed (by kernel_rfl) lee_d (led_start _) ?_
    refine vt_val (fun w hw => os_move rfl) ?_
    refine vt_val (fun w hw => os_move rfl) ?_
    refine vt_val (fun w hw => os_move rfl) ?_
    refine vt_val (fun w hw => os_ix Try.underlying40 Try.sizeOf3 rfl rfl (i := j + 1) (by omega) (by omega)) ?_
    refine vt_val (fun w hw => os_load Try.isAgg3 rfl (led_cell hw (c1))) ?_
    refine vt_val (fun w hw => os_move rfl) ?_
    refine vt_val (fun w hw => os_move rfl) ?_
    refine vt_val (fun w hw => os_subi rfl rfl (by omega)) ?_
    refine vt_val (fun w hw => os_ix Try.underlying40 Try.sizeOf3 rfl rfl (i := j) (by omega) (by omega)) ?_
    refine vt_val (fun w hw => os_load Try.isAgg3 rfl (led_cell hw (c2))) ?_
    refine vt_callv (v := _) rfl (fun w hw => (wg_rises (zs.getD (j + 1) 0) (zs.getD j 0) w).mono fun v w' h => ⟨h.1, by rw [h.2]; exact lee_d.refl _⟩) rfl ?_
    refine vt_val (fun w hw => os_lss rfl rfl) ?_
    refine vt_nil (fun w hw => ?_)
    obtain ⟨q2, rfl⟩ := hw
    refine v_cond_d rfl (fun hlt2 => ?_) (fun hlt2 => ?_)
    · have hlt3 : zs.getD j 0 < zs.getD (j + 1) 0 := by unfold cmpV at hlt2; split at hlt2 <;> (try split at hlt2) <;> omega
      refine v_seq ?_
      refine v_region ?_
      refine vl_val (os_assign rfl) ?_
      refine vl_nil ?_
      refine v_ret ?_
      exact post_ret rfl rfl (⟨by rw [fallsB, decide_eq_false]; intro h; have := h j (by omega) (by omega); omega, _, World.drewN_drewN ..⟩)
    · have hlt3 : zs.getD (j + 1) 0 ≤ zs.getD j 0 := by unfold cmpV at hlt2; split at hlt2 <;> (try split at hlt2) <;> omega
      refine v_skip ?_
      refine v_region ?_
      refine vl_val (os_move rfl) ?_
      refine vl_val (os_subi rfl rfl (by omega)) ?_
      refine vl_val (os_assign rfl) ?_
      refine vl_nil ?_
      exact ⟨j + 1, ⟨rfl, rfl, trivial⟩, ⟨get_int rfl (by omega), trivial⟩, ⟨by omega, fun i h1 h2 => if hi : i = j then (by subst hi; exact hlt3) else hs i (by omega) h2, _, World.drewN_drewN ..⟩, by dsimp only; omega⟩
  · refine v_exit ?_
    refine v_seq ?_
    refine v_region ?_
    refine vl_val (os_assign rfl) ?_
    refine vl_nil ?_
    refine v_ret ?_
    exact post_ret rfl rfl (⟨by rw [fallsB, decide_eq_true]; intro i h1 h2; exact hs i (by omega) h2, _, rfl⟩)

theorem wg_Right (n : Int) (A : Option Addr) (l c : Nat) (zs : List Int) (w : World) (ha : Rd w .i64 A zs) (hl : l = zs.length) (hn' : l ≤ 9223372036854775807) (hn : I64 n) :
    Gives Try.prog 70 #[.int .i64 n, .slice A l c] w fun v w' => v = .bool (wrightB n zs) ∧ LeD w w' := by
  refine gives_enter Try.call70 Try.func70 rfl rfl rfl (by kernel_rfl) ?_
  rcases (by omega : n < 1 ∨ n > 255 ∨ (1 ≤ n ∧ n ≤ 255 ∧ (l : Int) ≠ n + 1) ∨ (1 ≤ n ∧ n ≤ 255 ∧ (l : Int) = n + 1)) with h | h | h | h
  · refine v_seq ?_
    refine v_region ?_
    refine vl_val (os_assign rfl) ?_
    refine vl_nil ?_
    refine v_seq ?_
    refine v_seq ?_
    refine v_region ?_
    refine vl_val (os_move rfl) ?_
    refine vl_val (os_t (os_lss rfl rfl) (by omega)) ?_
    refine vl_val (os_move rfl) ?_
    refine vl_skip rfl rfl ?_
    refine vl_skip rfl rfl ?_
    refine vl_val (os_pick_t rfl rfl) ?_
    refine vl_val (os_move rfl) ?_
    refine vl_skip rfl rfl ?_
    refine vl_skip rfl rfl ?_
    refine vl_skip rfl rfl ?_
    refine vl_skip rfl rfl ?_
    refine vl_skip rfl rfl ?_
    refine vl_val (os_pick_t rfl rfl) ?_
    refine vl_nil ?_
    refine v_cond_t rfl ?_
    refine v_seq ?_
    refine v_region ?_
    refine vl_val (os_assign rfl) ?_
    refine vl_nil ?_
    refine v_ret ?_
    exact post_ret rfl rfl (⟨by rw [wrightB, decide_eq_false (by omega)]; rfl, lee_d.refl _⟩)
  · refine v_seq ?_
    refine v_region ?_
    refine vl_val (os_assign rfl) ?_
    refine vl_nil ?_
    refine v_seq ?_
    refine v_seq ?_
    refine v_region ?_
    refine vl_val (os_move rfl) ?_
    refine vl_val (os_f (os_lss rfl rfl) (by omega)) ?_
    refine vl_val (os_move rfl) ?_
    refine vl_valg rfl (os_move rfl) ?_
    refine vl_valg rfl (os_t (os_gtr rfl rfl) (by omega)) ?_
    refine vl_val (os_pick_f rfl rfl) ?_
    refine vl_val (os_move rfl) ?_
    refine vl_skip rfl rfl ?_
    refine vl_skip rfl rfl ?_
    refine vl_skip rfl rfl ?_
    refine vl_skip rfl rfl ?_
    refine vl_skip rfl rfl ?_
    refine vl_val (os_pick_t rfl rfl) ?_
    refine vl_nil ?_
    refine v_cond_t rfl ?_
    refine v_seq ?_
    refine v_region ?_
    refine vl_val (os_assign rfl) ?_
    refine vl_nil ?_
    refine v_ret ?_
    exact post_ret rfl rfl (⟨by rw [wrightB, decide_eq_false (by omega)]; rfl, lee_d.refl _⟩)
  · refine v_seq ?_
    refine v_region ?_
    refine vl_val (os_assign rfl) ?_
    refine vl_nil ?_
    refine v_seq ?_
    refine v_seq ?_
    refine v_region ?_
    refine vl_val (os_move rfl) ?_
    refine vl_val (os_f (os_lss rfl rfl) (by omega)) ?_
    refine vl_val (os_move rfl) ?_
    refine vl_valg rfl (os_move rfl) ?_
    refine vl_valg rfl (os_f (os_gtr rfl rfl) (by omega)) ?_
    refine vl_val (os_pick_f rfl rfl) ?_
    refine vl_val (os_move rfl) ?_
    refine vl_valg rfl (os_move rfl) ?_
    refine vl_valg rfl (os_len Try.underlying40 rfl) ?_
    refine vl_valg rfl (os_move rfl) ?_
    refine vl_valg rfl (os_addi rfl rfl (by omega)) ?_
    refine vl_valg rfl (os_neq rfl rfl) ?_
    refine vl_val (os_pick_f rfl rfl) ?_
    refine vl_nil ?_
    refine v_cond_yes rfl (by omega) ?_
    refine v_seq ?_
    refine v_region ?_
    refine vl_val (os_assign rfl) ?_
    refine vl_nil ?_
    refine v_ret ?_
    exact post_ret rfl rfl (⟨by rw [wrightB, decide_eq_false (by omega)]; rfl, lee_d.refl _⟩)
  · refine v_seq ?_
    refine v_region ?_
    refine vl_val (os_assign rfl) ?_
    refine vl_nil ?_
    refine v_seq ?_
    refine v_seq ?_
    refine v_region ?_
    refine vl_val (os_move rfl) ?_
    refine vl_val (os_f (os_lss rfl rfl) (by omega)) ?_
    refine vl_val (os_move rfl) ?_
    refine vl_valg rfl (os_move rfl) ?_
    refine vl_valg rfl (os_f (os_gtr rfl rfl) (by omega)) ?_
    refine vl_val (os_pick_f rfl rfl) ?_
    refine vl_val (os_move rfl) ?_
    refine vl_valg rfl (os_move rfl) ?_
    refine vl_valg rfl (os_len Try.underlying40 rfl) ?_
    refine vl_valg rfl (os_move rfl) ?_
    refine vl_valg rfl (os_addi rfl rfl (by omega)) ?_
    refine vl_valg rfl (os_neq rfl rfl) ?_
    refine vl_val (os_pick_f rfl rfl) ?_
    refine vl_nil ?_
    refine v_cond_no rfl (by omega) ?_
    have e0 : decide (1 ≤ n ∧ n ≤ 255 ∧ (zs.length : Int) = n + 1) = true := decide_eq_true (by omega)
    obtain ⟨b1, o1, hA, c1⟩ := ha.at_ (i := 0) (by omega)
    obtain ⟨b2, o2, hA2, c2⟩ := ha.at_ (i := n.toNat) (by omega)
    subst hA
    cases hA2
    rcases (by omega : 65536 < zs.getD 0 0 ∨ (zs.getD 0 0 ≤ 65536 ∧ zs.getD n.toNat 0 < 0) ∨ (zs.getD 0 0 ≤ 65536 ∧ 0 ≤ zs.getD n.toNat 0)) with h1 | ⟨h1, h2⟩ | ⟨h1, h2⟩
    · refine v_skip ?_
      refine v_seq ?_
      refine v_region ?_
      refine vl_val (os_assign rfl) ?_
      refine vl_nil ?_
      refine v_seq ?_
      refine v_region ?_
      refine vl_val (os_move rfl) ?_
      refine vl_val (os_ix Try.underlying40 Try.sizeOf3 rfl rfl (i := 0) (by omega) (by omega)) ?_
      refine vl_val (os_load Try.isAgg3 rfl (c1)) ?_
      refine vl_val (os_f (os_leq rfl rfl) (by omega)) ?_
      refine vl_val (os_move rfl) ?_
      refine vl_skip rfl rfl ?_
      refine vl_skip rfl rfl ?_
      refine vl_skip rfl rfl ?_
      refine vl_skip rfl rfl ?_
      refine vl_skip rfl rfl ?_
      refine vl_val (os_pick_f rfl rfl) ?_
      refine vl_val (os_move rfl) ?_
      refine vl_skip rfl rfl ?_
      refine vl_skip rfl rfl ?_
      refine vl_skip rfl rfl ?_
      refine vl_val (os_pick_f rfl rfl) ?_
      refine vl_val (os_assign rfl) ?_
      refine vl_nil ?_
      refine v_ret ?_
      exact post_ret rfl rfl (⟨by rw [wrightB, e0, decide_eq_false (by omega : ¬ zs.getD 0 0 ≤ 65536)]; rfl, lee_d.refl _⟩)
    · refine v_skip ?_
      refine v_seq ?_
      refine v_region ?_
      refine vl_val (os_assign rfl) ?_
      refine vl_nil ?_
      refine v_seq ?_
      refine v_region ?_
      refine vl_val (os_move rfl) ?_
      refine vl_val (os_ix Try.underlying40 Try.sizeOf3 rfl rfl (i := 0) (by omega) (by omega)) ?_
      refine vl_val (os_load Try.isAgg3 rfl (c1)) ?_
      refine vl_val (os_t (os_leq rfl rfl) (by omega)) ?_
      refine vl_val (os_move rfl) ?_
      refine vl_valg rfl (os_move rfl) ?_
      refine vl_valg rfl (os_move rfl) ?_
      refine vl_valg rfl (os_ix Try.underlying40 Try.sizeOf3 rfl rfl (i := n.toNat) (by omega) (by omega)) ?_
      refine vl_valg rfl (os_load Try.isAgg3 rfl (c2)) ?_
      refine vl_valg rfl (os_f (os_geq rfl rfl) (by omega)) ?_
      refine vl_val (os_pick_t rfl rfl) ?_
      refine vl_val (os_move rfl) ?_
      refine vl_skip rfl rfl ?_
      refine vl_skip rfl rfl ?_
      refine vl_skip rfl rfl ?_
      refine vl_val (os_pick_f rfl rfl) ?_
      refine vl_val (os_assign rfl) ?_
      refine vl_nil ?_
      refine v_ret ?_
      exact post_ret rfl rfl (⟨by rw [wrightB, e0, decide_eq_true h1, decide_eq_false (by omega : ¬ 0 ≤ zs.getD n.toNat 0)]; rfl, lee_d.refl _⟩)
    · refine v_skip ?_
      refine v_seq ?_
      refine v_region ?_
      refine vl_val (os_assign rfl) ?_
      refine vl_nil ?_
      refine v_seq ?_
      refine v_region ?_
      refine vl_val (os_move rfl) ?_
      refine vl_val (os_ix Try.underlying40 Try.sizeOf3 rfl rfl (i := 0) (by omega) (by omega)) ?_
      refine vl_val (os_load Try.isAgg3 rfl (c1)) ?_
      refine vl_val (os_t (os_leq rfl rfl) (by omega)) ?_
      refine vl_val (os_move rfl) ?_
      refine vl_valg rfl (os_move rfl) ?_
      refine vl_valg rfl (os_move rfl) ?_
      refine vl_valg rfl (os_ix Try.underlying40 Try.sizeOf3 rfl rfl (i := n.toNat) (by omega) (by omega)) ?_
      refine vl_valg rfl (os_load Try.isAgg3 rfl (c2)) ?_
      refine vl_valg rfl (os_t (os_geq rfl rfl) (by omega)) ?_
      refine vl_val (os_pick_t rfl rfl) ?_
      refine vl_val (os_move rfl) ?_
      refine vl_valg rfl (os_move rfl) ?_
      refine vl_valg rfl (os_move rfl) ?_
      refine vl_callg rfl (wg_falls _ l c zs w ha hl hn') rfl ?_
      rintro v w1 ⟨rfl, hq⟩
      refine vl_val (os_pick_t rfl rfl) ?_
      refine vl_val (os_assign rfl) ?_
      refine vl_nil ?_
      refine v_ret ?_
      exact post_ret rfl rfl (⟨by rw [wrightB, e0, decide_eq_true h1, decide_eq_true h2]; rfl, hq⟩)

/-- the document's -/
theorem ref_Right (n : Int) (A : Option Addr) (l c : Nat) (zs : List Int) (w : World) (ha : Rd w .i64 A zs) (hl : l = zs.length) (hn' : l ≤ 9223372036854775807) (hn : I64 n) :
    Gives Try.prog 72 #[.int .i64 n, .slice A l c] w fun v w' => v = .bool (wrightB n zs) ∧ LeD w w' := by
  rw [right_all]
  refine gives_enter Try.call72 Try.func72 rfl rfl rfl (by kernel_rfl) ?_
  rcases (by omega : n < 1 ∨ n > 255 ∨ (1 ≤ n ∧ n ≤ 255 ∧ (l : Int) ≠ n + 1) ∨ (1 ≤ n ∧ n ≤ 255 ∧ (l : Int) = n + 1)) with h | h | h | h
  · refine v_seq ?_
    refine v_region ?_
    refine vl_val (os_assign rfl) ?_
    refine vl_nil ?_
    refine v_seq ?_
    refine v_seq ?_
    refine v_region ?_
    refine vl_val (os_move rfl) ?_
    refine vl_val (os_t (os_lss rfl rfl) (by omega)) ?_
    refine vl_val (os_move rfl) ?_
    refine vl_skip rfl rfl ?_
    refine vl_skip rfl rfl ?_
    refine vl_val (os_pick_t rfl rfl) ?_
    refine vl_val (os_move rfl) ?_
    refine vl_skip rfl rfl ?_
    refine vl_skip rfl rfl ?_
    refine vl_skip rfl rfl ?_
    refine vl_skip rfl rfl ?_
    refine vl_skip rfl rfl ?_
    refine vl_val (os_pick_t rfl rfl) ?_
    refine vl_nil ?_
    refine v_cond_t rfl ?_
    refine v_seq ?_
    refine v_region ?_
    refine vl_val (os_assign rfl) ?_
    refine vl_nil ?_
    refine v_ret ?_
    exact post_ret rfl rfl (⟨by rw [decide_eq_false (by omega)]; rfl, lee_d.refl _⟩)
  · refine v_seq ?_
    refine v_region ?_
    refine vl_val (os_assign rfl) ?_
    refine vl_nil ?_
    refine v_seq ?_
    refine v_seq ?_
    refine v_region ?_
    refine vl_val (os_move rfl) ?_
    refine vl_val (os_f (os_lss rfl rfl) (by omega)) ?_
    refine vl_val (os_move rfl) ?_
    refine vl_valg rfl (os_move rfl) ?_
    refine vl_valg rfl (os_t (os_gtr rfl rfl) (by omega)) ?_
    refine vl_val (os_pick_f rfl rfl) ?_
    refine vl_val (os_move rfl) ?_
    refine vl_skip rfl rfl ?_
    refine vl_skip rfl rfl ?_
    refine vl_skip rfl rfl ?_
    refine vl_skip rfl rfl ?_
    refine vl_skip rfl rfl ?_
    refine vl_val (os_pick_t rfl rfl) ?_
    refine vl_nil ?_
    refine v_cond_t rfl ?_
    refine v_seq ?_
    refine v_region ?_
    refine vl_val (os_assign rfl) ?_
    refine vl_nil ?_
    refine v_ret ?_
    exact post_ret rfl rfl (⟨by rw [decide_eq_false (by omega)]; rfl, lee_d.refl _⟩)
  · refine v_seq ?_
    refine v_region ?_
    refine vl_val (os_assign rfl) ?_
    refine vl_nil ?_
    refine v_seq ?_
    refine v_seq ?_
    refine v_region ?_
    refine vl_val (os_move rfl) ?_
    refine vl_val (os_f (os_lss rfl rfl) (by omega)) ?_
    refine vl_val (os_move rfl) ?_
    refine vl_valg rfl (os_move rfl) ?_
    refine vl_valg rfl (os_f (os_gtr rfl rfl) (by omega)) ?_
    refine vl_val (os_pick_f rfl rfl) ?_
    refine vl_val (os_move rfl) ?_
    refine vl_valg rfl (os_move rfl) ?_
    refine vl_valg rfl (os_len Try.underlying40 rfl) ?_
    refine vl_valg rfl (os_move rfl) ?_
    refine vl_valg rfl (os_addi rfl rfl (by omega)) ?_
    refine vl_valg rfl (os_neq rfl rfl) ?_
    refine vl_val (os_pick_f rfl rfl) ?_
    refine vl_nil ?_
    refine v_cond_yes rfl (by omega) ?_
    refine v_seq ?_
    refine v_region ?_
    refine vl_val (os_assign rfl) ?_
    refine vl_nil ?_
    refine v_ret ?_
    exact post_ret rfl rfl (⟨by rw [decide_eq_false (by omega)]; rfl, lee_d.refl _⟩)
  · refine v_seq ?_
    refine v_region ?_
    refine vl_val (os_assign rfl) ?_
    refine vl_nil ?_
    refine v_seq ?_
    refine v_seq ?_
    refine v_region ?_
    refine vl_val (os_move rfl) ?_
    refine vl_val (os_f (os_lss rfl rfl) (by omega)) ?_
    refine vl_val (os_move rfl) ?_
    refine vl_valg rfl (os_move rfl) ?_
    refine vl_valg rfl (os_f (os_gtr rfl rfl) (by omega)) ?_
    refine vl_val (os_pick_f rfl rfl) ?_
    refine vl_val (os_move rfl) ?_
    refine vl_valg rfl (os_move rfl) ?_
    refine vl_valg rfl (os_len Try.underlying40 rfl) ?_
    refine vl_valg rfl (os_move rfl) ?_
    refine vl_valg rfl (os_addi rfl rfl (by omega)) ?_
    refine vl_valg rfl (os_neq rfl rfl) ?_
    refine vl_val (os_pick_f rfl rfl) ?_
    refine vl_nil ?_
    refine v_cond_no rfl (by omega) ?_
    rw [decide_eq_true (by omega : 1 ≤ n ∧ n ≤ 255 ∧ (zs.length : Int) = n + 1), Bool.true_and]
    refine v_skip ?_
    refine v_seq ?_
    refine v_seq ?_
    refine v_region ?_
    refine vl_val (os_assign rfl) ?_
    refine vl_nil ?_
    refine v_block ?_
    refine v_loop [(1, _)] (fun (k : Nat) => [(5, .int .i64 k)]) (fun k w' => k ≤ l ∧ (∀ i, i < k → 0 ≤ zs.getD i 0 ∧ zs.getD i 0 ≤ 65536 ∧ (0 < i → zs.getD i 0 ≤ zs.getD (i - 1) 0)) ∧ LeD w w') (fun k => l - k) (0) ⟨rfl, trivial⟩ ⟨rfl, trivial⟩ (⟨by omega, fun i hi => by omega, lee_d.refl _⟩) ?_
    rintro k w' ⟨hk, hs, q, rfl⟩
    refine v_seq ?_
    refine v_seq ?_
    refine v_region ?_
    refine vl_val (os_move rfl) ?_
    refine vl_val (os_move rfl) ?_
    refine vl_val (os_len Try.underlying40 rfl) ?_
    refine vl_val (os_lss rfl rfl) ?_
    refine vl_nil ?_
    refine v_cond_d rfl (fun hlt => ?_) (fun hlt => ?_)
    · obtain ⟨b1, o1, hA, c1⟩ := (ha.drewN q).at_ (i := k) (by omega)
      obtain ⟨b2, o2, hA2, c2⟩ := (ha.drewN q).at_ (i := k - 1) (by omega)
      subst hA
      cases hA2
      rcases (by omega : zs.getD k 0 < 0 ∨ 65536 < zs.getD k 0 ∨ (0 ≤ zs.getD k 0 ∧ zs.getD k 0 ≤ 65536 ∧ k = 0) ∨ (0 ≤ zs.getD k 0 ∧ zs.getD k 0 ≤ 65536 ∧ 0 < k)) with h1 | h1 | ⟨h1, h2, h3⟩ | ⟨h1, h2, h3⟩
      · refine v_skip ?_
        refine v_seq ?_
        refine v_block ?_
        refine v_seq ?_
        refine v_region_t LeD _ mixed (by kernel_rfl) lee_d (led_start _) ?_
        refine vt_val (fun w hw => os_move rfl) ?_
        refine vt_val (fun w hw => os_move rfl) ?_
        refine vt_val (fun w hw => os_ix Try.underlying40 Try.sizeOf3 rfl rfl (i := k) (by omega) (by omega)) ?_
        refine vt_val (fun w hw => os_load Try.isAgg3 rfl (led_cell hw (c1))) ?_
        refine vt_val (fun w hw => os_t (os_lss rfl rfl) (by omega)) ?_
        refine vt_val (fun w hw => os_move rfl) ?_
        refine vt_skip rfl rfl ?_
        refine vt_skip rfl rfl ?_
        refine vt_skip rfl rfl ?_
        refine vt_skip rfl rfl ?_
        refine vt_skip rfl rfl ?_
        refine vt_val (fun w hw => os_pick_t rfl rfl) ?_
        refine vt_val (fun w hw => os_move rfl) ?_
        refine vt_skip rfl rfl ?_
        refine vt_skip rfl rfl ?_
        refine vt_skip rfl rfl ?_
        refine vt_skipu rfl ?_
        refine vt_skipu rfl ?_
        refine vt_skipu rfl ?_
        refine vt_skipu rfl ?_
        refine vt_skipu rfl ?_
        refine vt_skipu rfl ?_
        refine vt_skipu rfl ?_
        refine vt_skipu rfl ?_
        refine vt_skipu rfl ?_
        refine vt_skipu rfl ?_
        refine vt_skip rfl rfl ?_
        refine vt_val (fun w hw => os_pick_t rfl rfl) ?_
        refine vt_nil (fun w hw => ?_)
        obtain ⟨q2, rfl⟩ := hw
        refine v_cond_t rfl ?_
        refine v_seq ?_
        refine v_region ?_
        refine vl_val (os_assign rfl) ?_
        refine vl_nil ?_
        refine v_ret ?_
        exact post_ret rfl rfl (⟨by rw [decide_eq_false]; intro h; have := h k (by omega); omega, _, World.drewN_drewN ..⟩)
      · refine v_skip ?_
        refine v_seq ?_
        refine v_block ?_
        refine v_seq ?_
        refine v_region_t LeD _ mixed (by kernel_rfl) lee_d (led_start _) ?_
        refine vt_val (fun w hw => os_move rfl) ?_
        refine vt_val (fun w hw => os_move rfl) ?_
        refine vt_val (fun w hw => os_ix Try.underlying40 Try.sizeOf3 rfl rfl (i := k) (by omega) (by omega)) ?_
        refine vt_val (fun w hw => os_load Try.isAgg3 rfl (led_cell hw (c1))) ?_
        refine vt_val (fun w hw => os_f (os_lss rfl rfl) (by omega)) ?_
        refine vt_val (fun w hw => os_move rfl) ?_
        refine vt_valg rfl (fun w hw => os_move rfl) ?_
        refine vt_valg rfl (fun w hw => os_move rfl) ?_
        refine vt_valg rfl (fun w hw => os_ix Try.underlying40 Try.sizeOf3 rfl rfl (i := k) (by omega) (by omega)) ?_
        refine vt_valg rfl (fun w hw => os_load Try.isAgg3 rfl (led_cell hw (c1))) ?_
        refine vt_valg rfl (fun w hw => os_t (os_gtr rfl rfl) (by omega)) ?_
        refine vt_val (fun w hw => os_pick_f rfl rfl) ?_
        refine vt_val (fun w hw => os_move rfl) ?_
        refine vt_skip rfl rfl ?_
        refine vt_skip rfl rfl ?_
        refine vt_skip rfl rfl ?_
        refine vt_skipu rfl ?_
        refine vt_skipu rfl ?_
        refine vt_skipu rfl ?_
        refine vt_skipu rfl ?_
        refine vt_skipu rfl ?_
        refine vt_skipu rfl ?_
        refine vt_skipu rfl ?_
        refine vt_skipu rfl ?_
        refine vt_skipu rfl ?_
        refine vt_skipu rfl ?_
        refine vt_skip rfl rfl ?_
        refine vt_val (fun w hw => os_pick_t rfl rfl) ?_
        refine vt_nil (fun w hw => ?_)
        obtain ⟨q2, rfl⟩ := hw
        refine v_cond_t rfl ?_
        refine v_seq ?_
        refine v_region ?_
        refine vl_val (os_assign rfl) ?_
        refine vl_nil ?_
        refine v_ret ?_
        exact post_ret rfl rfl (⟨by rw [decide_eq_false]; intro h; have := h k (by omega); omega, _, World.drewN_drewN ..⟩)
      · refine v_skip ?_
        refine v_seq ?_
        refine v_block ?_
        refine v_seq ?_
        refine v_region_t LeD _ mixed (by kernel_rfl) lee_d (led_start _) ?_
        refine vt_val (fun w hw => os_move rfl) ?_
        refine vt_val (fun w hw => os_move rfl) ?_
        refine vt_val (fun w hw => os_ix Try.underlying40 Try.sizeOf3 rfl rfl (i := k) (by omega) (by omega)) ?_
        refine vt_val (fun w hw => os_load Try.isAgg3 rfl (led_cell hw (c1))) ?_
        refine vt_val (fun w hw => os_f (os_lss rfl rfl) (by omega)) ?_
        refine vt_val (fun w hw => os_move rfl) ?_
        refine vt_valg rfl (fun w hw => os_move rfl) ?_
        refine vt_valg rfl (fun w hw => os_move rfl) ?_
        refine vt_valg rfl (fun w hw => os_ix Try.underlying40 Try.sizeOf3 rfl rfl (i := k) (by omega) (by omega)) ?_
        refine vt_valg rfl (fun w hw => os_load Try.isAgg3 rfl (led_cell hw (c1))) ?_
        refine vt_valg rfl (fun w hw => os_f (os_gtr rfl rfl) (by omega)) ?_
        refine vt_val (fun w hw => os_pick_f rfl rfl) ?_
        refine vt_val (fun w hw => os_move rfl) ?_
        refine vt_valg rfl (fun w hw => os_move rfl) ?_
        refine vt_valg rfl (fun w hw => os_f (os_gtr rfl rfl) (by omega)) ?_
        refine vt_valg rfl (fun w hw => os_move rfl) ?_
        refine vt_skip rfl rfl ?_
        refine vt_skip rfl rfl ?_
        refine vt_skip rfl rfl ?_
        refine vt_skip rfl rfl ?_
        refine vt_skip rfl rfl ?_
        refine vt_skip rfl rfl ?_
        refine vt_skip rfl rfl ?_
        refine vt_skip rfl rfl ?_
        refine vt_skip rfl rfl ?_
        refine vt_skip rfl rfl ?_
        refine vt_valg rfl (fun w hw => os_pick_f rfl rfl) ?_
        refine vt_val (fun w hw => os_pick_f rfl rfl) ?_
        refine vt_nil (fun w hw => ?_)
        obtain ⟨q2, rfl⟩ := hw
        refine v_cond_f rfl ?_
        refine v_skip ?_
        refine v_region ?_
        refine vl_val (os_move rfl) ?_
        refine vl_val (os_addi rfl rfl (by omega)) ?_
        refine vl_val (os_assign rfl) ?_
        refine vl_nil ?_
        exact ⟨k + 1, ⟨rfl, trivial⟩, ⟨rfl, trivial⟩, ⟨by omega, fun i hi => if he : i = k then (by subst he; exact ⟨h1, h2, fun h0 => by omega⟩) else hs i (by omega), _, World.drewN_drewN ..⟩, by dsimp only; omega⟩
      · refine v_skip ?_
        refine v_seq ?_
        refine v_block ?_
        refine v_seq ?_
        refine v_region_t LeD _ mixed (by kernel_rfl) lee_d (led_start _) ?_
        refine vt_val (fun w hw => os_move rfl) ?_
        refine vt_val (fun w hw => os_move rfl) ?_
        refine vt_val (fun w hw => os_ix Try.underlying40 Try.sizeOf3 rfl rfl (i := k) (by omega) (by omega)) ?_
        refine vt_val (fun w hw => os_load Try.isAgg3 rfl (led_cell hw (c1))) ?_
        refine vt_val (fun w hw => os_f (os_lss rfl rfl) (by omega)) ?_
        refine vt_val (fun w hw => os_move rfl) ?_
        refine vt_valg rfl (fun w hw => os_move rfl) ?_
        refine vt_valg rfl (fun w hw => os_move rfl) ?_
        refine vt_valg rfl (fun w hw => os_ix Try.underlying40 Try.sizeOf3 rfl rfl (i := k) (by omega) (by omega)) ?_
        refine vt_valg rfl (fun w hw => os_load Try.isAgg3 rfl (led_cell hw (c1))) ?_
        refine vt_valg rfl (fun w hw => os_f (os_gtr rfl rfl) (by omega)) ?_
        refine vt_val (fun w hw => os_pick_f rfl rfl) ?_
        refine vt_val (fun w hw => os_move rfl) ?_
        refine vt_valg rfl (fun w hw => os_move rfl) ?_
        refine vt_valg rfl (fun w hw => os_t (os_gtr rfl rfl) (by omega)) ?_
        refine vt_valg rfl (fun w hw => os_move rfl) ?_
        refine vt_valg rfl (fun w hw => os_move rfl) ?_
        refine vt_valg rfl (fun w hw => os_move rfl) ?_
        refine vt_valg rfl (fun w hw => os_ix Try.underlying40 Try.sizeOf3 rfl rfl (i := k) (by omega) (by omega)) ?_
        refine vt_valg rfl (fun w hw => os_load Try.isAgg3 rfl (led_cell hw (c1))) ?_
        refine vt_valg rfl (fun w hw => os_move rfl) ?_
        refine vt_valg rfl (fun w hw => os_move rfl) ?_
        refine vt_valg rfl (fun w hw => os_subi rfl rfl (by omega)) ?_
        refine vt_valg rfl (fun w hw => os_ix Try.underlying40 Try.sizeOf3 rfl rfl (i := k - 1) (by omega) (by omega)) ?_
        refine vt_valg rfl (fun w hw => os_load Try.isAgg3 rfl (led_cell hw (c2))) ?_
        refine vt_valg rfl (fun w hw => os_gtr rfl rfl) ?_
        refine vt_valg rfl (fun w hw => os_pick_t rfl rfl) ?_
        refine vt_val (fun w hw => os_pick_f rfl rfl) ?_
        refine vt_nil (fun w hw => ?_)
        obtain ⟨q2, rfl⟩ := hw
        refine v_cond_d rfl (fun h4 => ?_) (fun h4 => ?_)
        · refine v_seq ?_
          refine v_region ?_
          refine vl_val (os_assign rfl) ?_
          refine vl_nil ?_
          refine v_ret ?_
          exact post_ret rfl rfl (⟨by rw [decide_eq_false]; intro h; have := (h k (by omega)).2.2 (by omega); omega, _, World.drewN_drewN ..⟩)
        · refine v_skip ?_
          refine v_region ?_
          refine vl_val (os_move rfl) ?_
          refine vl_val (os_addi rfl rfl (by omega)) ?_
          refine vl_val (os_assign rfl) ?_
          refine vl_nil ?_
          exact ⟨k + 1, ⟨rfl, trivial⟩, ⟨rfl, trivial⟩, ⟨by omega, fun i hi => if he : i = k then (by subst he; exact ⟨h1, h2, fun h0 => by omega⟩) else hs i (by omega), _, World.drewN_drewN ..⟩, by dsimp only; omega⟩
    · refine v_exit ?_
      refine v_seq ?_
      refine v_region ?_
      refine vl_val (os_assign rfl) ?_
      refine vl_nil ?_
      refine v_ret ?_
      exact post_ret rfl rfl (⟨by rw [decide_eq_true]; intro i hi; exact hs i (by omega), _, rfl⟩)

theorem wg_Score (A B C : Option Addr) (l m n c d e : Nat) (worths ks ws : List Int) (w : World) (ha : Rd w .i64 A worths) (hb : Rd w .i64 B ks) (hc : Rd w .i64 C ws) (hl : l = worths.length) (hm : m = ks.length) (hn : n = ws.length) (hl' : l ≤ 9000000000000000) (hm' : m ≤ 9000000000000000) (hn' : n ≤ 9000000000000000) :
    Gives Try.prog 48 #[.slice A l c, .slice B m d, .slice C n e] w fun v w' => v = .tuple #[.int .i64 (scV worths ks ws), .int .i64 (errA (scOk worths ks ws))] ∧ LeD w w' := by
  refine gives_enter Try.call48 Try.func48 rfl rfl rfl (by kernel_rfl) ?_
  rcases (by cases wrightB ((ws.length : Int) - 1) ws <;> simp <;> omega : wrightB ((ws.length : Int) - 1) ws = false ∨ (wrightB ((ws.length : Int) - 1) ws = true ∧ ks.length ≠ worths.length) ∨ (wrightB ((ws.length : Int) - 1) ws = true ∧ ks.length = worths.length)) with h1 | ⟨h1, h2⟩ | ⟨h1, h2⟩
  · refine v_seq ?_
    refine v_region ?_
    refine vl_val (os_assign rfl) ?_
    refine vl_val (os_assign rfl) ?_
    refine vl_nil ?_
    refine v_seq ?_
    refine v_seq ?_
    refine v_region ?_
    refine vl_val (os_move rfl) ?_
    refine vl_val (os_len Try.underlying40 rfl) ?_
    refine vl_val (os_subi rfl rfl (by omega)) ?_
    refine vl_val (os_move rfl) ?_
    refine vl_call ((wg_Right ((n : Int) - 1) C n e ws w hc hn (by omega) ⟨by omega, by omega⟩).mono fun v w' hh => (⟨by rw [hh.1, hn, h1], hh.2⟩ : v = .bool false ∧ LeD w w')) rfl ?_
    rintro v w1 ⟨rfl, q, rfl⟩
    have hok : scOk worths ks ws = false := by rw [scOk, h1]; rfl
    refine vl_val (os_not rfl) ?_
    refine vl_val (os_move rfl) ?_
    refine vl_skip rfl rfl ?_
    refine vl_skip rfl rfl ?_
    refine vl_skip rfl rfl ?_
    refine vl_skip rfl rfl ?_
    refine vl_skip rfl rfl ?_
    refine vl_val (os_pick_t rfl rfl) ?_
    refine vl_val (os_move rfl) ?_
    refine vl_skip rfl rfl ?_
    refine vl_skip rfl rfl ?_
    refine vl_skip rfl rfl ?_
    refine vl_val (os_pick_t rfl rfl) ?_
    refine vl_nil ?_
    refine v_cond_t rfl ?_
    refine v_seq ?_
    refine v_region ?_
    refine vl_val (os_assign rfl) ?_
    refine vl_val (os_assign rfl) ?_
    refine vl_nil ?_
    refine v_ret ?_
    exact post_ret2 rfl rfl rfl (⟨by rw [scV, hok]; rfl, _, rfl⟩)
  · refine v_seq ?_
    refine v_region ?_
    refine vl_val (os_assign rfl) ?_
    refine vl_val (os_assign rfl) ?_
    refine vl_nil ?_
    refine v_seq ?_
    refine v_seq ?_
    refine v_region ?_
    refine vl_val (os_move rfl) ?_
    refine vl_val (os_len Try.underlying40 rfl) ?_
    refine vl_val (os_subi rfl rfl (by omega)) ?_
    refine vl_val (os_move rfl) ?_
    refine vl_call ((wg_Right ((n : Int) - 1) C n e ws w hc hn (by omega) ⟨by omega, by omega⟩).mono fun v w' hh => (⟨by rw [hh.1, hn, h1], hh.2⟩ : v = .bool true ∧ LeD w w')) rfl ?_
    rintro v w1 ⟨rfl, q, rfl⟩
    refine vl_val (os_not rfl) ?_
    refine vl_val (os_move rfl) ?_
    refine vl_valg rfl (os_move rfl) ?_
    refine vl_valg rfl (os_len Try.underlying40 rfl) ?_
    refine vl_valg rfl (os_move rfl) ?_
    refine vl_valg rfl (os_len Try.underlying40 rfl) ?_
    refine vl_valg rfl (os_t (os_neq rfl rfl) (by omega)) ?_
    have hok : scOk worths ks ws = false := by rw [scOk, h1, decide_eq_false h2]; rfl
    refine vl_val (os_pick_f rfl rfl) ?_
    refine vl_val (os_move rfl) ?_
    refine vl_skip rfl rfl ?_
    refine vl_skip rfl rfl ?_
    refine vl_skip rfl rfl ?_
    refine vl_val (os_pick_t rfl rfl) ?_
    refine vl_nil ?_
    refine v_cond_t rfl ?_
    refine v_seq ?_
    refine v_region ?_
    refine vl_val (os_assign rfl) ?_
    refine vl_val (os_assign rfl) ?_
    refine vl_nil ?_
    refine v_ret ?_
    exact post_ret2 rfl rfl rfl (⟨by rw [scV, hok]; rfl, _, rfl⟩)
  · refine v_seq ?_
    refine v_region ?_
    refine vl_val (os_assign rfl) ?_
    refine vl_val (os_assign rfl) ?_
    refine vl_nil ?_
    refine v_seq ?_
    refine v_seq ?_
    refine v_region ?_
    refine vl_val (os_move rfl) ?_
    refine vl_val (os_len Try.underlying40 rfl) ?_
    refine vl_val (os_subi rfl rfl (by omega)) ?_
    refine vl_val (os_move rfl) ?_
    refine vl_call ((wg_Right ((n : Int) - 1) C n e ws w hc hn (by omega) ⟨by omega, by omega⟩).mono fun v w' hh => (⟨by rw [hh.1, hn, h1], hh.2⟩ : v = .bool true ∧ LeD w w')) rfl ?_
    rintro v w1 ⟨rfl, q, rfl⟩
    refine vl_val (os_not rfl) ?_
    refine vl_val (os_move rfl) ?_
    refine vl_valg rfl (os_move rfl) ?_
    refine vl_valg rfl (os_len Try.underlying40 rfl) ?_
    refine vl_valg rfl (os_move rfl) ?_
    refine vl_valg rfl (os_len Try.underlying40 rfl) ?_
    refine vl_valg rfl (os_f (os_neq rfl rfl) (by omega)) ?_
    refine vl_val (os_pick_f rfl rfl) ?_
    refine vl_val (os_move rfl) ?_
    refine vl_valg rfl (os_move rfl) ?_
    refine vl_valg rfl (os_len Try.underlying40 rfl) ?_
    refine vl_valg rfl (os_gtr rfl rfl) ?_
    refine vl_val (os_pick_f rfl rfl) ?_
    refine vl_nil ?_
    refine v_cond_d rfl (fun h3 => ?_) (fun h3 => ?_)
    · have hok : scOk worths ks ws = false := by rw [scOk, h1, decide_eq_true h2, decide_eq_false (by omega : ¬ ks.length ≤ 8)]; rfl
      refine v_seq ?_
      refine v_region ?_
      refine vl_val (os_assign rfl) ?_
      refine vl_val (os_assign rfl) ?_
      refine vl_nil ?_
      refine v_ret ?_
      exact post_ret2 rfl rfl rfl (⟨by rw [scV, hok]; rfl, _, rfl⟩)
    · have hbd := wright_bd h1
      refine v_skip ?_
      refine v_seq ?_
      refine v_seq ?_
      refine v_region ?_
      refine vl_val (os_move rfl) ?_
      refine vl_val (os_len Try.underlying40 rfl) ?_
      refine vl_val (os_move rfl) ?_
      refine vl_nil ?_
      refine v_block ?_
      refine v_loop [(0, _), (2, _), (28, _), (29, _)] (fun (k : Nat) => [(6, .int .i64 (scSum worths ks ws k)), (30, .int .i64 k)]) (fun k w' => k ≤ m ∧ (∀ i, i < k → scGood worths ks ws i) ∧ 0 ≤ scSum worths ks ws k ∧ scSum worths ks ws k ≤ k * 68719476736 ∧ LeD w w') (fun k => m - k) (0) ⟨rfl, rfl, rfl, rfl, trivial⟩ ⟨rfl, rfl, trivial⟩ (⟨by omega, fun i hi => by omega, by simp [scSum], by simp [scSum], _, rfl⟩) ?_
      rintro k w' ⟨hk, hs, hs1, hs2, q2, rfl⟩
      refine v_seq ?_
      refine v_region ?_
      refine vl_val (os_lss rfl rfl) ?_
      refine vl_nil ?_
      refine v_seq ?_
      refine v_cond_d rfl (fun hlt => ?_) (fun hlt => ?_)
      · obtain ⟨bb, ob, rfl, cb⟩ := (hb.drewN q2).at_ (i := k) (by omega)
        obtain ⟨ba, oa, rfl, ca⟩ := (ha.drewN q2).at_ (i := k) (by omega)
        have hret : ¬ scGood worths ks ws k → scOk worths ks ws = false := fun hg => by rw [scOk, decide_eq_false (fun hall : ∀ i, i < ks.length → scGood worths ks ws i => hg (hall k (by omega)))]; simp
        rcases (by omega : ks.getD k 0 < 1 ∨ (1 ≤ ks.getD k 0 ∧ (n : Int) ≤ ks.getD k 0) ∨ (1 ≤ ks.getD k 0 ∧ ks.getD k 0 < n ∧ worths.getD k 0 < 0) ∨ (1 ≤ ks.getD k 0 ∧ ks.getD k 0 < n ∧ 1048576 < worths.getD k 0) ∨ (1 ≤ ks.getD k 0 ∧ ks.getD k 0 < n ∧ 0 ≤ worths.getD k 0 ∧ worths.getD k 0 ≤ 1048576)) with g | g | g | g | g
        · refine v_skip ?_
          refine v_seq ?_
          refine v_block ?_
          refine v_seq ?_
          refine v_region ?_
          refine vl_val (os_move rfl) ?_
          refine vl_val (os_ix Try.underlying40 Try.sizeOf3 rfl rfl (i := k) (by omega) (by omega)) ?_
          refine vl_val (os_load Try.isAgg3 rfl (cb)) ?_
          refine vl_val (os_assign rfl) ?_
          refine vl_val (os_assign rfl) ?_
          refine vl_nil ?_
          refine v_seq ?_
          refine v_seq ?_
          refine v_region ?_
          refine vl_val (os_move rfl) ?_
          refine vl_val (os_t (os_lss rfl rfl) (by omega)) ?_
          refine vl_val (os_move rfl) ?_
          refine vl_skip rfl rfl ?_
          refine vl_skip rfl rfl ?_
          refine vl_skip rfl rfl ?_
          refine vl_skip rfl rfl ?_
          refine vl_val (os_pick_t rfl rfl) ?_
          refine vl_val (os_move rfl) ?_
          refine vl_skip rfl rfl ?_
          refine vl_skip rfl rfl ?_
          refine vl_skip rfl rfl ?_
          refine vl_skip rfl rfl ?_
          refine vl_skip rfl rfl ?_
          refine vl_val (os_pick_t rfl rfl) ?_
          refine vl_val (os_move rfl) ?_
          refine vl_skip rfl rfl ?_
          refine vl_skip rfl rfl ?_
          refine vl_skip rfl rfl ?_
          refine vl_skip rfl rfl ?_
          refine vl_skip rfl rfl ?_
          refine vl_val (os_pick_t rfl rfl) ?_
          refine vl_nil ?_
          refine v_cond_t rfl ?_
          refine v_seq ?_
          refine v_region ?_
          refine vl_val (os_assign rfl) ?_
          refine vl_val (os_assign rfl) ?_
          refine vl_nil ?_
          refine v_ret ?_
          exact post_ret2 rfl rfl rfl (⟨by rw [scV, hret (by unfold scGood; omega)]; rfl, _, rfl⟩)
        · refine v_skip ?_
          refine v_seq ?_
          refine v_block ?_
          refine v_seq ?_
          refine v_region ?_
          refine vl_val (os_move rfl) ?_
          refine vl_val (os_ix Try.underlying40 Try.sizeOf3 rfl rfl (i := k) (by omega) (by omega)) ?_
          refine vl_val (os_load Try.isAgg3 rfl (cb)) ?_
          refine vl_val (os_assign rfl) ?_
          refine vl_val (os_assign rfl) ?_
          refine vl_nil ?_
          refine v_seq ?_
          refine v_seq ?_
          refine v_region ?_
          refine vl_val (os_move rfl) ?_
          refine vl_val (os_f (os_lss rfl rfl) (by omega)) ?_
          refine vl_val (os_move rfl) ?_
          refine vl_valg rfl (os_move rfl) ?_
          refine vl_valg rfl (os_move rfl) ?_
          refine vl_valg rfl (os_len Try.underlying40 rfl) ?_
          refine vl_valg rfl (os_t (os_geq rfl rfl) (by omega)) ?_
          refine vl_val (os_pick_f rfl rfl) ?_
          refine vl_val (os_move rfl) ?_
          refine vl_skip rfl rfl ?_
          refine vl_skip rfl rfl ?_
          refine vl_skip rfl rfl ?_
          refine vl_skip rfl rfl ?_
          refine vl_skip rfl rfl ?_
          refine vl_val (os_pick_t rfl rfl) ?_
          refine vl_val (os_move rfl) ?_
          refine vl_skip rfl rfl ?_
          refine vl_skip rfl rfl ?_
          refine vl_skip rfl rfl ?_
          refine vl_skip rfl rfl ?_
          refine vl_skip rfl rfl ?_
          refine vl_val (os_pick_t rfl rfl) ?_
          refine vl_nil ?_
          refine v_cond_t rfl ?_
          refine v_seq ?_
          refine v_region ?_
          refine vl_val (os_assign rfl) ?_
          refine vl_val (os_assign rfl) ?_
          refine vl_nil ?_
          refine v_ret ?_
          exact post_ret2 rfl rfl rfl (⟨by rw [scV, hret (by unfold scGood; omega)]; rfl, _, rfl⟩)
        · refine v_skip ?_
          refine v_seq ?_
          refine v_block ?_
          refine v_seq ?_
          refine v_region ?_
          refine vl_val (os_move rfl) ?_
          refine vl_val (os_ix Try.underlying40 Try.sizeOf3 rfl rfl (i := k) (by omega) (by omega)) ?_
          refine vl_val (os_load Try.isAgg3 rfl (cb)) ?_
          refine vl_val (os_assign rfl) ?_
          refine vl_val (os_assign rfl) ?_
          refine vl_nil ?_
          refine v_seq ?_
          refine v_seq ?_
          refine v_region ?_
          refine vl_val (os_move rfl) ?_
          refine vl_val (os_f (os_lss rfl rfl) (by omega)) ?_
          refine vl_val (os_move rfl) ?_
          refine vl_valg rfl (os_move rfl) ?_
          refine vl_valg rfl (os_move rfl) ?_
          refine vl_valg rfl (os_len Try.underlying40 rfl) ?_
          refine vl_valg rfl (os_f (os_geq rfl rfl) (by omega)) ?_
          refine vl_val (os_pick_f rfl rfl) ?_
          refine vl_val (os_move rfl) ?_
          refine vl_valg rfl (os_move rfl) ?_
          refine vl_valg rfl (os_move rfl) ?_
          refine vl_valg rfl (os_ix Try.underlying40 Try.sizeOf3 rfl rfl (i := k) (by omega) (by omega)) ?_
          refine vl_valg rfl (os_load Try.isAgg3 rfl (ca)) ?_
          refine vl_valg rfl (os_t (os_lss rfl rfl) (by omega)) ?_
          refine vl_val (os_pick_f rfl rfl) ?_
          refine vl_val (os_move rfl) ?_
          refine vl_skip rfl rfl ?_
          refine vl_skip rfl rfl ?_
          refine vl_skip rfl rfl ?_
          refine vl_skip rfl rfl ?_
          refine vl_skip rfl rfl ?_
          refine vl_val (os_pick_t rfl rfl) ?_
          refine vl_nil ?_
          refine v_cond_t rfl ?_
          refine v_seq ?_
          refine v_region ?_
          refine vl_val (os_assign rfl) ?_
          refine vl_val (os_assign rfl) ?_
          refine vl_nil ?_
          refine v_ret ?_
          exact post_ret2 rfl rfl rfl (⟨by rw [scV, hret (by unfold scGood; omega)]; rfl, _, rfl⟩)
        · refine v_skip ?_
          refine v_seq ?_
          refine v_block ?_
          refine v_seq ?_
          refine v_region ?_
          refine vl_val (os_move rfl) ?_
          refine vl_val (os_ix Try.underlying40 Try.sizeOf3 rfl rfl (i := k) (by omega) (by omega)) ?_
          refine vl_val (os_load Try.isAgg3 rfl (cb)) ?_
          refine vl_val (os_assign rfl) ?_
          refine vl_val (os_assign rfl) ?_
          refine vl_nil ?_
          refine v_seq ?_
          refine v_seq ?_
          refine v_region ?_
          refine vl_val (os_move rfl) ?_
          refine vl_val (os_f (os_lss rfl rfl) (by omega)) ?_
          refine vl_val (os_move rfl) ?_
          refine vl_valg rfl (os_move rfl) ?_
          refine vl_valg rfl (os_move rfl) ?_
          refine vl_valg rfl (os_len Try.underlying40 rfl) ?_
          refine vl_valg rfl (os_f (os_geq rfl rfl) (by omega)) ?_
          refine vl_val (os_pick_f rfl rfl) ?_
          refine vl_val (os_move rfl) ?_
          refine vl_valg rfl (os_move rfl) ?_
          refine vl_valg rfl (os_move rfl) ?_
          refine vl_valg rfl (os_ix Try.underlying40 Try.sizeOf3 rfl rfl (i := k) (by omega) (by omega)) ?_
          refine vl_valg rfl (os_load Try.isAgg3 rfl (ca)) ?_
          refine vl_valg rfl (os_f (os_lss rfl rfl) (by omega)) ?_
          refine vl_val (os_pick_f rfl rfl) ?_
          refine vl_val (os_move rfl) ?_
          refine vl_valg rfl (os_move rfl) ?_
          refine vl_valg rfl (os_move rfl) ?_
          refine vl_valg rfl (os_ix Try.underlying40 Try.sizeOf3 rfl rfl (i := k) (by omega) (by omega)) ?_
          refine vl_valg rfl (os_load Try.isAgg3 rfl (ca)) ?_
          refine vl_valg rfl (os_gtr rfl rfl) ?_
          refine vl_val (os_pick_f rfl rfl) ?_
          refine vl_nil ?_
          refine v_cond_yes rfl (by omega) ?_
          refine v_seq ?_
          refine v_region ?_
          refine vl_val (os_assign rfl) ?_
          refine vl_val (os_assign rfl) ?_
          refine vl_nil ?_
          refine v_ret ?_
          exact post_ret2 rfl rfl rfl (⟨by rw [scV, hret (by unfold scGood; omega)]; rfl, _, rfl⟩)
        · have hg : scGood worths ks ws k := by unfold scGood; omega
          obtain ⟨bc, oc, rfl, cc⟩ := (hc.drewN q2).at_ (i := (ks.getD k 0).toNat) (by omega)
          have hp := scT_bd hbd hg
          unfold scT at hp
          refine v_skip ?_
          refine v_seq ?_
          refine v_block ?_
          refine v_seq ?_
          refine v_region ?_
          refine vl_val (os_move rfl) ?_
          refine vl_val (os_ix Try.underlying40 Try.sizeOf3 rfl rfl (i := k) (by omega) (by omega)) ?_
          refine vl_val (os_load Try.isAgg3 rfl (cb)) ?_
          refine vl_val (os_assign rfl) ?_
          refine vl_val (os_assign rfl) ?_
          refine vl_nil ?_
          refine v_seq ?_
          refine v_seq ?_
          refine v_region ?_
          refine vl_val (os_move rfl) ?_
          refine vl_val (os_f (os_lss rfl rfl) (by omega)) ?_
          refine vl_val (os_move rfl) ?_
          refine vl_valg rfl (os_move rfl) ?_
          refine vl_valg rfl (os_move rfl) ?_
          refine vl_valg rfl (os_len Try.underlying40 rfl) ?_
          refine vl_valg rfl (os_f (os_geq rfl rfl) (by omega)) ?_
          refine vl_val (os_pick_f rfl rfl) ?_
          refine vl_val (os_move rfl) ?_
          refine vl_valg rfl (os_move rfl) ?_
          refine vl_valg rfl (os_move rfl) ?_
          refine vl_valg rfl (os_ix Try.underlying40 Try.sizeOf3 rfl rfl (i := k) (by omega) (by omega)) ?_
          refine vl_valg rfl (os_load Try.isAgg3 rfl (ca)) ?_
          refine vl_valg rfl (os_f (os_lss rfl rfl) (by omega)) ?_
          refine vl_val (os_pick_f rfl rfl) ?_
          refine vl_val (os_move rfl) ?_
          refine vl_valg rfl (os_move rfl) ?_
          refine vl_valg rfl (os_move rfl) ?_
          refine vl_valg rfl (os_ix Try.underlying40 Try.sizeOf3 rfl rfl (i := k) (by omega) (by omega)) ?_
          refine vl_valg rfl (os_load Try.isAgg3 rfl (ca)) ?_
          refine vl_valg rfl (os_gtr rfl rfl) ?_
          refine vl_val (os_pick_f rfl rfl) ?_
          refine vl_nil ?_
          refine v_cond_no rfl (by omega) ?_
          refine v_skip ?_
          refine v_region_t LeD _ mixed (by kernel_rfl) lee_d (led_start _) ?_
          refine vt_val (fun w hw => os_move rfl) ?_
          refine vt_val (fun w hw => os_move rfl) ?_
          refine vt_val (fun w hw => os_move rfl) ?_
          refine vt_val (fun w hw => os_ix Try.underlying40 Try.sizeOf3 rfl rfl (i := k) (by omega) (by omega)) ?_
          refine vt_val (fun w hw => os_load Try.isAgg3 rfl (led_cell hw (ca))) ?_
          refine vt_val (fun w hw => os_move rfl) ?_
          refine vt_val (fun w hw => os_move rfl) ?_
          refine vt_val (fun w hw => os_ix Try.underlying40 Try.sizeOf3 rfl rfl (i := (ks.getD k 0).toNat) (by omega) (by omega)) ?_
          refine vt_val (fun w hw => os_load Try.isAgg3 rfl (led_cell hw (cc))) ?_
          refine vt_val (fun w hw => os_muli rfl rfl (by omega)) ?_
          refine vt_val (fun w hw => os_addi rfl rfl (by omega)) ?_
          refine vt_val (fun w hw => os_assign rfl) ?_
          refine vt_nil (fun w hw => ?_)
          obtain ⟨q3, rfl⟩ := hw
          refine v_region ?_
          refine vl_val (os_addi rfl rfl (by omega)) ?_
          refine vl_val (os_move rfl) ?_
          refine vl_nil ?_
          exact ⟨k + 1, ⟨rfl, rfl, rfl, rfl, trivial⟩, ⟨rfl, rfl, trivial⟩, ⟨by omega, fun i hi => if he : i = k then (by subst he; exact hg) else hs i (by omega), by simp only [scSum, scT]; omega, by simp only [scSum, scT]; push_cast; omega, _, World.drewN_drewN ..⟩, by dsimp only; omega⟩
      · obtain rfl : k = m := by omega
        have hok : scOk worths ks ws = true := by rw [scOk, h1, decide_eq_true h2, decide_eq_true (by omega : ks.length ≤ 8), decide_eq_true (fun i hi => hs i (by omega))]; rfl
        refine v_exit ?_
        refine v_seq ?_
        refine v_region ?_
        refine vl_val (os_move rfl) ?_
        refine vl_val (os_assign rfl) ?_
        refine vl_val (os_assign rfl) ?_
        refine vl_nil ?_
        refine v_ret ?_
        exact post_ret2 rfl rfl rfl (⟨by rw [scV, hok]; simp [hm, errA], _, rfl⟩)

theorem ref_Score (A B C : Option Addr) (l m n c d e : Nat) (worths ks ws : List Int) (w : World) (ha : Rd w .i64 A worths) (hb : Rd w .i64 B ks) (hc : Rd w .i64 C ws) (hl : l = worths.length) (hm : m = ks.length) (hn : n = ws.length) (hl' : l ≤ 9000000000000000) (hm' : m ≤ 9000000000000000) (hn' : n ≤ 9000000000000000) :
    Gives Try.prog 66 #[.slice A l c, .slice B m d, .slice C n e] w fun v w' => v = .tuple #[.int .i64 (scV worths ks ws), .int .i64 (errA (scOk worths ks ws))] ∧ LeD w w' := by
  refine gives_enter Try.call66 Try.func66 rfl rfl rfl (by kernel_rfl) ?_
  rcases (by cases wrightB ((ws.length : Int) - 1) ws <;> simp <;> omega : wrightB ((ws.length : Int) - 1) ws = false ∨ (wrightB ((ws.length : Int) - 1) ws = true ∧ ks.length ≠ worths.length) ∨ (wrightB ((ws.length : Int) - 1) ws = true ∧ ks.length = worths.length)) with h1 | ⟨h1, h2⟩ | ⟨h1, h2⟩
  · refine v_seq ?_
    refine v_region ?_
    refine vl_val (os_assign rfl) ?_
    refine vl_val (os_assign rfl) ?_
    refine vl_nil ?_
    refine v_seq ?_
    refine v_region ?_
    refine vl_val (os_move rfl) ?_
    refine vl_val (os_len Try.underlying40 rfl) ?_
    refine vl_val (os_subi rfl rfl (by omega)) ?_
    refine vl_val (os_assign rfl) ?_
    refine vl_nil ?_
    refine v_seq ?_
    refine v_seq ?_
    refine v_region ?_
    refine vl_val (os_move rfl) ?_
    refine vl_val (os_move rfl) ?_
    refine vl_call ((ref_Right ((n : Int) - 1) C n e ws w hc hn (by omega) ⟨by omega, by omega⟩).mono fun v w' hh => (⟨by rw [hh.1, hn, h1], hh.2⟩ : v = .bool false ∧ LeD w w')) rfl ?_
    rintro v w1 ⟨rfl, q, rfl⟩
    have hok : scOk worths ks ws = false := by rw [scOk, h1]; rfl
    refine vl_val (os_not rfl) ?_
    refine vl_val (os_move rfl) ?_
    refine vl_skip rfl rfl ?_
    refine vl_skip rfl rfl ?_
    refine vl_skip rfl rfl ?_
    refine vl_skip rfl rfl ?_
    refine vl_skip rfl rfl ?_
    refine vl_val (os_pick_t rfl rfl) ?_
    refine vl_val (os_move rfl) ?_
    refine vl_skip rfl rfl ?_
    refine vl_skip rfl rfl ?_
    refine vl_skip rfl rfl ?_
    refine vl_val (os_pick_t rfl rfl) ?_
    refine vl_nil ?_
    refine v_cond_t rfl ?_
    refine v_seq ?_
    refine v_region ?_
    refine vl_val (os_assign rfl) ?_
    refine vl_val (os_assign rfl) ?_
    refine vl_nil ?_
    refine v_ret ?_
    exact post_ret2 rfl rfl rfl (⟨by rw [scV, hok]; rfl, _, rfl⟩)
  · refine v_seq ?_
    refine v_region ?_
    refine vl_val (os_assign rfl) ?_
    refine vl_val (os_assign rfl) ?_
    refine vl_nil ?_
    refine v_seq ?_
    refine v_region ?_
    refine vl_val (os_move rfl) ?_
    refine vl_val (os_len Try.underlying40 rfl) ?_
    refine vl_val (os_subi rfl rfl (by omega)) ?_
    refine vl_val (os_assign rfl) ?_
    refine vl_nil ?_
    refine v_seq ?_
    refine v_seq ?_
    refine v_region ?_
    refine vl_val (os_move rfl) ?_
    refine vl_val (os_move rfl) ?_
    refine vl_call ((ref_Right ((n : Int) - 1) C n e ws w hc hn (by omega) ⟨by omega, by omega⟩).mono fun v w' hh => (⟨by rw [hh.1, hn, h1], hh.2⟩ : v = .bool true ∧ LeD w w')) rfl ?_
    rintro v w1 ⟨rfl, q, rfl⟩
    refine vl_val (os_not rfl) ?_
    refine vl_val (os_move rfl) ?_
    refine vl_valg rfl (os_move rfl) ?_
    refine vl_valg rfl (os_len Try.underlying40 rfl) ?_
    refine vl_valg rfl (os_move rfl) ?_
    refine vl_valg rfl (os_len Try.underlying40 rfl) ?_
    refine vl_valg rfl (os_t (os_neq rfl rfl) (by omega)) ?_
    have hok : scOk worths ks ws = false := by rw [scOk, h1, decide_eq_false h2]; rfl
    refine vl_val (os_pick_f rfl rfl) ?_
    refine vl_val (os_move rfl) ?_
    refine vl_skip rfl rfl ?_
    refine vl_skip rfl rfl ?_
    refine vl_skip rfl rfl ?_
    refine vl_val (os_pick_t rfl rfl) ?_
    refine vl_nil ?_
    refine v_cond_t rfl ?_
    refine v_seq ?_
    refine v_region ?_
    refine vl_val (os_assign rfl) ?_
    refine vl_val (os_assign rfl) ?_
    refine vl_nil ?_
    refine v_ret ?_
    exact post_ret2 rfl rfl rfl (⟨by rw [scV, hok]; rfl, _, rfl⟩)
  · refine v_seq ?_
    refine v_region ?_
    refine vl_val (os_assign rfl) ?_
    refine vl_val (os_assign rfl) ?_
    refine vl_nil ?_
    refine v_seq ?_
    refine v_region ?_
    refine vl_val (os_move rfl) ?_
    refine vl_val (os_len Try.underlying40 rfl) ?_
    refine vl_val (os_subi rfl rfl (by omega)) ?_
    refine vl_val (os_assign rfl) ?_
    refine vl_nil ?_
    refine v_seq ?_
    refine v_seq ?_
    refine v_region ?_
    refine vl_val (os_move rfl) ?_
    refine vl_val (os_move rfl) ?_
    refine vl_call ((ref_Right ((n : Int) - 1) C n e ws w hc hn (by omega) ⟨by omega, by omega⟩).mono fun v w' hh => (⟨by rw [hh.1, hn, h1], hh.2⟩ : v = .bool true ∧ LeD w w')) rfl ?_
    rintro v w1 ⟨rfl, q, rfl⟩
    refine vl_val (os_not rfl) ?_
    refine vl_val (os_move rfl) ?_
    refine vl_valg rfl (os_move rfl) ?_
    refine vl_valg rfl (os_len Try.underlying40 rfl) ?_
    refine vl_valg rfl (os_move rfl) ?_
    refine vl_valg rfl (os_len Try.underlying40 rfl) ?_
    refine vl_valg rfl (os_f (os_neq rfl rfl) (by omega)) ?_
    refine vl_val (os_pick_f rfl rfl) ?_
    refine vl_val (os_move rfl) ?_
    refine vl_valg rfl (os_move rfl) ?_
    refine vl_valg rfl (os_len Try.underlying40 rfl) ?_
    refine vl_valg rfl (os_gtr rfl rfl) ?_
    refine vl_val (os_pick_f rfl rfl) ?_
    refine vl_nil ?_
    refine v_cond_d rfl (fun h3 => ?_) (fun h3 => ?_)
    · have hok : scOk worths ks ws = false := by rw [scOk, h1, decide_eq_true h2, decide_eq_false (by omega : ¬ ks.length ≤ 8)]; rfl
      refine v_seq ?_
      refine v_region ?_
      refine vl_val (os_assign rfl) ?_
      refine vl_val (os_assign rfl) ?_
      refine vl_nil ?_
      refine v_ret ?_
      exact post_ret2 rfl rfl rfl (⟨by rw [scV, hok]; rfl, _, rfl⟩)
    · have hbd := wright_bd h1
      refine v_skip ?_
      refine v_seq ?_
      refine v_region ?_
      refine vl_val (os_assign rfl) ?_
      refine vl_nil ?_
      refine v_seq ?_
      refine v_seq ?_
      refine v_region ?_
      refine vl_val (os_assign rfl) ?_
      refine vl_nil ?_
      refine v_block ?_
      refine v_loop [(0, _), (1, _), (2, _), (8, _)] (fun (k : Nat) => [(9, .int .i64 (scSum worths ks ws k)), (10, .int .i64 k)]) (fun k w' => k ≤ m ∧ (∀ i, i < k → scGood worths ks ws i) ∧ 0 ≤ scSum worths ks ws k ∧ scSum worths ks ws k ≤ k * 68719476736 ∧ LeD w w') (fun k => m - k) (0) ⟨rfl, rfl, rfl, rfl, trivial⟩ ⟨rfl, rfl, trivial⟩ (⟨by omega, fun i hi => by omega, by simp [scSum], by simp [scSum], _, rfl⟩) ?_
      rintro k w' ⟨hk, hs, hs1, hs2, q2, rfl⟩
      refine v_seq ?_
      refine v_seq ?_
      refine v_region ?_
      refine vl_val (os_move rfl) ?_
      refine vl_val (os_move rfl) ?_
      refine vl_val (os_len Try.underlying40 rfl) ?_
      refine vl_val (os_lss rfl rfl) ?_
      refine vl_nil ?_
      refine v_cond_d rfl (fun hlt => ?_) (fun hlt => ?_)
      · obtain ⟨bb, ob, rfl, cb⟩ := (hb.drewN q2).at_ (i := k) (by omega)
        obtain ⟨ba, oa, rfl, ca⟩ := (ha.drewN q2).at_ (i := k) (by omega)
        have hret : ¬ scGood worths ks ws k → scOk worths ks ws = false := fun hg => by rw [scOk, decide_eq_false (fun hall : ∀ i, i < ks.length → scGood worths ks ws i => hg (hall k (by omega)))]; simp
        rcases (by omega : worths.getD k 0 < 0 ∨ (0 ≤ worths.getD k 0 ∧ 1048576 < worths.getD k 0) ∨ (0 ≤ worths.getD k 0 ∧ worths.getD k 0 ≤ 1048576 ∧ ks.getD k 0 < 1) ∨ (0 ≤ worths.getD k 0 ∧ worths.getD k 0 ≤ 1048576 ∧ 1 ≤ ks.getD k 0 ∧ (n : Int) - 1 < ks.getD k 0) ∨ (1 ≤ ks.getD k 0 ∧ ks.getD k 0 < n ∧ 0 ≤ worths.getD k 0 ∧ worths.getD k 0 ≤ 1048576)) with g | g | g | g | g
        · refine v_skip ?_
          refine v_seq ?_
          refine v_block ?_
          refine v_seq ?_
          refine v_seq ?_
          refine v_region ?_
          refine vl_val (os_move rfl) ?_
          refine vl_val (os_move rfl) ?_
          refine vl_val (os_ix Try.underlying40 Try.sizeOf3 rfl rfl (i := k) (by omega) (by omega)) ?_
          refine vl_val (os_load Try.isAgg3 rfl (ca)) ?_
          refine vl_val (os_t (os_lss rfl rfl) (by omega)) ?_
          refine vl_val (os_move rfl) ?_
          refine vl_skip rfl rfl ?_
          refine vl_skip rfl rfl ?_
          refine vl_skip rfl rfl ?_
          refine vl_skip rfl rfl ?_
          refine vl_skip rfl rfl ?_
          refine vl_val (os_pick_t rfl rfl) ?_
          refine vl_val (os_move rfl) ?_
          refine vl_skip rfl rfl ?_
          refine vl_skip rfl rfl ?_
          refine vl_skip rfl rfl ?_
          refine vl_skip rfl rfl ?_
          refine vl_skip rfl rfl ?_
          refine vl_val (os_pick_t rfl rfl) ?_
          refine vl_val (os_move rfl) ?_
          refine vl_skip rfl rfl ?_
          refine vl_skip rfl rfl ?_
          refine vl_skip rfl rfl ?_
          refine vl_skip rfl rfl ?_
          refine vl_skip rfl rfl ?_
          refine vl_skip rfl rfl ?_
          refine vl_val (os_pick_t rfl rfl) ?_
          refine vl_nil ?_
          refine v_cond_t rfl ?_
          refine v_seq ?_
          refine v_region ?_
          refine vl_val (os_assign rfl) ?_
          refine vl_val (os_assign rfl) ?_
          refine vl_nil ?_
          refine v_ret ?_
          exact post_ret2 rfl rfl rfl (⟨by rw [scV, hret (by unfold scGood; omega)]; rfl, _, rfl⟩)
        · refine v_skip ?_
          refine v_seq ?_
          refine v_block ?_
          refine v_seq ?_
          refine v_seq ?_
          refine v_region ?_
          refine vl_val (os_move rfl) ?_
          refine vl_val (os_move rfl) ?_
          refine vl_val (os_ix Try.underlying40 Try.sizeOf3 rfl rfl (i := k) (by omega) (by omega)) ?_
          refine vl_val (os_load Try.isAgg3 rfl (ca)) ?_
          refine vl_val (os_f (os_lss rfl rfl) (by omega)) ?_
          refine vl_val (os_move rfl) ?_
          refine vl_valg rfl (os_move rfl) ?_
          refine vl_valg rfl (os_move rfl) ?_
          refine vl_valg rfl (os_ix Try.underlying40 Try.sizeOf3 rfl rfl (i := k) (by omega) (by omega)) ?_
          refine vl_valg rfl (os_load Try.isAgg3 rfl (ca)) ?_
          refine vl_valg rfl (os_t (os_gtr rfl rfl) (by omega)) ?_
          refine vl_val (os_pick_f rfl rfl) ?_
          refine vl_val (os_move rfl) ?_
          refine vl_skip rfl rfl ?_
          refine vl_skip rfl rfl ?_
          refine vl_skip rfl rfl ?_
          refine vl_skip rfl rfl ?_
          refine vl_skip rfl rfl ?_
          refine vl_val (os_pick_t rfl rfl) ?_
          refine vl_val (os_move rfl) ?_
          refine vl_skip rfl rfl ?_
          refine vl_skip rfl rfl ?_
          refine vl_skip rfl rfl ?_
          refine vl_skip rfl rfl ?_
          refine vl_skip rfl rfl ?_
          refine vl_skip rfl rfl ?_
          refine vl_val (os_pick_t rfl rfl) ?_
          refine vl_nil ?_
          refine v_cond_t rfl ?_
          refine v_seq ?_
          refine v_region ?_
          refine vl_val (os_assign rfl) ?_
          refine vl_val (os_assign rfl) ?_
          refine vl_nil ?_
          refine v_ret ?_
          exact post_ret2 rfl rfl rfl (⟨by rw [scV, hret (by unfold scGood; omega)]; rfl, _, rfl⟩)
        · refine v_skip ?_
          refine v_seq ?_
          refine v_block ?_
          refine v_seq ?_
          refine v_seq ?_
          refine v_region ?_
          refine vl_val (os_move rfl) ?_
          refine vl_val (os_move rfl) ?_
          refine vl_val (os_ix Try.underlying40 Try.sizeOf3 rfl rfl (i := k) (by omega) (by omega)) ?_
          refine vl_val (os_load Try.isAgg3 rfl (ca)) ?_
          refine vl_val (os_f (os_lss rfl rfl) (by omega)) ?_
          refine vl_val (os_move rfl) ?_
          refine vl_valg rfl (os_move rfl) ?_
          refine vl_valg rfl (os_move rfl) ?_
          refine vl_valg rfl (os_ix Try.underlying40 Try.sizeOf3 rfl rfl (i := k) (by omega) (by omega)) ?_
          refine vl_valg rfl (os_load Try.isAgg3 rfl (ca)) ?_
          refine vl_valg rfl (os_f (os_gtr rfl rfl) (by omega)) ?_
          refine vl_val (os_pick_f rfl rfl) ?_
          refine vl_val (os_move rfl) ?_
          refine vl_valg rfl (os_move rfl) ?_
          refine vl_valg rfl (os_move rfl) ?_
          refine vl_valg rfl (os_ix Try.underlying40 Try.sizeOf3 rfl rfl (i := k) (by omega) (by omega)) ?_
          refine vl_valg rfl (os_load Try.isAgg3 rfl (cb)) ?_
          refine vl_valg rfl (os_t (os_lss rfl rfl) (by omega)) ?_
          refine vl_val (os_pick_f rfl rfl) ?_
          refine vl_val (os_move rfl) ?_
          refine vl_skip rfl rfl ?_
          refine vl_skip rfl rfl ?_
          refine vl_skip rfl rfl ?_
          refine vl_skip rfl rfl ?_
          refine vl_skip rfl rfl ?_
          refine vl_skip rfl rfl ?_
          refine vl_val (os_pick_t rfl rfl) ?_
          refine vl_nil ?_
          refine v_cond_t rfl ?_
          refine v_seq ?_
          refine v_region ?_
          refine vl_val (os_assign rfl) ?_
          refine vl_val (os_assign rfl) ?_
          refine vl_nil ?_
          refine v_ret ?_
          exact post_ret2 rfl rfl rfl (⟨by rw [scV, hret (by unfold scGood; omega)]; rfl, _, rfl⟩)
        · refine v_skip ?_
          refine v_seq ?_
          refine v_block ?_
          refine v_seq ?_
          refine v_seq ?_
          refine v_region ?_
          refine vl_val (os_move rfl) ?_
          refine vl_val (os_move rfl) ?_
          refine vl_val (os_ix Try.underlying40 Try.sizeOf3 rfl rfl (i := k) (by omega) (by omega)) ?_
          refine vl_val (os_load Try.isAgg3 rfl (ca)) ?_
          refine vl_val (os_f (os_lss rfl rfl) (by omega)) ?_
          refine vl_val (os_move rfl) ?_
          refine vl_valg rfl (os_move rfl) ?_
          refine vl_valg rfl (os_move rfl) ?_
          refine vl_valg rfl (os_ix Try.underlying40 Try.sizeOf3 rfl rfl (i := k) (by omega) (by omega)) ?_
          refine vl_valg rfl (os_load Try.isAgg3 rfl (ca)) ?_
          refine vl_valg rfl (os_f (os_gtr rfl rfl) (by omega)) ?_
          refine vl_val (os_pick_f rfl rfl) ?_
          refine vl_val (os_move rfl) ?_
          refine vl_valg rfl (os_move rfl) ?_
          refine vl_valg rfl (os_move rfl) ?_
          refine vl_valg rfl (os_ix Try.underlying40 Try.sizeOf3 rfl rfl (i := k) (by omega) (by omega)) ?_
          refine vl_valg rfl (os_load Try.isAgg3 rfl (cb)) ?_
          refine vl_valg rfl (os_f (os_lss rfl rfl) (by omega)) ?_
          refine vl_val (os_pick_f rfl rfl) ?_
          refine vl_val (os_move rfl) ?_
          refine vl_valg rfl (os_move rfl) ?_
          refine vl_valg rfl (os_move rfl) ?_
          refine vl_valg rfl (os_ix Try.underlying40 Try.sizeOf3 rfl rfl (i := k) (by omega) (by omega)) ?_
          refine vl_valg rfl (os_load Try.isAgg3 rfl (cb)) ?_
          refine vl_valg rfl (os_move rfl) ?_
          refine vl_valg rfl (os_gtr rfl rfl) ?_
          refine vl_val (os_pick_f rfl rfl) ?_
          refine vl_nil ?_
          refine v_cond_yes rfl (by omega) ?_
          refine v_seq ?_
          refine v_region ?_
          refine vl_val (os_assign rfl) ?_
          refine vl_val (os_assign rfl) ?_
          refine vl_nil ?_
          refine v_ret ?_
          exact post_ret2 rfl rfl rfl (⟨by rw [scV, hret (by unfold scGood; omega)]; rfl, _, rfl⟩)
        · have hg : scGood worths ks ws k := by unfold scGood; omega
          obtain ⟨bc, oc, rfl, cc⟩ := (hc.drewN q2).at_ (i := (ks.getD k 0).toNat) (by omega)
          have hp := scT_bd hbd hg
          unfold scT at hp
          refine v_skip ?_
          refine v_seq ?_
          refine v_block ?_
          refine v_seq ?_
          refine v_seq ?_
          refine v_region ?_
          refine vl_val (os_move rfl) ?_
          refine vl_val (os_move rfl) ?_
          refine vl_val (os_ix Try.underlying40 Try.sizeOf3 rfl rfl (i := k) (by omega) (by omega)) ?_
          refine vl_val (os_load Try.isAgg3 rfl (ca)) ?_
          refine vl_val (os_f (os_lss rfl rfl) (by omega)) ?_
          refine vl_val (os_move rfl) ?_
          refine vl_valg rfl (os_move rfl) ?_
          refine vl_valg rfl (os_move rfl) ?_
          refine vl_valg rfl (os_ix Try.underlying40 Try.sizeOf3 rfl rfl (i := k) (by omega) (by omega)) ?_
          refine vl_valg rfl (os_load Try.isAgg3 rfl (ca)) ?_
          refine vl_valg rfl (os_f (os_gtr rfl rfl) (by omega)) ?_
          refine vl_val (os_pick_f rfl rfl) ?_
          refine vl_val (os_move rfl) ?_
          refine vl_valg rfl (os_move rfl) ?_
          refine vl_valg rfl (os_move rfl) ?_
          refine vl_valg rfl (os_ix Try.underlying40 Try.sizeOf3 rfl rfl (i := k) (by omega) (by omega)) ?_
          refine vl_valg rfl (os_load Try.isAgg3 rfl (cb)) ?_
          refine vl_valg rfl (os_f (os_lss rfl rfl) (by omega)) ?_
          refine vl_val (os_pick_f rfl rfl) ?_
          refine vl_val (os_move rfl) ?_
          refine vl_valg rfl (os_move rfl) ?_
          refine vl_valg rfl (os_move rfl) ?_
          refine vl_valg rfl (os_ix Try.underlying40 Try.sizeOf3 rfl rfl (i := k) (by omega) (by omega)) ?_
          refine vl_valg rfl (os_load Try.isAgg3 rfl (cb)) ?_
          refine vl_valg rfl (os_move rfl) ?_
          refine vl_valg rfl (os_gtr rfl rfl) ?_
          refine vl_val (os_pick_f rfl rfl) ?_
          refine vl_nil ?_
          refine v_cond_no rfl (by omega) ?_
          refine v_skip ?_
          refine v_region_t LeD _ mixed (by kernel_rfl) lee_d (led_start _) ?_
          refine vt_val (fun w hw => os_move rfl) ?_
          refine vt_val (fun w hw => os_move rfl) ?_
          refine vt_val (fun w hw => os_move rfl) ?_
          refine vt_val (fun w hw => os_ix Try.underlying40 Try.sizeOf3 rfl rfl (i := k) (by omega) (by omega)) ?_
          refine vt_val (fun w hw => os_load Try.isAgg3 rfl (led_cell hw (ca))) ?_
          refine vt_val (fun w hw => os_move rfl) ?_
          refine vt_val (fun w hw => os_move rfl) ?_
          refine vt_val (fun w hw => os_move rfl) ?_
          refine vt_val (fun w hw => os_ix Try.underlying40 Try.sizeOf3 rfl rfl (i := k) (by omega) (by omega)) ?_
          refine vt_val (fun w hw => os_load Try.isAgg3 rfl (led_cell hw (cb))) ?_
          refine vt_val (fun w hw => os_ix Try.underlying40 Try.sizeOf3 rfl rfl (i := (ks.getD k 0).toNat) (by omega) (by omega)) ?_
          refine vt_val (fun w hw => os_load Try.isAgg3 rfl (led_cell hw (cc))) ?_
          refine vt_val (fun w hw => os_muli rfl rfl (by omega)) ?_
          refine vt_val (fun w hw => os_addi rfl rfl (by omega)) ?_
          refine vt_val (fun w hw => os_assign rfl) ?_
          refine vt_nil (fun w hw => ?_)
          obtain ⟨q3, rfl⟩ := hw
          refine v_region ?_
          refine vl_val (os_move rfl) ?_
          refine vl_val (os_addi rfl rfl (by omega)) ?_
          refine vl_val (os_assign rfl) ?_
          refine vl_nil ?_
          exact ⟨k + 1, ⟨rfl, rfl, rfl, rfl, trivial⟩, ⟨rfl, rfl, trivial⟩, ⟨by omega, fun i hi => if he : i = k then (by subst he; exact hg) else hs i (by omega), by simp only [scSum, scT]; omega, by simp only [scSum, scT]; push_cast; omega, _, World.drewN_drewN ..⟩, by dsimp only; omega⟩
      · obtain rfl : k = m := by omega
        have hok : scOk worths ks ws = true := by rw [scOk, h1, decide_eq_true h2, decide_eq_true (by omega : ks.length ≤ 8), decide_eq_true (fun i hi => hs i (by omega))]; rfl
        refine v_exit ?_
        refine v_seq ?_
        refine v_region ?_
        refine vl_val (os_move rfl) ?_
        refine vl_val (os_assign rfl) ?_
        refine vl_val (os_assign rfl) ?_
        refine vl_nil ?_
        refine v_ret ?_
        exact post_ret2 rfl rfl rfl (⟨by rw [scV, hok]; simp [hm, errA], _, rfl⟩)

end Go.Proofs.Ytpojijnjdlnokaa
