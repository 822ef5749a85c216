/- Layer 9: the walk of StripBack. -/
import Derived.Test.YtpojijnjdlnokaaSpL
import Derived.Test.YtpojijnjdlnokaaSmL
import Derived.Test.YtpojijnjdlnokaaRsB
namespace Go.Proofs.Ytpojijnjdlnokaa
open Go.RowKit
set_option linter.unusedVariables false

theorem law09_size (A : Option Addr) (n c : Nat) (ls : List (List Int)) (w : World) (ha : RdS w .u8 A ls) (hn : n = ls.length) (hm : n ≤ 140737488351232) : Gives Try.prog 10 #[.slice A n c] w fun v w' => (∃ N : Nat, v = .int .i64 N ∧ N ≤ 200000000000000 ∧ (N ≤ 70000 → N = ls.length + lenS ls)) ∧ w' = w := by
  refine gives_enter Try.call10 Try.func10 rfl rfl rfl (by kernel_rfl) ?_
  refine v_seq ?_
  refine v_region ?_
  refine vl_val (os_assign rfl) ?_
  refine vl_nil ?_
  refine v_seq ?_
  refine v_region ?_
  refine vl_val (os_move rfl) ?_
  refine vl_val (os_len Try.underlying23 rfl) ?_
  refine vl_val (os_assign rfl) ?_
  refine vl_nil ?_
  refine v_seq ?_
  refine v_seq ?_
  refine v_region ?_
  refine vl_val (os_assign rfl) ?_
  refine vl_nil ?_
  refine v_block ?_
  refine v_loop2 [(0, _)] (fun (N : Nat) (i : Nat) => [(3, .int .i64 N), (4, .int .i64 i)]) (fun N i w' => i ≤ n ∧ N = n + lenS (ls.take i) ∧ N ≤ 200000000000000 ∧ w' = w) (fun N i => n - i) (n) (0) ⟨rfl, trivial⟩ ⟨rfl, rfl, trivial⟩ (⟨by omega, by simp [lenS], by omega, rfl⟩) ?_
  rintro N i w' ⟨hi, hN, hN2, rfl⟩
  rcases (by omega : n ≤ i ∨ (i < n ∧ 70000 < N) ∨ (i < n ∧ N ≤ 70000)) with h | ⟨h, h2⟩ | ⟨h, h2⟩
  · refine v_seq ?_
    refine v_seq ?_
    refine v_region ?_
    refine vl_val (os_move rfl) ?_
    refine vl_val (os_move rfl) ?_
    refine vl_val (os_len Try.underlying23 rfl) ?_
    refine vl_val (os_f (os_lss rfl rfl) (by omega)) ?_
    refine vl_val (os_move rfl) ?_
    refine vl_skip rfl rfl ?_
    refine vl_skip rfl rfl ?_
    refine vl_val (os_pick_f rfl rfl) ?_
    refine vl_nil ?_
    refine v_cond_f rfl ?_
    refine v_exit ?_
    refine v_seq ?_
    refine v_region ?_
    refine vl_val (os_move rfl) ?_
    refine vl_val (os_assign rfl) ?_
    refine vl_nil ?_
    refine v_ret ?_
    exact post_ret rfl rfl (⟨⟨N, rfl, hN2, fun hh => by rw [List.take_of_length_le (by omega)] at hN; omega⟩, rfl⟩)
  · refine v_seq ?_
    refine v_seq ?_
    refine v_region ?_
    refine vl_val (os_move rfl) ?_
    refine vl_val (os_move rfl) ?_
    refine vl_val (os_len Try.underlying23 rfl) ?_
    refine vl_val (os_t (os_lss rfl rfl) (by omega)) ?_
    refine vl_val (os_move rfl) ?_
    refine vl_valg rfl (os_move rfl) ?_
    refine vl_valg rfl (os_leq rfl rfl) ?_
    refine vl_val (os_pick_t rfl rfl) ?_
    refine vl_nil ?_
    refine v_cond_no rfl (by omega) ?_
    refine v_exit ?_
    refine v_seq ?_
    refine v_region ?_
    refine vl_val (os_move rfl) ?_
    refine vl_val (os_assign rfl) ?_
    refine vl_nil ?_
    refine v_ret ?_
    exact post_ret rfl rfl (⟨⟨N, rfl, hN2, fun hh => by omega⟩, rfl⟩)
  · refine v_seq ?_
    refine v_seq ?_
    refine v_region ?_
    refine vl_val (os_move rfl) ?_
    refine vl_val (os_move rfl) ?_
    refine vl_val (os_len Try.underlying23 rfl) ?_
    refine vl_val (os_t (os_lss rfl rfl) (by omega)) ?_
    refine vl_val (os_move rfl) ?_
    refine vl_valg rfl (os_move rfl) ?_
    refine vl_valg rfl (os_leq rfl rfl) ?_
    refine vl_val (os_pick_t rfl rfl) ?_
    refine vl_nil ?_
    refine v_cond_yes rfl (by omega) ?_
    obtain ⟨b, o, Ai, ci, rfl, h3, h4, h5, h6⟩ := ha.at_ (i := i) (by omega)
    refine v_skip ?_
    refine v_seq ?_
    refine v_block ?_
    refine v_region ?_
    refine vl_val (os_move rfl) ?_
    refine vl_val (os_move rfl) ?_
    refine vl_val (os_move rfl) ?_
    refine vl_val (os_ix Try.underlying23 Try.sizeOf22 rfl rfl (i := i) (by omega) (by omega)) ?_
    refine vl_val (os_load Try.isAgg22 rfl (h3)) ?_
    refine vl_val (os_len Try.underlying22 rfl) ?_
    refine vl_val (os_addi rfl rfl (by omega)) ?_
    refine vl_val (os_assign rfl) ?_
    refine vl_nil ?_
    refine v_region ?_
    refine vl_val (os_move rfl) ?_
    refine vl_val (os_addi rfl rfl (by omega)) ?_
    refine vl_val (os_assign rfl) ?_
    refine vl_nil ?_
    exact ⟨⟨N + (ls.getD i []).length, i + 1⟩, ⟨rfl, trivial⟩, ⟨rfl, rfl, trivial⟩, ⟨by omega, by rw [lenS_take (by omega)]; omega, by omega, rfl⟩, by dsimp only; omega⟩
def wasteV (long k : Int) : Int := if widthOk long k then widthW long k * k - long else 0
theorem sp_Waste (long k : Int) (w : World) (h1 : -9223372036854775808 ≤ long ∧ long ≤ 9223372036854775807) (h2 : -9223372036854775808 ≤ k ∧ k ≤ 9223372036854775807) : Gives Try.prog 20 #[.int .i64 long, .int .i64 k] w fun v w' => v = .tuple #[.int .i64 (wasteV long k), .int .i64 (errE (widthOk long k))] ∧ w' = w := by
  cases hok : widthOk long k
  · skip
    refine gives_enter Try.call20 Try.func20 rfl rfl rfl (by kernel_rfl) ?_
    refine v_seq ?_
    refine v_region ?_
    refine vl_val (os_assign rfl) ?_
    refine vl_val (os_assign rfl) ?_
    refine vl_nil ?_
    refine v_seq ?_
    refine v_region ?_
    refine vl_val (os_move rfl) ?_
    refine vl_val (os_move rfl) ?_
    refine vl_call (sp_Width long k w h1 h2) rfl ?_
    rintro v w ⟨rfl, rfl⟩
    rw [hok]
    refine vl_val (os_move rfl) ?_
    refine vl_val (os_extract rfl rfl) ?_
    refine vl_val (os_extract rfl rfl) ?_
    refine vl_val (os_assign rfl) ?_
    refine vl_val (os_assign rfl) ?_
    refine vl_nil ?_
    refine v_seq ?_
    refine v_seq ?_
    refine v_region ?_
    refine vl_val (os_move rfl) ?_
    refine vl_val (os_neq rfl rfl) ?_
    refine vl_nil ?_
    refine v_cond_yes rfl (by decide) ?_
    refine v_seq ?_
    refine v_region ?_
    refine vl_val (os_move rfl) ?_
    refine vl_val (os_assign rfl) ?_
    refine vl_val (os_assign rfl) ?_
    refine vl_nil ?_
    refine v_ret ?_
    exact post_ret2 rfl rfl rfl (⟨by simp [wasteV, hok, errE], rfl⟩)
  · obtain ⟨hk3, hk4, hk5, hk6⟩ : 0 ≤ long ∧ long ≤ 65535 ∧ 1 ≤ k ∧ k ≤ 255 := by simpa [widthOk] using hok
    have hwb := width_bd hok
    have hm1 : 0 ≤ widthW long k * k := Int.mul_nonneg (by omega) (by omega)
    have hm2 : widthW long k * k ≤ 65535 * 255 := Int.mul_le_mul (by omega) (by omega) (by omega) (by omega)
    have hw : widthV long k = widthW long k := by simp [widthV, hok]
    have hmul : IntKind.i64.wrap (widthW long k * k) = widthW long k * k := i64_fit ⟨by omega, by omega⟩
    have hsub : IntKind.i64.wrap (widthW long k * k - long) = wasteV long k := by unfold wasteV; rw [if_pos hok]; exact i64_fit ⟨by omega, by omega⟩
    refine gives_enter Try.call20 Try.func20 rfl rfl rfl (by kernel_rfl) ?_
    refine v_seq ?_
    refine v_region ?_
    refine vl_val (os_assign rfl) ?_
    refine vl_val (os_assign rfl) ?_
    refine vl_nil ?_
    refine v_seq ?_
    refine v_region ?_
    refine vl_val (os_move rfl) ?_
    refine vl_val (os_move rfl) ?_
    refine vl_call (sp_Width long k w h1 h2) rfl ?_
    rintro v w ⟨rfl, rfl⟩
    rw [hok, hw]
    refine vl_val (os_move rfl) ?_
    refine vl_val (os_extract rfl rfl) ?_
    refine vl_val (os_extract rfl rfl) ?_
    refine vl_val (os_assign rfl) ?_
    refine vl_val (os_assign rfl) ?_
    refine vl_nil ?_
    refine v_seq ?_
    refine v_seq ?_
    refine v_region ?_
    refine vl_val (os_move rfl) ?_
    refine vl_val (os_neq rfl rfl) ?_
    refine vl_nil ?_
    refine v_cond_no rfl (by decide) ?_
    refine v_skip ?_
    refine v_seq ?_
    refine v_region ?_
    refine vl_val (os_move rfl) ?_
    refine vl_val (os_move rfl) ?_
    refine vl_val (os_mul rfl rfl (hmul)) ?_
    refine vl_val (os_move rfl) ?_
    refine vl_val (os_sub rfl rfl (hsub)) ?_
    refine vl_val (os_assign rfl) ?_
    refine vl_val (os_assign rfl) ?_
    refine vl_nil ?_
    refine v_ret ?_
    exact post_ret2 rfl rfl rfl (⟨rfl, rfl⟩)

theorem flat_at {wd : Nat} : ∀ {ls : List (List Int)} {i j : Nat}, (∀ l ∈ ls, l.length = wd) → i < ls.length → j < wd → ls.flatten.getD (i * wd + j) 0 = (ls.getD i []).getD j 0
  | [], i, j, _, hi, _ => by simp at hi
  | l :: r, 0, j, h, _, hj => by
    have := h l (by simp)
    simp [List.getElem?_append, show j < l.length by omega]
  | l :: r, i + 1, j, h, hi, hj => by
    have h1 := h l (by simp)
    have ih := flat_at (ls := r) (i := i) (j := j) (fun x hx => h x (by simp [hx])) (by simpa using hi) hj
    have e : (i + 1) * wd + j = l.length + (i * wd + j) := by rw [Nat.add_mul, Nat.one_mul, h1]; omega
    rw [e, List.flatten_cons]
    have : (l ++ r.flatten).getD (l.length + (i * wd + j)) 0 = r.flatten.getD (i * wd + j) 0 := by simp [List.getElem?_append, show ¬ (l.length + (i * wd + j) < l.length) by omega]
    rw [this, ih]
    simp
theorem padL_at {bs : List Int} {m p : Nat} : (padL bs m).getD p 0 = bs.getD p 0 := by
  unfold padL
  by_cases h : p < bs.length
  · simp [List.getElem?_append, h]
  · simp [List.getElem?_append, h]
    rw [List.getElem?_replicate]
    split <;> rfl
theorem row_at {bs : List Int} {wd K r j : Nat} (hr : r < K) (hj : j < wd) : ((rowsOf bs wd K).getD r []).getD j 0 = bs.getD (r * wd + j) 0 := by
  have e := padL_at (bs := bs) (m := wd * K) (p := r * wd + j)
  rw [rowsOf_at hr, ← e]
  simp [List.getElem?_take, List.getElem?_drop, hj]
theorem back_at {ls : List (List Int)} {wd L i j : Nat} (h : ∀ l ∈ ls, l.length = wd) (hi : i < ls.length) (hj : j < wd) :
    ((rowsOf (ls.flatten.take L) wd ls.length).getD i []).getD j 0 = if i * wd + j < L then (ls.getD i []).getD j 0 else 0 := by
  rw [row_at hi hj, ← flat_at h hi hj]
  simp only [List.getD_eq_getElem?_getD, List.getElem?_take]
  split <;> rfl
theorem rowsOf_join {bs : List Int} {wd K : Nat} (hb : bs.length ≤ wd * K) : (rowsOf bs wd K).flatten.take bs.length = bs := by
  have hl : ∀ l ∈ rowsOf bs wd K, l.length = wd := fun l hl => by
    obtain ⟨i, hi, rfl⟩ := List.getElem_of_mem hl
    have hi' : i < K := by simpa [rowsOf] using hi
    have := rowsOf_len hb hi'
    simpa [hi] using this
  have hfl := flat_len hl
  have hK : (rowsOf bs wd K).length = K := by simp [rowsOf]
  rw [hK] at hfl
  apply List.ext_getElem?
  intro p
  by_cases hp : p < bs.length
  · rw [List.getElem?_take, if_pos hp]
    have hw : 0 < wd := by rcases Nat.eq_zero_or_pos wd with h | h; (subst h; omega); exact h
    have h1 := Nat.div_add_mod p wd
    have h2 := Nat.mod_lt p hw
    have h3 : p / wd < K := Nat.div_lt_of_lt_mul (by omega)
    have h4 := flat_at hl (i := p / wd) (j := p % wd) (by omega) h2
    rw [row_at h3 h2] at h4
    rw [show p / wd * wd + p % wd = p by rw [Nat.mul_comm]; exact h1] at h4
    simp only [List.getD_eq_getElem?_getD] at h4
    rw [List.getElem?_eq_getElem (by omega), List.getElem?_eq_getElem hp] at h4 ⊢
    simpa using h4
  · rw [List.getElem?_take, if_neg hp, List.getElem?_eq_none (by omega)]

end Go.Proofs.Ytpojijnjdlnokaa
