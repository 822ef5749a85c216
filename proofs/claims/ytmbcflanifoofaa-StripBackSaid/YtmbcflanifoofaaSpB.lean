/- Layer 9: the walk of StripBack. -/
import Derived.Test.YtmbcflanifoofaaSpL
import Derived.Test.YtmbcflanifoofaaSmL
import Derived.Test.YtmbcflanifoofaaRsB
namespace Go.Proofs.Ytmbcflanifoofaa
open Go.RowKit
set_option linter.unusedVariables false

theorem law09_size (A : Option Addr) (n c : Nat) (ls : List (List Int)) (w : World) (ha : RdS w .u8 A ls) (hn : n = ls.length) (hm : n ≤ 140737488351232) : Gives Try.prog 21 #[.slice A n c] w fun v w' => (∃ N : Nat, v = .int .i64 N ∧ N ≤ 200000000000000 ∧ (N ≤ 70000 → N = ls.length + lenS ls)) ∧ w' = w := by
  refine gives_enter Try.call21 Try.func21 rfl rfl rfl (by kernel_rfl) ?_
  refine v_seq ?_
  refine v_region ?_
  refine vl_val (os_assign rfl) ?_
  refine vl_nil ?_
  refine v_seq ?_
  refine v_region ?_
  refine vl_val (os_move rfl) ?_
  refine vl_val (os_len Try.underlying34 rfl) ?_
  refine vl_val (os_assign rfl) ?_
  refine vl_nil ?_
  refine v_seq ?_
  refine v_seq ?_
  refine v_region ?_
  refine vl_val (os_assign rfl) ?_
  refine vl_nil ?_
  refine v_block ?_
  refine v_loop2 [(0, _)] (fun (N : Nat) (i : Nat) => [(3, .int .i64 N), (4, .int .i64 i)]) (fun N i w' => i ≤ n ∧ N = n + lenS (ls.take i) ∧ N ≤ 200000000000000 ∧ w' = w) (fun N i => n - i) (n) (0) ⟨rfl, trivial⟩ ⟨rfl, rfl, trivial⟩ (⟨by omega, by simp [lenS], by omega, rfl⟩) ?_
  rintro N i w' ⟨hi, hN, hN2, rfl⟩
  rcases (by omega : n ≤ i ∨ (i < n ∧ 70000 < N) ∨ (i < n ∧ N ≤ 70000)) with h | ⟨h, h2⟩ | ⟨h, h2⟩
  · refine v_seq ?_
    refine v_seq ?_
    refine v_region ?_
    refine vl_val (os_move rfl) ?_
    refine vl_val (os_move rfl) ?_
    refine vl_val (os_len Try.underlying34 rfl) ?_
    refine vl_val (os_f (os_lss rfl rfl) (by omega)) ?_
    refine vl_val (os_move rfl) ?_
    refine vl_skip rfl rfl ?_
    refine vl_skip rfl rfl ?_
    refine vl_val (os_pick_f rfl rfl) ?_
    refine vl_nil ?_
    refine v_cond_f rfl ?_
    refine v_exit ?_
    refine v_seq ?_
    refine v_region ?_
    refine vl_val (os_move rfl) ?_
    refine vl_val (os_assign rfl) ?_
    refine vl_nil ?_
    refine v_ret ?_
    exact post_ret rfl rfl (⟨⟨N, rfl, hN2, fun hh => by rw [List.take_of_length_le (by omega)] at hN; omega⟩, rfl⟩)
  · refine v_seq ?_
    refine v_seq ?_
    refine v_region ?_
    refine vl_val (os_move rfl) ?_
    refine vl_val (os_move rfl) ?_
    refine vl_val (os_len Try.underlying34 rfl) ?_
    refine vl_val (os_t (os_lss rfl rfl) (by omega)) ?_
    refine vl_val (os_move rfl) ?_
    refine vl_valg rfl (os_move rfl) ?_
    refine vl_valg rfl (os_leq rfl rfl) ?_
    refine vl_val (os_pick_t rfl rfl) ?_
    refine vl_nil ?_
    refine v_cond_no rfl (by omega) ?_
    refine v_exit ?_
    refine v_seq ?_
    refine v_region ?_
    refine vl_val (os_move rfl) ?_
    refine vl_val (os_assign rfl) ?_
    refine vl_nil ?_
    refine v_ret ?_
    exact post_ret rfl rfl (⟨⟨N, rfl, hN2, fun hh => by omega⟩, rfl⟩)
  · refine v_seq ?_
    refine v_seq ?_
    refine v_region ?_
    refine vl_val (os_move rfl) ?_
    refine vl_val (os_move rfl) ?_
    refine vl_val (os_len Try.underlying34 rfl) ?_
    refine vl_val (os_t (os_lss rfl rfl) (by omega)) ?_
    refine vl_val (os_move rfl) ?_
    refine vl_valg rfl (os_move rfl) ?_
    refine vl_valg rfl (os_leq rfl rfl) ?_
    refine vl_val (os_pick_t rfl rfl) ?_
    refine vl_nil ?_
    refine v_cond_yes rfl (by omega) ?_
    obtain ⟨b, o, Ai, ci, rfl, h3, h4, h5, h6⟩ := ha.at_ (i := i) (by omega)
    refine v_skip ?_
    refine v_seq ?_
    refine v_block ?_
    refine v_region ?_
    refine vl_val (os_move rfl) ?_
    refine vl_val (os_move rfl) ?_
    refine vl_val (os_move rfl) ?_
    refine vl_val (os_ix Try.underlying34 Try.sizeOf33 rfl rfl (i := i) (by omega) (by omega)) ?_
    refine vl_val (os_load Try.isAgg33 rfl (h3)) ?_
    refine vl_val (os_len Try.underlying33 rfl) ?_
    refine vl_val (os_addi rfl rfl (by omega)) ?_
    refine vl_val (os_assign rfl) ?_
    refine vl_nil ?_
    refine v_region ?_
    refine vl_val (os_move rfl) ?_
    refine vl_val (os_addi rfl rfl (by omega)) ?_
    refine vl_val (os_assign rfl) ?_
    refine vl_nil ?_
    exact ⟨⟨N + (ls.getD i []).length, i + 1⟩, ⟨rfl, trivial⟩, ⟨rfl, rfl, trivial⟩, ⟨by omega, by rw [lenS_take (by omega)]; omega, by omega, rfl⟩, by dsimp only; omega⟩
def wasteV (long k : Int) : Int := if widthOk long k then widthW long k * k - long else 0
theorem sp_Waste (long k : Int) (w : World) (h1 : -9223372036854775808 ≤ long ∧ long ≤ 9223372036854775807) (h2 : -9223372036854775808 ≤ k ∧ k ≤ 9223372036854775807) : Gives Try.prog 29 #[.int .i64 long, .int .i64 k] w fun v w' => v = .tuple #[.int .i64 (wasteV long k), .int .i64 (errE (widthOk long k))] ∧ w' = w := by
  cases hok : widthOk long k
  · skip
    refine gives_enter Try.call29 Try.func29 rfl rfl rfl (by kernel_rfl) ?_
    refine v_seq ?_
    refine v_region ?_
    refine vl_val (os_assign rfl) ?_
    refine vl_val (os_assign rfl) ?_
    refine vl_nil ?_
    refine v_seq ?_
    refine v_region ?_
    refine vl_val (os_move rfl) ?_
    refine vl_val (os_move rfl) ?_
    refine vl_call (sp_Width long k w h1 h2) rfl ?_
    rintro v w ⟨rfl, rfl⟩
    rw [hok]
    refine vl_val (os_move rfl) ?_
    refine vl_val (os_extract rfl rfl) ?_
    refine vl_val (os_extract rfl rfl) ?_
    refine vl_val (os_assign rfl) ?_
    refine vl_val (os_assign rfl) ?_
    refine vl_nil ?_
    refine v_seq ?_
    refine v_seq ?_
    refine v_region ?_
    refine vl_val (os_move rfl) ?_
    refine vl_val (os_neq rfl rfl) ?_
    refine vl_nil ?_
    refine v_cond_yes rfl (by decide) ?_
    refine v_seq ?_
    refine v_region ?_
    refine vl_val (os_move rfl) ?_
    refine vl_val (os_assign rfl) ?_
    refine vl_val (os_assign rfl) ?_
    refine vl_nil ?_
    refine v_ret ?_
    exact post_ret2 rfl rfl rfl (⟨by simp [wasteV, hok, errE], rfl⟩)
  · obtain ⟨hk3, hk4, hk5, hk6⟩ : 0 ≤ long ∧ long ≤ 65535 ∧ 1 ≤ k ∧ k ≤ 255 := by simpa [widthOk] using hok
    have hwb := width_bd hok
    have hm1 : 0 ≤ widthW long k * k := Int.mul_nonneg (by omega) (by omega)
    have hm2 : widthW long k * k ≤ 65535 * 255 := Int.mul_le_mul (by omega) (by omega) (by omega) (by omega)
    have hw : widthV long k = widthW long k := by simp [widthV, hok]
    have hmul : IntKind.i64.wrap (widthW long k * k) = widthW long k * k := i64_fit ⟨by omega, by omega⟩
    have hsub : IntKind.i64.wrap (widthW long k * k - long) = wasteV long k := by unfold wasteV; rw [if_pos hok]; exact i64_fit ⟨by omega, by omega⟩
    refine gives_enter Try.call29 Try.func29 rfl rfl rfl (by kernel_rfl) ?_
    refine v_seq ?_
    refine v_region ?_
    refine vl_val (os_assign rfl) ?_
    refine vl_val (os_assign rfl) ?_
    refine vl_nil ?_
    refine v_seq ?_
    refine v_region ?_
    refine vl_val (os_move rfl) ?_
    refine vl_val (os_move rfl) ?_
    refine vl_call (sp_Width long k w h1 h2) rfl ?_
    rintro v w ⟨rfl, rfl⟩
    rw [hok, hw]
    refine vl_val (os_move rfl) ?_
    refine vl_val (os_extract rfl rfl) ?_
    refine vl_val (os_extract rfl rfl) ?_
    refine vl_val (os_assign rfl) ?_
    refine vl_val (os_assign rfl) ?_
    refine vl_nil ?_
    refine v_seq ?_
    refine v_seq ?_
    refine v_region ?_
    refine vl_val (os_move rfl) ?_
    refine vl_val (os_neq rfl rfl) ?_
    refine vl_nil ?_
    refine v_cond_no rfl (by decide) ?_
    refine v_skip ?_
    refine v_seq ?_
    refine v_region ?_
    refine vl_val (os_move rfl) ?_
    refine vl_val (os_move rfl) ?_
    refine vl_val (os_mul rfl rfl (hmul)) ?_
    refine vl_val (os_move rfl) ?_
    refine vl_val (os_sub rfl rfl (hsub)) ?_
    refine vl_val (os_assign rfl) ?_
    refine vl_val (os_assign rfl) ?_
    refine vl_nil ?_
    refine v_ret ?_
    exact post_ret2 rfl rfl rfl (⟨rfl, rfl⟩)

theorem flat_at {wd : Nat} : ∀ {ls : List (List Int)} {i j : Nat}, (∀ l ∈ ls, l.length = wd) → i < ls.length → j < wd → ls.flatten.getD (i * wd + j) 0 = (ls.getD i []).getD j 0
  | [], i, j, _, hi, _ => by simp at hi
  | l :: r, 0, j, h, _, hj => by
    have := h l (by simp)
    simp [List.getElem?_append, show j < l.length by omega]
  | l :: r, i + 1, j, h, hi, hj => by
    have h1 := h l (by simp)
    have ih := flat_at (ls := r) (i := i) (j := j) (fun x hx => h x (by simp [hx])) (by simpa using hi) hj
    have e : (i + 1) * wd + j = l.length + (i * wd + j) := by rw [Nat.add_mul, Nat.one_mul, h1]; omega
    rw [e, List.flatten_cons]
    have : (l ++ r.flatten).getD (l.length + (i * wd + j)) 0 = r.flatten.getD (i * wd + j) 0 := by simp [List.getElem?_append, show ¬ (l.length + (i * wd + j) < l.length) by omega]
    rw [this, ih]
    simp
theorem padL_at {bs : List Int} {m p : Nat} : (padL bs m).getD p 0 = bs.getD p 0 := by
  unfold padL
  by_cases h : p < bs.length
  · simp [List.getElem?_append, h]
  · simp [List.getElem?_append, h]
    rw [List.getElem?_replicate]
    split <;> rfl
theorem row_at {bs : List Int} {wd K r j : Nat} (hr : r < K) (hj : j < wd) : ((rowsOf bs wd K).getD r []).getD j 0 = bs.getD (r * wd + j) 0 := by
  have e := padL_at (bs := bs) (m := wd * K) (p := r * wd + j)
  rw [rowsOf_at hr, ← e]
  simp [List.getElem?_take, List.getElem?_drop, hj]
theorem back_at {ls : List (List Int)} {wd L i j : Nat} (h : ∀ l ∈ ls, l.length = wd) (hi : i < ls.length) (hj : j < wd) :
    ((rowsOf (ls.flatten.take L) wd ls.length).getD i []).getD j 0 = if i * wd + j < L then (ls.getD i []).getD j 0 else 0 := by
  rw [row_at hi hj, ← flat_at h hi hj]
  simp only [List.getD_eq_getElem?_getD, List.getElem?_take]
  split <;> rfl
theorem rowsOf_join {bs : List Int} {wd K : Nat} (hb : bs.length ≤ wd * K) : (rowsOf bs wd K).flatten.take bs.length = bs := by
  have hl : ∀ l ∈ rowsOf bs wd K, l.length = wd := fun l hl => by
    obtain ⟨i, hi, rfl⟩ := List.getElem_of_mem hl
    have hi' : i < K := by simpa [rowsOf] using hi
    have := rowsOf_len hb hi'
    simpa [hi] using this
  have hfl := flat_len hl
  have hK : (rowsOf bs wd K).length = K := by simp [rowsOf]
  rw [hK] at hfl
  apply List.ext_getElem?
  intro p
  by_cases hp : p < bs.length
  · rw [List.getElem?_take, if_pos hp]
    have hw : 0 < wd := by rcases Nat.eq_zero_or_pos wd with h | h; (subst h; omega); exact h
    have h1 := Nat.div_add_mod p wd
    have h2 := Nat.mod_lt p hw
    have h3 : p / wd < K := Nat.div_lt_of_lt_mul (by omega)
    have h4 := flat_at hl (i := p / wd) (j := p % wd) (by omega) h2
    rw [row_at h3 h2] at h4
    rw [show p / wd * wd + p % wd = p by rw [Nat.mul_comm]; exact h1] at h4
    simp only [List.getD_eq_getElem?_getD] at h4
    rw [List.getElem?_eq_getElem (by omega), List.getElem?_eq_getElem hp] at h4 ⊢
    simpa using h4
  · rw [List.getElem?_take, if_neg hp, List.getElem?_eq_none (by omega)]

set_option maxHeartbeats 4000000 in
theorem law09_StripBack (B : Option Addr) (m d : Nat) (bs : List Int) (k : Int) (A : Option Addr) (n c : Nat) (ls : List (List Int)) (long : Int) (w : World) (hb : Rd w .u8 B bs) (hm : m = bs.length) (hm' : m ≤ 140737488351232) (hk1 : -9223372036854775808 ≤ k ∧ k ≤ 9223372036854775807)
    (ha : RdS w .u8 A ls) (hn : n = ls.length) (hn' : n ≤ 140737488351232) (hl1 : -9223372036854775808 ≤ long ∧ long ≤ 9223372036854775807) :
    Gives Try.prog 7 #[.slice B m d, .int .i64 k, .slice A n c, .int .i64 long] w fun v w' => v = .bool true ∧ Below w.heap.size w w' := by
  refine gives_enter Try.call7 Try.func7 rfl rfl rfl (by kernel_rfl) ?_
  refine v_seq ?_
  refine v_region ?_
  refine vl_val (os_assign rfl) ?_
  refine vl_nil ?_
  refine v_seq ?_
  refine v_seq ?_
  refine v_region ?_
  refine vl_call (law09_awake w) rfl ?_
  rintro v1 w1 ⟨rfl, b1⟩
  refine vl_val (os_not rfl) ?_
  refine vl_nil ?_
  refine v_cond_f rfl ?_
  refine v_skip ?_
  refine v_seq ?_
  refine v_seq ?_
  refine v_region ?_
  refine vl_val (os_move rfl) ?_
  refine vl_val (os_len Try.underlying33 rfl) ?_
  refine vl_val (os_move rfl) ?_
  refine vl_call (law09_size A n c ls w1 (ha.keep b1) hn hn') rfl ?_
  rintro v2 w1 ⟨⟨N, rfl, hN2, hN⟩, rfl⟩
  refine vl_val (os_addi rfl rfl (by omega)) ?_
  refine vl_val (os_gtr rfl rfl) ?_
  refine vl_nil ?_
  refine v_cond_d rfl (fun hbig => ?_) (fun hbig => ?_)
  · refine v_seq ?_
    refine v_region ?_
    refine vl_val (os_assign rfl) ?_
    refine vl_nil ?_
    refine v_ret ?_
    exact post_ret rfl rfl (⟨rfl, b1⟩)
  · have hsz := hN (by omega)
    have hm2 : m ≤ 70000 := by omega
    refine v_skip ?_
    refine v_seq ?_
    refine v_region ?_
    refine vl_val (os_move rfl) ?_
    refine vl_val (os_move rfl) ?_
    refine vl_call (strip_Cut B m d bs k w1 (hb.keep b1) hm hm' hk1) rfl ?_
    rintro v3 w3 ⟨b13, h3⟩
    have b3 : Below w.heap.size w w3 := b1.trans (b13.mono b1.size)
    obtain ⟨l3, rfl, hC⟩ : ∃ l3, v3 = .tuple #[l3, .int .i64 (errE (widthOk m k))] ∧ (widthOk m k = true → ∃ wd K g, CutR w3 w1.heap.size bs k wd K g l3) := by
      rcases h3 with ⟨h, rfl⟩ | ⟨h, wd, K, g, out, rfl, hC⟩
      · exact ⟨_, by rw [h]; rfl, fun h2 => by rw [h] at h2; cases h2⟩
      · exact ⟨out, by rw [h]; rfl, fun _ => ⟨wd, K, g, hC⟩⟩
    refine vl_val (os_move rfl) ?_
    refine vl_val (os_extract rfl rfl) ?_
    refine vl_val (os_extract rfl rfl) ?_
    refine vl_val (os_assign rfl) ?_
    refine vl_val (os_assign rfl) ?_
    refine vl_nil ?_
    refine v_mid [(0, _), (1, _), (2, _), (3, _), (10, _)] (fun (u : Unit) => []) (fun u w' => Below w.heap.size w w') ⟨rfl, rfl, rfl, rfl, rfl, trivial⟩ ?_ ?_
    · cases hok : widthOk m k
      · refine v_seq ?_
        refine v_region ?_
        refine vl_val (os_move rfl) ?_
        refine vl_val (os_eql rfl rfl) ?_
        refine vl_nil ?_
        refine v_cond_no rfl (by decide) ?_
        refine v_skip ?_
        exact ⟨(), ⟨rfl, rfl, rfl, rfl, rfl, trivial⟩, trivial, b3⟩
      · obtain ⟨wd, K, g, hC⟩ := hC hok
        obtain ⟨A3, c3, rfl, hc3, hS⟩ := hC.rds
        have hwd := hC.wd_
        have hKk := hC.K_
        have hroom := hC.room
        have hK0 := hC.pos
        have hK25 := hC.K255
        have hwd65 := hC.wd65
        rw [← hm] at hwd hroom
        have hok2 := hok
        rw [← hKk] at hok hok2
        have hwv : widthV m K = wd := by unfold widthV; rw [if_pos hok, hKk, ← hwd]
        have hwa : wasteV m K = ((wd * K : Nat) : Int) - m := by unfold wasteV; rw [if_pos hok, hKk, ← hwd, ← hKk, Int.natCast_mul]
        subst hKk
        refine v_seq ?_
        refine v_region ?_
        refine vl_val (os_move rfl) ?_
        refine vl_val (os_eql rfl rfl) ?_
        refine vl_nil ?_
        refine v_cond_yes rfl (by decide) ?_
        refine v_seq ?_
        refine v_region ?_
        refine vl_val (os_move rfl) ?_
        refine vl_val (os_len Try.underlying33 rfl) ?_
        refine vl_val (os_move rfl) ?_
        refine vl_call (sp_Width m K w3 ⟨by omega, by omega⟩ hk1) rfl ?_
        rintro v4 w3 ⟨rfl, rfl⟩
        rw [hok, hwv]
        refine vl_val (os_move rfl) ?_
        refine vl_val (os_extract rfl rfl) ?_
        refine vl_val (os_extract rfl rfl) ?_
        refine vl_val (os_assign rfl) ?_
        refine vl_val (os_assign rfl) ?_
        refine vl_nil ?_
        refine v_seq ?_
        refine v_region ?_
        refine vl_val (os_move rfl) ?_
        refine vl_val (os_len Try.underlying33 rfl) ?_
        refine vl_val (os_move rfl) ?_
        refine vl_call (sp_Waste m K w3 ⟨by omega, by omega⟩ hk1) rfl ?_
        rintro v5 w3 ⟨rfl, rfl⟩
        rw [hok, hwa]
        refine vl_val (os_move rfl) ?_
        refine vl_val (os_extract rfl rfl) ?_
        refine vl_val (os_extract rfl rfl) ?_
        refine vl_val (os_assign rfl) ?_
        refine vl_val (os_assign rfl) ?_
        refine vl_nil ?_
        refine v_seq ?_
        refine v_region ?_
        refine vl_val (os_move rfl) ?_
        refine vl_val (os_move rfl) ?_
        refine vl_val (os_len Try.underlying33 rfl) ?_
        refine vl_call (strip_Join A3 K c3 (rowsOf bs wd K) m w3 hS (by simp [rowsOf]) (by omega) ⟨by omega, by omega⟩) rfl ?_
        rintro v6 w6 ⟨b36, h6⟩
        have b6 : Below w.heap.size w w6 := b3.trans (b36.mono b3.size)
        have hrl : (rowsOf bs wd K).length = K := by simp [rowsOf]
        have hlens : ∀ l ∈ rowsOf bs wd K, l.length = wd := fun l hl => by
          obtain ⟨i, hi, rfl⟩ := List.getElem_of_mem hl
          have hi' : i < K := by simpa [rowsOf] using hi
          have := rowsOf_len (by rw [← hm]; exact hroom.1) hi'
          simpa [hi] using this
        obtain ⟨A6, c6, o6, rfl⟩ : ∃ (A6 : Option Addr) (c6 : Nat), Rd w6 .u8 A6 bs ∧ v6 = .tuple #[.slice A6 m m, .int .i64 0] := by
          cases h6 with
          | arg h => rw [hrl, hok] at h; cases h
          | shape h l hl hne => rw [hrl, ← hwd, hlens l hl] at hne; exact absurd rfl hne
          | ok h he L c A hL hle ho =>
            obtain rfl : m = L := by omega
            have := (OwnK.rd ho).take m
            rw [hm, rowsOf_join (by rw [← hm]; exact hroom.1)] at this
            exact ⟨A, m, this, rfl⟩
        refine vl_val (os_move rfl) ?_
        refine vl_val (os_extract rfl rfl) ?_
        refine vl_val (os_extract rfl rfl) ?_
        refine vl_val (os_assign rfl) ?_
        refine vl_val (os_assign rfl) ?_
        refine vl_nil ?_
        refine v_seq ?_
        refine v_seq ?_
        refine v_region ?_
        refine vl_val (os_move rfl) ?_
        refine vl_val (os_f (os_neq rfl rfl) (by decide)) ?_
        refine vl_val (os_move rfl) ?_
        refine vl_valg rfl (os_move rfl) ?_
        refine vl_valg rfl (os_f (os_neq rfl rfl) (by decide)) ?_
        refine vl_val (os_pick_f rfl rfl) ?_
        refine vl_val (os_move rfl) ?_
        refine vl_valg rfl (os_move rfl) ?_
        refine vl_valg rfl (os_f (os_neq rfl rfl) (by simp)) ?_
        refine vl_val (os_pick_f rfl rfl) ?_
        refine vl_val (os_move rfl) ?_
        refine vl_valg rfl (os_move rfl) ?_
        refine vl_valg rfl (os_len Try.underlying34 rfl) ?_
        refine vl_valg rfl (os_move rfl) ?_
        refine vl_valg rfl (os_f (os_neq rfl rfl) (by simp)) ?_
        refine vl_val (os_pick_f rfl rfl) ?_
        refine vl_val (os_move rfl) ?_
        refine vl_valg rfl (os_move rfl) ?_
        refine vl_valg rfl (os_f (os_lss rfl rfl) (by omega)) ?_
        refine vl_val (os_pick_f rfl rfl) ?_
        refine vl_val (os_move rfl) ?_
        refine vl_valg rfl (os_move rfl) ?_
        refine vl_valg rfl (os_move rfl) ?_
        refine vl_valg rfl (os_f (os_geq rfl rfl) (by omega)) ?_
        refine vl_val (os_pick_f rfl rfl) ?_
        refine vl_val (os_move rfl) ?_
        refine vl_valg rfl (os_move rfl) ?_
        refine vl_valg rfl (os_move rfl) ?_
        refine vl_valg rfl (os_mul rfl rfl (show IntKind.i64.wrap ((wd : Int) * (K : Int)) = ((wd * K : Nat) : Int) by rw [← Int.natCast_mul]; exact i64_fit ⟨by omega, by omega⟩)) ?_
        refine vl_valg rfl (os_move rfl) ?_
        refine vl_valg rfl (os_len Try.underlying33 rfl) ?_
        refine vl_valg rfl (os_move rfl) ?_
        refine vl_valg rfl (os_addi rfl rfl (by omega)) ?_
        refine vl_valg rfl (os_f (os_neq rfl rfl) (by omega)) ?_
        refine vl_val (os_pick_f rfl rfl) ?_
        refine vl_val (os_move rfl) ?_
        refine vl_valg rfl (os_move rfl) ?_
        refine vl_valg rfl (os_move rfl) ?_
        refine vl_callg rfl ((kit_SameBytes A6 B m m m d bs bs _ o6 (hb.keep b6) hm hm (by omega) (by omega)).mono fun v w' hh => (⟨by rw [hh.1, decide_eq_true rfl], hh.2⟩ : v = .bool true ∧ LeD _ w')) rfl ?_
        rintro v7 w7 ⟨rfl, d7⟩
        have b7 := b6.trans ((led_below d7).mono b6.size)
        have hS7 := (hS.keep b36).led d7
        refine vl_valg rfl (os_not rfl) ?_
        refine vl_val (os_pick_f rfl rfl) ?_
        refine vl_nil ?_
        refine v_cond_f rfl ?_
        refine v_skip ?_
        refine v_seq ?_
        refine v_region ?_
        refine vl_val (os_assign rfl) ?_
        refine vl_nil ?_
        refine v_block ?_
        refine v_loop [(0, _), (1, _), (2, _), (3, _), (9, _), (10, _), (11, _)] (fun (i : Nat) => [(17, .int .i64 i)]) (fun i w' => i ≤ K ∧ w' = w7) (fun i => K - i) (0) ⟨rfl, rfl, rfl, rfl, rfl, rfl, rfl, trivial⟩ ⟨rfl, trivial⟩ (⟨by omega, rfl⟩) ?_
        rintro i w7 ⟨hi, rfl⟩
        refine v_seq ?_
        refine v_seq ?_
        refine v_region ?_
        refine vl_val (os_move rfl) ?_
        refine vl_val (os_move rfl) ?_
        refine vl_val (os_lss rfl rfl) ?_
        refine vl_nil ?_
        refine v_cond_d rfl (fun hlt => ?_) (fun hlt => ?_)
        · obtain ⟨b, o, Ai, ci, rfl, e1, e2, e3, e4⟩ := hS7.at_ (i := i) (by omega)
          have hri := rowsOf_len (bs := bs) (wd := wd) (by rw [← hm]; exact hroom.1) (show i < K by omega)
          refine v_skip ?_
          refine v_seq ?_
          refine v_block ?_
          refine v_seq ?_
          refine v_region ?_
          refine vl_val (os_move rfl) ?_
          refine vl_val (os_move rfl) ?_
          refine vl_val (os_ix Try.underlying34 Try.sizeOf33 rfl rfl (i := i) (by omega) (by omega)) ?_
          refine vl_val (os_load Try.isAgg33 rfl (e1)) ?_
          refine vl_val (os_len Try.underlying33 rfl) ?_
          refine vl_val (os_move rfl) ?_
          refine vl_val (os_neq rfl rfl) ?_
          refine vl_nil ?_
          refine v_cond_no rfl (by omega) ?_
          refine v_skip ?_
          refine v_region ?_
          refine vl_val (os_move rfl) ?_
          refine vl_val (os_addi rfl rfl (by omega)) ?_
          refine vl_val (os_assign rfl) ?_
          refine vl_nil ?_
          exact ⟨i + 1, ⟨rfl, rfl, rfl, rfl, rfl, rfl, rfl, trivial⟩, ⟨rfl, trivial⟩, ⟨by omega, rfl⟩, by dsimp only; omega⟩
        · refine v_exit ?_
          exact ⟨(), ⟨rfl, rfl, rfl, rfl, rfl, trivial⟩, trivial, b7⟩
    · rintro u w8 b8
      refine v_mid [(2, _), (3, _)] (fun (u : Unit) => []) (fun u w' => Below w.heap.size w w' ∧ w' = w8) ⟨rfl, rfl, trivial⟩ ?_ ?_
      · rcases (by cases hok : widthOk m k; (have : ¬ (0 ≤ (m : Int) ∧ (m : Int) ≤ 65535 ∧ 1 ≤ k ∧ k ≤ 255) := by simpa [widthOk] using hok); (rcases (by omega : (65535 : Int) < m ∨ ((m : Int) ≤ 65535 ∧ k < 1) ∨ ((m : Int) ≤ 65535 ∧ 1 ≤ k ∧ 255 < k)) with h | h | h; exact .inr (.inl ⟨rfl, h⟩); exact .inr (.inr (.inl ⟨rfl, h.1, h.2⟩)); exact .inr (.inr (.inr ⟨rfl, h.1, h.2.1, h.2.2⟩))); exact .inl rfl : widthOk m k = true ∨ (widthOk m k = false ∧ (65535 : Int) < m) ∨ (widthOk m k = false ∧ (m : Int) ≤ 65535 ∧ k < 1) ∨ (widthOk m k = false ∧ (m : Int) ≤ 65535 ∧ 1 ≤ k ∧ 255 < k)) with h | ⟨h, h1⟩ | ⟨h, h1, h2⟩ | ⟨h, h1, h2, h3⟩
        · rw [h]
          refine v_seq ?_
          refine v_region ?_
          refine vl_val (os_move rfl) ?_
          refine vl_val (os_f (os_neq rfl rfl) (by decide)) ?_
          refine vl_val (os_move rfl) ?_
          refine vl_skip rfl rfl ?_
          refine vl_skip rfl rfl ?_
          refine vl_skip rfl rfl ?_
          refine vl_skipu rfl ?_
          refine vl_skipu rfl ?_
          refine vl_skipu rfl ?_
          refine vl_skipu rfl ?_
          refine vl_skipu rfl ?_
          refine vl_skipu rfl ?_
          refine vl_skipu rfl ?_
          refine vl_skipu rfl ?_
          refine vl_skipu rfl ?_
          refine vl_skipu rfl ?_
          refine vl_skipu rfl ?_
          refine vl_skip rfl rfl ?_
          refine vl_val (os_pick_f rfl rfl) ?_
          refine vl_nil ?_
          refine v_cond_f rfl ?_
          refine v_skip ?_
          exact ⟨(), ⟨rfl, rfl, trivial⟩, trivial, ⟨b8, rfl⟩⟩
        · rw [h]
          refine v_seq ?_
          refine v_region ?_
          refine vl_val (os_move rfl) ?_
          refine vl_val (os_t (os_neq rfl rfl) (by decide)) ?_
          refine vl_val (os_move rfl) ?_
          refine vl_valg rfl (os_move rfl) ?_
          refine vl_valg rfl (os_f (os_neq rfl rfl) (by decide)) ?_
          refine vl_valg rfl (os_move rfl) ?_
          refine vl_valg rfl (os_move rfl) ?_
          refine vl_valg rfl (os_len Try.underlying33 rfl) ?_
          refine vl_valg rfl (os_f (os_leq rfl rfl) (by omega)) ?_
          refine vl_valg rfl (os_move rfl) ?_
          refine vl_skip rfl rfl ?_
          refine vl_skip rfl rfl ?_
          refine vl_valg rfl (os_pick_f rfl rfl) ?_
          refine vl_valg rfl (os_move rfl) ?_
          refine vl_skip rfl rfl ?_
          refine vl_skip rfl rfl ?_
          refine vl_valg rfl (os_pick_f rfl rfl) ?_
          refine vl_valg rfl (os_pick_f rfl rfl) ?_
          refine vl_val (os_pick_t rfl rfl) ?_
          refine vl_nil ?_
          refine v_cond_f rfl ?_
          refine v_skip ?_
          exact ⟨(), ⟨rfl, rfl, trivial⟩, trivial, ⟨b8, rfl⟩⟩
        · rw [h]
          refine v_seq ?_
          refine v_region ?_
          refine vl_val (os_move rfl) ?_
          refine vl_val (os_t (os_neq rfl rfl) (by decide)) ?_
          refine vl_val (os_move rfl) ?_
          refine vl_valg rfl (os_move rfl) ?_
          refine vl_valg rfl (os_f (os_neq rfl rfl) (by decide)) ?_
          refine vl_valg rfl (os_move rfl) ?_
          refine vl_valg rfl (os_move rfl) ?_
          refine vl_valg rfl (os_len Try.underlying33 rfl) ?_
          refine vl_valg rfl (os_t (os_leq rfl rfl) (by omega)) ?_
          refine vl_valg rfl (os_move rfl) ?_
          refine vl_valg rfl (os_move rfl) ?_
          refine vl_valg rfl (os_f (os_geq rfl rfl) (by omega)) ?_
          refine vl_valg rfl (os_pick_t rfl rfl) ?_
          refine vl_valg rfl (os_move rfl) ?_
          refine vl_skip rfl rfl ?_
          refine vl_skip rfl rfl ?_
          refine vl_valg rfl (os_pick_f rfl rfl) ?_
          refine vl_valg rfl (os_pick_f rfl rfl) ?_
          refine vl_val (os_pick_t rfl rfl) ?_
          refine vl_nil ?_
          refine v_cond_f rfl ?_
          refine v_skip ?_
          exact ⟨(), ⟨rfl, rfl, trivial⟩, trivial, ⟨b8, rfl⟩⟩
        · rw [h]
          refine v_seq ?_
          refine v_region ?_
          refine vl_val (os_move rfl) ?_
          refine vl_val (os_t (os_neq rfl rfl) (by decide)) ?_
          refine vl_val (os_move rfl) ?_
          refine vl_valg rfl (os_move rfl) ?_
          refine vl_valg rfl (os_f (os_neq rfl rfl) (by decide)) ?_
          refine vl_valg rfl (os_move rfl) ?_
          refine vl_valg rfl (os_move rfl) ?_
          refine vl_valg rfl (os_len Try.underlying33 rfl) ?_
          refine vl_valg rfl (os_t (os_leq rfl rfl) (by omega)) ?_
          refine vl_valg rfl (os_move rfl) ?_
          refine vl_valg rfl (os_move rfl) ?_
          refine vl_valg rfl (os_t (os_geq rfl rfl) (by omega)) ?_
          refine vl_valg rfl (os_pick_t rfl rfl) ?_
          refine vl_valg rfl (os_move rfl) ?_
          refine vl_valg rfl (os_move rfl) ?_
          refine vl_valg rfl (os_leq rfl rfl) ?_
          refine vl_valg rfl (os_pick_t rfl rfl) ?_
          refine vl_valg rfl (os_pick_f rfl rfl) ?_
          refine vl_val (os_pick_t rfl rfl) ?_
          refine vl_nil ?_
          refine v_cond_no rfl (by omega) ?_
          refine v_skip ?_
          exact ⟨(), ⟨rfl, rfl, trivial⟩, trivial, ⟨b8, rfl⟩⟩
      · rintro u w8 ⟨b8, rfl⟩
        refine v_seq ?_
        refine v_region ?_
        refine vl_val (os_move rfl) ?_
        refine vl_val (os_move rfl) ?_
        refine vl_call (strip_Join A n c ls long w8 (ha.keep b8) hn hn' hl1) rfl ?_
        rintro v9 w9 ⟨b89, h9⟩
        have b9 : Below w.heap.size w w9 := b8.trans (b89.mono b8.size)
        obtain ⟨Aj, L, c9, e9, rfl, hj9⟩ : ∃ (Aj : Option Addr) (L c9 : Nat) (e9 : Int), v9 = .tuple #[.slice Aj L c9, .int .i64 e9] ∧ ((e9 ≠ 0 ∧ L = 0) ∨ (e9 = 0 ∧ long = L ∧ L = c9 ∧ widthOk long ls.length = true ∧ (∀ l ∈ ls, (l.length : Int) = widthW long ls.length) ∧ L ≤ ls.flatten.length ∧ ∃ cj, OwnK w9 w8.heap.size 5 .u8 (.slice Aj ls.flatten.length cj) ls.flatten)) := by
          cases h9 with
          | arg h => exact ⟨_, _, _, _, rfl, .inl ⟨by decide, rfl⟩⟩
          | shape h l hl hne => exact ⟨_, _, _, _, rfl, .inl ⟨by decide, rfl⟩⟩
          | ok h he L c A hL hle ho => exact ⟨_, _, _, _, rfl, .inr ⟨rfl, hL, rfl, h, he, hle, c, ho⟩⟩
        refine vl_val (os_move rfl) ?_
        refine vl_val (os_extract rfl rfl) ?_
        refine vl_val (os_extract rfl rfl) ?_
        refine vl_val (os_assign rfl) ?_
        refine vl_val (os_assign rfl) ?_
        refine vl_nil ?_
        refine v_seq ?_
        refine v_seq ?_
        refine v_region ?_
        refine vl_val (os_move rfl) ?_
        refine vl_val (os_neq rfl rfl) ?_
        refine vl_nil ?_
        refine v_cond_d rfl (fun hf => ?_) (fun hf => ?_)
        · obtain rfl : L = 0 := by rcases hj9 with h | h; exact h.2; exact absurd h.1 hf
          refine v_seq ?_
          refine v_region ?_
          refine vl_val (os_move rfl) ?_
          refine vl_val (os_len Try.underlying33 rfl) ?_
          refine vl_val (os_eql rfl rfl) ?_
          refine vl_val (os_assign rfl) ?_
          refine vl_nil ?_
          refine v_ret ?_
          exact post_ret rfl rfl (⟨rfl, b9⟩)
        · obtain ⟨-, hL, rfl, h, he, hle, cj, ho⟩ : e9 = 0 ∧ long = L ∧ L = c9 ∧ widthOk long ls.length = true ∧ (∀ l ∈ ls, (l.length : Int) = widthW long ls.length) ∧ L ≤ ls.flatten.length ∧ ∃ cj, OwnK w9 w8.heap.size 5 .u8 (.slice Aj ls.flatten.length cj) ls.flatten := by rcases hj9 with h | h; exact absurd h.1 hf; exact h
          subst hL
          have htl : (ls.flatten.take L).length = L := by rw [List.length_take]; omega
          obtain ⟨hk3, hk4, hk5, hk6⟩ : (0 : Int) ≤ L ∧ (L : Int) ≤ 65535 ∧ 1 ≤ (ls.length : Int) ∧ (ls.length : Int) ≤ 255 := by simpa [widthOk] using h
          refine v_skip ?_
          refine v_seq ?_
          refine v_region ?_
          refine vl_val (os_move rfl) ?_
          refine vl_val (os_move rfl) ?_
          refine vl_val (os_len Try.underlying34 rfl) ?_
          refine vl_call (strip_Cut Aj L L (ls.flatten.take L) n w9 ((OwnK.rd ho).take L) htl.symm (by omega) ⟨by omega, by omega⟩) rfl ?_
          rintro v10 w10 ⟨b910, h10⟩
          have b10 : Below w.heap.size w w10 := b9.trans (b910.mono b9.size)
          obtain ⟨wd, K, g, out, rfl, hC⟩ : ∃ wd K g out, v10 = .tuple #[out, .int .i64 0] ∧ CutR w10 w9.heap.size (ls.flatten.take L) n wd K g out := by
            rcases h10 with ⟨h2, -⟩ | ⟨-, h2⟩
            · rw [hn, h] at h2; cases h2
            · exact h2
          obtain ⟨Am, cm, rfl, hcm, hS⟩ := hC.rds
          obtain rfl : n = K := by have := hC.K_; omega
          have hwd : (wd : Int) = widthW L ls.length := by have := hC.wd_; rw [htl, hn] at this; exact this
          have hall : ∀ l ∈ ls, l.length = wd := fun l hl => by have := he l hl; omega
          have hroom := hC.room
          have hwd65 := hC.wd65
          rw [htl] at hroom
          refine vl_val (os_move rfl) ?_
          refine vl_val (os_extract rfl rfl) ?_
          refine vl_val (os_extract rfl rfl) ?_
          refine vl_val (os_assign rfl) ?_
          refine vl_val (os_assign rfl) ?_
          refine vl_nil ?_
          refine v_seq ?_
          refine v_seq ?_
          refine v_region ?_
          refine vl_val (os_move rfl) ?_
          refine vl_val (os_f (os_neq rfl rfl) (by decide)) ?_
          refine vl_val (os_move rfl) ?_
          refine vl_valg rfl (os_move rfl) ?_
          refine vl_valg rfl (os_len Try.underlying33 rfl) ?_
          refine vl_valg rfl (os_move rfl) ?_
          refine vl_valg rfl (os_f (os_neq rfl rfl) (by simp)) ?_
          refine vl_val (os_pick_f rfl rfl) ?_
          refine vl_val (os_move rfl) ?_
          refine vl_valg rfl (os_move rfl) ?_
          refine vl_valg rfl (os_len Try.underlying34 rfl) ?_
          refine vl_valg rfl (os_move rfl) ?_
          refine vl_valg rfl (os_len Try.underlying34 rfl) ?_
          refine vl_valg rfl (os_neq rfl rfl) ?_
          refine vl_val (os_pick_f rfl rfl) ?_
          refine vl_nil ?_
          refine v_cond_no rfl (by omega) ?_
          have ha10 := ha.keep b10
          clear he h10
          refine v_skip ?_
          refine v_seq ?_
          refine v_region ?_
          refine vl_val (os_assign rfl) ?_
          refine vl_nil ?_
          refine v_seq ?_
          refine v_seq ?_
          refine v_region ?_
          refine vl_val (os_assign rfl) ?_
          refine vl_nil ?_
          refine v_block ?_
          refine v_loop2 [(2, _), (3, _), (20, _)] (fun (i : Nat) (at_ : Nat) => [(22, .int .i64 at_), (23, .int .i64 i)]) (fun i at_ w' => i ≤ n ∧ at_ = i * wd ∧ LeD w10 w') (fun i at_ => n - i) (0) (0) ⟨rfl, rfl, rfl, trivial⟩ ⟨rfl, rfl, trivial⟩ (⟨by omega, by simp, lee_d.refl _⟩) ?_
          rintro i at_ w11 ⟨hi, hat, q11⟩
          refine v_seq ?_
          refine v_seq ?_
          refine v_region ?_
          refine vl_val (os_move rfl) ?_
          refine vl_val (os_move rfl) ?_
          refine vl_val (os_len Try.underlying34 rfl) ?_
          refine vl_val (os_lss rfl rfl) ?_
          refine vl_nil ?_
          refine v_cond_d rfl (fun hlt => ?_) (fun hlt => ?_)
          · have hin : i < n := by omega
            have hseg := seg_in (wd := wd) hin
            refine v_skip ?_
            refine v_seq ?_
            refine v_block ?_
            refine v_seq ?_
            refine v_region ?_
            refine vl_val (os_assign rfl) ?_
            refine vl_nil ?_
            refine v_block ?_
            refine v_loop2 [(2, _), (3, _), (20, _), (23, _)] (fun (j : Nat) (at2 : Nat) => [(22, .int .i64 at2), (24, .int .i64 j)]) (fun j at2 w' => j ≤ wd ∧ at2 = i * wd + j ∧ LeD w10 w') (fun j at2 => wd - j) (0) (at_) ⟨rfl, rfl, rfl, rfl, trivial⟩ ⟨rfl, rfl, trivial⟩ (⟨by omega, by omega, q11⟩) ?_
            rintro j at2 w12 ⟨hj, hat2, q12⟩
            obtain ⟨br, or_, Ar, cr, rfl, e1, e2, e3, e4⟩ := (ha10.led q12).at_ (i := i) (by omega)
            have hrl : (ls.getD i []).length = wd := by have := hall (ls.getD i []) (by simp [show i < ls.length by omega]); exact this
            refine v_seq ?_
            refine v_seq ?_
            refine v_region ?_
            refine vl_val (os_move rfl) ?_
            refine vl_val (os_move rfl) ?_
            refine vl_val (os_move rfl) ?_
            refine vl_val (os_ix Try.underlying34 Try.sizeOf33 rfl rfl (i := i) (by omega) (by omega)) ?_
            refine vl_val (os_load Try.isAgg33 rfl (e1)) ?_
            refine vl_val (os_len Try.underlying33 rfl) ?_
            refine vl_val (os_lss rfl rfl) ?_
            refine vl_nil ?_
            refine v_cond_d rfl (fun hlt2 => ?_) (fun hlt2 => ?_)
            · have hjw : j < wd := by omega
              obtain ⟨bx, ox, rfl, x1⟩ := e2.at_ (i := j) (by omega)
              obtain ⟨bm, om, Amm, cmm, rfl, y1, y2, y3, y4⟩ := (hS.led q12).at_ (i := i) (by simp [rowsOf]; omega)
              have hml := rowsOf_len (bs := ls.flatten.take L) (wd := wd) (by rw [htl]; exact hroom.1) hin
              obtain ⟨by_, oy, rfl, z1⟩ := y2.at_ (i := j) (by omega)
              have hba := back_at (L := L) hall (i := i) (j := j) (by omega) hjw
              rw [← hn] at hba
              rw [hba] at z1
              rcases Nat.lt_or_ge (i * wd + j) L with hL | hL
              · rw [if_pos hL] at z1
                refine v_skip ?_
                refine v_seq ?_
                refine v_block ?_
                refine v_seq ?_
                refine v_seq ?_
                refine v_region_t LeD _ mixed (by kernel_rfl) lee_d (led_start _) ?_
                refine vt_val (fun w hw => os_move rfl) ?_
                refine vt_val (fun w hw => os_move rfl) ?_
                refine vt_val (fun w hw => os_t (os_lss rfl rfl) (by omega)) ?_
                refine vt_val (fun w hw => os_move rfl) ?_
                refine vt_valg rfl (fun w hw => os_move rfl) ?_
                refine vt_valg rfl (fun w hw => os_move rfl) ?_
                refine vt_valg rfl (fun w hw => os_ix Try.underlying34 Try.sizeOf33 rfl rfl (i := i) (by omega) (by omega)) ?_
                refine vt_valg rfl (fun w hw => os_load Try.isAgg33 rfl (led_cell hw (y1))) ?_
                refine vt_valg rfl (fun w hw => os_move rfl) ?_
                refine vt_valg rfl (fun w hw => os_ix Try.underlying33 Try.sizeOf5 rfl rfl (i := j) (by omega) (by omega)) ?_
                refine vt_valg rfl (fun w hw => os_load Try.isAgg5 rfl (led_cell hw (z1))) ?_
                refine vt_valg rfl (fun w hw => os_move rfl) ?_
                refine vt_valg rfl (fun w hw => os_move rfl) ?_
                refine vt_valg rfl (fun w hw => os_ix Try.underlying34 Try.sizeOf33 rfl rfl (i := i) (by omega) (by omega)) ?_
                refine vt_valg rfl (fun w hw => os_load Try.isAgg33 rfl (led_cell hw (e1))) ?_
                refine vt_valg rfl (fun w hw => os_move rfl) ?_
                refine vt_valg rfl (fun w hw => os_ix Try.underlying33 Try.sizeOf5 rfl rfl (i := j) (by omega) (by omega)) ?_
                refine vt_valg rfl (fun w hw => os_load Try.isAgg5 rfl (led_cell hw (x1))) ?_
                refine vt_valg rfl (fun w hw => os_f (os_neq rfl rfl) (by simp)) ?_
                refine vt_val (fun w hw => os_pick_t rfl rfl) ?_
                refine vt_val (fun w hw => os_move rfl) ?_
                refine vt_valg rfl (fun w hw => os_move rfl) ?_
                refine vt_valg rfl (fun w hw => os_move rfl) ?_
                refine vt_valg rfl (fun w hw => os_f (os_geq rfl rfl) (by omega)) ?_
                refine vt_valg rfl (fun w hw => os_move rfl) ?_
                refine vt_skip rfl rfl ?_
                refine vt_skip rfl rfl ?_
                refine vt_skip rfl rfl ?_
                refine vt_skip rfl rfl ?_
                refine vt_skip rfl rfl ?_
                refine vt_skip rfl rfl ?_
                refine vt_skip rfl rfl ?_
                refine vt_skip rfl rfl ?_
                refine vt_valg rfl (fun w hw => os_pick_f rfl rfl) ?_
                refine vt_val (fun w hw => os_pick_f rfl rfl) ?_
                refine vt_nil (fun w hw => ?_)
                obtain ⟨q, rfl⟩ := hw
                refine v_cond_f rfl ?_
                refine v_skip ?_
                refine v_region ?_
                refine vl_val (os_move rfl) ?_
                refine vl_val (os_addi rfl rfl (by omega)) ?_
                refine vl_val (os_assign rfl) ?_
                refine vl_nil ?_
                refine v_region ?_
                refine vl_val (os_move rfl) ?_
                refine vl_val (os_addi rfl rfl (by omega)) ?_
                refine vl_val (os_assign rfl) ?_
                refine vl_nil ?_
                exact ⟨⟨j + 1, at2 + 1⟩, ⟨rfl, rfl, rfl, rfl, trivial⟩, ⟨rfl, rfl, trivial⟩, ⟨by omega, by omega, lee_d.trans q12 ⟨q, rfl⟩⟩, by dsimp only; omega⟩
              · rw [if_neg (by omega)] at z1
                refine v_skip ?_
                refine v_seq ?_
                refine v_block ?_
                refine v_seq ?_
                refine v_seq ?_
                refine v_region_t LeD _ mixed (by kernel_rfl) lee_d (led_start _) ?_
                refine vt_val (fun w hw => os_move rfl) ?_
                refine vt_val (fun w hw => os_move rfl) ?_
                refine vt_val (fun w hw => os_f (os_lss rfl rfl) (by omega)) ?_
                refine vt_val (fun w hw => os_move rfl) ?_
                refine vt_skip rfl rfl ?_
                refine vt_skip rfl rfl ?_
                refine vt_skip rfl rfl ?_
                refine vt_skip rfl rfl ?_
                refine vt_skip rfl rfl ?_
                refine vt_skip rfl rfl ?_
                refine vt_skip rfl rfl ?_
                refine vt_skip rfl rfl ?_
                refine vt_skip rfl rfl ?_
                refine vt_skip rfl rfl ?_
                refine vt_skip rfl rfl ?_
                refine vt_skip rfl rfl ?_
                refine vt_skip rfl rfl ?_
                refine vt_skip rfl rfl ?_
                refine vt_skip rfl rfl ?_
                refine vt_val (fun w hw => os_pick_f rfl rfl) ?_
                refine vt_val (fun w hw => os_move rfl) ?_
                refine vt_valg rfl (fun w hw => os_move rfl) ?_
                refine vt_valg rfl (fun w hw => os_move rfl) ?_
                refine vt_valg rfl (fun w hw => os_t (os_geq rfl rfl) (by omega)) ?_
                refine vt_valg rfl (fun w hw => os_move rfl) ?_
                refine vt_valg rfl (fun w hw => os_move rfl) ?_
                refine vt_valg rfl (fun w hw => os_move rfl) ?_
                refine vt_valg rfl (fun w hw => os_ix Try.underlying34 Try.sizeOf33 rfl rfl (i := i) (by omega) (by omega)) ?_
                refine vt_valg rfl (fun w hw => os_load Try.isAgg33 rfl (led_cell hw (y1))) ?_
                refine vt_valg rfl (fun w hw => os_move rfl) ?_
                refine vt_valg rfl (fun w hw => os_ix Try.underlying33 Try.sizeOf5 rfl rfl (i := j) (by omega) (by omega)) ?_
                refine vt_valg rfl (fun w hw => os_load Try.isAgg5 rfl (led_cell hw (z1))) ?_
                refine vt_valg rfl (fun w hw => os_f (os_neq rfl rfl) (by simp)) ?_
                refine vt_valg rfl (fun w hw => os_pick_t rfl rfl) ?_
                refine vt_val (fun w hw => os_pick_f rfl rfl) ?_
                refine vt_nil (fun w hw => ?_)
                obtain ⟨q, rfl⟩ := hw
                refine v_cond_f rfl ?_
                refine v_skip ?_
                refine v_region ?_
                refine vl_val (os_move rfl) ?_
                refine vl_val (os_addi rfl rfl (by omega)) ?_
                refine vl_val (os_assign rfl) ?_
                refine vl_nil ?_
                refine v_region ?_
                refine vl_val (os_move rfl) ?_
                refine vl_val (os_addi rfl rfl (by omega)) ?_
                refine vl_val (os_assign rfl) ?_
                refine vl_nil ?_
                exact ⟨⟨j + 1, at2 + 1⟩, ⟨rfl, rfl, rfl, rfl, trivial⟩, ⟨rfl, rfl, trivial⟩, ⟨by omega, by omega, lee_d.trans q12 ⟨q, rfl⟩⟩, by dsimp only; omega⟩
            · refine v_exit ?_
              refine v_region ?_
              refine vl_val (os_move rfl) ?_
              refine vl_val (os_addi rfl rfl (by omega)) ?_
              refine vl_val (os_assign rfl) ?_
              refine vl_nil ?_
              exact ⟨⟨i + 1, at2⟩, ⟨rfl, rfl, rfl, trivial⟩, ⟨rfl, rfl, trivial⟩, ⟨by omega, by rw [Nat.add_mul, Nat.one_mul]; omega, q12⟩, by dsimp only; omega⟩
          · refine v_exit ?_
            refine v_seq ?_
            refine v_region ?_
            refine vl_val (os_assign rfl) ?_
            refine vl_nil ?_
            refine v_ret ?_
            exact post_ret rfl rfl (⟨rfl, b10.trans ((led_below q11).mono b10.size)⟩)
end Go.Proofs.Ytmbcflanifoofaa
