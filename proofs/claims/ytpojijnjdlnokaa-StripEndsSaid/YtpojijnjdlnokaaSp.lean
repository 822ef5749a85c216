/- Layer 9: what the program cuts. -/
import Derived.Test.YtpojijnjdlnokaaTy
import Derived.Test.YtpojijnjdlnokaaSzP
import Derived.Test.YtpojijnjdlnokaaRg
import Derived.Test.YtpojijnjdlnokaaCrc
import Derived.Test.YtpojijnjdlnokaaFlE
import Derived.Test.YtpojijnjdlnokaaSlD
namespace Go.Proofs.Ytpojijnjdlnokaa
open Go.RowKit
set_option linter.unusedVariables false

theorem sp_Width (long k : Int) (w : World) (h1 : -9223372036854775808 ≤ long ∧ long ≤ 9223372036854775807) (h2 : -9223372036854775808 ≤ k ∧ k ≤ 9223372036854775807) : Gives Try.prog 18 #[.int .i64 long, .int .i64 k] w fun v w' => v = .tuple #[.int .i64 (widthV long k), .int .i64 (errE (widthOk long k))] ∧ w' = w := by
  obtain ⟨a1, a2⟩ := h1
  obtain ⟨a3, a4⟩ := h2
  refine gives_enter Try.call18 Try.func18 rfl rfl rfl (by kernel_rfl) ?_
  rcases (by omega : long < 0 ∨ (0 ≤ long ∧ 65535 < long) ∨ (0 ≤ long ∧ long ≤ 65535 ∧ k < 1) ∨ (0 ≤ long ∧ long ≤ 65535 ∧ 1 ≤ k)) with h | ⟨h, h3⟩ | ⟨h, h3, h4⟩ | ⟨h, h3, h4⟩
  · refine v_seq ?_
    refine v_region ?_
    refine vl_val (os_assign rfl) ?_
    refine vl_val (os_assign rfl) ?_
    refine vl_nil ?_
    refine v_seq ?_
    refine v_seq ?_
    refine v_region ?_
    refine vl_val (os_move rfl) ?_
    refine vl_val (os_t (os_lss rfl rfl) (by omega)) ?_
    refine vl_val (os_move rfl) ?_
    refine vl_skip rfl rfl ?_
    refine vl_skip rfl rfl ?_
    refine vl_val (os_pick_t rfl rfl) ?_
    refine vl_val (os_move rfl) ?_
    refine vl_skip rfl rfl ?_
    refine vl_skip rfl rfl ?_
    refine vl_val (os_pick_t rfl rfl) ?_
    refine vl_val (os_move rfl) ?_
    refine vl_skip rfl rfl ?_
    refine vl_skip rfl rfl ?_
    refine vl_val (os_pick_t rfl rfl) ?_
    refine vl_nil ?_
    refine v_cond_t rfl ?_
    refine v_seq ?_
    refine v_region ?_
    refine vl_val (os_assign rfl) ?_
    refine vl_val (os_assign rfl) ?_
    refine vl_nil ?_
    refine v_ret ?_
    exact post_ret2 rfl rfl rfl (⟨by simp [widthV, widthOk, errE]; omega, rfl⟩)
  · refine v_seq ?_
    refine v_region ?_
    refine vl_val (os_assign rfl) ?_
    refine vl_val (os_assign rfl) ?_
    refine vl_nil ?_
    refine v_seq ?_
    refine v_seq ?_
    refine v_region ?_
    refine vl_val (os_move rfl) ?_
    refine vl_val (os_f (os_lss rfl rfl) (by omega)) ?_
    refine vl_val (os_move rfl) ?_
    refine vl_valg rfl (os_move rfl) ?_
    refine vl_valg rfl (os_t (os_gtr rfl rfl) (by omega)) ?_
    refine vl_val (os_pick_f rfl rfl) ?_
    refine vl_val (os_move rfl) ?_
    refine vl_skip rfl rfl ?_
    refine vl_skip rfl rfl ?_
    refine vl_val (os_pick_t rfl rfl) ?_
    refine vl_val (os_move rfl) ?_
    refine vl_skip rfl rfl ?_
    refine vl_skip rfl rfl ?_
    refine vl_val (os_pick_t rfl rfl) ?_
    refine vl_nil ?_
    refine v_cond_t rfl ?_
    refine v_seq ?_
    refine v_region ?_
    refine vl_val (os_assign rfl) ?_
    refine vl_val (os_assign rfl) ?_
    refine vl_nil ?_
    refine v_ret ?_
    exact post_ret2 rfl rfl rfl (⟨by simp [widthV, widthOk, errE]; omega, rfl⟩)
  · refine v_seq ?_
    refine v_region ?_
    refine vl_val (os_assign rfl) ?_
    refine vl_val (os_assign rfl) ?_
    refine vl_nil ?_
    refine v_seq ?_
    refine v_seq ?_
    refine v_region ?_
    refine vl_val (os_move rfl) ?_
    refine vl_val (os_f (os_lss rfl rfl) (by omega)) ?_
    refine vl_val (os_move rfl) ?_
    refine vl_valg rfl (os_move rfl) ?_
    refine vl_valg rfl (os_f (os_gtr rfl rfl) (by omega)) ?_
    refine vl_val (os_pick_f rfl rfl) ?_
    refine vl_val (os_move rfl) ?_
    refine vl_valg rfl (os_move rfl) ?_
    refine vl_valg rfl (os_t (os_lss rfl rfl) (by omega)) ?_
    refine vl_val (os_pick_f rfl rfl) ?_
    refine vl_val (os_move rfl) ?_
    refine vl_skip rfl rfl ?_
    refine vl_skip rfl rfl ?_
    refine vl_val (os_pick_t rfl rfl) ?_
    refine vl_nil ?_
    refine v_cond_t rfl ?_
    refine v_seq ?_
    refine v_region ?_
    refine vl_val (os_assign rfl) ?_
    refine vl_val (os_assign rfl) ?_
    refine vl_nil ?_
    refine v_ret ?_
    exact post_ret2 rfl rfl rfl (⟨by simp [widthV, widthOk, errE]; omega, rfl⟩)
  · refine v_seq ?_
    refine v_region ?_
    refine vl_val (os_assign rfl) ?_
    refine vl_val (os_assign rfl) ?_
    refine vl_nil ?_
    refine v_seq ?_
    refine v_seq ?_
    refine v_region ?_
    refine vl_val (os_move rfl) ?_
    refine vl_val (os_f (os_lss rfl rfl) (by omega)) ?_
    refine vl_val (os_move rfl) ?_
    refine vl_valg rfl (os_move rfl) ?_
    refine vl_valg rfl (os_f (os_gtr rfl rfl) (by omega)) ?_
    refine vl_val (os_pick_f rfl rfl) ?_
    refine vl_val (os_move rfl) ?_
    refine vl_valg rfl (os_move rfl) ?_
    refine vl_valg rfl (os_f (os_lss rfl rfl) (by omega)) ?_
    refine vl_val (os_pick_f rfl rfl) ?_
    refine vl_val (os_move rfl) ?_
    refine vl_valg rfl (os_move rfl) ?_
    refine vl_valg rfl (os_gtr rfl rfl) ?_
    refine vl_val (os_pick_f rfl rfl) ?_
    refine vl_nil ?_
    refine v_cond_d rfl (fun hk => ?_) (fun hk => ?_)
    · have hw : widthOk long k = false := by simp [widthOk]; omega
      refine v_seq ?_
      refine v_region ?_
      refine vl_val (os_assign rfl) ?_
      refine vl_val (os_assign rfl) ?_
      refine vl_nil ?_
      refine v_ret ?_
      exact post_ret2 rfl rfl rfl (⟨by simp [widthV, hw, errE], rfl⟩)
    · have hw : widthOk long k = true := by simp [widthOk]; omega
      refine v_skip ?_
      refine v_seq ?_
      refine v_region ?_
      refine vl_val (os_move rfl) ?_
      refine vl_val (os_move rfl) ?_
      refine vl_val (os_addi rfl rfl (by omega)) ?_
      refine vl_val (os_subi rfl rfl (by omega)) ?_
      refine vl_val (os_move rfl) ?_
      refine vl_val (os_quoi rfl rfl (by omega)) ?_
      refine vl_val (os_assign rfl) ?_
      refine vl_val (os_assign rfl) ?_
      refine vl_nil ?_
      refine v_ret ?_
      exact post_ret2 rfl rfl rfl (⟨by simp [widthV, hw, errE, widthW], rfl⟩)

/-- a stripe of a row in block g -/
def segV (g wd r : Nat) : Value := .slice (some ⟨g, if wd = 0 then 0 else r * wd, none⟩) wd wd
section
variable {P : Program} {n : Cx} {fr : Fr} {w : World} {ty : TypeId} {x y z z2 : Operand} {m m' m2 : Int} {T e : TypeId} {k k' k2 : IntKind}
theorem os_slice_lhm {A : Option Addr} {l c i j h : Nat} {e : TypeId} {s : Nat} (hT : P.underlying T = some (.slice e)) (hs : ∀ w, (sizeOf e).run P w = .ok s w) (hx : Fr.ev fr x = some (.slice A l c)) (hy : Fr.ev fr y = some (.int k m)) (hm : m = (i : Int)) (hz : Fr.ev fr z = some (.int k' m')) (hm' : m' = (j : Int)) (hz2 : Fr.ev fr z2 = some (.int k2 m2)) (hm2 : m2 = (h : Int)) (hh : i ≤ j) (hj : j ≤ h) (hc : h ≤ c) :
    OS P n (.slice T x (some y) (some z) (some z2)) ty fr w (.slice (if h = i then A else A.map (·.add (i * s))) (j - i) (h - i)) w := os_of fun a ha => by
  subst hm; subst hm'; subst hm2
  simp [execOp, ha.ev hx, ha.ev hy, ha.ev hz, ha.ev hz2, Instr.sliceAt, Instr.slice, run_underlying hT, Instr.sliceBounds, Instr.sliceBound, asIntOf, hs, hh, hj, hc]
theorem os_seg {g l c wd r K : Nat} {e : TypeId} (hT : P.underlying T = some (.slice e)) (hs : ∀ w, (sizeOf e).run P w = .ok 1 w) (hx : Fr.ev fr x = some (.slice (some ⟨g, 0, none⟩) l c)) (hy : Fr.ev fr y = some (.int k m)) (hm : m = ((r * wd : Nat) : Int)) (hz : Fr.ev fr z = some (.int k' m')) (hm' : m' = ((r * wd + wd : Nat) : Int)) (hz2 : Fr.ev fr z2 = some (.int k2 m2)) (hm2 : m2 = ((r * wd + wd : Nat) : Int)) (hr : r < K) (hc : wd * K ≤ c) :
    OS P n (.slice T x (some y) (some z) (some z2)) ty fr w (segV g wd r) w := by
  have h1 : r * wd + wd ≤ c := by
    have : (r + 1) * wd ≤ K * wd := Nat.mul_le_mul_right _ hr
    rw [Nat.add_mul, Nat.one_mul, Nat.mul_comm K] at this
    omega
  have := os_slice_lhm (P := P) (n := n) (ty := ty) (w := w) hT hs hx hy hm hz hm' hz2 hm2 (by omega) (Nat.le_refl _) h1
  have e : (Value.slice (if r * wd + wd = r * wd then some ⟨g, 0, none⟩ else (some (⟨g, 0, none⟩ : Addr)).map (·.add (r * wd * 1))) (r * wd + wd - r * wd) (r * wd + wd - r * wd)) = segV g wd r := by
    unfold segV
    rw [Nat.add_sub_cancel_left]
    by_cases h0 : wd = 0
    · subst h0; simp
    · rw [if_neg (by omega), if_neg h0]; simp [addr_add]
  rw [e] at this
  exact this
end
theorem mul_fit {r wd K : Nat} (hr : r < K) (hb : wd * K ≤ 1000000000) : IntKind.i64.wrap ((r : Int) * (wd : Int)) = ((r * wd : Nat) : Int) ∧ r * wd + wd ≤ 1000000000 := by
  have : (r + 1) * wd ≤ K * wd := Nat.mul_le_mul_right _ hr
  rw [Nat.add_mul, Nat.one_mul, Nat.mul_comm K] at this
  constructor
  · rw [← Int.natCast_mul]; exact i64_fit ⟨by omega, by omega⟩
  · omega

theorem strip_stripes_fn (l p1 p2 g K wd : Nat) (J Jx : Nat → World → Prop) (W : World) (hJI : ∀ k W, J k W → W.cell? ⟨p1, 0, none⟩ = some (.slice (some ⟨g, 0, none⟩) (wd * K) (wd * K)) ∧ W.cell? ⟨p2, 0, none⟩ = some (.int .i64 K))
    (hK : 0 < K) (hb : wd * K ≤ 1000000000) (hK2 : K ≤ 100000) (hw2 : wd ≤ 1000000) (hR : Rounds Try.prog l (fun r => [segV g wd r]) K J Jx) (hJ0 : J 0 W) :
    Gives Try.prog 94 #[.func (.yield l) #[] #[], .pointer (some ⟨p1, 0, none⟩), .pointer (some ⟨p2, 0, none⟩)] W fun _ W' => J K W' ∨ ∃ k, Jx k W' := by
  have hdiv : IntKind.i64.wrap (((wd * K : Nat) : Int).tdiv K) = (wd : Int) := by
    rw [Int.tdiv_eq_ediv_of_nonneg (by exact_mod_cast Nat.zero_le _), show (((wd * K : Nat) : Int)) / (K : Int) = wd by rw [Int.natCast_mul, Int.mul_ediv_cancel _ (by omega)]]
    exact i64_fit ⟨by omega, by omega⟩
  refine gives_enter Try.call94 Try.func94 rfl rfl rfl (by kernel_rfl) ?_
  refine v_seq ?_
  refine v_region ?_
  refine vl_val (os_load Try.isAgg22 rfl ((hJI 0 W hJ0).1)) ?_
  refine vl_val (os_len Try.underlying22 rfl) ?_
  refine vl_val (os_load Try.isAgg3 rfl ((hJI 0 W hJ0).2)) ?_
  refine vl_val (os_quo rfl rfl (by omega) hdiv) ?_
  refine vl_val (os_assign rfl) ?_
  refine vl_nil ?_
  refine v_seq ?_
  refine v_region ?_
  refine vl_val (os_load Try.isAgg3 rfl ((hJI 0 W hJ0).2)) ?_
  refine vl_val (os_move rfl) ?_
  refine vl_nil ?_
  refine v_block ?_
  refine v_loop [(0, _), (1, _), (4, _), (10, _)] (fun (r : Nat) => [(11, .int .i64 r)]) (fun r w' => r ≤ K ∧ J r w') (fun r => K - r) (0) ⟨rfl, rfl, rfl, rfl, trivial⟩ ⟨rfl, trivial⟩ (⟨by omega, hJ0⟩) ?_
  rintro r w' ⟨hr, hj⟩
  refine v_seq ?_
  refine v_region ?_
  refine vl_val (os_lss rfl rfl) ?_
  refine vl_nil ?_
  refine v_seq ?_
  refine v_cond_d rfl (fun h => ?_) (fun h => ?_)
  · obtain ⟨m1, m2⟩ := mul_fit (show r < K by omega) hb
    refine v_skip ?_
    refine v_seq ?_
    refine v_block ?_
    refine v_seq ?_
    refine v_region ?_
    refine vl_val (os_move rfl) ?_
    refine vl_val (os_assign rfl) ?_
    refine vl_nil ?_
    refine v_seq ?_
    refine v_region ?_
    refine vl_val (os_move rfl) ?_
    refine vl_val (os_load Try.isAgg22 rfl ((hJI r w' hj).1)) ?_
    refine vl_val (os_move rfl) ?_
    refine vl_val (os_move rfl) ?_
    refine vl_val (os_mul rfl rfl (m1)) ?_
    refine vl_val (os_move rfl) ?_
    refine vl_val (os_move rfl) ?_
    refine vl_val (os_mul rfl rfl (m1)) ?_
    refine vl_val (os_move rfl) ?_
    refine vl_val (os_addi rfl rfl (by omega)) ?_
    refine vl_val (os_move rfl) ?_
    refine vl_val (os_move rfl) ?_
    refine vl_val (os_mul rfl rfl (m1)) ?_
    refine vl_val (os_move rfl) ?_
    refine vl_val (os_addi rfl rfl (by omega)) ?_
    refine vl_val (os_seg (r := r) (wd := wd) (K := K) Try.underlying22 Try.sizeOf5 rfl rfl rfl rfl (by omega) rfl (by omega) (by omega) (Nat.le_refl _)) ?_
    refine vl_yield rfl rfl (hR r w' hj (by omega)) ?_
    rintro b w2 ⟨hy, hn⟩
    refine vl_val (os_not rfl) ?_
    refine vl_nil ?_
    refine v_cond rfl (fun hbv => ?_) (fun hbv => ?_)
    · refine v_ret ?_
      exact post_ret0 rfl (.inr ⟨r, hn (by simpa using hbv)⟩)
    · refine v_skip ?_
      refine v_region ?_
      refine vl_val (os_addi rfl rfl (by omega)) ?_
      refine vl_val (os_move rfl) ?_
      refine vl_nil ?_
      exact ⟨r + 1, ⟨rfl, rfl, rfl, rfl, trivial⟩, ⟨rfl, trivial⟩, ⟨by omega, hy (by simpa using hbv)⟩, by dsimp only; omega⟩
  · obtain rfl : K = r := by omega
    refine v_exit ?_
    exact post_end0 rfl (.inl hj)
end Go.Proofs.Ytpojijnjdlnokaa
