/- Layer 12: even weights; the document's order; WeighDoes. -/
import Derived.Test.YtmbcflanifoofaaRep
import Derived.Test.YtmbcflanifoofaaKitL
namespace Go.Proofs.Ytmbcflanifoofaa
open Go.RowKit
set_option linter.unusedVariables false

def evenOk (n : Int) : Bool := decide (1 ≤ n ∧ n ≤ 255)
def evenL (n : Int) : List Int := if evenOk n then List.replicate (n + 1).toNat 65536 else []
theorem evenL_len (n : Int) : (evenL n).length ≤ 256 := by
  unfold evenL evenOk
  split
  · rename_i h
    have := of_decide_eq_true h
    simp; omega
  · simp
theorem wg_Even (n : Int) (w : World) (hn : I64 n) : Gives Try.prog 62 #[.int .i64 n] w fun v w' => ∃ s, v = .tuple #[s, .int .i64 (errA (evenOk n))] ∧ OwnK w' w.heap.size 3 .i64 s (evenL n) ∧ Below w.heap.size w w' := by
  refine gives_enter Try.call62 Try.func62 rfl rfl rfl (by kernel_rfl) ?_
  rcases (by omega : n < 1 ∨ 255 < n ∨ (1 ≤ n ∧ n ≤ 255)) with h | h | h
  · refine v_seq ?_
    refine v_region ?_
    refine vl_val (os_assign rfl) ?_
    refine vl_val (os_assign rfl) ?_
    refine vl_nil ?_
    refine v_seq ?_
    refine v_seq ?_
    refine v_region ?_
    refine vl_val (os_move rfl) ?_
    refine vl_val (os_t (os_lss rfl rfl) (by omega)) ?_
    have e : evenOk n = false := decide_eq_false (by omega)
    refine vl_val (os_move rfl) ?_
    refine vl_skip rfl rfl ?_
    refine vl_skip rfl rfl ?_
    refine vl_val (os_pick_t rfl rfl) ?_
    refine vl_nil ?_
    refine v_cond_t rfl ?_
    refine v_seq ?_
    refine v_region ?_
    refine vl_val (os_assign rfl) ?_
    refine vl_val (os_assign rfl) ?_
    refine vl_nil ?_
    refine v_ret ?_
    exact post_ret2 rfl rfl rfl (⟨_, by rw [e]; rfl, by rw [evenL, e]; exact Own.nil _ _ _, Below.refl _ _⟩)
  · refine v_seq ?_
    refine v_region ?_
    refine vl_val (os_assign rfl) ?_
    refine vl_val (os_assign rfl) ?_
    refine vl_nil ?_
    refine v_seq ?_
    refine v_seq ?_
    refine v_region ?_
    refine vl_val (os_move rfl) ?_
    refine vl_val (os_f (os_lss rfl rfl) (by omega)) ?_
    refine vl_val (os_move rfl) ?_
    refine vl_valg rfl (os_move rfl) ?_
    refine vl_valg rfl (os_gtr rfl rfl) ?_
    refine vl_val (os_pick_f rfl rfl) ?_
    refine vl_nil ?_
    refine v_cond_yes rfl (by omega) ?_
    have e : evenOk n = false := decide_eq_false (by omega)
    refine v_seq ?_
    refine v_region ?_
    refine vl_val (os_assign rfl) ?_
    refine vl_val (os_assign rfl) ?_
    refine vl_nil ?_
    refine v_ret ?_
    exact post_ret2 rfl rfl rfl (⟨_, by rw [e]; rfl, by rw [evenL, e]; exact Own.nil _ _ _, Below.refl _ _⟩)
  · refine v_seq ?_
    refine v_region ?_
    refine vl_val (os_assign rfl) ?_
    refine vl_val (os_assign rfl) ?_
    refine vl_nil ?_
    refine v_seq ?_
    refine v_seq ?_
    refine v_region ?_
    refine vl_val (os_move rfl) ?_
    refine vl_val (os_f (os_lss rfl rfl) (by omega)) ?_
    refine vl_val (os_move rfl) ?_
    refine vl_valg rfl (os_move rfl) ?_
    refine vl_valg rfl (os_gtr rfl rfl) ?_
    refine vl_val (os_pick_f rfl rfl) ?_
    refine vl_nil ?_
    refine v_cond_no rfl (by omega) ?_
    have e : evenOk n = true := decide_eq_true h
    obtain ⟨k, hk⟩ : ∃ k : Nat, n + 1 = k := ⟨(n + 1).toNat, by omega⟩
    have hb0 : Below w.heap.size w (w.alloc (.cells ([65536].map (Value.int .i64)).toArray 3)) := (Below.refl _ _).alloc (Nat.le_refl _) _
    refine v_skip ?_
    refine v_seq ?_
    refine v_region ?_
    refine vl_val (os_lit Try.underlying28 Try.sizeOf3 Try.zeroValue3 rfl rfl rfl rfl (by decide)) ?_
    refine vl_val (os_move rfl) ?_
    refine vl_val (os_addi rfl rfl (by omega)) ?_
    refine vl_call ((hk ▸ sl_Repeat _ _ k 65536 _ (rd_alloc w .i64 [65536] _) (by omega))) rfl ?_
    rintro v1 w1 ⟨g, rfl, ho, hb1⟩
    refine vl_val (os_assign rfl) ?_
    refine vl_val (os_assign rfl) ?_
    refine vl_nil ?_
    refine v_ret ?_
    exact post_ret2 rfl rfl rfl (⟨_, by rw [e]; rfl, by rw [evenL, e, if_pos rfl, hk]; exact Own.mono ho (by simp), hb0.trans (hb1.mono (by simp))⟩)
theorem ref_Even (n : Int) (w : World) (hn : I64 n) : Gives Try.prog 65 #[.int .i64 n] w fun v w' => ∃ s, v = .tuple #[s, .int .i64 (errA (evenOk n))] ∧ OwnK w' w.heap.size 3 .i64 s (evenL n) ∧ Below w.heap.size w w' := by
  refine gives_enter Try.call65 Try.func65 rfl rfl rfl (by kernel_rfl) ?_
  rcases (by omega : n < 1 ∨ 255 < n ∨ (1 ≤ n ∧ n ≤ 255)) with h | h | h
  · refine v_seq ?_
    refine v_region ?_
    refine vl_val (os_assign rfl) ?_
    refine vl_val (os_assign rfl) ?_
    refine vl_nil ?_
    refine v_seq ?_
    refine v_seq ?_
    refine v_region ?_
    refine vl_val (os_move rfl) ?_
    refine vl_val (os_t (os_lss rfl rfl) (by omega)) ?_
    have e : evenOk n = false := decide_eq_false (by omega)
    refine vl_val (os_move rfl) ?_
    refine vl_skip rfl rfl ?_
    refine vl_skip rfl rfl ?_
    refine vl_val (os_pick_t rfl rfl) ?_
    refine vl_nil ?_
    refine v_cond_t rfl ?_
    refine v_seq ?_
    refine v_region ?_
    refine vl_val (os_assign rfl) ?_
    refine vl_val (os_assign rfl) ?_
    refine vl_nil ?_
    refine v_ret ?_
    exact post_ret2 rfl rfl rfl (⟨_, by rw [e]; rfl, by rw [evenL, e]; exact Own.nil _ _ _, Below.refl _ _⟩)
  · refine v_seq ?_
    refine v_region ?_
    refine vl_val (os_assign rfl) ?_
    refine vl_val (os_assign rfl) ?_
    refine vl_nil ?_
    refine v_seq ?_
    refine v_seq ?_
    refine v_region ?_
    refine vl_val (os_move rfl) ?_
    refine vl_val (os_f (os_lss rfl rfl) (by omega)) ?_
    refine vl_val (os_move rfl) ?_
    refine vl_valg rfl (os_move rfl) ?_
    refine vl_valg rfl (os_gtr rfl rfl) ?_
    refine vl_val (os_pick_f rfl rfl) ?_
    refine vl_nil ?_
    refine v_cond_yes rfl (by omega) ?_
    have e : evenOk n = false := decide_eq_false (by omega)
    refine v_seq ?_
    refine v_region ?_
    refine vl_val (os_assign rfl) ?_
    refine vl_val (os_assign rfl) ?_
    refine vl_nil ?_
    refine v_ret ?_
    exact post_ret2 rfl rfl rfl (⟨_, by rw [e]; rfl, by rw [evenL, e]; exact Own.nil _ _ _, Below.refl _ _⟩)
  · refine v_seq ?_
    refine v_region ?_
    refine vl_val (os_assign rfl) ?_
    refine vl_val (os_assign rfl) ?_
    refine vl_nil ?_
    refine v_seq ?_
    refine v_seq ?_
    refine v_region ?_
    refine vl_val (os_move rfl) ?_
    refine vl_val (os_f (os_lss rfl rfl) (by omega)) ?_
    refine vl_val (os_move rfl) ?_
    refine vl_valg rfl (os_move rfl) ?_
    refine vl_valg rfl (os_gtr rfl rfl) ?_
    refine vl_val (os_pick_f rfl rfl) ?_
    refine vl_nil ?_
    refine v_cond_no rfl (by omega) ?_
    have e : evenOk n = true := decide_eq_true h
    refine v_skip ?_
    refine v_seq ?_
    refine v_region ?_
    refine vl_val (os_assign rfl) ?_
    refine vl_nil ?_
    refine v_seq ?_
    refine v_seq ?_
    refine v_region ?_
    refine vl_val (os_assign rfl) ?_
    refine vl_nil ?_
    refine v_block ?_
    refine v_loop2 [(0, _)] (fun (v : Value) (i : Nat) => [(4, v), (5, .int .i64 i)]) (fun v i w' => (i : Int) ≤ n + 1 ∧ OwnK w' w.heap.size 3 .i64 v (List.replicate i 65536) ∧ Below w.heap.size w w') (fun v i => (n + 1).toNat - i) (.slice none 0 0) (0) ⟨rfl, trivial⟩ ⟨rfl, rfl, trivial⟩ (⟨by omega, Own.nil _ _ _, Below.refl _ _⟩) ?_
    rintro v i w' ⟨hi, ho, hb⟩
    refine v_seq ?_
    refine v_seq ?_
    refine v_region ?_
    refine vl_val (os_move rfl) ?_
    refine vl_val (os_move rfl) ?_
    refine vl_val (os_leq rfl rfl) ?_
    refine vl_nil ?_
    refine v_cond_d rfl (fun hlt => ?_) (fun hlt => ?_)
    · have ho4 := Own.alloc ho (.cells [Value.int .i64 65536].toArray 3)
      have hb4 := hb.alloc hb.size (.cells [Value.int .i64 65536].toArray 3)
      refine v_skip ?_
      refine v_seq ?_
      refine v_block ?_
      refine v_region ?_
      refine vl_val (os_move rfl) ?_
      refine vl_val (os_lit Try.underlying28 Try.sizeOf3 Try.zeroValue3 rfl rfl rfl rfl (by decide)) ?_
      refine vl_some (ot_append Try.underlying28 ti_int rfl rfl rfl ho4 (rdc_alloc w' [Value.int .i64 65536] _) rfl (by simp [Value.oneCell']) (by simp; omega) (by simp [maxLen]; omega) hb4.size) ?_
      rintro v5 w5 ⟨ho5, hg5⟩
      refine vl_val (os_assign rfl) ?_
      refine vl_nil ?_
      refine v_region ?_
      refine vl_val (os_move rfl) ?_
      refine vl_val (os_addi rfl rfl (by omega)) ?_
      refine vl_val (os_assign rfl) ?_
      refine vl_nil ?_
      exact ⟨⟨v5, i + 1⟩, ⟨rfl, trivial⟩, ⟨rfl, rfl, trivial⟩, ⟨by omega, by rw [List.replicate_succ']; simpa [OwnK] using ho5, Own.below hb4 ho4 hg5 (Nat.le_refl _) hb4.size⟩, by dsimp only; omega⟩
    · refine v_exit ?_
      refine v_seq ?_
      refine v_region ?_
      refine vl_val (os_move rfl) ?_
      refine vl_val (os_assign rfl) ?_
      refine vl_val (os_assign rfl) ?_
      refine vl_nil ?_
      refine v_ret ?_
      exact post_ret2 rfl rfl rfl (⟨_, by rw [e]; rfl, by rw [evenL, e, if_pos rfl, show (n + 1).toNat = i by omega]; exact ho, hb⟩)

theorem lessL_neq : ∀ {a b : List Int}, a.length = b.length → ∀ {i : Nat}, i < a.length → a.take i = b.take i → a.getD i 0 ≠ b.getD i 0 → lessL a b = decide (a.getD i 0 < b.getD i 0)
  | [], _, _, i, hi, _, _ => by simp at hi
  | x :: xs, [], hl, _, _, _, _ => by simp at hl
  | x :: xs, y :: ys, hl, 0, _, _, hne => by
    have hne' : x ≠ y := by simpa using hne
    simp [lessL, hne']
  | x :: xs, y :: ys, hl, i + 1, hi, ht, hne => by
    have h1 : x = y ∧ xs.take i = ys.take i := by simpa using ht
    have ih := lessL_neq (a := xs) (b := ys) (by simpa using hl) (i := i) (by simpa using hi) h1.2 (by simpa using hne)
    simp only [List.getD_cons_succ]
    rw [← ih]
    simp [lessL, h1.1]
theorem lessL_self (a : List Int) : lessL a a = false := by have := (lessL_tri a a).2; simpa using this

theorem ref_Better (A B C D : Option Addr) (l m o n c d e f : Nat) (worths ks other ws : List Int) (w : World) (ha : Rd w .i64 A worths) (hb : Rd w .i64 B ks) (hc : Rd w .i64 C other) (hd : Rd w .i64 D ws) (hl : l = worths.length) (hm : m = ks.length) (ho : o = other.length) (hn : n = ws.length) (hl' : l ≤ 9000000000000000) (hm' : m ≤ 9000000000000000) (ho' : o ≤ 9000000000000000) (hn' : n ≤ 9000000000000000) :
    Gives Try.prog 64 #[.slice A l c, .slice B m d, .slice C o e, .slice D n f] w fun v w' => v = .tuple #[.bool (betV worths ks other ws), .int .i64 (errA (betOk worths ks other ws))] ∧ LeD w w' := by
  refine gives_enter Try.call64 Try.func64 rfl rfl rfl (by kernel_rfl) ?_
  refine v_seq ?_
  refine v_region ?_
  refine vl_val (os_assign rfl) ?_
  refine vl_val (os_assign rfl) ?_
  refine vl_nil ?_
  refine v_seq ?_
  refine v_region ?_
  refine vl_val (os_move rfl) ?_
  refine vl_val (os_move rfl) ?_
  refine vl_val (os_move rfl) ?_
  refine vl_call (ref_Score A B D l m n c d f worths ks ws w ha hb hd hl hm hn hl' hm' hn') rfl ?_
  rintro v w ⟨rfl, q, rfl⟩
  refine vl_val (os_move rfl) ?_
  refine vl_val (os_extract rfl rfl) ?_
  refine vl_val (os_extract rfl rfl) ?_
  refine vl_val (os_assign rfl) ?_
  refine vl_val (os_assign rfl) ?_
  refine vl_nil ?_
  refine v_seq ?_
  refine v_seq ?_
  refine v_region ?_
  refine vl_val (os_move rfl) ?_
  refine vl_val (os_neq rfl rfl) ?_
  refine vl_nil ?_
  refine v_cond_d rfl (fun h1 => ?_) (fun h1 => ?_)
  · have h1 : scOk worths ks ws = false := by cases hh : scOk worths ks ws <;> simp_all [errA]
    refine v_seq ?_
    refine v_region ?_
    refine vl_val (os_move rfl) ?_
    refine vl_val (os_assign rfl) ?_
    refine vl_val (os_assign rfl) ?_
    refine vl_nil ?_
    refine v_ret ?_
    exact post_ret2 rfl rfl rfl (⟨by simp [betV, betOk, h1], q, rfl⟩)
  · have h1 : scOk worths ks ws = true := errA_zero.1 (by omega)
    refine v_skip ?_
    refine v_seq ?_
    refine v_region ?_
    refine vl_val (os_move rfl) ?_
    refine vl_val (os_move rfl) ?_
    refine vl_val (os_move rfl) ?_
    refine vl_call (ref_Score A C D l o n c e f worths other ws _ (ha.drewN q) (hc.drewN q) (hd.drewN q) hl ho hn hl' ho' hn') rfl ?_
    rintro v w' ⟨rfl, q2, rfl⟩
    refine vl_val (os_move rfl) ?_
    refine vl_val (os_extract rfl rfl) ?_
    refine vl_val (os_extract rfl rfl) ?_
    refine vl_val (os_assign rfl) ?_
    refine vl_val (os_assign rfl) ?_
    refine vl_nil ?_
    refine v_seq ?_
    refine v_seq ?_
    refine v_region ?_
    refine vl_val (os_move rfl) ?_
    refine vl_val (os_neq rfl rfl) ?_
    refine vl_nil ?_
    refine v_cond_d rfl (fun h2 => ?_) (fun h2 => ?_)
    · have h2 : scOk worths other ws = false := by cases hh : scOk worths other ws <;> simp_all [errA]
      refine v_seq ?_
      refine v_region ?_
      refine vl_val (os_move rfl) ?_
      refine vl_val (os_assign rfl) ?_
      refine vl_val (os_assign rfl) ?_
      refine vl_nil ?_
      refine v_ret ?_
      exact post_ret2 rfl rfl rfl (⟨by simp [betV, betOk, h1, h2], _, World.drewN_drewN ..⟩)
    · have h2 : scOk worths other ws = true := errA_zero.1 (by omega)
      have hok : betOk worths ks other ws = true := by simp [betOk, h1, h2]
      have hlen : ks.length = other.length := by simp only [scOk, Bool.and_eq_true, decide_eq_true_eq] at h1 h2; omega
      refine v_skip ?_
      refine v_seq ?_
      refine v_seq ?_
      refine v_region ?_
      refine vl_val (os_move rfl) ?_
      refine vl_val (os_move rfl) ?_
      refine vl_val (os_neq rfl rfl) ?_
      refine vl_nil ?_
      refine v_cond_d rfl (fun h3 => ?_) (fun h3 => ?_)
      · refine v_seq ?_
        refine v_region ?_
        refine vl_val (os_move rfl) ?_
        refine vl_val (os_move rfl) ?_
        refine vl_val (os_gtr rfl rfl) ?_
        refine vl_val (os_assign rfl) ?_
        refine vl_val (os_assign rfl) ?_
        refine vl_nil ?_
        refine v_ret ?_
        exact post_ret2 rfl rfl rfl (⟨by rw [betV, hok, show decide (scV worths ks ws = scV worths other ws) = false from decide_eq_false h3]; simp [errA], _, World.drewN_drewN ..⟩)
      · have hv : betV worths ks other ws = lessL ks other := by rw [betV, hok, decide_eq_false (by omega), decide_eq_true (by omega)]; simp
        rw [hv, hok]
        refine v_skip ?_
        refine v_seq ?_
        refine v_seq ?_
        refine v_region ?_
        refine vl_val (os_assign rfl) ?_
        refine vl_nil ?_
        refine v_block ?_
        refine v_loop [(1, _), (2, _)] (fun (k : Nat) => [(14, .int .i64 k)]) (fun k w' => k ≤ m ∧ ks.take k = other.take k ∧ LeD w w') (fun k => m - k) (0) ⟨rfl, rfl, trivial⟩ ⟨rfl, trivial⟩ (⟨by omega, rfl, _, World.drewN_drewN ..⟩) ?_
        rintro k w' ⟨hk, htk, q3, rfl⟩
        refine v_seq ?_
        refine v_seq ?_
        refine v_region ?_
        refine vl_val (os_move rfl) ?_
        refine vl_val (os_move rfl) ?_
        refine vl_val (os_len Try.underlying28 rfl) ?_
        refine vl_val (os_lss rfl rfl) ?_
        refine vl_nil ?_
        refine v_cond_d rfl (fun hlt => ?_) (fun hlt => ?_)
        · obtain ⟨b1, o1, rfl, c1⟩ := (hb.drewN q3).at_ (i := k) (by omega)
          obtain ⟨b2, o2, rfl, c2⟩ := (hc.drewN q3).at_ (i := k) (by omega)
          refine v_skip ?_
          refine v_seq ?_
          refine v_block ?_
          refine v_seq ?_
          refine v_region_t LeD _ mixed (by kernel_rfl) lee_d (led_start _) ?_
          refine vt_val (fun w hw => os_move rfl) ?_
          refine vt_val (fun w hw => os_move rfl) ?_
          refine vt_val (fun w hw => os_ix Try.underlying28 Try.sizeOf3 rfl rfl (i := k) (by omega) (by omega)) ?_
          refine vt_val (fun w hw => os_load Try.isAgg3 rfl (led_cell hw (c1))) ?_
          refine vt_val (fun w hw => os_move rfl) ?_
          refine vt_val (fun w hw => os_move rfl) ?_
          refine vt_val (fun w hw => os_ix Try.underlying28 Try.sizeOf3 rfl rfl (i := k) (by omega) (by omega)) ?_
          refine vt_val (fun w hw => os_load Try.isAgg3 rfl (led_cell hw (c2))) ?_
          refine vt_val (fun w hw => os_neq rfl rfl) ?_
          refine vt_nil (fun w hw => ?_)
          obtain ⟨q4, rfl⟩ := hw
          refine v_cond_d rfl (fun hne => ?_) (fun hne => ?_)
          · refine v_seq ?_
            refine v_region_t LeD _ mixed (by kernel_rfl) lee_d (led_start _) ?_
            refine vt_val (fun w hw => os_move rfl) ?_
            refine vt_val (fun w hw => os_move rfl) ?_
            refine vt_val (fun w hw => os_ix Try.underlying28 Try.sizeOf3 rfl rfl (i := k) (by omega) (by omega)) ?_
            refine vt_val (fun w hw => os_load Try.isAgg3 rfl (led_cell hw (c1))) ?_
            refine vt_val (fun w hw => os_move rfl) ?_
            refine vt_val (fun w hw => os_move rfl) ?_
            refine vt_val (fun w hw => os_ix Try.underlying28 Try.sizeOf3 rfl rfl (i := k) (by omega) (by omega)) ?_
            refine vt_val (fun w hw => os_load Try.isAgg3 rfl (led_cell hw (c2))) ?_
            refine vt_val (fun w hw => os_lss rfl rfl) ?_
            refine vt_val (fun w hw => os_assign rfl) ?_
            refine vt_val (fun w hw => os_assign rfl) ?_
            refine vt_nil (fun w hw => ?_)
            obtain ⟨q5, rfl⟩ := hw
            refine v_ret ?_
            exact post_ret2 rfl rfl rfl (⟨by rw [lessL_neq hlen (i := k) (by omega) htk hne]; rfl, ⟨_, by rw [World.drewN_drewN, World.drewN_drewN]⟩⟩)
          · refine v_skip ?_
            refine v_region ?_
            refine vl_val (os_move rfl) ?_
            refine vl_val (os_addi rfl rfl (by omega)) ?_
            refine vl_val (os_assign rfl) ?_
            refine vl_nil ?_
            exact ⟨k + 1, ⟨rfl, rfl, trivial⟩, ⟨rfl, trivial⟩, ⟨by omega, take_succ_eq (n := m) hm (by omega) (by omega) htk 0 (by simpa using hne), _, World.drewN_drewN ..⟩, by dsimp only; omega⟩
        · have he : ks = other := eq_of_take (n := m) hm (by omega) (by rw [show m = k by omega]; exact htk)
          refine v_exit ?_
          refine v_seq ?_
          refine v_region ?_
          refine vl_val (os_assign rfl) ?_
          refine vl_val (os_assign rfl) ?_
          refine vl_nil ?_
          refine v_ret ?_
          exact post_ret2 rfl rfl rfl (⟨by rw [he, lessL_self]; rfl, _, rfl⟩)
end Go.Proofs.Ytmbcflanifoofaa
