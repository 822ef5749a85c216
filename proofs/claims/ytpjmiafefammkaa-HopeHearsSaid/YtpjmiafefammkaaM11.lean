/- Texts joined: HpB KitO. -/
import Derived.Test.YtpjmiafefammkaaM10
/- Layer 25: what is had of so many datagrams: a loop over an iterator. -/
namespace Go.Proofs.Ytpjmiafefammkaa
open Go.RowKit
set_option linter.unusedVariables false

def hdGood (worths ks : List Int) (i : Nat) : Prop := 0 ≤ worths.getD i 0 ∧ worths.getD i 0 ≤ 1048576 ∧ 1 ≤ ks.getD i 0 ∧ ks.getD i 0 ≤ 255
instance (worths ks : List Int) (i : Nat) : Decidable (hdGood worths ks i) := by unfold hdGood; infer_instance
def hdOk (worths ks : List Int) (came : Int) : Bool := decide (worths.length = ks.length) && (decide (ks.length ≤ 8) && (decide (0 ≤ came ∧ came ≤ 255) && decide (∀ i, i < ks.length → hdGood worths ks i)))
def hdT (worths ks : List Int) (came : Int) (i : Nat) : Int := if ks.getD i 0 ≤ came then worths.getD i 0 else 0
def hdSum (worths ks : List Int) (came : Int) : Nat → Int
  | 0 => 0
  | k + 1 => hdSum worths ks came k + hdT worths ks came k
def hdV (worths ks : List Int) (came : Int) : Int := if hdOk worths ks came then hdSum worths ks came ks.length else 0
theorem hdSum_bd {worths ks : List Int} {came : Int} : ∀ k, (∀ i, i < k → hdGood worths ks i) → 0 ≤ hdSum worths ks came k ∧ hdSum worths ks came k ≤ k * 1048576
  | 0, _ => by simp [hdSum]
  | k + 1, h => by
    have h1 := hdSum_bd (came := came) k (fun i hi => h i (by omega))
    have h2 := h k (by omega)
    unfold hdGood at h2
    simp only [hdSum, hdT]
    split <;> omega
theorem hd_no {worths ks : List Int} {came : Int} {i : Nat} (hi : i < ks.length) (h : ¬ hdGood worths ks i) : hdOk worths ks came = false := by
  cases h2 : hdOk worths ks came with
  | false => rfl
  | true =>
    simp only [hdOk, Bool.and_eq_true, decide_eq_true_eq] at h2
    exact absurd (h2.2.2.2 i hi) h
theorem u64_big {x : Int} (hx : -9223372036854775808 ≤ x ∧ x ≤ 9223372036854775807) (m : Int) (hm : 0 ≤ m ∧ m ≤ 1000000000) : (m < IntKind.u64.wrap x) ↔ ¬ (0 ≤ x ∧ x ≤ m) := by
  rw [show IntKind.u64.wrap x = x % 18446744073709551616 by simp [IntKind.wrap, IntKind.bits, IntKind.signed]]
  omega

theorem hope_both (A B : Option Addr) (l c m d : Nat) (w : World) : Gives Try.prog 78 #[.slice A l c, .slice B m d] w fun v w' => v = .func (.func 114) #[] #[.pointer (some ⟨w.heap.size, 0, none⟩), .pointer (some ⟨w.heap.size + 1, 0, none⟩)] ∧ w' = (w.alloc (.cells #[.slice A l c] 40)).alloc (.cells #[.slice B m d] 40) := by
  refine gives_enter Try.call78 Try.func78 rfl rfl rfl (by kernel_rfl) ?_
  refine v_seq ?_
  refine v_region ?_
  refine vl_val (os_box rfl) ?_
  refine vl_val (os_box rfl) ?_
  refine vl_val (os_assign rfl) ?_
  refine vl_nil ?_
  refine v_seq ?_
  refine v_region ?_
  refine vl_val (os_makeFunc rfl) ?_
  refine vl_val (os_assign rfl) ?_
  refine vl_nil ?_
  refine v_ret ?_
  exact post_ret rfl rfl (⟨by simp, rfl⟩)
theorem hope_both_fn (y p1 p2 : Nat) (A B : Option Addr) (l c m d : Nat) (worths ks : List Int) (J Jx : Nat → World → Prop) (W : World)
    (hJI : ∀ k W, J k W → W.cell? ⟨p1, 0, none⟩ = some (.slice A l c) ∧ W.cell? ⟨p2, 0, none⟩ = some (.slice B m d) ∧ Rd W .i64 A worths ∧ Rd W .i64 B ks)
    (hl : l = worths.length) (hm : m = ks.length) (hlm : l = m) (hl9 : l ≤ 1000) (hR : Rounds Try.prog y (fun k => [.int .i64 (worths.getD k 0), .int .i64 (ks.getD k 0)]) l J Jx) (hJ0 : J 0 W) :
    Gives Try.prog 114 #[.func (.yield y) #[] #[], .pointer (some ⟨p1, 0, none⟩), .pointer (some ⟨p2, 0, none⟩)] W fun _ W' => J l W' ∨ ∃ k, Jx k W' := by
  refine gives_enter Try.call114 Try.func114 rfl rfl rfl (by kernel_rfl) ?_
  refine v_seq ?_
  refine v_region ?_
  refine vl_val (os_load Try.isAgg40 rfl ((hJI 0 W hJ0).1)) ?_
  refine vl_val (os_len Try.underlying40 rfl) ?_
  refine vl_val (os_move rfl) ?_
  refine vl_nil ?_
  refine v_block ?_
  refine v_loop [(0, _), (2, _), (6, _), (7, _)] (fun (k : Nat) => [(8, .int .i64 k)]) (fun k w' => k ≤ l ∧ J k w') (fun k => l - k) (0) ⟨rfl, rfl, rfl, rfl, trivial⟩ ⟨rfl, trivial⟩ (⟨by omega, hJ0⟩) ?_
  rintro k w' ⟨hk, hj⟩
  refine v_seq ?_
  refine v_region ?_
  refine vl_val (os_lss rfl rfl) ?_
  refine vl_nil ?_
  refine v_seq ?_
  refine v_cond_d rfl (fun h => ?_) (fun h => ?_)
  · obtain ⟨h1, h2, h3, h4⟩ := hJI k w' hj
    obtain ⟨b, o, rfl, hc⟩ := h3.at_ (i := k) (by omega)
    obtain ⟨b2, o2, rfl, hc2⟩ := h4.at_ (i := k) (by omega)
    refine v_skip ?_
    refine v_seq ?_
    refine v_block ?_
    refine v_seq ?_
    refine v_region ?_
    refine vl_val (os_move rfl) ?_
    refine vl_val (os_ix Try.underlying40 Try.sizeOf3 rfl rfl (i := k) (by omega) (by omega)) ?_
    refine vl_val (os_load Try.isAgg3 rfl (hc)) ?_
    refine vl_val (os_assign rfl) ?_
    refine vl_val (os_assign rfl) ?_
    refine vl_nil ?_
    refine v_seq ?_
    refine v_region ?_
    refine vl_val (os_move rfl) ?_
    refine vl_val (os_move rfl) ?_
    refine vl_val (os_load Try.isAgg40 rfl (h2)) ?_
    refine vl_val (os_move rfl) ?_
    refine vl_val (os_ix Try.underlying40 Try.sizeOf3 rfl rfl (i := k) (by omega) (by omega)) ?_
    refine vl_val (os_load Try.isAgg3 rfl (hc2)) ?_
    refine vl_yield rfl rfl (hR k w' hj (by omega)) ?_
    rintro b w2 ⟨hy, hn⟩
    refine vl_val (os_not rfl) ?_
    refine vl_nil ?_
    refine v_cond rfl (fun hbv => ?_) (fun hbv => ?_)
    · refine v_ret ?_
      exact post_ret0 rfl (.inr ⟨k, hn (by simpa using hbv)⟩)
    · refine v_skip ?_
      refine v_region ?_
      refine vl_val (os_addi rfl rfl (by omega)) ?_
      refine vl_val (os_move rfl) ?_
      refine vl_nil ?_
      exact ⟨k + 1, ⟨rfl, rfl, rfl, rfl, trivial⟩, ⟨rfl, trivial⟩, ⟨by omega, hy (by simpa using hbv)⟩, by dsimp only; omega⟩
  · obtain rfl : l = k := by omega
    refine v_exit ?_
    exact post_end0 rfl (.inl hj)

set_option maxHeartbeats 4000000 in
theorem hope_Had (A B : Option Addr) (l m c d : Nat) (worths ks : List Int) (came : Int) (w : World) (ha : Rd w .i64 A worths) (hb : Rd w .i64 B ks) (hl : l = worths.length) (hm : m = ks.length) (hl' : l ≤ 9000000000000000) (hm' : m ≤ 9000000000000000) (ia : AllI worths) (ib : AllI ks) (hcm : -9223372036854775808 ≤ came ∧ came ≤ 9223372036854775807) :
    Gives Try.prog 41 #[.slice A l c, .slice B m d, .int .i64 came] w fun v w' => v = .tuple #[.int .i64 (hdV worths ks came), .int .i64 (errA (hdOk worths ks came))] ∧ Below w.heap.size w w' := by
  have hbig := u64_big hcm 255 (by omega)
  obtain ⟨w3, hw3⟩ : ∃ w3, w3 = ((w.alloc (.cells [Value.int .i64 came].toArray 3)).alloc (.cells [Value.int .i64 0].toArray 3)).alloc (.cells [Value.int .i64 0].toArray 26) := ⟨_, rfl⟩
  have hBc : Bk w3 w.heap.size [.int .i64 came] 3 := by rw [hw3]; exact ((bk_new w _ _).alloc _).alloc _
  have hBn : Bk w3 (w.heap.size + 1) [.int .i64 0] 3 := by
    rw [hw3]
    have := bk_new (w.alloc (.cells [Value.int .i64 came].toArray 3)) [.int .i64 0] 3
    rw [World.size_alloc] at this
    exact this.alloc _
  have hBe : Bk w3 (w.heap.size + 1 + 1) [.int .i64 0] 26 := by
    rw [hw3]
    have := bk_new ((w.alloc (.cells [Value.int .i64 came].toArray 3)).alloc (.cells [Value.int .i64 0].toArray 3)) [.int .i64 0] 26
    rw [World.size_alloc, World.size_alloc] at this
    exact this
  have hb3 : Below w.heap.size w w3 := by rw [hw3]; exact (((Below.refl _ w).alloc (Nat.le_refl _) _).alloc (by simp) _).alloc (by simp; omega) _
  have hsz3 : w3.heap.size = w.heap.size + 3 := by rw [hw3]; simp
  by_cases hbad : worths.length = ks.length ∧ ks.length ≤ 8 ∧ 0 ≤ came ∧ came ≤ 255
  · obtain ⟨e1, e2, e3, e4⟩ := hbad
    have e1' : l = m := by omega
    obtain ⟨p, hp⟩ : ∃ p, p = w3.heap.size := ⟨_, rfl⟩
    obtain ⟨w5, hw5⟩ : ∃ w5, w5 = (w3.alloc (.cells [Value.slice A l c].toArray 40)).alloc (.cells [Value.slice B m d].toArray 40) := ⟨_, rfl⟩
    have P1 : Bk w5 p [.slice A l c] 40 := by rw [hw5, hp]; exact (bk_new w3 _ _).alloc _
    have P2 : Bk w5 (p + 1) [.slice B m d] 40 := by
      rw [hw5, hp]
      have := bk_new (w3.alloc (.cells [Value.slice A l c].toArray 40)) [.slice B m d] 40
      rw [World.size_alloc] at this
      exact this
    have hBc5 : Bk w5 w.heap.size [.int .i64 came] 3 := by rw [hw5]; exact (hBc.alloc _).alloc _
    have hBn5 : Bk w5 (w.heap.size + 1) [.int .i64 0] 3 := by rw [hw5]; exact (hBn.alloc _).alloc _
    have hBe5 : Bk w5 (w.heap.size + 1 + 1) [.int .i64 0] 26 := by rw [hw5]; exact (hBe.alloc _).alloc _
    have hb5 : Below w.heap.size w w5 := by rw [hw5]; exact (hb3.alloc hb3.size _).alloc (hb3.alloc hb3.size _).size _
    have ha5 := ha.keep hb5
    have hb5' := hb.keep hb5
    have hs5 : w5.heap.size = p + 2 := by rw [hw5, hp]; simp
    refine gives_enter Try.call41 Try.func41 rfl rfl rfl (by kernel_rfl) ?_
    refine v_seq ?_
    refine v_region ?_
    refine vl_val (os_box rfl) ?_
    refine vl_val (os_alloc1 Try.zeroValue3 rfl) ?_
    refine vl_val (os_alloc1 Try.zeroValue26 rfl) ?_
    have hw3' : w3 = ((w.alloc (.cells #[.int .i64 came] 3)).alloc (.cells [Value.int .i64 0].toArray 3)).alloc (.cells [Value.int .i64 0].toArray 26) := hw3
    change VL _ _ _ _ _ (((w.alloc (.cells #[.int .i64 came] 3)).alloc (.cells [Value.int .i64 0].toArray 3)).alloc (.cells [Value.int .i64 0].toArray 26)) _
    rw [← hw3']
    simp only [World.size_alloc]
    refine vl_nil ?_
    refine v_seq ?_
    refine v_seq ?_
    refine v_region ?_
    refine vl_val (os_move rfl) ?_
    refine vl_val (os_len Try.underlying40 rfl) ?_
    refine vl_val (os_move rfl) ?_
    refine vl_val (os_len Try.underlying40 rfl) ?_
    refine vl_val (os_f (os_neq rfl rfl) (by omega)) ?_
    refine vl_val (os_move rfl) ?_
    refine vl_valg rfl (os_move rfl) ?_
    refine vl_valg rfl (os_len Try.underlying40 rfl) ?_
    refine vl_valg rfl (os_f (os_gtr rfl rfl) (by omega)) ?_
    refine vl_val (os_pick_f rfl rfl) ?_
    refine vl_val (os_move rfl) ?_
    refine vl_valg rfl (os_load Try.isAgg3 rfl (hBc.cell (i := 0) rfl)) ?_
    refine vl_valg rfl (os_conv Try.underlying3 Try.underlying86 rfl (rfl)) ?_
    refine vl_valg rfl (os_gtr rfl rfl) ?_
    refine vl_val (os_pick_f rfl rfl) ?_
    refine vl_nil ?_
    refine v_cond_no rfl (fun h => (hbig.1 h) ⟨e3, e4⟩) ?_
    refine v_skip ?_
    refine v_range_seq ?_
    refine v_region ?_
    refine vl_val (os_move rfl) ?_
    refine vl_val (os_move rfl) ?_
    refine vl_call (hope_both A B l c m d w3) rfl ?_
    rintro v4 w4 ⟨rfl, rfl⟩
    have hw5' : w5 = (w3.alloc (.cells #[.slice A l c] 40)).alloc (.cells #[.slice B m d] 40) := hw5
    rw [← hw5', ← hp]
    refine vl_nil ?_
    refine v_range (l) (fun k => [.int .i64 (worths.getD k 0), .int .i64 (ks.getD k 0)]) (fun k w' => (∀ i, i < k → hdGood worths ks i) ∧ Bk w' (w.heap.size + 1) [.int .i64 (hdSum worths ks came k)] 3 ∧ Bk w' (w.heap.size + 1 + 1) [.int .i64 0] 26 ∧ Bk w' w.heap.size [.int .i64 came] 3 ∧ Bk w' p [.slice A l c] 40 ∧ Bk w' (p + 1) [.slice B m d] 40 ∧ Below w.heap.size w w') (fun e w' => e = .ret ∧ (∃ i, i < ks.length ∧ ¬ hdGood worths ks i) ∧ Bk w' (w.heap.size + 1) [.int .i64 0] 3 ∧ Bk w' (w.heap.size + 1 + 1) [.int .i64 2] 26 ∧ Below w.heap.size w w') (fun k => [(8, .int .i64 (worths.getD k 0)), (9, .int .i64 (ks.getD k 0)), (5, .pointer (some ⟨w.heap.size, 0, none⟩)), (6, .pointer (some ⟨w.heap.size + 1, 0, none⟩)), (7, .pointer (some ⟨w.heap.size + 1 + 1, 0, none⟩))]) Try.call114 rfl (fun _ => rfl) (fun k W W' ⟨h0, h1, h2, h3, h4, h5, h6⟩ hn => ⟨h0, hn.bk h1, hn.bk h2, hn.bk h3, hn.bk h4, hn.bk h5, hn.below h6 hb5.size (Nat.le_refl _)⟩) (fun e W W' ⟨h0, h1, h2, h3, h4⟩ hn => ⟨h0, h1, hn.bk h2, hn.bk h3, hn.below h4 hb5.size (Nat.le_refl _)⟩) (⟨fun i hi => by omega, hBn5, hBe5, hBc5, P1, P2, hb5⟩) (fun l J Jx W hW hJI hJ hJx hR hJ0 => hope_both_fn l p (p + 1) A B _ c m d worths ks J Jx W (fun k W h => by obtain ⟨h0, h1, h2, h3, h4, h5, h6⟩ := hJI k W h; exact ⟨h4.cell (i := 0) rfl, h5.cell (i := 0) rfl, ha.keep h6, hb.keep h6⟩) hl hm e1' (by omega) hR hJ0) ?_ ?_ ?_ (fun D W hD hK ⟨_, ⟨i, hi, hg⟩, h2, h3, h4⟩ => post_m (fn := Try.f41) hK (fun a hag => res_cc (t := 6) (t2 := 7) rfl rfl rfl Try.isAgg3 Try.isAgg26 (((Nc.put (B := w5.heap.size) (.deferred none) hD hK rfl).bk h2).cell (i := 0) rfl) (((Nc.put (B := w5.heap.size) (.deferred none) hD hK rfl).bk h3).cell (i := 0) rfl) hag) ⟨by rw [hdV, hd_no hi hg]; rfl, (Nc.put (B := w5.heap.size) (.deferred none) hD hK rfl).below h4 hb5.size (Nat.le_refl _)⟩) (fun _ _ _ _ _ h => by cases h.1)
    · intro l k w'
      refine v_seq ?_
      refine v_region ?_
      refine vl_val (os_assign rfl) ?_
      refine vl_nil ?_
      refine v_region ?_
      refine vl_val (os_assign rfl) ?_
      refine vl_nil ?_
      exact ⟨rfl, rfl, ⟨rfl, rfl, rfl, rfl, rfl, trivial⟩⟩
    · rintro l k w' hk ⟨h0, h1, h2, h3, h4, h5, h6⟩
      have wi : -9223372036854775808 ≤ worths.getD k 0 ∧ worths.getD k 0 ≤ 9223372036854775807 := ia.at_ k
      have hwb := u64_big wi 1048576 (by omega)
      have hsum := hdSum_bd (worths := worths) (ks := ks) (came := came) k h0
      rcases (by omega : ¬ (0 ≤ worths.getD k 0 ∧ worths.getD k 0 ≤ 1048576) ∨ ((0 ≤ worths.getD k 0 ∧ worths.getD k 0 ≤ 1048576) ∧ ks.getD k 0 < 1) ∨ ((0 ≤ worths.getD k 0 ∧ worths.getD k 0 ≤ 1048576) ∧ 1 ≤ ks.getD k 0 ∧ 255 < ks.getD k 0) ∨ ((0 ≤ worths.getD k 0 ∧ worths.getD k 0 ≤ 1048576) ∧ 1 ≤ ks.getD k 0 ∧ ks.getD k 0 ≤ 255)) with g | ⟨g, g2⟩ | ⟨g, g2, g3⟩ | ⟨g, g2, g3⟩
      · refine v_block ?_
        refine v_block ?_
        refine v_seq ?_
        refine v_seq ?_
        refine v_region ?_
        refine vl_val (os_move rfl) ?_
        refine vl_val (os_conv Try.underlying3 Try.underlying86 rfl (rfl)) ?_
        refine vl_val (os_gtr rfl rfl) ?_
        refine vl_val (os_assign rfl) ?_
        refine vl_nil ?_
        refine v_cond_yes rfl (hwb.2 g) ?_
        refine v_skip ?_
        refine v_cond_yes rfl (hwb.2 g) ?_
        refine v_seq ?_
        refine v_region ?_
        refine vl_unit (ou_store Try.sizeOf3 rfl rfl rfl (h1.cell (i := 0) rfl) (h1.free _)) ?_
        have j2 := Bk.setOther h2 (g' := w.heap.size + 1) (by omega) 0 (.int .i64 0)
        refine vl_unit (ou_store Try.sizeOf26 rfl rfl rfl (j2.cell (i := 0) rfl) (j2.free _)) ?_
        refine vl_nil ?_
        refine v_ret ?_
        exact ⟨(Kn.set (h1.cell (i := 0) rfl) _).trans (Kn.set (j2.cell (i := 0) rfl) _), rfl, ⟨k, by omega, fun h => g ⟨h.1, h.2.1⟩⟩, Bk.setOther (h1.set 0 _) (by omega) _ _, j2.set 0 _, below_set (below_set h6 (by omega) _ _) (by omega) _ _⟩
      · refine v_block ?_
        refine v_block ?_
        refine v_seq ?_
        refine v_seq ?_
        refine v_region ?_
        refine vl_val (os_move rfl) ?_
        refine vl_val (os_conv Try.underlying3 Try.underlying86 rfl (rfl)) ?_
        refine vl_val (os_gtr rfl rfl) ?_
        refine vl_val (os_assign rfl) ?_
        refine vl_nil ?_
        refine v_cond_no rfl (fun h => (hwb.1 h) g) ?_
        refine v_seq ?_
        refine v_region ?_
        refine vl_val (os_move rfl) ?_
        refine vl_val (os_lss rfl rfl) ?_
        refine vl_val (os_assign rfl) ?_
        refine vl_nil ?_
        refine v_cond_yes rfl (by omega) ?_
        refine v_skip ?_
        refine v_cond_yes rfl (by omega) ?_
        refine v_seq ?_
        refine v_region ?_
        refine vl_unit (ou_store Try.sizeOf3 rfl rfl rfl (h1.cell (i := 0) rfl) (h1.free _)) ?_
        have j2 := Bk.setOther h2 (g' := w.heap.size + 1) (by omega) 0 (.int .i64 0)
        refine vl_unit (ou_store Try.sizeOf26 rfl rfl rfl (j2.cell (i := 0) rfl) (j2.free _)) ?_
        refine vl_nil ?_
        refine v_ret ?_
        exact ⟨(Kn.set (h1.cell (i := 0) rfl) _).trans (Kn.set (j2.cell (i := 0) rfl) _), rfl, ⟨k, by omega, fun h => by unfold hdGood at h; omega⟩, Bk.setOther (h1.set 0 _) (by omega) _ _, j2.set 0 _, below_set (below_set h6 (by omega) _ _) (by omega) _ _⟩
      · refine v_block ?_
        refine v_block ?_
        refine v_seq ?_
        refine v_seq ?_
        refine v_region ?_
        refine vl_val (os_move rfl) ?_
        refine vl_val (os_conv Try.underlying3 Try.underlying86 rfl (rfl)) ?_
        refine vl_val (os_gtr rfl rfl) ?_
        refine vl_val (os_assign rfl) ?_
        refine vl_nil ?_
        refine v_cond_no rfl (fun h => (hwb.1 h) g) ?_
        refine v_seq ?_
        refine v_region ?_
        refine vl_val (os_move rfl) ?_
        refine vl_val (os_lss rfl rfl) ?_
        refine vl_val (os_assign rfl) ?_
        refine vl_nil ?_
        refine v_cond_no rfl (by omega) ?_
        refine v_region ?_
        refine vl_val (os_move rfl) ?_
        refine vl_val (os_gtr rfl rfl) ?_
        refine vl_val (os_assign rfl) ?_
        refine vl_nil ?_
        refine v_cond_yes rfl (by omega) ?_
        refine v_seq ?_
        refine v_region ?_
        refine vl_unit (ou_store Try.sizeOf3 rfl rfl rfl (h1.cell (i := 0) rfl) (h1.free _)) ?_
        have j2 := Bk.setOther h2 (g' := w.heap.size + 1) (by omega) 0 (.int .i64 0)
        refine vl_unit (ou_store Try.sizeOf26 rfl rfl rfl (j2.cell (i := 0) rfl) (j2.free _)) ?_
        refine vl_nil ?_
        refine v_ret ?_
        exact ⟨(Kn.set (h1.cell (i := 0) rfl) _).trans (Kn.set (j2.cell (i := 0) rfl) _), rfl, ⟨k, by omega, fun h => by unfold hdGood at h; omega⟩, Bk.setOther (h1.set 0 _) (by omega) _ _, j2.set 0 _, below_set (below_set h6 (by omega) _ _) (by omega) _ _⟩
      · have hgood : ∀ i, i < k + 1 → hdGood worths ks i := fun i hi => by
          by_cases hik : i < k
          · exact h0 i hik
          · obtain rfl : i = k := by omega
            exact ⟨g.1, g.2, g2, g3⟩
        refine v_block ?_
        refine v_block ?_
        refine v_seq ?_
        refine v_seq ?_
        refine v_region ?_
        refine vl_val (os_move rfl) ?_
        refine vl_val (os_conv Try.underlying3 Try.underlying86 rfl (rfl)) ?_
        refine vl_val (os_gtr rfl rfl) ?_
        refine vl_val (os_assign rfl) ?_
        refine vl_nil ?_
        refine v_cond_no rfl (fun h => (hwb.1 h) g) ?_
        refine v_seq ?_
        refine v_region ?_
        refine vl_val (os_move rfl) ?_
        refine vl_val (os_lss rfl rfl) ?_
        refine vl_val (os_assign rfl) ?_
        refine vl_nil ?_
        refine v_cond_no rfl (by omega) ?_
        refine v_region ?_
        refine vl_val (os_move rfl) ?_
        refine vl_val (os_gtr rfl rfl) ?_
        refine vl_val (os_assign rfl) ?_
        refine vl_nil ?_
        refine v_cond_no rfl (by omega) ?_
        refine v_seq ?_
        refine v_region ?_
        refine vl_val (os_move rfl) ?_
        refine vl_val (os_load Try.isAgg3 rfl (h3.cell (i := 0) rfl)) ?_
        refine vl_val (os_leq rfl rfl) ?_
        refine vl_val (os_assign rfl) ?_
        refine vl_nil ?_
        refine v_cond_d rfl (fun hk2 => ?_) (fun hk2 => ?_)
        · refine v_region ?_
          refine vl_val (os_load Try.isAgg3 rfl (h1.cell (i := 0) rfl)) ?_
          refine vl_val (os_move rfl) ?_
          refine vl_val (os_addi rfl rfl (by omega)) ?_
          refine vl_unit (ou_store Try.sizeOf3 rfl rfl rfl (h1.cell (i := 0) rfl) (h1.free _)) ?_
          refine vl_nil ?_
          exact ⟨Kn.set (h1.cell (i := 0) rfl) _, hgood, by rw [show hdSum worths ks came (k + 1) = hdSum worths ks came k + worths.getD k 0 by simp only [hdSum, hdT]; rw [if_pos hk2]]; exact h1.set 0 _, Bk.setOther h2 (by omega) _ _, Bk.setOther h3 (by omega) _ _, Bk.setOther h4 (by omega) _ _, Bk.setOther h5 (by omega) _ _, below_set h6 (by omega) _ _⟩
        · refine v_skip ?_
          exact ⟨Kn.refl _ _, hgood, by rw [show hdSum worths ks came (k + 1) = hdSum worths ks came k by simp only [hdSum, hdT]; rw [if_neg hk2, Int.add_zero]]; exact h1, h2, h3, h4, h5, h6⟩
    · rintro D w' hD hK ⟨h0, h1, h2, h3, h4, h5, h6⟩
      refine v_seq ?_
      refine v_region ?_
      refine vl_val (os_load Try.isAgg3 rfl (h1.cell (i := 0) rfl)) ?_
      refine vl_unit (ou_store Try.sizeOf3 rfl rfl rfl (h1.cell (i := 0) rfl) (h1.free _)) ?_
      have j1 := h1.set 0 (.int .i64 (hdSum worths ks came l))
      have j2 := Bk.setOther h2 (g' := w.heap.size + 1) (by omega) (0 + 0) (.int .i64 (hdSum worths ks came l))
      refine vl_unit (ou_store Try.sizeOf26 rfl rfl rfl (j2.cell (i := 0) rfl) (j2.free _)) ?_
      have hK' := ((Kn.set (B := 0) (h1.cell (i := 0) rfl) (.int .i64 (hdSum worths ks came l))).trans (Kn.set (j2.cell (i := 0) rfl) (.int .i64 0))).block D _ (Nat.zero_le _) hK rfl
      have hN := Nc.put (B := w5.heap.size) (.deferred none) hD hK' rfl
      have hok : hdOk worths ks came = true := by simp only [hdOk, Bool.and_eq_true, decide_eq_true_eq]; exact ⟨e1, e2, ⟨e3, e4⟩, fun i hi => h0 i (by omega)⟩
      refine vl_nil ?_
      refine v_ret ?_
      exact post_m (fn := Try.f41) (hK') (fun a ha => res_cc (t := 6) (t2 := 7) rfl rfl rfl Try.isAgg3 Try.isAgg26 ((hN.bk (Bk.setOther j1 (by omega) _ _)).cell (i := 0) rfl) ((hN.bk (j2.set 0 _)).cell (i := 0) rfl) ha) (⟨by rw [hdV, hok, ← hm, ← e1']; rfl, hN.below (below_set (below_set h6 (by omega) _ _) (by omega) _ _) hb5.size (Nat.le_refl _)⟩)
  · have hno : hdOk worths ks came = false := by
      cases h : hdOk worths ks came with
      | false => rfl
      | true =>
        simp only [hdOk, Bool.and_eq_true, decide_eq_true_eq] at h
        exact absurd ⟨h.1, h.2.1, h.2.2.1.1, h.2.2.1.2⟩ hbad
    refine gives_enter Try.call41 Try.func41 rfl rfl rfl (by kernel_rfl) ?_
    refine v_seq ?_
    refine v_region ?_
    refine vl_val (os_box rfl) ?_
    refine vl_val (os_alloc1 Try.zeroValue3 rfl) ?_
    refine vl_val (os_alloc1 Try.zeroValue26 rfl) ?_
    have hw3' : w3 = ((w.alloc (.cells #[.int .i64 came] 3)).alloc (.cells [Value.int .i64 0].toArray 3)).alloc (.cells [Value.int .i64 0].toArray 26) := hw3
    change VL _ _ _ _ _ (((w.alloc (.cells #[.int .i64 came] 3)).alloc (.cells [Value.int .i64 0].toArray 3)).alloc (.cells [Value.int .i64 0].toArray 26)) _
    rw [← hw3']
    simp only [World.size_alloc]
    have hB1 := hBn.set 0 (.int .i64 0)
    have j2 := Bk.setOther hBe (g' := w.heap.size + 1) (by omega) 0 (.int .i64 0)
    refine vl_nil ?_
    rcases (by omega : l ≠ m ∨ (l = m ∧ 8 < m) ∨ (l = m ∧ m ≤ 8 ∧ ¬ (0 ≤ came ∧ came ≤ 255))) with g | ⟨g, g2⟩ | ⟨g, g2, g3⟩
    · refine v_seq ?_
      refine v_seq ?_
      refine v_region ?_
      refine vl_val (os_move rfl) ?_
      refine vl_val (os_len Try.underlying40 rfl) ?_
      refine vl_val (os_move rfl) ?_
      refine vl_val (os_len Try.underlying40 rfl) ?_
      refine vl_val (os_t (os_neq rfl rfl) (by omega)) ?_
      refine vl_val (os_move rfl) ?_
      refine vl_skip rfl rfl ?_
      refine vl_skip rfl rfl ?_
      refine vl_skip rfl rfl ?_
      refine vl_val (os_pick_t rfl rfl) ?_
      refine vl_val (os_move rfl) ?_
      refine vl_skip rfl rfl ?_
      refine vl_skip rfl rfl ?_
      refine vl_skip rfl rfl ?_
      refine vl_val (os_pick_t rfl rfl) ?_
      refine vl_nil ?_
      refine v_cond_t rfl ?_
      refine v_seq ?_
      refine v_region ?_
      refine vl_unit (ou_store Try.sizeOf3 rfl rfl rfl (hBn.cell (i := 0) rfl) (hBn.free _)) ?_
      refine vl_unit (ou_store Try.sizeOf26 rfl rfl rfl (j2.cell (i := 0) rfl) (j2.free _)) ?_
      refine vl_nil ?_
      refine v_ret ?_
      exact post_of (fun a ha => res_cc (t := 6) (t2 := 7) rfl rfl rfl Try.isAgg3 Try.isAgg26 ((Bk.setOther hB1 (by omega) _ _).cell (i := 0) rfl) ((j2.set 0 _).cell (i := 0) rfl) ha) (⟨by rw [hdV, hno]; rfl, below_set (below_set hb3 (by omega) _ _) (by omega) _ _⟩)
    · refine v_seq ?_
      refine v_seq ?_
      refine v_region ?_
      refine vl_val (os_move rfl) ?_
      refine vl_val (os_len Try.underlying40 rfl) ?_
      refine vl_val (os_move rfl) ?_
      refine vl_val (os_len Try.underlying40 rfl) ?_
      refine vl_val (os_f (os_neq rfl rfl) (by omega)) ?_
      refine vl_val (os_move rfl) ?_
      refine vl_valg rfl (os_move rfl) ?_
      refine vl_valg rfl (os_len Try.underlying40 rfl) ?_
      refine vl_valg rfl (os_t (os_gtr rfl rfl) (by omega)) ?_
      refine vl_val (os_pick_f rfl rfl) ?_
      refine vl_val (os_move rfl) ?_
      refine vl_skip rfl rfl ?_
      refine vl_skip rfl rfl ?_
      refine vl_skip rfl rfl ?_
      refine vl_val (os_pick_t rfl rfl) ?_
      refine vl_nil ?_
      refine v_cond_t rfl ?_
      refine v_seq ?_
      refine v_region ?_
      refine vl_unit (ou_store Try.sizeOf3 rfl rfl rfl (hBn.cell (i := 0) rfl) (hBn.free _)) ?_
      refine vl_unit (ou_store Try.sizeOf26 rfl rfl rfl (j2.cell (i := 0) rfl) (j2.free _)) ?_
      refine vl_nil ?_
      refine v_ret ?_
      exact post_of (fun a ha => res_cc (t := 6) (t2 := 7) rfl rfl rfl Try.isAgg3 Try.isAgg26 ((Bk.setOther hB1 (by omega) _ _).cell (i := 0) rfl) ((j2.set 0 _).cell (i := 0) rfl) ha) (⟨by rw [hdV, hno]; rfl, below_set (below_set hb3 (by omega) _ _) (by omega) _ _⟩)
    · refine v_seq ?_
      refine v_seq ?_
      refine v_region ?_
      refine vl_val (os_move rfl) ?_
      refine vl_val (os_len Try.underlying40 rfl) ?_
      refine vl_val (os_move rfl) ?_
      refine vl_val (os_len Try.underlying40 rfl) ?_
      refine vl_val (os_f (os_neq rfl rfl) (by omega)) ?_
      refine vl_val (os_move rfl) ?_
      refine vl_valg rfl (os_move rfl) ?_
      refine vl_valg rfl (os_len Try.underlying40 rfl) ?_
      refine vl_valg rfl (os_f (os_gtr rfl rfl) (by omega)) ?_
      refine vl_val (os_pick_f rfl rfl) ?_
      refine vl_val (os_move rfl) ?_
      refine vl_valg rfl (os_load Try.isAgg3 rfl (hBc.cell (i := 0) rfl)) ?_
      refine vl_valg rfl (os_conv Try.underlying3 Try.underlying86 rfl (rfl)) ?_
      refine vl_valg rfl (os_gtr rfl rfl) ?_
      refine vl_val (os_pick_f rfl rfl) ?_
      refine vl_nil ?_
      refine v_cond_yes rfl (hbig.2 g3) ?_
      refine v_seq ?_
      refine v_region ?_
      refine vl_unit (ou_store Try.sizeOf3 rfl rfl rfl (hBn.cell (i := 0) rfl) (hBn.free _)) ?_
      refine vl_unit (ou_store Try.sizeOf26 rfl rfl rfl (j2.cell (i := 0) rfl) (j2.free _)) ?_
      refine vl_nil ?_
      refine v_ret ?_
      exact post_of (fun a ha => res_cc (t := 6) (t2 := 7) rfl rfl rfl Try.isAgg3 Try.isAgg26 ((Bk.setOther hB1 (by omega) _ _).cell (i := 0) rfl) ((j2.set 0 _).cell (i := 0) rfl) ha) (⟨by rw [hdV, hno]; rfl, below_set (below_set hb3 (by omega) _ _) (by omega) _ _⟩)
end Go.Proofs.Ytpjmiafefammkaa

/- The law's kit: lists are written over, their spare room too. -/
namespace Go.Proofs.Ytpjmiafefammkaa
open Go.RowKit
set_option linter.unusedVariables false

theorem Own.stretch {w : World} {B : Nat} {t : TypeId} {g n c m : Nat} {cs : List Value} (h : Own w B t (.slice (some ⟨g, 0, none⟩) n c) cs) (hm : m ≤ c) : ∃ ds, ds.length = m ∧ Own w B t (.slice (some ⟨g, 0, none⟩) m c) ds := by
  rcases h.2 with ⟨h1, _⟩ | ⟨g', cap, cur, h1, hB, hg, hnc, hcm, hs, ht⟩
  · cases h1
  · cases h1
    have hl : (cur.toList.take m).length = m := by rw [List.length_take, Array.length_toList, hs]; omega
    exact ⟨cur.toList.take m, hl, by simp, .inr ⟨g, c, cur, by rw [hl], hB, hg, by omega, hcm, hs, by rw [hl]; simp⟩⟩
theorem kit_OverInts (v : Value) (B : Nat) (cs : List Value) (w : World) (ho : Own w B 3 v cs) (hl : cs.length ≤ 100000000) : Gives Try.prog 28 #[v] w fun u w' => Kb v.ownBlock.toList w w' := by
  obtain ⟨A, c, rfl, hc, hm, _⟩ := ho.form
  obtain ⟨m, hmin⟩ : ∃ m : Nat, min (c : Int) ((cs.length : Int) + 12) = m := ⟨min c (cs.length + 12), by omega⟩
  have hmc : m ≤ c := by omega
  have hst : 0 < m → ∃ g ds, A = some ⟨g, 0, none⟩ ∧ ds.length = m ∧ Own w B 3 (.slice (some ⟨g, 0, none⟩) m c) ds := fun h0 => by
    have ho' := ho
    rcases ho'.2 with ⟨h1, _⟩ | ⟨g, cap, cur, h1, _⟩
    · injection h1 with _ _ h2; omega
    · injection h1 with h2 _ h3; subst h2; subst h3
      obtain ⟨ds, h2, h3⟩ := Own.stretch ho hmc
      exact ⟨g, ds, rfl, h2, h3⟩
  refine gives_enter Try.call28 Try.func28 rfl rfl rfl (by kernel_rfl) ?_
  refine v_seq ?_
  refine v_region ?_
  refine vl_val (os_move rfl) ?_
  refine vl_val (os_move rfl) ?_
  refine vl_val (os_cap Try.underlying40 rfl) ?_
  refine vl_val (os_move rfl) ?_
  refine vl_val (os_len Try.underlying40 rfl) ?_
  refine vl_val (os_addi rfl rfl (by omega)) ?_
  refine vl_val (os_min rfl rfl) ?_
  refine vl_val (os_slice_h Try.underlying40 Try.sizeOf3 rfl rfl (h := m) (by omega) (by omega)) ?_
  refine vl_val (os_assign rfl) ?_
  refine vl_nil ?_
  refine v_seq ?_
  refine v_region ?_
  refine vl_val (os_assign rfl) ?_
  refine vl_nil ?_
  refine v_block ?_
  refine v_loop [(2, _)] (fun (i : Nat) => [(3, .int .i64 i)]) (fun i w' => i ≤ m ∧ Kb (Value.slice A cs.length c).ownBlock.toList w w' ∧ (0 < m → ∃ g ds, A = some ⟨g, 0, none⟩ ∧ ds.length = m ∧ Own w' B 3 (.slice (some ⟨g, 0, none⟩) m c) ds)) (fun i => m - i) (0) ⟨rfl, trivial⟩ ⟨rfl, trivial⟩ (⟨by omega, Kb.refl _ _, hst⟩) ?_
  rintro i w' ⟨hi, hk, hs⟩
  refine v_seq ?_
  refine v_seq ?_
  refine v_region ?_
  refine vl_val (os_move rfl) ?_
  refine vl_val (os_move rfl) ?_
  refine vl_val (os_len Try.underlying40 rfl) ?_
  refine vl_val (os_lss rfl rfl) ?_
  refine vl_nil ?_
  refine v_cond_d rfl (fun h => ?_) (fun h => ?_)
  · obtain ⟨g, ds, rfl, hd, ho'⟩ := hs (by omega)
    refine v_skip ?_
    refine v_seq ?_
    refine v_block ?_
    refine v_region ?_
    refine vl_val (os_move rfl) ?_
    refine vl_val (os_move rfl) ?_
    refine vl_val (os_move rfl) ?_
    refine vl_call (kit_mark 2 i w' (by omega) (by omega)) rfl ?_
    rintro v1 w' ⟨rfl, rfl⟩
    refine vl_val (os_ix Try.underlying40 Try.sizeOf3 rfl rfl (i := i) (by omega) (by omega)) ?_
    refine vl_unit (ou_store Try.sizeOf3 rfl rfl rfl ((by rw [Nat.zero_add, Own.cell ho' (i := i) (by omega)])) ((Own.free ho' _))) ?_
    refine vl_nil ?_
    refine v_region ?_
    refine vl_val (os_move rfl) ?_
    refine vl_val (os_addi rfl rfl (by omega)) ?_
    refine vl_val (os_assign rfl) ?_
    refine vl_nil ?_
    exact ⟨i + 1, ⟨rfl, trivial⟩, ⟨rfl, trivial⟩, ⟨by omega, hk.trans (Kb.set (S := [g]) (by simp) _ _) (fun k hk => .inl (by simpa [Value.ownBlock] using hk)), fun _ => ⟨g, ds.set (0 + i) _, rfl, by simpa using hd, Own.set ho' _ _⟩⟩, by dsimp only; omega⟩
  · refine v_exit ?_
    exact post_end0 rfl (hk)
end Go.Proofs.Ytpjmiafefammkaa
