/- Layer 23: the walk of FixedSums. -/
import Derived.Test.YtpcfifheegfjiaaFixG
namespace Go.Proofs.Ytpcfifheegfjiaa
open Go.RowKit
set_option linter.unusedVariables false

theorem argE_row {b : Bool} : argE b ≠ 0 ↔ b = false := by cases b <;> simp [argE]
theorem keepT {w w' : World} {A : Option Addr} {n : Nat} {zs : List Int} {B : Nat} (h : OwnI w B (.slice A n n) zs) : True := trivial

theorem tail_cells {w : World} {B : Nat} {v : Value} {hs : List Int} (h : OwnI w B v (tailsL hs)) (h0 : 0 < hs.length) : ∃ g c, v = .slice (some ⟨g, 0, none⟩) hs.length c ∧ g < w.heap.size ∧ hs.length ≤ c ∧ ∀ k, k < hs.length → w.cell? ⟨g, k, none⟩ = some (.int .i64 (tailAt hs k)) := by
  obtain ⟨g, c, rfl, h1, h2, h3, h4⟩ := h.row (n := hs.length) (tailsL_len hs).symm h0
  refine ⟨g, c, rfl, h2, h3, fun k hk => ?_⟩
  rw [World.ownsRow.cellAt h4 k (by omega), List.getElem?_map, tailsL_at hs hk]; rfl

set_option maxHeartbeats 1000000 in
theorem law23_FixedSums (A B : Option Addr) (n m c d : Nat) (hs xs : List Int) (w : World) (ha : Rd w .i64 A hs) (hb : Rd w .i64 B xs) (hn : n = hs.length) (hm : m = xs.length)
    (hn' : n ≤ 17592186044416) (hm' : m ≤ 17592186044416) (ih : AllI hs) (ix : AllI xs) :
    Gives Try.prog 9 #[.slice A n c, .slice B m d] w fun v w' => v = .bool true ∧ Below w.heap.size w w' := by
  refine gives_enter Try.call9 Try.func9 rfl rfl rfl (by kernel_rfl) ?_
  refine v_seq ?_
  refine v_region ?_
  refine vl_val (os_assign rfl) ?_
  refine vl_nil ?_
  refine v_seq ?_
  refine v_seq ?_
  refine v_region ?_
  refine vl_call (g_awake w) rfl ?_
  rintro v1 w1 ⟨rfl, hb1⟩
  refine vl_val (os_not rfl) ?_
  refine vl_nil ?_
  refine v_cond_f rfl ?_
  refine v_skip ?_
  refine v_seq ?_
  refine v_seq ?_
  refine v_region ?_
  refine vl_val (os_move rfl) ?_
  refine vl_val (os_len Try.underlying37 rfl) ?_
  refine vl_val (os_move rfl) ?_
  refine vl_val (os_len Try.underlying37 rfl) ?_
  refine vl_val (os_addi rfl rfl (by omega)) ?_
  refine vl_val (os_gtr rfl rfl) ?_
  refine vl_nil ?_
  refine v_cond_d rfl (fun hbig => ?_) (fun hbig => ?_)
  · refine v_seq ?_
    refine v_region ?_
    refine vl_val (os_assign rfl) ?_
    refine vl_nil ?_
    refine v_ret ?_
    exact post_ret rfl rfl (⟨rfl, hb1⟩)
  · have ha1 := ha.keep hb1
    have hx1 := hb.keep hb1
    refine v_skip ?_
    refine v_seq ?_
    refine v_region ?_
    refine vl_val (os_move rfl) ?_
    refine vl_val (os_move rfl) ?_
    refine vl_call (g_Fold A B n m c d hs xs w1 ha1 hx1 hn hm (by omega) (by omega) ih ix) rfl ?_
    rintro v2 w2 ⟨vf, rfl, hof, hb2⟩
    have hb2w : Below w.heap.size w w2 := hb1.trans (hb2.mono hb1.size)
    have ha2 := ha1.keep hb2
    have hx2 := hx1.keep hb2
    obtain ⟨Af, cf, rfl, _, _, hrf, _⟩ := hof.form
    refine vl_val (os_move rfl) ?_
    refine vl_val (os_extract rfl rfl) ?_
    refine vl_val (os_extract rfl rfl) ?_
    refine vl_val (os_assign rfl) ?_
    refine vl_val (os_assign rfl) ?_
    refine vl_nil ?_
    refine v_seq ?_
    refine v_region ?_
    refine vl_val (os_move rfl) ?_
    refine vl_call (g_Tails A n c hs w2 ha2 hn (by omega) ih) rfl ?_
    rintro v3 w3 ⟨vt, rfl, hot, hb3⟩
    have hb3w : Below w.heap.size w w3 := hb2w.trans (hb3.mono hb2w.size)
    have ha3 := ha2.keep hb3
    have hx3 := hx2.keep hb3
    have hrf3 := hrf.keep hb3
    obtain ⟨At, ct0, hvt, _, _, _, _⟩ := hot.form
    subst hvt
    refine vl_val (os_move rfl) ?_
    refine vl_val (os_extract rfl rfl) ?_
    refine vl_val (os_extract rfl rfl) ?_
    refine vl_val (os_assign rfl) ?_
    refine vl_val (os_assign rfl) ?_
    refine vl_nil ?_
    refine v_seq ?_
    refine v_seq ?_
    refine v_region ?_
    refine vl_val (os_move rfl) ?_
    refine vl_val (os_neq rfl rfl) ?_
    refine vl_nil ?_
    refine v_cond_d rfl (fun hg => ?_) (fun hg => ?_)
    · have r1 : rowB hs = false := argE_row.1 hg
      refine v_seq ?_
      refine v_region ?_
      refine vl_val (os_move rfl) ?_
      refine vl_val (os_len Try.underlying37 rfl) ?_
      refine vl_val (os_t (os_eql rfl rfl) (by simp [tailsV, r1])) ?_
      refine vl_val (os_move rfl) ?_
      refine vl_valg rfl (os_move rfl) ?_
      refine vl_valg rfl (os_move rfl) ?_
      refine vl_valg rfl (os_t (os_eql rfl rfl) (by simp [foldOk, r1])) ?_
      refine vl_val (os_pick_t rfl rfl) ?_
      refine vl_val (os_move rfl) ?_
      refine vl_valg rfl (os_move rfl) ?_
      refine vl_valg rfl (os_len Try.underlying37 rfl) ?_
      refine vl_valg rfl (os_t (os_eql rfl rfl) (by simp [foldV, foldOk, r1])) ?_
      refine vl_val (os_pick_t rfl rfl) ?_
      refine vl_val (os_assign rfl) ?_
      refine vl_nil ?_
      refine v_ret ?_
      exact post_ret rfl rfl (⟨rfl, hb3w⟩)
    · have r1 : rowB hs = true := by cases h : rowB hs with | true => rfl | false => exact absurd (by rw [h]; decide) hg
      have hl256 := rowB_len r1
      have htl : tailsV hs = tailsL hs := by simp [tailsV, r1]
      rw [htl] at hot
      obtain ⟨g, ct, hgt, hg1, hgc, htc⟩ := tail_cells hot (by omega)
      have hle : (tailsV hs).length = n := by rw [htl, tailsL_len, hn]
      simp only [Value.slice.injEq] at hgt
      obtain ⟨rfl, _, rfl⟩ := hgt
      rw [hle]
      refine v_skip ?_
      refine v_seq ?_
      refine v_seq ?_
      refine v_region ?_
      refine vl_val (os_assign rfl) ?_
      refine vl_nil ?_
      refine v_block ?_
      refine v_loop [(0, _), (1, _), (5, _), (6, _), (7, _)] (fun (k : Nat) => [(9, .int .i64 k)]) (fun k w' => k ≤ n ∧ LeD w3 w') (fun k => n - k) (0) ⟨rfl, rfl, rfl, rfl, rfl, trivial⟩ ⟨rfl, trivial⟩ (⟨by omega, lee_d.refl _⟩) ?_
      rintro k w' ⟨hk, q, rfl⟩
      refine v_seq ?_
      refine v_seq ?_
      refine v_region ?_
      refine vl_val (os_move rfl) ?_
      refine vl_val (os_move rfl) ?_
      refine vl_val (os_len Try.underlying37 rfl) ?_
      refine vl_val (os_lss rfl rfl) ?_
      refine vl_nil ?_
      refine v_cond_d rfl (fun hlt => ?_) (fun hlt => ?_)
      · have hpl := tail_place r1 (k := k) (by omega)
        obtain ⟨p1, p2, p3, p4, p5, p6⟩ := hpl
        have c1 : (w3.drewN q).cell? ⟨g, 0 + k, none⟩ = some (.int .i64 (tailAt hs k)) := by rw [Nat.zero_add]; exact htc k (by omega)
        obtain ⟨b1, o1, rfl, c2⟩ := (ha3.drewN q).at_ (i := k) (by omega)
        have hv := rowB_at r1 (k := k) (by omega)
        simp only [List.getD_eq_getElem?_getD] at hv c2
        refine v_skip ?_
        refine v_seq ?_
        refine v_block ?_
        refine v_seq ?_
        refine v_region ?_
        refine vl_val (os_assign rfl) ?_
        refine vl_nil ?_
        refine v_mid [(0, _), (1, _), (5, _), (6, _), (7, _), (9, _)] (fun (x : Int) => [(10, .int .i64 x)]) (fun x w' => x = tailAt hs (k + 1) ∧ w' = w3.drewN q) ⟨rfl, rfl, rfl, rfl, rfl, rfl, trivial⟩ ?_ ?_
        · refine v_seq ?_
          refine v_region ?_
          refine vl_val (os_move rfl) ?_
          refine vl_val (os_addi rfl rfl (by omega)) ?_
          refine vl_val (os_move rfl) ?_
          refine vl_val (os_len Try.underlying37 rfl) ?_
          refine vl_val (os_lss rfl rfl) ?_
          refine vl_nil ?_
          refine v_cond_d rfl (fun hk1 => ?_) (fun hk1 => ?_)
          · have c3 : (w3.drewN q).cell? ⟨g, 0 + (k + 1), none⟩ = some (.int .i64 (tailAt hs (k + 1))) := by rw [Nat.zero_add]; exact htc (k + 1) (by omega)
            refine v_region ?_
            refine vl_val (os_move rfl) ?_
            refine vl_val (os_move rfl) ?_
            refine vl_val (os_addi rfl rfl (by omega)) ?_
            refine vl_val (os_ix Try.underlying37 Try.sizeOf3 rfl rfl (i := k + 1) (by omega) (by omega)) ?_
            refine vl_val (os_load Try.isAgg3 rfl (c3)) ?_
            refine vl_val (os_assign rfl) ?_
            refine vl_nil ?_
            exact ⟨tailAt hs (k + 1), ⟨rfl, rfl, rfl, rfl, rfl, rfl, trivial⟩, ⟨rfl, trivial⟩, ⟨rfl, rfl⟩⟩
          · refine v_skip ?_
            exact ⟨0, ⟨rfl, rfl, rfl, rfl, rfl, rfl, trivial⟩, ⟨rfl, trivial⟩, ⟨(tailAt_end hs (by omega)).symm, rfl⟩⟩
        · rintro x w' ⟨rfl, rfl⟩
          have hI : isB (tailAt hs k) = true := isB_yes p1 p2
          by_cases hlo : tailAt hs k < 65536
          · have e1 := p5 hlo
            refine v_seq ?_
            refine v_region_t LeD _ mixed (by kernel_rfl) lee_d (led_start _) ?_
            refine vt_val (fun w hw => os_move rfl) ?_
            refine vt_val (fun w hw => os_move rfl) ?_
            refine vt_val (fun w hw => os_ix Try.underlying37 Try.sizeOf3 rfl rfl (i := k) (by omega) (by omega)) ?_
            refine vt_val (fun w hw => os_load Try.isAgg3 rfl (led_cell hw (c1))) ?_
            refine vt_call (v := .bool true) (fun w hw => g_Is_t hI hw) rfl ?_
            refine vt_val (fun w hw => os_not rfl) ?_
            refine vt_val (fun w hw => os_move rfl) ?_
            refine vt_valg rfl (fun w hw => os_move rfl) ?_
            refine vt_valg rfl (fun w hw => os_move rfl) ?_
            refine vt_valg rfl (fun w hw => os_ix Try.underlying37 Try.sizeOf3 rfl rfl (i := k) (by omega) (by omega)) ?_
            refine vt_valg rfl (fun w hw => os_load Try.isAgg3 rfl (led_cell hw (c1))) ?_
            refine vt_valg rfl (fun w hw => os_move rfl) ?_
            refine vt_valg rfl (fun w hw => os_f (os_lss rfl rfl) (by omega)) ?_
            refine vt_val (fun w hw => os_pick_f rfl rfl) ?_
            refine vt_val (fun w hw => os_move rfl) ?_
            refine vt_valg rfl (fun w hw => os_move rfl) ?_
            refine vt_valg rfl (fun w hw => os_move rfl) ?_
            refine vt_valg rfl (fun w hw => os_ix Try.underlying37 Try.sizeOf3 rfl rfl (i := k) (by omega) (by omega)) ?_
            refine vt_valg rfl (fun w hw => os_load Try.isAgg3 rfl (led_cell hw (c1))) ?_
            refine vt_valg rfl (fun w hw => os_t (os_lss rfl rfl) (by omega)) ?_
            refine vt_valg rfl (fun w hw => os_move rfl) ?_
            refine vt_valg rfl (fun w hw => os_move rfl) ?_
            refine vt_valg rfl (fun w hw => os_move rfl) ?_
            refine vt_valg rfl (fun w hw => os_ix Try.underlying37 Try.sizeOf3 rfl rfl (i := k) (by omega) (by omega)) ?_
            refine vt_valg rfl (fun w hw => os_load Try.isAgg3 rfl (led_cell hw (c1))) ?_
            refine vt_valg rfl (fun w hw => os_move rfl) ?_
            refine vt_valg rfl (fun w hw => os_move rfl) ?_
            refine vt_valg rfl (fun w hw => os_move rfl) ?_
            refine vt_valg rfl (fun w hw => os_ix Try.underlying37 Try.sizeOf3 rfl rfl (i := k) (by omega) (by omega)) ?_
            refine vt_valg rfl (fun w hw => os_load Try.isAgg3 rfl (led_cell hw (c2))) ?_
            refine vt_valg rfl (fun w hw => os_addi rfl rfl (by omega)) ?_
            refine vt_valg rfl (fun w hw => os_f (os_neq rfl rfl) (by omega)) ?_
            refine vt_valg rfl (fun w hw => os_pick_t rfl rfl) ?_
            refine vt_val (fun w hw => os_pick_f rfl rfl) ?_
            refine vt_val (fun w hw => os_move rfl) ?_
            refine vt_valg rfl (fun w hw => os_move rfl) ?_
            refine vt_valg rfl (fun w hw => os_move rfl) ?_
            refine vt_valg rfl (fun w hw => os_ix Try.underlying37 Try.sizeOf3 rfl rfl (i := k) (by omega) (by omega)) ?_
            refine vt_valg rfl (fun w hw => os_load Try.isAgg3 rfl (led_cell hw (c1))) ?_
            refine vt_valg rfl (fun w hw => os_f (os_eql rfl rfl) (by omega)) ?_
            refine vt_valg rfl (fun w hw => os_move rfl) ?_
            refine vt_skip rfl rfl ?_
            refine vt_skip rfl rfl ?_
            refine vt_skip rfl rfl ?_
            refine vt_skip rfl rfl ?_
            refine vt_skip rfl rfl ?_
            refine vt_skip rfl rfl ?_
            refine vt_skip rfl rfl ?_
            refine vt_valg rfl (fun w hw => os_pick_f rfl rfl) ?_
            refine vt_val (fun w hw => os_pick_f rfl rfl) ?_
            refine vt_nil (fun w hw => ?_)
            obtain ⟨q2, rfl⟩ := hw
            refine v_cond_f rfl ?_
            refine v_skip ?_
            refine v_region ?_
            refine vl_val (os_move rfl) ?_
            refine vl_val (os_addi rfl rfl (by omega)) ?_
            refine vl_val (os_assign rfl) ?_
            refine vl_nil ?_
            exact ⟨k + 1, ⟨rfl, rfl, rfl, rfl, rfl, trivial⟩, ⟨rfl, trivial⟩, ⟨by omega, _, World.drewN_drewN ..⟩, by dsimp only; omega⟩
          · have e1 := p6 (by omega)
            refine v_seq ?_
            refine v_region_t LeD _ mixed (by kernel_rfl) lee_d (led_start _) ?_
            refine vt_val (fun w hw => os_move rfl) ?_
            refine vt_val (fun w hw => os_move rfl) ?_
            refine vt_val (fun w hw => os_ix Try.underlying37 Try.sizeOf3 rfl rfl (i := k) (by omega) (by omega)) ?_
            refine vt_val (fun w hw => os_load Try.isAgg3 rfl (led_cell hw (c1))) ?_
            refine vt_call (v := .bool true) (fun w hw => g_Is_t hI hw) rfl ?_
            refine vt_val (fun w hw => os_not rfl) ?_
            refine vt_val (fun w hw => os_move rfl) ?_
            refine vt_valg rfl (fun w hw => os_move rfl) ?_
            refine vt_valg rfl (fun w hw => os_move rfl) ?_
            refine vt_valg rfl (fun w hw => os_ix Try.underlying37 Try.sizeOf3 rfl rfl (i := k) (by omega) (by omega)) ?_
            refine vt_valg rfl (fun w hw => os_load Try.isAgg3 rfl (led_cell hw (c1))) ?_
            refine vt_valg rfl (fun w hw => os_move rfl) ?_
            refine vt_valg rfl (fun w hw => os_f (os_lss rfl rfl) (by omega)) ?_
            refine vt_val (fun w hw => os_pick_f rfl rfl) ?_
            refine vt_val (fun w hw => os_move rfl) ?_
            refine vt_valg rfl (fun w hw => os_move rfl) ?_
            refine vt_valg rfl (fun w hw => os_move rfl) ?_
            refine vt_valg rfl (fun w hw => os_ix Try.underlying37 Try.sizeOf3 rfl rfl (i := k) (by omega) (by omega)) ?_
            refine vt_valg rfl (fun w hw => os_load Try.isAgg3 rfl (led_cell hw (c1))) ?_
            refine vt_valg rfl (fun w hw => os_f (os_lss rfl rfl) (by omega)) ?_
            refine vt_valg rfl (fun w hw => os_move rfl) ?_
            refine vt_skip rfl rfl ?_
            refine vt_skip rfl rfl ?_
            refine vt_skip rfl rfl ?_
            refine vt_skip rfl rfl ?_
            refine vt_skip rfl rfl ?_
            refine vt_skip rfl rfl ?_
            refine vt_skip rfl rfl ?_
            refine vt_skip rfl rfl ?_
            refine vt_skip rfl rfl ?_
            refine vt_skip rfl rfl ?_
            refine vt_skip rfl rfl ?_
            refine vt_valg rfl (fun w hw => os_pick_f rfl rfl) ?_
            refine vt_val (fun w hw => os_pick_f rfl rfl) ?_
            refine vt_val (fun w hw => os_move rfl) ?_
            refine vt_valg rfl (fun w hw => os_move rfl) ?_
            refine vt_valg rfl (fun w hw => os_move rfl) ?_
            refine vt_valg rfl (fun w hw => os_ix Try.underlying37 Try.sizeOf3 rfl rfl (i := k) (by omega) (by omega)) ?_
            refine vt_valg rfl (fun w hw => os_load Try.isAgg3 rfl (led_cell hw (c1))) ?_
            refine vt_valg rfl (fun w hw => os_t (os_eql rfl rfl) (by omega)) ?_
            refine vt_valg rfl (fun w hw => os_move rfl) ?_
            refine vt_valg rfl (fun w hw => os_move rfl) ?_
            refine vt_valg rfl (fun w hw => os_move rfl) ?_
            refine vt_valg rfl (fun w hw => os_move rfl) ?_
            refine vt_valg rfl (fun w hw => os_ix Try.underlying37 Try.sizeOf3 rfl rfl (i := k) (by omega) (by omega)) ?_
            refine vt_valg rfl (fun w hw => os_load Try.isAgg3 rfl (led_cell hw (c2))) ?_
            refine vt_valg rfl (fun w hw => os_addi rfl rfl (by omega)) ?_
            refine vt_valg rfl (fun w hw => os_f (os_lss rfl rfl) (by omega)) ?_
            refine vt_valg rfl (fun w hw => os_pick_t rfl rfl) ?_
            refine vt_val (fun w hw => os_pick_f rfl rfl) ?_
            refine vt_nil (fun w hw => ?_)
            obtain ⟨q2, rfl⟩ := hw
            refine v_cond_f rfl ?_
            refine v_skip ?_
            refine v_region ?_
            refine vl_val (os_move rfl) ?_
            refine vl_val (os_addi rfl rfl (by omega)) ?_
            refine vl_val (os_assign rfl) ?_
            refine vl_nil ?_
            exact ⟨k + 1, ⟨rfl, rfl, rfl, rfl, rfl, trivial⟩, ⟨rfl, trivial⟩, ⟨by omega, _, World.drewN_drewN ..⟩, by dsimp only; omega⟩
      · obtain rfl : k = n := by omega
        have hb4w : Below w.heap.size w (w3.drewN q) := below_drewN_ hb3w q
        refine v_exit ?_
        refine v_seq ?_
        refine v_seq ?_
        refine v_region ?_
        refine vl_val (os_move rfl) ?_
        refine vl_val (os_neq rfl rfl) ?_
        refine vl_nil ?_
        refine v_cond_d rfl (fun he => ?_) (fun he => ?_)
        · have fo : foldOk hs xs = false := argE_row.1 he
          refine v_seq ?_
          refine v_region ?_
          refine vl_val (os_move rfl) ?_
          refine vl_val (os_len Try.underlying37 rfl) ?_
          refine vl_val (os_t (os_eql rfl rfl) (by simp [foldV, fo])) ?_
          refine vl_val (os_assign rfl) ?_
          refine vl_nil ?_
          refine v_ret ?_
          exact post_ret rfl rfl (⟨rfl, hb4w⟩)
        · have fo : foldOk hs xs = true := by cases h : foldOk hs xs with | true => rfl | false => exact absurd (by rw [h]; decide) he
          have hfv : foldV hs xs = foldL hs xs := by simp [foldV, fo]
          have r2 : rowB xs = true := by simp [foldOk] at fo; exact fo.1.2
          have hlen : hs.length = xs.length := by simp [foldOk] at fo; exact fo.2
          have rf := foldL_row r1 r2 hlen
          have hsum := foldL_sum hs xs hlen
          rw [hfv] at hrf3 ⊢
          have hfl := foldL_len hs xs
          have cs1 := law23_sum A k c hs (w3.drewN q) (ha3.drewN q) hn (by omega) (rowB_mem r1)
          have cs2 := law23_sum B m d xs (w3.drewN q) (hx3.drewN q) hm (by omega) (rowB_mem r2)
          have cs3 := law23_sum Af _ cf _ (w3.drewN q) (hrf3.drewN q) rfl (by omega) (rowB_mem rf)
          refine v_skip ?_
          refine v_mid [(0, _), (1, _)] (fun (x : Unit) => []) (fun x w' => w' = w3.drewN q) ⟨rfl, rfl, trivial⟩ ?_ ?_
          · by_cases s1 : hs.sum ≤ 65536
            · by_cases s2 : xs.sum ≤ 65536
              · refine v_seq ?_
                refine v_region ?_
                refine vl_val (os_move rfl) ?_
                refine vl_call (cs1) rfl ?_
                rintro v4 w4 ⟨rfl, rfl⟩
                refine vl_val (os_t (os_leq rfl rfl) (by omega)) ?_
                refine vl_val (os_move rfl) ?_
                refine vl_valg rfl (os_move rfl) ?_
                refine vl_callg rfl (cs2) rfl ?_
                rintro v4 w4 ⟨rfl, rfl⟩
                refine vl_valg rfl (os_t (os_leq rfl rfl) (by omega)) ?_
                refine vl_val (os_pick_t rfl rfl) ?_
                refine vl_val (os_move rfl) ?_
                refine vl_valg rfl (os_move rfl) ?_
                refine vl_callg rfl (cs3) rfl ?_
                rintro v4 w4 ⟨rfl, rfl⟩
                refine vl_valg rfl (os_f (os_gtr rfl rfl) (by omega)) ?_
                refine vl_val (os_pick_t rfl rfl) ?_
                refine vl_nil ?_
                refine v_cond_f rfl ?_
                refine v_skip ?_
                exact ⟨(), ⟨rfl, rfl, trivial⟩, trivial, rfl⟩
              · refine v_seq ?_
                refine v_region ?_
                refine vl_val (os_move rfl) ?_
                refine vl_call (cs1) rfl ?_
                rintro v4 w4 ⟨rfl, rfl⟩
                refine vl_val (os_t (os_leq rfl rfl) (by omega)) ?_
                refine vl_val (os_move rfl) ?_
                refine vl_valg rfl (os_move rfl) ?_
                refine vl_callg rfl (cs2) rfl ?_
                rintro v4 w4 ⟨rfl, rfl⟩
                refine vl_valg rfl (os_f (os_leq rfl rfl) (by omega)) ?_
                refine vl_val (os_pick_t rfl rfl) ?_
                refine vl_val (os_move rfl) ?_
                refine vl_skip rfl rfl ?_
                refine vl_skip rfl rfl ?_
                refine vl_skip rfl rfl ?_
                refine vl_val (os_pick_f rfl rfl) ?_
                refine vl_nil ?_
                refine v_cond_f rfl ?_
                refine v_skip ?_
                exact ⟨(), ⟨rfl, rfl, trivial⟩, trivial, rfl⟩
            · refine v_seq ?_
              refine v_region ?_
              refine vl_val (os_move rfl) ?_
              refine vl_call (cs1) rfl ?_
              rintro v4 w4 ⟨rfl, rfl⟩
              refine vl_val (os_f (os_leq rfl rfl) (by omega)) ?_
              refine vl_val (os_move rfl) ?_
              refine vl_skip rfl rfl ?_
              refine vl_skip rfl rfl ?_
              refine vl_skip rfl rfl ?_
              refine vl_val (os_pick_f rfl rfl) ?_
              refine vl_val (os_move rfl) ?_
              refine vl_skip rfl rfl ?_
              refine vl_skip rfl rfl ?_
              refine vl_skip rfl rfl ?_
              refine vl_val (os_pick_f rfl rfl) ?_
              refine vl_nil ?_
              refine v_cond_f rfl ?_
              refine v_skip ?_
              exact ⟨(), ⟨rfl, rfl, trivial⟩, trivial, rfl⟩
          · rintro x w' rfl
            have hsame := foldV_ok r1 r1 rfl
            refine v_seq ?_
            refine v_region ?_
            refine vl_val (os_move rfl) ?_
            refine vl_val (os_move rfl) ?_
            refine vl_call (g_Fold A A k k c c hs hs (w3.drewN q) (ha3.drewN q) (ha3.drewN q) hn hn (by omega) (by omega) ih ih) rfl ?_
            rintro v5 w5 ⟨vs, rfl, hos, hb5⟩
            rw [hsame.1] at hos
            rw [hsame.2, show argE true = 0 from rfl]
            obtain ⟨gs, cs, rfl, hgs0, hgs1, hgsc, hrs⟩ := hos.row (n := k) (by rw [foldL_len]; exact hn) (by omega)
            have hb6w : Below w.heap.size w w5 := hb4w.trans (hb5.mono hb4w.size)
            have ha6 := (ha3.drewN q).keep hb5
            have hx6 := (hx3.drewN q).keep hb5
            have hsc : ∀ j, j < k → w5.cell? ⟨gs, j, none⟩ = some (.int .i64 (hs[j]?.getD 0)) := fun j hj => by
              have hj' : j < hs.length := by omega
              rw [World.ownsRow.cellAt hrs j (by omega), List.getElem?_map, ← foldL_self hs hj', List.getElem?_eq_getElem (by rw [foldL_len]; exact hj')]
              simp [foldL_len, hj']
            refine vl_val (os_move rfl) ?_
            refine vl_val (os_extract rfl rfl) ?_
            refine vl_val (os_extract rfl rfl) ?_
            refine vl_val (os_assign rfl) ?_
            refine vl_val (os_assign rfl) ?_
            refine vl_nil ?_
            refine v_seq ?_
            refine v_region ?_
            refine vl_val (os_move rfl) ?_
            refine vl_val (os_assign rfl) ?_
            refine vl_nil ?_
            refine v_seq ?_
            refine v_seq ?_
            refine v_region ?_
            refine vl_val (os_assign rfl) ?_
            refine vl_nil ?_
            refine v_block ?_
            refine v_loop3 [(0, _), (1, _), (11, _), (12, _)] (fun (i : Nat) (Aa : Option Addr) (ca : Nat) => [(13, .slice Aa k ca), (14, .int .i64 i)]) (fun i Aa ca w' => i ≤ 100 ∧ Rd w' .i64 Aa (foldN xs i hs) ∧ Below w5.heap.size w5 w') (fun i Aa ca => 100 - i) (0) (A) (c) ⟨rfl, rfl, rfl, rfl, trivial⟩ ⟨rfl, rfl, trivial⟩ (⟨by omega, ha6, Below.refl _ _⟩) ?_
            rintro i Aa ca w' ⟨hi, hra, hbr⟩
            refine v_seq ?_
            refine v_seq ?_
            refine v_region ?_
            refine vl_val (os_move rfl) ?_
            refine vl_val (os_lss rfl rfl) ?_
            refine vl_nil ?_
            refine v_cond_d rfl (fun hlt => ?_) (fun hlt => ?_)
            · have rr := foldN_row r1 r2 hlen i
              have hok := foldV_ok rr r2 (by rw [foldN_len]; exact hlen)
              refine v_skip ?_
              refine v_seq ?_
              refine v_block ?_
              refine v_region ?_
              refine vl_val (os_move rfl) ?_
              refine vl_val (os_move rfl) ?_
              refine vl_call (g_Fold Aa B k m ca d (foldN xs i hs) xs w' hra (hx6.keep hbr) (by rw [foldN_len]; exact hn) hm (by omega) (by omega) (fun z hz => by have := rowB_mem rr z hz; exact ⟨by omega, by omega⟩) ix) rfl ?_
              rintro v6 w6 ⟨u6, rfl, ho6, hb6⟩
              rw [hok.1] at ho6
              obtain ⟨A6, c6, rfl, _, _, hr6, _⟩ := ho6.form
              rw [show (foldL (foldN xs i hs) xs).length = k by rw [foldL_len, foldN_len]; exact hn.symm]
              refine vl_val (os_move rfl) ?_
              refine vl_val (os_extract rfl rfl) ?_
              refine vl_val (os_extract rfl rfl) ?_
              refine vl_val (os_assign rfl) ?_
              refine vl_nil ?_
              refine v_region ?_
              refine vl_val (os_move rfl) ?_
              refine vl_val (os_addi rfl rfl (by omega)) ?_
              refine vl_val (os_assign rfl) ?_
              refine vl_nil ?_
              exact ⟨(i + 1, A6, c6), ⟨rfl, rfl, rfl, rfl, trivial⟩, ⟨rfl, rfl, trivial⟩, ⟨by omega, hr6, hbr.trans (hb6.mono hbr.size)⟩, by dsimp only; omega⟩
            · have hi100 : i = 100 := by omega
              have rr := foldN_row r1 r2 hlen i
              have hok := foldV_ok rr r2 (by rw [foldN_len]; exact hlen)
              refine v_exit ?_
              refine v_seq ?_
              refine v_region ?_
              refine vl_val (os_move rfl) ?_
              refine vl_val (os_move rfl) ?_
              refine vl_call (g_Fold Aa B k m ca d (foldN xs i hs) xs w' hra (hx6.keep hbr) (by rw [foldN_len]; exact hn) hm (by omega) (by omega) (fun z hz => by have := rowB_mem rr z hz; exact ⟨by omega, by omega⟩) ix) rfl ?_
              rintro v6 w6 ⟨u6, rfl, ho6, hb6⟩
              rw [hok.1] at ho6
              obtain ⟨A6, c6, rfl, _, _, hr6, _⟩ := ho6.form
              have hbn : Below w5.heap.size w5 w6 := hbr.trans (hb6.mono hbr.size)
              have hb7 : Below w.heap.size w w6 := hb6w.trans (hbn.mono hb6w.size)
              have ha7 := ha6.keep hbn
              have hx7 := hx6.keep hbn
              have hra7 := hra.keep hb6
              refine vl_val (os_move rfl) ?_
              refine vl_val (os_extract rfl rfl) ?_
              refine vl_val (os_extract rfl rfl) ?_
              refine vl_val (os_assign rfl) ?_
              refine vl_val (os_assign rfl) ?_
              refine vl_nil ?_
              refine v_seq ?_
              refine v_seq ?_
              refine v_region ?_
              refine vl_val (os_assign rfl) ?_
              refine vl_nil ?_
              refine v_block ?_
              refine v_loop [(0, _), (1, _), (11, _), (12, _), (13, _), (15, _)] (fun (j : Nat) => [(17, .int .i64 j)]) (fun j w' => j ≤ k ∧ LeD w6 w') (fun j => k - j) (0) ⟨rfl, rfl, rfl, rfl, rfl, rfl, trivial⟩ ⟨rfl, trivial⟩ (⟨by omega, lee_d.refl _⟩) ?_
              rintro j w' ⟨hj, q7, rfl⟩
              refine v_seq ?_
              refine v_seq ?_
              refine v_region ?_
              refine vl_val (os_move rfl) ?_
              refine vl_val (os_move rfl) ?_
              refine vl_val (os_len Try.underlying37 rfl) ?_
              refine vl_val (os_lss rfl rfl) ?_
              refine vl_nil ?_
              refine v_cond_d rfl (fun hlt => ?_) (fun hlt => ?_)
              · have hj' : j < hs.length := by omega
                have hun := foldN_hundred_k hi100 r1 r2 hlen hj'
                have hvb := rowB_at r1 hj'
                have hxb := rowB_at r2 (k := j) (by omega)
                obtain ⟨f0, f1⟩ := rowB_at (foldN_row r1 r2 hlen i) (k := j) (by rw [foldN_len]; exact hj')
                have c1 : (w6.drewN q7).cell? ⟨gs, 0 + j, none⟩ = some (.int .i64 (hs[j]?.getD 0)) := by rw [Nat.zero_add]; exact (hbn.cell (p := ⟨gs, j, none⟩) hgs1).trans (hsc j (by omega))
                obtain ⟨b1, o1, rfl, c2⟩ := (ha7.drewN q7).at_ (i := j) hj'
                obtain ⟨b2, o2, rfl, c3⟩ := (hx7.drewN q7).at_ (i := j) (by omega)
                obtain ⟨b3, o3, rfl, c4⟩ := (hra7.drewN q7).at_ (i := j) (by rw [foldN_len]; exact hj')
                obtain ⟨b4, o4, rfl, c5⟩ := (hr6.drewN q7).at_ (i := j) (by rw [foldL_len, foldN_len]; exact hj')
                simp only [List.getD_eq_getElem?_getD] at c2 c3 c4 c5 hvb hxb f0 f1
                rw [hun.2.2] at c5
                obtain ⟨g1, g2, _⟩ := hun
                have hll : (foldL (foldN xs i hs) xs).length = k := by rw [foldL_len, foldN_len]; exact hn.symm
                refine v_skip ?_
                refine v_seq ?_
                refine v_block ?_
                refine v_seq ?_
                refine v_region_t LeD _ mixed (by kernel_rfl) lee_d (led_start _) ?_
                refine vt_val (fun w hw => os_move rfl) ?_
                refine vt_val (fun w hw => os_f (os_neq rfl rfl) (by omega)) ?_
                refine vt_val (fun w hw => os_move rfl) ?_
                refine vt_valg rfl (fun w hw => os_move rfl) ?_
                refine vt_valg rfl (fun w hw => os_move rfl) ?_
                refine vt_valg rfl (fun w hw => os_ix Try.underlying37 Try.sizeOf3 rfl rfl (i := j) (by omega) (by omega)) ?_
                refine vt_valg rfl (fun w hw => os_load Try.isAgg3 rfl (led_cell hw (c1))) ?_
                refine vt_valg rfl (fun w hw => os_move rfl) ?_
                refine vt_valg rfl (fun w hw => os_move rfl) ?_
                refine vt_valg rfl (fun w hw => os_ix Try.underlying37 Try.sizeOf3 rfl rfl (i := j) (by omega) (by omega)) ?_
                refine vt_valg rfl (fun w hw => os_load Try.isAgg3 rfl (led_cell hw (c2))) ?_
                refine vt_valg rfl (fun w hw => os_f (os_neq rfl rfl) (by omega)) ?_
                refine vt_val (fun w hw => os_pick_f rfl rfl) ?_
                refine vt_val (fun w hw => os_move rfl) ?_
                refine vt_valg rfl (fun w hw => os_move rfl) ?_
                refine vt_valg rfl (fun w hw => os_move rfl) ?_
                refine vt_valg rfl (fun w hw => os_ix Try.underlying37 Try.sizeOf3 rfl rfl (i := j) (by omega) (by omega)) ?_
                refine vt_valg rfl (fun w hw => os_load Try.isAgg3 rfl (led_cell hw (c4))) ?_
                refine vt_valg rfl (fun w hw => os_move rfl) ?_
                refine vt_valg rfl (fun w hw => os_move rfl) ?_
                refine vt_valg rfl (fun w hw => os_ix Try.underlying37 Try.sizeOf3 rfl rfl (i := j) (by omega) (by omega)) ?_
                refine vt_valg rfl (fun w hw => os_load Try.isAgg3 rfl (led_cell hw (c3))) ?_
                refine vt_valg rfl (fun w hw => os_f (os_gtr rfl rfl) (by omega)) ?_
                refine vt_val (fun w hw => os_pick_f rfl rfl) ?_
                refine vt_val (fun w hw => os_move rfl) ?_
                refine vt_valg rfl (fun w hw => os_move rfl) ?_
                refine vt_valg rfl (fun w hw => os_move rfl) ?_
                refine vt_valg rfl (fun w hw => os_ix Try.underlying37 Try.sizeOf3 rfl rfl (i := j) (by omega) (by omega)) ?_
                refine vt_valg rfl (fun w hw => os_load Try.isAgg3 rfl (led_cell hw (c3))) ?_
                refine vt_valg rfl (fun w hw => os_move rfl) ?_
                refine vt_valg rfl (fun w hw => os_move rfl) ?_
                refine vt_valg rfl (fun w hw => os_ix Try.underlying37 Try.sizeOf3 rfl rfl (i := j) (by omega) (by omega)) ?_
                refine vt_valg rfl (fun w hw => os_load Try.isAgg3 rfl (led_cell hw (c4))) ?_
                refine vt_valg rfl (fun w hw => os_subi rfl rfl (by omega)) ?_
                refine vt_valg rfl (fun w hw => os_f (os_gtr rfl rfl) (by omega)) ?_
                refine vt_val (fun w hw => os_pick_f rfl rfl) ?_
                refine vt_val (fun w hw => os_move rfl) ?_
                refine vt_valg rfl (fun w hw => os_move rfl) ?_
                refine vt_valg rfl (fun w hw => os_move rfl) ?_
                refine vt_valg rfl (fun w hw => os_ix Try.underlying37 Try.sizeOf3 rfl rfl (i := j) (by omega) (by omega)) ?_
                refine vt_valg rfl (fun w hw => os_load Try.isAgg3 rfl (led_cell hw (c5))) ?_
                refine vt_valg rfl (fun w hw => os_move rfl) ?_
                refine vt_valg rfl (fun w hw => os_move rfl) ?_
                refine vt_valg rfl (fun w hw => os_ix Try.underlying37 Try.sizeOf3 rfl rfl (i := j) (by omega) (by omega)) ?_
                refine vt_valg rfl (fun w hw => os_load Try.isAgg3 rfl (led_cell hw (c4))) ?_
                refine vt_valg rfl (fun w hw => os_f (os_neq rfl rfl) (by omega)) ?_
                refine vt_val (fun w hw => os_pick_f rfl rfl) ?_
                refine vt_nil (fun w hw => ?_)
                obtain ⟨q8, rfl⟩ := hw
                refine v_cond_f rfl ?_
                refine v_skip ?_
                refine v_region ?_
                refine vl_val (os_move rfl) ?_
                refine vl_val (os_addi rfl rfl (by omega)) ?_
                refine vl_val (os_assign rfl) ?_
                refine vl_nil ?_
                exact ⟨j + 1, ⟨rfl, rfl, rfl, rfl, rfl, rfl, trivial⟩, ⟨rfl, trivial⟩, ⟨by omega, _, World.drewN_drewN ..⟩, by dsimp only; omega⟩
              · refine v_exit ?_
                refine v_seq ?_
                refine v_region ?_
                refine vl_val (os_assign rfl) ?_
                refine vl_nil ?_
                refine v_ret ?_
                exact post_ret rfl rfl (⟨rfl, below_drewN_ hb7 q7⟩)
end Go.Proofs.Ytpcfifheegfjiaa
