/- Layer 11: the contract of size.Fits. -/
import Derived.Test.YtpjmiafefammkaaSz
namespace Go.Proofs.Ytpjmiafefammkaa
open Go.RowKit
set_option linter.unusedVariables false

theorem errE_ne {b : Bool} : errE b ≠ 0 ↔ b = false := by cases b <;> simp [errE]
theorem lens_bd {ls : List Int} (h : lensB ls = true) : 1 ≤ ls.length ∧ ls.length ≤ 8 ∧ ∀ k, k < ls.length → 0 ≤ ls.getD k 0 ∧ ls.getD k 0 ≤ 65535 := by
  simp only [lensB, Bool.and_eq_true, Bool.not_eq_true', List.any_eq_false, betw, decide_eq_true_eq] at h
  refine ⟨by omega, by omega, fun k hk => ?_⟩
  have := h.2 ls[k] (List.getElem_mem _)
  simpa [hk] using this

set_option maxHeartbeats 1000000 in
theorem size_Fits (n m b : Int) (A K : Option Addr) (l c lk ck : Nat) (lens ks : List Int) (w : World) (ha : Rd w .i64 A lens) (hk : Rd w .i64 K ks) (hl : l = lens.length) (hlk : lk = ks.length)
    (hl' : l ≤ 9223372036854775807) (hlk' : lk ≤ 9223372036854775807) (hks : AllI ks) :
    Gives Try.prog 50 #[.agg #[.int .i64 n, .int .i64 m, .int .i64 b], .slice A l c, .slice K lk ck] w fun v w' => v = .bool (fitsB n m b lens ks) ∧ Below w.heap.size w w' := by
  have hbel : Below w.heap.size w (w.alloc (.cells #[.int .i64 n, .int .i64 m, .int .i64 b] 75)) := (Below.refl _ w).alloc (Nat.le_refl _) _
  have hB := bk_new w [.int .i64 n, .int .i64 m, .int .i64 b] 75
  refine gives_enter Try.call50 Try.func50 rfl rfl rfl (by kernel_rfl) ?_
  cases c1 : roomOk n m b l
  · refine v_seq ?_
    refine v_region ?_
    refine vl_val (os_box rfl) ?_
    refine vl_val (os_assign rfl) ?_
    refine vl_nil ?_
    refine v_seq ?_
    refine v_region ?_
    refine vl_val (os_loadB Try.underlying75 rfl (by kernel_rfl) rfl (hB)) ?_
    refine vl_val (os_move rfl) ?_
    refine vl_val (os_len Try.underlying40 rfl) ?_
    refine vl_call (size_Room n m b l _) rfl ?_
    rintro v w1 ⟨rfl, hb1⟩
    have hbel1 := hbel.trans (hb1.mono (by simp))
    refine vl_val (os_move rfl) ?_
    refine vl_val (os_extract rfl rfl) ?_
    refine vl_val (os_extract rfl rfl) ?_
    refine vl_val (os_assign rfl) ?_
    refine vl_val (os_assign rfl) ?_
    refine vl_nil ?_
    refine v_seq ?_
    refine v_seq ?_
    refine v_region ?_
    refine vl_val (os_move rfl) ?_
    refine vl_val (os_t (os_neq rfl rfl) (by simp [c1, errE])) ?_
    refine vl_val (os_move rfl) ?_
    refine vl_skip rfl rfl ?_
    refine vl_skip rfl rfl ?_
    refine vl_skip rfl rfl ?_
    refine vl_val (os_pick_t rfl rfl) ?_
    refine vl_val (os_move rfl) ?_
    refine vl_skip rfl rfl ?_
    refine vl_skip rfl rfl ?_
    refine vl_skip rfl rfl ?_
    refine vl_skip rfl rfl ?_
    refine vl_skip rfl rfl ?_
    refine vl_val (os_pick_t rfl rfl) ?_
    refine vl_val (os_move rfl) ?_
    refine vl_skip rfl rfl ?_
    refine vl_skip rfl rfl ?_
    refine vl_skip rfl rfl ?_
    refine vl_val (os_pick_t rfl rfl) ?_
    refine vl_nil ?_
    refine v_cond_t rfl ?_
    refine v_seq ?_
    refine v_region ?_
    refine vl_val (os_assign rfl) ?_
    refine vl_nil ?_
    refine v_ret ?_
    exact post_ret rfl rfl (⟨by simp [fitsB, ← hl, c1], hbel1⟩)
  · cases c2 : lensB lens
    · refine v_seq ?_
      refine v_region ?_
      refine vl_val (os_box rfl) ?_
      refine vl_val (os_assign rfl) ?_
      refine vl_nil ?_
      refine v_seq ?_
      refine v_region ?_
      refine vl_val (os_loadB Try.underlying75 rfl (by kernel_rfl) rfl (hB)) ?_
      refine vl_val (os_move rfl) ?_
      refine vl_val (os_len Try.underlying40 rfl) ?_
      refine vl_call (size_Room n m b l _) rfl ?_
      rintro v w1 ⟨rfl, hb1⟩
      have hbel1 := hbel.trans (hb1.mono (by simp))
      refine vl_val (os_move rfl) ?_
      refine vl_val (os_extract rfl rfl) ?_
      refine vl_val (os_extract rfl rfl) ?_
      refine vl_val (os_assign rfl) ?_
      refine vl_val (os_assign rfl) ?_
      refine vl_nil ?_
      refine v_seq ?_
      refine v_seq ?_
      refine v_region ?_
      refine vl_val (os_move rfl) ?_
      refine vl_val (os_f (os_neq rfl rfl) (by simp [c1, errE])) ?_
      refine vl_val (os_move rfl) ?_
      refine vl_valg rfl (os_move rfl) ?_
      refine vl_callg rfl (gives_boolb (size_lengths A l c lens _ ((ha.keep hbel1)) hl hl') c2) rfl ?_
      rintro v w2 ⟨rfl, q, rfl⟩
      refine vl_valg rfl (os_not rfl) ?_
      refine vl_val (os_pick_f rfl rfl) ?_
      refine vl_val (os_move rfl) ?_
      refine vl_skip rfl rfl ?_
      refine vl_skip rfl rfl ?_
      refine vl_skip rfl rfl ?_
      refine vl_skip rfl rfl ?_
      refine vl_skip rfl rfl ?_
      refine vl_val (os_pick_t rfl rfl) ?_
      refine vl_val (os_move rfl) ?_
      refine vl_skip rfl rfl ?_
      refine vl_skip rfl rfl ?_
      refine vl_skip rfl rfl ?_
      refine vl_val (os_pick_t rfl rfl) ?_
      refine vl_nil ?_
      refine v_cond_t rfl ?_
      refine v_seq ?_
      refine v_region ?_
      refine vl_val (os_assign rfl) ?_
      refine vl_nil ?_
      refine v_ret ?_
      exact post_ret rfl rfl (⟨by simp [fitsB, c2], below_drewN_ hbel1 q⟩)
    · by_cases c3 : lk = l
      · cases c4 : sortedB ks
        · refine v_seq ?_
          refine v_region ?_
          refine vl_val (os_box rfl) ?_
          refine vl_val (os_assign rfl) ?_
          refine vl_nil ?_
          refine v_seq ?_
          refine v_region ?_
          refine vl_val (os_loadB Try.underlying75 rfl (by kernel_rfl) rfl (hB)) ?_
          refine vl_val (os_move rfl) ?_
          refine vl_val (os_len Try.underlying40 rfl) ?_
          refine vl_call (size_Room n m b l _) rfl ?_
          rintro v w1 ⟨rfl, hb1⟩
          have hbel1 := hbel.trans (hb1.mono (by simp))
          refine vl_val (os_move rfl) ?_
          refine vl_val (os_extract rfl rfl) ?_
          refine vl_val (os_extract rfl rfl) ?_
          refine vl_val (os_assign rfl) ?_
          refine vl_val (os_assign rfl) ?_
          refine vl_nil ?_
          refine v_seq ?_
          refine v_seq ?_
          refine v_region ?_
          refine vl_val (os_move rfl) ?_
          refine vl_val (os_f (os_neq rfl rfl) (by simp [c1, errE])) ?_
          refine vl_val (os_move rfl) ?_
          refine vl_valg rfl (os_move rfl) ?_
          refine vl_callg rfl (gives_boolb (size_lengths A l c lens _ ((ha.keep hbel1)) hl hl') c2) rfl ?_
          rintro v w2 ⟨rfl, q, rfl⟩
          refine vl_valg rfl (os_not rfl) ?_
          refine vl_val (os_pick_f rfl rfl) ?_
          refine vl_val (os_move rfl) ?_
          refine vl_valg rfl (os_move rfl) ?_
          refine vl_valg rfl (os_len Try.underlying40 rfl) ?_
          refine vl_valg rfl (os_move rfl) ?_
          refine vl_valg rfl (os_len Try.underlying40 rfl) ?_
          refine vl_valg rfl (os_f (os_neq rfl rfl) (by simp [c3])) ?_
          refine vl_val (os_pick_f rfl rfl) ?_
          refine vl_val (os_move rfl) ?_
          refine vl_valg rfl (os_move rfl) ?_
          refine vl_callg rfl (gives_boolb (slices_IsSorted K lk ck ks _ ((hk.keep hbel1).drewN q) hlk hlk') c4) rfl ?_
          rintro v w2 ⟨rfl, q2, rfl⟩
          refine vl_valg rfl (os_not rfl) ?_
          refine vl_val (os_pick_f rfl rfl) ?_
          refine vl_nil ?_
          refine v_cond_t rfl ?_
          refine v_seq ?_
          refine v_region ?_
          refine vl_val (os_assign rfl) ?_
          refine vl_nil ?_
          refine v_ret ?_
          exact post_ret rfl rfl (⟨by simp [fitsB, c4], below_drewN_ (below_drewN_ hbel1 q) q2⟩)
        · refine v_seq ?_
          refine v_region ?_
          refine vl_val (os_box rfl) ?_
          refine vl_val (os_assign rfl) ?_
          refine vl_nil ?_
          refine v_seq ?_
          refine v_region ?_
          refine vl_val (os_loadB Try.underlying75 rfl (by kernel_rfl) rfl (hB)) ?_
          refine vl_val (os_move rfl) ?_
          refine vl_val (os_len Try.underlying40 rfl) ?_
          refine vl_call (size_Room n m b l _) rfl ?_
          rintro v w1 ⟨rfl, hb1⟩
          have hbel1 := hbel.trans (hb1.mono (by simp))
          refine vl_val (os_move rfl) ?_
          refine vl_val (os_extract rfl rfl) ?_
          refine vl_val (os_extract rfl rfl) ?_
          refine vl_val (os_assign rfl) ?_
          refine vl_val (os_assign rfl) ?_
          refine vl_nil ?_
          refine v_seq ?_
          refine v_seq ?_
          refine v_region ?_
          refine vl_val (os_move rfl) ?_
          refine vl_val (os_f (os_neq rfl rfl) (by simp [c1, errE])) ?_
          refine vl_val (os_move rfl) ?_
          refine vl_valg rfl (os_move rfl) ?_
          refine vl_callg rfl (gives_boolb (size_lengths A l c lens _ ((ha.keep hbel1)) hl hl') c2) rfl ?_
          rintro v w2 ⟨rfl, q, rfl⟩
          refine vl_valg rfl (os_not rfl) ?_
          refine vl_val (os_pick_f rfl rfl) ?_
          refine vl_val (os_move rfl) ?_
          refine vl_valg rfl (os_move rfl) ?_
          refine vl_valg rfl (os_len Try.underlying40 rfl) ?_
          refine vl_valg rfl (os_move rfl) ?_
          refine vl_valg rfl (os_len Try.underlying40 rfl) ?_
          refine vl_valg rfl (os_f (os_neq rfl rfl) (by simp [c3])) ?_
          refine vl_val (os_pick_f rfl rfl) ?_
          refine vl_val (os_move rfl) ?_
          refine vl_valg rfl (os_move rfl) ?_
          refine vl_callg rfl (gives_boolb (slices_IsSorted K lk ck ks _ ((hk.keep hbel1).drewN q) hlk hlk') c4) rfl ?_
          rintro v w2 ⟨rfl, q2, rfl⟩
          obtain ⟨w2, hw2⟩ : ∃ w2, w2 = (w1.drewN q).drewN q2 := ⟨_, rfl⟩
          have hbel2 : Below w.heap.size w w2 := by rw [hw2]; exact below_drewN_ (below_drewN_ hbel1 q) q2
          have hB2 : Bk w2 w.heap.size [.int .i64 n, .int .i64 m, .int .i64 b] 75 := by have h1 := hB.keep hb1; rw [hw2]; exact h1
          have ha2 : Rd w2 .i64 A lens := by have h1 := ha.keep hbel1; rw [hw2]; exact h1
          have hk2 : Rd w2 .i64 K ks := by have h1 := hk.keep hbel1; rw [hw2]; exact h1
          have hrv : roomV n m b l = roomW n m b l := by simp [roomV, c1]
          have hrb := room_bd c1
          have hlb := lens_bd c2
          have hfit : fitsB n m b lens ks = fitGo n (roomW n m b l) (lens.zip ks) := by simp [fitsB, ← hl, ← hlk, c1, c2, c3, c4]
          rw [hfit, ← hw2, hrv]
          refine vl_valg rfl (os_not rfl) ?_
          refine vl_val (os_pick_f rfl rfl) ?_
          refine vl_nil ?_
          refine v_cond_f rfl ?_
          refine v_skip ?_
          refine v_seq ?_
          refine v_seq ?_
          refine v_region ?_
          refine vl_val (os_move rfl) ?_
          refine vl_val (os_len Try.underlying40 rfl) ?_
          refine vl_val (os_move rfl) ?_
          refine vl_nil ?_
          refine v_block ?_
          refine v_loop2 [(1, _), (2, _), (3, _), (39, _)] (fun (k : Nat) (r : Int) => [(7, .int .i64 r), (40, .int .i64 k)]) (fun k r w' => k ≤ l ∧ (k = 0 ∨ 0 ≤ r) ∧ -1 ≤ r ∧ r ≤ 1500 ∧ fitGo n (roomW n m b l) (lens.zip ks) = fitGo n r ((lens.zip ks).drop k) ∧ LeD w2 w') (fun k r => l - k) (0) (roomW n m b l) ⟨rfl, rfl, rfl, rfl, trivial⟩ ⟨rfl, rfl, trivial⟩ (⟨by omega, .inl rfl, hrb.1, hrb.2, rfl, lee_d.refl _⟩) ?_
          rintro k r w' ⟨hkl, hr0, hr1, hr2, hgo, q3, rfl⟩
          refine v_seq ?_
          refine v_region ?_
          refine vl_val (os_lss rfl rfl) ?_
          refine vl_nil ?_
          refine v_seq ?_
          refine v_cond_d rfl (fun hlt => ?_) (fun hlt => ?_)
          · have hzl : k < (lens.zip ks).length := by rw [List.length_zip]; omega
            have hcons := List.drop_eq_getElem_cons hzl
            have hz : (lens.zip ks)[k] = (lens.getD k 0, ks.getD k 0) := by simp [show k < lens.length by omega, show k < ks.length by omega]
            rw [hz] at hcons
            obtain ⟨b1, o1, rfl, d1⟩ := (hk2.drewN q3).at_ (i := k) (by omega)
            obtain ⟨b2, o2, rfl, d2⟩ := (ha2.drewN q3).at_ (i := k) (by omega)
            have hlk2 := hlb.2.2 k (by omega)
            refine v_skip ?_
            refine v_seq ?_
            refine v_block ?_
            refine v_seq ?_
            refine v_region ?_
            refine vl_val (os_move rfl) ?_
            refine vl_val (os_assign rfl) ?_
            refine vl_nil ?_
            refine v_seq ?_
            refine v_seq ?_
            refine v_region_t LeD _ mixed (by kernel_rfl) lee_d (led_start _) ?_
            refine vt_val (fun w hw => os_move rfl) ?_
            refine vt_val (fun w hw => os_move rfl) ?_
            refine vt_val (fun w hw => os_ix Try.underlying40 Try.sizeOf3 rfl rfl (i := k) (by omega) (by omega)) ?_
            refine vt_val (fun w hw => os_load Try.isAgg3 rfl (led_cell hw (d1))) ?_
            refine vt_val (fun w hw => os_fa (o := 0) (k := 0) (by kernel_rfl) rfl) ?_
            refine vt_val (fun w hw => os_load Try.isAgg3 rfl (led_cell hw ((hB2.led ⟨q3, rfl⟩).cell rfl))) ?_
            refine vt_val (fun w hw => os_gtr rfl rfl) ?_
            refine vt_nil (fun w hw => ?_)
            obtain ⟨q4, rfl⟩ := hw
            refine v_cond_d rfl (fun hbig => ?_) (fun hbig => ?_)
            · refine v_seq ?_
              refine v_region ?_
              refine vl_val (os_assign rfl) ?_
              refine vl_nil ?_
              refine v_ret ?_
              exact post_ret rfl rfl (⟨by rw [hgo, fitGo_drop_false hcons (by simp only []; omega)], below_drewN_ (below_drewN_ hbel2 q3) q4⟩)
            · cases c5 : widthOk (lens.getD k 0) (ks.getD k 0)
              · refine v_skip ?_
                refine v_seq ?_
                refine v_region_t LeD _ mixed (by kernel_rfl) lee_d (led_start _) ?_
                refine vt_val (fun w hw => os_move rfl) ?_
                refine vt_val (fun w hw => os_move rfl) ?_
                refine vt_val (fun w hw => os_ix Try.underlying40 Try.sizeOf3 rfl rfl (i := k) (by omega) (by omega)) ?_
                refine vt_val (fun w hw => os_load Try.isAgg3 rfl (led_cell hw (d2))) ?_
                refine vt_val (fun w hw => os_move rfl) ?_
                refine vt_val (fun w hw => os_move rfl) ?_
                refine vt_val (fun w hw => os_ix Try.underlying40 Try.sizeOf3 rfl rfl (i := k) (by omega) (by omega)) ?_
                refine vt_val (fun w hw => os_load Try.isAgg3 rfl (led_cell hw (d1))) ?_
                refine vt_call (v := _) (fun w hw => (strip_Width (lens.getD k 0) (ks.getD k 0) _ ⟨by omega, by omega⟩ (hks.at_ k)).mono fun v w' h => ⟨h.1, by rw [h.2]; exact lee_d.refl _⟩) rfl ?_
                refine vt_val (fun w hw => os_move rfl) ?_
                refine vt_val (fun w hw => os_extract rfl rfl) ?_
                refine vt_val (fun w hw => os_extract rfl rfl) ?_
                refine vt_val (fun w hw => os_assign rfl) ?_
                refine vt_val (fun w hw => os_assign rfl) ?_
                refine vt_nil (fun w hw => ?_)
                obtain ⟨q5, rfl⟩ := hw
                have hwv : widthV (lens.getD k 0) (ks.getD k 0) = 0 := by unfold widthV; rw [c5]; rfl
                refine v_seq ?_
                refine v_region ?_
                refine vl_val (os_move rfl) ?_
                refine vl_val (os_move rfl) ?_
                refine vl_val (os_subi rfl rfl (by omega)) ?_
                refine vl_val (os_assign rfl) ?_
                refine vl_nil ?_
                refine v_seq ?_
                refine v_region ?_
                refine vl_val (os_move rfl) ?_
                refine vl_val (os_t (os_neq rfl rfl) (by rw [c5]; decide)) ?_
                refine vl_val (os_move rfl) ?_
                refine vl_skip rfl rfl ?_
                refine vl_skip rfl rfl ?_
                refine vl_val (os_pick_t rfl rfl) ?_
                refine vl_nil ?_
                refine v_cond_t rfl ?_
                refine v_seq ?_
                refine v_region ?_
                refine vl_val (os_assign rfl) ?_
                refine vl_nil ?_
                refine v_ret ?_
                exact post_ret rfl rfl (⟨by rw [hgo, fitGo_drop_false hcons (by simp only []; rw [c5]; simp)], below_drewN_ (below_drewN_ (below_drewN_ hbel2 q3) q4) q5⟩)
              · have hwv : widthV (lens.getD k 0) (ks.getD k 0) = widthW (lens.getD k 0) (ks.getD k 0) := by unfold widthV; rw [c5]; rfl
                have hwb := width_bd c5
                refine v_skip ?_
                refine v_seq ?_
                refine v_region_t LeD _ mixed (by kernel_rfl) lee_d (led_start _) ?_
                refine vt_val (fun w hw => os_move rfl) ?_
                refine vt_val (fun w hw => os_move rfl) ?_
                refine vt_val (fun w hw => os_ix Try.underlying40 Try.sizeOf3 rfl rfl (i := k) (by omega) (by omega)) ?_
                refine vt_val (fun w hw => os_load Try.isAgg3 rfl (led_cell hw (d2))) ?_
                refine vt_val (fun w hw => os_move rfl) ?_
                refine vt_val (fun w hw => os_move rfl) ?_
                refine vt_val (fun w hw => os_ix Try.underlying40 Try.sizeOf3 rfl rfl (i := k) (by omega) (by omega)) ?_
                refine vt_val (fun w hw => os_load Try.isAgg3 rfl (led_cell hw (d1))) ?_
                refine vt_call (v := _) (fun w hw => (strip_Width (lens.getD k 0) (ks.getD k 0) _ ⟨by omega, by omega⟩ (hks.at_ k)).mono fun v w' h => ⟨h.1, by rw [h.2]; exact lee_d.refl _⟩) rfl ?_
                refine vt_val (fun w hw => os_move rfl) ?_
                refine vt_val (fun w hw => os_extract rfl rfl) ?_
                refine vt_val (fun w hw => os_extract rfl rfl) ?_
                refine vt_val (fun w hw => os_assign rfl) ?_
                refine vt_val (fun w hw => os_assign rfl) ?_
                refine vt_nil (fun w hw => ?_)
                obtain ⟨q5, rfl⟩ := hw
                refine v_seq ?_
                refine v_region ?_
                refine vl_val (os_move rfl) ?_
                refine vl_val (os_move rfl) ?_
                refine vl_val (os_subi rfl rfl (by omega)) ?_
                refine vl_val (os_assign rfl) ?_
                refine vl_nil ?_
                refine v_seq ?_
                refine v_region ?_
                refine vl_val (os_move rfl) ?_
                refine vl_val (os_f (os_neq rfl rfl) (by rw [c5]; decide)) ?_
                refine vl_val (os_move rfl) ?_
                refine vl_valg rfl (os_move rfl) ?_
                refine vl_valg rfl (os_lss rfl rfl) ?_
                refine vl_val (os_pick_f rfl rfl) ?_
                refine vl_nil ?_
                refine v_cond_d rfl (fun hneg => ?_) (fun hneg => ?_)
                · refine v_seq ?_
                  refine v_region ?_
                  refine vl_val (os_assign rfl) ?_
                  refine vl_nil ?_
                  refine v_ret ?_
                  exact post_ret rfl rfl (⟨by rw [hgo, fitGo_drop_false hcons (by simp only []; omega)], below_drewN_ (below_drewN_ (below_drewN_ hbel2 q3) q4) q5⟩)
                · have hstep : fitGo n r ((lens.zip ks).drop k) = fitGo n (r - widthW (lens.getD k 0) (ks.getD k 0)) ((lens.zip ks).drop (k + 1)) := by
                    rw [hcons]; simp only [fitGo, c5, Bool.and_true]; rw [decide_eq_true (by omega), decide_eq_true (by omega)]; simp
                  refine v_skip ?_
                  refine v_region ?_
                  refine vl_val (os_addi rfl rfl (by omega)) ?_
                  refine vl_val (os_move rfl) ?_
                  refine vl_nil ?_
                  exact ⟨(k + 1, r - widthV (lens.getD k 0) (ks.getD k 0)), ⟨rfl, rfl, rfl, rfl, trivial⟩, ⟨rfl, rfl, trivial⟩, ⟨by dsimp only; omega, .inr (by dsimp only; omega), by dsimp only; omega, by dsimp only; omega, by rw [hgo, hstep, hwv], _, by rw [World.drewN_drewN, World.drewN_drewN]⟩, by dsimp only; omega⟩
          · obtain rfl : k = l := by omega
            refine v_exit ?_
            refine v_seq ?_
            refine v_region ?_
            refine vl_val (os_assign rfl) ?_
            refine vl_nil ?_
            refine v_ret ?_
            exact post_ret rfl rfl (⟨by rw [hgo, List.drop_eq_nil_of_le (by rw [List.length_zip]; omega)]; rfl, below_drewN_ hbel2 q3⟩)
      · refine v_seq ?_
        refine v_region ?_
        refine vl_val (os_box rfl) ?_
        refine vl_val (os_assign rfl) ?_
        refine vl_nil ?_
        refine v_seq ?_
        refine v_region ?_
        refine vl_val (os_loadB Try.underlying75 rfl (by kernel_rfl) rfl (hB)) ?_
        refine vl_val (os_move rfl) ?_
        refine vl_val (os_len Try.underlying40 rfl) ?_
        refine vl_call (size_Room n m b l _) rfl ?_
        rintro v w1 ⟨rfl, hb1⟩
        have hbel1 := hbel.trans (hb1.mono (by simp))
        refine vl_val (os_move rfl) ?_
        refine vl_val (os_extract rfl rfl) ?_
        refine vl_val (os_extract rfl rfl) ?_
        refine vl_val (os_assign rfl) ?_
        refine vl_val (os_assign rfl) ?_
        refine vl_nil ?_
        refine v_seq ?_
        refine v_seq ?_
        refine v_region ?_
        refine vl_val (os_move rfl) ?_
        refine vl_val (os_f (os_neq rfl rfl) (by simp [c1, errE])) ?_
        refine vl_val (os_move rfl) ?_
        refine vl_valg rfl (os_move rfl) ?_
        refine vl_callg rfl (gives_boolb (size_lengths A l c lens _ ((ha.keep hbel1)) hl hl') c2) rfl ?_
        rintro v w2 ⟨rfl, q, rfl⟩
        refine vl_valg rfl (os_not rfl) ?_
        refine vl_val (os_pick_f rfl rfl) ?_
        refine vl_val (os_move rfl) ?_
        refine vl_valg rfl (os_move rfl) ?_
        refine vl_valg rfl (os_len Try.underlying40 rfl) ?_
        refine vl_valg rfl (os_move rfl) ?_
        refine vl_valg rfl (os_len Try.underlying40 rfl) ?_
        refine vl_valg rfl (os_t (os_neq rfl rfl) (by omega)) ?_
        refine vl_val (os_pick_f rfl rfl) ?_
        refine vl_val (os_move rfl) ?_
        refine vl_skip rfl rfl ?_
        refine vl_skip rfl rfl ?_
        refine vl_skip rfl rfl ?_
        refine vl_val (os_pick_t rfl rfl) ?_
        refine vl_nil ?_
        refine v_cond_t rfl ?_
        refine v_seq ?_
        refine v_region ?_
        refine vl_val (os_assign rfl) ?_
        refine vl_nil ?_
        refine v_ret ?_
        exact post_ret rfl rfl (⟨by simp [fitsB, ← hl, ← hlk, c3], below_drewN_ hbel1 q⟩)
end Go.Proofs.Ytpjmiafefammkaa
