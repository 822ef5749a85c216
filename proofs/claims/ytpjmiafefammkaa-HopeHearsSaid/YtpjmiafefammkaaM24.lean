/- Texts joined: HpH OpR OpN. -/
import Derived.Test.YtpjmiafefammkaaM23
import Derived.ChangeSame
/- Layer 25: what a guesser's weights are, and the walk of HopeHears. -/
namespace Go.Proofs.Ytpjmiafefammkaa
open Go.RowKit
set_option linter.unusedVariables false

theorem hope_OfG {g : Nat} {ps : List Int} {st n sq : Int} {w : World} (h : GS w g ps st n sq) : Gives Try.prog 46 #[.pointer (some ⟨g, 0, none⟩)] w fun v w' => ∃ u, v = .tuple #[u, .int .i64 (errA (wtOk ps))] ∧ OwnK w' w.heap.size 3 .i64 u (wtV ps) ∧ Below w.heap.size w w' := by
  have hle := h.le
  have hl := h.len
  have hn := h.n
  refine gives_enter Try.call46 Try.func46 rfl rfl rfl (by kernel_rfl) ?_
  refine v_seq ?_
  refine v_region ?_
  refine vl_val (os_assign rfl) ?_
  refine vl_val (os_assign rfl) ?_
  refine vl_nil ?_
  refine v_seq ?_
  refine v_region ?_
  refine vl_val (os_assign rfl) ?_
  refine vl_nil ?_
  refine v_seq ?_
  refine v_region ?_
  refine vl_val (os_move rfl) ?_
  refine vl_val (os_move rfl) ?_
  refine vl_callv rfl (guess_Parts h) rfl ?_
  rintro v1 w1 ⟨o1, b1⟩
  obtain ⟨g6, c6, rfl, hg6, hg6', -, -⟩ := OwnK.row o1 (by omega)
  refine vl_val (os_assign rfl) ?_
  refine vl_nil ?_
  refine v_seq ?_
  refine v_seq ?_
  refine v_region ?_
  refine vl_val (os_move rfl) ?_
  refine vl_val (os_eqlsnil Try.underlying40 rfl rfl) ?_
  refine vl_nil ?_
  refine v_cond_f rfl ?_
  refine v_skip ?_
  refine v_seq ?_
  refine v_region ?_
  refine vl_val (os_move rfl) ?_
  refine vl_call (hope_Weights (some ⟨g6, 0, none⟩) ps.length c6 ps w1 (OwnK.rd o1) rfl (by omega) (rowB_all h.row)) rfl ?_
  rintro v2 w2 ⟨u, rfl, o2, b2⟩
  refine vl_val (os_extract rfl rfl) ?_
  refine vl_val (os_extract rfl rfl) ?_
  refine vl_val (os_assign rfl) ?_
  refine vl_val (os_assign rfl) ?_
  refine vl_nil ?_
  refine v_ret ?_
  exact post_ret2 rfl rfl rfl (⟨u, rfl, Own.mono o2 b1.size, b1.trans (b2.mono b1.size)⟩)
set_option maxHeartbeats 4000000 in
theorem law25_HopeHears (n : Int) (A : Option Addr) (l c : Nat) (ds : List NoteV) (w : World) (hn : I64 n) (ha : RdN w A ds) (hl : l = ds.length) (hl' : l ≤ 9000000000000) : Gives Try.prog 11 #[.int .i64 n, .slice A l c] w fun v w' => v = .bool true ∧ Below w.heap.size w w' := by
  refine gives_enter Try.call11 Try.func11 rfl rfl rfl (by kernel_rfl) ?_
  refine v_seq ?_
  refine v_region ?_
  refine vl_val (os_assign rfl) ?_
  refine vl_nil ?_
  refine v_seq ?_
  refine v_region ?_
  refine vl_val (os_move rfl) ?_
  refine vl_val (os_len Try.underlying22 rfl) ?_
  refine vl_val (os_assign rfl) ?_
  refine vl_nil ?_
  refine v_seq ?_
  refine v_seq ?_
  refine v_region ?_
  refine vl_val (os_assign rfl) ?_
  refine vl_nil ?_
  refine v_block ?_
  refine v_loop2 [(0, _), (1, _)] (fun (z : Int) (i : Nat) => [(5, .int .i64 z), (6, .int .i64 i)]) (fun z i w' => i ≤ l ∧ (l : Int) ≤ z ∧ z ≤ 10000000000000 ∧ w' = w) (fun z i => l - i) (l) (0) ⟨rfl, rfl, trivial⟩ ⟨rfl, rfl, trivial⟩ (⟨by omega, by omega, by omega, rfl⟩) ?_
  rintro z i w ⟨hi, hz1, hz2, rfl⟩
  by_cases h : i < l
  · obtain ⟨b, o, rfl, q1, q2, q3⟩ := ha.at_ (i := i) (by omega)
    have hd := q3.2.2.1
    refine v_seq ?_
    refine v_seq ?_
    refine v_region ?_
    refine vl_val (os_move rfl) ?_
    refine vl_val (os_move rfl) ?_
    refine vl_val (os_len Try.underlying22 rfl) ?_
    refine vl_val (os_t (os_lss rfl rfl) (by omega)) ?_
    refine vl_val (os_move rfl) ?_
    refine vl_valg rfl (os_move rfl) ?_
    refine vl_valg rfl (os_leq rfl rfl) ?_
    refine vl_val (os_pick_t rfl rfl) ?_
    refine vl_nil ?_
    refine v_cond_d rfl (fun h2 => ?_) (fun h2 => ?_)
    · refine v_skip ?_
      refine v_seq ?_
      refine v_block ?_
      refine v_region ?_
      refine vl_val (os_move rfl) ?_
      refine vl_val (os_move rfl) ?_
      refine vl_val (os_move rfl) ?_
      refine vl_val (os_ixs Try.underlying22 Try.sizeOf35 rfl rfl (i := i) (by omega) (by omega)) ?_
      refine vl_val (os_fa (o := 3) (k := 0) (by kernel_rfl) rfl) ?_
      refine vl_val (os_load Try.isAgg33 rfl (q2)) ?_
      refine vl_val (os_len Try.underlying33 rfl) ?_
      refine vl_val (os_addi rfl rfl (by omega)) ?_
      refine vl_val (os_assign rfl) ?_
      refine vl_nil ?_
      refine v_region ?_
      refine vl_val (os_move rfl) ?_
      refine vl_val (os_addi rfl rfl (by omega)) ?_
      refine vl_val (os_assign rfl) ?_
      refine vl_nil ?_
      exact ⟨⟨z + (ds.getD i noN).l, i + 1⟩, ⟨rfl, rfl, trivial⟩, ⟨rfl, rfl, trivial⟩, ⟨by omega, by omega, by omega, rfl⟩, by dsimp only; omega⟩
    · refine v_exit ?_
      refine v_seq ?_
      refine v_seq ?_
      refine v_region ?_
      refine vl_val (os_move rfl) ?_
      refine vl_val (os_gtr rfl rfl) ?_
      refine vl_nil ?_
      refine v_cond_yes rfl (by omega) ?_
      refine v_seq ?_
      refine v_region ?_
      refine vl_call (law25_awake w) rfl ?_
      rintro v2 w2 ⟨rfl, b2⟩
      refine vl_val (os_assign rfl) ?_
      refine vl_nil ?_
      refine v_ret ?_
      exact post_ret rfl rfl (⟨rfl, b2⟩)
  · refine v_seq ?_
    refine v_seq ?_
    refine v_region ?_
    refine vl_val (os_move rfl) ?_
    refine vl_val (os_move rfl) ?_
    refine vl_val (os_len Try.underlying22 rfl) ?_
    refine vl_val (os_f (os_lss rfl rfl) (by omega)) ?_
    refine vl_val (os_move rfl) ?_
    refine vl_skip rfl rfl ?_
    refine vl_skip rfl rfl ?_
    refine vl_val (os_pick_f rfl rfl) ?_
    refine vl_nil ?_
    refine v_cond_f rfl ?_
    refine v_exit ?_
    refine v_seq ?_
    refine v_seq ?_
    refine v_region ?_
    refine vl_val (os_move rfl) ?_
    refine vl_val (os_gtr rfl rfl) ?_
    refine vl_nil ?_
    refine v_cond_d rfl (fun h3 => ?_) (fun h3 => ?_)
    · refine v_seq ?_
      refine v_region ?_
      refine vl_call (law25_awake w) rfl ?_
      rintro v2 w2 ⟨rfl, b2⟩
      refine vl_val (os_assign rfl) ?_
      refine vl_nil ?_
      refine v_ret ?_
      exact post_ret rfl rfl (⟨rfl, b2⟩)
    · cases hno : newOk 7 n
      · refine v_skip ?_
        refine v_seq ?_
        refine v_region ?_
        refine vl_val (os_move rfl) ?_
        refine vl_call (guess_NewN 7 n w I64_7 hn hno) rfl ?_
        rintro v3 w3 ⟨rfl, b3⟩
        refine vl_val (os_move rfl) ?_
        refine vl_val (os_extract rfl rfl) ?_
        refine vl_val (os_extract rfl rfl) ?_
        refine vl_val (os_assign rfl) ?_
        refine vl_val (os_assign rfl) ?_
        refine vl_nil ?_
        refine v_seq ?_
        refine v_region ?_
        refine vl_val (os_move rfl) ?_
        refine vl_call (ref24_NewN 7 n w3 hno) rfl ?_
        rintro v4 w4 ⟨rfl, b4⟩
        have b4w := b3.trans (b4.mono b3.size)
        refine vl_val (os_move rfl) ?_
        refine vl_val (os_extract rfl rfl) ?_
        refine vl_val (os_extract rfl rfl) ?_
        refine vl_val (os_assign rfl) ?_
        refine vl_val (os_assign rfl) ?_
        refine vl_nil ?_
        refine v_seq ?_
        refine v_seq ?_
        refine v_region ?_
        refine vl_val (os_move rfl) ?_
        refine vl_val (os_move rfl) ?_
        refine vl_val (os_neq rfl rfl) ?_
        refine vl_nil ?_
        refine v_cond_no rfl (by decide) ?_
        refine v_skip ?_
        refine v_seq ?_
        refine v_region ?_
        refine vl_val (os_move rfl) ?_
        refine vl_call (hope_Of0 none w4 (guess_made_nil w4)) rfl ?_
        rintro v5 w4 ⟨rfl, rfl⟩
        refine vl_val (os_move rfl) ?_
        refine vl_val (os_extract rfl rfl) ?_
        refine vl_val (os_extract rfl rfl) ?_
        refine vl_val (os_assign rfl) ?_
        refine vl_val (os_assign rfl) ?_
        refine vl_nil ?_
        refine v_seq ?_
        refine v_seq ?_
        refine v_region ?_
        refine vl_val (os_move rfl) ?_
        refine vl_val (os_neq rfl rfl) ?_
        refine vl_nil ?_
        refine v_cond_yes rfl (by decide) ?_
        refine v_seq ?_
        refine v_region ?_
        refine vl_val (os_move rfl) ?_
        refine vl_val (os_len Try.underlying40 rfl) ?_
        refine vl_val (os_t (os_eql rfl rfl) (by decide)) ?_
        refine vl_val (os_move rfl) ?_
        refine vl_valg rfl (os_move rfl) ?_
        refine vl_valg rfl (os_t (os_eql rfl rfl) (by decide)) ?_
        refine vl_val (os_pick_t rfl rfl) ?_
        refine vl_val (os_move rfl) ?_
        refine vl_callg rfl (law25_awake w4) rfl ?_
        rintro v6 w6 ⟨rfl, b6⟩
        refine vl_val (os_pick_t rfl rfl) ?_
        refine vl_val (os_assign rfl) ?_
        refine vl_nil ?_
        refine v_ret ?_
        exact post_ret rfl rfl (⟨rfl, b4w.trans (b6.mono b4w.size)⟩)
      · refine v_skip ?_
        refine v_seq ?_
        refine v_region ?_
        refine vl_val (os_move rfl) ?_
        refine vl_call (guess_NewY 7 n w I64_7 hn hno) rfl ?_
        rintro v3 w3 ⟨rfl, hG, b3⟩
        refine vl_val (os_move rfl) ?_
        refine vl_val (os_extract rfl rfl) ?_
        refine vl_val (os_extract rfl rfl) ?_
        refine vl_val (os_assign rfl) ?_
        refine vl_val (os_assign rfl) ?_
        refine vl_nil ?_
        refine v_seq ?_
        refine v_region ?_
        refine vl_val (os_move rfl) ?_
        refine vl_call (ref24_NewY 7 n w3 hno) rfl ?_
        rintro v4 w4 ⟨r, V, rfl, hR, b4⟩
        have b4w := b3.trans (b4.mono b3.size)
        refine vl_val (os_move rfl) ?_
        refine vl_val (os_extract rfl rfl) ?_
        refine vl_val (os_extract rfl rfl) ?_
        refine vl_val (os_assign rfl) ?_
        refine vl_val (os_assign rfl) ?_
        refine vl_nil ?_
        refine v_seq ?_
        refine v_seq ?_
        refine v_region ?_
        refine vl_val (os_move rfl) ?_
        refine vl_val (os_move rfl) ?_
        refine vl_val (os_neq rfl rfl) ?_
        refine vl_nil ?_
        refine v_cond_no rfl (by decide) ?_
        have hG4 := hG.keep b4
        have hg3 : w.heap.size < w3.heap.size := hG.bk.lt
        have hwp : ∀ {ps : List Int}, rowB ps = true → 2 ≤ ps.length → wtOk ps = true := fun h1 h2 => by simp [wtOk, h1, h2]
        have hnn := hG.n
        refine v_skip ?_
        refine v_seq ?_
        refine v_region ?_
        refine vl_val (os_move rfl) ?_
        refine vl_call (hope_OfG hG4) rfl ?_
        rintro v5 w5 ⟨u5, rfl, o5, b5⟩
        have e5 := hwp hG4.row (by have := hG4.len; omega)
        have hG5 := hG4.keep b5
        have hR5 := hR.keep b5
        have b5w := b4w.trans (b5.mono b4w.size)
        refine vl_val (os_move rfl) ?_
        refine vl_val (os_extract rfl rfl) ?_
        refine vl_val (os_extract rfl rfl) ?_
        refine vl_val (os_assign rfl) ?_
        refine vl_val (os_assign rfl) ?_
        refine vl_nil ?_
        refine v_seq ?_
        refine v_seq ?_
        refine v_region ?_
        refine vl_val (os_move rfl) ?_
        refine vl_val (os_neq rfl rfl) ?_
        refine vl_nil ?_
        refine v_cond_no rfl (by decide) ?_
        obtain ⟨g, hg⟩ : ∃ g, g = w.heap.size := ⟨_, rfl⟩
        obtain ⟨lo, hlo⟩ : ∃ lo, lo = w3.heap.size := ⟨_, rfl⟩
        rw [← hlo] at hR5 hg3
        rw [← hg] at hG5 hg3
        rw [← hg, e5]
        refine v_skip ?_
        refine v_seq ?_
        refine v_seq ?_
        refine v_region ?_
        refine vl_val (os_assign rfl) ?_
        refine vl_nil ?_
        refine v_block ?_
        refine v_loop [] (fun (i : Nat) => [(1, .slice A l c), (7, .pointer (some ⟨g, 0, none⟩)), (9, .pointer (some ⟨r, 0, none⟩)), (12, .int .i64 0), (13, .int .i64 i)]) (fun i w' => i ≤ l ∧ Below w.heap.size w w' ∧ ∃ V ps sq, GS w' g ps 7 n sq ∧ RG w' lo r V ps 7 n sq) (fun i => l - i) (0) trivial ⟨rfl, rfl, rfl, rfl, rfl, trivial⟩ (⟨by omega, b5w, _, _, _, hG5, hR5⟩) ?_
        rintro i w6 ⟨hi6, b6, V6, ps, sq, hG6, hR6⟩
        refine v_seq ?_
        refine v_seq ?_
        refine v_region ?_
        refine vl_val (os_move rfl) ?_
        refine vl_val (os_move rfl) ?_
        refine vl_val (os_len Try.underlying22 rfl) ?_
        refine vl_val (os_lss rfl rfl) ?_
        refine vl_nil ?_
        refine v_cond_d rfl (fun h6 => ?_) (fun h6 => ?_)
        · have hA6 := ha.keep b6
          obtain ⟨b, o, eA, q1, q2, q3⟩ := hA6.at_ (i := i) (by omega)
          rw [eA]
          have b0 : Below w6.heap.size w6 { w6 with drawn := w6.drawn + 1 } := (Below.refl _ _).drew
          have b0w := b6.trans (b0.mono b6.size)
          have hq0 := q1.keep b0
          have hv6 := hR6.vlt
          have hr6 := hR6.lt
          have hgr : g < r := by have := hR6.lo; omega
          refine v_skip ?_
          refine v_seq ?_
          refine v_block ?_
          refine v_mid [(1, _), (7, _), (9, _), (12, _), (13, _)] (fun (x : Bool) => [(89, .bool x)]) (fun x w' => x = false ∧ Below w.heap.size w w' ∧ ∃ V2 ps2 sq2, GS w' g ps2 7 n sq2 ∧ RG w' lo r V2 ps2 7 n sq2) ⟨rfl, rfl, rfl, rfl, rfl, trivial⟩ ?_ ?_
          · refine v_region_a mixed ?_
            refine va_pure 0 rfl (by kernel_rfl) (by kernel_rfl) (by kernel_rfl) (fun w => (os_move rfl)) ?_
            refine va_pure 1 rfl (by kernel_rfl) (by kernel_rfl) (by kernel_rfl) (fun w => (os_move rfl)) ?_
            refine va_pure 2 rfl (by kernel_rfl) (by kernel_rfl) (by kernel_rfl) (fun w => (os_move rfl)) ?_
            refine va_pure 3 rfl (by kernel_rfl) (by kernel_rfl) (by kernel_rfl) (fun w => (os_ixs Try.underlying22 Try.sizeOf35 rfl rfl (i := i) (by omega) (by omega))) ?_
            refine va_pure 6 rfl (by kernel_rfl) (by kernel_rfl) (by kernel_rfl) (fun w => (os_move rfl)) ?_
            refine va_pure 7 rfl (by kernel_rfl) (by kernel_rfl) (by kernel_rfl) (fun w => (os_move rfl)) ?_
            refine va_pure 8 rfl (by kernel_rfl) (by kernel_rfl) (by kernel_rfl) (fun w => (os_move rfl)) ?_
            refine va_pure 9 rfl (by kernel_rfl) (by kernel_rfl) (by kernel_rfl) (fun w => (os_ixs Try.underlying22 Try.sizeOf35 rfl rfl (i := i) (by omega) (by omega))) ?_
            refine va_two 4 10 (by kernel_rfl) ?_ ?_
            · refine vn_val rfl (os_loadP Try.underlying35 rfl (by kernel_rfl) rfl hq0) ?_
              refine va_two 5 10 (by kernel_rfl) ?_ ?_
              · refine vn_call rfl (guess_Hear g ps 7 n sq (ds.getD i noN) _ (hG6.keep b0) (q3.keep b0) w.heap.size (by omega) b0w.size) rfl ?_
                rintro v9 w9 ⟨rfl, b9, kb9, hne9, heq9⟩
                have s9 : w6.heap.size ≤ w9.heap.size := kb9.size
                have b9w := b0w.trans b9
                obtain ⟨b', o', eA9, hq9, -, hd9⟩ := (ha.keep b9w).at_ (i := i) (by omega)
                rw [eA] at eA9
                cases eA9
                have hgg : g ∉ [r] := by simp; omega
                have hrg : r ∉ [g] := by simp; omega
                have hR9 := (hR6.keep b0).kb kb9 hrg (fun k hk => by have := (hv6 k hk).1; simp; omega)
                refine va_one 10 (by kernel_rfl) ?_
                refine vn_val rfl (os_loadP Try.underlying35 rfl (by kernel_rfl) rfl (by first | exact hq9 | exact hq0)) ?_
                refine va_one 11 (by kernel_rfl) ?_
                refine vn_call rfl (ref24_Hear lo r V6 ps 7 n sq (ds.getD i noN) w9 hR9 hd9) rfl ?_
                rintro v10 w10 ⟨rfl, b10, kb10, hne10, heq10⟩
                have b10w := b9w.trans (b10.mono (by omega))
                have hcomb : ∃ V2 ps2 sq2, GS w10 g ps2 7 n sq2 ∧ RG w10 lo r V2 ps2 7 n sq2 := by
                  by_cases hw : whyN 7 n sq (ds.getD i noN) = 0
                  · obtain ⟨V2, hRR, hV⟩ := heq10 hw
                    exact ⟨V2, hearP ps n (ds.getD i noN), (ds.getD i noN).sq, (heq9 hw).kb kb10 hgg, hRR⟩
                  · exact ⟨V6, ps, sq, (hne9 hw).kb kb10 hgg, hne10 hw⟩
                refine va_pure 12 rfl (by kernel_rfl) (by kernel_rfl) (by kernel_rfl) (fun w => (os_f (os_neq rfl rfl) (fun h => h rfl))) ?_
                refine va_done (by kernel_rfl) ?_
                exact ⟨false, ⟨rfl, rfl, rfl, rfl, rfl, trivial⟩, ⟨rfl, trivial⟩, ⟨rfl, b10w, hcomb⟩⟩
              · refine vn_val rfl (os_loadP Try.underlying35 rfl (by kernel_rfl) rfl (by first | exact hq9 | exact hq0)) ?_
                refine va_one 5 (by kernel_rfl) ?_
                refine vn_call rfl (guess_Hear g ps 7 n sq (ds.getD i noN) _ (hG6.keep b0) (q3.keep b0) w.heap.size (by omega) b0w.size) rfl ?_
                rintro v9 w9 ⟨rfl, b9, kb9, hne9, heq9⟩
                have s9 : w6.heap.size ≤ w9.heap.size := kb9.size
                have b9w := b0w.trans b9
                obtain ⟨b', o', eA9, hq9, -, hd9⟩ := (ha.keep b9w).at_ (i := i) (by omega)
                rw [eA] at eA9
                cases eA9
                have hgg : g ∉ [r] := by simp; omega
                have hrg : r ∉ [g] := by simp; omega
                have hR9 := (hR6.keep b0).kb kb9 hrg (fun k hk => by have := (hv6 k hk).1; simp; omega)
                refine va_one 11 (by kernel_rfl) ?_
                refine vn_call rfl (ref24_Hear lo r V6 ps 7 n sq (ds.getD i noN) w9 hR9 hd9) rfl ?_
                rintro v10 w10 ⟨rfl, b10, kb10, hne10, heq10⟩
                have b10w := b9w.trans (b10.mono (by omega))
                have hcomb : ∃ V2 ps2 sq2, GS w10 g ps2 7 n sq2 ∧ RG w10 lo r V2 ps2 7 n sq2 := by
                  by_cases hw : whyN 7 n sq (ds.getD i noN) = 0
                  · obtain ⟨V2, hRR, hV⟩ := heq10 hw
                    exact ⟨V2, hearP ps n (ds.getD i noN), (ds.getD i noN).sq, (heq9 hw).kb kb10 hgg, hRR⟩
                  · exact ⟨V6, ps, sq, (hne9 hw).kb kb10 hgg, hne10 hw⟩
                refine va_pure 12 rfl (by kernel_rfl) (by kernel_rfl) (by kernel_rfl) (fun w => (os_f (os_neq rfl rfl) (fun h => h rfl))) ?_
                refine va_done (by kernel_rfl) ?_
                exact ⟨false, ⟨rfl, rfl, rfl, rfl, rfl, trivial⟩, ⟨rfl, trivial⟩, ⟨rfl, b10w, hcomb⟩⟩
            · refine vn_val rfl (os_loadP Try.underlying35 rfl (by kernel_rfl) rfl (by first | exact hq9 | exact hq0)) ?_
              refine va_one 4 (by kernel_rfl) ?_
              refine vn_val rfl (os_loadP Try.underlying35 rfl (by kernel_rfl) rfl hq0) ?_
              refine va_one 5 (by kernel_rfl) ?_
              refine vn_call rfl (guess_Hear g ps 7 n sq (ds.getD i noN) _ (hG6.keep b0) (q3.keep b0) w.heap.size (by omega) b0w.size) rfl ?_
              rintro v9 w9 ⟨rfl, b9, kb9, hne9, heq9⟩
              have s9 : w6.heap.size ≤ w9.heap.size := kb9.size
              have b9w := b0w.trans b9
              obtain ⟨b', o', eA9, hq9, -, hd9⟩ := (ha.keep b9w).at_ (i := i) (by omega)
              rw [eA] at eA9
              cases eA9
              have hgg : g ∉ [r] := by simp; omega
              have hrg : r ∉ [g] := by simp; omega
              have hR9 := (hR6.keep b0).kb kb9 hrg (fun k hk => by have := (hv6 k hk).1; simp; omega)
              refine va_one 11 (by kernel_rfl) ?_
              refine vn_call rfl (ref24_Hear lo r V6 ps 7 n sq (ds.getD i noN) w9 hR9 hd9) rfl ?_
              rintro v10 w10 ⟨rfl, b10, kb10, hne10, heq10⟩
              have b10w := b9w.trans (b10.mono (by omega))
              have hcomb : ∃ V2 ps2 sq2, GS w10 g ps2 7 n sq2 ∧ RG w10 lo r V2 ps2 7 n sq2 := by
                by_cases hw : whyN 7 n sq (ds.getD i noN) = 0
                · obtain ⟨V2, hRR, hV⟩ := heq10 hw
                  exact ⟨V2, hearP ps n (ds.getD i noN), (ds.getD i noN).sq, (heq9 hw).kb kb10 hgg, hRR⟩
                · exact ⟨V6, ps, sq, (hne9 hw).kb kb10 hgg, hne10 hw⟩
              refine va_pure 12 rfl (by kernel_rfl) (by kernel_rfl) (by kernel_rfl) (fun w => (os_f (os_neq rfl rfl) (fun h => h rfl))) ?_
              refine va_done (by kernel_rfl) ?_
              exact ⟨false, ⟨rfl, rfl, rfl, rfl, rfl, trivial⟩, ⟨rfl, trivial⟩, ⟨rfl, b10w, hcomb⟩⟩
          · rintro x w11 ⟨rfl, b11w, V2, ps2, sq2, hG11, hR11⟩
            refine v_cond_f rfl ?_
            refine v_skip ?_
            refine v_region ?_
            refine vl_val (os_move rfl) ?_
            refine vl_val (os_addi rfl rfl (by omega)) ?_
            refine vl_val (os_assign rfl) ?_
            refine vl_nil ?_
            exact ⟨i + 1, trivial, ⟨rfl, rfl, rfl, rfl, rfl, trivial⟩, ⟨by omega, b11w, V2, ps2, sq2, hG11, hR11⟩, by dsimp only; omega⟩
        · refine v_exit ?_
          refine v_seq ?_
          refine v_region ?_
          refine vl_val (os_move rfl) ?_
          refine vl_call (hope_OfG hG6) rfl ?_
          rintro v7 w7 ⟨u7, rfl, o7, b7⟩
          have hR7 := hR6.keep b7
          have b7w := b6.trans (b7.mono b6.size)
          have hle := hG6.le
          have e6 := hwp hG6.row (by have := hG6.len; omega)
          rw [e6]
          have hr7 := hR7.own
          obtain ⟨A7, c7, rfl, -, -, r7, -⟩ := OwnK.form hr7
          refine vl_val (os_move rfl) ?_
          refine vl_val (os_extract rfl rfl) ?_
          refine vl_val (os_extract rfl rfl) ?_
          refine vl_val (os_assign rfl) ?_
          refine vl_val (os_assign rfl) ?_
          refine vl_nil ?_
          refine v_seq ?_
          refine v_region ?_
          refine vl_val (os_move rfl) ?_
          refine vl_val (os_nilCheck rfl) ?_
          refine vl_val (os_fa (o := 2) (k := 0) (by kernel_rfl) rfl) ?_
          refine vl_val (os_load Try.isAgg40 rfl (hR7.bk.cell (i := 2) rfl)) ?_
          refine vl_call (r25_Weights A7 ps.length c7 ps w7 r7 rfl (by omega)) rfl ?_
          rintro v8 w8 ⟨u8, rfl, o8, b8⟩
          rw [e6]
          have o78 : OwnK w8 w6.heap.size 3 .i64 u7 (wtV ps) := Own.keepAll o7 b8
          have b8w := b7w.trans (b8.mono b7w.size)
          obtain ⟨A8, c8, rfl, -, -, r8, -⟩ := OwnK.form o8
          obtain ⟨A9, c9, rfl, -, -, r9, -⟩ := OwnK.form o78
          have hwl : (wtV ps).length ≤ 256 := by rw [wtV_ok e6, tailsL_len]; exact hle
          refine vl_val (os_move rfl) ?_
          refine vl_val (os_extract rfl rfl) ?_
          refine vl_val (os_extract rfl rfl) ?_
          refine vl_val (os_assign rfl) ?_
          refine vl_val (os_assign rfl) ?_
          refine vl_nil ?_
          refine v_seq ?_
          refine v_region ?_
          refine vl_val (os_move rfl) ?_
          refine vl_val (os_t (os_eql rfl rfl) (by decide)) ?_
          refine vl_val (os_move rfl) ?_
          refine vl_valg rfl (os_move rfl) ?_
          refine vl_valg rfl (os_move rfl) ?_
          refine vl_valg rfl (os_t (os_eql rfl rfl) (by decide)) ?_
          refine vl_val (os_pick_t rfl rfl) ?_
          refine vl_val (os_move rfl) ?_
          refine vl_valg rfl (os_move rfl) ?_
          refine vl_valg rfl (os_move rfl) ?_
          refine vl_callg rfl (gives_boolb (kit_SameInts A9 A8 _ _ c9 c8 (wtV ps) (wtV ps) w8 r9 r8 rfl rfl (by omega) (by omega)) (decide_eq_true rfl)) rfl ?_
          rintro v12 w12 ⟨rfl, d12⟩
          have b12 := b8w.trans ((led_below d12).mono b8w.size)
          refine vl_val (os_pick_t rfl rfl) ?_
          refine vl_val (os_move rfl) ?_
          refine vl_callg rfl (law25_awake w12) rfl ?_
          rintro v13 w13 ⟨rfl, b13⟩
          refine vl_val (os_pick_t rfl rfl) ?_
          refine vl_val (os_assign rfl) ?_
          refine vl_nil ?_
          refine v_ret ?_
          exact post_ret rfl rfl (⟨rfl, by rw [hg]; exact b12.trans (b13.mono b12.size)⟩)
end Go.Proofs.Ytpjmiafefammkaa

/- How a list of structs of two numbers, an argument, opens. -/
namespace Go.Proofs.Ytpjmiafefammkaa
open Go.ChangeShapes Go.WideShapes Go.ChangeAt Go.RowKit
set_option linter.unusedVariables false
section
variable {H : Type} {enc : TypeId × Value → H} {w : World} {base : Nat} {spare : Nat → Bool} {held : Bool} {fuel : Nat} {cs : List Value} {x : DataW H × List MemPlace}
theorem open_pairRow (h : DataW.trod enc Try.prog w base spare held fuel 78 cs = some x) : ∃ p : Int × Int, rowC p = cs ∧ I64 p.1 ∧ I64 p.2 := by
  obtain ⟨y0, y1, n, rfl, hl, h0, h1⟩ := trod_struct2 Try.underlying78 h
  have hcl : Try.prog.cellsOf 78 = 2 := by kernel_rfl
  have c1 : Try.prog.cellsOf 3 = 1 := by kernel_rfl
  rw [hcl] at hl
  dsimp only at h0 h1
  rw [c1] at h0 h1
  obtain ⟨z0, e0, _, w0⟩ := DataW.trod_int Try.underlying3 h0
  obtain ⟨z1, e1, _, w1⟩ := DataW.trod_int Try.underlying3 h1
  match cs, hl with
  | [v0, v1], _ =>
    simp at e0 e1
    subst e0 e1
    exact ⟨(z0, z1), rfl, i64_of_wf w0, i64_of_wf w1⟩
theorem open_listRow (h : DataW.trod enc Try.prog w base spare held fuel 79 cs = some x) (hw : ∀ m ∈ x.1.weights Try.prog 79, m ≤ reachBytes) :
    ∃ (A : Option Addr) (len cap : Nat) (ps : List (Int × Int)), cs = [.slice A len cap] ∧ RdP w 2 A (ps.map rowC) ∧ len = ps.length ∧ len ≤ cap ∧ len * 16 ≤ 140737488351232 ∧ ∀ p ∈ ps, I64 p.1 ∧ I64 p.2 := by
  obtain ⟨A, len, cap, ps, rfl, h1, h2, h3, h4, h5⟩ := open_parts Try.underlying79 (by kernel_rfl) (by decide : 0 < 2) h hw
  have hb : Try.prog.bytesOf 78 = 16 := by kernel_rfl
  obtain ⟨ds, rfl, hd⟩ := parts_map rowC (fun d => I64 d.1 ∧ I64 d.2) ps (fun c hc => by
    obtain ⟨_, n, y, hy, hyw⟩ := h5 c hc
    exact open_pairRow hy)
  exact ⟨A, len, cap, ds, rfl, h4, by rw [← h1, List.length_map], h2, by rw [hb] at h3; simp only [reachBytes] at h3; exact h3, hd⟩
theorem open_pairCount (h : DataW.trod enc Try.prog w base spare held fuel 49 cs = some x) : ∃ p : Int × Int, rowC p = cs ∧ I64 p.1 ∧ I64 p.2 := by
  obtain ⟨y0, y1, n, rfl, hl, h0, h1⟩ := trod_struct2 Try.underlying49 h
  have hcl : Try.prog.cellsOf 49 = 2 := by kernel_rfl
  have c1 : Try.prog.cellsOf 3 = 1 := by kernel_rfl
  rw [hcl] at hl
  dsimp only at h0 h1
  rw [c1] at h0 h1
  obtain ⟨z0, e0, _, w0⟩ := DataW.trod_int Try.underlying3 h0
  obtain ⟨z1, e1, _, w1⟩ := DataW.trod_int Try.underlying3 h1
  match cs, hl with
  | [v0, v1], _ =>
    simp at e0 e1
    subst e0 e1
    exact ⟨(z0, z1), rfl, i64_of_wf w0, i64_of_wf w1⟩
theorem open_listCount (h : DataW.trod enc Try.prog w base spare held fuel 33 cs = some x) (hw : ∀ m ∈ x.1.weights Try.prog 33, m ≤ reachBytes) :
    ∃ (A : Option Addr) (len cap : Nat) (ps : List (Int × Int)), cs = [.slice A len cap] ∧ RdP w 2 A (ps.map rowC) ∧ len = ps.length ∧ len ≤ cap ∧ len * 16 ≤ 140737488351232 ∧ ∀ p ∈ ps, I64 p.1 ∧ I64 p.2 := by
  obtain ⟨A, len, cap, ps, rfl, h1, h2, h3, h4, h5⟩ := open_parts Try.underlying33 (by kernel_rfl) (by decide : 0 < 2) h hw
  have hb : Try.prog.bytesOf 49 = 16 := by kernel_rfl
  obtain ⟨ds, rfl, hd⟩ := parts_map rowC (fun d => I64 d.1 ∧ I64 d.2) ps (fun c hc => by
    obtain ⟨_, n, y, hy, hyw⟩ := h5 c hc
    exact open_pairCount hy)
  exact ⟨A, len, cap, ds, rfl, h4, by rw [← h1, List.length_map], h2, by rw [hb] at h3; simp only [reachBytes] at h3; exact h3, hd⟩
end
end Go.Proofs.Ytpjmiafefammkaa

/- How a report, and a list of reports, arguments, open. -/
namespace Go.Proofs.Ytpjmiafefammkaa
open Go.ChangeShapes Go.WideShapes Go.ChangeAt Go.RowKit
set_option linter.unusedVariables false
section
variable {H : Type} {enc : TypeId × Value → H} {w : World} {base : Nat} {spare : Nat → Bool} {held : Bool} {fuel : Nat} {cs : List Value} {x : DataW H × List MemPlace}
theorem open_note (h : DataW.trod enc Try.prog w base spare held fuel 35 cs = some x) (hw : ∀ m ∈ x.1.weights Try.prog 35, m ≤ reachBytes) : ∃ d : NoteV, d.cells = cs ∧ NoteOk w d := by
  obtain ⟨y0, y1, y2, y3, n, rfl, hl, h0, h1, h2, h3⟩ := Go.Joins.trod_struct4 Try.underlying35 h
  have hcl : Try.prog.cellsOf 35 = 4 := by kernel_rfl
  have c1 : Try.prog.cellsOf 3 = 1 := by kernel_rfl
  have c2 : Try.prog.cellsOf 33 = 1 := by kernel_rfl
  rw [hcl] at hl
  dsimp only at h0 h1 h2 h3
  rw [c1] at h0 h1 h2
  rw [c2] at h3
  obtain ⟨z0, e0, _, w0⟩ := DataW.trod_int Try.underlying3 h0
  obtain ⟨z1, e1, _, w1⟩ := DataW.trod_int Try.underlying3 h1
  obtain ⟨z2, e2, _, w2⟩ := DataW.trod_int Try.underlying3 h2
  have hw3 : ∀ m ∈ y3.1.weights Try.prog 33, m ≤ reachBytes := fun m hm => hw m (by
    simp only [DataW.weights, Try.underlying35, DataW.weightsEach, List.map_cons, List.map_nil, List.mem_append]
    exact .inr (.inr (.inr (.inl hm))))
  obtain ⟨A, l, c, ps, e3, hr, hl2, hlc, hmx, hI⟩ := open_listCount h3 hw3
  match cs, hl with
  | [v0, v1, v2, v3], _ =>
    simp at e0 e1 e2 e3
    subst e0 e1 e2 e3
    exact ⟨⟨z0, z1, z2, A, l, c, ps⟩, rfl, hr, hl2, by simp only []; omega, ⟨i64_of_wf w0, i64_of_wf w1, i64_of_wf w2⟩, hI⟩
theorem open_notes (h : DataW.trod enc Try.prog w base spare held fuel 22 cs = some x) (hw : ∀ m ∈ x.1.weights Try.prog 22, m ≤ reachBytes) :
    ∃ (A : Option Addr) (len cap : Nat) (ds : List NoteV), cs = [.slice A len cap] ∧ RdN w A ds ∧ len = ds.length ∧ len ≤ cap ∧ len * 48 ≤ 140737488351232 := by
  obtain ⟨A, len, cap, ps, rfl, h1, h2, h3, h4, h5⟩ := open_parts Try.underlying22 (by kernel_rfl) (by decide : 0 < 4) h hw
  have hb : Try.prog.bytesOf 35 = 48 := by kernel_rfl
  obtain ⟨ds, rfl, hd⟩ := parts_map NoteV.cells (fun d => NoteOk w d) ps (fun c hc => by
    obtain ⟨_, n, y, hy, hyw⟩ := h5 c hc
    exact open_note hy hyw)
  exact ⟨A, len, cap, ds, rfl, ⟨h4, fun d hd' => hd d hd'⟩, by rw [← h1, List.length_map], h2, by rw [hb] at h3; simp only [reachBytes] at h3; exact h3⟩
end
end Go.Proofs.Ytpjmiafefammkaa
