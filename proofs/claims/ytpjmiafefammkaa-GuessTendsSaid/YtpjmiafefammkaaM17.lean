/- Texts joined: GsF. -/
import Derived.Test.YtpjmiafefammkaaM16
/- Layer 24: the walk of GuessFolds. -/
namespace Go.Proofs.Ytpjmiafefammkaa
open Go.RowKit
set_option linter.unusedVariables false

theorem newP_sum {n : Int} (h : 1 ≤ n ∧ n ≤ 255) : (newP n).sum = 65536 ∧ (newP n).getD 0 0 = 0 := by
  unfold newP
  refine ⟨by rw [List.sum_append, zero_sum]; simp, ?_⟩
  rw [List.getD_eq_getElem?_getD, List.getElem?_append_left (by simp; omega), List.getElem?_replicate]
  split <;> rfl
theorem hear_sum {ps : List Int} {n : Int} {d : NoteV} (hl : (ps.length : Int) = n + 1) (hr : RightD d) (hd : d.n = n) (h0 : 0 < d.cs.length) (hs : ps.sum ≤ 65536) (hz : ps.getD 0 0 = 0) : (hearP ps n d).sum ≤ 65536 ∧ (hearP ps n d).getD 0 0 = 0 := by
  have hn := hr.n
  have hxl : ps.length = (saysL n d.cs).length := by rw [saysL_len]; omega
  have h1 := foldL_sum ps (saysL n d.cs) hxl
  have h2 := saysL_sum hr h0
  have h3 := saysL_zero hr
  rw [hd] at h2 h3
  refine ⟨by unfold hearP; omega, ?_⟩
  have h4 := foldL_at ps (saysL n d.cs) (k := 0) (by omega)
  unfold hearP
  rw [List.getD_eq_getElem?_getD] at hz h3 ⊢
  rw [h4, hz, h3]
  rfl

theorem guess_NewN (st n : Int) (w : World) (hs : I64 st) (hn : I64 n) (h : newOk st n = false) : Gives Try.prog 16 #[.int .i64 st, .int .i64 n] w fun v w' => v = .tuple #[.pointer none, .int .i64 2] ∧ Below w.heap.size w w' :=
  (guess_New st n w hs hn).mono fun v w' ⟨b, hh⟩ => by
    rcases hh with ⟨_, e⟩ | ⟨h2, _⟩
    · exact ⟨e, b⟩
    · rw [h] at h2; cases h2
theorem guess_NewY (st n : Int) (w : World) (hs : I64 st) (hn : I64 n) (h : newOk st n = true) : Gives Try.prog 16 #[.int .i64 st, .int .i64 n] w fun v w' => v = .tuple #[.pointer (some ⟨w.heap.size, 0, none⟩), .int .i64 0] ∧ GS w' w.heap.size (newP n) st n 0 ∧ Below w.heap.size w w' :=
  (guess_New st n w hs hn).mono fun v w' ⟨b, hh⟩ => by
    rcases hh with ⟨h2, _⟩ | ⟨_, e, hG⟩
    · rw [h] at h2; cases h2
    · exact ⟨e, hG, b⟩
set_option maxHeartbeats 8000000 in
theorem law24_GuessFolds (n : Int) (A : Option Addr) (l c : Nat) (ds : List NoteV) (w : World) (hn : I64 n) (ha : RdN w A ds) (hl : l = ds.length) (hl' : l ≤ 9000000000000) : Gives Try.prog 5 #[.int .i64 n, .slice A l c] w fun v w' => v = .bool true ∧ Below w.heap.size w w' := by
  refine gives_enter Try.call5 Try.func5 rfl rfl rfl (by kernel_rfl) ?_
  refine v_seq ?_
  refine v_region ?_
  refine vl_val (os_assign rfl) ?_
  refine vl_nil ?_
  refine v_seq ?_
  refine v_seq ?_
  refine v_region ?_
  refine vl_call (law24_awake w) rfl ?_
  rintro v1 w1 ⟨rfl, b1⟩
  refine vl_val (os_not rfl) ?_
  refine vl_nil ?_
  refine v_cond_f rfl ?_
  refine v_skip ?_
  refine v_seq ?_
  refine v_seq ?_
  refine v_region ?_
  refine vl_val (os_move rfl) ?_
  refine vl_call (law24_size A l c ds w1 (ha.keep b1) hl hl') rfl ?_
  rintro v2 w1 ⟨⟨z, rfl, iz, -⟩, rfl⟩
  refine vl_val (os_gtr rfl rfl) ?_
  refine vl_nil ?_
  refine v_cond_d rfl (fun hz => ?_) (fun hz => ?_)
  · refine v_seq ?_
    refine v_region ?_
    refine vl_val (os_assign rfl) ?_
    refine vl_nil ?_
    refine v_ret ?_
    exact post_ret rfl rfl (⟨rfl, b1⟩)
  · cases hno : newOk 7 n
    · refine v_skip ?_
      refine v_seq ?_
      refine v_region ?_
      refine vl_val (os_move rfl) ?_
      refine vl_call (guess_NewN 7 n w1 I64_7 hn hno) rfl ?_
      rintro v3 w3 ⟨rfl, b3⟩
      refine vl_val (os_move rfl) ?_
      refine vl_val (os_extract rfl rfl) ?_
      refine vl_val (os_extract rfl rfl) ?_
      refine vl_val (os_assign rfl) ?_
      refine vl_val (os_assign rfl) ?_
      refine vl_nil ?_
      refine v_seq ?_
      refine v_seq ?_
      refine v_region ?_
      refine vl_val (os_move rfl) ?_
      refine vl_val (os_neq rfl rfl) ?_
      refine vl_nil ?_
      refine v_cond_yes rfl (by decide) ?_
      refine v_seq ?_
      refine v_region ?_
      refine vl_val (os_move rfl) ?_
      refine vl_val (os_t (os_eql rfl rfl) (by decide)) ?_
      refine vl_val (os_move rfl) ?_
      refine vl_valg rfl (os_move rfl) ?_
      refine vl_valg rfl (os_eqlnil (by kernel_rfl) rfl rfl) ?_
      refine vl_val (os_pick_t rfl rfl) ?_
      refine vl_val (os_assign rfl) ?_
      refine vl_nil ?_
      refine v_ret ?_
      exact post_ret rfl rfl (⟨rfl, b1.trans (b3.mono b1.size)⟩)
    · refine v_skip ?_
      refine v_seq ?_
      refine v_region ?_
      refine vl_val (os_move rfl) ?_
      refine vl_call (guess_NewY 7 n w1 I64_7 hn hno) rfl ?_
      rintro v3 w3 ⟨rfl, hG, b3⟩
      have b3w := b1.trans (b3.mono b1.size)
      refine vl_val (os_move rfl) ?_
      refine vl_val (os_extract rfl rfl) ?_
      refine vl_val (os_extract rfl rfl) ?_
      refine vl_val (os_assign rfl) ?_
      refine vl_val (os_assign rfl) ?_
      refine vl_nil ?_
      refine v_seq ?_
      refine v_seq ?_
      refine v_region ?_
      refine vl_val (os_move rfl) ?_
      refine vl_val (os_neq rfl rfl) ?_
      refine vl_nil ?_
      refine v_cond_no rfl (by decide) ?_
      have hnn := hG.n
      have hs0 := newP_sum hnn
      refine v_skip ?_
      refine v_seq ?_
      refine v_region ?_
      refine vl_val (os_move rfl) ?_
      refine vl_call (guess_Parts hG) rfl ?_
      rintro v4 w4 ⟨o4, b4⟩
      have hgw : w1.heap.size < w3.heap.size := hG.bk.lt
      have b4w := b3w.trans (b4.mono b3w.size)
      have hwg : w.heap.size ≤ w1.heap.size := b1.size
      have G4 := hG.keep b4
      obtain ⟨g, hg⟩ : ∃ g, g = w1.heap.size := ⟨_, rfl⟩
      rw [← hg] at G4 hgw hwg ⊢
      refine vl_val (os_assign rfl) ?_
      refine vl_nil ?_
      refine v_seq ?_
      refine v_region ?_
      refine vl_val (os_assign rfl) ?_
      refine vl_nil ?_
      refine v_seq ?_
      refine v_seq ?_
      refine v_region ?_
      refine vl_val (os_assign rfl) ?_
      refine vl_nil ?_
      refine v_block ?_
      refine v_loop3 [(0, _), (1, _), (5, _)] (fun (V : Value) (sq : Int) (i : Nat) => [(7, V), (8, .int .i64 sq), (9, .int .i64 i)]) (fun V sq i w' => i ≤ l ∧ I64 sq ∧ ∃ ps : List Int, GS w' g ps 7 n sq ∧ OwnK w' w3.heap.size 3 .i64 V ps ∧ ps.sum ≤ 65536 ∧ ps.getD 0 0 = 0 ∧ Below w.heap.size w w' ∧ w3.heap.size ≤ w'.heap.size) (fun V sq i => l - i) (v4) (0) (0) ⟨rfl, rfl, rfl, trivial⟩ ⟨rfl, rfl, rfl, trivial⟩ (⟨by omega, ⟨by decide, by decide⟩, newP n, G4, o4, by omega, hs0.2, b4w, b4.size⟩) ?_
      rintro V sq i w5 ⟨hi, isq, ps, hG5, ho5, hsum, hz0, b5, hs5⟩
      refine v_seq ?_
      refine v_seq ?_
      refine v_region ?_
      refine vl_val (os_move rfl) ?_
      refine vl_val (os_move rfl) ?_
      refine vl_val (os_len Try.underlying22 rfl) ?_
      refine vl_val (os_lss rfl rfl) ?_
      refine vl_nil ?_
      refine v_cond_d rfl (fun h => ?_) (fun h => ?_)
      · have hA5 := ha.keep b5
        obtain ⟨b, o, eA, q1, q2, q3⟩ := hA5.at_ (i := i) (by omega)
        have hmem : ds.getD i noN ∈ ds := by rw [List.getD_eq_getElem?_getD, List.getElem?_eq_getElem (by omega)]; exact List.getElem_mem _
        generalize ds.getD i noN = d at *
        rw [eA]
        refine v_skip ?_
        refine v_seq ?_
        refine v_block ?_
        refine v_seq ?_
        refine v_region ?_
        refine vl_val (os_move rfl) ?_
        refine vl_val (os_move rfl) ?_
        refine vl_val (os_ixs Try.underlying22 Try.sizeOf35 rfl rfl (i := i) (by omega) (by omega)) ?_
        refine vl_val (os_loadP Try.underlying35 rfl (by kernel_rfl) rfl q1) ?_
        refine vl_val (os_allocB Try.zeroValue35 (zc := _) (cs := [.int .i64 0, .int .i64 0, .int .i64 0, .slice none 0 0]) rfl) ?_
        have hC0 := bk_new w5 [.int .i64 0, .int .i64 0, .int .i64 0, .slice none 0 0] 35
        have b6 : Below w5.heap.size w5 (w5.alloc (.cells [Value.int .i64 0, .int .i64 0, .int .i64 0, .slice none 0 0].toArray 35)) := (Below.refl _ _).alloc (Nat.le_refl _) _
        refine vl_unit (ou_storeB (by kernel_rfl) rfl rfl hC0 rfl rfl) ?_
        have hC := setRow_bk hC0 d.cells
        have b7 := below_setRow b6 (Nat.le_refl _) d.cells.toArray
        generalize hw7 : (w5.alloc (.cells [Value.int .i64 0, .int .i64 0, .int .i64 0, .slice none 0 0].toArray 35)).setRow w5.heap.size d.cells.toArray = w7 at *
        have hG7 := hG5.keep b7
        have ho7 : OwnK w7 w3.heap.size 3 .i64 V ps := Own.keepAll ho5 b7
        have hd7 := q3.keep b7
        have b7w := b5.trans (b7.mono b5.size)
        have hgl := hG5.bk.lt
        have s7 := b7.size
        refine vl_nil ?_
        refine v_mid [(0, _), (1, _), (5, _)] (fun (x : Bool) => [(11, .bool x), (10, .pointer (some ⟨w5.heap.size, 0, none⟩)), (8, .int .i64 sq), (7, V), (9, .int .i64 i)]) (fun x w' => x = decide (whyN 7 n sq d = 0) ∧ Below w7.heap.size w7 w') ⟨rfl, rfl, rfl, trivial⟩ ?_ ?_
        · cases hR : rightN d
          · refine v_region ?_
            refine vl_val (os_loadB Try.underlying35 rfl (by kernel_rfl) rfl (hC)) ?_
            refine vl_call (gives_boolb (guess_Right d w7 hd7) hR) rfl ?_
            rintro v8 w8 ⟨rfl, b8⟩
            refine vl_val (os_move rfl) ?_
            refine vl_skip rfl rfl ?_
            refine vl_skip rfl rfl ?_
            refine vl_skip rfl rfl ?_
            refine vl_val (os_pick_f rfl rfl) ?_
            refine vl_val (os_move rfl) ?_
            refine vl_skip rfl rfl ?_
            refine vl_skip rfl rfl ?_
            refine vl_skip rfl rfl ?_
            refine vl_skip rfl rfl ?_
            refine vl_val (os_pick_f rfl rfl) ?_
            refine vl_val (os_move rfl) ?_
            refine vl_skip rfl rfl ?_
            refine vl_skip rfl rfl ?_
            refine vl_skip rfl rfl ?_
            refine vl_skip rfl rfl ?_
            refine vl_val (os_pick_f rfl rfl) ?_
            refine vl_val (os_move rfl) ?_
            refine vl_skip rfl rfl ?_
            refine vl_skip rfl rfl ?_
            refine vl_skip rfl rfl ?_
            refine vl_skip rfl rfl ?_
            refine vl_val (os_pick_f rfl rfl) ?_
            refine vl_val (os_assign rfl) ?_
            refine vl_nil ?_
            exact ⟨false, ⟨rfl, rfl, rfl, trivial⟩, ⟨rfl, rfl, rfl, rfl, rfl, trivial⟩, ⟨by simp [whyN, hR], b8⟩⟩
          · by_cases h1 : d.st = 7
            · by_cases h2 : d.n = n
              · by_cases h3 : sq < d.sq
                · refine v_region ?_
                  refine vl_val (os_loadB Try.underlying35 rfl (by kernel_rfl) rfl (hC)) ?_
                  refine vl_call (gives_boolb (guess_Right d w7 hd7) hR) rfl ?_
                  rintro v8 w8 ⟨rfl, b8⟩
                  refine vl_val (os_move rfl) ?_
                  refine vl_valg rfl (os_fa (o := 0) (k := 0) (by kernel_rfl) rfl) ?_
                  refine vl_valg rfl (os_load Try.isAgg3 rfl ((hC.keep b8).cell (i := 0) rfl)) ?_
                  refine vl_valg rfl (os_t (os_eql rfl rfl) (by omega)) ?_
                  refine vl_val (os_pick_t rfl rfl) ?_
                  refine vl_val (os_move rfl) ?_
                  refine vl_valg rfl (os_fa (o := 2) (k := 0) (by kernel_rfl) rfl) ?_
                  refine vl_valg rfl (os_load Try.isAgg3 rfl ((hC.keep b8).cell (i := 2) rfl)) ?_
                  refine vl_valg rfl (os_move rfl) ?_
                  refine vl_valg rfl (os_t (os_eql rfl rfl) (by omega)) ?_
                  refine vl_val (os_pick_t rfl rfl) ?_
                  refine vl_val (os_move rfl) ?_
                  refine vl_valg rfl (os_fa (o := 1) (k := 0) (by kernel_rfl) rfl) ?_
                  refine vl_valg rfl (os_load Try.isAgg3 rfl ((hC.keep b8).cell (i := 1) rfl)) ?_
                  refine vl_valg rfl (os_move rfl) ?_
                  refine vl_valg rfl (os_t (os_gtr rfl rfl) (by omega)) ?_
                  refine vl_val (os_pick_t rfl rfl) ?_
                  refine vl_val (os_move rfl) ?_
                  refine vl_valg rfl (os_fa (o := 3) (k := 0) (by kernel_rfl) rfl) ?_
                  refine vl_valg rfl (os_load Try.isAgg33 rfl ((hC.keep b8).cell (i := 3) rfl)) ?_
                  refine vl_valg rfl (os_len Try.underlying33 rfl) ?_
                  refine vl_valg rfl (os_gtr rfl rfl) ?_
                  refine vl_val (os_pick_t rfl rfl) ?_
                  refine vl_val (os_assign rfl) ?_
                  refine vl_nil ?_
                  exact ⟨decide (whyN 7 n sq d = 0), ⟨rfl, rfl, rfl, trivial⟩, ⟨by rw [show decide (whyN 7 n sq d = 0) = decide ((0 : Int) < d.l) from decide_eq_decide.2 (by rw [why_ok]; exact ⟨fun h => by omega, fun h => ⟨hR, h1, h2, h3, by omega⟩⟩)]; rfl, rfl, rfl, rfl, rfl, trivial⟩, ⟨rfl, b8⟩⟩
                · refine v_region ?_
                  refine vl_val (os_loadB Try.underlying35 rfl (by kernel_rfl) rfl (hC)) ?_
                  refine vl_call (gives_boolb (guess_Right d w7 hd7) hR) rfl ?_
                  rintro v8 w8 ⟨rfl, b8⟩
                  refine vl_val (os_move rfl) ?_
                  refine vl_valg rfl (os_fa (o := 0) (k := 0) (by kernel_rfl) rfl) ?_
                  refine vl_valg rfl (os_load Try.isAgg3 rfl ((hC.keep b8).cell (i := 0) rfl)) ?_
                  refine vl_valg rfl (os_t (os_eql rfl rfl) (by omega)) ?_
                  refine vl_val (os_pick_t rfl rfl) ?_
                  refine vl_val (os_move rfl) ?_
                  refine vl_valg rfl (os_fa (o := 2) (k := 0) (by kernel_rfl) rfl) ?_
                  refine vl_valg rfl (os_load Try.isAgg3 rfl ((hC.keep b8).cell (i := 2) rfl)) ?_
                  refine vl_valg rfl (os_move rfl) ?_
                  refine vl_valg rfl (os_t (os_eql rfl rfl) (by omega)) ?_
                  refine vl_val (os_pick_t rfl rfl) ?_
                  refine vl_val (os_move rfl) ?_
                  refine vl_valg rfl (os_fa (o := 1) (k := 0) (by kernel_rfl) rfl) ?_
                  refine vl_valg rfl (os_load Try.isAgg3 rfl ((hC.keep b8).cell (i := 1) rfl)) ?_
                  refine vl_valg rfl (os_move rfl) ?_
                  refine vl_valg rfl (os_f (os_gtr rfl rfl) (by omega)) ?_
                  refine vl_val (os_pick_t rfl rfl) ?_
                  refine vl_val (os_move rfl) ?_
                  refine vl_skip rfl rfl ?_
                  refine vl_skip rfl rfl ?_
                  refine vl_skip rfl rfl ?_
                  refine vl_skip rfl rfl ?_
                  refine vl_val (os_pick_f rfl rfl) ?_
                  refine vl_val (os_assign rfl) ?_
                  refine vl_nil ?_
                  exact ⟨false, ⟨rfl, rfl, rfl, trivial⟩, ⟨rfl, rfl, rfl, rfl, rfl, trivial⟩, ⟨by symm; rw [decide_eq_false_iff_not, why_ok]; exact fun h => h3 h.2.2.2.1, b8⟩⟩
              · refine v_region ?_
                refine vl_val (os_loadB Try.underlying35 rfl (by kernel_rfl) rfl (hC)) ?_
                refine vl_call (gives_boolb (guess_Right d w7 hd7) hR) rfl ?_
                rintro v8 w8 ⟨rfl, b8⟩
                refine vl_val (os_move rfl) ?_
                refine vl_valg rfl (os_fa (o := 0) (k := 0) (by kernel_rfl) rfl) ?_
                refine vl_valg rfl (os_load Try.isAgg3 rfl ((hC.keep b8).cell (i := 0) rfl)) ?_
                refine vl_valg rfl (os_t (os_eql rfl rfl) (by omega)) ?_
                refine vl_val (os_pick_t rfl rfl) ?_
                refine vl_val (os_move rfl) ?_
                refine vl_valg rfl (os_fa (o := 2) (k := 0) (by kernel_rfl) rfl) ?_
                refine vl_valg rfl (os_load Try.isAgg3 rfl ((hC.keep b8).cell (i := 2) rfl)) ?_
                refine vl_valg rfl (os_move rfl) ?_
                refine vl_valg rfl (os_f (os_eql rfl rfl) (by omega)) ?_
                refine vl_val (os_pick_t rfl rfl) ?_
                refine vl_val (os_move rfl) ?_
                refine vl_skip rfl rfl ?_
                refine vl_skip rfl rfl ?_
                refine vl_skip rfl rfl ?_
                refine vl_skip rfl rfl ?_
                refine vl_val (os_pick_f rfl rfl) ?_
                refine vl_val (os_move rfl) ?_
                refine vl_skip rfl rfl ?_
                refine vl_skip rfl rfl ?_
                refine vl_skip rfl rfl ?_
                refine vl_skip rfl rfl ?_
                refine vl_val (os_pick_f rfl rfl) ?_
                refine vl_val (os_assign rfl) ?_
                refine vl_nil ?_
                exact ⟨false, ⟨rfl, rfl, rfl, trivial⟩, ⟨rfl, rfl, rfl, rfl, rfl, trivial⟩, ⟨by symm; rw [decide_eq_false_iff_not, why_ok]; exact fun h => h2 h.2.2.1, b8⟩⟩
            · refine v_region ?_
              refine vl_val (os_loadB Try.underlying35 rfl (by kernel_rfl) rfl (hC)) ?_
              refine vl_call (gives_boolb (guess_Right d w7 hd7) hR) rfl ?_
              rintro v8 w8 ⟨rfl, b8⟩
              refine vl_val (os_move rfl) ?_
              refine vl_valg rfl (os_fa (o := 0) (k := 0) (by kernel_rfl) rfl) ?_
              refine vl_valg rfl (os_load Try.isAgg3 rfl ((hC.keep b8).cell (i := 0) rfl)) ?_
              refine vl_valg rfl (os_f (os_eql rfl rfl) (by omega)) ?_
              refine vl_val (os_pick_t rfl rfl) ?_
              refine vl_val (os_move rfl) ?_
              refine vl_skip rfl rfl ?_
              refine vl_skip rfl rfl ?_
              refine vl_skip rfl rfl ?_
              refine vl_skip rfl rfl ?_
              refine vl_val (os_pick_f rfl rfl) ?_
              refine vl_val (os_move rfl) ?_
              refine vl_skip rfl rfl ?_
              refine vl_skip rfl rfl ?_
              refine vl_skip rfl rfl ?_
              refine vl_skip rfl rfl ?_
              refine vl_val (os_pick_f rfl rfl) ?_
              refine vl_val (os_move rfl) ?_
              refine vl_skip rfl rfl ?_
              refine vl_skip rfl rfl ?_
              refine vl_skip rfl rfl ?_
              refine vl_skip rfl rfl ?_
              refine vl_val (os_pick_f rfl rfl) ?_
              refine vl_val (os_assign rfl) ?_
              refine vl_nil ?_
              exact ⟨false, ⟨rfl, rfl, rfl, trivial⟩, ⟨rfl, rfl, rfl, rfl, rfl, trivial⟩, ⟨by symm; rw [decide_eq_false_iff_not, why_ok]; exact fun h => h1 h.2.1, b8⟩⟩
        · rintro x w8 ⟨rfl, b8⟩
          have hG8 := hG7.keep b8
          have ho8 : OwnK w8 w3.heap.size 3 .i64 V ps := Own.keepAll ho7 b8
          have hC8 := hC.keep b8
          have hd8 := hd7.keep b8
          have b8w := b7w.trans (b8.mono b7w.size)
          have s8 := b8.size
          refine v_seq ?_
          refine v_seq ?_
          refine v_region ?_
          refine vl_val (os_move rfl) ?_
          refine vl_val (os_loadB Try.underlying35 rfl (by kernel_rfl) rfl (hC8)) ?_
          refine vl_call (guess_Hear g ps 7 n sq d w8 hG8 hd8 w.heap.size hwg (by have := b8w.size; omega)) rfl ?_
          rintro v9 w9 ⟨rfl, b9, kb9, hne9, heq9⟩
          refine vl_val (os_eql rfl rfl) ?_
          refine vl_val (os_move rfl) ?_
          refine vl_val (os_is (os_neqb Try.underlying4 rfl rfl) ((bne_self_eq_false (decide (whyN 7 n sq d = 0))))) ?_
          have b9w := b8w.trans b9
          have s9 := kb9.size
          have ho9 : OwnK w9 w3.heap.size 3 .i64 V ps := Own.kb ho8 kb9 (fun k hk => by have := (World.ownsRow.lt ho8 k hk).1; simp; omega)
          have hC9 := Bk.kb hC8 kb9 (by simp; omega)
          have hd9 := (ha.keep b9w).2 d hmem
          refine vl_nil ?_
          refine v_cond_f rfl ?_
          refine v_skip ?_
          refine v_mid2 [(0, _), (1, _), (5, _), (9, _)] (fun (V2 : Value) (sq2 : Int) => [(7, V2), (8, .int .i64 sq2)]) (fun V2 sq2 w' => I64 sq2 ∧ ∃ ps2 : List Int, GS w' g ps2 7 n sq2 ∧ OwnK w' w3.heap.size 3 .i64 V2 ps2 ∧ ps2.sum ≤ 65536 ∧ ps2.getD 0 0 = 0 ∧ Below w.heap.size w w' ∧ w3.heap.size ≤ w'.heap.size) ⟨rfl, rfl, rfl, rfl, trivial⟩ ?_ ?_
          · refine v_seq ?_
            refine v_region ?_
            refine vl_val (os_move rfl) ?_
            refine vl_nil ?_
            refine v_cond_d rfl (fun ht => ?_) (fun ht => ?_)
            · obtain ⟨hR, h1, h2, h3, h4⟩ := why_ok.1 ht
              have hrd := right_iff.1 hR
              have hG9 := heq9 ht
              have hl0 := hd9.2.1
              have hhs := hear_sum (ps := ps) (n := n) (d := d) hG5.len hrd h2 (by omega) hsum hz0
              obtain ⟨A9, c9, rfl, -, -, r9, -⟩ := OwnK.form ho9
              have hlen5 := hG5.len
              have hle5 := hG5.le
              refine v_seq ?_
              refine v_region ?_
              refine vl_val (os_move rfl) ?_
              refine vl_val (os_loadB Try.underlying35 rfl (by kernel_rfl) rfl (hC9)) ?_
              refine vl_call (law24_shares d w9 hd9 hrd) rfl ?_
              rintro v10 w10 ⟨o10, b10⟩
              obtain ⟨A10, c10, rfl, -, -, r10, -⟩ := OwnK.form o10
              rw [h2] at r10
              refine vl_call (g_Fold A9 A10 ps.length _ c9 c10 ps (saysL n d.cs) w10 (r9.keep b10) r10 rfl (by rw [h2]) (by omega) (by rw [saysL_len]; omega) (rowB_all hG5.row) (fun z hz => by have := saysL_bd z hz; exact ⟨by omega, by omega⟩)) rfl ?_
              rintro v11 w11 ⟨u, rfl, ou, b11⟩
              have hfo := foldV_ok hG5.row (saysL_row (cs := d.cs) (by omega : n ≤ 255)) (by rw [saysL_len]; omega)
              have b911 := b10.trans (b11.mono b10.size)
              refine vl_val (os_move rfl) ?_
              refine vl_val (os_extract rfl rfl) ?_
              refine vl_val (os_extract rfl rfl) ?_
              refine vl_val (os_assign rfl) ?_
              refine vl_val (os_assign rfl) ?_
              refine vl_nil ?_
              refine v_seq ?_
              refine v_seq ?_
              refine v_region ?_
              refine vl_val (os_move rfl) ?_
              refine vl_val (os_neq rfl rfl) ?_
              refine vl_nil ?_
              refine v_cond_no rfl (by rw [hfo.2]; decide) ?_
              refine v_skip ?_
              refine v_seq ?_
              refine v_region ?_
              refine vl_val (os_move rfl) ?_
              refine vl_val (os_assign rfl) ?_
              refine vl_nil ?_
              refine v_region ?_
              refine vl_val (os_fa (o := 1) (k := 0) (by kernel_rfl) rfl) ?_
              refine vl_val (os_load Try.isAgg3 rfl ((hC9.keep b911).cell (i := 1) rfl)) ?_
              refine vl_val (os_assign rfl) ?_
              refine vl_nil ?_
              exact ⟨⟨u, d.sq⟩, ⟨rfl, rfl, rfl, rfl, trivial⟩, ⟨rfl, rfl, trivial⟩, ⟨hd9.2.2.2.1.2.1, hearP ps n d, hG9.keep b911, by rw [hfo.1] at ou; exact Own.mono (OwnI.k ou) (by have := b10.size; omega), hhs.1, hhs.2, b9w.trans (b911.mono b9w.size), by have := b911.size; omega⟩⟩
            · refine v_skip ?_
              exact ⟨⟨V, sq⟩, ⟨rfl, rfl, rfl, rfl, trivial⟩, ⟨rfl, rfl, trivial⟩, ⟨isq, ps, hne9 ht, ho9, hsum, hz0, b9w, by omega⟩⟩
          · rintro V2 sq2 w12 ⟨isq2, ps2, hG12, ho12, hs12, hz12, b12, z12⟩
            refine v_seq ?_
            refine v_region ?_
            refine vl_val (os_move rfl) ?_
            refine vl_call (guess_Parts hG12) rfl ?_
            rintro v13 w13 ⟨o13, b13⟩
            obtain ⟨A13, c13, rfl, -, -, r13, -⟩ := OwnK.form o13
            have hG13 := hG12.keep b13
            have ho13 : OwnK w13 w3.heap.size 3 .i64 V2 ps2 := Own.keepAll ho12 b13
            obtain ⟨A12, c12, rfl, -, -, r12, -⟩ := OwnK.form ho13
            have b13w := b12.trans (b13.mono b12.size)
            have hr2 := rowB_mem hG12.row
            have hlen2 := hG12.len
            have hle2 := hG12.le
            refine vl_val (os_assign rfl) ?_
            refine vl_nil ?_
            refine v_seq ?_
            refine v_region ?_
            refine vl_val (os_assign rfl) ?_
            refine vl_nil ?_
            refine v_seq ?_
            refine v_seq ?_
            refine v_region ?_
            refine vl_val (os_assign rfl) ?_
            refine vl_nil ?_
            refine v_block ?_
            refine v_loop [(0, _), (1, _), (5, _), (7, _), (8, _), (9, _), (14, _)] (fun (k : Nat) => [(15, .int .i64 (ps2.take k).sum), (16, .int .i64 k)]) (fun k w' => k ≤ ps2.length ∧ w' = w13) (fun k => ps2.length - k) (0) ⟨rfl, rfl, rfl, rfl, rfl, rfl, rfl, trivial⟩ ⟨rfl, rfl, trivial⟩ (⟨by omega, rfl⟩) ?_
            rintro k w13 ⟨hk, rfl⟩
            refine v_seq ?_
            refine v_seq ?_
            refine v_region ?_
            refine vl_val (os_move rfl) ?_
            refine vl_val (os_move rfl) ?_
            refine vl_val (os_len Try.underlying40 rfl) ?_
            refine vl_val (os_lss rfl rfl) ?_
            refine vl_nil ?_
            refine v_cond_d rfl (fun hlt => ?_) (fun hlt => ?_)
            · obtain ⟨b1', o1', eA2, c1'⟩ := r13.at_ (i := k) (by omega)
              cases eA2
              have hk' : k < ps2.length := by omega
              have hz' : ps2.getD k 0 = ps2[k] := by simp [hk']
              have hb0 := hr2 ps2[k] (List.getElem_mem _)
              have hb1 : 0 ≤ (ps2.take k).sum := sum_nonneg fun z hz => (hr2 z (List.mem_of_mem_take hz)).1
              have hb2 : (ps2.take k).sum ≤ (ps2.take k).length * 65536 := sum_le_mul fun z hz => (hr2 z (List.mem_of_mem_take hz)).2
              have hb3 : (ps2.take k).length ≤ k := List.length_take_le _ _
              have hnext : (ps2.take (k + 1)).sum = (ps2.take k).sum + ps2[k] := by rw [List.take_succ_eq_append_getElem hk', List.sum_append]; simp
              rw [hz'] at c1'
              refine v_skip ?_
              refine v_seq ?_
              refine v_block ?_
              refine v_region ?_
              refine vl_val (os_move rfl) ?_
              refine vl_val (os_move rfl) ?_
              refine vl_val (os_move rfl) ?_
              refine vl_val (os_ix Try.underlying40 Try.sizeOf3 rfl rfl (i := k) (by omega) (by omega)) ?_
              refine vl_val (os_load Try.isAgg3 rfl (c1')) ?_
              refine vl_val (os_addi rfl rfl (by omega)) ?_
              refine vl_val (os_assign rfl) ?_
              refine vl_nil ?_
              refine v_region ?_
              refine vl_val (os_move rfl) ?_
              refine vl_val (os_addi rfl rfl (by omega)) ?_
              refine vl_val (os_assign rfl) ?_
              refine vl_nil ?_
              exact ⟨k + 1, ⟨rfl, rfl, rfl, rfl, rfl, rfl, rfl, trivial⟩, ⟨by rw [hnext]; rfl, rfl, trivial⟩, ⟨by omega, rfl⟩, by dsimp only; omega⟩
            · have hkl : ps2.length = k := by omega
              have hT : (ps2.take k).sum = ps2.sum := by rw [← hkl, List.take_length]
              obtain ⟨b1', o1', eA2, c1'⟩ := r13.at_ (i := 0) (by omega)
              cases eA2
              rw [hz12] at c1'
              rw [hT]
              refine v_exit ?_
              refine v_seq ?_
              refine v_region ?_
              refine vl_val (os_move rfl) ?_
              refine vl_val (os_move rfl) ?_
              refine vl_call (gives_boolb (kit_SameInts _ A12 _ _ c13 c12 ps2 ps2 w13 r13 r12 rfl rfl (by omega) (by omega)) (decide_eq_true rfl)) rfl ?_
              rintro v14 w14 ⟨rfl, d14⟩
              have b14 : Below w13.heap.size w13 w14 := led_below d14
              have b14w : Below w.heap.size w w14 := b13w.trans (b14.mono b13w.size)
              refine vl_val (os_not rfl) ?_
              refine vl_val (os_move rfl) ?_
              refine vl_valg rfl (os_move rfl) ?_
              refine vl_callg rfl (guess_Seq (hG13.led d14)) rfl ?_
              rintro v15 w14 ⟨rfl, rfl⟩
              refine vl_valg rfl (os_move rfl) ?_
              refine vl_valg rfl (os_f (os_neq rfl rfl) (by omega)) ?_
              refine vl_val (os_pick_f rfl rfl) ?_
              refine vl_val (os_move rfl) ?_
              refine vl_valg rfl (os_move rfl) ?_
              refine vl_valg rfl (os_f (os_gtr rfl rfl) (by omega)) ?_
              refine vl_val (os_pick_f rfl rfl) ?_
              refine vl_val (os_move rfl) ?_
              refine vl_valg rfl (os_move rfl) ?_
              refine vl_valg rfl (os_len Try.underlying40 rfl) ?_
              refine vl_valg rfl (os_move rfl) ?_
              refine vl_valg rfl (os_addi rfl rfl (by omega)) ?_
              refine vl_valg rfl (os_f (os_neq rfl rfl) (by omega)) ?_
              refine vl_val (os_pick_f rfl rfl) ?_
              refine vl_val (os_move rfl) ?_
              refine vl_valg rfl (os_move rfl) ?_
              refine vl_valg rfl (os_ix Try.underlying40 Try.sizeOf3 rfl rfl (i := 0) (by omega) (by omega)) ?_
              refine vl_valg rfl (os_load Try.isAgg3 rfl (led_cell d14 c1')) ?_
              refine vl_valg rfl (os_neq rfl rfl) ?_
              refine vl_val (os_pick_f rfl rfl) ?_
              refine vl_nil ?_
              refine v_cond_no rfl (by decide) ?_
              refine v_skip ?_
              refine v_region ?_
              refine vl_val (os_move rfl) ?_
              refine vl_val (os_addi rfl rfl (by omega)) ?_
              refine vl_val (os_assign rfl) ?_
              refine vl_nil ?_
              exact ⟨⟨.slice A12 ps2.length c12, sq2, i + 1⟩, ⟨rfl, rfl, rfl, trivial⟩, ⟨rfl, rfl, rfl, trivial⟩, ⟨by (try dsimp only); omega, isq2, ps2, hG13.led d14, Own.led ho13 d14, hs12, hz12, b14w, by have := b13.size; have := b14.size; omega⟩, by dsimp only; omega⟩
      · refine v_exit ?_
        refine v_seq ?_
        refine v_region ?_
        refine vl_val (os_assign rfl) ?_
        refine vl_nil ?_
        refine v_ret ?_
        exact post_ret rfl rfl (⟨rfl, b5⟩)
end Go.Proofs.Ytpjmiafefammkaa
