/- Texts joined: GsG GsZ. -/
import Derived.Test.YtpjmiafefammkaaM17
import Derived.Test.YtpjmiafefammkaaProg
/- Layer 24: the walk of GuessHears. -/
namespace Go.Proofs.Ytpjmiafefammkaa
open Go.RowKit
set_option linter.unusedVariables false

theorem law24_sizeN (A : Option Addr) (l c : Nat) (ds : List NoteV) (w : World) (ha : RdN w A ds) (hl : l = ds.length) (hl' : l ≤ 9000000000000) : Gives Try.prog 14 #[.slice A l c] w fun v w' => (∃ z : Int, v = .int .i64 z ∧ I64 z ∧ (z ≤ 800 → l ≤ 800 ∧ ∀ i, i < l → (ds.getD i noN).l ≤ 800)) ∧ w' = w := by
  refine gives_enter Try.call14 Try.func14 rfl rfl rfl (by kernel_rfl) ?_
  refine v_seq ?_
  refine v_region ?_
  refine vl_val (os_assign rfl) ?_
  refine vl_nil ?_
  refine v_seq ?_
  refine v_region ?_
  refine vl_val (os_move rfl) ?_
  refine vl_val (os_len Try.underlying22 rfl) ?_
  refine vl_val (os_assign rfl) ?_
  refine vl_nil ?_
  refine v_seq ?_
  refine v_seq ?_
  refine v_region ?_
  refine vl_val (os_assign rfl) ?_
  refine vl_nil ?_
  refine v_block ?_
  refine v_loop2 [(0, _)] (fun (z : Int) (i : Nat) => [(3, .int .i64 z), (4, .int .i64 i)]) (fun z i w' => i ≤ l ∧ (l : Int) ≤ z ∧ z ≤ 10000000000000 ∧ (∀ j, j < i → ((ds.getD j noN).l : Int) ≤ z) ∧ w' = w) (fun z i => l - i) (l) (0) ⟨rfl, trivial⟩ ⟨rfl, rfl, trivial⟩ (⟨by omega, by omega, by omega, fun j hj => absurd hj (by omega), rfl⟩) ?_
  rintro z i w ⟨hi, hz1, hz2, hall, rfl⟩
  by_cases h : i < l
  · obtain ⟨b, o, rfl, q1, q2, q3⟩ := ha.at_ (i := i) (by omega)
    have hd := q3.2.2.1
    refine v_seq ?_
    refine v_seq ?_
    refine v_region ?_
    refine vl_val (os_move rfl) ?_
    refine vl_val (os_move rfl) ?_
    refine vl_val (os_len Try.underlying22 rfl) ?_
    refine vl_val (os_t (os_lss rfl rfl) (by omega)) ?_
    refine vl_val (os_move rfl) ?_
    refine vl_valg rfl (os_move rfl) ?_
    refine vl_valg rfl (os_leq rfl rfl) ?_
    refine vl_val (os_pick_t rfl rfl) ?_
    refine vl_nil ?_
    refine v_cond_d rfl (fun h2 => ?_) (fun h2 => ?_)
    · refine v_skip ?_
      refine v_seq ?_
      refine v_block ?_
      refine v_region ?_
      refine vl_val (os_move rfl) ?_
      refine vl_val (os_move rfl) ?_
      refine vl_val (os_move rfl) ?_
      refine vl_val (os_ixs Try.underlying22 Try.sizeOf35 rfl rfl (i := i) (by omega) (by omega)) ?_
      refine vl_val (os_fa (o := 3) (k := 0) (by kernel_rfl) rfl) ?_
      refine vl_val (os_load Try.isAgg33 rfl (q2)) ?_
      refine vl_val (os_len Try.underlying33 rfl) ?_
      refine vl_val (os_addi rfl rfl (by omega)) ?_
      refine vl_val (os_assign rfl) ?_
      refine vl_nil ?_
      refine v_region ?_
      refine vl_val (os_move rfl) ?_
      refine vl_val (os_addi rfl rfl (by omega)) ?_
      refine vl_val (os_assign rfl) ?_
      refine vl_nil ?_
      exact ⟨⟨z + (ds.getD i noN).l, i + 1⟩, ⟨rfl, trivial⟩, ⟨rfl, rfl, trivial⟩, ⟨by omega, by omega, by omega, fun j hj => by by_cases e : j = i; (subst e; simp only []; omega); (have := hall j (by simp only [] at hj; omega); simp only []; omega), rfl⟩, by dsimp only; omega⟩
    · refine v_exit ?_
      refine v_seq ?_
      refine v_region ?_
      refine vl_val (os_move rfl) ?_
      refine vl_val (os_assign rfl) ?_
      refine vl_nil ?_
      refine v_ret ?_
      exact post_ret rfl rfl (⟨⟨z, rfl, ⟨by omega, by omega⟩, by omega⟩, rfl⟩)
  · refine v_seq ?_
    refine v_seq ?_
    refine v_region ?_
    refine vl_val (os_move rfl) ?_
    refine vl_val (os_move rfl) ?_
    refine vl_val (os_len Try.underlying22 rfl) ?_
    refine vl_val (os_f (os_lss rfl rfl) (by omega)) ?_
    refine vl_val (os_move rfl) ?_
    refine vl_skip rfl rfl ?_
    refine vl_skip rfl rfl ?_
    refine vl_val (os_pick_f rfl rfl) ?_
    refine vl_nil ?_
    refine v_cond_f rfl ?_
    refine v_exit ?_
    refine v_seq ?_
    refine v_region ?_
    refine vl_val (os_move rfl) ?_
    refine vl_val (os_assign rfl) ?_
    refine vl_nil ?_
    refine v_ret ?_
    exact post_ret rfl rfl (⟨⟨z, rfl, ⟨by omega, by omega⟩, fun hz => ⟨by omega, fun j hj => by have := hall j (by omega); omega⟩⟩, rfl⟩)
theorem LentW.bk {w B t g n C ps} (h : LentW w B t (.slice (some ⟨g, 0, none⟩) n C) ps) : ∃ cs, Bk w g cs t ∧ cs.length = C * 2 ∧ C ≤ maxLen ∧ n ≤ C ∧ n = ps.length := by
  obtain ⟨g', C', e, hc, ho⟩ := h
  cases e
  rcases ho.2.2 with ⟨h1, _⟩ | ⟨g', cap, cur, h1, hB, hg, hnc, hcm, hs, ht⟩
  · cases h1
  · injection h1 with e1 e2 e3
    injection e1 with e1
    injection e1 with e1 _ _
    subst e1; subst e3
    exact ⟨cur.toList, by simpa [Bk] using hg, by simpa using hs, hcm, by omega, rfl⟩

theorem LentW.note {w w' B t g C} {d : NoteV} (h : LentW w B t (.slice (some ⟨g, 0, none⟩) d.cs.length C) d.cs) (hN : NoteOk w' (lentN d g C)) : NoteOk w (lentN d g C) := by
  obtain ⟨g', C', e', _, _, _, hr'⟩ := h.form
  cases e'
  exact ⟨hr', hN.2⟩
theorem ref24_NewN (st n : Int) (w : World) (h : newOk st n = false) : Gives Try.prog 17 #[.int .i64 st, .int .i64 n] w fun v w' => v = .tuple #[.pointer none, .int .i64 2] ∧ Below w.heap.size w w' :=
  (ref24_New st n w).mono fun v w' ⟨h1, h2⟩ => by
    rcases h2 with ⟨-, h2⟩ | ⟨h3, -⟩
    · exact ⟨h2, h1⟩
    · rw [h] at h3; cases h3
theorem ref24_NewY (st n : Int) (w : World) (h : newOk st n = true) : Gives Try.prog 17 #[.int .i64 st, .int .i64 n] w fun v w' => ∃ r V, v = .tuple #[.pointer (some ⟨r, 0, none⟩), .int .i64 0] ∧ RG w' w.heap.size r V (newP n) st n 0 ∧ Below w.heap.size w w' :=
  (ref24_New st n w).mono fun v w' ⟨h1, h2⟩ => by
    rcases h2 with ⟨h3, -⟩ | ⟨-, r, V, h2, h4⟩
    · rw [h] at h3; cases h3
    · exact ⟨r, V, h2, h4, h1⟩
set_option maxHeartbeats 8000000 in
theorem law24_GuessHears (st n : Int) (A : Option Addr) (l c : Nat) (ds : List NoteV) (w : World) (hst : I64 st) (hn : I64 n) (ha : RdN w A ds) (hl : l = ds.length) (hl' : l ≤ 9000000000000) : Gives Try.prog 3 #[.int .i64 st, .int .i64 n, .slice A l c] w fun v w' => v = .bool true ∧ Below w.heap.size w w' := by
  refine gives_enter Try.call3 Try.func3 rfl rfl rfl (by kernel_rfl) ?_
  refine v_seq ?_
  refine v_region ?_
  refine vl_val (os_assign rfl) ?_
  refine vl_nil ?_
  refine v_seq ?_
  refine v_seq ?_
  refine v_region ?_
  refine vl_val (os_move rfl) ?_
  refine vl_call (law24_sizeN A l c ds w ha hl hl') rfl ?_
  rintro v1 w ⟨⟨z, rfl, iz, hz⟩, rfl⟩
  refine vl_val (os_gtr rfl rfl) ?_
  refine vl_nil ?_
  refine v_cond_d rfl (fun hz1 => ?_) (fun hz1 => ?_)
  · refine v_seq ?_
    refine v_region ?_
    refine vl_call (law24_awake w) rfl ?_
    rintro v2 w2 ⟨rfl, b2⟩
    refine vl_val (os_assign rfl) ?_
    refine vl_nil ?_
    refine v_ret ?_
    exact post_ret rfl rfl (⟨rfl, b2⟩)
  · obtain ⟨hl8, hall⟩ := hz (by omega)
    cases hno : newOk st n
    · refine v_skip ?_
      refine v_seq ?_
      refine v_region ?_
      refine vl_val (os_move rfl) ?_
      refine vl_val (os_move rfl) ?_
      refine vl_call (guess_NewN st n w hst hn hno) rfl ?_
      rintro v3 w3 ⟨rfl, b3⟩
      refine vl_val (os_move rfl) ?_
      refine vl_val (os_extract rfl rfl) ?_
      refine vl_val (os_extract rfl rfl) ?_
      refine vl_val (os_assign rfl) ?_
      refine vl_val (os_assign rfl) ?_
      refine vl_nil ?_
      refine v_seq ?_
      refine v_region ?_
      refine vl_val (os_move rfl) ?_
      refine vl_val (os_move rfl) ?_
      refine vl_call (ref24_NewN st n w3 hno) rfl ?_
      rintro v4 w4 ⟨rfl, b4⟩
      have b4w := b3.trans (b4.mono b3.size)
      refine vl_val (os_move rfl) ?_
      refine vl_val (os_extract rfl rfl) ?_
      refine vl_val (os_extract rfl rfl) ?_
      refine vl_val (os_assign rfl) ?_
      refine vl_val (os_assign rfl) ?_
      refine vl_nil ?_
      refine v_seq ?_
      refine v_seq ?_
      refine v_region ?_
      refine vl_val (os_move rfl) ?_
      refine vl_val (os_move rfl) ?_
      refine vl_val (os_f (os_neq rfl rfl) (by decide)) ?_
      refine vl_val (os_move rfl) ?_
      refine vl_valg rfl (os_move rfl) ?_
      refine vl_valg rfl (os_eqlnil (by kernel_rfl) rfl rfl) ?_
      refine vl_valg rfl (os_move rfl) ?_
      refine vl_valg rfl (os_eqlnil (by kernel_rfl) rfl rfl) ?_
      refine vl_valg rfl (os_neqb Try.underlying4 rfl rfl) ?_
      refine vl_val (os_pick_f rfl rfl) ?_
      refine vl_nil ?_
      refine v_cond_f rfl ?_
      refine v_skip ?_
      refine v_seq ?_
      refine v_seq ?_
      refine v_region ?_
      refine vl_val (os_assign rfl) ?_
      refine vl_nil ?_
      refine v_block ?_
      refine v_loop [] (fun (i : Nat) => [(2, .slice A l c), (7, .pointer none), (9, .pointer none), (11, .int .i64 i)]) (fun i w' => i ≤ l ∧ Below w.heap.size w w') (fun i => l - i) (0) trivial ⟨rfl, rfl, rfl, rfl, trivial⟩ (⟨by omega, b4w⟩) ?_
      rintro i w5 ⟨hi, b5⟩
      refine v_seq ?_
      refine v_seq ?_
      refine v_region ?_
      refine vl_val (os_move rfl) ?_
      refine vl_val (os_move rfl) ?_
      refine vl_val (os_len Try.underlying22 rfl) ?_
      refine vl_val (os_lss rfl rfl) ?_
      refine vl_nil ?_
      refine v_cond_d rfl (fun h => ?_) (fun h => ?_)
      · obtain ⟨b, o, eA, q1, q2, q3⟩ := (ha.keep b5).at_ (i := i) (by omega)
        rw [eA]
        refine v_skip ?_
        refine v_seq ?_
        refine v_block ?_
        refine v_seq ?_
        refine v_seq ?_
        refine v_region_t LeG _ mixed (by kernel_rfl) lee_g (leg_start _) ?_
        refine vt_val (fun w hw => os_move rfl) ?_
        refine vt_val (fun w hw => os_move rfl) ?_
        refine vt_val (fun w hw => os_ixs Try.underlying22 Try.sizeOf35 rfl rfl (i := i) (by omega) (by omega)) ?_
        refine vt_val (fun w hw => os_loadP Try.underlying35 rfl (by kernel_rfl) rfl (q1.keep hw)) ?_
        refine vt_call (v := _) (fun w hw => guess_Right (ds.getD i noN) w (q3.keep hw)) rfl ?_
        refine vt_val (fun w hw => os_move rfl) ?_
        refine vt_val (fun w hw => os_move rfl) ?_
        refine vt_val (fun w hw => os_ixs Try.underlying22 Try.sizeOf35 rfl rfl (i := i) (by omega) (by omega)) ?_
        refine vt_val (fun w hw => os_loadP Try.underlying35 rfl (by kernel_rfl) rfl (q1.keep hw)) ?_
        refine vt_call (v := _) (fun w hw => ref24_Right (ds.getD i noN) w (q3.keep hw)) rfl ?_
        refine vt_val (fun w hw => os_is (os_neqb Try.underlying4 rfl rfl) ((bne_self_eq_false _))) ?_
        refine vt_nil (fun Hw H => ?_)
        refine v_cond_f rfl ?_
        refine v_skip ?_
        refine v_seq ?_
        refine v_seq ?_
        refine v_region ?_
        refine vl_val (os_move rfl) ?_
        refine vl_val (os_eqlnil (by kernel_rfl) rfl rfl) ?_
        refine vl_nil ?_
        refine v_cond_t rfl ?_
        refine v_exit ?_
        refine v_region ?_
        refine vl_val (os_move rfl) ?_
        refine vl_val (os_addi rfl rfl (by omega)) ?_
        refine vl_val (os_assign rfl) ?_
        refine vl_nil ?_
        exact ⟨i + 1, trivial, ⟨rfl, rfl, rfl, rfl, trivial⟩, ⟨by omega, b5.trans (H.mono b5.size)⟩, by dsimp only; omega⟩
      · refine v_exit ?_
        refine v_seq ?_
        refine v_region ?_
        refine vl_call (law24_awake w5) rfl ?_
        rintro v6 w6 ⟨rfl, b6⟩
        refine vl_val (os_assign rfl) ?_
        refine vl_nil ?_
        refine v_ret ?_
        exact post_ret rfl rfl (⟨rfl, b5.trans (b6.mono b5.size)⟩)
    · refine v_skip ?_
      refine v_seq ?_
      refine v_region ?_
      refine vl_val (os_move rfl) ?_
      refine vl_val (os_move rfl) ?_
      refine vl_call (guess_NewY st n w hst hn hno) rfl ?_
      rintro v3 w3 ⟨rfl, hG, b3⟩
      refine vl_val (os_move rfl) ?_
      refine vl_val (os_extract rfl rfl) ?_
      refine vl_val (os_extract rfl rfl) ?_
      refine vl_val (os_assign rfl) ?_
      refine vl_val (os_assign rfl) ?_
      refine vl_nil ?_
      refine v_seq ?_
      refine v_region ?_
      refine vl_val (os_move rfl) ?_
      refine vl_val (os_move rfl) ?_
      refine vl_call (ref24_NewY st n w3 hno) rfl ?_
      rintro v4 w4 ⟨r, V, rfl, hR, b4⟩
      have b4w := b3.trans (b4.mono b3.size)
      refine vl_val (os_move rfl) ?_
      refine vl_val (os_extract rfl rfl) ?_
      refine vl_val (os_extract rfl rfl) ?_
      refine vl_val (os_assign rfl) ?_
      refine vl_val (os_assign rfl) ?_
      refine vl_nil ?_
      refine v_seq ?_
      refine v_seq ?_
      refine v_region ?_
      refine vl_val (os_move rfl) ?_
      refine vl_val (os_move rfl) ?_
      refine vl_val (os_f (os_neq rfl rfl) (by decide)) ?_
      refine vl_val (os_move rfl) ?_
      refine vl_valg rfl (os_move rfl) ?_
      refine vl_valg rfl (os_eqlnil (by kernel_rfl) rfl rfl) ?_
      refine vl_valg rfl (os_move rfl) ?_
      refine vl_valg rfl (os_eqlnil (by kernel_rfl) rfl rfl) ?_
      refine vl_valg rfl (os_neqb Try.underlying4 rfl rfl) ?_
      refine vl_val (os_pick_f rfl rfl) ?_
      refine vl_nil ?_
      refine v_cond_f rfl ?_
      have hG4 := hG.keep b4
      have hg3 : w.heap.size < w3.heap.size := hG.bk.lt
      obtain ⟨g, hg⟩ : ∃ g, g = w.heap.size := ⟨_, rfl⟩
      obtain ⟨lo, hlo⟩ : ∃ lo, lo = w3.heap.size := ⟨_, rfl⟩
      rw [← hlo] at hR hg3
      rw [← hg] at hG4 hg3
      rw [← hg]
      refine v_skip ?_
      refine v_seq ?_
      refine v_seq ?_
      refine v_region ?_
      refine vl_val (os_assign rfl) ?_
      refine vl_nil ?_
      refine v_block ?_
      refine v_loop [] (fun (i : Nat) => [(2, .slice A l c), (7, .pointer (some ⟨g, 0, none⟩)), (9, .pointer (some ⟨r, 0, none⟩)), (11, .int .i64 i)]) (fun i w' => i ≤ l ∧ Below w.heap.size w w' ∧ ∃ V ps sq, GS w' g ps st n sq ∧ RG w' lo r V ps st n sq) (fun i => l - i) (0) trivial ⟨rfl, rfl, rfl, rfl, trivial⟩ (⟨by omega, b4w, _, _, _, hG4, hR⟩) ?_
      rintro i w5 ⟨hi, b5, V5, ps, sq, hG5, hR5⟩
      refine v_seq ?_
      refine v_seq ?_
      refine v_region ?_
      refine vl_val (os_move rfl) ?_
      refine vl_val (os_move rfl) ?_
      refine vl_val (os_len Try.underlying22 rfl) ?_
      refine vl_val (os_lss rfl rfl) ?_
      refine vl_nil ?_
      refine v_cond_d rfl (fun h => ?_) (fun h => ?_)
      · have hA5 := ha.keep b5
        obtain ⟨b, o, eA, q1, q2, q3⟩ := hA5.at_ (i := i) (by omega)
        have hd8 := hall i (by omega)
        rw [eA]
        refine v_skip ?_
        refine v_seq ?_
        refine v_block ?_
        refine v_seq ?_
        refine v_seq ?_
        refine v_region_t LeG _ mixed (by kernel_rfl) lee_g (leg_start _) ?_
        refine vt_val (fun w hw => os_move rfl) ?_
        refine vt_val (fun w hw => os_move rfl) ?_
        refine vt_val (fun w hw => os_ixs Try.underlying22 Try.sizeOf35 rfl rfl (i := i) (by omega) (by omega)) ?_
        refine vt_val (fun w hw => os_loadP Try.underlying35 rfl (by kernel_rfl) rfl (q1.keep hw)) ?_
        refine vt_call (v := _) (fun w hw => guess_Right (ds.getD i noN) w (q3.keep hw)) rfl ?_
        refine vt_val (fun w hw => os_move rfl) ?_
        refine vt_val (fun w hw => os_move rfl) ?_
        refine vt_val (fun w hw => os_ixs Try.underlying22 Try.sizeOf35 rfl rfl (i := i) (by omega) (by omega)) ?_
        refine vt_val (fun w hw => os_loadP Try.underlying35 rfl (by kernel_rfl) rfl (q1.keep hw)) ?_
        refine vt_call (v := _) (fun w hw => ref24_Right (ds.getD i noN) w (q3.keep hw)) rfl ?_
        refine vt_val (fun w hw => os_is (os_neqb Try.underlying4 rfl rfl) ((bne_self_eq_false _))) ?_
        refine vt_nil (fun Hw H => ?_)
        have b6w := b5.trans (H.mono b5.size)
        have hG6 := hG5.keep H
        have hR6 := hR5.keep H
        have hq6 := q1.keep H
        have hd6 := q3.keep H
        refine v_cond_f rfl ?_
        refine v_skip ?_
        refine v_seq ?_
        refine v_seq ?_
        refine v_region ?_
        refine vl_val (os_move rfl) ?_
        refine vl_val (os_eqlnil (by kernel_rfl) rfl rfl) ?_
        refine vl_nil ?_
        refine v_cond_f rfl ?_
        refine v_skip ?_
        refine v_seq ?_
        refine v_region ?_
        refine vl_val (os_move rfl) ?_
        refine vl_val (os_move rfl) ?_
        refine vl_val (os_ixs Try.underlying22 Try.sizeOf35 rfl rfl (i := i) (by omega) (by omega)) ?_
        refine vl_val (os_loadP Try.underlying35 rfl (by kernel_rfl) rfl hq6) ?_
        refine vl_call (kit_LentNote (ds.getD i noN) Hw hd6 (by omega)) rfl ?_
        rintro v7 w7 ⟨g2, C2, rfl, hL7, hN7, b7⟩
        refine vl_val (os_allocB Try.zeroValue35 (zc := _) (cs := [.int .i64 0, .int .i64 0, .int .i64 0, .slice none 0 0]) rfl) ?_
        have hC0 := bk_new w7 [.int .i64 0, .int .i64 0, .int .i64 0, .slice none 0 0] 35
        refine vl_unit (ou_storeB (by kernel_rfl) rfl rfl hC0 rfl rfl) ?_
        have b8a : Below w7.heap.size w7 (w7.alloc (.cells [Value.int .i64 0, .int .i64 0, .int .i64 0, .slice none 0 0].toArray 35)) := (Below.refl _ _).alloc (Nat.le_refl _) _
        have hC := setRow_bk hC0 (lentN (ds.getD i noN) g2 C2).cells
        have b8 := below_setRow b8a (Nat.le_refl _) (lentN (ds.getD i noN) g2 C2).cells.toArray
        have hsC : w7.heap.size < ((w7.alloc (.cells [Value.int .i64 0, .int .i64 0, .int .i64 0, .slice none 0 0].toArray 35)).setRow w7.heap.size (lentN (ds.getD i noN) g2 C2).cells.toArray).heap.size := hC.lt
        generalize hw8 : (w7.alloc (.cells [Value.int .i64 0, .int .i64 0, .int .i64 0, .slice none 0 0].toArray 35)).setRow w7.heap.size (lentN (ds.getD i noN) g2 C2).cells.toArray = w8 at *
        have b68 : Below Hw.heap.size Hw w8 := b7.trans (b8.mono b7.size)
        have b8w := b6w.trans (b68.mono b6w.size)
        have hG8 := hG6.keep b68
        have hR8 := hR6.keep b68
        have hL8 := hL7.keep b8
        have hN8 := hN7.keep b8
        have hgr : g < r := by have := hR6.lo; omega
        have hr6 := hR6.lt
        have hv6 := hR6.vlt
        have hg2 : Hw.heap.size ≤ g2 ∧ g2 < w7.heap.size := by obtain ⟨g', C', e, _, h1, h2, _⟩ := hL7.form; cases e; exact ⟨h1, h2⟩
        have s7 := b7.size
        have hwhy : whyN st n sq (lentN (ds.getD i noN) g2 C2) = whyN st n sq (ds.getD i noN) := by have := hd6.2.1; unfold whyN rightN lentN; simp only [this]
        have hhear : hearP ps n (lentN (ds.getD i noN) g2 C2) = hearP ps n (ds.getD i noN) := rfl
        have b0 : Below w8.heap.size w8 { w8 with drawn := w8.drawn + 1 } := (Below.refl _ _).drew
        have b0w := b8w.trans (b0.mono b8w.size)
        have hq0 := q1.keep (H.trans ((b68.trans (b0.mono b68.size)).mono H.size))
        refine vl_nil ?_
        refine v_seq ?_
        refine v_mid [(2, _), (7, _), (9, _), (11, _), (12, _)] (fun (x : Bool) => [(82, .bool x)]) (fun x w' => x = false ∧ Below w.heap.size w w' ∧ Bk w' w7.heap.size (lentN (ds.getD i noN) g2 C2).cells 35 ∧ LentW w' Hw.heap.size 49 (.slice (some ⟨g2, 0, none⟩) (ds.getD i noN).cs.length C2) (ds.getD i noN).cs ∧ ∃ V2 ps2 sq2, GS w' g ps2 st n sq2 ∧ RG w' lo r V2 ps2 st n sq2 ∧ ∀ k, V2.ownBlock = some k → k ≠ g2) ⟨rfl, rfl, rfl, rfl, rfl, trivial⟩ ?_ ?_
        · refine v_region_a mixed ?_
          refine va_pure 0 rfl (by kernel_rfl) (by kernel_rfl) (by kernel_rfl) (fun w => (os_move rfl)) ?_
          refine va_pure 3 rfl (by kernel_rfl) (by kernel_rfl) (by kernel_rfl) (fun w => (os_move rfl)) ?_
          refine va_pure 4 rfl (by kernel_rfl) (by kernel_rfl) (by kernel_rfl) (fun w => (os_move rfl)) ?_
          refine va_pure 5 rfl (by kernel_rfl) (by kernel_rfl) (by kernel_rfl) (fun w => (os_move rfl)) ?_
          refine va_pure 6 rfl (by kernel_rfl) (by kernel_rfl) (by kernel_rfl) (fun w => (os_ixs Try.underlying22 Try.sizeOf35 rfl rfl (i := i) (by omega) (by omega))) ?_
          refine va_two 1 7 (by kernel_rfl) ?_ ?_
          · refine vn_val rfl (os_loadB Try.underlying35 rfl (by kernel_rfl) rfl (hC.keep b0)) ?_
            refine va_two 2 7 (by kernel_rfl) ?_ ?_
            · refine vn_call rfl (guess_Hear g ps st n sq (lentN (ds.getD i noN) g2 C2) _ (hG8.keep b0) (hN8.keep b0) w.heap.size (by omega) b0w.size) rfl ?_
              rintro v9 w9 ⟨rfl, b9, kb9, hne9, heq9⟩
              have s9 : w8.heap.size ≤ w9.heap.size := kb9.size
              have s8 : Hw.heap.size ≤ w8.heap.size := b68.size
              have b9w := b0w.trans b9
              obtain ⟨b', o', eA9, hq9, -, hd9⟩ := (ha.keep b9w).at_ (i := i) (by omega)
              rw [eA] at eA9
              cases eA9
              have hgg : g ∉ [r] := by simp; omega
              have hrg : r ∉ [g] := by simp; omega
              have hR9 := (hR8.keep b0).kb kb9 hrg (fun k hk => by have := (hv6 k hk).1; simp; omega)
              have hC9 := (hC.keep b0).kb kb9 (by simp; omega)
              have hL9 := (hL8.keep b0).kb kb9 (fun k hk => by cases hk; simp; omega)
              refine va_one 7 (by kernel_rfl) ?_
              refine vn_val rfl (os_loadP Try.underlying35 rfl (by kernel_rfl) rfl (by first | exact hq9 | exact hq0)) ?_
              refine va_one 8 (by kernel_rfl) ?_
              refine vn_call rfl (ref24_Hear lo r V5 ps st n sq (ds.getD i noN) w9 hR9 hd9) rfl ?_
              rintro v10 w10 ⟨rfl, b10, kb10, hne10, heq10⟩
              have b10w := b9w.trans (b10.mono (by omega))
              have s10 := kb10.size
              obtain ⟨b', o', eA10, hq10, -, hd10⟩ := (ha.keep b10w).at_ (i := i) (by omega)
              rw [eA] at eA10
              cases eA10
              have hC10 := hC9.kb kb10 (by simp; omega)
              have hL10 := hL9.kb kb10 (fun k hk => by cases hk; simp; omega)
              have hN10 := hL10.note hN8
              refine va_pure 9 rfl (by kernel_rfl) (by kernel_rfl) (by kernel_rfl) (fun w => (os_f (os_neq rfl rfl) (fun h => h hwhy))) ?_
              refine va_pure 10 rfl (by kernel_rfl) (by kernel_rfl) (by kernel_rfl) (fun w => (os_move rfl)) ?_
              refine va_pure 12 rfl (by kernel_rfl) (by kernel_rfl) (by kernel_rfl) (fun w => (os_move rfl)) ?_
              refine va_pure 13 rfl (by kernel_rfl) (by kernel_rfl) (by kernel_rfl) (fun w => (os_move rfl)) ?_
              refine va_pure 14 rfl (by kernel_rfl) (by kernel_rfl) (by kernel_rfl) (fun w => (os_ixs Try.underlying22 Try.sizeOf35 rfl rfl (i := i) (by omega) (by omega))) ?_
              refine va_two 11 15 (by kernel_rfl) ?_ ?_
              · refine vn_val rfl (os_loadB Try.underlying35 rfl (by kernel_rfl) rfl (hC10)) ?_
                refine va_one 15 (by kernel_rfl) ?_
                refine vn_val rfl (os_loadP Try.underlying35 rfl (by kernel_rfl) rfl hq10) ?_
                refine va_one 16 (by kernel_rfl) ?_
                refine vn_call rfl (kit_KeptNote (lentN (ds.getD i noN) g2 C2) (ds.getD i noN) Hw.heap.size w10 hL10 hN10 hd10 rfl rfl rfl rfl (by have := hd10.2.1; show (ds.getD i noN).cs.length ≤ _; omega)) rfl ?_
                rintro v11 w11 ⟨rfl, b11⟩
                have hcomb : ∃ V2 ps2 sq2, GS w11 g ps2 st n sq2 ∧ RG w11 lo r V2 ps2 st n sq2 ∧ ∀ k, V2.ownBlock = some k → k ≠ g2 := by
                  by_cases hw : whyN st n sq (ds.getD i noN) = 0
                  · obtain ⟨V2, hRR, hV⟩ := heq10 hw
                    exact ⟨V2, hearP ps n (ds.getD i noN), (ds.getD i noN).sq, ((heq9 (hwhy.trans hw)).kb kb10 hgg).keep b11, hRR.keep b11, fun k hk => by have := hV k hk; omega⟩
                  · exact ⟨V5, ps, sq, ((hne9 (by rw [hwhy]; exact hw)).kb kb10 hgg).keep b11, (hne10 hw).keep b11, fun k hk => by have := (hv6 k hk).2; omega⟩
                refine va_pure 17 rfl (by kernel_rfl) (by kernel_rfl) (by kernel_rfl) (fun w => (os_not rfl)) ?_
                refine va_pure 18 rfl (by kernel_rfl) (by kernel_rfl) (by kernel_rfl) (fun w => (os_pick_f rfl rfl)) ?_
                refine va_done (by kernel_rfl) ?_
                exact ⟨false, ⟨rfl, rfl, rfl, rfl, rfl, trivial⟩, ⟨rfl, trivial⟩, ⟨rfl, b10w.trans (b11.mono b10w.size), hC10.keep b11, hL10.keep b11, hcomb⟩⟩
              · refine vn_val rfl (os_loadP Try.underlying35 rfl (by kernel_rfl) rfl hq10) ?_
                refine va_one 11 (by kernel_rfl) ?_
                refine vn_val rfl (os_loadB Try.underlying35 rfl (by kernel_rfl) rfl (hC10)) ?_
                refine va_one 16 (by kernel_rfl) ?_
                refine vn_call rfl (kit_KeptNote (lentN (ds.getD i noN) g2 C2) (ds.getD i noN) Hw.heap.size w10 hL10 hN10 hd10 rfl rfl rfl rfl (by have := hd10.2.1; show (ds.getD i noN).cs.length ≤ _; omega)) rfl ?_
                rintro v11 w11 ⟨rfl, b11⟩
                have hcomb : ∃ V2 ps2 sq2, GS w11 g ps2 st n sq2 ∧ RG w11 lo r V2 ps2 st n sq2 ∧ ∀ k, V2.ownBlock = some k → k ≠ g2 := by
                  by_cases hw : whyN st n sq (ds.getD i noN) = 0
                  · obtain ⟨V2, hRR, hV⟩ := heq10 hw
                    exact ⟨V2, hearP ps n (ds.getD i noN), (ds.getD i noN).sq, ((heq9 (hwhy.trans hw)).kb kb10 hgg).keep b11, hRR.keep b11, fun k hk => by have := hV k hk; omega⟩
                  · exact ⟨V5, ps, sq, ((hne9 (by rw [hwhy]; exact hw)).kb kb10 hgg).keep b11, (hne10 hw).keep b11, fun k hk => by have := (hv6 k hk).2; omega⟩
                refine va_pure 17 rfl (by kernel_rfl) (by kernel_rfl) (by kernel_rfl) (fun w => (os_not rfl)) ?_
                refine va_pure 18 rfl (by kernel_rfl) (by kernel_rfl) (by kernel_rfl) (fun w => (os_pick_f rfl rfl)) ?_
                refine va_done (by kernel_rfl) ?_
                exact ⟨false, ⟨rfl, rfl, rfl, rfl, rfl, trivial⟩, ⟨rfl, trivial⟩, ⟨rfl, b10w.trans (b11.mono b10w.size), hC10.keep b11, hL10.keep b11, hcomb⟩⟩
            · refine vn_val rfl (os_loadP Try.underlying35 rfl (by kernel_rfl) rfl (by first | exact hq9 | exact hq0)) ?_
              refine va_one 2 (by kernel_rfl) ?_
              refine vn_call rfl (guess_Hear g ps st n sq (lentN (ds.getD i noN) g2 C2) _ (hG8.keep b0) (hN8.keep b0) w.heap.size (by omega) b0w.size) rfl ?_
              rintro v9 w9 ⟨rfl, b9, kb9, hne9, heq9⟩
              have s9 : w8.heap.size ≤ w9.heap.size := kb9.size
              have s8 : Hw.heap.size ≤ w8.heap.size := b68.size
              have b9w := b0w.trans b9
              obtain ⟨b', o', eA9, hq9, -, hd9⟩ := (ha.keep b9w).at_ (i := i) (by omega)
              rw [eA] at eA9
              cases eA9
              have hgg : g ∉ [r] := by simp; omega
              have hrg : r ∉ [g] := by simp; omega
              have hR9 := (hR8.keep b0).kb kb9 hrg (fun k hk => by have := (hv6 k hk).1; simp; omega)
              have hC9 := (hC.keep b0).kb kb9 (by simp; omega)
              have hL9 := (hL8.keep b0).kb kb9 (fun k hk => by cases hk; simp; omega)
              refine va_one 8 (by kernel_rfl) ?_
              refine vn_call rfl (ref24_Hear lo r V5 ps st n sq (ds.getD i noN) w9 hR9 hd9) rfl ?_
              rintro v10 w10 ⟨rfl, b10, kb10, hne10, heq10⟩
              have b10w := b9w.trans (b10.mono (by omega))
              have s10 := kb10.size
              obtain ⟨b', o', eA10, hq10, -, hd10⟩ := (ha.keep b10w).at_ (i := i) (by omega)
              rw [eA] at eA10
              cases eA10
              have hC10 := hC9.kb kb10 (by simp; omega)
              have hL10 := hL9.kb kb10 (fun k hk => by cases hk; simp; omega)
              have hN10 := hL10.note hN8
              refine va_pure 9 rfl (by kernel_rfl) (by kernel_rfl) (by kernel_rfl) (fun w => (os_f (os_neq rfl rfl) (fun h => h hwhy))) ?_
              refine va_pure 10 rfl (by kernel_rfl) (by kernel_rfl) (by kernel_rfl) (fun w => (os_move rfl)) ?_
              refine va_pure 12 rfl (by kernel_rfl) (by kernel_rfl) (by kernel_rfl) (fun w => (os_move rfl)) ?_
              refine va_pure 13 rfl (by kernel_rfl) (by kernel_rfl) (by kernel_rfl) (fun w => (os_move rfl)) ?_
              refine va_pure 14 rfl (by kernel_rfl) (by kernel_rfl) (by kernel_rfl) (fun w => (os_ixs Try.underlying22 Try.sizeOf35 rfl rfl (i := i) (by omega) (by omega))) ?_
              refine va_two 11 15 (by kernel_rfl) ?_ ?_
              · refine vn_val rfl (os_loadB Try.underlying35 rfl (by kernel_rfl) rfl (hC10)) ?_
                refine va_one 15 (by kernel_rfl) ?_
                refine vn_val rfl (os_loadP Try.underlying35 rfl (by kernel_rfl) rfl hq10) ?_
                refine va_one 16 (by kernel_rfl) ?_
                refine vn_call rfl (kit_KeptNote (lentN (ds.getD i noN) g2 C2) (ds.getD i noN) Hw.heap.size w10 hL10 hN10 hd10 rfl rfl rfl rfl (by have := hd10.2.1; show (ds.getD i noN).cs.length ≤ _; omega)) rfl ?_
                rintro v11 w11 ⟨rfl, b11⟩
                have hcomb : ∃ V2 ps2 sq2, GS w11 g ps2 st n sq2 ∧ RG w11 lo r V2 ps2 st n sq2 ∧ ∀ k, V2.ownBlock = some k → k ≠ g2 := by
                  by_cases hw : whyN st n sq (ds.getD i noN) = 0
                  · obtain ⟨V2, hRR, hV⟩ := heq10 hw
                    exact ⟨V2, hearP ps n (ds.getD i noN), (ds.getD i noN).sq, ((heq9 (hwhy.trans hw)).kb kb10 hgg).keep b11, hRR.keep b11, fun k hk => by have := hV k hk; omega⟩
                  · exact ⟨V5, ps, sq, ((hne9 (by rw [hwhy]; exact hw)).kb kb10 hgg).keep b11, (hne10 hw).keep b11, fun k hk => by have := (hv6 k hk).2; omega⟩
                refine va_pure 17 rfl (by kernel_rfl) (by kernel_rfl) (by kernel_rfl) (fun w => (os_not rfl)) ?_
                refine va_pure 18 rfl (by kernel_rfl) (by kernel_rfl) (by kernel_rfl) (fun w => (os_pick_f rfl rfl)) ?_
                refine va_done (by kernel_rfl) ?_
                exact ⟨false, ⟨rfl, rfl, rfl, rfl, rfl, trivial⟩, ⟨rfl, trivial⟩, ⟨rfl, b10w.trans (b11.mono b10w.size), hC10.keep b11, hL10.keep b11, hcomb⟩⟩
              · refine vn_val rfl (os_loadP Try.underlying35 rfl (by kernel_rfl) rfl hq10) ?_
                refine va_one 11 (by kernel_rfl) ?_
                refine vn_val rfl (os_loadB Try.underlying35 rfl (by kernel_rfl) rfl (hC10)) ?_
                refine va_one 16 (by kernel_rfl) ?_
                refine vn_call rfl (kit_KeptNote (lentN (ds.getD i noN) g2 C2) (ds.getD i noN) Hw.heap.size w10 hL10 hN10 hd10 rfl rfl rfl rfl (by have := hd10.2.1; show (ds.getD i noN).cs.length ≤ _; omega)) rfl ?_
                rintro v11 w11 ⟨rfl, b11⟩
                have hcomb : ∃ V2 ps2 sq2, GS w11 g ps2 st n sq2 ∧ RG w11 lo r V2 ps2 st n sq2 ∧ ∀ k, V2.ownBlock = some k → k ≠ g2 := by
                  by_cases hw : whyN st n sq (ds.getD i noN) = 0
                  · obtain ⟨V2, hRR, hV⟩ := heq10 hw
                    exact ⟨V2, hearP ps n (ds.getD i noN), (ds.getD i noN).sq, ((heq9 (hwhy.trans hw)).kb kb10 hgg).keep b11, hRR.keep b11, fun k hk => by have := hV k hk; omega⟩
                  · exact ⟨V5, ps, sq, ((hne9 (by rw [hwhy]; exact hw)).kb kb10 hgg).keep b11, (hne10 hw).keep b11, fun k hk => by have := (hv6 k hk).2; omega⟩
                refine va_pure 17 rfl (by kernel_rfl) (by kernel_rfl) (by kernel_rfl) (fun w => (os_not rfl)) ?_
                refine va_pure 18 rfl (by kernel_rfl) (by kernel_rfl) (by kernel_rfl) (fun w => (os_pick_f rfl rfl)) ?_
                refine va_done (by kernel_rfl) ?_
                exact ⟨false, ⟨rfl, rfl, rfl, rfl, rfl, trivial⟩, ⟨rfl, trivial⟩, ⟨rfl, b10w.trans (b11.mono b10w.size), hC10.keep b11, hL10.keep b11, hcomb⟩⟩
          · refine vn_val rfl (os_loadP Try.underlying35 rfl (by kernel_rfl) rfl (by first | exact hq9 | exact hq0)) ?_
            refine va_one 1 (by kernel_rfl) ?_
            refine vn_val rfl (os_loadB Try.underlying35 rfl (by kernel_rfl) rfl (hC.keep b0)) ?_
            refine va_one 2 (by kernel_rfl) ?_
            refine vn_call rfl (guess_Hear g ps st n sq (lentN (ds.getD i noN) g2 C2) _ (hG8.keep b0) (hN8.keep b0) w.heap.size (by omega) b0w.size) rfl ?_
            rintro v9 w9 ⟨rfl, b9, kb9, hne9, heq9⟩
            have s9 : w8.heap.size ≤ w9.heap.size := kb9.size
            have s8 : Hw.heap.size ≤ w8.heap.size := b68.size
            have b9w := b0w.trans b9
            obtain ⟨b', o', eA9, hq9, -, hd9⟩ := (ha.keep b9w).at_ (i := i) (by omega)
            rw [eA] at eA9
            cases eA9
            have hgg : g ∉ [r] := by simp; omega
            have hrg : r ∉ [g] := by simp; omega
            have hR9 := (hR8.keep b0).kb kb9 hrg (fun k hk => by have := (hv6 k hk).1; simp; omega)
            have hC9 := (hC.keep b0).kb kb9 (by simp; omega)
            have hL9 := (hL8.keep b0).kb kb9 (fun k hk => by cases hk; simp; omega)
            refine va_one 8 (by kernel_rfl) ?_
            refine vn_call rfl (ref24_Hear lo r V5 ps st n sq (ds.getD i noN) w9 hR9 hd9) rfl ?_
            rintro v10 w10 ⟨rfl, b10, kb10, hne10, heq10⟩
            have b10w := b9w.trans (b10.mono (by omega))
            have s10 := kb10.size
            obtain ⟨b', o', eA10, hq10, -, hd10⟩ := (ha.keep b10w).at_ (i := i) (by omega)
            rw [eA] at eA10
            cases eA10
            have hC10 := hC9.kb kb10 (by simp; omega)
            have hL10 := hL9.kb kb10 (fun k hk => by cases hk; simp; omega)
            have hN10 := hL10.note hN8
            refine va_pure 9 rfl (by kernel_rfl) (by kernel_rfl) (by kernel_rfl) (fun w => (os_f (os_neq rfl rfl) (fun h => h hwhy))) ?_
            refine va_pure 10 rfl (by kernel_rfl) (by kernel_rfl) (by kernel_rfl) (fun w => (os_move rfl)) ?_
            refine va_pure 12 rfl (by kernel_rfl) (by kernel_rfl) (by kernel_rfl) (fun w => (os_move rfl)) ?_
            refine va_pure 13 rfl (by kernel_rfl) (by kernel_rfl) (by kernel_rfl) (fun w => (os_move rfl)) ?_
            refine va_pure 14 rfl (by kernel_rfl) (by kernel_rfl) (by kernel_rfl) (fun w => (os_ixs Try.underlying22 Try.sizeOf35 rfl rfl (i := i) (by omega) (by omega))) ?_
            refine va_two 11 15 (by kernel_rfl) ?_ ?_
            · refine vn_val rfl (os_loadB Try.underlying35 rfl (by kernel_rfl) rfl (hC10)) ?_
              refine va_one 15 (by kernel_rfl) ?_
              refine vn_val rfl (os_loadP Try.underlying35 rfl (by kernel_rfl) rfl hq10) ?_
              refine va_one 16 (by kernel_rfl) ?_
              refine vn_call rfl (kit_KeptNote (lentN (ds.getD i noN) g2 C2) (ds.getD i noN) Hw.heap.size w10 hL10 hN10 hd10 rfl rfl rfl rfl (by have := hd10.2.1; show (ds.getD i noN).cs.length ≤ _; omega)) rfl ?_
              rintro v11 w11 ⟨rfl, b11⟩
              have hcomb : ∃ V2 ps2 sq2, GS w11 g ps2 st n sq2 ∧ RG w11 lo r V2 ps2 st n sq2 ∧ ∀ k, V2.ownBlock = some k → k ≠ g2 := by
                by_cases hw : whyN st n sq (ds.getD i noN) = 0
                · obtain ⟨V2, hRR, hV⟩ := heq10 hw
                  exact ⟨V2, hearP ps n (ds.getD i noN), (ds.getD i noN).sq, ((heq9 (hwhy.trans hw)).kb kb10 hgg).keep b11, hRR.keep b11, fun k hk => by have := hV k hk; omega⟩
                · exact ⟨V5, ps, sq, ((hne9 (by rw [hwhy]; exact hw)).kb kb10 hgg).keep b11, (hne10 hw).keep b11, fun k hk => by have := (hv6 k hk).2; omega⟩
              refine va_pure 17 rfl (by kernel_rfl) (by kernel_rfl) (by kernel_rfl) (fun w => (os_not rfl)) ?_
              refine va_pure 18 rfl (by kernel_rfl) (by kernel_rfl) (by kernel_rfl) (fun w => (os_pick_f rfl rfl)) ?_
              refine va_done (by kernel_rfl) ?_
              exact ⟨false, ⟨rfl, rfl, rfl, rfl, rfl, trivial⟩, ⟨rfl, trivial⟩, ⟨rfl, b10w.trans (b11.mono b10w.size), hC10.keep b11, hL10.keep b11, hcomb⟩⟩
            · refine vn_val rfl (os_loadP Try.underlying35 rfl (by kernel_rfl) rfl hq10) ?_
              refine va_one 11 (by kernel_rfl) ?_
              refine vn_val rfl (os_loadB Try.underlying35 rfl (by kernel_rfl) rfl (hC10)) ?_
              refine va_one 16 (by kernel_rfl) ?_
              refine vn_call rfl (kit_KeptNote (lentN (ds.getD i noN) g2 C2) (ds.getD i noN) Hw.heap.size w10 hL10 hN10 hd10 rfl rfl rfl rfl (by have := hd10.2.1; show (ds.getD i noN).cs.length ≤ _; omega)) rfl ?_
              rintro v11 w11 ⟨rfl, b11⟩
              have hcomb : ∃ V2 ps2 sq2, GS w11 g ps2 st n sq2 ∧ RG w11 lo r V2 ps2 st n sq2 ∧ ∀ k, V2.ownBlock = some k → k ≠ g2 := by
                by_cases hw : whyN st n sq (ds.getD i noN) = 0
                · obtain ⟨V2, hRR, hV⟩ := heq10 hw
                  exact ⟨V2, hearP ps n (ds.getD i noN), (ds.getD i noN).sq, ((heq9 (hwhy.trans hw)).kb kb10 hgg).keep b11, hRR.keep b11, fun k hk => by have := hV k hk; omega⟩
                · exact ⟨V5, ps, sq, ((hne9 (by rw [hwhy]; exact hw)).kb kb10 hgg).keep b11, (hne10 hw).keep b11, fun k hk => by have := (hv6 k hk).2; omega⟩
              refine va_pure 17 rfl (by kernel_rfl) (by kernel_rfl) (by kernel_rfl) (fun w => (os_not rfl)) ?_
              refine va_pure 18 rfl (by kernel_rfl) (by kernel_rfl) (by kernel_rfl) (fun w => (os_pick_f rfl rfl)) ?_
              refine va_done (by kernel_rfl) ?_
              exact ⟨false, ⟨rfl, rfl, rfl, rfl, rfl, trivial⟩, ⟨rfl, trivial⟩, ⟨rfl, b10w.trans (b11.mono b10w.size), hC10.keep b11, hL10.keep b11, hcomb⟩⟩
        · rintro x w11 ⟨rfl, b11w, hC11, hL11, V2, ps2, sq2, hG11, hR11, hV11⟩
          have s11 := hC11.lt
          have hdl := hd6.2.1
          refine v_cond_f rfl ?_
          refine v_skip ?_
          refine v_seq ?_
          refine v_region ?_
          refine vl_val (os_fa (o := 3) (k := 0) (by kernel_rfl) rfl) ?_
          refine vl_val (os_load Try.isAgg33 rfl (hC11.cell (i := 3) rfl)) ?_
          obtain ⟨cs, hcs1, hcs2, hcs3, hcs4, hcs5⟩ := hL11.bk
          refine vl_call (kit_OverCounts (some ⟨g2, 0, none⟩) (ds.getD i noN).cs.length C2 w11 hcs4 (by omega) (fun _ => ⟨g2, cs, rfl, hcs1, hcs2⟩) hcs3) rfl ?_
          rintro v12 w12 kb12
          have hG12 := hG11.kb kb12 (by simp [Value.ownBlock]; omega)
          have hR12 := hR11.kb kb12 (by simp [Value.ownBlock]; omega) (fun k hk => by have := hV11 k hk; simp [Value.ownBlock]; omega)
          have b12w := kb12.below b11w (fun k hk => by simp [Value.ownBlock] at hk; have := b6w.size; omega) b11w.size
          refine vl_nil ?_
          refine v_seq ?_
          refine v_region ?_
          refine vl_val (os_move rfl) ?_
          refine vl_call (guess_Parts hG12) rfl ?_
          rintro v13 w13 ⟨o13, b13⟩
          obtain ⟨A13, c13, rfl, -, -, r13, -⟩ := OwnK.form o13
          have hG13 := hG12.keep b13
          have hR13 := hR12.keep b13
          have hv12 := hR12.vlt
          have hr12 := hR12.lt
          have hg12 := hG12.bk.lt
          have hle2 := hG12.le
          have hlt13 := World.ownsRow.lt o13
          have ho2 := hR13.own
          obtain ⟨A2, c2, rfl, -, -, r2, -⟩ := OwnK.form ho2
          refine vl_val (os_assign rfl) ?_
          refine vl_nil ?_
          refine v_seq ?_
          refine v_seq ?_
          refine v_region_t LeD _ mixed (by kernel_rfl) lee_d (led_start _) ?_
          refine vt_val (fun w hw => os_move rfl) ?_
          refine vt_val (fun w hw => os_move rfl) ?_
          refine vt_val (fun w hw => os_nilCheck rfl) ?_
          refine vt_val (fun w hw => os_fa (o := 2) (k := 0) (by kernel_rfl) rfl) ?_
          refine vt_val (fun w hw => os_load Try.isAgg40 rfl (led_cell hw (hR13.bk.cell (i := 2) rfl))) ?_
          refine vt_call (v := .bool true) (fun w hw => gives_boolb (kit_SameInts A13 A2 _ _ c13 c2 ps2 ps2 w (r13.led hw) (r2.led hw) rfl rfl (by omega) (by omega)) (decide_eq_true rfl)) rfl ?_
          refine vt_val (fun w hw => os_not rfl) ?_
          refine vt_val (fun w hw => os_move rfl) ?_
          refine vt_valg rfl (fun w hw => os_move rfl) ?_
          refine vt_callg rfl (v := _) (fun w hw => (guess_Seq (hG13.led hw)).mono fun v w' h => ⟨h.1, by rw [h.2]; exact lee_d.refl _⟩) rfl ?_
          refine vt_valg rfl (fun w hw => os_move rfl) ?_
          refine vt_valg rfl (fun w hw => os_nilCheck rfl) ?_
          refine vt_valg rfl (fun w hw => os_fa (o := 3) (k := 0) (by kernel_rfl) rfl) ?_
          refine vt_valg rfl (fun w hw => os_load Try.isAgg3 rfl (led_cell hw (hR13.bk.cell (i := 3) rfl))) ?_
          refine vt_valg rfl (fun w hw => os_neq rfl rfl) ?_
          refine vt_val (fun w hw => os_pick_f rfl rfl) ?_
          refine vt_nil (fun w hw => ?_)
          obtain ⟨q, rfl⟩ := hw
          refine v_cond_no rfl (by simp) ?_
          have d14 : LeD w13 (w13.drewN q) := ⟨q, rfl⟩
          generalize w13.drewN q = w14 at d14
          have b13w := b12w.trans (b13.mono b12w.size)
          have b14w := b13w.trans ((led_below d14).mono b13w.size)
          have s13 := b13.size
          have s14 : w13.heap.size ≤ w14.heap.size := (led_below (B := 0) d14).size
          refine v_skip ?_
          refine v_region ?_
          refine vl_val (os_move rfl) ?_
          refine vl_call (kit_OverInts (.slice A13 ps2.length c13) w12.heap.size (ps2.map (Value.int .i64)) w14 (by have := Own.led o13 d14; simpa [OwnK] using this) (by simp; omega)) rfl ?_
          rintro v15 w15 kb15
          refine vl_nil ?_
          refine v_region ?_
          refine vl_val (os_move rfl) ?_
          refine vl_val (os_addi rfl rfl (by omega)) ?_
          refine vl_val (os_assign rfl) ?_
          refine vl_nil ?_
          exact ⟨i + 1, trivial, ⟨rfl, rfl, rfl, rfl, trivial⟩, ⟨by omega, kb15.below b14w (fun k hk => by have := hlt13 k (by simpa using hk); have := b12w.size; omega) b14w.size, _, ps2, sq2, (hG13.led d14).kb kb15 (fun hk => by have := hlt13 g (by simpa using hk); omega), (hR13.led d14).kb kb15 (fun hk => by have := hlt13 r (by simpa using hk); omega) (fun k hk hk2 => by have := hlt13 k (by simpa using hk2); have := hv12 k hk; omega)⟩, by dsimp only; omega⟩
      · refine v_exit ?_
        refine v_seq ?_
        refine v_region ?_
        refine vl_call (law24_awake w5) rfl ?_
        rintro v6 w6 ⟨rfl, b6⟩
        refine vl_val (os_assign rfl) ?_
        refine vl_nil ?_
        refine v_ret ?_
        exact post_ret rfl rfl (⟨rfl, by rw [hg]; exact b5.trans (b6.mono b5.size)⟩)
end Go.Proofs.Ytpjmiafefammkaa

/- Layer 24: no guesser. -/
namespace Go.Proofs.Ytpjmiafefammkaa
open Go.RowKit
set_option linter.unusedVariables false

theorem guess_made_nil (w : World) : Gives Try.prog 58 #[.pointer none] w fun v w' => v = .bool false ∧ w' = w := by
  refine gives_enter Try.call58 Try.func58 rfl rfl rfl (by kernel_rfl) ?_
  refine v_seq ?_
  refine v_region ?_
  refine vl_val (os_assign rfl) ?_
  refine vl_nil ?_
  refine v_seq ?_
  refine v_region ?_
  refine vl_val (os_move rfl) ?_
  refine vl_val (os_is (os_neqnil (by kernel_rfl) rfl rfl) (rfl)) ?_
  refine vl_val (os_move rfl) ?_
  refine vl_skip rfl rfl ?_
  refine vl_skip rfl rfl ?_
  refine vl_skip rfl rfl ?_
  refine vl_skip rfl rfl ?_
  refine vl_skip rfl rfl ?_
  refine vl_val (os_pick_f rfl rfl) ?_
  refine vl_val (os_assign rfl) ?_
  refine vl_nil ?_
  refine v_ret ?_
  exact post_ret rfl rfl (⟨rfl, rfl⟩)
theorem guess_made0 (g : Nat) (w : World) (h : w.cell? ⟨g, 0 + 257, none⟩ = some (.int .i64 0)) : Gives Try.prog 58 #[.pointer (some ⟨g, 0, none⟩)] w fun v w' => v = .bool false ∧ w' = w := by
  refine gives_enter Try.call58 Try.func58 rfl rfl rfl (by kernel_rfl) ?_
  refine v_seq ?_
  refine v_region ?_
  refine vl_val (os_assign rfl) ?_
  refine vl_nil ?_
  refine v_seq ?_
  refine v_region ?_
  refine vl_val (os_move rfl) ?_
  refine vl_val (os_is (os_neqnil (by kernel_rfl) rfl rfl) (rfl)) ?_
  refine vl_val (os_move rfl) ?_
  refine vl_valg rfl (os_move rfl) ?_
  refine vl_valg rfl (os_nilCheck rfl) ?_
  refine vl_valg rfl (os_fa (o := 257) (k := 0) (by kernel_rfl) rfl) ?_
  refine vl_valg rfl (os_load Try.isAgg3 rfl (h)) ?_
  refine vl_valg rfl (os_gtr rfl rfl) ?_
  refine vl_val (os_pick_t rfl rfl) ?_
  refine vl_val (os_assign rfl) ?_
  refine vl_nil ?_
  refine v_ret ?_
  exact post_ret rfl rfl (⟨rfl, rfl⟩)
theorem guess_Parts0 (p : Option Addr) (w : World) (h : Gives Try.prog 58 #[.pointer p] w fun v w' => v = .bool false ∧ w' = w) : Gives Try.prog 25 #[.pointer p] w fun v w' => v = .slice none 0 0 ∧ w' = w := by
  refine gives_enter Try.call25 Try.func25 rfl rfl rfl (by kernel_rfl) ?_
  refine v_seq ?_
  refine v_region ?_
  refine vl_val (os_assign rfl) ?_
  refine vl_nil ?_
  refine v_seq ?_
  refine v_seq ?_
  refine v_region ?_
  refine vl_val (os_move rfl) ?_
  refine vl_call (h) rfl ?_
  rintro v w ⟨rfl, rfl⟩
  refine vl_val (os_not rfl) ?_
  refine vl_nil ?_
  refine v_cond_t rfl ?_
  refine v_seq ?_
  refine v_region ?_
  refine vl_val (os_assign rfl) ?_
  refine vl_nil ?_
  refine v_ret ?_
  exact post_ret rfl rfl (⟨rfl, rfl⟩)
end Go.Proofs.Ytpjmiafefammkaa
