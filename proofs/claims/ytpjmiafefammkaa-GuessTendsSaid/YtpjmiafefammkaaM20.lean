/- Texts joined: GsU. -/
import Derived.Test.YtpjmiafefammkaaM19
/- Layer 24: the walk of GuessTends. -/
namespace Go.Proofs.Ytpjmiafefammkaa
open Go.RowKit
set_option linter.unusedVariables false

theorem GS.below {w w' g ps st n sq B} (h : GS w g ps st n sq) (hb : Below B w w') (hg : g < B) : GS w' g ps st n sq := ⟨h.bk.below hb hg, h.len, h.n, h.row⟩
theorem OwnK.blk {w w' : World} {B : Nat} {t : TypeId} {k : IntKind} {v : Value} {zs : List Int} (h : OwnK w B t k v zs) (hb : ∀ k, v.ownBlock = some k → w'.heap[k]? = w.heap[k]?) : OwnK w' B t k v zs := by
  refine ⟨h.1, ?_⟩
  rcases h.2 with hn | ⟨g, cap, cur, rfl, hB0, hgg, rest⟩
  · exact .inl hn
  · exact .inr ⟨g, cap, cur, rfl, hB0, (hb g rfl).trans hgg, rest⟩
theorem getD_bd {zs : List Int} (h : ∀ z ∈ zs, 0 ≤ z ∧ z ≤ 65536) (i : Nat) : 0 ≤ zs.getD i 0 ∧ zs.getD i 0 ≤ 65536 := by
  rw [List.getD_eq_getElem?_getD]
  by_cases hi : i < zs.length
  · rw [List.getElem?_eq_getElem hi]; exact h _ (List.getElem_mem _)
  · rw [List.getElem?_eq_none (by omega)]; decide
theorem LeD.trans_ {a b c : World} (h : LeD a b) (h2 : LeD b c) : LeD a c := lee_d.trans h h2
/-- the report in its round -/
def inRound (d : NoteV) (n t : Int) : NoteV := ⟨7, t, n, d.A, d.l, d.c, d.cs⟩
theorem inRound_ok {w : World} {d : NoteV} {n t : Int} (h : NoteOk w d) (hn : I64 n) (ht : I64 t) : NoteOk w (inRound d n t) := ⟨h.1, h.2.1, h.2.2.1, ⟨I64_7, ht, hn⟩, h.2.2.2.2⟩
theorem inRound_right {d : NoteV} {n t : Int} (hr : RightD (inRound d n 1)) (ht : 1 ≤ t ∧ t ≤ 200) : RightD (inRound d n t) := ⟨hr.st, by show 1 ≤ t ∧ t ≤ _; omega, hr.n, hr.cnt⟩
theorem inRound_why {d : NoteV} {n t : Int} (hr : RightD (inRound d n 1)) (hl : 0 < d.l) (ht : 0 ≤ t ∧ t ≤ 150) : whyN 7 n t (inRound d n (t + 1)) = 0 :=
  why_ok.2 ⟨right_iff.2 (inRound_right hr (by omega)), rfl, rfl, by show t < t + 1; omega, hl⟩

set_option maxHeartbeats 8000000 in
set_option maxRecDepth 100000 in
theorem law24_GuessTends (n : Int) (d : NoteV) (y : Int) (w : World) (hn : I64 n) (hd : NoteOk w d) (hy : I64 y) : Gives Try.prog 6 #[.int .i64 n, .agg d.cells.toArray, .int .i64 y] w fun v w' => v = .bool true ∧ Below w.heap.size w w' := by
  have hB0 := bk_new w d.cells 35
  have hb0 : Below w.heap.size w (w.alloc (.cells d.cells.toArray 35)) := (Below.refl _ w).alloc (Nat.le_refl _) _
  have hl := hd.2.1
  have i1 : I64 1 := I64_1
  refine gives_enter Try.call6 Try.func6 rfl rfl rfl (by kernel_rfl) ?_
  refine v_seq ?_
  refine v_region ?_
  refine vl_val (os_box rfl) ?_
  refine vl_val (os_assign rfl) ?_
  refine vl_nil ?_
  refine v_seq ?_
  refine v_seq ?_
  refine v_region ?_
  refine vl_call (law24_awake _) rfl ?_
  rintro v1 w1 ⟨rfl, b1⟩
  have hB1 := hB0.keep b1
  have b1w := hb0.trans (b1.mono hb0.size)
  have hR0 : w.heap.size < w1.heap.size := hB1.lt
  refine vl_val (os_not rfl) ?_
  refine vl_nil ?_
  refine v_cond_f rfl ?_
  refine v_skip ?_
  refine v_seq ?_
  refine v_seq ?_
  refine v_region ?_
  refine vl_val (os_loadB Try.underlying35 rfl (by kernel_rfl) rfl (hB1)) ?_
  refine vl_some (ot_litS (css := [d.cells]) Try.underlying22 Try.sizeOf35 Try.zeroValue35 rfl rfl (by intro c hc; simp at hc; subst hc; rfl) (by simp) (by decide) (by decide)) ?_
  rintro v2 w2 ⟨rfl, r2, s2, b2⟩
  have b2w := b1w.trans (Below.mono b2 b1w.size)
  refine vl_call (law24_size (some ⟨w1.heap.size, 0, none⟩) 1 1 [d] w2 ⟨r2, fun e he => by rw [List.mem_singleton.1 he]; exact hd.keep b2w⟩ rfl (by decide)) rfl ?_
  rintro v3 w2 ⟨⟨z, rfl, iz, -⟩, rfl⟩
  have hB2 := hB1.keep b2
  refine vl_val (os_gtr rfl rfl) ?_
  refine vl_nil ?_
  refine v_cond_d rfl (fun hz => ?_) (fun hz => ?_)
  · refine v_seq ?_
    refine v_region ?_
    refine vl_val (os_assign rfl) ?_
    refine vl_nil ?_
    refine v_ret ?_
    exact post_ret rfl rfl (⟨rfl, b2w⟩)
  · cases hno : newOk 7 n
    · refine v_skip ?_
      refine v_seq ?_
      refine v_region ?_
      refine vl_val (os_move rfl) ?_
      refine vl_call (guess_NewN 7 n w2 I64_7 hn hno) rfl ?_
      rintro v3 w3 ⟨rfl, b3⟩
      refine vl_val (os_move rfl) ?_
      refine vl_val (os_extract rfl rfl) ?_
      refine vl_val (os_extract rfl rfl) ?_
      refine vl_val (os_assign rfl) ?_
      refine vl_val (os_assign rfl) ?_
      refine vl_nil ?_
      refine v_seq ?_
      refine v_region ?_
      refine vl_val (os_move rfl) ?_
      refine vl_call (guess_NewN 7 n w3 I64_7 hn hno) rfl ?_
      rintro v4 w4 ⟨rfl, b4⟩
      have b24 := b3.trans (b4.mono b3.size)
      have hB4 := hB2.keep b24
      have b4w := b2w.trans (b24.mono b2w.size)
      refine vl_val (os_move rfl) ?_
      refine vl_val (os_extract rfl rfl) ?_
      refine vl_val (os_extract rfl rfl) ?_
      refine vl_val (os_assign rfl) ?_
      refine vl_val (os_assign rfl) ?_
      refine vl_nil ?_
      refine v_seq ?_
      refine v_region ?_
      refine vl_val (os_fa (o := 0) (k := 0) (by kernel_rfl) rfl) ?_
      refine vl_unit (ou_store Try.sizeOf3 rfl rfl rfl (hB4.cell (i := 0) rfl) (hB4.free _)) ?_
      refine vl_nil ?_
      refine v_seq ?_
      refine v_region ?_
      refine vl_val (os_move rfl) ?_
      refine vl_val (os_fa (o := 2) (k := 0) (by kernel_rfl) rfl) ?_
      refine vl_unit (ou_store Try.sizeOf3 rfl rfl rfl ((hB4.set 0 _).cell (i := 2) rfl) ((hB4.set 0 _).free _)) ?_
      refine vl_nil ?_
      refine v_seq ?_
      refine v_region ?_
      refine vl_val (os_fa (o := 1) (k := 0) (by kernel_rfl) rfl) ?_
      refine vl_unit (ou_store Try.sizeOf3 rfl rfl rfl (((hB4.set 0 _).set 2 _).cell (i := 1) rfl) (((hB4.set 0 _).set 2 _).free _)) ?_
      refine vl_nil ?_
      refine v_seq ?_
      refine v_seq ?_
      refine v_region ?_
      refine vl_val (os_move rfl) ?_
      refine vl_val (os_t (os_neq rfl rfl) (by decide)) ?_
      refine vl_val (os_move rfl) ?_
      refine vl_skip rfl rfl ?_
      refine vl_skip rfl rfl ?_
      refine vl_skip rfl rfl ?_
      refine vl_val (os_pick_t rfl rfl) ?_
      refine vl_val (os_move rfl) ?_
      refine vl_skip rfl rfl ?_
      refine vl_skip rfl rfl ?_
      refine vl_skip rfl rfl ?_
      refine vl_skip rfl rfl ?_
      refine vl_val (os_pick_t rfl rfl) ?_
      refine vl_nil ?_
      refine v_cond_t rfl ?_
      refine v_seq ?_
      refine v_region ?_
      refine vl_val (os_assign rfl) ?_
      refine vl_nil ?_
      refine v_ret ?_
      exact post_ret rfl rfl (⟨rfl, below_set (below_set (below_set b4w (Nat.le_refl _) _ _) (Nat.le_refl _) _ _) (Nat.le_refl _) _ _⟩)
    · refine v_skip ?_
      refine v_seq ?_
      refine v_region ?_
      refine vl_val (os_move rfl) ?_
      refine vl_call (guess_NewY 7 n w2 I64_7 hn hno) rfl ?_
      rintro v3 w3 ⟨rfl, hG3, b3⟩
      refine vl_val (os_move rfl) ?_
      refine vl_val (os_extract rfl rfl) ?_
      refine vl_val (os_extract rfl rfl) ?_
      refine vl_val (os_assign rfl) ?_
      refine vl_val (os_assign rfl) ?_
      refine vl_nil ?_
      refine v_seq ?_
      refine v_region ?_
      refine vl_val (os_move rfl) ?_
      refine vl_call (guess_NewY 7 n w3 I64_7 hn hno) rfl ?_
      rintro v4 w4 ⟨rfl, hO4, b4⟩
      have hG4 := hG3.keep b4
      have b24 := b3.trans (b4.mono b3.size)
      have hB4 := hB2.keep b24
      have b4w := b2w.trans (b24.mono b2w.size)
      have hnn := hG3.n
      have g3 : w2.heap.size < w3.heap.size := hG3.bk.lt
      have g4 : w3.heap.size < w4.heap.size := hO4.bk.lt
      have g2 : w1.heap.size ≤ w2.heap.size := by omega
      obtain ⟨g, hg⟩ : ∃ g, g = w2.heap.size := ⟨_, rfl⟩
      obtain ⟨o, ho⟩ : ∃ o, o = w3.heap.size := ⟨_, rfl⟩
      rw [← hg] at hG4 g3
      rw [← ho] at hO4 g3
      rw [← hg, ← ho]
      refine vl_val (os_move rfl) ?_
      refine vl_val (os_extract rfl rfl) ?_
      refine vl_val (os_extract rfl rfl) ?_
      refine vl_val (os_assign rfl) ?_
      refine vl_val (os_assign rfl) ?_
      refine vl_nil ?_
      refine v_seq ?_
      refine v_region ?_
      refine vl_val (os_fa (o := 0) (k := 0) (by kernel_rfl) rfl) ?_
      refine vl_unit (ou_store Try.sizeOf3 rfl rfl rfl (hB4.cell (i := 0) rfl) (hB4.free _)) ?_
      refine vl_nil ?_
      refine v_seq ?_
      refine v_region ?_
      refine vl_val (os_move rfl) ?_
      refine vl_val (os_fa (o := 2) (k := 0) (by kernel_rfl) rfl) ?_
      refine vl_unit (ou_store Try.sizeOf3 rfl rfl rfl ((hB4.set 0 _).cell (i := 2) rfl) ((hB4.set 0 _).free _)) ?_
      refine vl_nil ?_
      refine v_seq ?_
      refine v_region ?_
      refine vl_val (os_fa (o := 1) (k := 0) (by kernel_rfl) rfl) ?_
      refine vl_unit (ou_store Try.sizeOf3 rfl rfl rfl (((hB4.set 0 _).set 2 _).cell (i := 1) rfl) (((hB4.set 0 _).set 2 _).free _)) ?_
      have hB5 := ((hB4.set 0 (.int .i64 7)).set 2 (.int .i64 n)).set 1 (.int .i64 1)
      have b5w := below_set (below_set (below_set b4w (Nat.le_refl w.heap.size) (0 + 0) (.int .i64 7)) (Nat.le_refl _) (0 + 2) (.int .i64 n)) (Nat.le_refl _) (0 + 1) (.int .i64 1)
      have k45 : Kb [w.heap.size] w4 (((w4.setCell ⟨w.heap.size, 0 + 0, none⟩ (.int .i64 7)).setCell ⟨w.heap.size, 0 + 2, none⟩ (.int .i64 n)).setCell ⟨w.heap.size, 0 + 1, none⟩ (.int .i64 1)) := (Kb.set (S := [w.heap.size]) (by simp) _ _).trans ((Kb.set (S := [w.heap.size]) (by simp) _ _).trans (Kb.set (S := [w.heap.size]) (by simp) _ _) (fun k hk => .inl hk)) (fun k hk => .inl hk)
      generalize hw5 : ((w4.setCell ⟨w.heap.size, 0 + 0, none⟩ (.int .i64 7)).setCell ⟨w.heap.size, 0 + 2, none⟩ (.int .i64 n)).setCell ⟨w.heap.size, 0 + 1, none⟩ (.int .i64 1) = w5 at *
      have hG5 := hG4.kb k45 (by simp; omega)
      have hO5 := hO4.kb k45 (by simp; omega)
      have s5 := k45.size
      have hB5 : Bk w5 w.heap.size (inRound d n 1).cells 35 := hB5
      have hd5 := inRound_ok (hd.keep b5w) hn i1
      refine vl_nil ?_
      cases hR : rightN (inRound d n 1)
      · refine v_seq ?_
        refine v_seq ?_
        refine v_region ?_
        refine vl_val (os_move rfl) ?_
        refine vl_val (os_f (os_neq rfl rfl) (by decide)) ?_
        refine vl_val (os_move rfl) ?_
        refine vl_valg rfl (os_loadB Try.underlying35 rfl (by kernel_rfl) rfl (hB5)) ?_
        refine vl_callg rfl (gives_boolb (guess_Right (inRound d n 1) w5 hd5) hR) rfl ?_
        rintro v6 w6 ⟨rfl, b6⟩
        refine vl_valg rfl (os_not rfl) ?_
        refine vl_val (os_pick_f rfl rfl) ?_
        refine vl_val (os_move rfl) ?_
        refine vl_skip rfl rfl ?_
        refine vl_skip rfl rfl ?_
        refine vl_skip rfl rfl ?_
        refine vl_skip rfl rfl ?_
        refine vl_val (os_pick_t rfl rfl) ?_
        refine vl_nil ?_
        refine v_cond_t rfl ?_
        refine v_seq ?_
        refine v_region ?_
        refine vl_val (os_assign rfl) ?_
        refine vl_nil ?_
        refine v_ret ?_
        exact post_ret rfl rfl (⟨rfl, b5w.trans (b6.mono b5w.size)⟩)
      · by_cases hl0 : d.l = 0
        · refine v_seq ?_
          refine v_seq ?_
          refine v_region ?_
          refine vl_val (os_move rfl) ?_
          refine vl_val (os_f (os_neq rfl rfl) (by decide)) ?_
          refine vl_val (os_move rfl) ?_
          refine vl_valg rfl (os_loadB Try.underlying35 rfl (by kernel_rfl) rfl (hB5)) ?_
          refine vl_callg rfl (gives_boolb (guess_Right (inRound d n 1) w5 hd5) hR) rfl ?_
          rintro v6 w6 ⟨rfl, b6⟩
          refine vl_valg rfl (os_not rfl) ?_
          refine vl_val (os_pick_f rfl rfl) ?_
          refine vl_val (os_move rfl) ?_
          refine vl_valg rfl (os_fa (o := 3) (k := 0) (by kernel_rfl) rfl) ?_
          refine vl_valg rfl (os_load Try.isAgg33 rfl ((hB5.keep b6).cell (i := 3) rfl)) ?_
          refine vl_valg rfl (os_len Try.underlying33 rfl) ?_
          refine vl_valg rfl (os_eql rfl rfl) ?_
          refine vl_val (os_pick_f rfl rfl) ?_
          refine vl_nil ?_
          refine v_cond_yes rfl (by show ((d.l : Nat) : Int) = 0; omega) ?_
          refine v_seq ?_
          refine v_region ?_
          refine vl_val (os_assign rfl) ?_
          refine vl_nil ?_
          refine v_ret ?_
          exact post_ret rfl rfl (⟨rfl, b5w.trans (b6.mono b5w.size)⟩)
        · refine v_seq ?_
          refine v_seq ?_
          refine v_region ?_
          refine vl_val (os_move rfl) ?_
          refine vl_val (os_f (os_neq rfl rfl) (by decide)) ?_
          refine vl_val (os_move rfl) ?_
          refine vl_valg rfl (os_loadB Try.underlying35 rfl (by kernel_rfl) rfl (hB5)) ?_
          refine vl_callg rfl (gives_boolb (guess_Right (inRound d n 1) w5 hd5) hR) rfl ?_
          rintro v6 w6 ⟨rfl, b6⟩
          refine vl_valg rfl (os_not rfl) ?_
          refine vl_val (os_pick_f rfl rfl) ?_
          refine vl_val (os_move rfl) ?_
          refine vl_valg rfl (os_fa (o := 3) (k := 0) (by kernel_rfl) rfl) ?_
          refine vl_valg rfl (os_load Try.isAgg33 rfl ((hB5.keep b6).cell (i := 3) rfl)) ?_
          refine vl_valg rfl (os_len Try.underlying33 rfl) ?_
          refine vl_valg rfl (os_eql rfl rfl) ?_
          refine vl_val (os_pick_f rfl rfl) ?_
          refine vl_nil ?_
          refine v_cond_no rfl (by show ¬ ((d.l : Nat) : Int) = 0; omega) ?_
          have hB6 := hB5.keep b6
          have hrd := right_iff.1 hR
          have b6w := b5w.trans (b6.mono b5w.size)
          refine v_skip ?_
          refine v_seq ?_
          refine v_region ?_
          refine vl_val (os_loadB Try.underlying35 rfl (by kernel_rfl) rfl (hB6)) ?_
          refine vl_call (law24_shares (inRound d n 1) w6 (hd5.keep b6) hrd) rfl ?_
          rintro v7 w7 ⟨o7, b7⟩
          refine vl_val (os_assign rfl) ?_
          refine vl_nil ?_
          refine v_seq ?_
          refine v_region ?_
          refine vl_val (os_move rfl) ?_
          refine vl_call (kit_Pick y 50 w7 (by decide)) rfl ?_
          rintro v8 w7 ⟨rfl, rfl⟩
          have hk := pick50 y
          obtain ⟨p, hp⟩ : ∃ p, p = pickV y 50 := ⟨_, rfl⟩
          rw [← hp] at hk
          rw [← hp]
          obtain ⟨AX, cX, rfl, -, -, rX, -⟩ := OwnK.form o7
          have hXl : (saysL (inRound d n 1).n (inRound d n 1).cs).length = n.toNat + 1 := saysL_len _ _
          have hXr : rowB (saysL (inRound d n 1).n (inRound d n 1).cs) = true := saysL_row (by show n ≤ 255; omega)
          have hmore : ∀ k : Int, 1 ≤ k → (∀ c ∈ d.cs, k * c.2 ≤ 65535) → saysL n (moreC k d.cs) = saysL (inRound d n 1).n (inRound d n 1).cs := fun k h1 h2 => says_more (d := inRound d n 1) h1 hrd (by show 0 < d.cs.length; omega) h2
          have hsame : ∀ t, saysL n (inRound d n t).cs = saysL (inRound d n 1).n (inRound d n 1).cs := fun t => rfl
          generalize hX : saysL (inRound d n 1).n (inRound d n 1).cs = X at *
          have hB7 : Bk w7 w.heap.size [.int .i64 7, .int .i64 1, .int .i64 n, .slice d.A d.l d.c] 35 := hB6.keep b7
          have b7w := b6w.trans (b7.mono b6w.size)
          have b57 := b6.trans (b7.mono b6.size)
          have hG7 := hG5.keep b57
          have hO7 := hO5.keep b57
          have s6 := b6.size
          have s7 := b7.size
          have hxl := World.ownsRow.lt o7
          refine vl_val (os_addi rfl rfl (by omega)) ?_
          refine vl_val (os_assign rfl) ?_
          refine vl_nil ?_
          refine v_seq ?_
          refine v_region ?_
          refine vl_val (os_move rfl) ?_
          refine vl_val (os_build (cs := [.int .i64 7, .int .i64 0, .int .i64 n, .slice none 0 0]) rfl (by kernel_rfl)) ?_
          refine vl_val (os_allocB Try.zeroValue35 (zc := _) (cs := [.int .i64 0, .int .i64 0, .int .i64 0, .slice none 0 0]) rfl) ?_
          have hM0 := bk_new w7 [.int .i64 0, .int .i64 0, .int .i64 0, .slice none 0 0] 35
          have b8a : Below w7.heap.size w7 (w7.alloc (.cells [Value.int .i64 0, .int .i64 0, .int .i64 0, .slice none 0 0].toArray 35)) := (Below.refl _ _).alloc (Nat.le_refl _) _
          refine vl_unit (ou_storeB (by kernel_rfl) rfl rfl hM0 rfl rfl) ?_
          have hM8 := setRow_bk hM0 [.int .i64 7, .int .i64 0, .int .i64 n, .slice none 0 0]
          have b8 := below_setRow b8a (Nat.le_refl _) [Value.int .i64 7, .int .i64 0, .int .i64 n, .slice none 0 0].toArray
          obtain ⟨M, hM⟩ : ∃ M, M = w7.heap.size := ⟨_, rfl⟩
          generalize hw8 : (w7.alloc (.cells [Value.int .i64 0, .int .i64 0, .int .i64 0, .slice none 0 0].toArray 35)).setRow w7.heap.size [Value.int .i64 7, .int .i64 0, .int .i64 n, .slice none 0 0].toArray = w8 at *
          rw [← hM] at hM8 b8
          rw [← hM]
          have b8w : Below w.heap.size w w8 := b7w.trans (b8.mono (by omega))
          have hMl : M < w8.heap.size := hM8.lt
          refine vl_nil ?_
          refine v_seq ?_
          refine v_region ?_
          refine vl_val (os_assign rfl) ?_
          refine vl_nil ?_
          refine v_seq ?_
          refine v_seq ?_
          refine v_region ?_
          refine vl_val (os_assign rfl) ?_
          refine vl_nil ?_
          refine v_block ?_
          refine v_loop2 [(4, _), (7, _), (9, _), (11, _), (12, _), (13, _)] (fun (F : Bool) (i : Nat) => [(14, .bool F), (15, .int .i64 i)]) (fun F i w' => i ≤ d.l ∧ F = fitB (1 + p) (d.cs.take i) ∧ Below M w7 w' ∧ ∃ V, Bk w' M [.int .i64 7, .int .i64 0, .int .i64 n, V] 35 ∧ OwnP w' (M + 1) 49 2 V ((moreC (1 + p) (d.cs.take i)).map rowC) ∧ M < w'.heap.size) (fun F i => d.l - i) (true) (0) ⟨rfl, rfl, rfl, rfl, rfl, rfl, trivial⟩ ⟨rfl, rfl, trivial⟩ (⟨by omega, rfl, b8, _, hM8, OwnP.nil, hMl⟩) ?_
          rintro F i w9 ⟨hi, hF, b9, V, hM9, hV9, hM9l⟩
          have hB9 := hB7.below b9 (by omega)
          have b9w : Below w.heap.size w w9 := b7w.trans (b9.mono (by omega))
          refine v_seq ?_
          refine v_seq ?_
          refine v_region ?_
          refine vl_val (os_move rfl) ?_
          refine vl_val (os_fa (o := 3) (k := 0) (by kernel_rfl) rfl) ?_
          refine vl_val (os_load Try.isAgg33 rfl (hB9.cell (i := 3) rfl)) ?_
          refine vl_val (os_len Try.underlying33 rfl) ?_
          refine vl_val (os_lss rfl rfl) ?_
          refine vl_nil ?_
          by_cases hil : i < d.l
          · refine v_cond_yes rfl (by omega) ?_
            have hd9 := hd.keep b9w
            obtain ⟨b, of, eA, q1, q2, q3⟩ := hd9.1.at2 (i := i) (by omega)
            have hci := (cnt_all hrd.cnt).1 (d.cs.getD i (0, 0)) (by show _ ∈ d.cs; rw [List.getD_eq_getElem?_getD, List.getElem?_eq_getElem (by omega)]; exact List.getElem_mem _)
            have hmul := tend_mul hk hci.2.2
            rw [eA] at hB9
            have b0 : Below w9.heap.size w9 { w9 with drawn := w9.drawn + 1 } := (Below.refl _ _).drew
            have hlc := (cnt_all hrd.cnt).2 (by show (0 : Int) ≤ n; omega)
            have hlc : (d.cs.length : Int) ≤ n := by have : (0 : Int) + (d.cs.length : Int) ≤ n := hlc; omega
            have hrl : ((moreC (1 + p) (d.cs.take i)).map rowC).length = i := by simp [moreC_len]; omega
            refine v_skip ?_
            refine v_seq ?_
            refine v_block ?_
            refine v_mid [(4, _), (7, _), (9, _), (11, _), (13, _), (14, _), (15, _)] (fun (x : Nat) => [(12, .int .i64 (1 + p))]) (fun x w' => Below M w7 w' ∧ ∃ V, Bk w' M [.int .i64 7, .int .i64 0, .int .i64 n, V] 35 ∧ OwnP w' (M + 1) 49 2 V ((moreC (1 + p) (d.cs.take (i + 1))).map rowC) ∧ M < w'.heap.size) ⟨rfl, rfl, rfl, rfl, rfl, rfl, rfl, trivial⟩ ?_ ?_
            · refine v_region_a mixed ?_
              refine va_pure 0 rfl (by kernel_rfl) (by kernel_rfl) (by kernel_rfl) (fun w => (os_fa (o := 3) (k := 0) (by kernel_rfl) rfl)) ?_
              refine va_pure 2 rfl (by kernel_rfl) (by kernel_rfl) (by kernel_rfl) (fun w => (os_fa (o := 3) (k := 0) (by kernel_rfl) rfl)) ?_
              refine va_pure 4 rfl (by kernel_rfl) (by kernel_rfl) (by kernel_rfl) (fun w => (os_move rfl)) ?_
              refine va_pure 8 rfl (by kernel_rfl) (by kernel_rfl) (by kernel_rfl) (fun w => (os_move rfl)) ?_
              refine va_pure 9 rfl (by kernel_rfl) (by kernel_rfl) (by kernel_rfl) (fun w => (os_fa (o := 3) (k := 0) (by kernel_rfl) rfl)) ?_
              refine va_pure 11 rfl (by kernel_rfl) (by kernel_rfl) (by kernel_rfl) (fun w => (os_move rfl)) ?_
              refine va_three 1 3 10 (by kernel_rfl) ?_ ?_ ?_
              · refine vn_val rfl (os_load Try.isAgg33 rfl ((by first | exact (hM9.keep b84w).cell (i := 3) rfl | exact (hM9.keep b0).cell (i := 3) rfl))) ?_
                refine va_two 3 10 (by kernel_rfl) ?_ ?_
                · refine vn_val rfl (os_load Try.isAgg33 rfl ((hB9.keep b0).cell (i := 3) rfl)) ?_
                  refine va_pure 5 rfl (by kernel_rfl) (by kernel_rfl) (by kernel_rfl) (fun w => (os_ixs Try.underlying33 Try.sizeOf49 rfl rfl (i := i) (by omega) (by omega))) ?_
                  refine va_pure 6 rfl (by kernel_rfl) (by kernel_rfl) (by kernel_rfl) (fun w => (os_fa (o := 0) (k := 0) (by kernel_rfl) rfl)) ?_
                  refine va_two 7 10 (by kernel_rfl) ?_ ?_
                  · refine vn_val rfl (os_load Try.isAgg3 rfl (q1)) ?_
                    refine va_one 10 (by kernel_rfl) ?_
                    refine vn_val rfl (os_load Try.isAgg33 rfl ((hB9.keep b0).cell (i := 3) rfl)) ?_
                    refine va_pure 12 rfl (by kernel_rfl) (by kernel_rfl) (by kernel_rfl) (fun w => (os_ixs Try.underlying33 Try.sizeOf49 rfl rfl (i := i) (by omega) (by omega))) ?_
                    refine va_pure 13 rfl (by kernel_rfl) (by kernel_rfl) (by kernel_rfl) (fun w => (os_fa (o := 1) (k := 0) (by kernel_rfl) rfl)) ?_
                    refine va_one 14 (by kernel_rfl) ?_
                    refine vn_val rfl (os_load Try.isAgg3 rfl (q2)) ?_
                    refine va_pure 15 rfl (by kernel_rfl) (by kernel_rfl) (by kernel_rfl) (fun w => (os_muli rfl rfl (by omega))) ?_
                    refine va_pure 16 rfl (by kernel_rfl) (by kernel_rfl) (by kernel_rfl) (fun w => (os_build (cs := [.int .i64 (d.cs.getD i (0, 0)).1, .int .i64 ((1 + p) * (d.cs.getD i (0, 0)).2)]) rfl (by kernel_rfl))) ?_
                    refine va_one 17 (by kernel_rfl) ?_
                    refine vn_some rfl (ot_litS (css := [[.int .i64 (d.cs.getD i (0, 0)).1, .int .i64 ((1 + p) * (d.cs.getD i (0, 0)).2)]]) Try.underlying33 Try.sizeOf49 Try.zeroValue49 rfl rfl (by intro c hc; simp at hc; subst hc; rfl) (by decide) (by decide) (by decide)) ?_
                    rintro v84 w84 ⟨rfl, r84, s84, b84⟩
                    have b84w : Below w9.heap.size w9 w84 := b0.trans b84
                    have hM84 := hM9.keep b84w
                    have hV84 := hV9.keepAll b84w
                    have b79 : Below M w7 w84 := b9.trans (b84w.mono (by omega))
                    refine va_one 18 (by kernel_rfl) ?_
                    refine vn_some rfl (ot_append_pn Try.underlying33 ti_wCounts rfl (by decide) rfl rfl hV84 r84 (by intro c hc; simp at hc; subst hc; rfl) rfl (by intro c hc u hu; simp at hc; subst hc; simp at hu; rcases hu with rfl | rfl <;> rfl) (by rw [hrl]; omega) (by rw [hrl]; simp only [maxLen]; omega) (by have := b84w.size; omega)) ?_
                    rintro v85 w85 ⟨ho85, hg85⟩
                    have hvl := hV84.lt
                    have hM85 := hM84.grown hg85 (fun e => by have := (hvl M e.symm).1; omega)
                    have b85 : Below M w7 w85 := b79.grown hg85 (by have := b84w.size; omega) (fun k hk => by have := (hvl k hk).1; omega)
                    have hl85 := hM85.lt
                    have hv85 := ho85.lt
                    refine va_pure 19 rfl (by kernel_rfl) (by kernel_rfl) (by kernel_rfl) (fun w => (os_fa (o := 3) (k := 0) (by kernel_rfl) rfl)) ?_
                    refine va_one 20 (by kernel_rfl) ?_
                    refine vn_unit rfl (ou_store Try.sizeOf33 rfl rfl (OwnP.one ho85) (hM85.cell (i := 3) rfl) (hM85.free _)) ?_
                    refine va_done (by kernel_rfl) ?_
                    exact ⟨0, ⟨rfl, rfl, rfl, rfl, rfl, rfl, rfl, trivial⟩, ⟨rfl, trivial⟩, ⟨below_set b85 (Nat.le_refl _) _ _, v85, hM85.set 3 v85, by rw [moreC_take (by omega), List.map_append]; exact ho85.blk fun k hk => Below.heap_setCell _ _ _ _ (fun e => by have := (hv85 k hk).1; simp at e; omega), by simpa [World.setCell] using hl85⟩⟩
                  · refine vn_val rfl (os_load Try.isAgg33 rfl ((hB9.keep b0).cell (i := 3) rfl)) ?_
                    refine va_pure 12 rfl (by kernel_rfl) (by kernel_rfl) (by kernel_rfl) (fun w => (os_ixs Try.underlying33 Try.sizeOf49 rfl rfl (i := i) (by omega) (by omega))) ?_
                    refine va_pure 13 rfl (by kernel_rfl) (by kernel_rfl) (by kernel_rfl) (fun w => (os_fa (o := 1) (k := 0) (by kernel_rfl) rfl)) ?_
                    refine va_two 7 14 (by kernel_rfl) ?_ ?_
                    · refine vn_val rfl (os_load Try.isAgg3 rfl (q1)) ?_
                      refine va_one 14 (by kernel_rfl) ?_
                      refine vn_val rfl (os_load Try.isAgg3 rfl (q2)) ?_
                      refine va_pure 15 rfl (by kernel_rfl) (by kernel_rfl) (by kernel_rfl) (fun w => (os_muli rfl rfl (by omega))) ?_
                      refine va_pure 16 rfl (by kernel_rfl) (by kernel_rfl) (by kernel_rfl) (fun w => (os_build (cs := [.int .i64 (d.cs.getD i (0, 0)).1, .int .i64 ((1 + p) * (d.cs.getD i (0, 0)).2)]) rfl (by kernel_rfl))) ?_
                      refine va_one 17 (by kernel_rfl) ?_
                      refine vn_some rfl (ot_litS (css := [[.int .i64 (d.cs.getD i (0, 0)).1, .int .i64 ((1 + p) * (d.cs.getD i (0, 0)).2)]]) Try.underlying33 Try.sizeOf49 Try.zeroValue49 rfl rfl (by intro c hc; simp at hc; subst hc; rfl) (by decide) (by decide) (by decide)) ?_
                      rintro v84 w84 ⟨rfl, r84, s84, b84⟩
                      have b84w : Below w9.heap.size w9 w84 := b0.trans b84
                      have hM84 := hM9.keep b84w
                      have hV84 := hV9.keepAll b84w
                      have b79 : Below M w7 w84 := b9.trans (b84w.mono (by omega))
                      refine va_one 18 (by kernel_rfl) ?_
                      refine vn_some rfl (ot_append_pn Try.underlying33 ti_wCounts rfl (by decide) rfl rfl hV84 r84 (by intro c hc; simp at hc; subst hc; rfl) rfl (by intro c hc u hu; simp at hc; subst hc; simp at hu; rcases hu with rfl | rfl <;> rfl) (by rw [hrl]; omega) (by rw [hrl]; simp only [maxLen]; omega) (by have := b84w.size; omega)) ?_
                      rintro v85 w85 ⟨ho85, hg85⟩
                      have hvl := hV84.lt
                      have hM85 := hM84.grown hg85 (fun e => by have := (hvl M e.symm).1; omega)
                      have b85 : Below M w7 w85 := b79.grown hg85 (by have := b84w.size; omega) (fun k hk => by have := (hvl k hk).1; omega)
                      have hl85 := hM85.lt
                      have hv85 := ho85.lt
                      refine va_pure 19 rfl (by kernel_rfl) (by kernel_rfl) (by kernel_rfl) (fun w => (os_fa (o := 3) (k := 0) (by kernel_rfl) rfl)) ?_
                      refine va_one 20 (by kernel_rfl) ?_
                      refine vn_unit rfl (ou_store Try.sizeOf33 rfl rfl (OwnP.one ho85) (hM85.cell (i := 3) rfl) (hM85.free _)) ?_
                      refine va_done (by kernel_rfl) ?_
                      exact ⟨0, ⟨rfl, rfl, rfl, rfl, rfl, rfl, rfl, trivial⟩, ⟨rfl, trivial⟩, ⟨below_set b85 (Nat.le_refl _) _ _, v85, hM85.set 3 v85, by rw [moreC_take (by omega), List.map_append]; exact ho85.blk fun k hk => Below.heap_setCell _ _ _ _ (fun e => by have := (hv85 k hk).1; simp at e; omega), by simpa [World.setCell] using hl85⟩⟩
                    · refine vn_val rfl (os_load Try.isAgg3 rfl (q2)) ?_
                      refine va_pure 15 rfl (by kernel_rfl) (by kernel_rfl) (by kernel_rfl) (fun w => (os_muli rfl rfl (by omega))) ?_
                      refine va_one 7 (by kernel_rfl) ?_
                      refine vn_val rfl (os_load Try.isAgg3 rfl (q1)) ?_
                      refine va_pure 16 rfl (by kernel_rfl) (by kernel_rfl) (by kernel_rfl) (fun w => (os_build (cs := [.int .i64 (d.cs.getD i (0, 0)).1, .int .i64 ((1 + p) * (d.cs.getD i (0, 0)).2)]) rfl (by kernel_rfl))) ?_
                      refine va_one 17 (by kernel_rfl) ?_
                      refine vn_some rfl (ot_litS (css := [[.int .i64 (d.cs.getD i (0, 0)).1, .int .i64 ((1 + p) * (d.cs.getD i (0, 0)).2)]]) Try.underlying33 Try.sizeOf49 Try.zeroValue49 rfl rfl (by intro c hc; simp at hc; subst hc; rfl) (by decide) (by decide) (by decide)) ?_
                      rintro v84 w84 ⟨rfl, r84, s84, b84⟩
                      have b84w : Below w9.heap.size w9 w84 := b0.trans b84
                      have hM84 := hM9.keep b84w
                      have hV84 := hV9.keepAll b84w
                      have b79 : Below M w7 w84 := b9.trans (b84w.mono (by omega))
                      refine va_one 18 (by kernel_rfl) ?_
                      refine vn_some rfl (ot_append_pn Try.underlying33 ti_wCounts rfl (by decide) rfl rfl hV84 r84 (by intro c hc; simp at hc; subst hc; rfl) rfl (by intro c hc u hu; simp at hc; subst hc; simp at hu; rcases hu with rfl | rfl <;> rfl) (by rw [hrl]; omega) (by rw [hrl]; simp only [maxLen]; omega) (by have := b84w.size; omega)) ?_
                      rintro v85 w85 ⟨ho85, hg85⟩
                      have hvl := hV84.lt
                      have hM85 := hM84.grown hg85 (fun e => by have := (hvl M e.symm).1; omega)
                      have b85 : Below M w7 w85 := b79.grown hg85 (by have := b84w.size; omega) (fun k hk => by have := (hvl k hk).1; omega)
                      have hl85 := hM85.lt
                      have hv85 := ho85.lt
                      refine va_pure 19 rfl (by kernel_rfl) (by kernel_rfl) (by kernel_rfl) (fun w => (os_fa (o := 3) (k := 0) (by kernel_rfl) rfl)) ?_
                      refine va_one 20 (by kernel_rfl) ?_
                      refine vn_unit rfl (ou_store Try.sizeOf33 rfl rfl (OwnP.one ho85) (hM85.cell (i := 3) rfl) (hM85.free _)) ?_
                      refine va_done (by kernel_rfl) ?_
                      exact ⟨0, ⟨rfl, rfl, rfl, rfl, rfl, rfl, rfl, trivial⟩, ⟨rfl, trivial⟩, ⟨below_set b85 (Nat.le_refl _) _ _, v85, hM85.set 3 v85, by rw [moreC_take (by omega), List.map_append]; exact ho85.blk fun k hk => Below.heap_setCell _ _ _ _ (fun e => by have := (hv85 k hk).1; simp at e; omega), by simpa [World.setCell] using hl85⟩⟩
                · refine vn_val rfl (os_load Try.isAgg33 rfl ((hB9.keep b0).cell (i := 3) rfl)) ?_
                  refine va_pure 12 rfl (by kernel_rfl) (by kernel_rfl) (by kernel_rfl) (fun w => (os_ixs Try.underlying33 Try.sizeOf49 rfl rfl (i := i) (by omega) (by omega))) ?_
                  refine va_pure 13 rfl (by kernel_rfl) (by kernel_rfl) (by kernel_rfl) (fun w => (os_fa (o := 1) (k := 0) (by kernel_rfl) rfl)) ?_
                  refine va_two 3 14 (by kernel_rfl) ?_ ?_
                  · refine vn_val rfl (os_load Try.isAgg33 rfl ((hB9.keep b0).cell (i := 3) rfl)) ?_
                    refine va_pure 5 rfl (by kernel_rfl) (by kernel_rfl) (by kernel_rfl) (fun w => (os_ixs Try.underlying33 Try.sizeOf49 rfl rfl (i := i) (by omega) (by omega))) ?_
                    refine va_pure 6 rfl (by kernel_rfl) (by kernel_rfl) (by kernel_rfl) (fun w => (os_fa (o := 0) (k := 0) (by kernel_rfl) rfl)) ?_
                    refine va_two 7 14 (by kernel_rfl) ?_ ?_
                    · refine vn_val rfl (os_load Try.isAgg3 rfl (q1)) ?_
                      refine va_one 14 (by kernel_rfl) ?_
                      refine vn_val rfl (os_load Try.isAgg3 rfl (q2)) ?_
                      refine va_pure 15 rfl (by kernel_rfl) (by kernel_rfl) (by kernel_rfl) (fun w => (os_muli rfl rfl (by omega))) ?_
                      refine va_pure 16 rfl (by kernel_rfl) (by kernel_rfl) (by kernel_rfl) (fun w => (os_build (cs := [.int .i64 (d.cs.getD i (0, 0)).1, .int .i64 ((1 + p) * (d.cs.getD i (0, 0)).2)]) rfl (by kernel_rfl))) ?_
                      refine va_one 17 (by kernel_rfl) ?_
                      refine vn_some rfl (ot_litS (css := [[.int .i64 (d.cs.getD i (0, 0)).1, .int .i64 ((1 + p) * (d.cs.getD i (0, 0)).2)]]) Try.underlying33 Try.sizeOf49 Try.zeroValue49 rfl rfl (by intro c hc; simp at hc; subst hc; rfl) (by decide) (by decide) (by decide)) ?_
                      rintro v84 w84 ⟨rfl, r84, s84, b84⟩
                      have b84w : Below w9.heap.size w9 w84 := b0.trans b84
                      have hM84 := hM9.keep b84w
                      have hV84 := hV9.keepAll b84w
                      have b79 : Below M w7 w84 := b9.trans (b84w.mono (by omega))
                      refine va_one 18 (by kernel_rfl) ?_
                      refine vn_some rfl (ot_append_pn Try.underlying33 ti_wCounts rfl (by decide) rfl rfl hV84 r84 (by intro c hc; simp at hc; subst hc; rfl) rfl (by intro c hc u hu; simp at hc; subst hc; simp at hu; rcases hu with rfl | rfl <;> rfl) (by rw [hrl]; omega) (by rw [hrl]; simp only [maxLen]; omega) (by have := b84w.size; omega)) ?_
                      rintro v85 w85 ⟨ho85, hg85⟩
                      have hvl := hV84.lt
                      have hM85 := hM84.grown hg85 (fun e => by have := (hvl M e.symm).1; omega)
                      have b85 : Below M w7 w85 := b79.grown hg85 (by have := b84w.size; omega) (fun k hk => by have := (hvl k hk).1; omega)
                      have hl85 := hM85.lt
                      have hv85 := ho85.lt
                      refine va_pure 19 rfl (by kernel_rfl) (by kernel_rfl) (by kernel_rfl) (fun w => (os_fa (o := 3) (k := 0) (by kernel_rfl) rfl)) ?_
                      refine va_one 20 (by kernel_rfl) ?_
                      refine vn_unit rfl (ou_store Try.sizeOf33 rfl rfl (OwnP.one ho85) (hM85.cell (i := 3) rfl) (hM85.free _)) ?_
                      refine va_done (by kernel_rfl) ?_
                      exact ⟨0, ⟨rfl, rfl, rfl, rfl, rfl, rfl, rfl, trivial⟩, ⟨rfl, trivial⟩, ⟨below_set b85 (Nat.le_refl _) _ _, v85, hM85.set 3 v85, by rw [moreC_take (by omega), List.map_append]; exact ho85.blk fun k hk => Below.heap_setCell _ _ _ _ (fun e => by have := (hv85 k hk).1; simp at e; omega), by simpa [World.setCell] using hl85⟩⟩
                    · refine vn_val rfl (os_load Try.isAgg3 rfl (q2)) ?_
                      refine va_pure 15 rfl (by kernel_rfl) (by kernel_rfl) (by kernel_rfl) (fun w => (os_muli rfl rfl (by omega))) ?_
                      refine va_one 7 (by kernel_rfl) ?_
                      refine vn_val rfl (os_load Try.isAgg3 rfl (q1)) ?_
                      refine va_pure 16 rfl (by kernel_rfl) (by kernel_rfl) (by kernel_rfl) (fun w => (os_build (cs := [.int .i64 (d.cs.getD i (0, 0)).1, .int .i64 ((1 + p) * (d.cs.getD i (0, 0)).2)]) rfl (by kernel_rfl))) ?_
                      refine va_one 17 (by kernel_rfl) ?_
                      refine vn_some rfl (ot_litS (css := [[.int .i64 (d.cs.getD i (0, 0)).1, .int .i64 ((1 + p) * (d.cs.getD i (0, 0)).2)]]) Try.underlying33 Try.sizeOf49 Try.zeroValue49 rfl rfl (by intro c hc; simp at hc; subst hc; rfl) (by decide) (by decide) (by decide)) ?_
                      rintro v84 w84 ⟨rfl, r84, s84, b84⟩
                      have b84w : Below w9.heap.size w9 w84 := b0.trans b84
                      have hM84 := hM9.keep b84w
                      have hV84 := hV9.keepAll b84w
                      have b79 : Below M w7 w84 := b9.trans (b84w.mono (by omega))
                      refine va_one 18 (by kernel_rfl) ?_
                      refine vn_some rfl (ot_append_pn Try.underlying33 ti_wCounts rfl (by decide) rfl rfl hV84 r84 (by intro c hc; simp at hc; subst hc; rfl) rfl (by intro c hc u hu; simp at hc; subst hc; simp at hu; rcases hu with rfl | rfl <;> rfl) (by rw [hrl]; omega) (by rw [hrl]; simp only [maxLen]; omega) (by have := b84w.size; omega)) ?_
                      rintro v85 w85 ⟨ho85, hg85⟩
                      have hvl := hV84.lt
                      have hM85 := hM84.grown hg85 (fun e => by have := (hvl M e.symm).1; omega)
                      have b85 : Below M w7 w85 := b79.grown hg85 (by have := b84w.size; omega) (fun k hk => by have := (hvl k hk).1; omega)
                      have hl85 := hM85.lt
                      have hv85 := ho85.lt
                      refine va_pure 19 rfl (by kernel_rfl) (by kernel_rfl) (by kernel_rfl) (fun w => (os_fa (o := 3) (k := 0) (by kernel_rfl) rfl)) ?_
                      refine va_one 20 (by kernel_rfl) ?_
                      refine vn_unit rfl (ou_store Try.sizeOf33 rfl rfl (OwnP.one ho85) (hM85.cell (i := 3) rfl) (hM85.free _)) ?_
                      refine va_done (by kernel_rfl) ?_
                      exact ⟨0, ⟨rfl, rfl, rfl, rfl, rfl, rfl, rfl, trivial⟩, ⟨rfl, trivial⟩, ⟨below_set b85 (Nat.le_refl _) _ _, v85, hM85.set 3 v85, by rw [moreC_take (by omega), List.map_append]; exact ho85.blk fun k hk => Below.heap_setCell _ _ _ _ (fun e => by have := (hv85 k hk).1; simp at e; omega), by simpa [World.setCell] using hl85⟩⟩
                  · refine vn_val rfl (os_load Try.isAgg3 rfl (q2)) ?_
                    refine va_pure 15 rfl (by kernel_rfl) (by kernel_rfl) (by kernel_rfl) (fun w => (os_muli rfl rfl (by omega))) ?_
                    refine va_one 3 (by kernel_rfl) ?_
                    refine vn_val rfl (os_load Try.isAgg33 rfl ((hB9.keep b0).cell (i := 3) rfl)) ?_
                    refine va_pure 5 rfl (by kernel_rfl) (by kernel_rfl) (by kernel_rfl) (fun w => (os_ixs Try.underlying33 Try.sizeOf49 rfl rfl (i := i) (by omega) (by omega))) ?_
                    refine va_pure 6 rfl (by kernel_rfl) (by kernel_rfl) (by kernel_rfl) (fun w => (os_fa (o := 0) (k := 0) (by kernel_rfl) rfl)) ?_
                    refine va_one 7 (by kernel_rfl) ?_
                    refine vn_val rfl (os_load Try.isAgg3 rfl (q1)) ?_
                    refine va_pure 16 rfl (by kernel_rfl) (by kernel_rfl) (by kernel_rfl) (fun w => (os_build (cs := [.int .i64 (d.cs.getD i (0, 0)).1, .int .i64 ((1 + p) * (d.cs.getD i (0, 0)).2)]) rfl (by kernel_rfl))) ?_
                    refine va_one 17 (by kernel_rfl) ?_
                    refine vn_some rfl (ot_litS (css := [[.int .i64 (d.cs.getD i (0, 0)).1, .int .i64 ((1 + p) * (d.cs.getD i (0, 0)).2)]]) Try.underlying33 Try.sizeOf49 Try.zeroValue49 rfl rfl (by intro c hc; simp at hc; subst hc; rfl) (by decide) (by decide) (by decide)) ?_
                    rintro v84 w84 ⟨rfl, r84, s84, b84⟩
                    have b84w : Below w9.heap.size w9 w84 := b0.trans b84
                    have hM84 := hM9.keep b84w
                    have hV84 := hV9.keepAll b84w
                    have b79 : Below M w7 w84 := b9.trans (b84w.mono (by omega))
                    refine va_one 18 (by kernel_rfl) ?_
                    refine vn_some rfl (ot_append_pn Try.underlying33 ti_wCounts rfl (by decide) rfl rfl hV84 r84 (by intro c hc; simp at hc; subst hc; rfl) rfl (by intro c hc u hu; simp at hc; subst hc; simp at hu; rcases hu with rfl | rfl <;> rfl) (by rw [hrl]; omega) (by rw [hrl]; simp only [maxLen]; omega) (by have := b84w.size; omega)) ?_
                    rintro v85 w85 ⟨ho85, hg85⟩
                    have hvl := hV84.lt
                    have hM85 := hM84.grown hg85 (fun e => by have := (hvl M e.symm).1; omega)
                    have b85 : Below M w7 w85 := b79.grown hg85 (by have := b84w.size; omega) (fun k hk => by have := (hvl k hk).1; omega)
                    have hl85 := hM85.lt
                    have hv85 := ho85.lt
                    refine va_pure 19 rfl (by kernel_rfl) (by kernel_rfl) (by kernel_rfl) (fun w => (os_fa (o := 3) (k := 0) (by kernel_rfl) rfl)) ?_
                    refine va_one 20 (by kernel_rfl) ?_
                    refine vn_unit rfl (ou_store Try.sizeOf33 rfl rfl (OwnP.one ho85) (hM85.cell (i := 3) rfl) (hM85.free _)) ?_
                    refine va_done (by kernel_rfl) ?_
                    exact ⟨0, ⟨rfl, rfl, rfl, rfl, rfl, rfl, rfl, trivial⟩, ⟨rfl, trivial⟩, ⟨below_set b85 (Nat.le_refl _) _ _, v85, hM85.set 3 v85, by rw [moreC_take (by omega), List.map_append]; exact ho85.blk fun k hk => Below.heap_setCell _ _ _ _ (fun e => by have := (hv85 k hk).1; simp at e; omega), by simpa [World.setCell] using hl85⟩⟩
              · refine vn_val rfl (os_load Try.isAgg33 rfl ((hB9.keep b0).cell (i := 3) rfl)) ?_
                refine va_pure 5 rfl (by kernel_rfl) (by kernel_rfl) (by kernel_rfl) (fun w => (os_ixs Try.underlying33 Try.sizeOf49 rfl rfl (i := i) (by omega) (by omega))) ?_
                refine va_pure 6 rfl (by kernel_rfl) (by kernel_rfl) (by kernel_rfl) (fun w => (os_fa (o := 0) (k := 0) (by kernel_rfl) rfl)) ?_
                refine va_three 1 7 10 (by kernel_rfl) ?_ ?_ ?_
                · refine vn_val rfl (os_load Try.isAgg33 rfl ((by first | exact (hM9.keep b84w).cell (i := 3) rfl | exact (hM9.keep b0).cell (i := 3) rfl))) ?_
                  refine va_two 7 10 (by kernel_rfl) ?_ ?_
                  · refine vn_val rfl (os_load Try.isAgg3 rfl (q1)) ?_
                    refine va_one 10 (by kernel_rfl) ?_
                    refine vn_val rfl (os_load Try.isAgg33 rfl ((hB9.keep b0).cell (i := 3) rfl)) ?_
                    refine va_pure 12 rfl (by kernel_rfl) (by kernel_rfl) (by kernel_rfl) (fun w => (os_ixs Try.underlying33 Try.sizeOf49 rfl rfl (i := i) (by omega) (by omega))) ?_
                    refine va_pure 13 rfl (by kernel_rfl) (by kernel_rfl) (by kernel_rfl) (fun w => (os_fa (o := 1) (k := 0) (by kernel_rfl) rfl)) ?_
                    refine va_one 14 (by kernel_rfl) ?_
                    refine vn_val rfl (os_load Try.isAgg3 rfl (q2)) ?_
                    refine va_pure 15 rfl (by kernel_rfl) (by kernel_rfl) (by kernel_rfl) (fun w => (os_muli rfl rfl (by omega))) ?_
                    refine va_pure 16 rfl (by kernel_rfl) (by kernel_rfl) (by kernel_rfl) (fun w => (os_build (cs := [.int .i64 (d.cs.getD i (0, 0)).1, .int .i64 ((1 + p) * (d.cs.getD i (0, 0)).2)]) rfl (by kernel_rfl))) ?_
                    refine va_one 17 (by kernel_rfl) ?_
                    refine vn_some rfl (ot_litS (css := [[.int .i64 (d.cs.getD i (0, 0)).1, .int .i64 ((1 + p) * (d.cs.getD i (0, 0)).2)]]) Try.underlying33 Try.sizeOf49 Try.zeroValue49 rfl rfl (by intro c hc; simp at hc; subst hc; rfl) (by decide) (by decide) (by decide)) ?_
                    rintro v84 w84 ⟨rfl, r84, s84, b84⟩
                    have b84w : Below w9.heap.size w9 w84 := b0.trans b84
                    have hM84 := hM9.keep b84w
                    have hV84 := hV9.keepAll b84w
                    have b79 : Below M w7 w84 := b9.trans (b84w.mono (by omega))
                    refine va_one 18 (by kernel_rfl) ?_
                    refine vn_some rfl (ot_append_pn Try.underlying33 ti_wCounts rfl (by decide) rfl rfl hV84 r84 (by intro c hc; simp at hc; subst hc; rfl) rfl (by intro c hc u hu; simp at hc; subst hc; simp at hu; rcases hu with rfl | rfl <;> rfl) (by rw [hrl]; omega) (by rw [hrl]; simp only [maxLen]; omega) (by have := b84w.size; omega)) ?_
                    rintro v85 w85 ⟨ho85, hg85⟩
                    have hvl := hV84.lt
                    have hM85 := hM84.grown hg85 (fun e => by have := (hvl M e.symm).1; omega)
                    have b85 : Below M w7 w85 := b79.grown hg85 (by have := b84w.size; omega) (fun k hk => by have := (hvl k hk).1; omega)
                    have hl85 := hM85.lt
                    have hv85 := ho85.lt
                    refine va_pure 19 rfl (by kernel_rfl) (by kernel_rfl) (by kernel_rfl) (fun w => (os_fa (o := 3) (k := 0) (by kernel_rfl) rfl)) ?_
                    refine va_one 20 (by kernel_rfl) ?_
                    refine vn_unit rfl (ou_store Try.sizeOf33 rfl rfl (OwnP.one ho85) (hM85.cell (i := 3) rfl) (hM85.free _)) ?_
                    refine va_done (by kernel_rfl) ?_
                    exact ⟨0, ⟨rfl, rfl, rfl, rfl, rfl, rfl, rfl, trivial⟩, ⟨rfl, trivial⟩, ⟨below_set b85 (Nat.le_refl _) _ _, v85, hM85.set 3 v85, by rw [moreC_take (by omega), List.map_append]; exact ho85.blk fun k hk => Below.heap_setCell _ _ _ _ (fun e => by have := (hv85 k hk).1; simp at e; omega), by simpa [World.setCell] using hl85⟩⟩
                  · refine vn_val rfl (os_load Try.isAgg33 rfl ((hB9.keep b0).cell (i := 3) rfl)) ?_
                    refine va_pure 12 rfl (by kernel_rfl) (by kernel_rfl) (by kernel_rfl) (fun w => (os_ixs Try.underlying33 Try.sizeOf49 rfl rfl (i := i) (by omega) (by omega))) ?_
                    refine va_pure 13 rfl (by kernel_rfl) (by kernel_rfl) (by kernel_rfl) (fun w => (os_fa (o := 1) (k := 0) (by kernel_rfl) rfl)) ?_
                    refine va_two 7 14 (by kernel_rfl) ?_ ?_
                    · refine vn_val rfl (os_load Try.isAgg3 rfl (q1)) ?_
                      refine va_one 14 (by kernel_rfl) ?_
                      refine vn_val rfl (os_load Try.isAgg3 rfl (q2)) ?_
                      refine va_pure 15 rfl (by kernel_rfl) (by kernel_rfl) (by kernel_rfl) (fun w => (os_muli rfl rfl (by omega))) ?_
                      refine va_pure 16 rfl (by kernel_rfl) (by kernel_rfl) (by kernel_rfl) (fun w => (os_build (cs := [.int .i64 (d.cs.getD i (0, 0)).1, .int .i64 ((1 + p) * (d.cs.getD i (0, 0)).2)]) rfl (by kernel_rfl))) ?_
                      refine va_one 17 (by kernel_rfl) ?_
                      refine vn_some rfl (ot_litS (css := [[.int .i64 (d.cs.getD i (0, 0)).1, .int .i64 ((1 + p) * (d.cs.getD i (0, 0)).2)]]) Try.underlying33 Try.sizeOf49 Try.zeroValue49 rfl rfl (by intro c hc; simp at hc; subst hc; rfl) (by decide) (by decide) (by decide)) ?_
                      rintro v84 w84 ⟨rfl, r84, s84, b84⟩
                      have b84w : Below w9.heap.size w9 w84 := b0.trans b84
                      have hM84 := hM9.keep b84w
                      have hV84 := hV9.keepAll b84w
                      have b79 : Below M w7 w84 := b9.trans (b84w.mono (by omega))
                      refine va_one 18 (by kernel_rfl) ?_
                      refine vn_some rfl (ot_append_pn Try.underlying33 ti_wCounts rfl (by decide) rfl rfl hV84 r84 (by intro c hc; simp at hc; subst hc; rfl) rfl (by intro c hc u hu; simp at hc; subst hc; simp at hu; rcases hu with rfl | rfl <;> rfl) (by rw [hrl]; omega) (by rw [hrl]; simp only [maxLen]; omega) (by have := b84w.size; omega)) ?_
                      rintro v85 w85 ⟨ho85, hg85⟩
                      have hvl := hV84.lt
                      have hM85 := hM84.grown hg85 (fun e => by have := (hvl M e.symm).1; omega)
                      have b85 : Below M w7 w85 := b79.grown hg85 (by have := b84w.size; omega) (fun k hk => by have := (hvl k hk).1; omega)
                      have hl85 := hM85.lt
                      have hv85 := ho85.lt
                      refine va_pure 19 rfl (by kernel_rfl) (by kernel_rfl) (by kernel_rfl) (fun w => (os_fa (o := 3) (k := 0) (by kernel_rfl) rfl)) ?_
                      refine va_one 20 (by kernel_rfl) ?_
                      refine vn_unit rfl (ou_store Try.sizeOf33 rfl rfl (OwnP.one ho85) (hM85.cell (i := 3) rfl) (hM85.free _)) ?_
                      refine va_done (by kernel_rfl) ?_
                      exact ⟨0, ⟨rfl, rfl, rfl, rfl, rfl, rfl, rfl, trivial⟩, ⟨rfl, trivial⟩, ⟨below_set b85 (Nat.le_refl _) _ _, v85, hM85.set 3 v85, by rw [moreC_take (by omega), List.map_append]; exact ho85.blk fun k hk => Below.heap_setCell _ _ _ _ (fun e => by have := (hv85 k hk).1; simp at e; omega), by simpa [World.setCell] using hl85⟩⟩
                    · refine vn_val rfl (os_load Try.isAgg3 rfl (q2)) ?_
                      refine va_pure 15 rfl (by kernel_rfl) (by kernel_rfl) (by kernel_rfl) (fun w => (os_muli rfl rfl (by omega))) ?_
                      refine va_one 7 (by kernel_rfl) ?_
                      refine vn_val rfl (os_load Try.isAgg3 rfl (q1)) ?_
                      refine va_pure 16 rfl (by kernel_rfl) (by kernel_rfl) (by kernel_rfl) (fun w => (os_build (cs := [.int .i64 (d.cs.getD i (0, 0)).1, .int .i64 ((1 + p) * (d.cs.getD i (0, 0)).2)]) rfl (by kernel_rfl))) ?_
                      refine va_one 17 (by kernel_rfl) ?_
                      refine vn_some rfl (ot_litS (css := [[.int .i64 (d.cs.getD i (0, 0)).1, .int .i64 ((1 + p) * (d.cs.getD i (0, 0)).2)]]) Try.underlying33 Try.sizeOf49 Try.zeroValue49 rfl rfl (by intro c hc; simp at hc; subst hc; rfl) (by decide) (by decide) (by decide)) ?_
                      rintro v84 w84 ⟨rfl, r84, s84, b84⟩
                      have b84w : Below w9.heap.size w9 w84 := b0.trans b84
                      have hM84 := hM9.keep b84w
                      have hV84 := hV9.keepAll b84w
                      have b79 : Below M w7 w84 := b9.trans (b84w.mono (by omega))
                      refine va_one 18 (by kernel_rfl) ?_
                      refine vn_some rfl (ot_append_pn Try.underlying33 ti_wCounts rfl (by decide) rfl rfl hV84 r84 (by intro c hc; simp at hc; subst hc; rfl) rfl (by intro c hc u hu; simp at hc; subst hc; simp at hu; rcases hu with rfl | rfl <;> rfl) (by rw [hrl]; omega) (by rw [hrl]; simp only [maxLen]; omega) (by have := b84w.size; omega)) ?_
                      rintro v85 w85 ⟨ho85, hg85⟩
                      have hvl := hV84.lt
                      have hM85 := hM84.grown hg85 (fun e => by have := (hvl M e.symm).1; omega)
                      have b85 : Below M w7 w85 := b79.grown hg85 (by have := b84w.size; omega) (fun k hk => by have := (hvl k hk).1; omega)
                      have hl85 := hM85.lt
                      have hv85 := ho85.lt
                      refine va_pure 19 rfl (by kernel_rfl) (by kernel_rfl) (by kernel_rfl) (fun w => (os_fa (o := 3) (k := 0) (by kernel_rfl) rfl)) ?_
                      refine va_one 20 (by kernel_rfl) ?_
                      refine vn_unit rfl (ou_store Try.sizeOf33 rfl rfl (OwnP.one ho85) (hM85.cell (i := 3) rfl) (hM85.free _)) ?_
                      refine va_done (by kernel_rfl) ?_
                      exact ⟨0, ⟨rfl, rfl, rfl, rfl, rfl, rfl, rfl, trivial⟩, ⟨rfl, trivial⟩, ⟨below_set b85 (Nat.le_refl _) _ _, v85, hM85.set 3 v85, by rw [moreC_take (by omega), List.map_append]; exact ho85.blk fun k hk => Below.heap_setCell _ _ _ _ (fun e => by have := (hv85 k hk).1; simp at e; omega), by simpa [World.setCell] using hl85⟩⟩
                · refine vn_val rfl (os_load Try.isAgg3 rfl (q1)) ?_
                  refine va_two 1 10 (by kernel_rfl) ?_ ?_
                  · refine vn_val rfl (os_load Try.isAgg33 rfl ((by first | exact (hM9.keep b84w).cell (i := 3) rfl | exact (hM9.keep b0).cell (i := 3) rfl))) ?_
                    refine va_one 10 (by kernel_rfl) ?_
                    refine vn_val rfl (os_load Try.isAgg33 rfl ((hB9.keep b0).cell (i := 3) rfl)) ?_
                    refine va_pure 12 rfl (by kernel_rfl) (by kernel_rfl) (by kernel_rfl) (fun w => (os_ixs Try.underlying33 Try.sizeOf49 rfl rfl (i := i) (by omega) (by omega))) ?_
                    refine va_pure 13 rfl (by kernel_rfl) (by kernel_rfl) (by kernel_rfl) (fun w => (os_fa (o := 1) (k := 0) (by kernel_rfl) rfl)) ?_
                    refine va_one 14 (by kernel_rfl) ?_
                    refine vn_val rfl (os_load Try.isAgg3 rfl (q2)) ?_
                    refine va_pure 15 rfl (by kernel_rfl) (by kernel_rfl) (by kernel_rfl) (fun w => (os_muli rfl rfl (by omega))) ?_
                    refine va_pure 16 rfl (by kernel_rfl) (by kernel_rfl) (by kernel_rfl) (fun w => (os_build (cs := [.int .i64 (d.cs.getD i (0, 0)).1, .int .i64 ((1 + p) * (d.cs.getD i (0, 0)).2)]) rfl (by kernel_rfl))) ?_
                    refine va_one 17 (by kernel_rfl) ?_
                    refine vn_some rfl (ot_litS (css := [[.int .i64 (d.cs.getD i (0, 0)).1, .int .i64 ((1 + p) * (d.cs.getD i (0, 0)).2)]]) Try.underlying33 Try.sizeOf49 Try.zeroValue49 rfl rfl (by intro c hc; simp at hc; subst hc; rfl) (by decide) (by decide) (by decide)) ?_
                    rintro v84 w84 ⟨rfl, r84, s84, b84⟩
                    have b84w : Below w9.heap.size w9 w84 := b0.trans b84
                    have hM84 := hM9.keep b84w
                    have hV84 := hV9.keepAll b84w
                    have b79 : Below M w7 w84 := b9.trans (b84w.mono (by omega))
                    refine va_one 18 (by kernel_rfl) ?_
                    refine vn_some rfl (ot_append_pn Try.underlying33 ti_wCounts rfl (by decide) rfl rfl hV84 r84 (by intro c hc; simp at hc; subst hc; rfl) rfl (by intro c hc u hu; simp at hc; subst hc; simp at hu; rcases hu with rfl | rfl <;> rfl) (by rw [hrl]; omega) (by rw [hrl]; simp only [maxLen]; omega) (by have := b84w.size; omega)) ?_
                    rintro v85 w85 ⟨ho85, hg85⟩
                    have hvl := hV84.lt
                    have hM85 := hM84.grown hg85 (fun e => by have := (hvl M e.symm).1; omega)
                    have b85 : Below M w7 w85 := b79.grown hg85 (by have := b84w.size; omega) (fun k hk => by have := (hvl k hk).1; omega)
                    have hl85 := hM85.lt
                    have hv85 := ho85.lt
                    refine va_pure 19 rfl (by kernel_rfl) (by kernel_rfl) (by kernel_rfl) (fun w => (os_fa (o := 3) (k := 0) (by kernel_rfl) rfl)) ?_
                    refine va_one 20 (by kernel_rfl) ?_
                    refine vn_unit rfl (ou_store Try.sizeOf33 rfl rfl (OwnP.one ho85) (hM85.cell (i := 3) rfl) (hM85.free _)) ?_
                    refine va_done (by kernel_rfl) ?_
                    exact ⟨0, ⟨rfl, rfl, rfl, rfl, rfl, rfl, rfl, trivial⟩, ⟨rfl, trivial⟩, ⟨below_set b85 (Nat.le_refl _) _ _, v85, hM85.set 3 v85, by rw [moreC_take (by omega), List.map_append]; exact ho85.blk fun k hk => Below.heap_setCell _ _ _ _ (fun e => by have := (hv85 k hk).1; simp at e; omega), by simpa [World.setCell] using hl85⟩⟩
                  · refine vn_val rfl (os_load Try.isAgg33 rfl ((hB9.keep b0).cell (i := 3) rfl)) ?_
                    refine va_pure 12 rfl (by kernel_rfl) (by kernel_rfl) (by kernel_rfl) (fun w => (os_ixs Try.underlying33 Try.sizeOf49 rfl rfl (i := i) (by omega) (by omega))) ?_
                    refine va_pure 13 rfl (by kernel_rfl) (by kernel_rfl) (by kernel_rfl) (fun w => (os_fa (o := 1) (k := 0) (by kernel_rfl) rfl)) ?_
                    refine va_two 1 14 (by kernel_rfl) ?_ ?_
                    · refine vn_val rfl (os_load Try.isAgg33 rfl ((by first | exact (hM9.keep b84w).cell (i := 3) rfl | exact (hM9.keep b0).cell (i := 3) rfl))) ?_
                      refine va_one 14 (by kernel_rfl) ?_
                      refine vn_val rfl (os_load Try.isAgg3 rfl (q2)) ?_
                      refine va_pure 15 rfl (by kernel_rfl) (by kernel_rfl) (by kernel_rfl) (fun w => (os_muli rfl rfl (by omega))) ?_
                      refine va_pure 16 rfl (by kernel_rfl) (by kernel_rfl) (by kernel_rfl) (fun w => (os_build (cs := [.int .i64 (d.cs.getD i (0, 0)).1, .int .i64 ((1 + p) * (d.cs.getD i (0, 0)).2)]) rfl (by kernel_rfl))) ?_
                      refine va_one 17 (by kernel_rfl) ?_
                      refine vn_some rfl (ot_litS (css := [[.int .i64 (d.cs.getD i (0, 0)).1, .int .i64 ((1 + p) * (d.cs.getD i (0, 0)).2)]]) Try.underlying33 Try.sizeOf49 Try.zeroValue49 rfl rfl (by intro c hc; simp at hc; subst hc; rfl) (by decide) (by decide) (by decide)) ?_
                      rintro v84 w84 ⟨rfl, r84, s84, b84⟩
                      have b84w : Below w9.heap.size w9 w84 := b0.trans b84
                      have hM84 := hM9.keep b84w
                      have hV84 := hV9.keepAll b84w
                      have b79 : Below M w7 w84 := b9.trans (b84w.mono (by omega))
                      refine va_one 18 (by kernel_rfl) ?_
                      refine vn_some rfl (ot_append_pn Try.underlying33 ti_wCounts rfl (by decide) rfl rfl hV84 r84 (by intro c hc; simp at hc; subst hc; rfl) rfl (by intro c hc u hu; simp at hc; subst hc; simp at hu; rcases hu with rfl | rfl <;> rfl) (by rw [hrl]; omega) (by rw [hrl]; simp only [maxLen]; omega) (by have := b84w.size; omega)) ?_
                      rintro v85 w85 ⟨ho85, hg85⟩
                      have hvl := hV84.lt
                      have hM85 := hM84.grown hg85 (fun e => by have := (hvl M e.symm).1; omega)
                      have b85 : Below M w7 w85 := b79.grown hg85 (by have := b84w.size; omega) (fun k hk => by have := (hvl k hk).1; omega)
                      have hl85 := hM85.lt
                      have hv85 := ho85.lt
                      refine va_pure 19 rfl (by kernel_rfl) (by kernel_rfl) (by kernel_rfl) (fun w => (os_fa (o := 3) (k := 0) (by kernel_rfl) rfl)) ?_
                      refine va_one 20 (by kernel_rfl) ?_
                      refine vn_unit rfl (ou_store Try.sizeOf33 rfl rfl (OwnP.one ho85) (hM85.cell (i := 3) rfl) (hM85.free _)) ?_
                      refine va_done (by kernel_rfl) ?_
                      exact ⟨0, ⟨rfl, rfl, rfl, rfl, rfl, rfl, rfl, trivial⟩, ⟨rfl, trivial⟩, ⟨below_set b85 (Nat.le_refl _) _ _, v85, hM85.set 3 v85, by rw [moreC_take (by omega), List.map_append]; exact ho85.blk fun k hk => Below.heap_setCell _ _ _ _ (fun e => by have := (hv85 k hk).1; simp at e; omega), by simpa [World.setCell] using hl85⟩⟩
                    · refine vn_val rfl (os_load Try.isAgg3 rfl (q2)) ?_
                      refine va_pure 15 rfl (by kernel_rfl) (by kernel_rfl) (by kernel_rfl) (fun w => (os_muli rfl rfl (by omega))) ?_
                      refine va_pure 16 rfl (by kernel_rfl) (by kernel_rfl) (by kernel_rfl) (fun w => (os_build (cs := [.int .i64 (d.cs.getD i (0, 0)).1, .int .i64 ((1 + p) * (d.cs.getD i (0, 0)).2)]) rfl (by kernel_rfl))) ?_
                      refine va_two 1 17 (by kernel_rfl) ?_ ?_
                      · refine vn_val rfl (os_load Try.isAgg33 rfl ((by first | exact (hM9.keep b84w).cell (i := 3) rfl | exact (hM9.keep b0).cell (i := 3) rfl))) ?_
                        refine va_one 17 (by kernel_rfl) ?_
                        refine vn_some rfl (ot_litS (css := [[.int .i64 (d.cs.getD i (0, 0)).1, .int .i64 ((1 + p) * (d.cs.getD i (0, 0)).2)]]) Try.underlying33 Try.sizeOf49 Try.zeroValue49 rfl rfl (by intro c hc; simp at hc; subst hc; rfl) (by decide) (by decide) (by decide)) ?_
                        rintro v84 w84 ⟨rfl, r84, s84, b84⟩
                        have b84w : Below w9.heap.size w9 w84 := b0.trans b84
                        have hM84 := hM9.keep b84w
                        have hV84 := hV9.keepAll b84w
                        have b79 : Below M w7 w84 := b9.trans (b84w.mono (by omega))
                        refine va_one 18 (by kernel_rfl) ?_
                        refine vn_some rfl (ot_append_pn Try.underlying33 ti_wCounts rfl (by decide) rfl rfl hV84 r84 (by intro c hc; simp at hc; subst hc; rfl) rfl (by intro c hc u hu; simp at hc; subst hc; simp at hu; rcases hu with rfl | rfl <;> rfl) (by rw [hrl]; omega) (by rw [hrl]; simp only [maxLen]; omega) (by have := b84w.size; omega)) ?_
                        rintro v85 w85 ⟨ho85, hg85⟩
                        have hvl := hV84.lt
                        have hM85 := hM84.grown hg85 (fun e => by have := (hvl M e.symm).1; omega)
                        have b85 : Below M w7 w85 := b79.grown hg85 (by have := b84w.size; omega) (fun k hk => by have := (hvl k hk).1; omega)
                        have hl85 := hM85.lt
                        have hv85 := ho85.lt
                        refine va_pure 19 rfl (by kernel_rfl) (by kernel_rfl) (by kernel_rfl) (fun w => (os_fa (o := 3) (k := 0) (by kernel_rfl) rfl)) ?_
                        refine va_one 20 (by kernel_rfl) ?_
                        refine vn_unit rfl (ou_store Try.sizeOf33 rfl rfl (OwnP.one ho85) (hM85.cell (i := 3) rfl) (hM85.free _)) ?_
                        refine va_done (by kernel_rfl) ?_
                        exact ⟨0, ⟨rfl, rfl, rfl, rfl, rfl, rfl, rfl, trivial⟩, ⟨rfl, trivial⟩, ⟨below_set b85 (Nat.le_refl _) _ _, v85, hM85.set 3 v85, by rw [moreC_take (by omega), List.map_append]; exact ho85.blk fun k hk => Below.heap_setCell _ _ _ _ (fun e => by have := (hv85 k hk).1; simp at e; omega), by simpa [World.setCell] using hl85⟩⟩
                      · refine vn_some rfl (ot_litS (css := [[.int .i64 (d.cs.getD i (0, 0)).1, .int .i64 ((1 + p) * (d.cs.getD i (0, 0)).2)]]) Try.underlying33 Try.sizeOf49 Try.zeroValue49 rfl rfl (by intro c hc; simp at hc; subst hc; rfl) (by decide) (by decide) (by decide)) ?_
                        rintro v84 w84 ⟨rfl, r84, s84, b84⟩
                        have b84w : Below w9.heap.size w9 w84 := b0.trans b84
                        have hM84 := hM9.keep b84w
                        have hV84 := hV9.keepAll b84w
                        have b79 : Below M w7 w84 := b9.trans (b84w.mono (by omega))
                        refine va_one 1 (by kernel_rfl) ?_
                        refine vn_val rfl (os_load Try.isAgg33 rfl ((by first | exact (hM9.keep b84w).cell (i := 3) rfl | exact (hM9.keep b0).cell (i := 3) rfl))) ?_
                        refine va_one 18 (by kernel_rfl) ?_
                        refine vn_some rfl (ot_append_pn Try.underlying33 ti_wCounts rfl (by decide) rfl rfl hV84 r84 (by intro c hc; simp at hc; subst hc; rfl) rfl (by intro c hc u hu; simp at hc; subst hc; simp at hu; rcases hu with rfl | rfl <;> rfl) (by rw [hrl]; omega) (by rw [hrl]; simp only [maxLen]; omega) (by have := b84w.size; omega)) ?_
                        rintro v85 w85 ⟨ho85, hg85⟩
                        have hvl := hV84.lt
                        have hM85 := hM84.grown hg85 (fun e => by have := (hvl M e.symm).1; omega)
                        have b85 : Below M w7 w85 := b79.grown hg85 (by have := b84w.size; omega) (fun k hk => by have := (hvl k hk).1; omega)
                        have hl85 := hM85.lt
                        have hv85 := ho85.lt
                        refine va_pure 19 rfl (by kernel_rfl) (by kernel_rfl) (by kernel_rfl) (fun w => (os_fa (o := 3) (k := 0) (by kernel_rfl) rfl)) ?_
                        refine va_one 20 (by kernel_rfl) ?_
                        refine vn_unit rfl (ou_store Try.sizeOf33 rfl rfl (OwnP.one ho85) (hM85.cell (i := 3) rfl) (hM85.free _)) ?_
                        refine va_done (by kernel_rfl) ?_
                        exact ⟨0, ⟨rfl, rfl, rfl, rfl, rfl, rfl, rfl, trivial⟩, ⟨rfl, trivial⟩, ⟨below_set b85 (Nat.le_refl _) _ _, v85, hM85.set 3 v85, by rw [moreC_take (by omega), List.map_append]; exact ho85.blk fun k hk => Below.heap_setCell _ _ _ _ (fun e => by have := (hv85 k hk).1; simp at e; omega), by simpa [World.setCell] using hl85⟩⟩
                · refine vn_val rfl (os_load Try.isAgg33 rfl ((hB9.keep b0).cell (i := 3) rfl)) ?_
                  refine va_pure 12 rfl (by kernel_rfl) (by kernel_rfl) (by kernel_rfl) (fun w => (os_ixs Try.underlying33 Try.sizeOf49 rfl rfl (i := i) (by omega) (by omega))) ?_
                  refine va_pure 13 rfl (by kernel_rfl) (by kernel_rfl) (by kernel_rfl) (fun w => (os_fa (o := 1) (k := 0) (by kernel_rfl) rfl)) ?_
                  refine va_three 1 7 14 (by kernel_rfl) ?_ ?_ ?_
                  · refine vn_val rfl (os_load Try.isAgg33 rfl ((by first | exact (hM9.keep b84w).cell (i := 3) rfl | exact (hM9.keep b0).cell (i := 3) rfl))) ?_
                    refine va_two 7 14 (by kernel_rfl) ?_ ?_
                    · refine vn_val rfl (os_load Try.isAgg3 rfl (q1)) ?_
                      refine va_one 14 (by kernel_rfl) ?_
                      refine vn_val rfl (os_load Try.isAgg3 rfl (q2)) ?_
                      refine va_pure 15 rfl (by kernel_rfl) (by kernel_rfl) (by kernel_rfl) (fun w => (os_muli rfl rfl (by omega))) ?_
                      refine va_pure 16 rfl (by kernel_rfl) (by kernel_rfl) (by kernel_rfl) (fun w => (os_build (cs := [.int .i64 (d.cs.getD i (0, 0)).1, .int .i64 ((1 + p) * (d.cs.getD i (0, 0)).2)]) rfl (by kernel_rfl))) ?_
                      refine va_one 17 (by kernel_rfl) ?_
                      refine vn_some rfl (ot_litS (css := [[.int .i64 (d.cs.getD i (0, 0)).1, .int .i64 ((1 + p) * (d.cs.getD i (0, 0)).2)]]) Try.underlying33 Try.sizeOf49 Try.zeroValue49 rfl rfl (by intro c hc; simp at hc; subst hc; rfl) (by decide) (by decide) (by decide)) ?_
                      rintro v84 w84 ⟨rfl, r84, s84, b84⟩
                      have b84w : Below w9.heap.size w9 w84 := b0.trans b84
                      have hM84 := hM9.keep b84w
                      have hV84 := hV9.keepAll b84w
                      have b79 : Below M w7 w84 := b9.trans (b84w.mono (by omega))
                      refine va_one 18 (by kernel_rfl) ?_
                      refine vn_some rfl (ot_append_pn Try.underlying33 ti_wCounts rfl (by decide) rfl rfl hV84 r84 (by intro c hc; simp at hc; subst hc; rfl) rfl (by intro c hc u hu; simp at hc; subst hc; simp at hu; rcases hu with rfl | rfl <;> rfl) (by rw [hrl]; omega) (by rw [hrl]; simp only [maxLen]; omega) (by have := b84w.size; omega)) ?_
                      rintro v85 w85 ⟨ho85, hg85⟩
                      have hvl := hV84.lt
                      have hM85 := hM84.grown hg85 (fun e => by have := (hvl M e.symm).1; omega)
                      have b85 : Below M w7 w85 := b79.grown hg85 (by have := b84w.size; omega) (fun k hk => by have := (hvl k hk).1; omega)
                      have hl85 := hM85.lt
                      have hv85 := ho85.lt
                      refine va_pure 19 rfl (by kernel_rfl) (by kernel_rfl) (by kernel_rfl) (fun w => (os_fa (o := 3) (k := 0) (by kernel_rfl) rfl)) ?_
                      refine va_one 20 (by kernel_rfl) ?_
                      refine vn_unit rfl (ou_store Try.sizeOf33 rfl rfl (OwnP.one ho85) (hM85.cell (i := 3) rfl) (hM85.free _)) ?_
                      refine va_done (by kernel_rfl) ?_
                      exact ⟨0, ⟨rfl, rfl, rfl, rfl, rfl, rfl, rfl, trivial⟩, ⟨rfl, trivial⟩, ⟨below_set b85 (Nat.le_refl _) _ _, v85, hM85.set 3 v85, by rw [moreC_take (by omega), List.map_append]; exact ho85.blk fun k hk => Below.heap_setCell _ _ _ _ (fun e => by have := (hv85 k hk).1; simp at e; omega), by simpa [World.setCell] using hl85⟩⟩
                    · refine vn_val rfl (os_load Try.isAgg3 rfl (q2)) ?_
                      refine va_pure 15 rfl (by kernel_rfl) (by kernel_rfl) (by kernel_rfl) (fun w => (os_muli rfl rfl (by omega))) ?_
                      refine va_one 7 (by kernel_rfl) ?_
                      refine vn_val rfl (os_load Try.isAgg3 rfl (q1)) ?_
                      refine va_pure 16 rfl (by kernel_rfl) (by kernel_rfl) (by kernel_rfl) (fun w => (os_build (cs := [.int .i64 (d.cs.getD i (0, 0)).1, .int .i64 ((1 + p) * (d.cs.getD i (0, 0)).2)]) rfl (by kernel_rfl))) ?_
                      refine va_one 17 (by kernel_rfl) ?_
                      refine vn_some rfl (ot_litS (css := [[.int .i64 (d.cs.getD i (0, 0)).1, .int .i64 ((1 + p) * (d.cs.getD i (0, 0)).2)]]) Try.underlying33 Try.sizeOf49 Try.zeroValue49 rfl rfl (by intro c hc; simp at hc; subst hc; rfl) (by decide) (by decide) (by decide)) ?_
                      rintro v84 w84 ⟨rfl, r84, s84, b84⟩
                      have b84w : Below w9.heap.size w9 w84 := b0.trans b84
                      have hM84 := hM9.keep b84w
                      have hV84 := hV9.keepAll b84w
                      have b79 : Below M w7 w84 := b9.trans (b84w.mono (by omega))
                      refine va_one 18 (by kernel_rfl) ?_
                      refine vn_some rfl (ot_append_pn Try.underlying33 ti_wCounts rfl (by decide) rfl rfl hV84 r84 (by intro c hc; simp at hc; subst hc; rfl) rfl (by intro c hc u hu; simp at hc; subst hc; simp at hu; rcases hu with rfl | rfl <;> rfl) (by rw [hrl]; omega) (by rw [hrl]; simp only [maxLen]; omega) (by have := b84w.size; omega)) ?_
                      rintro v85 w85 ⟨ho85, hg85⟩
                      have hvl := hV84.lt
                      have hM85 := hM84.grown hg85 (fun e => by have := (hvl M e.symm).1; omega)
                      have b85 : Below M w7 w85 := b79.grown hg85 (by have := b84w.size; omega) (fun k hk => by have := (hvl k hk).1; omega)
                      have hl85 := hM85.lt
                      have hv85 := ho85.lt
                      refine va_pure 19 rfl (by kernel_rfl) (by kernel_rfl) (by kernel_rfl) (fun w => (os_fa (o := 3) (k := 0) (by kernel_rfl) rfl)) ?_
                      refine va_one 20 (by kernel_rfl) ?_
                      refine vn_unit rfl (ou_store Try.sizeOf33 rfl rfl (OwnP.one ho85) (hM85.cell (i := 3) rfl) (hM85.free _)) ?_
                      refine va_done (by kernel_rfl) ?_
                      exact ⟨0, ⟨rfl, rfl, rfl, rfl, rfl, rfl, rfl, trivial⟩, ⟨rfl, trivial⟩, ⟨below_set b85 (Nat.le_refl _) _ _, v85, hM85.set 3 v85, by rw [moreC_take (by omega), List.map_append]; exact ho85.blk fun k hk => Below.heap_setCell _ _ _ _ (fun e => by have := (hv85 k hk).1; simp at e; omega), by simpa [World.setCell] using hl85⟩⟩
                  · refine vn_val rfl (os_load Try.isAgg3 rfl (q1)) ?_
                    refine va_two 1 14 (by kernel_rfl) ?_ ?_
                    · refine vn_val rfl (os_load Try.isAgg33 rfl ((by first | exact (hM9.keep b84w).cell (i := 3) rfl | exact (hM9.keep b0).cell (i := 3) rfl))) ?_
                      refine va_one 14 (by kernel_rfl) ?_
                      refine vn_val rfl (os_load Try.isAgg3 rfl (q2)) ?_
                      refine va_pure 15 rfl (by kernel_rfl) (by kernel_rfl) (by kernel_rfl) (fun w => (os_muli rfl rfl (by omega))) ?_
                      refine va_pure 16 rfl (by kernel_rfl) (by kernel_rfl) (by kernel_rfl) (fun w => (os_build (cs := [.int .i64 (d.cs.getD i (0, 0)).1, .int .i64 ((1 + p) * (d.cs.getD i (0, 0)).2)]) rfl (by kernel_rfl))) ?_
                      refine va_one 17 (by kernel_rfl) ?_
                      refine vn_some rfl (ot_litS (css := [[.int .i64 (d.cs.getD i (0, 0)).1, .int .i64 ((1 + p) * (d.cs.getD i (0, 0)).2)]]) Try.underlying33 Try.sizeOf49 Try.zeroValue49 rfl rfl (by intro c hc; simp at hc; subst hc; rfl) (by decide) (by decide) (by decide)) ?_
                      rintro v84 w84 ⟨rfl, r84, s84, b84⟩
                      have b84w : Below w9.heap.size w9 w84 := b0.trans b84
                      have hM84 := hM9.keep b84w
                      have hV84 := hV9.keepAll b84w
                      have b79 : Below M w7 w84 := b9.trans (b84w.mono (by omega))
                      refine va_one 18 (by kernel_rfl) ?_
                      refine vn_some rfl (ot_append_pn Try.underlying33 ti_wCounts rfl (by decide) rfl rfl hV84 r84 (by intro c hc; simp at hc; subst hc; rfl) rfl (by intro c hc u hu; simp at hc; subst hc; simp at hu; rcases hu with rfl | rfl <;> rfl) (by rw [hrl]; omega) (by rw [hrl]; simp only [maxLen]; omega) (by have := b84w.size; omega)) ?_
                      rintro v85 w85 ⟨ho85, hg85⟩
                      have hvl := hV84.lt
                      have hM85 := hM84.grown hg85 (fun e => by have := (hvl M e.symm).1; omega)
                      have b85 : Below M w7 w85 := b79.grown hg85 (by have := b84w.size; omega) (fun k hk => by have := (hvl k hk).1; omega)
                      have hl85 := hM85.lt
                      have hv85 := ho85.lt
                      refine va_pure 19 rfl (by kernel_rfl) (by kernel_rfl) (by kernel_rfl) (fun w => (os_fa (o := 3) (k := 0) (by kernel_rfl) rfl)) ?_
                      refine va_one 20 (by kernel_rfl) ?_
                      refine vn_unit rfl (ou_store Try.sizeOf33 rfl rfl (OwnP.one ho85) (hM85.cell (i := 3) rfl) (hM85.free _)) ?_
                      refine va_done (by kernel_rfl) ?_
                      exact ⟨0, ⟨rfl, rfl, rfl, rfl, rfl, rfl, rfl, trivial⟩, ⟨rfl, trivial⟩, ⟨below_set b85 (Nat.le_refl _) _ _, v85, hM85.set 3 v85, by rw [moreC_take (by omega), List.map_append]; exact ho85.blk fun k hk => Below.heap_setCell _ _ _ _ (fun e => by have := (hv85 k hk).1; simp at e; omega), by simpa [World.setCell] using hl85⟩⟩
                    · refine vn_val rfl (os_load Try.isAgg3 rfl (q2)) ?_
                      refine va_pure 15 rfl (by kernel_rfl) (by kernel_rfl) (by kernel_rfl) (fun w => (os_muli rfl rfl (by omega))) ?_
                      refine va_pure 16 rfl (by kernel_rfl) (by kernel_rfl) (by kernel_rfl) (fun w => (os_build (cs := [.int .i64 (d.cs.getD i (0, 0)).1, .int .i64 ((1 + p) * (d.cs.getD i (0, 0)).2)]) rfl (by kernel_rfl))) ?_
                      refine va_two 1 17 (by kernel_rfl) ?_ ?_
                      · refine vn_val rfl (os_load Try.isAgg33 rfl ((by first | exact (hM9.keep b84w).cell (i := 3) rfl | exact (hM9.keep b0).cell (i := 3) rfl))) ?_
                        refine va_one 17 (by kernel_rfl) ?_
                        refine vn_some rfl (ot_litS (css := [[.int .i64 (d.cs.getD i (0, 0)).1, .int .i64 ((1 + p) * (d.cs.getD i (0, 0)).2)]]) Try.underlying33 Try.sizeOf49 Try.zeroValue49 rfl rfl (by intro c hc; simp at hc; subst hc; rfl) (by decide) (by decide) (by decide)) ?_
                        rintro v84 w84 ⟨rfl, r84, s84, b84⟩
                        have b84w : Below w9.heap.size w9 w84 := b0.trans b84
                        have hM84 := hM9.keep b84w
                        have hV84 := hV9.keepAll b84w
                        have b79 : Below M w7 w84 := b9.trans (b84w.mono (by omega))
                        refine va_one 18 (by kernel_rfl) ?_
                        refine vn_some rfl (ot_append_pn Try.underlying33 ti_wCounts rfl (by decide) rfl rfl hV84 r84 (by intro c hc; simp at hc; subst hc; rfl) rfl (by intro c hc u hu; simp at hc; subst hc; simp at hu; rcases hu with rfl | rfl <;> rfl) (by rw [hrl]; omega) (by rw [hrl]; simp only [maxLen]; omega) (by have := b84w.size; omega)) ?_
                        rintro v85 w85 ⟨ho85, hg85⟩
                        have hvl := hV84.lt
                        have hM85 := hM84.grown hg85 (fun e => by have := (hvl M e.symm).1; omega)
                        have b85 : Below M w7 w85 := b79.grown hg85 (by have := b84w.size; omega) (fun k hk => by have := (hvl k hk).1; omega)
                        have hl85 := hM85.lt
                        have hv85 := ho85.lt
                        refine va_pure 19 rfl (by kernel_rfl) (by kernel_rfl) (by kernel_rfl) (fun w => (os_fa (o := 3) (k := 0) (by kernel_rfl) rfl)) ?_
                        refine va_one 20 (by kernel_rfl) ?_
                        refine vn_unit rfl (ou_store Try.sizeOf33 rfl rfl (OwnP.one ho85) (hM85.cell (i := 3) rfl) (hM85.free _)) ?_
                        refine va_done (by kernel_rfl) ?_
                        exact ⟨0, ⟨rfl, rfl, rfl, rfl, rfl, rfl, rfl, trivial⟩, ⟨rfl, trivial⟩, ⟨below_set b85 (Nat.le_refl _) _ _, v85, hM85.set 3 v85, by rw [moreC_take (by omega), List.map_append]; exact ho85.blk fun k hk => Below.heap_setCell _ _ _ _ (fun e => by have := (hv85 k hk).1; simp at e; omega), by simpa [World.setCell] using hl85⟩⟩
                      · refine vn_some rfl (ot_litS (css := [[.int .i64 (d.cs.getD i (0, 0)).1, .int .i64 ((1 + p) * (d.cs.getD i (0, 0)).2)]]) Try.underlying33 Try.sizeOf49 Try.zeroValue49 rfl rfl (by intro c hc; simp at hc; subst hc; rfl) (by decide) (by decide) (by decide)) ?_
                        rintro v84 w84 ⟨rfl, r84, s84, b84⟩
                        have b84w : Below w9.heap.size w9 w84 := b0.trans b84
                        have hM84 := hM9.keep b84w
                        have hV84 := hV9.keepAll b84w
                        have b79 : Below M w7 w84 := b9.trans (b84w.mono (by omega))
                        refine va_one 1 (by kernel_rfl) ?_
                        refine vn_val rfl (os_load Try.isAgg33 rfl ((by first | exact (hM9.keep b84w).cell (i := 3) rfl | exact (hM9.keep b0).cell (i := 3) rfl))) ?_
                        refine va_one 18 (by kernel_rfl) ?_
                        refine vn_some rfl (ot_append_pn Try.underlying33 ti_wCounts rfl (by decide) rfl rfl hV84 r84 (by intro c hc; simp at hc; subst hc; rfl) rfl (by intro c hc u hu; simp at hc; subst hc; simp at hu; rcases hu with rfl | rfl <;> rfl) (by rw [hrl]; omega) (by rw [hrl]; simp only [maxLen]; omega) (by have := b84w.size; omega)) ?_
                        rintro v85 w85 ⟨ho85, hg85⟩
                        have hvl := hV84.lt
                        have hM85 := hM84.grown hg85 (fun e => by have := (hvl M e.symm).1; omega)
                        have b85 : Below M w7 w85 := b79.grown hg85 (by have := b84w.size; omega) (fun k hk => by have := (hvl k hk).1; omega)
                        have hl85 := hM85.lt
                        have hv85 := ho85.lt
                        refine va_pure 19 rfl (by kernel_rfl) (by kernel_rfl) (by kernel_rfl) (fun w => (os_fa (o := 3) (k := 0) (by kernel_rfl) rfl)) ?_
                        refine va_one 20 (by kernel_rfl) ?_
                        refine vn_unit rfl (ou_store Try.sizeOf33 rfl rfl (OwnP.one ho85) (hM85.cell (i := 3) rfl) (hM85.free _)) ?_
                        refine va_done (by kernel_rfl) ?_
                        exact ⟨0, ⟨rfl, rfl, rfl, rfl, rfl, rfl, rfl, trivial⟩, ⟨rfl, trivial⟩, ⟨below_set b85 (Nat.le_refl _) _ _, v85, hM85.set 3 v85, by rw [moreC_take (by omega), List.map_append]; exact ho85.blk fun k hk => Below.heap_setCell _ _ _ _ (fun e => by have := (hv85 k hk).1; simp at e; omega), by simpa [World.setCell] using hl85⟩⟩
                  · refine vn_val rfl (os_load Try.isAgg3 rfl (q2)) ?_
                    refine va_pure 15 rfl (by kernel_rfl) (by kernel_rfl) (by kernel_rfl) (fun w => (os_muli rfl rfl (by omega))) ?_
                    refine va_two 1 7 (by kernel_rfl) ?_ ?_
                    · refine vn_val rfl (os_load Try.isAgg33 rfl ((by first | exact (hM9.keep b84w).cell (i := 3) rfl | exact (hM9.keep b0).cell (i := 3) rfl))) ?_
                      refine va_one 7 (by kernel_rfl) ?_
                      refine vn_val rfl (os_load Try.isAgg3 rfl (q1)) ?_
                      refine va_pure 16 rfl (by kernel_rfl) (by kernel_rfl) (by kernel_rfl) (fun w => (os_build (cs := [.int .i64 (d.cs.getD i (0, 0)).1, .int .i64 ((1 + p) * (d.cs.getD i (0, 0)).2)]) rfl (by kernel_rfl))) ?_
                      refine va_one 17 (by kernel_rfl) ?_
                      refine vn_some rfl (ot_litS (css := [[.int .i64 (d.cs.getD i (0, 0)).1, .int .i64 ((1 + p) * (d.cs.getD i (0, 0)).2)]]) Try.underlying33 Try.sizeOf49 Try.zeroValue49 rfl rfl (by intro c hc; simp at hc; subst hc; rfl) (by decide) (by decide) (by decide)) ?_
                      rintro v84 w84 ⟨rfl, r84, s84, b84⟩
                      have b84w : Below w9.heap.size w9 w84 := b0.trans b84
                      have hM84 := hM9.keep b84w
                      have hV84 := hV9.keepAll b84w
                      have b79 : Below M w7 w84 := b9.trans (b84w.mono (by omega))
                      refine va_one 18 (by kernel_rfl) ?_
                      refine vn_some rfl (ot_append_pn Try.underlying33 ti_wCounts rfl (by decide) rfl rfl hV84 r84 (by intro c hc; simp at hc; subst hc; rfl) rfl (by intro c hc u hu; simp at hc; subst hc; simp at hu; rcases hu with rfl | rfl <;> rfl) (by rw [hrl]; omega) (by rw [hrl]; simp only [maxLen]; omega) (by have := b84w.size; omega)) ?_
                      rintro v85 w85 ⟨ho85, hg85⟩
                      have hvl := hV84.lt
                      have hM85 := hM84.grown hg85 (fun e => by have := (hvl M e.symm).1; omega)
                      have b85 : Below M w7 w85 := b79.grown hg85 (by have := b84w.size; omega) (fun k hk => by have := (hvl k hk).1; omega)
                      have hl85 := hM85.lt
                      have hv85 := ho85.lt
                      refine va_pure 19 rfl (by kernel_rfl) (by kernel_rfl) (by kernel_rfl) (fun w => (os_fa (o := 3) (k := 0) (by kernel_rfl) rfl)) ?_
                      refine va_one 20 (by kernel_rfl) ?_
                      refine vn_unit rfl (ou_store Try.sizeOf33 rfl rfl (OwnP.one ho85) (hM85.cell (i := 3) rfl) (hM85.free _)) ?_
                      refine va_done (by kernel_rfl) ?_
                      exact ⟨0, ⟨rfl, rfl, rfl, rfl, rfl, rfl, rfl, trivial⟩, ⟨rfl, trivial⟩, ⟨below_set b85 (Nat.le_refl _) _ _, v85, hM85.set 3 v85, by rw [moreC_take (by omega), List.map_append]; exact ho85.blk fun k hk => Below.heap_setCell _ _ _ _ (fun e => by have := (hv85 k hk).1; simp at e; omega), by simpa [World.setCell] using hl85⟩⟩
                    · refine vn_val rfl (os_load Try.isAgg3 rfl (q1)) ?_
                      refine va_pure 16 rfl (by kernel_rfl) (by kernel_rfl) (by kernel_rfl) (fun w => (os_build (cs := [.int .i64 (d.cs.getD i (0, 0)).1, .int .i64 ((1 + p) * (d.cs.getD i (0, 0)).2)]) rfl (by kernel_rfl))) ?_
                      refine va_two 1 17 (by kernel_rfl) ?_ ?_
                      · refine vn_val rfl (os_load Try.isAgg33 rfl ((by first | exact (hM9.keep b84w).cell (i := 3) rfl | exact (hM9.keep b0).cell (i := 3) rfl))) ?_
                        refine va_one 17 (by kernel_rfl) ?_
                        refine vn_some rfl (ot_litS (css := [[.int .i64 (d.cs.getD i (0, 0)).1, .int .i64 ((1 + p) * (d.cs.getD i (0, 0)).2)]]) Try.underlying33 Try.sizeOf49 Try.zeroValue49 rfl rfl (by intro c hc; simp at hc; subst hc; rfl) (by decide) (by decide) (by decide)) ?_
                        rintro v84 w84 ⟨rfl, r84, s84, b84⟩
                        have b84w : Below w9.heap.size w9 w84 := b0.trans b84
                        have hM84 := hM9.keep b84w
                        have hV84 := hV9.keepAll b84w
                        have b79 : Below M w7 w84 := b9.trans (b84w.mono (by omega))
                        refine va_one 18 (by kernel_rfl) ?_
                        refine vn_some rfl (ot_append_pn Try.underlying33 ti_wCounts rfl (by decide) rfl rfl hV84 r84 (by intro c hc; simp at hc; subst hc; rfl) rfl (by intro c hc u hu; simp at hc; subst hc; simp at hu; rcases hu with rfl | rfl <;> rfl) (by rw [hrl]; omega) (by rw [hrl]; simp only [maxLen]; omega) (by have := b84w.size; omega)) ?_
                        rintro v85 w85 ⟨ho85, hg85⟩
                        have hvl := hV84.lt
                        have hM85 := hM84.grown hg85 (fun e => by have := (hvl M e.symm).1; omega)
                        have b85 : Below M w7 w85 := b79.grown hg85 (by have := b84w.size; omega) (fun k hk => by have := (hvl k hk).1; omega)
                        have hl85 := hM85.lt
                        have hv85 := ho85.lt
                        refine va_pure 19 rfl (by kernel_rfl) (by kernel_rfl) (by kernel_rfl) (fun w => (os_fa (o := 3) (k := 0) (by kernel_rfl) rfl)) ?_
                        refine va_one 20 (by kernel_rfl) ?_
                        refine vn_unit rfl (ou_store Try.sizeOf33 rfl rfl (OwnP.one ho85) (hM85.cell (i := 3) rfl) (hM85.free _)) ?_
                        refine va_done (by kernel_rfl) ?_
                        exact ⟨0, ⟨rfl, rfl, rfl, rfl, rfl, rfl, rfl, trivial⟩, ⟨rfl, trivial⟩, ⟨below_set b85 (Nat.le_refl _) _ _, v85, hM85.set 3 v85, by rw [moreC_take (by omega), List.map_append]; exact ho85.blk fun k hk => Below.heap_setCell _ _ _ _ (fun e => by have := (hv85 k hk).1; simp at e; omega), by simpa [World.setCell] using hl85⟩⟩
                      · refine vn_some rfl (ot_litS (css := [[.int .i64 (d.cs.getD i (0, 0)).1, .int .i64 ((1 + p) * (d.cs.getD i (0, 0)).2)]]) Try.underlying33 Try.sizeOf49 Try.zeroValue49 rfl rfl (by intro c hc; simp at hc; subst hc; rfl) (by decide) (by decide) (by decide)) ?_
                        rintro v84 w84 ⟨rfl, r84, s84, b84⟩
                        have b84w : Below w9.heap.size w9 w84 := b0.trans b84
                        have hM84 := hM9.keep b84w
                        have hV84 := hV9.keepAll b84w
                        have b79 : Below M w7 w84 := b9.trans (b84w.mono (by omega))
                        refine va_one 1 (by kernel_rfl) ?_
                        refine vn_val rfl (os_load Try.isAgg33 rfl ((by first | exact (hM9.keep b84w).cell (i := 3) rfl | exact (hM9.keep b0).cell (i := 3) rfl))) ?_
                        refine va_one 18 (by kernel_rfl) ?_
                        refine vn_some rfl (ot_append_pn Try.underlying33 ti_wCounts rfl (by decide) rfl rfl hV84 r84 (by intro c hc; simp at hc; subst hc; rfl) rfl (by intro c hc u hu; simp at hc; subst hc; simp at hu; rcases hu with rfl | rfl <;> rfl) (by rw [hrl]; omega) (by rw [hrl]; simp only [maxLen]; omega) (by have := b84w.size; omega)) ?_
                        rintro v85 w85 ⟨ho85, hg85⟩
                        have hvl := hV84.lt
                        have hM85 := hM84.grown hg85 (fun e => by have := (hvl M e.symm).1; omega)
                        have b85 : Below M w7 w85 := b79.grown hg85 (by have := b84w.size; omega) (fun k hk => by have := (hvl k hk).1; omega)
                        have hl85 := hM85.lt
                        have hv85 := ho85.lt
                        refine va_pure 19 rfl (by kernel_rfl) (by kernel_rfl) (by kernel_rfl) (fun w => (os_fa (o := 3) (k := 0) (by kernel_rfl) rfl)) ?_
                        refine va_one 20 (by kernel_rfl) ?_
                        refine vn_unit rfl (ou_store Try.sizeOf33 rfl rfl (OwnP.one ho85) (hM85.cell (i := 3) rfl) (hM85.free _)) ?_
                        refine va_done (by kernel_rfl) ?_
                        exact ⟨0, ⟨rfl, rfl, rfl, rfl, rfl, rfl, rfl, trivial⟩, ⟨rfl, trivial⟩, ⟨below_set b85 (Nat.le_refl _) _ _, v85, hM85.set 3 v85, by rw [moreC_take (by omega), List.map_append]; exact ho85.blk fun k hk => Below.heap_setCell _ _ _ _ (fun e => by have := (hv85 k hk).1; simp at e; omega), by simpa [World.setCell] using hl85⟩⟩
              · refine vn_val rfl (os_load Try.isAgg33 rfl ((hB9.keep b0).cell (i := 3) rfl)) ?_
                refine va_pure 12 rfl (by kernel_rfl) (by kernel_rfl) (by kernel_rfl) (fun w => (os_ixs Try.underlying33 Try.sizeOf49 rfl rfl (i := i) (by omega) (by omega))) ?_
                refine va_pure 13 rfl (by kernel_rfl) (by kernel_rfl) (by kernel_rfl) (fun w => (os_fa (o := 1) (k := 0) (by kernel_rfl) rfl)) ?_
                refine va_three 1 3 14 (by kernel_rfl) ?_ ?_ ?_
                · refine vn_val rfl (os_load Try.isAgg33 rfl ((by first | exact (hM9.keep b84w).cell (i := 3) rfl | exact (hM9.keep b0).cell (i := 3) rfl))) ?_
                  refine va_two 3 14 (by kernel_rfl) ?_ ?_
                  · refine vn_val rfl (os_load Try.isAgg33 rfl ((hB9.keep b0).cell (i := 3) rfl)) ?_
                    refine va_pure 5 rfl (by kernel_rfl) (by kernel_rfl) (by kernel_rfl) (fun w => (os_ixs Try.underlying33 Try.sizeOf49 rfl rfl (i := i) (by omega) (by omega))) ?_
                    refine va_pure 6 rfl (by kernel_rfl) (by kernel_rfl) (by kernel_rfl) (fun w => (os_fa (o := 0) (k := 0) (by kernel_rfl) rfl)) ?_
                    refine va_two 7 14 (by kernel_rfl) ?_ ?_
                    · refine vn_val rfl (os_load Try.isAgg3 rfl (q1)) ?_
                      refine va_one 14 (by kernel_rfl) ?_
                      refine vn_val rfl (os_load Try.isAgg3 rfl (q2)) ?_
                      refine va_pure 15 rfl (by kernel_rfl) (by kernel_rfl) (by kernel_rfl) (fun w => (os_muli rfl rfl (by omega))) ?_
                      refine va_pure 16 rfl (by kernel_rfl) (by kernel_rfl) (by kernel_rfl) (fun w => (os_build (cs := [.int .i64 (d.cs.getD i (0, 0)).1, .int .i64 ((1 + p) * (d.cs.getD i (0, 0)).2)]) rfl (by kernel_rfl))) ?_
                      refine va_one 17 (by kernel_rfl) ?_
                      refine vn_some rfl (ot_litS (css := [[.int .i64 (d.cs.getD i (0, 0)).1, .int .i64 ((1 + p) * (d.cs.getD i (0, 0)).2)]]) Try.underlying33 Try.sizeOf49 Try.zeroValue49 rfl rfl (by intro c hc; simp at hc; subst hc; rfl) (by decide) (by decide) (by decide)) ?_
                      rintro v84 w84 ⟨rfl, r84, s84, b84⟩
                      have b84w : Below w9.heap.size w9 w84 := b0.trans b84
                      have hM84 := hM9.keep b84w
                      have hV84 := hV9.keepAll b84w
                      have b79 : Below M w7 w84 := b9.trans (b84w.mono (by omega))
                      refine va_one 18 (by kernel_rfl) ?_
                      refine vn_some rfl (ot_append_pn Try.underlying33 ti_wCounts rfl (by decide) rfl rfl hV84 r84 (by intro c hc; simp at hc; subst hc; rfl) rfl (by intro c hc u hu; simp at hc; subst hc; simp at hu; rcases hu with rfl | rfl <;> rfl) (by rw [hrl]; omega) (by rw [hrl]; simp only [maxLen]; omega) (by have := b84w.size; omega)) ?_
                      rintro v85 w85 ⟨ho85, hg85⟩
                      have hvl := hV84.lt
                      have hM85 := hM84.grown hg85 (fun e => by have := (hvl M e.symm).1; omega)
                      have b85 : Below M w7 w85 := b79.grown hg85 (by have := b84w.size; omega) (fun k hk => by have := (hvl k hk).1; omega)
                      have hl85 := hM85.lt
                      have hv85 := ho85.lt
                      refine va_pure 19 rfl (by kernel_rfl) (by kernel_rfl) (by kernel_rfl) (fun w => (os_fa (o := 3) (k := 0) (by kernel_rfl) rfl)) ?_
                      refine va_one 20 (by kernel_rfl) ?_
                      refine vn_unit rfl (ou_store Try.sizeOf33 rfl rfl (OwnP.one ho85) (hM85.cell (i := 3) rfl) (hM85.free _)) ?_
                      refine va_done (by kernel_rfl) ?_
                      exact ⟨0, ⟨rfl, rfl, rfl, rfl, rfl, rfl, rfl, trivial⟩, ⟨rfl, trivial⟩, ⟨below_set b85 (Nat.le_refl _) _ _, v85, hM85.set 3 v85, by rw [moreC_take (by omega), List.map_append]; exact ho85.blk fun k hk => Below.heap_setCell _ _ _ _ (fun e => by have := (hv85 k hk).1; simp at e; omega), by simpa [World.setCell] using hl85⟩⟩
                    · refine vn_val rfl (os_load Try.isAgg3 rfl (q2)) ?_
                      refine va_pure 15 rfl (by kernel_rfl) (by kernel_rfl) (by kernel_rfl) (fun w => (os_muli rfl rfl (by omega))) ?_
                      refine va_one 7 (by kernel_rfl) ?_
                      refine vn_val rfl (os_load Try.isAgg3 rfl (q1)) ?_
                      refine va_pure 16 rfl (by kernel_rfl) (by kernel_rfl) (by kernel_rfl) (fun w => (os_build (cs := [.int .i64 (d.cs.getD i (0, 0)).1, .int .i64 ((1 + p) * (d.cs.getD i (0, 0)).2)]) rfl (by kernel_rfl))) ?_
                      refine va_one 17 (by kernel_rfl) ?_
                      refine vn_some rfl (ot_litS (css := [[.int .i64 (d.cs.getD i (0, 0)).1, .int .i64 ((1 + p) * (d.cs.getD i (0, 0)).2)]]) Try.underlying33 Try.sizeOf49 Try.zeroValue49 rfl rfl (by intro c hc; simp at hc; subst hc; rfl) (by decide) (by decide) (by decide)) ?_
                      rintro v84 w84 ⟨rfl, r84, s84, b84⟩
                      have b84w : Below w9.heap.size w9 w84 := b0.trans b84
                      have hM84 := hM9.keep b84w
                      have hV84 := hV9.keepAll b84w
                      have b79 : Below M w7 w84 := b9.trans (b84w.mono (by omega))
                      refine va_one 18 (by kernel_rfl) ?_
                      refine vn_some rfl (ot_append_pn Try.underlying33 ti_wCounts rfl (by decide) rfl rfl hV84 r84 (by intro c hc; simp at hc; subst hc; rfl) rfl (by intro c hc u hu; simp at hc; subst hc; simp at hu; rcases hu with rfl | rfl <;> rfl) (by rw [hrl]; omega) (by rw [hrl]; simp only [maxLen]; omega) (by have := b84w.size; omega)) ?_
                      rintro v85 w85 ⟨ho85, hg85⟩
                      have hvl := hV84.lt
                      have hM85 := hM84.grown hg85 (fun e => by have := (hvl M e.symm).1; omega)
                      have b85 : Below M w7 w85 := b79.grown hg85 (by have := b84w.size; omega) (fun k hk => by have := (hvl k hk).1; omega)
                      have hl85 := hM85.lt
                      have hv85 := ho85.lt
                      refine va_pure 19 rfl (by kernel_rfl) (by kernel_rfl) (by kernel_rfl) (fun w => (os_fa (o := 3) (k := 0) (by kernel_rfl) rfl)) ?_
                      refine va_one 20 (by kernel_rfl) ?_
                      refine vn_unit rfl (ou_store Try.sizeOf33 rfl rfl (OwnP.one ho85) (hM85.cell (i := 3) rfl) (hM85.free _)) ?_
                      refine va_done (by kernel_rfl) ?_
                      exact ⟨0, ⟨rfl, rfl, rfl, rfl, rfl, rfl, rfl, trivial⟩, ⟨rfl, trivial⟩, ⟨below_set b85 (Nat.le_refl _) _ _, v85, hM85.set 3 v85, by rw [moreC_take (by omega), List.map_append]; exact ho85.blk fun k hk => Below.heap_setCell _ _ _ _ (fun e => by have := (hv85 k hk).1; simp at e; omega), by simpa [World.setCell] using hl85⟩⟩
                  · refine vn_val rfl (os_load Try.isAgg3 rfl (q2)) ?_
                    refine va_pure 15 rfl (by kernel_rfl) (by kernel_rfl) (by kernel_rfl) (fun w => (os_muli rfl rfl (by omega))) ?_
                    refine va_one 3 (by kernel_rfl) ?_
                    refine vn_val rfl (os_load Try.isAgg33 rfl ((hB9.keep b0).cell (i := 3) rfl)) ?_
                    refine va_pure 5 rfl (by kernel_rfl) (by kernel_rfl) (by kernel_rfl) (fun w => (os_ixs Try.underlying33 Try.sizeOf49 rfl rfl (i := i) (by omega) (by omega))) ?_
                    refine va_pure 6 rfl (by kernel_rfl) (by kernel_rfl) (by kernel_rfl) (fun w => (os_fa (o := 0) (k := 0) (by kernel_rfl) rfl)) ?_
                    refine va_one 7 (by kernel_rfl) ?_
                    refine vn_val rfl (os_load Try.isAgg3 rfl (q1)) ?_
                    refine va_pure 16 rfl (by kernel_rfl) (by kernel_rfl) (by kernel_rfl) (fun w => (os_build (cs := [.int .i64 (d.cs.getD i (0, 0)).1, .int .i64 ((1 + p) * (d.cs.getD i (0, 0)).2)]) rfl (by kernel_rfl))) ?_
                    refine va_one 17 (by kernel_rfl) ?_
                    refine vn_some rfl (ot_litS (css := [[.int .i64 (d.cs.getD i (0, 0)).1, .int .i64 ((1 + p) * (d.cs.getD i (0, 0)).2)]]) Try.underlying33 Try.sizeOf49 Try.zeroValue49 rfl rfl (by intro c hc; simp at hc; subst hc; rfl) (by decide) (by decide) (by decide)) ?_
                    rintro v84 w84 ⟨rfl, r84, s84, b84⟩
                    have b84w : Below w9.heap.size w9 w84 := b0.trans b84
                    have hM84 := hM9.keep b84w
                    have hV84 := hV9.keepAll b84w
                    have b79 : Below M w7 w84 := b9.trans (b84w.mono (by omega))
                    refine va_one 18 (by kernel_rfl) ?_
                    refine vn_some rfl (ot_append_pn Try.underlying33 ti_wCounts rfl (by decide) rfl rfl hV84 r84 (by intro c hc; simp at hc; subst hc; rfl) rfl (by intro c hc u hu; simp at hc; subst hc; simp at hu; rcases hu with rfl | rfl <;> rfl) (by rw [hrl]; omega) (by rw [hrl]; simp only [maxLen]; omega) (by have := b84w.size; omega)) ?_
                    rintro v85 w85 ⟨ho85, hg85⟩
                    have hvl := hV84.lt
                    have hM85 := hM84.grown hg85 (fun e => by have := (hvl M e.symm).1; omega)
                    have b85 : Below M w7 w85 := b79.grown hg85 (by have := b84w.size; omega) (fun k hk => by have := (hvl k hk).1; omega)
                    have hl85 := hM85.lt
                    have hv85 := ho85.lt
                    refine va_pure 19 rfl (by kernel_rfl) (by kernel_rfl) (by kernel_rfl) (fun w => (os_fa (o := 3) (k := 0) (by kernel_rfl) rfl)) ?_
                    refine va_one 20 (by kernel_rfl) ?_
                    refine vn_unit rfl (ou_store Try.sizeOf33 rfl rfl (OwnP.one ho85) (hM85.cell (i := 3) rfl) (hM85.free _)) ?_
                    refine va_done (by kernel_rfl) ?_
                    exact ⟨0, ⟨rfl, rfl, rfl, rfl, rfl, rfl, rfl, trivial⟩, ⟨rfl, trivial⟩, ⟨below_set b85 (Nat.le_refl _) _ _, v85, hM85.set 3 v85, by rw [moreC_take (by omega), List.map_append]; exact ho85.blk fun k hk => Below.heap_setCell _ _ _ _ (fun e => by have := (hv85 k hk).1; simp at e; omega), by simpa [World.setCell] using hl85⟩⟩
                · refine vn_val rfl (os_load Try.isAgg33 rfl ((hB9.keep b0).cell (i := 3) rfl)) ?_
                  refine va_pure 5 rfl (by kernel_rfl) (by kernel_rfl) (by kernel_rfl) (fun w => (os_ixs Try.underlying33 Try.sizeOf49 rfl rfl (i := i) (by omega) (by omega))) ?_
                  refine va_pure 6 rfl (by kernel_rfl) (by kernel_rfl) (by kernel_rfl) (fun w => (os_fa (o := 0) (k := 0) (by kernel_rfl) rfl)) ?_
                  refine va_three 1 7 14 (by kernel_rfl) ?_ ?_ ?_
                  · refine vn_val rfl (os_load Try.isAgg33 rfl ((by first | exact (hM9.keep b84w).cell (i := 3) rfl | exact (hM9.keep b0).cell (i := 3) rfl))) ?_
                    refine va_two 7 14 (by kernel_rfl) ?_ ?_
                    · refine vn_val rfl (os_load Try.isAgg3 rfl (q1)) ?_
                      refine va_one 14 (by kernel_rfl) ?_
                      refine vn_val rfl (os_load Try.isAgg3 rfl (q2)) ?_
                      refine va_pure 15 rfl (by kernel_rfl) (by kernel_rfl) (by kernel_rfl) (fun w => (os_muli rfl rfl (by omega))) ?_
                      refine va_pure 16 rfl (by kernel_rfl) (by kernel_rfl) (by kernel_rfl) (fun w => (os_build (cs := [.int .i64 (d.cs.getD i (0, 0)).1, .int .i64 ((1 + p) * (d.cs.getD i (0, 0)).2)]) rfl (by kernel_rfl))) ?_
                      refine va_one 17 (by kernel_rfl) ?_
                      refine vn_some rfl (ot_litS (css := [[.int .i64 (d.cs.getD i (0, 0)).1, .int .i64 ((1 + p) * (d.cs.getD i (0, 0)).2)]]) Try.underlying33 Try.sizeOf49 Try.zeroValue49 rfl rfl (by intro c hc; simp at hc; subst hc; rfl) (by decide) (by decide) (by decide)) ?_
                      rintro v84 w84 ⟨rfl, r84, s84, b84⟩
                      have b84w : Below w9.heap.size w9 w84 := b0.trans b84
                      have hM84 := hM9.keep b84w
                      have hV84 := hV9.keepAll b84w
                      have b79 : Below M w7 w84 := b9.trans (b84w.mono (by omega))
                      refine va_one 18 (by kernel_rfl) ?_
                      refine vn_some rfl (ot_append_pn Try.underlying33 ti_wCounts rfl (by decide) rfl rfl hV84 r84 (by intro c hc; simp at hc; subst hc; rfl) rfl (by intro c hc u hu; simp at hc; subst hc; simp at hu; rcases hu with rfl | rfl <;> rfl) (by rw [hrl]; omega) (by rw [hrl]; simp only [maxLen]; omega) (by have := b84w.size; omega)) ?_
                      rintro v85 w85 ⟨ho85, hg85⟩
                      have hvl := hV84.lt
                      have hM85 := hM84.grown hg85 (fun e => by have := (hvl M e.symm).1; omega)
                      have b85 : Below M w7 w85 := b79.grown hg85 (by have := b84w.size; omega) (fun k hk => by have := (hvl k hk).1; omega)
                      have hl85 := hM85.lt
                      have hv85 := ho85.lt
                      refine va_pure 19 rfl (by kernel_rfl) (by kernel_rfl) (by kernel_rfl) (fun w => (os_fa (o := 3) (k := 0) (by kernel_rfl) rfl)) ?_
                      refine va_one 20 (by kernel_rfl) ?_
                      refine vn_unit rfl (ou_store Try.sizeOf33 rfl rfl (OwnP.one ho85) (hM85.cell (i := 3) rfl) (hM85.free _)) ?_
                      refine va_done (by kernel_rfl) ?_
                      exact ⟨0, ⟨rfl, rfl, rfl, rfl, rfl, rfl, rfl, trivial⟩, ⟨rfl, trivial⟩, ⟨below_set b85 (Nat.le_refl _) _ _, v85, hM85.set 3 v85, by rw [moreC_take (by omega), List.map_append]; exact ho85.blk fun k hk => Below.heap_setCell _ _ _ _ (fun e => by have := (hv85 k hk).1; simp at e; omega), by simpa [World.setCell] using hl85⟩⟩
                    · refine vn_val rfl (os_load Try.isAgg3 rfl (q2)) ?_
                      refine va_pure 15 rfl (by kernel_rfl) (by kernel_rfl) (by kernel_rfl) (fun w => (os_muli rfl rfl (by omega))) ?_
                      refine va_one 7 (by kernel_rfl) ?_
                      refine vn_val rfl (os_load Try.isAgg3 rfl (q1)) ?_
                      refine va_pure 16 rfl (by kernel_rfl) (by kernel_rfl) (by kernel_rfl) (fun w => (os_build (cs := [.int .i64 (d.cs.getD i (0, 0)).1, .int .i64 ((1 + p) * (d.cs.getD i (0, 0)).2)]) rfl (by kernel_rfl))) ?_
                      refine va_one 17 (by kernel_rfl) ?_
                      refine vn_some rfl (ot_litS (css := [[.int .i64 (d.cs.getD i (0, 0)).1, .int .i64 ((1 + p) * (d.cs.getD i (0, 0)).2)]]) Try.underlying33 Try.sizeOf49 Try.zeroValue49 rfl rfl (by intro c hc; simp at hc; subst hc; rfl) (by decide) (by decide) (by decide)) ?_
                      rintro v84 w84 ⟨rfl, r84, s84, b84⟩
                      have b84w : Below w9.heap.size w9 w84 := b0.trans b84
                      have hM84 := hM9.keep b84w
                      have hV84 := hV9.keepAll b84w
                      have b79 : Below M w7 w84 := b9.trans (b84w.mono (by omega))
                      refine va_one 18 (by kernel_rfl) ?_
                      refine vn_some rfl (ot_append_pn Try.underlying33 ti_wCounts rfl (by decide) rfl rfl hV84 r84 (by intro c hc; simp at hc; subst hc; rfl) rfl (by intro c hc u hu; simp at hc; subst hc; simp at hu; rcases hu with rfl | rfl <;> rfl) (by rw [hrl]; omega) (by rw [hrl]; simp only [maxLen]; omega) (by have := b84w.size; omega)) ?_
                      rintro v85 w85 ⟨ho85, hg85⟩
                      have hvl := hV84.lt
                      have hM85 := hM84.grown hg85 (fun e => by have := (hvl M e.symm).1; omega)
                      have b85 : Below M w7 w85 := b79.grown hg85 (by have := b84w.size; omega) (fun k hk => by have := (hvl k hk).1; omega)
                      have hl85 := hM85.lt
                      have hv85 := ho85.lt
                      refine va_pure 19 rfl (by kernel_rfl) (by kernel_rfl) (by kernel_rfl) (fun w => (os_fa (o := 3) (k := 0) (by kernel_rfl) rfl)) ?_
                      refine va_one 20 (by kernel_rfl) ?_
                      refine vn_unit rfl (ou_store Try.sizeOf33 rfl rfl (OwnP.one ho85) (hM85.cell (i := 3) rfl) (hM85.free _)) ?_
                      refine va_done (by kernel_rfl) ?_
                      exact ⟨0, ⟨rfl, rfl, rfl, rfl, rfl, rfl, rfl, trivial⟩, ⟨rfl, trivial⟩, ⟨below_set b85 (Nat.le_refl _) _ _, v85, hM85.set 3 v85, by rw [moreC_take (by omega), List.map_append]; exact ho85.blk fun k hk => Below.heap_setCell _ _ _ _ (fun e => by have := (hv85 k hk).1; simp at e; omega), by simpa [World.setCell] using hl85⟩⟩
                  · refine vn_val rfl (os_load Try.isAgg3 rfl (q1)) ?_
                    refine va_two 1 14 (by kernel_rfl) ?_ ?_
                    · refine vn_val rfl (os_load Try.isAgg33 rfl ((by first | exact (hM9.keep b84w).cell (i := 3) rfl | exact (hM9.keep b0).cell (i := 3) rfl))) ?_
                      refine va_one 14 (by kernel_rfl) ?_
                      refine vn_val rfl (os_load Try.isAgg3 rfl (q2)) ?_
                      refine va_pure 15 rfl (by kernel_rfl) (by kernel_rfl) (by kernel_rfl) (fun w => (os_muli rfl rfl (by omega))) ?_
                      refine va_pure 16 rfl (by kernel_rfl) (by kernel_rfl) (by kernel_rfl) (fun w => (os_build (cs := [.int .i64 (d.cs.getD i (0, 0)).1, .int .i64 ((1 + p) * (d.cs.getD i (0, 0)).2)]) rfl (by kernel_rfl))) ?_
                      refine va_one 17 (by kernel_rfl) ?_
                      refine vn_some rfl (ot_litS (css := [[.int .i64 (d.cs.getD i (0, 0)).1, .int .i64 ((1 + p) * (d.cs.getD i (0, 0)).2)]]) Try.underlying33 Try.sizeOf49 Try.zeroValue49 rfl rfl (by intro c hc; simp at hc; subst hc; rfl) (by decide) (by decide) (by decide)) ?_
                      rintro v84 w84 ⟨rfl, r84, s84, b84⟩
                      have b84w : Below w9.heap.size w9 w84 := b0.trans b84
                      have hM84 := hM9.keep b84w
                      have hV84 := hV9.keepAll b84w
                      have b79 : Below M w7 w84 := b9.trans (b84w.mono (by omega))
                      refine va_one 18 (by kernel_rfl) ?_
                      refine vn_some rfl (ot_append_pn Try.underlying33 ti_wCounts rfl (by decide) rfl rfl hV84 r84 (by intro c hc; simp at hc; subst hc; rfl) rfl (by intro c hc u hu; simp at hc; subst hc; simp at hu; rcases hu with rfl | rfl <;> rfl) (by rw [hrl]; omega) (by rw [hrl]; simp only [maxLen]; omega) (by have := b84w.size; omega)) ?_
                      rintro v85 w85 ⟨ho85, hg85⟩
                      have hvl := hV84.lt
                      have hM85 := hM84.grown hg85 (fun e => by have := (hvl M e.symm).1; omega)
                      have b85 : Below M w7 w85 := b79.grown hg85 (by have := b84w.size; omega) (fun k hk => by have := (hvl k hk).1; omega)
                      have hl85 := hM85.lt
                      have hv85 := ho85.lt
                      refine va_pure 19 rfl (by kernel_rfl) (by kernel_rfl) (by kernel_rfl) (fun w => (os_fa (o := 3) (k := 0) (by kernel_rfl) rfl)) ?_
                      refine va_one 20 (by kernel_rfl) ?_
                      refine vn_unit rfl (ou_store Try.sizeOf33 rfl rfl (OwnP.one ho85) (hM85.cell (i := 3) rfl) (hM85.free _)) ?_
                      refine va_done (by kernel_rfl) ?_
                      exact ⟨0, ⟨rfl, rfl, rfl, rfl, rfl, rfl, rfl, trivial⟩, ⟨rfl, trivial⟩, ⟨below_set b85 (Nat.le_refl _) _ _, v85, hM85.set 3 v85, by rw [moreC_take (by omega), List.map_append]; exact ho85.blk fun k hk => Below.heap_setCell _ _ _ _ (fun e => by have := (hv85 k hk).1; simp at e; omega), by simpa [World.setCell] using hl85⟩⟩
                    · refine vn_val rfl (os_load Try.isAgg3 rfl (q2)) ?_
                      refine va_pure 15 rfl (by kernel_rfl) (by kernel_rfl) (by kernel_rfl) (fun w => (os_muli rfl rfl (by omega))) ?_
                      refine va_pure 16 rfl (by kernel_rfl) (by kernel_rfl) (by kernel_rfl) (fun w => (os_build (cs := [.int .i64 (d.cs.getD i (0, 0)).1, .int .i64 ((1 + p) * (d.cs.getD i (0, 0)).2)]) rfl (by kernel_rfl))) ?_
                      refine va_two 1 17 (by kernel_rfl) ?_ ?_
                      · refine vn_val rfl (os_load Try.isAgg33 rfl ((by first | exact (hM9.keep b84w).cell (i := 3) rfl | exact (hM9.keep b0).cell (i := 3) rfl))) ?_
                        refine va_one 17 (by kernel_rfl) ?_
                        refine vn_some rfl (ot_litS (css := [[.int .i64 (d.cs.getD i (0, 0)).1, .int .i64 ((1 + p) * (d.cs.getD i (0, 0)).2)]]) Try.underlying33 Try.sizeOf49 Try.zeroValue49 rfl rfl (by intro c hc; simp at hc; subst hc; rfl) (by decide) (by decide) (by decide)) ?_
                        rintro v84 w84 ⟨rfl, r84, s84, b84⟩
                        have b84w : Below w9.heap.size w9 w84 := b0.trans b84
                        have hM84 := hM9.keep b84w
                        have hV84 := hV9.keepAll b84w
                        have b79 : Below M w7 w84 := b9.trans (b84w.mono (by omega))
                        refine va_one 18 (by kernel_rfl) ?_
                        refine vn_some rfl (ot_append_pn Try.underlying33 ti_wCounts rfl (by decide) rfl rfl hV84 r84 (by intro c hc; simp at hc; subst hc; rfl) rfl (by intro c hc u hu; simp at hc; subst hc; simp at hu; rcases hu with rfl | rfl <;> rfl) (by rw [hrl]; omega) (by rw [hrl]; simp only [maxLen]; omega) (by have := b84w.size; omega)) ?_
                        rintro v85 w85 ⟨ho85, hg85⟩
                        have hvl := hV84.lt
                        have hM85 := hM84.grown hg85 (fun e => by have := (hvl M e.symm).1; omega)
                        have b85 : Below M w7 w85 := b79.grown hg85 (by have := b84w.size; omega) (fun k hk => by have := (hvl k hk).1; omega)
                        have hl85 := hM85.lt
                        have hv85 := ho85.lt
                        refine va_pure 19 rfl (by kernel_rfl) (by kernel_rfl) (by kernel_rfl) (fun w => (os_fa (o := 3) (k := 0) (by kernel_rfl) rfl)) ?_
                        refine va_one 20 (by kernel_rfl) ?_
                        refine vn_unit rfl (ou_store Try.sizeOf33 rfl rfl (OwnP.one ho85) (hM85.cell (i := 3) rfl) (hM85.free _)) ?_
                        refine va_done (by kernel_rfl) ?_
                        exact ⟨0, ⟨rfl, rfl, rfl, rfl, rfl, rfl, rfl, trivial⟩, ⟨rfl, trivial⟩, ⟨below_set b85 (Nat.le_refl _) _ _, v85, hM85.set 3 v85, by rw [moreC_take (by omega), List.map_append]; exact ho85.blk fun k hk => Below.heap_setCell _ _ _ _ (fun e => by have := (hv85 k hk).1; simp at e; omega), by simpa [World.setCell] using hl85⟩⟩
                      · refine vn_some rfl (ot_litS (css := [[.int .i64 (d.cs.getD i (0, 0)).1, .int .i64 ((1 + p) * (d.cs.getD i (0, 0)).2)]]) Try.underlying33 Try.sizeOf49 Try.zeroValue49 rfl rfl (by intro c hc; simp at hc; subst hc; rfl) (by decide) (by decide) (by decide)) ?_
                        rintro v84 w84 ⟨rfl, r84, s84, b84⟩
                        have b84w : Below w9.heap.size w9 w84 := b0.trans b84
                        have hM84 := hM9.keep b84w
                        have hV84 := hV9.keepAll b84w
                        have b79 : Below M w7 w84 := b9.trans (b84w.mono (by omega))
                        refine va_one 1 (by kernel_rfl) ?_
                        refine vn_val rfl (os_load Try.isAgg33 rfl ((by first | exact (hM9.keep b84w).cell (i := 3) rfl | exact (hM9.keep b0).cell (i := 3) rfl))) ?_
                        refine va_one 18 (by kernel_rfl) ?_
                        refine vn_some rfl (ot_append_pn Try.underlying33 ti_wCounts rfl (by decide) rfl rfl hV84 r84 (by intro c hc; simp at hc; subst hc; rfl) rfl (by intro c hc u hu; simp at hc; subst hc; simp at hu; rcases hu with rfl | rfl <;> rfl) (by rw [hrl]; omega) (by rw [hrl]; simp only [maxLen]; omega) (by have := b84w.size; omega)) ?_
                        rintro v85 w85 ⟨ho85, hg85⟩
                        have hvl := hV84.lt
                        have hM85 := hM84.grown hg85 (fun e => by have := (hvl M e.symm).1; omega)
                        have b85 : Below M w7 w85 := b79.grown hg85 (by have := b84w.size; omega) (fun k hk => by have := (hvl k hk).1; omega)
                        have hl85 := hM85.lt
                        have hv85 := ho85.lt
                        refine va_pure 19 rfl (by kernel_rfl) (by kernel_rfl) (by kernel_rfl) (fun w => (os_fa (o := 3) (k := 0) (by kernel_rfl) rfl)) ?_
                        refine va_one 20 (by kernel_rfl) ?_
                        refine vn_unit rfl (ou_store Try.sizeOf33 rfl rfl (OwnP.one ho85) (hM85.cell (i := 3) rfl) (hM85.free _)) ?_
                        refine va_done (by kernel_rfl) ?_
                        exact ⟨0, ⟨rfl, rfl, rfl, rfl, rfl, rfl, rfl, trivial⟩, ⟨rfl, trivial⟩, ⟨below_set b85 (Nat.le_refl _) _ _, v85, hM85.set 3 v85, by rw [moreC_take (by omega), List.map_append]; exact ho85.blk fun k hk => Below.heap_setCell _ _ _ _ (fun e => by have := (hv85 k hk).1; simp at e; omega), by simpa [World.setCell] using hl85⟩⟩
                  · refine vn_val rfl (os_load Try.isAgg3 rfl (q2)) ?_
                    refine va_pure 15 rfl (by kernel_rfl) (by kernel_rfl) (by kernel_rfl) (fun w => (os_muli rfl rfl (by omega))) ?_
                    refine va_two 1 7 (by kernel_rfl) ?_ ?_
                    · refine vn_val rfl (os_load Try.isAgg33 rfl ((by first | exact (hM9.keep b84w).cell (i := 3) rfl | exact (hM9.keep b0).cell (i := 3) rfl))) ?_
                      refine va_one 7 (by kernel_rfl) ?_
                      refine vn_val rfl (os_load Try.isAgg3 rfl (q1)) ?_
                      refine va_pure 16 rfl (by kernel_rfl) (by kernel_rfl) (by kernel_rfl) (fun w => (os_build (cs := [.int .i64 (d.cs.getD i (0, 0)).1, .int .i64 ((1 + p) * (d.cs.getD i (0, 0)).2)]) rfl (by kernel_rfl))) ?_
                      refine va_one 17 (by kernel_rfl) ?_
                      refine vn_some rfl (ot_litS (css := [[.int .i64 (d.cs.getD i (0, 0)).1, .int .i64 ((1 + p) * (d.cs.getD i (0, 0)).2)]]) Try.underlying33 Try.sizeOf49 Try.zeroValue49 rfl rfl (by intro c hc; simp at hc; subst hc; rfl) (by decide) (by decide) (by decide)) ?_
                      rintro v84 w84 ⟨rfl, r84, s84, b84⟩
                      have b84w : Below w9.heap.size w9 w84 := b0.trans b84
                      have hM84 := hM9.keep b84w
                      have hV84 := hV9.keepAll b84w
                      have b79 : Below M w7 w84 := b9.trans (b84w.mono (by omega))
                      refine va_one 18 (by kernel_rfl) ?_
                      refine vn_some rfl (ot_append_pn Try.underlying33 ti_wCounts rfl (by decide) rfl rfl hV84 r84 (by intro c hc; simp at hc; subst hc; rfl) rfl (by intro c hc u hu; simp at hc; subst hc; simp at hu; rcases hu with rfl | rfl <;> rfl) (by rw [hrl]; omega) (by rw [hrl]; simp only [maxLen]; omega) (by have := b84w.size; omega)) ?_
                      rintro v85 w85 ⟨ho85, hg85⟩
                      have hvl := hV84.lt
                      have hM85 := hM84.grown hg85 (fun e => by have := (hvl M e.symm).1; omega)
                      have b85 : Below M w7 w85 := b79.grown hg85 (by have := b84w.size; omega) (fun k hk => by have := (hvl k hk).1; omega)
                      have hl85 := hM85.lt
                      have hv85 := ho85.lt
                      refine va_pure 19 rfl (by kernel_rfl) (by kernel_rfl) (by kernel_rfl) (fun w => (os_fa (o := 3) (k := 0) (by kernel_rfl) rfl)) ?_
                      refine va_one 20 (by kernel_rfl) ?_
                      refine vn_unit rfl (ou_store Try.sizeOf33 rfl rfl (OwnP.one ho85) (hM85.cell (i := 3) rfl) (hM85.free _)) ?_
                      refine va_done (by kernel_rfl) ?_
                      exact ⟨0, ⟨rfl, rfl, rfl, rfl, rfl, rfl, rfl, trivial⟩, ⟨rfl, trivial⟩, ⟨below_set b85 (Nat.le_refl _) _ _, v85, hM85.set 3 v85, by rw [moreC_take (by omega), List.map_append]; exact ho85.blk fun k hk => Below.heap_setCell _ _ _ _ (fun e => by have := (hv85 k hk).1; simp at e; omega), by simpa [World.setCell] using hl85⟩⟩
                    · refine vn_val rfl (os_load Try.isAgg3 rfl (q1)) ?_
                      refine va_pure 16 rfl (by kernel_rfl) (by kernel_rfl) (by kernel_rfl) (fun w => (os_build (cs := [.int .i64 (d.cs.getD i (0, 0)).1, .int .i64 ((1 + p) * (d.cs.getD i (0, 0)).2)]) rfl (by kernel_rfl))) ?_
                      refine va_two 1 17 (by kernel_rfl) ?_ ?_
                      · refine vn_val rfl (os_load Try.isAgg33 rfl ((by first | exact (hM9.keep b84w).cell (i := 3) rfl | exact (hM9.keep b0).cell (i := 3) rfl))) ?_
                        refine va_one 17 (by kernel_rfl) ?_
                        refine vn_some rfl (ot_litS (css := [[.int .i64 (d.cs.getD i (0, 0)).1, .int .i64 ((1 + p) * (d.cs.getD i (0, 0)).2)]]) Try.underlying33 Try.sizeOf49 Try.zeroValue49 rfl rfl (by intro c hc; simp at hc; subst hc; rfl) (by decide) (by decide) (by decide)) ?_
                        rintro v84 w84 ⟨rfl, r84, s84, b84⟩
                        have b84w : Below w9.heap.size w9 w84 := b0.trans b84
                        have hM84 := hM9.keep b84w
                        have hV84 := hV9.keepAll b84w
                        have b79 : Below M w7 w84 := b9.trans (b84w.mono (by omega))
                        refine va_one 18 (by kernel_rfl) ?_
                        refine vn_some rfl (ot_append_pn Try.underlying33 ti_wCounts rfl (by decide) rfl rfl hV84 r84 (by intro c hc; simp at hc; subst hc; rfl) rfl (by intro c hc u hu; simp at hc; subst hc; simp at hu; rcases hu with rfl | rfl <;> rfl) (by rw [hrl]; omega) (by rw [hrl]; simp only [maxLen]; omega) (by have := b84w.size; omega)) ?_
                        rintro v85 w85 ⟨ho85, hg85⟩
                        have hvl := hV84.lt
                        have hM85 := hM84.grown hg85 (fun e => by have := (hvl M e.symm).1; omega)
                        have b85 : Below M w7 w85 := b79.grown hg85 (by have := b84w.size; omega) (fun k hk => by have := (hvl k hk).1; omega)
                        have hl85 := hM85.lt
                        have hv85 := ho85.lt
                        refine va_pure 19 rfl (by kernel_rfl) (by kernel_rfl) (by kernel_rfl) (fun w => (os_fa (o := 3) (k := 0) (by kernel_rfl) rfl)) ?_
                        refine va_one 20 (by kernel_rfl) ?_
                        refine vn_unit rfl (ou_store Try.sizeOf33 rfl rfl (OwnP.one ho85) (hM85.cell (i := 3) rfl) (hM85.free _)) ?_
                        refine va_done (by kernel_rfl) ?_
                        exact ⟨0, ⟨rfl, rfl, rfl, rfl, rfl, rfl, rfl, trivial⟩, ⟨rfl, trivial⟩, ⟨below_set b85 (Nat.le_refl _) _ _, v85, hM85.set 3 v85, by rw [moreC_take (by omega), List.map_append]; exact ho85.blk fun k hk => Below.heap_setCell _ _ _ _ (fun e => by have := (hv85 k hk).1; simp at e; omega), by simpa [World.setCell] using hl85⟩⟩
                      · refine vn_some rfl (ot_litS (css := [[.int .i64 (d.cs.getD i (0, 0)).1, .int .i64 ((1 + p) * (d.cs.getD i (0, 0)).2)]]) Try.underlying33 Try.sizeOf49 Try.zeroValue49 rfl rfl (by intro c hc; simp at hc; subst hc; rfl) (by decide) (by decide) (by decide)) ?_
                        rintro v84 w84 ⟨rfl, r84, s84, b84⟩
                        have b84w : Below w9.heap.size w9 w84 := b0.trans b84
                        have hM84 := hM9.keep b84w
                        have hV84 := hV9.keepAll b84w
                        have b79 : Below M w7 w84 := b9.trans (b84w.mono (by omega))
                        refine va_one 1 (by kernel_rfl) ?_
                        refine vn_val rfl (os_load Try.isAgg33 rfl ((by first | exact (hM9.keep b84w).cell (i := 3) rfl | exact (hM9.keep b0).cell (i := 3) rfl))) ?_
                        refine va_one 18 (by kernel_rfl) ?_
                        refine vn_some rfl (ot_append_pn Try.underlying33 ti_wCounts rfl (by decide) rfl rfl hV84 r84 (by intro c hc; simp at hc; subst hc; rfl) rfl (by intro c hc u hu; simp at hc; subst hc; simp at hu; rcases hu with rfl | rfl <;> rfl) (by rw [hrl]; omega) (by rw [hrl]; simp only [maxLen]; omega) (by have := b84w.size; omega)) ?_
                        rintro v85 w85 ⟨ho85, hg85⟩
                        have hvl := hV84.lt
                        have hM85 := hM84.grown hg85 (fun e => by have := (hvl M e.symm).1; omega)
                        have b85 : Below M w7 w85 := b79.grown hg85 (by have := b84w.size; omega) (fun k hk => by have := (hvl k hk).1; omega)
                        have hl85 := hM85.lt
                        have hv85 := ho85.lt
                        refine va_pure 19 rfl (by kernel_rfl) (by kernel_rfl) (by kernel_rfl) (fun w => (os_fa (o := 3) (k := 0) (by kernel_rfl) rfl)) ?_
                        refine va_one 20 (by kernel_rfl) ?_
                        refine vn_unit rfl (ou_store Try.sizeOf33 rfl rfl (OwnP.one ho85) (hM85.cell (i := 3) rfl) (hM85.free _)) ?_
                        refine va_done (by kernel_rfl) ?_
                        exact ⟨0, ⟨rfl, rfl, rfl, rfl, rfl, rfl, rfl, trivial⟩, ⟨rfl, trivial⟩, ⟨below_set b85 (Nat.le_refl _) _ _, v85, hM85.set 3 v85, by rw [moreC_take (by omega), List.map_append]; exact ho85.blk fun k hk => Below.heap_setCell _ _ _ _ (fun e => by have := (hv85 k hk).1; simp at e; omega), by simpa [World.setCell] using hl85⟩⟩
                · refine vn_val rfl (os_load Try.isAgg3 rfl (q2)) ?_
                  refine va_pure 15 rfl (by kernel_rfl) (by kernel_rfl) (by kernel_rfl) (fun w => (os_muli rfl rfl (by omega))) ?_
                  refine va_two 1 3 (by kernel_rfl) ?_ ?_
                  · refine vn_val rfl (os_load Try.isAgg33 rfl ((by first | exact (hM9.keep b84w).cell (i := 3) rfl | exact (hM9.keep b0).cell (i := 3) rfl))) ?_
                    refine va_one 3 (by kernel_rfl) ?_
                    refine vn_val rfl (os_load Try.isAgg33 rfl ((hB9.keep b0).cell (i := 3) rfl)) ?_
                    refine va_pure 5 rfl (by kernel_rfl) (by kernel_rfl) (by kernel_rfl) (fun w => (os_ixs Try.underlying33 Try.sizeOf49 rfl rfl (i := i) (by omega) (by omega))) ?_
                    refine va_pure 6 rfl (by kernel_rfl) (by kernel_rfl) (by kernel_rfl) (fun w => (os_fa (o := 0) (k := 0) (by kernel_rfl) rfl)) ?_
                    refine va_one 7 (by kernel_rfl) ?_
                    refine vn_val rfl (os_load Try.isAgg3 rfl (q1)) ?_
                    refine va_pure 16 rfl (by kernel_rfl) (by kernel_rfl) (by kernel_rfl) (fun w => (os_build (cs := [.int .i64 (d.cs.getD i (0, 0)).1, .int .i64 ((1 + p) * (d.cs.getD i (0, 0)).2)]) rfl (by kernel_rfl))) ?_
                    refine va_one 17 (by kernel_rfl) ?_
                    refine vn_some rfl (ot_litS (css := [[.int .i64 (d.cs.getD i (0, 0)).1, .int .i64 ((1 + p) * (d.cs.getD i (0, 0)).2)]]) Try.underlying33 Try.sizeOf49 Try.zeroValue49 rfl rfl (by intro c hc; simp at hc; subst hc; rfl) (by decide) (by decide) (by decide)) ?_
                    rintro v84 w84 ⟨rfl, r84, s84, b84⟩
                    have b84w : Below w9.heap.size w9 w84 := b0.trans b84
                    have hM84 := hM9.keep b84w
                    have hV84 := hV9.keepAll b84w
                    have b79 : Below M w7 w84 := b9.trans (b84w.mono (by omega))
                    refine va_one 18 (by kernel_rfl) ?_
                    refine vn_some rfl (ot_append_pn Try.underlying33 ti_wCounts rfl (by decide) rfl rfl hV84 r84 (by intro c hc; simp at hc; subst hc; rfl) rfl (by intro c hc u hu; simp at hc; subst hc; simp at hu; rcases hu with rfl | rfl <;> rfl) (by rw [hrl]; omega) (by rw [hrl]; simp only [maxLen]; omega) (by have := b84w.size; omega)) ?_
                    rintro v85 w85 ⟨ho85, hg85⟩
                    have hvl := hV84.lt
                    have hM85 := hM84.grown hg85 (fun e => by have := (hvl M e.symm).1; omega)
                    have b85 : Below M w7 w85 := b79.grown hg85 (by have := b84w.size; omega) (fun k hk => by have := (hvl k hk).1; omega)
                    have hl85 := hM85.lt
                    have hv85 := ho85.lt
                    refine va_pure 19 rfl (by kernel_rfl) (by kernel_rfl) (by kernel_rfl) (fun w => (os_fa (o := 3) (k := 0) (by kernel_rfl) rfl)) ?_
                    refine va_one 20 (by kernel_rfl) ?_
                    refine vn_unit rfl (ou_store Try.sizeOf33 rfl rfl (OwnP.one ho85) (hM85.cell (i := 3) rfl) (hM85.free _)) ?_
                    refine va_done (by kernel_rfl) ?_
                    exact ⟨0, ⟨rfl, rfl, rfl, rfl, rfl, rfl, rfl, trivial⟩, ⟨rfl, trivial⟩, ⟨below_set b85 (Nat.le_refl _) _ _, v85, hM85.set 3 v85, by rw [moreC_take (by omega), List.map_append]; exact ho85.blk fun k hk => Below.heap_setCell _ _ _ _ (fun e => by have := (hv85 k hk).1; simp at e; omega), by simpa [World.setCell] using hl85⟩⟩
                  · refine vn_val rfl (os_load Try.isAgg33 rfl ((hB9.keep b0).cell (i := 3) rfl)) ?_
                    refine va_pure 5 rfl (by kernel_rfl) (by kernel_rfl) (by kernel_rfl) (fun w => (os_ixs Try.underlying33 Try.sizeOf49 rfl rfl (i := i) (by omega) (by omega))) ?_
                    refine va_pure 6 rfl (by kernel_rfl) (by kernel_rfl) (by kernel_rfl) (fun w => (os_fa (o := 0) (k := 0) (by kernel_rfl) rfl)) ?_
                    refine va_two 1 7 (by kernel_rfl) ?_ ?_
                    · refine vn_val rfl (os_load Try.isAgg33 rfl ((by first | exact (hM9.keep b84w).cell (i := 3) rfl | exact (hM9.keep b0).cell (i := 3) rfl))) ?_
                      refine va_one 7 (by kernel_rfl) ?_
                      refine vn_val rfl (os_load Try.isAgg3 rfl (q1)) ?_
                      refine va_pure 16 rfl (by kernel_rfl) (by kernel_rfl) (by kernel_rfl) (fun w => (os_build (cs := [.int .i64 (d.cs.getD i (0, 0)).1, .int .i64 ((1 + p) * (d.cs.getD i (0, 0)).2)]) rfl (by kernel_rfl))) ?_
                      refine va_one 17 (by kernel_rfl) ?_
                      refine vn_some rfl (ot_litS (css := [[.int .i64 (d.cs.getD i (0, 0)).1, .int .i64 ((1 + p) * (d.cs.getD i (0, 0)).2)]]) Try.underlying33 Try.sizeOf49 Try.zeroValue49 rfl rfl (by intro c hc; simp at hc; subst hc; rfl) (by decide) (by decide) (by decide)) ?_
                      rintro v84 w84 ⟨rfl, r84, s84, b84⟩
                      have b84w : Below w9.heap.size w9 w84 := b0.trans b84
                      have hM84 := hM9.keep b84w
                      have hV84 := hV9.keepAll b84w
                      have b79 : Below M w7 w84 := b9.trans (b84w.mono (by omega))
                      refine va_one 18 (by kernel_rfl) ?_
                      refine vn_some rfl (ot_append_pn Try.underlying33 ti_wCounts rfl (by decide) rfl rfl hV84 r84 (by intro c hc; simp at hc; subst hc; rfl) rfl (by intro c hc u hu; simp at hc; subst hc; simp at hu; rcases hu with rfl | rfl <;> rfl) (by rw [hrl]; omega) (by rw [hrl]; simp only [maxLen]; omega) (by have := b84w.size; omega)) ?_
                      rintro v85 w85 ⟨ho85, hg85⟩
                      have hvl := hV84.lt
                      have hM85 := hM84.grown hg85 (fun e => by have := (hvl M e.symm).1; omega)
                      have b85 : Below M w7 w85 := b79.grown hg85 (by have := b84w.size; omega) (fun k hk => by have := (hvl k hk).1; omega)
                      have hl85 := hM85.lt
                      have hv85 := ho85.lt
                      refine va_pure 19 rfl (by kernel_rfl) (by kernel_rfl) (by kernel_rfl) (fun w => (os_fa (o := 3) (k := 0) (by kernel_rfl) rfl)) ?_
                      refine va_one 20 (by kernel_rfl) ?_
                      refine vn_unit rfl (ou_store Try.sizeOf33 rfl rfl (OwnP.one ho85) (hM85.cell (i := 3) rfl) (hM85.free _)) ?_
                      refine va_done (by kernel_rfl) ?_
                      exact ⟨0, ⟨rfl, rfl, rfl, rfl, rfl, rfl, rfl, trivial⟩, ⟨rfl, trivial⟩, ⟨below_set b85 (Nat.le_refl _) _ _, v85, hM85.set 3 v85, by rw [moreC_take (by omega), List.map_append]; exact ho85.blk fun k hk => Below.heap_setCell _ _ _ _ (fun e => by have := (hv85 k hk).1; simp at e; omega), by simpa [World.setCell] using hl85⟩⟩
                    · refine vn_val rfl (os_load Try.isAgg3 rfl (q1)) ?_
                      refine va_pure 16 rfl (by kernel_rfl) (by kernel_rfl) (by kernel_rfl) (fun w => (os_build (cs := [.int .i64 (d.cs.getD i (0, 0)).1, .int .i64 ((1 + p) * (d.cs.getD i (0, 0)).2)]) rfl (by kernel_rfl))) ?_
                      refine va_two 1 17 (by kernel_rfl) ?_ ?_
                      · refine vn_val rfl (os_load Try.isAgg33 rfl ((by first | exact (hM9.keep b84w).cell (i := 3) rfl | exact (hM9.keep b0).cell (i := 3) rfl))) ?_
                        refine va_one 17 (by kernel_rfl) ?_
                        refine vn_some rfl (ot_litS (css := [[.int .i64 (d.cs.getD i (0, 0)).1, .int .i64 ((1 + p) * (d.cs.getD i (0, 0)).2)]]) Try.underlying33 Try.sizeOf49 Try.zeroValue49 rfl rfl (by intro c hc; simp at hc; subst hc; rfl) (by decide) (by decide) (by decide)) ?_
                        rintro v84 w84 ⟨rfl, r84, s84, b84⟩
                        have b84w : Below w9.heap.size w9 w84 := b0.trans b84
                        have hM84 := hM9.keep b84w
                        have hV84 := hV9.keepAll b84w
                        have b79 : Below M w7 w84 := b9.trans (b84w.mono (by omega))
                        refine va_one 18 (by kernel_rfl) ?_
                        refine vn_some rfl (ot_append_pn Try.underlying33 ti_wCounts rfl (by decide) rfl rfl hV84 r84 (by intro c hc; simp at hc; subst hc; rfl) rfl (by intro c hc u hu; simp at hc; subst hc; simp at hu; rcases hu with rfl | rfl <;> rfl) (by rw [hrl]; omega) (by rw [hrl]; simp only [maxLen]; omega) (by have := b84w.size; omega)) ?_
                        rintro v85 w85 ⟨ho85, hg85⟩
                        have hvl := hV84.lt
                        have hM85 := hM84.grown hg85 (fun e => by have := (hvl M e.symm).1; omega)
                        have b85 : Below M w7 w85 := b79.grown hg85 (by have := b84w.size; omega) (fun k hk => by have := (hvl k hk).1; omega)
                        have hl85 := hM85.lt
                        have hv85 := ho85.lt
                        refine va_pure 19 rfl (by kernel_rfl) (by kernel_rfl) (by kernel_rfl) (fun w => (os_fa (o := 3) (k := 0) (by kernel_rfl) rfl)) ?_
                        refine va_one 20 (by kernel_rfl) ?_
                        refine vn_unit rfl (ou_store Try.sizeOf33 rfl rfl (OwnP.one ho85) (hM85.cell (i := 3) rfl) (hM85.free _)) ?_
                        refine va_done (by kernel_rfl) ?_
                        exact ⟨0, ⟨rfl, rfl, rfl, rfl, rfl, rfl, rfl, trivial⟩, ⟨rfl, trivial⟩, ⟨below_set b85 (Nat.le_refl _) _ _, v85, hM85.set 3 v85, by rw [moreC_take (by omega), List.map_append]; exact ho85.blk fun k hk => Below.heap_setCell _ _ _ _ (fun e => by have := (hv85 k hk).1; simp at e; omega), by simpa [World.setCell] using hl85⟩⟩
                      · refine vn_some rfl (ot_litS (css := [[.int .i64 (d.cs.getD i (0, 0)).1, .int .i64 ((1 + p) * (d.cs.getD i (0, 0)).2)]]) Try.underlying33 Try.sizeOf49 Try.zeroValue49 rfl rfl (by intro c hc; simp at hc; subst hc; rfl) (by decide) (by decide) (by decide)) ?_
                        rintro v84 w84 ⟨rfl, r84, s84, b84⟩
                        have b84w : Below w9.heap.size w9 w84 := b0.trans b84
                        have hM84 := hM9.keep b84w
                        have hV84 := hV9.keepAll b84w
                        have b79 : Below M w7 w84 := b9.trans (b84w.mono (by omega))
                        refine va_one 1 (by kernel_rfl) ?_
                        refine vn_val rfl (os_load Try.isAgg33 rfl ((by first | exact (hM9.keep b84w).cell (i := 3) rfl | exact (hM9.keep b0).cell (i := 3) rfl))) ?_
                        refine va_one 18 (by kernel_rfl) ?_
                        refine vn_some rfl (ot_append_pn Try.underlying33 ti_wCounts rfl (by decide) rfl rfl hV84 r84 (by intro c hc; simp at hc; subst hc; rfl) rfl (by intro c hc u hu; simp at hc; subst hc; simp at hu; rcases hu with rfl | rfl <;> rfl) (by rw [hrl]; omega) (by rw [hrl]; simp only [maxLen]; omega) (by have := b84w.size; omega)) ?_
                        rintro v85 w85 ⟨ho85, hg85⟩
                        have hvl := hV84.lt
                        have hM85 := hM84.grown hg85 (fun e => by have := (hvl M e.symm).1; omega)
                        have b85 : Below M w7 w85 := b79.grown hg85 (by have := b84w.size; omega) (fun k hk => by have := (hvl k hk).1; omega)
                        have hl85 := hM85.lt
                        have hv85 := ho85.lt
                        refine va_pure 19 rfl (by kernel_rfl) (by kernel_rfl) (by kernel_rfl) (fun w => (os_fa (o := 3) (k := 0) (by kernel_rfl) rfl)) ?_
                        refine va_one 20 (by kernel_rfl) ?_
                        refine vn_unit rfl (ou_store Try.sizeOf33 rfl rfl (OwnP.one ho85) (hM85.cell (i := 3) rfl) (hM85.free _)) ?_
                        refine va_done (by kernel_rfl) ?_
                        exact ⟨0, ⟨rfl, rfl, rfl, rfl, rfl, rfl, rfl, trivial⟩, ⟨rfl, trivial⟩, ⟨below_set b85 (Nat.le_refl _) _ _, v85, hM85.set 3 v85, by rw [moreC_take (by omega), List.map_append]; exact ho85.blk fun k hk => Below.heap_setCell _ _ _ _ (fun e => by have := (hv85 k hk).1; simp at e; omega), by simpa [World.setCell] using hl85⟩⟩
            · rintro x w10 ⟨b10, V2, hM10, hV10, hM10l⟩
              have hB10 := hB7.below b10 (by omega)
              have b10w : Below w.heap.size w w10 := b7w.trans (b10.mono (by omega))
              cases F
              · refine v_region ?_
                refine vl_val (os_move rfl) ?_
                refine vl_val (os_move rfl) ?_
                refine vl_skip rfl rfl ?_
                refine vl_skip rfl rfl ?_
                refine vl_skip rfl rfl ?_
                refine vl_skip rfl rfl ?_
                refine vl_skip rfl rfl ?_
                refine vl_skip rfl rfl ?_
                refine vl_skip rfl rfl ?_
                refine vl_skip rfl rfl ?_
                refine vl_skip rfl rfl ?_
                refine vl_val (os_pick_f rfl rfl) ?_
                refine vl_val (os_assign rfl) ?_
                refine vl_nil ?_
                refine v_region ?_
                refine vl_val (os_move rfl) ?_
                refine vl_val (os_addi rfl rfl (by omega)) ?_
                refine vl_val (os_assign rfl) ?_
                refine vl_nil ?_
                exact ⟨⟨false, i + 1⟩, ⟨rfl, rfl, rfl, rfl, rfl, rfl, trivial⟩, ⟨rfl, rfl, trivial⟩, ⟨by (try dsimp only); omega, by (try dsimp only); rw [fitB_take (by omega), ← hF]; rfl, b10, V2, hM10, hV10, hM10l⟩, by dsimp only; omega⟩
              · refine v_region ?_
                refine vl_val (os_move rfl) ?_
                refine vl_val (os_move rfl) ?_
                refine vl_valg rfl (os_move rfl) ?_
                refine vl_valg rfl (os_fa (o := 3) (k := 0) (by kernel_rfl) rfl) ?_
                refine vl_valg rfl (os_load Try.isAgg33 rfl (hB10.cell (i := 3) rfl)) ?_
                obtain ⟨b2, of2, eA2, -, q5, -⟩ := (hd.keep b10w).1.at2 (i := i) (by omega)
                rw [eA] at eA2
                cases eA2
                rw [eA]
                refine vl_valg rfl (os_move rfl) ?_
                refine vl_valg rfl (os_ixs Try.underlying33 Try.sizeOf49 rfl rfl (i := i) (by omega) (by omega)) ?_
                refine vl_valg rfl (os_fa (o := 1) (k := 0) (by kernel_rfl) rfl) ?_
                refine vl_valg rfl (os_load Try.isAgg3 rfl (q5)) ?_
                refine vl_valg rfl (os_muli rfl rfl (by omega)) ?_
                refine vl_valg rfl (os_leq rfl rfl) ?_
                refine vl_val (os_pick_t rfl rfl) ?_
                refine vl_val (os_assign rfl) ?_
                refine vl_nil ?_
                refine v_region ?_
                refine vl_val (os_move rfl) ?_
                refine vl_val (os_addi rfl rfl (by omega)) ?_
                refine vl_val (os_assign rfl) ?_
                refine vl_nil ?_
                exact ⟨⟨decide ((1 + p) * (d.cs.getD i (0, 0)).2 ≤ 65535), i + 1⟩, ⟨rfl, rfl, rfl, rfl, rfl, rfl, trivial⟩, ⟨rfl, rfl, trivial⟩, ⟨by (try dsimp only); omega, by (try dsimp only); rw [fitB_take (by omega), ← hF, Bool.true_and], b10, V2, hM10, hV10, hM10l⟩, by dsimp only; omega⟩
          · refine v_cond_no rfl (by omega) ?_
            obtain hil2 : d.l = i := by omega
            rw [show d.cs.take i = d.cs from List.take_of_length_le (by omega)] at hF hV9
            obtain ⟨P0, hP0⟩ : ∃ P0, P0 = newP n := ⟨_, rfl⟩
            have hp0r : rowB P0 = true := by rw [hP0]; exact newP_row hnn
            have hp0l : P0.length = X.length := by rw [hP0, hXl]; simp [newP]
            rw [← hP0] at hG7 hO7
            have hX9 : OwnK w9 w6.heap.size 3 .i64 (.slice AX X.length cX) X := OwnK.blk o7 (fun k hk => b9.block k (by have := hxl k hk; omega))
            have hG9 := hG7.below b9 (by omega)
            have hO9 := hO7.below b9 (by omega)
            obtain ⟨AM, cM, rfl, -, -, hVr⟩ := hV9.form
            clear hB0 hb0 hB1 b1w r2 b2 b2w hB2 hG3 b3 hO4 b4 b24 hB4 b4w b5w k45 hw5 hG5 hO5 hB5 hd5 b6 hB6 b6w o7 b7 hB7 b7w b57 hG7 hO7 b8a hM8 b8 b8w hw8 hM0 b9 rX
            as_aux_lemma =>
            refine v_exit ?_
            refine v_seq ?_
            refine v_seq ?_
            refine v_region ?_
            refine vl_val (os_assign rfl) ?_
            refine vl_nil ?_
            refine v_block ?_
            refine v_loop [(4, _), (7, _), (9, _), (11, _), (13, _), (14, _)] (fun (t : Nat) => [(16, .int .i64 ((t : Int) + 1))]) (fun t w' => t ≤ 119 ∧ Below w.heap.size w w' ∧ w9.heap.size ≤ w'.heap.size ∧ GS w' g (foldN X t P0) 7 n t ∧ (F = true → GS w' o (foldN X t P0) 7 n t) ∧ (∃ q : Int, Bk w' w.heap.size [.int .i64 7, .int .i64 q, .int .i64 n, .slice d.A d.l d.c] 35) ∧ (∃ q : Int, Bk w' M [.int .i64 7, .int .i64 q, .int .i64 n, .slice AM ((moreC (1 + p) d.cs).map rowC).length cM] 35) ∧ OwnP w' (M + 1) 49 2 (.slice AM ((moreC (1 + p) d.cs).map rowC).length cM) ((moreC (1 + p) d.cs).map rowC) ∧ OwnK w' w6.heap.size 3 .i64 (.slice AX X.length cX) X) (fun t => 119 - t) (0) ⟨rfl, rfl, rfl, rfl, rfl, rfl, trivial⟩ ⟨rfl, trivial⟩ (⟨by omega, b9w, Nat.le_refl _, hG9, fun _ => hO9, ⟨_, hB9⟩, ⟨_, hM9⟩, hV9, hX9⟩) ?_
            rintro t w10 ⟨ht, b10w, s10, hG10, hO10, ⟨qB, hB10⟩, ⟨qM, hM10⟩, hV10, hX10⟩
            refine v_seq ?_
            refine v_seq ?_
            refine v_region ?_
            refine vl_val (os_move rfl) ?_
            refine vl_val (os_lss rfl rfl) ?_
            refine vl_nil ?_
            refine v_cond_d rfl (fun hlt => ?_) (fun hlt => ?_)
            · refine v_skip ?_
              refine v_seq ?_
              refine v_block ?_
              refine v_seq ?_
              refine v_region ?_
              refine vl_val (os_move rfl) ?_
              refine vl_call (guess_Parts hG10) rfl ?_
              rintro v11 w11 ⟨o11, b11⟩
              have hB11 := hB10.keep b11
              have hM11 := hM10.keep b11
              refine vl_val (os_assign rfl) ?_
              refine vl_nil ?_
              refine v_seq ?_
              refine v_region ?_
              refine vl_val (os_move rfl) ?_
              refine vl_val (os_fa (o := 1) (k := 0) (by kernel_rfl) rfl) ?_
              refine vl_unit (ou_store Try.sizeOf3 rfl rfl rfl (hB11.cell (i := 1) rfl) (hB11.free _)) ?_
              have hM12 := Bk.setOther hM11 (show w.heap.size ≠ M by omega) (0 + 1) (.int .i64 ((t : Int) + 1))
              refine vl_nil ?_
              refine v_seq ?_
              refine v_region ?_
              refine vl_val (os_move rfl) ?_
              refine vl_val (os_fa (o := 1) (k := 0) (by kernel_rfl) rfl) ?_
              refine vl_unit (ou_store Try.sizeOf3 rfl rfl rfl (hM12.cell (i := 1) rfl) (hM12.free _)) ?_
              have hB12 := hB11.set 1 (.int .i64 ((t : Int) + 1))
              have hB13 : Bk _ w.heap.size (inRound d n ((t : Int) + 1)).cells 35 := Bk.setOther hB12 (show M ≠ w.heap.size by omega) (0 + 1) (.int .i64 ((t : Int) + 1))
              have hM13 : Bk _ M [.int .i64 7, .int .i64 ((t : Int) + 1), .int .i64 n, .slice AM ((moreC (1 + p) d.cs).map rowC).length cM] 35 := hM12.set 1 (.int .i64 ((t : Int) + 1))
              have k13 : Kb [w.heap.size, M] w11 ((w11.setCell ⟨w.heap.size, 0 + 1, none⟩ (.int .i64 ((t : Int) + 1))).setCell ⟨M, 0 + 1, none⟩ (.int .i64 ((t : Int) + 1))) := (Kb.set (S := [w.heap.size, M]) (by simp) _ _).trans (Kb.set (S := [w.heap.size, M]) (by simp) _ _) (fun k hk => .inl hk)
              have b11w := b10w.trans (b11.mono b10w.size)
              have b13w := below_set (below_set b11w (Nat.le_refl _) (0 + 1) (.int .i64 ((t : Int) + 1))) (show w.heap.size ≤ M by omega) (0 + 1) (.int .i64 ((t : Int) + 1))
              generalize hw13 : (w11.setCell ⟨w.heap.size, 0 + 1, none⟩ (.int .i64 ((t : Int) + 1))).setCell ⟨M, 0 + 1, none⟩ (.int .i64 ((t : Int) + 1)) = w13 at *
              have hG13 := (hG10.keep b11).kb k13 (by simp; omega)
              have hO13 : F = true → GS w13 o (foldN X t P0) 7 n t := fun h => ((hO10 h).keep b11).kb k13 (by simp; omega)
              have hxl10 := World.ownsRow.lt hX10
              have hX13 : OwnK w13 w6.heap.size 3 .i64 (.slice AX X.length cX) X := Own.kb (Own.keepAll hX10 b11) k13 (fun k hk => by have := hxl k hk; simp; omega)
              have hvl10 := hV10.lt
              have hV13 := (hV10.keepAll b11).blk (w'' := w13) (fun k hk => k13.block k (by have := hvl10 k hk; have := b11.size; omega) (by have := hvl10 k hk; simp; omega))
              have hwl := World.ownsRow.lt o11
              have ho13 : OwnK w13 w10.heap.size 3 .i64 v11 (foldN X t P0) := Own.kb o11 k13 (fun k hk => by have := hwl k hk; simp; omega)
              have s11 := b11.size
              have s13 := k13.size
              have it : I64 ((t : Int) + 1) := i64_mk (by omega)
              have hdt := inRound_ok (hd.keep b13w) hn it
              have hwhy := inRound_why (t := (t : Int)) hrd (by omega) (by omega)
              have hgo : g ≠ o := by omega
              refine vl_nil ?_
              refine v_seq ?_
              refine v_mid [(4, _), (7, _), (9, _), (11, _), (13, _), (14, _), (16, _), (17, _)] (fun (x : Bool) => [(121, .bool x)]) (fun x w' => x = false ∧ Below w.heap.size w w' ∧ Kb [g, o] w13 w' ∧ GS w' g (foldN X (t + 1) P0) 7 n ((t + 1 : Nat) : Int) ∧ (F = true → GS w' o (foldN X (t + 1) P0) 7 n ((t + 1 : Nat) : Int))) ⟨rfl, rfl, rfl, rfl, rfl, rfl, rfl, rfl, trivial⟩ ?_ ?_
              · cases F
                · refine v_region ?_
                  refine vl_val (os_move rfl) ?_
                  refine vl_val (os_loadB Try.underlying35 rfl (by kernel_rfl) rfl (hB13)) ?_
                  refine vl_call (guess_Hear g (foldN X t P0) 7 n t (inRound d n ((t : Int) + 1)) w13 hG13 hdt w.heap.size (by omega) b13w.size) rfl ?_
                  rintro v14 w14 ⟨rfl, b14, kb14, -, heq14⟩
                  have hG14 : GS w14 g (foldN X (t + 1) P0) 7 n ((t + 1 : Nat) : Int) := by have := heq14 hwhy; unfold hearP at this; rw [hsame] at this; exact this
                  refine vl_val (os_f (os_neq rfl rfl) (fun h => h hwhy)) ?_
                  refine vl_val (os_move rfl) ?_
                  refine vl_valg rfl (os_move rfl) ?_
                  refine vl_valg rfl (os_move rfl) ?_
                  refine vl_skip rfl rfl ?_
                  refine vl_skip rfl rfl ?_
                  refine vl_skip rfl rfl ?_
                  refine vl_skip rfl rfl ?_
                  refine vl_valg rfl (os_pick_f rfl rfl) ?_
                  refine vl_val (os_pick_f rfl rfl) ?_
                  refine vl_nil ?_
                  exact ⟨false, ⟨rfl, rfl, rfl, rfl, rfl, rfl, rfl, rfl, trivial⟩, ⟨rfl, trivial⟩, ⟨rfl, b13w.trans b14, kb14.mono (fun k hk => .inl (by simp at hk; simp [hk])), hG14, fun h => by cases h⟩⟩
                · refine v_region ?_
                  refine vl_val (os_move rfl) ?_
                  refine vl_val (os_loadB Try.underlying35 rfl (by kernel_rfl) rfl (hB13)) ?_
                  refine vl_call (guess_Hear g (foldN X t P0) 7 n t (inRound d n ((t : Int) + 1)) w13 hG13 hdt w.heap.size (by omega) b13w.size) rfl ?_
                  rintro v14 w14 ⟨rfl, b14, kb14, -, heq14⟩
                  have hG14 : GS w14 g (foldN X (t + 1) P0) 7 n ((t + 1 : Nat) : Int) := by have := heq14 hwhy; unfold hearP at this; rw [hsame] at this; exact this
                  have hM14 := hM13.kb kb14 (by simp; omega)
                  have hV14 := hV13.blk (w'' := w14) (fun k hk => kb14.block k (hV13.lt k hk).2 (by have := (hV13.lt k hk).1; simp; omega))
                  have hO14 := (hO13 rfl).kb kb14 (by simp; omega)
                  have b14w := b13w.trans b14
                  have hfm := fitB_mem hF.symm
                  have hcm := cnt_more hk.1 hrd.cnt hfm
                  have hml : ((moreC (1 + p) d.cs).map rowC).length = d.cs.length := by simp [moreC_len]
                  have hdM : NoteOk w14 ⟨7, (t : Int) + 1, n, AM, ((moreC (1 + p) d.cs).map rowC).length, cM, moreC (1 + p) d.cs⟩ := ⟨OwnP.rdp hV14, by simp, by simp only [hml]; have := hd.2.2.1; omega, ⟨I64_7, it, hn⟩, fun e he => by have h1 := (cnt_all hcm).1 e he; have h2 : (inRound d n 1).n = n := rfl; rw [h2] at h1; exact ⟨i64_mk (by omega), i64_mk (by omega)⟩⟩
                  have hwM : whyN 7 n t ⟨7, (t : Int) + 1, n, AM, ((moreC (1 + p) d.cs).map rowC).length, cM, moreC (1 + p) d.cs⟩ = 0 := why_ok.2 ⟨right_iff.2 ⟨⟨(by decide : (0 : Int) ≤ 7), (by decide : (7 : Int) ≤ 65535)⟩, by simp only []; omega, hnn, hcm⟩, rfl, rfl, by simp only []; omega, by simp only [hml]; omega⟩
                  refine vl_val (os_f (os_neq rfl rfl) (fun h => h hwhy)) ?_
                  refine vl_val (os_move rfl) ?_
                  refine vl_valg rfl (os_move rfl) ?_
                  refine vl_valg rfl (os_move rfl) ?_
                  refine vl_valg rfl (os_move rfl) ?_
                  refine vl_valg rfl (os_loadB Try.underlying35 rfl (by kernel_rfl) rfl (hM14)) ?_
                  refine vl_callg rfl (guess_Hear o (foldN X t P0) 7 n t ⟨7, (t : Int) + 1, n, AM, ((moreC (1 + p) d.cs).map rowC).length, cM, moreC (1 + p) d.cs⟩ w14 hO14 hdM w.heap.size (by omega) b14w.size) rfl ?_
                  rintro v15 w15 ⟨rfl, b15, kb15, -, heq15⟩
                  have hO15 : GS w15 o (foldN X (t + 1) P0) 7 n ((t + 1 : Nat) : Int) := by have := heq15 hwM; unfold hearP at this; rw [hmore _ hk.1 hfm] at this; exact this
                  refine vl_valg rfl (os_neq rfl rfl) ?_
                  refine vl_valg rfl (os_pick_t rfl rfl) ?_
                  refine vl_val (os_pick_f rfl rfl) ?_
                  refine vl_nil ?_
                  exact ⟨decide (whyN 7 n t ⟨7, (t : Int) + 1, n, AM, ((moreC (1 + p) d.cs).map rowC).length, cM, moreC (1 + p) d.cs⟩ ≠ 0), ⟨rfl, rfl, rfl, rfl, rfl, rfl, rfl, rfl, trivial⟩, ⟨rfl, trivial⟩, ⟨by rw [hwM]; rfl, b14w.trans b15, (kb14.mono (fun k hk => .inl (by simp at hk; simp [hk]))).trans kb15 (fun k hk => .inl (by simp at hk; simp [hk])), hG14.kb kb15 (by simp; omega), fun _ => hO15⟩⟩
              · rintro x w16 ⟨rfl, b16w, k16, hG16, hO16⟩
                have hgo2 : ∀ k : Nat, k ≠ g → k ≠ o → k ∉ [g, o] := fun k h1 h2 => by simp [h1, h2]
                have hB16 := hB13.kb k16 (hgo2 _ (by omega) (by omega))
                have hM16 := hM13.kb k16 (hgo2 _ (by omega) (by omega))
                have hV16 := hV13.blk (w'' := w16) (fun k hk => k16.block k (hV13.lt k hk).2 (by have := (hV13.lt k hk).1; exact hgo2 _ (by omega) (by omega)))
                have hX16 : OwnK w16 w6.heap.size 3 .i64 (.slice AX X.length cX) X := Own.kb hX13 k16 (fun k hk => by have := (World.ownsRow.lt hX13 k hk).1; exact hgo2 _ (by omega) (by omega))
                have ho16 : OwnK w16 w10.heap.size 3 .i64 v11 (foldN X t P0) := Own.kb ho13 k16 (fun k hk => by have := (World.ownsRow.lt ho13 k hk).1; exact hgo2 _ (by omega) (by omega))
                have s16 := k16.size
                refine v_cond_f rfl ?_
                refine v_skip ?_
                refine v_seq ?_
                refine v_region ?_
                refine vl_val (os_move rfl) ?_
                refine vl_call (guess_Parts hG16) rfl ?_
                rintro v17 w17 ⟨o17, b17⟩
                have b17w := b16w.trans (b17.mono b16w.size)
                have s17 := b17.size
                have ho17 : OwnK w17 w10.heap.size 3 .i64 v11 (foldN X t P0) := Own.keepAll ho16 b17
                have hX17 : OwnK w17 w6.heap.size 3 .i64 (.slice AX X.length cX) X := Own.keepAll hX16 b17
                obtain ⟨A11, c11, rfl, -, -, r11, -⟩ := OwnK.form ho17
                obtain ⟨A17, c17, rfl, -, -, r17, -⟩ := OwnK.form o17
                have r7 := OwnK.rd hX17
                have hl0' : (foldN X t P0).length = X.length := by rw [foldN_len, hp0l]
                have hl1' : (foldN X (t + 1) P0).length = X.length := by rw [foldN_len, hp0l]
                have hplace := fun (j : Nat) (hj : j < P0.length) => tend_place hp0r hXr hp0l hj (s := t + 1) (by omega)
                simp only [Nat.add_sub_cancel] at hplace
                have hr0 := rowB_mem (foldN_row hp0r hXr hp0l t)
                have hr1 := rowB_mem (foldN_row hp0r hXr hp0l (t + 1))
                have hr2 := rowB_mem hXr
                have hGs := hG16.keep b17
                generalize hL0 : foldN X t P0 = L0 at *
                generalize hL1 : foldN X (t + 1) P0 = L1 at *
                refine vl_val (os_assign rfl) ?_
                refine vl_nil ?_
                refine v_seq ?_
                refine v_region ?_
                refine vl_val (os_assign rfl) ?_
                refine vl_nil ?_
                refine v_block ?_
                refine v_loop [(4, _), (7, _), (9, _), (11, _), (13, _), (14, _), (16, _), (17, _), (18, _)] (fun (m : Nat) => [(19, .int .i64 m)]) (fun m w' => m ≤ L1.length ∧ LeD w17 w') (fun m => L1.length - m) (0) ⟨rfl, rfl, rfl, rfl, rfl, rfl, rfl, rfl, rfl, trivial⟩ ⟨rfl, trivial⟩ (⟨by omega, lee_d.refl _⟩) ?_
                rintro m w18 ⟨hm, d18⟩
                refine v_seq ?_
                refine v_seq ?_
                refine v_region ?_
                refine vl_val (os_move rfl) ?_
                refine vl_val (os_move rfl) ?_
                refine vl_val (os_len Try.underlying40 rfl) ?_
                refine vl_val (os_lss rfl rfl) ?_
                refine vl_nil ?_
                refine v_cond_d rfl (fun hm2 => ?_) (fun hm2 => ?_)
                · obtain ⟨_, _, e1, c1⟩ := (r11.led d18).at_ (i := m) (by omega)
                  cases e1
                  obtain ⟨_, _, e2, c2⟩ := (r17.led d18).at_ (i := m) (by omega)
                  cases e2
                  obtain ⟨_, _, e3, cx⟩ := (r7.led d18).at_ (i := m) (by omega)
                  cases e3
                  have hpm := hplace m (by omega)
                  have hb1 := getD_bd hr0 m
                  have hb2 := getD_bd hr1 m
                  have hb3 := getD_bd hr2 m
                  rcases (by omega : (L0.getD m 0 ≤ X.getD m 0 ∧ t + 1 ≤ 100) ∨ (L0.getD m 0 ≤ X.getD m 0 ∧ 100 < t + 1) ∨ (X.getD m 0 < L0.getD m 0 ∧ t + 1 ≤ 100) ∨ (X.getD m 0 < L0.getD m 0 ∧ 100 < t + 1)) with ⟨u1, u2⟩ | ⟨u1, u2⟩ | ⟨u1, u2⟩ | ⟨u1, u2⟩
                  · refine v_skip ?_
                    refine v_seq ?_
                    refine v_block ?_
                    refine v_seq ?_
                    refine v_region_t LeD _ mixed (by kernel_rfl) lee_d (led_start _) ?_
                    refine vt_val (fun w hw => os_move rfl) ?_
                    refine vt_val (fun w hw => os_move rfl) ?_
                    refine vt_val (fun w hw => os_ix Try.underlying40 Try.sizeOf3 rfl rfl (i := m) (by omega) (by omega)) ?_
                    refine vt_val (fun w hw => os_load Try.isAgg3 rfl (led_cell hw (c1))) ?_
                    refine vt_val (fun w hw => os_move rfl) ?_
                    refine vt_val (fun w hw => os_move rfl) ?_
                    refine vt_val (fun w hw => os_ix Try.underlying40 Try.sizeOf3 rfl rfl (i := m) (by omega) (by omega)) ?_
                    refine vt_val (fun w hw => os_load Try.isAgg3 rfl (led_cell hw (cx))) ?_
                    refine vt_val (fun w hw => os_t (os_leq rfl rfl) (by omega)) ?_
                    refine vt_val (fun w hw => os_move rfl) ?_
                    refine vt_valg rfl (fun w hw => os_move rfl) ?_
                    refine vt_valg rfl (fun w hw => os_move rfl) ?_
                    refine vt_valg rfl (fun w hw => os_ix Try.underlying40 Try.sizeOf3 rfl rfl (i := m) (by omega) (by omega)) ?_
                    refine vt_valg rfl (fun w hw => os_load Try.isAgg3 rfl (led_cell hw (c2))) ?_
                    refine vt_valg rfl (fun w hw => os_move rfl) ?_
                    refine vt_valg rfl (fun w hw => os_move rfl) ?_
                    refine vt_valg rfl (fun w hw => os_ix Try.underlying40 Try.sizeOf3 rfl rfl (i := m) (by omega) (by omega)) ?_
                    refine vt_valg rfl (fun w hw => os_load Try.isAgg3 rfl (led_cell hw (c1))) ?_
                    refine vt_valg rfl (fun w hw => os_f (os_lss rfl rfl) (by omega)) ?_
                    refine vt_valg rfl (fun w hw => os_move rfl) ?_
                    refine vt_valg rfl (fun w hw => os_move rfl) ?_
                    refine vt_valg rfl (fun w hw => os_move rfl) ?_
                    refine vt_valg rfl (fun w hw => os_ix Try.underlying40 Try.sizeOf3 rfl rfl (i := m) (by omega) (by omega)) ?_
                    refine vt_valg rfl (fun w hw => os_load Try.isAgg3 rfl (led_cell hw (c2))) ?_
                    refine vt_valg rfl (fun w hw => os_move rfl) ?_
                    refine vt_valg rfl (fun w hw => os_move rfl) ?_
                    refine vt_valg rfl (fun w hw => os_ix Try.underlying40 Try.sizeOf3 rfl rfl (i := m) (by omega) (by omega)) ?_
                    refine vt_valg rfl (fun w hw => os_load Try.isAgg3 rfl (led_cell hw (cx))) ?_
                    refine vt_valg rfl (fun w hw => os_f (os_gtr rfl rfl) (by omega)) ?_
                    refine vt_valg rfl (fun w hw => os_pick_f rfl rfl) ?_
                    refine vt_val (fun w hw => os_pick_t rfl rfl) ?_
                    refine vt_val (fun w hw => os_move rfl) ?_
                    refine vt_valg rfl (fun w hw => os_move rfl) ?_
                    refine vt_valg rfl (fun w hw => os_move rfl) ?_
                    refine vt_valg rfl (fun w hw => os_ix Try.underlying40 Try.sizeOf3 rfl rfl (i := m) (by omega) (by omega)) ?_
                    refine vt_valg rfl (fun w hw => os_load Try.isAgg3 rfl (led_cell hw (c1))) ?_
                    refine vt_valg rfl (fun w hw => os_move rfl) ?_
                    refine vt_valg rfl (fun w hw => os_move rfl) ?_
                    refine vt_valg rfl (fun w hw => os_ix Try.underlying40 Try.sizeOf3 rfl rfl (i := m) (by omega) (by omega)) ?_
                    refine vt_valg rfl (fun w hw => os_load Try.isAgg3 rfl (led_cell hw (cx))) ?_
                    refine vt_valg rfl (fun w hw => os_f (os_gtr rfl rfl) (by omega)) ?_
                    refine vt_valg rfl (fun w hw => os_move rfl) ?_
                    refine vt_skip rfl rfl ?_
                    refine vt_skip rfl rfl ?_
                    refine vt_skip rfl rfl ?_
                    refine vt_skip rfl rfl ?_
                    refine vt_skip rfl rfl ?_
                    refine vt_skip rfl rfl ?_
                    refine vt_skip rfl rfl ?_
                    refine vt_skip rfl rfl ?_
                    refine vt_skip rfl rfl ?_
                    refine vt_skip rfl rfl ?_
                    refine vt_skipu rfl ?_
                    refine vt_skipu rfl ?_
                    refine vt_skipu rfl ?_
                    refine vt_skipu rfl ?_
                    refine vt_skipu rfl ?_
                    refine vt_skipu rfl ?_
                    refine vt_skipu rfl ?_
                    refine vt_skipu rfl ?_
                    refine vt_skipu rfl ?_
                    refine vt_skipu rfl ?_
                    refine vt_skip rfl rfl ?_
                    refine vt_valg rfl (fun w hw => os_pick_f rfl rfl) ?_
                    refine vt_val (fun w hw => os_pick_f rfl rfl) ?_
                    refine vt_val (fun w hw => os_move rfl) ?_
                    refine vt_valg rfl (fun w hw => os_move rfl) ?_
                    refine vt_valg rfl (fun w hw => os_f (os_gtr rfl rfl) (by omega)) ?_
                    refine vt_valg rfl (fun w hw => os_move rfl) ?_
                    refine vt_skip rfl rfl ?_
                    refine vt_skip rfl rfl ?_
                    refine vt_skip rfl rfl ?_
                    refine vt_skip rfl rfl ?_
                    refine vt_skip rfl rfl ?_
                    refine vt_skip rfl rfl ?_
                    refine vt_skip rfl rfl ?_
                    refine vt_skip rfl rfl ?_
                    refine vt_skip rfl rfl ?_
                    refine vt_skip rfl rfl ?_
                    refine vt_skipu rfl ?_
                    refine vt_skipu rfl ?_
                    refine vt_skipu rfl ?_
                    refine vt_skipu rfl ?_
                    refine vt_skipu rfl ?_
                    refine vt_skipu rfl ?_
                    refine vt_skipu rfl ?_
                    refine vt_skipu rfl ?_
                    refine vt_skipu rfl ?_
                    refine vt_skipu rfl ?_
                    refine vt_skip rfl rfl ?_
                    refine vt_valg rfl (fun w hw => os_pick_f rfl rfl) ?_
                    refine vt_val (fun w hw => os_pick_f rfl rfl) ?_
                    refine vt_nil (fun w hw => ?_)
                    obtain ⟨q, rfl⟩ := hw
                    refine v_cond_f rfl ?_
                    refine v_skip ?_
                    refine v_region ?_
                    refine vl_val (os_move rfl) ?_
                    refine vl_val (os_addi rfl rfl (by omega)) ?_
                    refine vl_val (os_assign rfl) ?_
                    refine vl_nil ?_
                    exact ⟨m + 1, ⟨rfl, rfl, rfl, rfl, rfl, rfl, rfl, rfl, rfl, trivial⟩, ⟨rfl, trivial⟩, ⟨by omega, d18.trans_ ⟨q, rfl⟩⟩, by dsimp only; omega⟩
                  · refine v_skip ?_
                    refine v_seq ?_
                    refine v_block ?_
                    refine v_seq ?_
                    refine v_region_t LeD _ mixed (by kernel_rfl) lee_d (led_start _) ?_
                    refine vt_val (fun w hw => os_move rfl) ?_
                    refine vt_val (fun w hw => os_move rfl) ?_
                    refine vt_val (fun w hw => os_ix Try.underlying40 Try.sizeOf3 rfl rfl (i := m) (by omega) (by omega)) ?_
                    refine vt_val (fun w hw => os_load Try.isAgg3 rfl (led_cell hw (c1))) ?_
                    refine vt_val (fun w hw => os_move rfl) ?_
                    refine vt_val (fun w hw => os_move rfl) ?_
                    refine vt_val (fun w hw => os_ix Try.underlying40 Try.sizeOf3 rfl rfl (i := m) (by omega) (by omega)) ?_
                    refine vt_val (fun w hw => os_load Try.isAgg3 rfl (led_cell hw (cx))) ?_
                    refine vt_val (fun w hw => os_t (os_leq rfl rfl) (by omega)) ?_
                    refine vt_val (fun w hw => os_move rfl) ?_
                    refine vt_valg rfl (fun w hw => os_move rfl) ?_
                    refine vt_valg rfl (fun w hw => os_move rfl) ?_
                    refine vt_valg rfl (fun w hw => os_ix Try.underlying40 Try.sizeOf3 rfl rfl (i := m) (by omega) (by omega)) ?_
                    refine vt_valg rfl (fun w hw => os_load Try.isAgg3 rfl (led_cell hw (c2))) ?_
                    refine vt_valg rfl (fun w hw => os_move rfl) ?_
                    refine vt_valg rfl (fun w hw => os_move rfl) ?_
                    refine vt_valg rfl (fun w hw => os_ix Try.underlying40 Try.sizeOf3 rfl rfl (i := m) (by omega) (by omega)) ?_
                    refine vt_valg rfl (fun w hw => os_load Try.isAgg3 rfl (led_cell hw (c1))) ?_
                    refine vt_valg rfl (fun w hw => os_f (os_lss rfl rfl) (by omega)) ?_
                    refine vt_valg rfl (fun w hw => os_move rfl) ?_
                    refine vt_valg rfl (fun w hw => os_move rfl) ?_
                    refine vt_valg rfl (fun w hw => os_move rfl) ?_
                    refine vt_valg rfl (fun w hw => os_ix Try.underlying40 Try.sizeOf3 rfl rfl (i := m) (by omega) (by omega)) ?_
                    refine vt_valg rfl (fun w hw => os_load Try.isAgg3 rfl (led_cell hw (c2))) ?_
                    refine vt_valg rfl (fun w hw => os_move rfl) ?_
                    refine vt_valg rfl (fun w hw => os_move rfl) ?_
                    refine vt_valg rfl (fun w hw => os_ix Try.underlying40 Try.sizeOf3 rfl rfl (i := m) (by omega) (by omega)) ?_
                    refine vt_valg rfl (fun w hw => os_load Try.isAgg3 rfl (led_cell hw (cx))) ?_
                    refine vt_valg rfl (fun w hw => os_f (os_gtr rfl rfl) (by omega)) ?_
                    refine vt_valg rfl (fun w hw => os_pick_f rfl rfl) ?_
                    refine vt_val (fun w hw => os_pick_t rfl rfl) ?_
                    refine vt_val (fun w hw => os_move rfl) ?_
                    refine vt_valg rfl (fun w hw => os_move rfl) ?_
                    refine vt_valg rfl (fun w hw => os_move rfl) ?_
                    refine vt_valg rfl (fun w hw => os_ix Try.underlying40 Try.sizeOf3 rfl rfl (i := m) (by omega) (by omega)) ?_
                    refine vt_valg rfl (fun w hw => os_load Try.isAgg3 rfl (led_cell hw (c1))) ?_
                    refine vt_valg rfl (fun w hw => os_move rfl) ?_
                    refine vt_valg rfl (fun w hw => os_move rfl) ?_
                    refine vt_valg rfl (fun w hw => os_ix Try.underlying40 Try.sizeOf3 rfl rfl (i := m) (by omega) (by omega)) ?_
                    refine vt_valg rfl (fun w hw => os_load Try.isAgg3 rfl (led_cell hw (cx))) ?_
                    refine vt_valg rfl (fun w hw => os_f (os_gtr rfl rfl) (by omega)) ?_
                    refine vt_valg rfl (fun w hw => os_move rfl) ?_
                    refine vt_skip rfl rfl ?_
                    refine vt_skip rfl rfl ?_
                    refine vt_skip rfl rfl ?_
                    refine vt_skip rfl rfl ?_
                    refine vt_skip rfl rfl ?_
                    refine vt_skip rfl rfl ?_
                    refine vt_skip rfl rfl ?_
                    refine vt_skip rfl rfl ?_
                    refine vt_skip rfl rfl ?_
                    refine vt_skip rfl rfl ?_
                    refine vt_skipu rfl ?_
                    refine vt_skipu rfl ?_
                    refine vt_skipu rfl ?_
                    refine vt_skipu rfl ?_
                    refine vt_skipu rfl ?_
                    refine vt_skipu rfl ?_
                    refine vt_skipu rfl ?_
                    refine vt_skipu rfl ?_
                    refine vt_skipu rfl ?_
                    refine vt_skipu rfl ?_
                    refine vt_skip rfl rfl ?_
                    refine vt_valg rfl (fun w hw => os_pick_f rfl rfl) ?_
                    refine vt_val (fun w hw => os_pick_f rfl rfl) ?_
                    refine vt_val (fun w hw => os_move rfl) ?_
                    refine vt_valg rfl (fun w hw => os_move rfl) ?_
                    refine vt_valg rfl (fun w hw => os_t (os_gtr rfl rfl) (by omega)) ?_
                    refine vt_valg rfl (fun w hw => os_move rfl) ?_
                    refine vt_valg rfl (fun w hw => os_move rfl) ?_
                    refine vt_valg rfl (fun w hw => os_move rfl) ?_
                    refine vt_valg rfl (fun w hw => os_ix Try.underlying40 Try.sizeOf3 rfl rfl (i := m) (by omega) (by omega)) ?_
                    refine vt_valg rfl (fun w hw => os_load Try.isAgg3 rfl (led_cell hw (c2))) ?_
                    refine vt_valg rfl (fun w hw => os_move rfl) ?_
                    refine vt_valg rfl (fun w hw => os_move rfl) ?_
                    refine vt_valg rfl (fun w hw => os_ix Try.underlying40 Try.sizeOf3 rfl rfl (i := m) (by omega) (by omega)) ?_
                    refine vt_valg rfl (fun w hw => os_load Try.isAgg3 rfl (led_cell hw (cx))) ?_
                    refine vt_valg rfl (fun w hw => os_f (os_gtr rfl rfl) (by omega)) ?_
                    refine vt_valg rfl (fun w hw => os_move rfl) ?_
                    refine vt_valg rfl (fun w hw => os_move rfl) ?_
                    refine vt_valg rfl (fun w hw => os_move rfl) ?_
                    refine vt_valg rfl (fun w hw => os_ix Try.underlying40 Try.sizeOf3 rfl rfl (i := m) (by omega) (by omega)) ?_
                    refine vt_valg rfl (fun w hw => os_load Try.isAgg3 rfl (led_cell hw (cx))) ?_
                    refine vt_valg rfl (fun w hw => os_move rfl) ?_
                    refine vt_valg rfl (fun w hw => os_move rfl) ?_
                    refine vt_valg rfl (fun w hw => os_ix Try.underlying40 Try.sizeOf3 rfl rfl (i := m) (by omega) (by omega)) ?_
                    refine vt_valg rfl (fun w hw => os_load Try.isAgg3 rfl (led_cell hw (c2))) ?_
                    refine vt_valg rfl (fun w hw => os_subi rfl rfl (by omega)) ?_
                    refine vt_valg rfl (fun w hw => os_gtr rfl rfl) ?_
                    refine vt_valg rfl (fun w hw => os_pick_f rfl rfl) ?_
                    refine vt_valg rfl (fun w hw => os_pick_t rfl rfl) ?_
                    refine vt_val (fun w hw => os_pick_f rfl rfl) ?_
                    refine vt_nil (fun w hw => ?_)
                    obtain ⟨q, rfl⟩ := hw
                    refine v_cond_no rfl (by omega) ?_
                    refine v_skip ?_
                    refine v_region ?_
                    refine vl_val (os_move rfl) ?_
                    refine vl_val (os_addi rfl rfl (by omega)) ?_
                    refine vl_val (os_assign rfl) ?_
                    refine vl_nil ?_
                    exact ⟨m + 1, ⟨rfl, rfl, rfl, rfl, rfl, rfl, rfl, rfl, rfl, trivial⟩, ⟨rfl, trivial⟩, ⟨by omega, d18.trans_ ⟨q, rfl⟩⟩, by dsimp only; omega⟩
                  · refine v_skip ?_
                    refine v_seq ?_
                    refine v_block ?_
                    refine v_seq ?_
                    refine v_region_t LeD _ mixed (by kernel_rfl) lee_d (led_start _) ?_
                    refine vt_val (fun w hw => os_move rfl) ?_
                    refine vt_val (fun w hw => os_move rfl) ?_
                    refine vt_val (fun w hw => os_ix Try.underlying40 Try.sizeOf3 rfl rfl (i := m) (by omega) (by omega)) ?_
                    refine vt_val (fun w hw => os_load Try.isAgg3 rfl (led_cell hw (c1))) ?_
                    refine vt_val (fun w hw => os_move rfl) ?_
                    refine vt_val (fun w hw => os_move rfl) ?_
                    refine vt_val (fun w hw => os_ix Try.underlying40 Try.sizeOf3 rfl rfl (i := m) (by omega) (by omega)) ?_
                    refine vt_val (fun w hw => os_load Try.isAgg3 rfl (led_cell hw (cx))) ?_
                    refine vt_val (fun w hw => os_f (os_leq rfl rfl) (by omega)) ?_
                    refine vt_val (fun w hw => os_move rfl) ?_
                    refine vt_skip rfl rfl ?_
                    refine vt_skip rfl rfl ?_
                    refine vt_skip rfl rfl ?_
                    refine vt_skip rfl rfl ?_
                    refine vt_skip rfl rfl ?_
                    refine vt_skip rfl rfl ?_
                    refine vt_skip rfl rfl ?_
                    refine vt_skip rfl rfl ?_
                    refine vt_skip rfl rfl ?_
                    refine vt_skip rfl rfl ?_
                    refine vt_skipu rfl ?_
                    refine vt_skipu rfl ?_
                    refine vt_skipu rfl ?_
                    refine vt_skipu rfl ?_
                    refine vt_skipu rfl ?_
                    refine vt_skipu rfl ?_
                    refine vt_skipu rfl ?_
                    refine vt_skipu rfl ?_
                    refine vt_skipu rfl ?_
                    refine vt_skip rfl rfl ?_
                    refine vt_val (fun w hw => os_pick_f rfl rfl) ?_
                    refine vt_val (fun w hw => os_move rfl) ?_
                    refine vt_valg rfl (fun w hw => os_move rfl) ?_
                    refine vt_valg rfl (fun w hw => os_move rfl) ?_
                    refine vt_valg rfl (fun w hw => os_ix Try.underlying40 Try.sizeOf3 rfl rfl (i := m) (by omega) (by omega)) ?_
                    refine vt_valg rfl (fun w hw => os_load Try.isAgg3 rfl (led_cell hw (c1))) ?_
                    refine vt_valg rfl (fun w hw => os_move rfl) ?_
                    refine vt_valg rfl (fun w hw => os_move rfl) ?_
                    refine vt_valg rfl (fun w hw => os_ix Try.underlying40 Try.sizeOf3 rfl rfl (i := m) (by omega) (by omega)) ?_
                    refine vt_valg rfl (fun w hw => os_load Try.isAgg3 rfl (led_cell hw (cx))) ?_
                    refine vt_valg rfl (fun w hw => os_t (os_gtr rfl rfl) (by omega)) ?_
                    refine vt_valg rfl (fun w hw => os_move rfl) ?_
                    refine vt_valg rfl (fun w hw => os_move rfl) ?_
                    refine vt_valg rfl (fun w hw => os_move rfl) ?_
                    refine vt_valg rfl (fun w hw => os_ix Try.underlying40 Try.sizeOf3 rfl rfl (i := m) (by omega) (by omega)) ?_
                    refine vt_valg rfl (fun w hw => os_load Try.isAgg3 rfl (led_cell hw (c2))) ?_
                    refine vt_valg rfl (fun w hw => os_move rfl) ?_
                    refine vt_valg rfl (fun w hw => os_move rfl) ?_
                    refine vt_valg rfl (fun w hw => os_ix Try.underlying40 Try.sizeOf3 rfl rfl (i := m) (by omega) (by omega)) ?_
                    refine vt_valg rfl (fun w hw => os_load Try.isAgg3 rfl (led_cell hw (c1))) ?_
                    refine vt_valg rfl (fun w hw => os_f (os_geq rfl rfl) (by omega)) ?_
                    refine vt_valg rfl (fun w hw => os_move rfl) ?_
                    refine vt_valg rfl (fun w hw => os_move rfl) ?_
                    refine vt_valg rfl (fun w hw => os_move rfl) ?_
                    refine vt_valg rfl (fun w hw => os_ix Try.underlying40 Try.sizeOf3 rfl rfl (i := m) (by omega) (by omega)) ?_
                    refine vt_valg rfl (fun w hw => os_load Try.isAgg3 rfl (led_cell hw (c2))) ?_
                    refine vt_valg rfl (fun w hw => os_move rfl) ?_
                    refine vt_valg rfl (fun w hw => os_move rfl) ?_
                    refine vt_valg rfl (fun w hw => os_ix Try.underlying40 Try.sizeOf3 rfl rfl (i := m) (by omega) (by omega)) ?_
                    refine vt_valg rfl (fun w hw => os_load Try.isAgg3 rfl (led_cell hw (cx))) ?_
                    refine vt_valg rfl (fun w hw => os_subi rfl rfl (by omega)) ?_
                    refine vt_valg rfl (fun w hw => os_f (os_lss rfl rfl) (by omega)) ?_
                    refine vt_valg rfl (fun w hw => os_pick_f rfl rfl) ?_
                    refine vt_valg rfl (fun w hw => os_pick_t rfl rfl) ?_
                    refine vt_val (fun w hw => os_pick_f rfl rfl) ?_
                    refine vt_val (fun w hw => os_move rfl) ?_
                    refine vt_valg rfl (fun w hw => os_move rfl) ?_
                    refine vt_valg rfl (fun w hw => os_f (os_gtr rfl rfl) (by omega)) ?_
                    refine vt_valg rfl (fun w hw => os_move rfl) ?_
                    refine vt_skip rfl rfl ?_
                    refine vt_skip rfl rfl ?_
                    refine vt_skip rfl rfl ?_
                    refine vt_skip rfl rfl ?_
                    refine vt_skip rfl rfl ?_
                    refine vt_skip rfl rfl ?_
                    refine vt_skip rfl rfl ?_
                    refine vt_skip rfl rfl ?_
                    refine vt_skip rfl rfl ?_
                    refine vt_skip rfl rfl ?_
                    refine vt_skipu rfl ?_
                    refine vt_skipu rfl ?_
                    refine vt_skipu rfl ?_
                    refine vt_skipu rfl ?_
                    refine vt_skipu rfl ?_
                    refine vt_skipu rfl ?_
                    refine vt_skipu rfl ?_
                    refine vt_skipu rfl ?_
                    refine vt_skipu rfl ?_
                    refine vt_skipu rfl ?_
                    refine vt_skip rfl rfl ?_
                    refine vt_valg rfl (fun w hw => os_pick_f rfl rfl) ?_
                    refine vt_val (fun w hw => os_pick_f rfl rfl) ?_
                    refine vt_nil (fun w hw => ?_)
                    obtain ⟨q, rfl⟩ := hw
                    refine v_cond_f rfl ?_
                    refine v_skip ?_
                    refine v_region ?_
                    refine vl_val (os_move rfl) ?_
                    refine vl_val (os_addi rfl rfl (by omega)) ?_
                    refine vl_val (os_assign rfl) ?_
                    refine vl_nil ?_
                    exact ⟨m + 1, ⟨rfl, rfl, rfl, rfl, rfl, rfl, rfl, rfl, rfl, trivial⟩, ⟨rfl, trivial⟩, ⟨by omega, d18.trans_ ⟨q, rfl⟩⟩, by dsimp only; omega⟩
                  · refine v_skip ?_
                    refine v_seq ?_
                    refine v_block ?_
                    refine v_seq ?_
                    refine v_region_t LeD _ mixed (by kernel_rfl) lee_d (led_start _) ?_
                    refine vt_val (fun w hw => os_move rfl) ?_
                    refine vt_val (fun w hw => os_move rfl) ?_
                    refine vt_val (fun w hw => os_ix Try.underlying40 Try.sizeOf3 rfl rfl (i := m) (by omega) (by omega)) ?_
                    refine vt_val (fun w hw => os_load Try.isAgg3 rfl (led_cell hw (c1))) ?_
                    refine vt_val (fun w hw => os_move rfl) ?_
                    refine vt_val (fun w hw => os_move rfl) ?_
                    refine vt_val (fun w hw => os_ix Try.underlying40 Try.sizeOf3 rfl rfl (i := m) (by omega) (by omega)) ?_
                    refine vt_val (fun w hw => os_load Try.isAgg3 rfl (led_cell hw (cx))) ?_
                    refine vt_val (fun w hw => os_f (os_leq rfl rfl) (by omega)) ?_
                    refine vt_val (fun w hw => os_move rfl) ?_
                    refine vt_skip rfl rfl ?_
                    refine vt_skip rfl rfl ?_
                    refine vt_skip rfl rfl ?_
                    refine vt_skip rfl rfl ?_
                    refine vt_skip rfl rfl ?_
                    refine vt_skip rfl rfl ?_
                    refine vt_skip rfl rfl ?_
                    refine vt_skip rfl rfl ?_
                    refine vt_skip rfl rfl ?_
                    refine vt_skip rfl rfl ?_
                    refine vt_skipu rfl ?_
                    refine vt_skipu rfl ?_
                    refine vt_skipu rfl ?_
                    refine vt_skipu rfl ?_
                    refine vt_skipu rfl ?_
                    refine vt_skipu rfl ?_
                    refine vt_skipu rfl ?_
                    refine vt_skipu rfl ?_
                    refine vt_skipu rfl ?_
                    refine vt_skip rfl rfl ?_
                    refine vt_val (fun w hw => os_pick_f rfl rfl) ?_
                    refine vt_val (fun w hw => os_move rfl) ?_
                    refine vt_valg rfl (fun w hw => os_move rfl) ?_
                    refine vt_valg rfl (fun w hw => os_move rfl) ?_
                    refine vt_valg rfl (fun w hw => os_ix Try.underlying40 Try.sizeOf3 rfl rfl (i := m) (by omega) (by omega)) ?_
                    refine vt_valg rfl (fun w hw => os_load Try.isAgg3 rfl (led_cell hw (c1))) ?_
                    refine vt_valg rfl (fun w hw => os_move rfl) ?_
                    refine vt_valg rfl (fun w hw => os_move rfl) ?_
                    refine vt_valg rfl (fun w hw => os_ix Try.underlying40 Try.sizeOf3 rfl rfl (i := m) (by omega) (by omega)) ?_
                    refine vt_valg rfl (fun w hw => os_load Try.isAgg3 rfl (led_cell hw (cx))) ?_
                    refine vt_valg rfl (fun w hw => os_t (os_gtr rfl rfl) (by omega)) ?_
                    refine vt_valg rfl (fun w hw => os_move rfl) ?_
                    refine vt_valg rfl (fun w hw => os_move rfl) ?_
                    refine vt_valg rfl (fun w hw => os_move rfl) ?_
                    refine vt_valg rfl (fun w hw => os_ix Try.underlying40 Try.sizeOf3 rfl rfl (i := m) (by omega) (by omega)) ?_
                    refine vt_valg rfl (fun w hw => os_load Try.isAgg3 rfl (led_cell hw (c2))) ?_
                    refine vt_valg rfl (fun w hw => os_move rfl) ?_
                    refine vt_valg rfl (fun w hw => os_move rfl) ?_
                    refine vt_valg rfl (fun w hw => os_ix Try.underlying40 Try.sizeOf3 rfl rfl (i := m) (by omega) (by omega)) ?_
                    refine vt_valg rfl (fun w hw => os_load Try.isAgg3 rfl (led_cell hw (c1))) ?_
                    refine vt_valg rfl (fun w hw => os_f (os_geq rfl rfl) (by omega)) ?_
                    refine vt_valg rfl (fun w hw => os_move rfl) ?_
                    refine vt_valg rfl (fun w hw => os_move rfl) ?_
                    refine vt_valg rfl (fun w hw => os_move rfl) ?_
                    refine vt_valg rfl (fun w hw => os_ix Try.underlying40 Try.sizeOf3 rfl rfl (i := m) (by omega) (by omega)) ?_
                    refine vt_valg rfl (fun w hw => os_load Try.isAgg3 rfl (led_cell hw (c2))) ?_
                    refine vt_valg rfl (fun w hw => os_move rfl) ?_
                    refine vt_valg rfl (fun w hw => os_move rfl) ?_
                    refine vt_valg rfl (fun w hw => os_ix Try.underlying40 Try.sizeOf3 rfl rfl (i := m) (by omega) (by omega)) ?_
                    refine vt_valg rfl (fun w hw => os_load Try.isAgg3 rfl (led_cell hw (cx))) ?_
                    refine vt_valg rfl (fun w hw => os_subi rfl rfl (by omega)) ?_
                    refine vt_valg rfl (fun w hw => os_f (os_lss rfl rfl) (by omega)) ?_
                    refine vt_valg rfl (fun w hw => os_pick_f rfl rfl) ?_
                    refine vt_valg rfl (fun w hw => os_pick_t rfl rfl) ?_
                    refine vt_val (fun w hw => os_pick_f rfl rfl) ?_
                    refine vt_val (fun w hw => os_move rfl) ?_
                    refine vt_valg rfl (fun w hw => os_move rfl) ?_
                    refine vt_valg rfl (fun w hw => os_t (os_gtr rfl rfl) (by omega)) ?_
                    refine vt_valg rfl (fun w hw => os_move rfl) ?_
                    refine vt_valg rfl (fun w hw => os_move rfl) ?_
                    refine vt_valg rfl (fun w hw => os_move rfl) ?_
                    refine vt_valg rfl (fun w hw => os_ix Try.underlying40 Try.sizeOf3 rfl rfl (i := m) (by omega) (by omega)) ?_
                    refine vt_valg rfl (fun w hw => os_load Try.isAgg3 rfl (led_cell hw (c2))) ?_
                    refine vt_valg rfl (fun w hw => os_move rfl) ?_
                    refine vt_valg rfl (fun w hw => os_move rfl) ?_
                    refine vt_valg rfl (fun w hw => os_ix Try.underlying40 Try.sizeOf3 rfl rfl (i := m) (by omega) (by omega)) ?_
                    refine vt_valg rfl (fun w hw => os_load Try.isAgg3 rfl (led_cell hw (cx))) ?_
                    refine vt_valg rfl (fun w hw => os_f (os_gtr rfl rfl) (by omega)) ?_
                    refine vt_valg rfl (fun w hw => os_move rfl) ?_
                    refine vt_valg rfl (fun w hw => os_move rfl) ?_
                    refine vt_valg rfl (fun w hw => os_move rfl) ?_
                    refine vt_valg rfl (fun w hw => os_ix Try.underlying40 Try.sizeOf3 rfl rfl (i := m) (by omega) (by omega)) ?_
                    refine vt_valg rfl (fun w hw => os_load Try.isAgg3 rfl (led_cell hw (cx))) ?_
                    refine vt_valg rfl (fun w hw => os_move rfl) ?_
                    refine vt_valg rfl (fun w hw => os_move rfl) ?_
                    refine vt_valg rfl (fun w hw => os_ix Try.underlying40 Try.sizeOf3 rfl rfl (i := m) (by omega) (by omega)) ?_
                    refine vt_valg rfl (fun w hw => os_load Try.isAgg3 rfl (led_cell hw (c2))) ?_
                    refine vt_valg rfl (fun w hw => os_subi rfl rfl (by omega)) ?_
                    refine vt_valg rfl (fun w hw => os_gtr rfl rfl) ?_
                    refine vt_valg rfl (fun w hw => os_pick_f rfl rfl) ?_
                    refine vt_valg rfl (fun w hw => os_pick_t rfl rfl) ?_
                    refine vt_val (fun w hw => os_pick_f rfl rfl) ?_
                    refine vt_nil (fun w hw => ?_)
                    obtain ⟨q, rfl⟩ := hw
                    refine v_cond_no rfl (by omega) ?_
                    refine v_skip ?_
                    refine v_region ?_
                    refine vl_val (os_move rfl) ?_
                    refine vl_val (os_addi rfl rfl (by omega)) ?_
                    refine vl_val (os_assign rfl) ?_
                    refine vl_nil ?_
                    exact ⟨m + 1, ⟨rfl, rfl, rfl, rfl, rfl, rfl, rfl, rfl, rfl, trivial⟩, ⟨rfl, trivial⟩, ⟨by omega, d18.trans_ ⟨q, rfl⟩⟩, by dsimp only; omega⟩
                · have d18w : Below w17.heap.size w17 w18 := led_below d18
                  refine v_exit ?_
                  refine v_region ?_
                  refine vl_val (os_move rfl) ?_
                  refine vl_val (os_addi rfl rfl (by omega)) ?_
                  refine vl_val (os_assign rfl) ?_
                  refine vl_nil ?_
                  exact ⟨t + 1, ⟨rfl, rfl, rfl, rfl, rfl, rfl, trivial⟩, ⟨rfl, trivial⟩, ⟨by omega, b17w.trans (d18w.mono b17w.size), by have := d18w.size; omega, by rw [hL1]; exact hGs.keep d18w, fun h => by rw [hL1]; exact ((hO16 h).keep b17).keep d18w, ⟨_, (hB16.keep b17).keep d18w⟩, ⟨_, (hM16.keep b17).keep d18w⟩, (hV16.keepAll b17).keepAll d18w, Own.keepAll hX17 d18w⟩, by dsimp only; omega⟩
            · cases F
              · refine v_exit ?_
                refine v_seq ?_
                refine v_region ?_
                refine vl_val (os_move rfl) ?_
                refine vl_val (os_not rfl) ?_
                refine vl_val (os_move rfl) ?_
                refine vl_skip rfl rfl ?_
                refine vl_skip rfl rfl ?_
                refine vl_skip rfl rfl ?_
                refine vl_skip rfl rfl ?_
                refine vl_skip rfl rfl ?_
                refine vl_val (os_pick_t rfl rfl) ?_
                refine vl_val (os_assign rfl) ?_
                refine vl_nil ?_
                refine v_ret ?_
                exact post_ret rfl rfl (⟨rfl, b10w⟩)
              · refine v_exit ?_
                refine v_seq ?_
                refine v_region ?_
                refine vl_val (os_move rfl) ?_
                refine vl_val (os_not rfl) ?_
                refine vl_val (os_move rfl) ?_
                refine vl_valg rfl (os_move rfl) ?_
                refine vl_callg rfl (guess_Parts hG10) rfl ?_
                rintro v11 w11 ⟨o11, b11⟩
                have hO11 := (hO10 rfl).keep b11
                refine vl_valg rfl (os_move rfl) ?_
                refine vl_callg rfl (guess_Parts hO11) rfl ?_
                rintro v12 w12 ⟨o12, b12⟩
                have o112 : OwnK w12 w10.heap.size 3 .i64 v11 (foldN X t P0) := Own.keepAll o11 b12
                obtain ⟨A11, c11, rfl, -, -, r11, -⟩ := OwnK.form o112
                obtain ⟨A12, c12, rfl, -, -, r12, -⟩ := OwnK.form o12
                have b11w := b10w.trans (b11.mono b10w.size)
                have b12w := b11w.trans (b12.mono b11w.size)
                have hle := hG10.le
                refine vl_callg rfl (gives_boolb (kit_SameInts A11 A12 _ _ c11 c12 (foldN X t P0) (foldN X t P0) w12 r11 r12 rfl rfl (by omega) (by omega)) (decide_eq_true rfl)) rfl ?_
                rintro v13 w13 ⟨rfl, d13⟩
                refine vl_val (os_pick_f rfl rfl) ?_
                refine vl_val (os_assign rfl) ?_
                refine vl_nil ?_
                refine v_ret ?_
                exact post_ret rfl rfl (⟨rfl, b12w.trans ((led_below d13).mono b12w.size)⟩)
end Go.Proofs.Ytpjmiafefammkaa
