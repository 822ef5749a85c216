/- Texts joined: GsN KitO KitC. -/
import Derived.Test.YtpjmiafefammkaaM15
import Derived.Deep.MidRow
/- Layer 24: the document's guesser: new, what it hears. -/
namespace Go.Proofs.Ytpjmiafefammkaa
open Go.RowKit
set_option linter.unusedVariables false

/-- the document's guesser, that was made -/
structure RG (w : World) (lo r : Nat) (V : Value) (ps : List Int) (st n sq : Int) : Prop where
  bk : Bk w r [.int .i64 st, .int .i64 n, V, .int .i64 sq] 44
  own : OwnK w lo 3 .i64 V ps
  ne : V.ownBlock ≠ some r
  len : (ps.length : Int) = n + 1
  n : 1 ≤ n ∧ n ≤ 255
  row : rowB ps = true
  lo : lo ≤ r
theorem RG.le {w lo r V ps st n sq} (h : RG w lo r V ps st n sq) : ps.length ≤ 256 := by have := h.len; have := h.n; omega
theorem RG.lt {w lo r V ps st n sq} (h : RG w lo r V ps st n sq) : r < w.heap.size := h.bk.lt
theorem RG.vlt {w lo r V ps st n sq} (h : RG w lo r V ps st n sq) : ∀ k, V.ownBlock = some k → lo ≤ k ∧ k < w.heap.size := World.ownsRow.lt h.own
theorem RG.kb {w w' lo r V ps st n sq S} (h : RG w lo r V ps st n sq) (hb : Kb S w w') (hr : r ∉ S) (hS : ∀ k, V.ownBlock = some k → k ∉ S) : RG w' lo r V ps st n sq :=
  ⟨Bk.kb h.bk hb hr, Own.kb h.own hb hS, h.ne, h.len, h.n, h.row, h.lo⟩
theorem RG.keep {w w' lo r V ps st n sq} (h : RG w lo r V ps st n sq) (hb : Below w.heap.size w w') : RG w' lo r V ps st n sq := h.kb (S := []) (Kb.of_below hb) (by simp) (fun k _ => by simp)
theorem RG.led {w w' lo r V ps st n sq} (h : RG w lo r V ps st n sq) (hb : LeD w w') : RG w' lo r V ps st n sq := h.keep (led_below hb)
theorem GS.kb {w w' g ps st n sq S} (h : GS w g ps st n sq) (hb : Kb S w w') (hg : g ∉ S) : GS w' g ps st n sq := ⟨Bk.kb h.bk hb hg, h.len, h.n, h.row⟩
theorem new_set {n : Int} (h : 1 ≤ n) : (List.replicate (n.toNat + 1) (0 : Int)).set n.toNat 65536 = newP n := by
  unfold newP
  rw [List.replicate_succ', List.set_append_right _ _ (by simp), List.length_replicate, Nat.sub_self]; rfl

set_option maxHeartbeats 1000000 in
theorem ref24_New (st n : Int) (w : World) : Gives Try.prog 17 #[.int .i64 st, .int .i64 n] w fun v w' => Below w.heap.size w w' ∧ ((newOk st n = false ∧ v = .tuple #[.pointer none, .int .i64 2]) ∨ (newOk st n = true ∧ ∃ r V, v = .tuple #[.pointer (some ⟨r, 0, none⟩), .int .i64 0] ∧ RG w' w.heap.size r V (newP n) st n 0)) := by
  refine gives_enter Try.call17 Try.func17 rfl rfl rfl (by kernel_rfl) ?_
  rcases (by omega : st < 0 ∨ (0 ≤ st ∧ 65535 < st) ∨ (0 ≤ st ∧ st ≤ 65535 ∧ n < 1) ∨ (0 ≤ st ∧ st ≤ 65535 ∧ 1 ≤ n ∧ 255 < n) ∨ (0 ≤ st ∧ st ≤ 65535 ∧ 1 ≤ n ∧ n ≤ 255)) with h | ⟨h, h2⟩ | ⟨h, h2, h3⟩ | ⟨h, h2, h3, h4⟩ | ⟨h, h2, h3, h4⟩
  · refine v_seq ?_
    refine v_region ?_
    refine vl_val (os_assign rfl) ?_
    refine vl_val (os_assign rfl) ?_
    refine vl_nil ?_
    refine v_seq ?_
    refine v_seq ?_
    refine v_region ?_
    refine vl_val (os_move rfl) ?_
    refine vl_val (os_t (os_lss rfl rfl) (by omega)) ?_
    refine vl_val (os_move rfl) ?_
    refine vl_skip rfl rfl ?_
    refine vl_skip rfl rfl ?_
    refine vl_val (os_pick_t rfl rfl) ?_
    refine vl_val (os_move rfl) ?_
    refine vl_skip rfl rfl ?_
    refine vl_skip rfl rfl ?_
    refine vl_val (os_pick_t rfl rfl) ?_
    refine vl_val (os_move rfl) ?_
    refine vl_skip rfl rfl ?_
    refine vl_skip rfl rfl ?_
    refine vl_val (os_pick_t rfl rfl) ?_
    refine vl_nil ?_
    refine v_cond_t rfl ?_
    refine v_seq ?_
    refine v_region ?_
    refine vl_val (os_assign rfl) ?_
    refine vl_val (os_assign rfl) ?_
    refine vl_nil ?_
    refine v_ret ?_
    exact post_ret2 rfl rfl rfl (⟨Below.refl _ _, .inl ⟨by simp [newOk]; omega, rfl⟩⟩)
  · refine v_seq ?_
    refine v_region ?_
    refine vl_val (os_assign rfl) ?_
    refine vl_val (os_assign rfl) ?_
    refine vl_nil ?_
    refine v_seq ?_
    refine v_seq ?_
    refine v_region ?_
    refine vl_val (os_move rfl) ?_
    refine vl_val (os_f (os_lss rfl rfl) (by omega)) ?_
    refine vl_val (os_move rfl) ?_
    refine vl_valg rfl (os_move rfl) ?_
    refine vl_valg rfl (os_t (os_gtr rfl rfl) (by omega)) ?_
    refine vl_val (os_pick_f rfl rfl) ?_
    refine vl_val (os_move rfl) ?_
    refine vl_skip rfl rfl ?_
    refine vl_skip rfl rfl ?_
    refine vl_val (os_pick_t rfl rfl) ?_
    refine vl_val (os_move rfl) ?_
    refine vl_skip rfl rfl ?_
    refine vl_skip rfl rfl ?_
    refine vl_val (os_pick_t rfl rfl) ?_
    refine vl_nil ?_
    refine v_cond_t rfl ?_
    refine v_seq ?_
    refine v_region ?_
    refine vl_val (os_assign rfl) ?_
    refine vl_val (os_assign rfl) ?_
    refine vl_nil ?_
    refine v_ret ?_
    exact post_ret2 rfl rfl rfl (⟨Below.refl _ _, .inl ⟨by simp [newOk]; omega, rfl⟩⟩)
  · refine v_seq ?_
    refine v_region ?_
    refine vl_val (os_assign rfl) ?_
    refine vl_val (os_assign rfl) ?_
    refine vl_nil ?_
    refine v_seq ?_
    refine v_seq ?_
    refine v_region ?_
    refine vl_val (os_move rfl) ?_
    refine vl_val (os_f (os_lss rfl rfl) (by omega)) ?_
    refine vl_val (os_move rfl) ?_
    refine vl_valg rfl (os_move rfl) ?_
    refine vl_valg rfl (os_f (os_gtr rfl rfl) (by omega)) ?_
    refine vl_val (os_pick_f rfl rfl) ?_
    refine vl_val (os_move rfl) ?_
    refine vl_valg rfl (os_move rfl) ?_
    refine vl_valg rfl (os_t (os_lss rfl rfl) (by omega)) ?_
    refine vl_val (os_pick_f rfl rfl) ?_
    refine vl_val (os_move rfl) ?_
    refine vl_skip rfl rfl ?_
    refine vl_skip rfl rfl ?_
    refine vl_val (os_pick_t rfl rfl) ?_
    refine vl_nil ?_
    refine v_cond_t rfl ?_
    refine v_seq ?_
    refine v_region ?_
    refine vl_val (os_assign rfl) ?_
    refine vl_val (os_assign rfl) ?_
    refine vl_nil ?_
    refine v_ret ?_
    exact post_ret2 rfl rfl rfl (⟨Below.refl _ _, .inl ⟨by simp [newOk]; omega, rfl⟩⟩)
  · refine v_seq ?_
    refine v_region ?_
    refine vl_val (os_assign rfl) ?_
    refine vl_val (os_assign rfl) ?_
    refine vl_nil ?_
    refine v_seq ?_
    refine v_seq ?_
    refine v_region ?_
    refine vl_val (os_move rfl) ?_
    refine vl_val (os_f (os_lss rfl rfl) (by omega)) ?_
    refine vl_val (os_move rfl) ?_
    refine vl_valg rfl (os_move rfl) ?_
    refine vl_valg rfl (os_f (os_gtr rfl rfl) (by omega)) ?_
    refine vl_val (os_pick_f rfl rfl) ?_
    refine vl_val (os_move rfl) ?_
    refine vl_valg rfl (os_move rfl) ?_
    refine vl_valg rfl (os_f (os_lss rfl rfl) (by omega)) ?_
    refine vl_val (os_pick_f rfl rfl) ?_
    refine vl_val (os_move rfl) ?_
    refine vl_valg rfl (os_move rfl) ?_
    refine vl_valg rfl (os_gtr rfl rfl) ?_
    refine vl_val (os_pick_f rfl rfl) ?_
    refine vl_nil ?_
    refine v_cond_yes rfl (by omega) ?_
    refine v_seq ?_
    refine v_region ?_
    refine vl_val (os_assign rfl) ?_
    refine vl_val (os_assign rfl) ?_
    refine vl_nil ?_
    refine v_ret ?_
    exact post_ret2 rfl rfl rfl (⟨Below.refl _ _, .inl ⟨by simp [newOk]; omega, rfl⟩⟩)
  · refine v_seq ?_
    refine v_region ?_
    refine vl_val (os_assign rfl) ?_
    refine vl_val (os_assign rfl) ?_
    refine vl_nil ?_
    refine v_seq ?_
    refine v_seq ?_
    refine v_region ?_
    refine vl_val (os_move rfl) ?_
    refine vl_val (os_f (os_lss rfl rfl) (by omega)) ?_
    refine vl_val (os_move rfl) ?_
    refine vl_valg rfl (os_move rfl) ?_
    refine vl_valg rfl (os_f (os_gtr rfl rfl) (by omega)) ?_
    refine vl_val (os_pick_f rfl rfl) ?_
    refine vl_val (os_move rfl) ?_
    refine vl_valg rfl (os_move rfl) ?_
    refine vl_valg rfl (os_f (os_lss rfl rfl) (by omega)) ?_
    refine vl_val (os_pick_f rfl rfl) ?_
    refine vl_val (os_move rfl) ?_
    refine vl_valg rfl (os_move rfl) ?_
    refine vl_valg rfl (os_gtr rfl rfl) ?_
    refine vl_val (os_pick_f rfl rfl) ?_
    refine vl_nil ?_
    refine v_cond_no rfl (by omega) ?_
    refine v_skip ?_
    refine v_seq ?_
    refine v_region ?_
    refine vl_val (os_move rfl) ?_
    refine vl_val (os_addi rfl rfl (by omega)) ?_
    refine vl_some (ot_make (l := n.toNat + 1) Try.underlying40 ti_int rfl rfl rfl (by omega) (by omega) (by omega) (by simp [maxLen]; omega) w.heap.size (Nat.le_refl _)) ?_
    rintro v2 w2 ⟨rfl, ho, hg⟩
    have b2 : Below w.heap.size w w2 := (Below.refl _ _).grown hg (Nat.le_refl _) (fun k hk => by cases hk)
    have hO : OwnK w2 w.heap.size 3 .i64 (.slice (some ⟨w.heap.size, 0, none⟩) (n.toNat + 1) (n.toNat + 1)) (List.replicate (n.toNat + 1) 0) := by simpa [OwnK] using ho
    have hc := OwnK.cell hO (i := n.toNat) (by simp)
    refine vl_val (os_assign rfl) ?_
    refine vl_nil ?_
    refine v_seq ?_
    refine v_region ?_
    refine vl_val (os_move rfl) ?_
    refine vl_val (os_move rfl) ?_
    refine vl_val (os_ix Try.underlying40 Try.sizeOf3 rfl rfl (i := n.toNat) (by omega) (by omega)) ?_
    refine vl_unit (ou_store Try.sizeOf3 rfl rfl rfl (by rw [Nat.zero_add]; exact hc) (Own.free hO _)) ?_
    have hO3 := OwnK.set hO n.toNat 65536
    rw [new_set h3] at hO3
    have b3 := below_set b2 (Nat.le_refl w.heap.size) (0 + n.toNat) (.int .i64 65536)
    have hlt : w.heap.size < w2.heap.size := (World.ownsRow.lt hO _ rfl).2
    rw [Nat.zero_add] at b3
    refine vl_nil ?_
    refine v_seq ?_
    refine v_region ?_
    refine vl_val (os_move rfl) ?_
    refine vl_val (os_move rfl) ?_
    refine vl_val (os_move rfl) ?_
    refine vl_val (os_build (cs := [.int .i64 st, .int .i64 n, .slice (some ⟨w.heap.size, 0, none⟩) (n.toNat + 1) (n.toNat + 1), .int .i64 0]) rfl (by kernel_rfl)) ?_
    rw [Nat.zero_add]
    obtain ⟨w3, hw3⟩ : ∃ w3, w3 = w2.setCell ⟨w.heap.size, n.toNat, none⟩ (.int .i64 65536) := ⟨_, rfl⟩
    rw [← hw3] at hO3 b3
    rw [← hw3]
    have hs3 : w3.heap.size = w2.heap.size := by rw [hw3]; simp [World.setCell]
    have hB := bk_new w3 [.int .i64 st, .int .i64 n, .slice (some ⟨w.heap.size, 0, none⟩) (n.toNat + 1) (n.toNat + 1), .int .i64 0] 44
    have b4 := b3.alloc b3.size (.cells [Value.int .i64 st, .int .i64 n, .slice (some ⟨w.heap.size, 0, none⟩) (n.toNat + 1) (n.toNat + 1), .int .i64 0].toArray 44)
    refine vl_val (os_box rfl) ?_
    refine vl_val (os_assign rfl) ?_
    refine vl_val (os_assign rfl) ?_
    refine vl_nil ?_
    refine v_ret ?_
    exact post_ret2 rfl rfl rfl (⟨b4, .inr ⟨by simp [newOk]; omega, w3.heap.size, _, rfl, ⟨hB, Own.keepAll hO3 ((Below.refl _ _).alloc (Nat.le_refl _) _), fun e => by injection e with e; simp only [] at e; omega, by simp [newP]; omega, ⟨h3, h4⟩, newP_row ⟨h3, h4⟩, b3.size⟩⟩⟩)

set_option maxHeartbeats 4000000 in
theorem ref24_Hear (lo r : Nat) (V : Value) (ps : List Int) (st n sq : Int) (d : NoteV) (w : World) (hG : RG w lo r V ps st n sq) (hd : NoteOk w d) : Gives Try.prog 22 #[.pointer (some ⟨r, 0, none⟩), .agg d.cells.toArray] w fun v w' => v = .int .i64 (whyN st n sq d) ∧ Below lo w w' ∧ Kb [r] w w' ∧ (whyN st n sq d ≠ 0 → RG w' lo r V ps st n sq) ∧ (whyN st n sq d = 0 → ∃ V2, RG w' lo r V2 (hearP ps n d) st n d.sq ∧ ∀ k, V2.ownBlock = some k → w.heap.size ≤ k) := by
  have hle := hG.le
  have hl := hG.len
  have hn := hG.n
  have hlo := hG.lo
  have hrl := hG.lt
  have hBw : lo ≤ w.heap.size := by omega
  have hB0 := bk_new w d.cells 35
  have hb0 : Below w.heap.size w (w.alloc (.cells d.cells.toArray 35)) := (Below.refl _ w).alloc (Nat.le_refl _) _
  have l1 := hd.2.1
  refine gives_enter Try.call22 Try.func22 rfl rfl rfl (by kernel_rfl) ?_
  cases hR : rightN d
  · refine v_seq ?_
    refine v_region ?_
    refine vl_val (os_box rfl) ?_
    refine vl_val (os_assign rfl) ?_
    refine vl_nil ?_
    refine v_seq ?_
    refine v_block ?_
    refine v_seq ?_
    refine v_region ?_
    refine vl_val (os_loadB Try.underlying35 rfl (by kernel_rfl) rfl (hB0)) ?_
    refine vl_call (gives_boolb (ref24_Right d _ (hd.keep hb0)) hR) rfl ?_
    rintro v2 w2 ⟨rfl, b2⟩
    have b2w := hb0.trans (b2.mono hb0.size)
    have hy : whyN st n sq d = 2 := by unfold whyN; rw [hR]; rfl
    refine vl_val (os_not rfl) ?_
    refine vl_val (os_assign rfl) ?_
    refine vl_nil ?_
    refine v_cond_t rfl ?_
    refine v_seq ?_
    refine v_region ?_
    refine vl_val (os_assign rfl) ?_
    refine vl_nil ?_
    refine v_ret ?_
    exact post_ret rfl rfl (⟨by rw [hy], b2w.mono hBw, Kb.of_below b2w, fun _ => hG.keep b2w, fun h => absurd h (by rw [hy]; decide)⟩)
  · refine v_seq ?_
    refine v_region ?_
    refine vl_val (os_box rfl) ?_
    refine vl_val (os_assign rfl) ?_
    refine vl_nil ?_
    refine v_seq ?_
    refine v_block ?_
    refine v_seq ?_
    refine v_region ?_
    refine vl_val (os_loadB Try.underlying35 rfl (by kernel_rfl) rfl (hB0)) ?_
    refine vl_call (gives_boolb (ref24_Right d _ (hd.keep hb0)) hR) rfl ?_
    rintro v2 w2 ⟨rfl, b2⟩
    have b2w := hb0.trans (b2.mono hb0.size)
    have hG2 := hG.keep b2w
    have hB2 := hB0.keep b2
    have hV1 := hG2.bk
    refine vl_val (os_not rfl) ?_
    refine vl_val (os_assign rfl) ?_
    refine vl_nil ?_
    rcases (by by_cases h1 : d.st = st <;> by_cases h2 : d.n = n <;> simp [h1, h2] : d.st ≠ st ∨ (d.st = st ∧ d.n ≠ n) ∨ (d.st = st ∧ d.n = n)) with g1 | ⟨g1, g2⟩ | ⟨g1, g2⟩
    · have hy : whyN st n sq d = 13 := by unfold whyN; rw [hR]; simp [g1]
      refine v_cond_f rfl ?_
      refine v_seq ?_
      refine v_region_t LeD _ mixed (by kernel_rfl) lee_d (led_start _) ?_
      refine vt_val (fun w hw => os_fa (o := 0) (k := 0) (by kernel_rfl) rfl) ?_
      refine vt_val (fun w hw => os_load Try.isAgg3 rfl (led_cell hw (hB2.cell (i := 0) rfl))) ?_
      refine vt_val (fun w hw => os_move rfl) ?_
      refine vt_val (fun w hw => os_nilCheck rfl) ?_
      refine vt_val (fun w hw => os_fa (o := 0) (k := 0) (by kernel_rfl) rfl) ?_
      refine vt_val (fun w hw => os_load Try.isAgg3 rfl (led_cell hw (hV1.cell (i := 0) rfl))) ?_
      refine vt_val (fun w hw => os_t (os_neq rfl rfl) (g1)) ?_
      refine vt_val (fun w hw => os_move rfl) ?_
      refine vt_skip rfl rfl ?_
      refine vt_skip rfl rfl ?_
      refine vt_skip rfl rfl ?_
      refine vt_skip rfl rfl ?_
      refine vt_skip rfl rfl ?_
      refine vt_skip rfl rfl ?_
      refine vt_skip rfl rfl ?_
      refine vt_val (fun w hw => os_pick_t rfl rfl) ?_
      refine vt_val (fun w hw => os_assign rfl) ?_
      refine vt_nil (fun w hw => ?_)
      obtain ⟨q, rfl⟩ := hw
      have b3w := b2w.trans ((led_below ⟨q, rfl⟩ : Below w2.heap.size w2 (w2.drewN q)).mono b2w.size)
      refine v_cond_t rfl ?_
      refine v_seq ?_
      refine v_region ?_
      refine vl_val (os_assign rfl) ?_
      refine vl_nil ?_
      refine v_ret ?_
      exact post_ret rfl rfl (⟨by rw [hy], b3w.mono hBw, Kb.of_below b3w, fun _ => hG.keep b3w, fun h => absurd h (by rw [hy]; decide)⟩)
    · have hy : whyN st n sq d = 13 := by unfold whyN; rw [hR]; simp [g1, g2]
      refine v_cond_f rfl ?_
      refine v_seq ?_
      refine v_region_t LeD _ mixed (by kernel_rfl) lee_d (led_start _) ?_
      refine vt_val (fun w hw => os_fa (o := 0) (k := 0) (by kernel_rfl) rfl) ?_
      refine vt_val (fun w hw => os_load Try.isAgg3 rfl (led_cell hw (hB2.cell (i := 0) rfl))) ?_
      refine vt_val (fun w hw => os_move rfl) ?_
      refine vt_val (fun w hw => os_nilCheck rfl) ?_
      refine vt_val (fun w hw => os_fa (o := 0) (k := 0) (by kernel_rfl) rfl) ?_
      refine vt_val (fun w hw => os_load Try.isAgg3 rfl (led_cell hw (hV1.cell (i := 0) rfl))) ?_
      refine vt_val (fun w hw => os_f (os_neq rfl rfl) (by simp [g1])) ?_
      refine vt_val (fun w hw => os_move rfl) ?_
      refine vt_valg rfl (fun w hw => os_fa (o := 2) (k := 0) (by kernel_rfl) rfl) ?_
      refine vt_valg rfl (fun w hw => os_load Try.isAgg3 rfl (led_cell hw (hB2.cell (i := 2) rfl))) ?_
      refine vt_valg rfl (fun w hw => os_move rfl) ?_
      refine vt_valg rfl (fun w hw => os_nilCheck rfl) ?_
      refine vt_valg rfl (fun w hw => os_fa (o := 1) (k := 0) (by kernel_rfl) rfl) ?_
      refine vt_valg rfl (fun w hw => os_load Try.isAgg3 rfl (led_cell hw (hV1.cell (i := 1) rfl))) ?_
      refine vt_valg rfl (fun w hw => os_neq rfl rfl) ?_
      refine vt_val (fun w hw => os_pick_f rfl rfl) ?_
      refine vt_val (fun w hw => os_assign rfl) ?_
      refine vt_nil (fun w hw => ?_)
      obtain ⟨q, rfl⟩ := hw
      refine v_cond_yes rfl (g2) ?_
      have b3w := b2w.trans ((led_below ⟨q, rfl⟩ : Below w2.heap.size w2 (w2.drewN q)).mono b2w.size)
      refine v_seq ?_
      refine v_region ?_
      refine vl_val (os_assign rfl) ?_
      refine vl_nil ?_
      refine v_ret ?_
      exact post_ret rfl rfl (⟨by rw [hy], b3w.mono hBw, Kb.of_below b3w, fun _ => hG.keep b3w, fun h => absurd h (by rw [hy]; decide)⟩)
    · refine v_cond_f rfl ?_
      refine v_seq ?_
      refine v_region_t LeD _ mixed (by kernel_rfl) lee_d (led_start _) ?_
      refine vt_val (fun w hw => os_fa (o := 0) (k := 0) (by kernel_rfl) rfl) ?_
      refine vt_val (fun w hw => os_load Try.isAgg3 rfl (led_cell hw (hB2.cell (i := 0) rfl))) ?_
      refine vt_val (fun w hw => os_move rfl) ?_
      refine vt_val (fun w hw => os_nilCheck rfl) ?_
      refine vt_val (fun w hw => os_fa (o := 0) (k := 0) (by kernel_rfl) rfl) ?_
      refine vt_val (fun w hw => os_load Try.isAgg3 rfl (led_cell hw (hV1.cell (i := 0) rfl))) ?_
      refine vt_val (fun w hw => os_f (os_neq rfl rfl) (by simp [g1])) ?_
      refine vt_val (fun w hw => os_move rfl) ?_
      refine vt_valg rfl (fun w hw => os_fa (o := 2) (k := 0) (by kernel_rfl) rfl) ?_
      refine vt_valg rfl (fun w hw => os_load Try.isAgg3 rfl (led_cell hw (hB2.cell (i := 2) rfl))) ?_
      refine vt_valg rfl (fun w hw => os_move rfl) ?_
      refine vt_valg rfl (fun w hw => os_nilCheck rfl) ?_
      refine vt_valg rfl (fun w hw => os_fa (o := 1) (k := 0) (by kernel_rfl) rfl) ?_
      refine vt_valg rfl (fun w hw => os_load Try.isAgg3 rfl (led_cell hw (hV1.cell (i := 1) rfl))) ?_
      refine vt_valg rfl (fun w hw => os_neq rfl rfl) ?_
      refine vt_val (fun w hw => os_pick_f rfl rfl) ?_
      refine vt_val (fun w hw => os_assign rfl) ?_
      refine vt_nil (fun w hw => ?_)
      obtain ⟨q, rfl⟩ := hw
      refine v_cond_no rfl (by simp [g2]) ?_
      have d3 : LeD w2 (w2.drewN q) := ⟨q, rfl⟩
      generalize w2.drewN q = w3 at d3
      have b3w := b2w.trans ((led_below d3).mono b2w.size)
      have hB3 := hB2.led d3
      have hV3' := hV1.led d3
      by_cases h3 : d.sq ≤ sq
      · have hy : whyN st n sq d = 14 := by unfold whyN; rw [hR]; simp [g1, g2, h3]
        refine v_seq ?_
        refine v_region_t LeD _ mixed (by kernel_rfl) lee_d (led_start _) ?_
        refine vt_val (fun w hw => os_fa (o := 1) (k := 0) (by kernel_rfl) rfl) ?_
        refine vt_val (fun w hw => os_load Try.isAgg3 rfl (led_cell hw (hB3.cell (i := 1) rfl))) ?_
        refine vt_val (fun w hw => os_move rfl) ?_
        refine vt_val (fun w hw => os_nilCheck rfl) ?_
        refine vt_val (fun w hw => os_fa (o := 3) (k := 0) (by kernel_rfl) rfl) ?_
        refine vt_val (fun w hw => os_load Try.isAgg3 rfl (led_cell hw (hV3'.cell (i := 3) rfl))) ?_
        refine vt_val (fun w hw => os_leq rfl rfl) ?_
        refine vt_val (fun w hw => os_assign rfl) ?_
        refine vt_nil (fun w hw => ?_)
        obtain ⟨q2, rfl⟩ := hw
        refine v_cond_yes rfl (h3) ?_
        have b4w := b3w.trans ((led_below ⟨q2, rfl⟩ : Below w3.heap.size w3 (w3.drewN q2)).mono b3w.size)
        refine v_seq ?_
        refine v_region ?_
        refine vl_val (os_assign rfl) ?_
        refine vl_nil ?_
        refine v_ret ?_
        exact post_ret rfl rfl (⟨by rw [hy], b4w.mono hBw, Kb.of_below b4w, fun _ => hG.keep b4w, fun h => absurd h (by rw [hy]; decide)⟩)
      · refine v_seq ?_
        refine v_region_t LeD _ mixed (by kernel_rfl) lee_d (led_start _) ?_
        refine vt_val (fun w hw => os_fa (o := 1) (k := 0) (by kernel_rfl) rfl) ?_
        refine vt_val (fun w hw => os_load Try.isAgg3 rfl (led_cell hw (hB3.cell (i := 1) rfl))) ?_
        refine vt_val (fun w hw => os_move rfl) ?_
        refine vt_val (fun w hw => os_nilCheck rfl) ?_
        refine vt_val (fun w hw => os_fa (o := 3) (k := 0) (by kernel_rfl) rfl) ?_
        refine vt_val (fun w hw => os_load Try.isAgg3 rfl (led_cell hw (hV3'.cell (i := 3) rfl))) ?_
        refine vt_val (fun w hw => os_leq rfl rfl) ?_
        refine vt_val (fun w hw => os_assign rfl) ?_
        refine vt_nil (fun w hw => ?_)
        obtain ⟨q2, rfl⟩ := hw
        refine v_cond_no rfl (h3) ?_
        have d4 : LeD w3 (w3.drewN q2) := ⟨q2, rfl⟩
        generalize w3.drewN q2 = w4 at d4
        have b4w := b3w.trans ((led_below d4).mono b3w.size)
        have hB4 := hB3.led d4
        refine v_seq ?_
        refine v_region ?_
        refine vl_val (os_fa (o := 3) (k := 0) (by kernel_rfl) rfl) ?_
        refine vl_val (os_load Try.isAgg33 rfl (hB4.cell (i := 3) rfl)) ?_
        refine vl_val (os_len Try.underlying33 rfl) ?_
        refine vl_val (os_eql rfl rfl) ?_
        refine vl_val (os_assign rfl) ?_
        refine vl_nil ?_
        refine v_cond_d rfl (fun h4 => ?_) (fun h4 => ?_)
        · have hy : whyN st n sq d = 5 := by unfold whyN; rw [hR]; simp [g1, g2, h3]; omega
          refine v_seq ?_
          refine v_region ?_
          refine vl_val (os_assign rfl) ?_
          refine vl_nil ?_
          refine v_ret ?_
          exact post_ret rfl rfl (⟨by rw [hy], b4w.mono hBw, Kb.of_below b4w, fun _ => hG.keep b4w, fun h => absurd h (by rw [hy]; decide)⟩)
        · have hw0 : whyN st n sq d = 0 := why_ok.2 ⟨hR, g1, g2, by omega, by omega⟩
          have hrd := right_iff.1 hR
          have hG4 := hG.keep b4w
          have b0 : Below w4.heap.size w4 { w4 with drawn := w4.drawn + 1 } := (Below.refl _ _).drew
          have hW1 := hG4.bk
          have hW2 := hG4.own
          obtain ⟨A4, c4, rfl, -, -, -, -⟩ := OwnK.form hW2
          refine v_skip ?_
          refine v_mid [(0, _), (3, _)] (fun (u : Value) => [(5, u)]) (fun u w' => Below w4.heap.size w4 w' ∧ OwnK w' w4.heap.size 3 .i64 u (hearP ps n d)) ⟨rfl, rfl, trivial⟩ ?_ ?_
          · refine v_region_a mixed ?_
            refine va_pure 0 rfl (by kernel_rfl) (by kernel_rfl) (by kernel_rfl) (fun w => (os_move rfl)) ?_
            refine va_pure 1 rfl (by kernel_rfl) (by kernel_rfl) (by kernel_rfl) (fun w => (os_nilCheck rfl)) ?_
            refine va_pure 2 rfl (by kernel_rfl) (by kernel_rfl) (by kernel_rfl) (fun w => (os_fa (o := 2) (k := 0) (by kernel_rfl) rfl)) ?_
            refine va_two 3 4 (by kernel_rfl) ?_ ?_
            · refine vn_val rfl (os_load Try.isAgg40 rfl ((by first | exact (hW1.keep b28).cell (i := 2) rfl | exact (hW1.keep b0).cell (i := 2) rfl))) ?_
              refine va_one 4 (by kernel_rfl) ?_
              refine vn_val rfl (os_loadB Try.underlying35 rfl (by kernel_rfl) rfl ((hB4.keep b0))) ?_
              refine va_one 5 (by kernel_rfl) ?_
              refine vn_call rfl (ref24_Says d _ ((hd.keep b4w).keep b0) hrd) rfl ?_
              rintro v28 w28 ⟨o28, l28⟩
              have b28 : Below w4.heap.size w4 w28 := b0.trans (l28.mono b0.size)
              obtain ⟨A28, c28, rfl, -, -, r28, -⟩ := OwnK.form o28
              rw [g2] at r28
              refine va_one 6 (by kernel_rfl) ?_
              refine vn_call rfl (r_Fold A4 A28 ps.length _ c4 c28 ps (saysL n d.cs) w28 (OwnK.rd (Own.keepAll hW2 b28)) r28 rfl (by rw [g2]) (by omega) (by rw [saysL_len]; omega)) rfl ?_
              rintro v29 w29 ⟨u, rfl, ou, l29⟩
              have b29 : Below w4.heap.size w4 w29 := b28.trans (l29.mono b28.size)
              have hfo := foldV_ok hG.row (saysL_row (cs := d.cs) (by omega : n ≤ 255)) (by rw [saysL_len]; omega)
              refine va_pure 7 rfl (by kernel_rfl) (by kernel_rfl) (by kernel_rfl) (fun w => (os_move rfl)) ?_
              refine va_pure 8 rfl (by kernel_rfl) (by kernel_rfl) (by kernel_rfl) (fun w => (os_extract rfl rfl)) ?_
              refine va_pure 9 rfl (by kernel_rfl) (by kernel_rfl) (by kernel_rfl) (fun w => (os_extract rfl rfl)) ?_
              refine va_pure 10 rfl (by kernel_rfl) (by kernel_rfl) (by kernel_rfl) (fun w => (os_assign rfl)) ?_
              refine va_pure 11 rfl (by kernel_rfl) (by kernel_rfl) (by kernel_rfl) (fun w => (os_assign rfl)) ?_
              refine va_done (by kernel_rfl) ?_
              exact ⟨u, ⟨rfl, rfl, trivial⟩, ⟨rfl, trivial⟩, ⟨b29, by rw [hfo.1] at ou; exact Own.mono ou b28.size⟩⟩
            · refine vn_val rfl (os_loadB Try.underlying35 rfl (by kernel_rfl) rfl ((hB4.keep b0))) ?_
              refine va_two 3 5 (by kernel_rfl) ?_ ?_
              · refine vn_val rfl (os_load Try.isAgg40 rfl ((by first | exact (hW1.keep b28).cell (i := 2) rfl | exact (hW1.keep b0).cell (i := 2) rfl))) ?_
                refine va_one 5 (by kernel_rfl) ?_
                refine vn_call rfl (ref24_Says d _ ((hd.keep b4w).keep b0) hrd) rfl ?_
                rintro v28 w28 ⟨o28, l28⟩
                have b28 : Below w4.heap.size w4 w28 := b0.trans (l28.mono b0.size)
                obtain ⟨A28, c28, rfl, -, -, r28, -⟩ := OwnK.form o28
                rw [g2] at r28
                refine va_one 6 (by kernel_rfl) ?_
                refine vn_call rfl (r_Fold A4 A28 ps.length _ c4 c28 ps (saysL n d.cs) w28 (OwnK.rd (Own.keepAll hW2 b28)) r28 rfl (by rw [g2]) (by omega) (by rw [saysL_len]; omega)) rfl ?_
                rintro v29 w29 ⟨u, rfl, ou, l29⟩
                have b29 : Below w4.heap.size w4 w29 := b28.trans (l29.mono b28.size)
                have hfo := foldV_ok hG.row (saysL_row (cs := d.cs) (by omega : n ≤ 255)) (by rw [saysL_len]; omega)
                refine va_pure 7 rfl (by kernel_rfl) (by kernel_rfl) (by kernel_rfl) (fun w => (os_move rfl)) ?_
                refine va_pure 8 rfl (by kernel_rfl) (by kernel_rfl) (by kernel_rfl) (fun w => (os_extract rfl rfl)) ?_
                refine va_pure 9 rfl (by kernel_rfl) (by kernel_rfl) (by kernel_rfl) (fun w => (os_extract rfl rfl)) ?_
                refine va_pure 10 rfl (by kernel_rfl) (by kernel_rfl) (by kernel_rfl) (fun w => (os_assign rfl)) ?_
                refine va_pure 11 rfl (by kernel_rfl) (by kernel_rfl) (by kernel_rfl) (fun w => (os_assign rfl)) ?_
                refine va_done (by kernel_rfl) ?_
                exact ⟨u, ⟨rfl, rfl, trivial⟩, ⟨rfl, trivial⟩, ⟨b29, by rw [hfo.1] at ou; exact Own.mono ou b28.size⟩⟩
              · refine vn_call rfl (ref24_Says d _ ((hd.keep b4w).keep b0) hrd) rfl ?_
                rintro v28 w28 ⟨o28, l28⟩
                have b28 : Below w4.heap.size w4 w28 := b0.trans (l28.mono b0.size)
                obtain ⟨A28, c28, rfl, -, -, r28, -⟩ := OwnK.form o28
                rw [g2] at r28
                refine va_one 3 (by kernel_rfl) ?_
                refine vn_val rfl (os_load Try.isAgg40 rfl ((by first | exact (hW1.keep b28).cell (i := 2) rfl | exact (hW1.keep b0).cell (i := 2) rfl))) ?_
                refine va_one 6 (by kernel_rfl) ?_
                refine vn_call rfl (r_Fold A4 A28 ps.length _ c4 c28 ps (saysL n d.cs) w28 (OwnK.rd (Own.keepAll hW2 b28)) r28 rfl (by rw [g2]) (by omega) (by rw [saysL_len]; omega)) rfl ?_
                rintro v29 w29 ⟨u, rfl, ou, l29⟩
                have b29 : Below w4.heap.size w4 w29 := b28.trans (l29.mono b28.size)
                have hfo := foldV_ok hG.row (saysL_row (cs := d.cs) (by omega : n ≤ 255)) (by rw [saysL_len]; omega)
                refine va_pure 7 rfl (by kernel_rfl) (by kernel_rfl) (by kernel_rfl) (fun w => (os_move rfl)) ?_
                refine va_pure 8 rfl (by kernel_rfl) (by kernel_rfl) (by kernel_rfl) (fun w => (os_extract rfl rfl)) ?_
                refine va_pure 9 rfl (by kernel_rfl) (by kernel_rfl) (by kernel_rfl) (fun w => (os_extract rfl rfl)) ?_
                refine va_pure 10 rfl (by kernel_rfl) (by kernel_rfl) (by kernel_rfl) (fun w => (os_assign rfl)) ?_
                refine va_pure 11 rfl (by kernel_rfl) (by kernel_rfl) (by kernel_rfl) (fun w => (os_assign rfl)) ?_
                refine va_done (by kernel_rfl) ?_
                exact ⟨u, ⟨rfl, rfl, trivial⟩, ⟨rfl, trivial⟩, ⟨b29, by rw [hfo.1] at ou; exact Own.mono ou b28.size⟩⟩
          · rintro u w5 ⟨b5, hO⟩
            have hhl : (hearP ps n d).length = ps.length := foldL_len _ _
            have hlt5 := World.ownsRow.lt hO
            obtain ⟨A5, c5, rfl, -, -, -, -⟩ := OwnK.form hO
            have hB5 := hB4.keep b5
            have hW5 := hW1.keep b5
            have s4 := b4w.size
            refine v_seq ?_
            refine v_region ?_
            refine vl_val (os_move rfl) ?_
            refine vl_val (os_move rfl) ?_
            refine vl_val (os_nilCheck rfl) ?_
            refine vl_val (os_fa (o := 2) (k := 0) (by kernel_rfl) rfl) ?_
            refine vl_unit (ou_store Try.sizeOf40 rfl rfl rfl (hW5.cell (i := 2) rfl) (hW5.free _)) ?_
            have hW6 := hW5.set 2 (.slice A5 (hearP ps n d).length c5)
            have hB6 := Bk.setOther hB5 (show r ≠ w.heap.size by omega) (0 + 2) (.slice A5 (hearP ps n d).length c5)
            refine vl_nil ?_
            refine v_seq ?_
            refine v_region ?_
            refine vl_val (os_move rfl) ?_
            refine vl_val (os_fa (o := 1) (k := 0) (by kernel_rfl) rfl) ?_
            refine vl_val (os_load Try.isAgg3 rfl (hB6.cell (i := 1) rfl)) ?_
            refine vl_val (os_nilCheck rfl) ?_
            refine vl_val (os_fa (o := 3) (k := 0) (by kernel_rfl) rfl) ?_
            refine vl_unit (ou_store Try.sizeOf3 rfl rfl rfl (hW6.cell (i := 3) rfl) (hW6.free _)) ?_
            have hW7 := hW6.set 3 (.int .i64 d.sq)
            have b5w := b4w.trans (b5.mono b4w.size)
            have k7 : Kb [r] w ((w5.setCell ⟨r, 0 + 2, none⟩ (.slice A5 (hearP ps n d).length c5)).setCell ⟨r, 0 + 3, none⟩ (.int .i64 d.sq)) := (Kb.of_below (S := [r]) b5w).trans ((Kb.set (S := [r]) (by simp) _ _).trans (Kb.set (S := [r]) (by simp) _ _) (fun k hk => .inl hk)) (fun k hk => .inl hk)
            have k57 : Kb [r] w5 ((w5.setCell ⟨r, 0 + 2, none⟩ (.slice A5 (hearP ps n d).length c5)).setCell ⟨r, 0 + 3, none⟩ (.int .i64 d.sq)) := (Kb.set (S := [r]) (by simp) _ _).trans (Kb.set (S := [r]) (by simp) _ _) (fun k hk => .inl hk)
            have hne : ∀ k, (Value.slice A5 (hearP ps n d).length c5).ownBlock = some k → k ∉ [r] := fun k hk => by have := (hlt5 k hk).1; simp; omega
            refine vl_nil ?_
            refine v_seq ?_
            refine v_region ?_
            refine vl_val (os_assign rfl) ?_
            refine vl_nil ?_
            refine v_ret ?_
            exact post_ret rfl rfl (⟨by rw [hw0], k7.below (Below.refl _ _) (fun k hk => by simp at hk; omega) hBw, k7, fun h => absurd hw0 h, fun _ => ⟨_, ⟨hW7, Own.mono (Own.kb hO k57 hne) (by omega), fun e => hne r e (by simp), by rw [hhl]; exact hl, hn, foldL_row hG.row (saysL_row (by omega)) (by rw [saysL_len]; omega), hlo⟩, fun k hk => by have := (hlt5 k hk).1; omega⟩⟩)
end Go.Proofs.Ytpjmiafefammkaa

/- The law's kit: lists are written over, their spare room too. -/
namespace Go.Proofs.Ytpjmiafefammkaa
open Go.RowKit
set_option linter.unusedVariables false

theorem Own.stretch {w : World} {B : Nat} {t : TypeId} {g n c m : Nat} {cs : List Value} (h : Own w B t (.slice (some ⟨g, 0, none⟩) n c) cs) (hm : m ≤ c) : ∃ ds, ds.length = m ∧ Own w B t (.slice (some ⟨g, 0, none⟩) m c) ds := by
  rcases h.2 with ⟨h1, _⟩ | ⟨g', cap, cur, h1, hB, hg, hnc, hcm, hs, ht⟩
  · cases h1
  · cases h1
    have hl : (cur.toList.take m).length = m := by rw [List.length_take, Array.length_toList, hs]; omega
    exact ⟨cur.toList.take m, hl, by simp, .inr ⟨g, c, cur, by rw [hl], hB, hg, by omega, hcm, hs, by rw [hl]; simp⟩⟩
theorem kit_OverInts (v : Value) (B : Nat) (cs : List Value) (w : World) (ho : Own w B 3 v cs) (hl : cs.length ≤ 100000000) : Gives Try.prog 28 #[v] w fun u w' => Kb v.ownBlock.toList w w' := by
  obtain ⟨A, c, rfl, hc, hm, _⟩ := ho.form
  obtain ⟨m, hmin⟩ : ∃ m : Nat, min (c : Int) ((cs.length : Int) + 12) = m := ⟨min c (cs.length + 12), by omega⟩
  have hmc : m ≤ c := by omega
  have hst : 0 < m → ∃ g ds, A = some ⟨g, 0, none⟩ ∧ ds.length = m ∧ Own w B 3 (.slice (some ⟨g, 0, none⟩) m c) ds := fun h0 => by
    have ho' := ho
    rcases ho'.2 with ⟨h1, _⟩ | ⟨g, cap, cur, h1, _⟩
    · injection h1 with _ _ h2; omega
    · injection h1 with h2 _ h3; subst h2; subst h3
      obtain ⟨ds, h2, h3⟩ := Own.stretch ho hmc
      exact ⟨g, ds, rfl, h2, h3⟩
  refine gives_enter Try.call28 Try.func28 rfl rfl rfl (by kernel_rfl) ?_
  refine v_seq ?_
  refine v_region ?_
  refine vl_val (os_move rfl) ?_
  refine vl_val (os_move rfl) ?_
  refine vl_val (os_cap Try.underlying40 rfl) ?_
  refine vl_val (os_move rfl) ?_
  refine vl_val (os_len Try.underlying40 rfl) ?_
  refine vl_val (os_addi rfl rfl (by omega)) ?_
  refine vl_val (os_min rfl rfl) ?_
  refine vl_val (os_slice_h Try.underlying40 Try.sizeOf3 rfl rfl (h := m) (by omega) (by omega)) ?_
  refine vl_val (os_assign rfl) ?_
  refine vl_nil ?_
  refine v_seq ?_
  refine v_region ?_
  refine vl_val (os_assign rfl) ?_
  refine vl_nil ?_
  refine v_block ?_
  refine v_loop [(2, _)] (fun (i : Nat) => [(3, .int .i64 i)]) (fun i w' => i ≤ m ∧ Kb (Value.slice A cs.length c).ownBlock.toList w w' ∧ (0 < m → ∃ g ds, A = some ⟨g, 0, none⟩ ∧ ds.length = m ∧ Own w' B 3 (.slice (some ⟨g, 0, none⟩) m c) ds)) (fun i => m - i) (0) ⟨rfl, trivial⟩ ⟨rfl, trivial⟩ (⟨by omega, Kb.refl _ _, hst⟩) ?_
  rintro i w' ⟨hi, hk, hs⟩
  refine v_seq ?_
  refine v_seq ?_
  refine v_region ?_
  refine vl_val (os_move rfl) ?_
  refine vl_val (os_move rfl) ?_
  refine vl_val (os_len Try.underlying40 rfl) ?_
  refine vl_val (os_lss rfl rfl) ?_
  refine vl_nil ?_
  refine v_cond_d rfl (fun h => ?_) (fun h => ?_)
  · obtain ⟨g, ds, rfl, hd, ho'⟩ := hs (by omega)
    refine v_skip ?_
    refine v_seq ?_
    refine v_block ?_
    refine v_region ?_
    refine vl_val (os_move rfl) ?_
    refine vl_val (os_move rfl) ?_
    refine vl_val (os_move rfl) ?_
    refine vl_call (kit_mark 2 i w' (by omega) (by omega)) rfl ?_
    rintro v1 w' ⟨rfl, rfl⟩
    refine vl_val (os_ix Try.underlying40 Try.sizeOf3 rfl rfl (i := i) (by omega) (by omega)) ?_
    refine vl_unit (ou_store Try.sizeOf3 rfl rfl rfl ((by rw [Nat.zero_add, Own.cell ho' (i := i) (by omega)])) ((Own.free ho' _))) ?_
    refine vl_nil ?_
    refine v_region ?_
    refine vl_val (os_move rfl) ?_
    refine vl_val (os_addi rfl rfl (by omega)) ?_
    refine vl_val (os_assign rfl) ?_
    refine vl_nil ?_
    exact ⟨i + 1, ⟨rfl, trivial⟩, ⟨rfl, trivial⟩, ⟨by omega, hk.trans (Kb.set (S := [g]) (by simp) _ _) (fun k hk => .inl (by simpa [Value.ownBlock] using hk)), fun _ => ⟨g, ds.set (0 + i) _, rfl, by simpa using hd, Own.set ho' _ _⟩⟩, by dsimp only; omega⟩
  · refine v_exit ?_
    exact post_end0 rfl (hk)
end Go.Proofs.Ytpjmiafefammkaa

/- The law's kit: reports that are lent; whether they are still as they were; lists of counts, written over, their spare room too. -/
namespace Go.Proofs.Ytpjmiafefammkaa
open Go.RowKit
set_option linter.unusedVariables false

section
variable {P : Program} {n : Cx} {fr : Fr} {w : World} {ty : TypeId} {x y : Operand} {T : TypeId}
/-- a struct of two cells is written in a block's midst -/
theorem ou_store2 {g o : Nat} {a b : Value} {cs : List Value} {t : TypeId} (hs : (P.info? T).map (·.size) = some 2) (hx : Fr.ev fr x = some (.pointer (some ⟨g, o, none⟩))) (hy : Fr.ev fr y = some (.agg #[a, b])) (hg : Bk w g cs t) (hl : o + 2 ≤ cs.length) (h1 : a.oneCell' = true) (h2 : b.oneCell' = true) :
    OU P n (.store T x y) ty fr w ((w.setCell ⟨g, o, none⟩ a).setCell ⟨g, o + 1, none⟩ b) := by
  have ht : w.there g o (#[a, b] : Array Value).size := fun j hj => ⟨by
    have hj : o + j < cs.length := by simp at hj; omega
    have := cell_of_row w g (o + j) cs.toArray t (0, 0) hg
    rw [this]; simp [hj], by have := hg.free (o + j); simpa using this⟩
  have h3 := run_storeAt_mid (P := P) w g o T #[a, b] ht hs (by simp [h1, h2])
  unfold OU
  intro a' ha
  simp [execOp, ha.ev hx, ha.ev hy, h3, World.setCells]
/-- two structs of two integers each, held apart -/
theorem os_neqS2 {T2 : TypeId} {tI : TypeId} {x1 x2 y1 y2 : Int} (hg : P.eqGuardType P.depth T = false) (hu : P.underlying T = some (.struct (P.fieldsOf T))) (hp : P.stoodInHeld T = false)
    (hf : (P.fieldsOf T).toList.map (fun f => (f.name == "_", f.type, f.offset)) = [(false, tI, 0), (false, tI, 1)]) (hI : P.underlying tI = some (.int .i64)) (hA : ∀ w, (isAgg tI).run P w = .ok false w)
    (hx : Fr.ev fr x = some (.agg #[.int .i64 x1, .int .i64 x2])) (hy : Fr.ev fr y = some (.agg #[.int .i64 y1, .int .i64 y2])) :
    OS P n (.binOp .neq T x y T2) ty fr w (.bool (decide (¬ (x1 = y1 ∧ x2 = y2)))) w := os_of fun a ha => by
  have h1 := run_eqGuard_agg (P := P) w .neq T x y #[.int .i64 x1, .int .i64 x2] #[.int .i64 y1, .int .i64 y2] hg
  have h2 : (Op.equalIn 10000 T (.agg #[.int .i64 x1, .int .i64 x2]) (.agg #[.int .i64 y1, .int .i64 y2])).run P w = .ok (decide (x1 = y1 ∧ x2 = y2)) w := by
    exact run_eqS2 9998 hu hp hf hI hA
  have h3 := run_neq_struct (P := P) w T #[.int .i64 x1, .int .i64 x2] #[.int .i64 y1, .int .i64 y2]
  rw [h2] at h3
  simp [execOp, ha.ev hx, ha.ev hy, h1, h3, Result.andThen, -not_and]
end

theorem kit_OverCounts (A : Option Addr) (n c : Nat) (w : World) (hn : n ≤ c) (hc : n ≤ 1000000000) (hA : 0 < c → ∃ g cs, A = some ⟨g, 0, none⟩ ∧ Bk w g cs 49 ∧ cs.length = c * 2) (hm : c ≤ maxLen) :
    Gives Try.prog 24 #[.slice A n c] w fun u w' => Kb (Value.slice A n c).ownBlock.toList w w' := by
  obtain ⟨m, hmin⟩ : ∃ m : Nat, min (c : Int) ((n : Int) + 12) = m := ⟨min c (n + 12), by omega⟩
  have hmc : m ≤ c := by omega
  refine gives_enter Try.call24 Try.func24 rfl rfl rfl (by kernel_rfl) ?_
  refine v_seq ?_
  refine v_region ?_
  refine vl_val (os_move rfl) ?_
  refine vl_val (os_move rfl) ?_
  refine vl_val (os_cap Try.underlying33 rfl) ?_
  refine vl_val (os_move rfl) ?_
  refine vl_val (os_len Try.underlying33 rfl) ?_
  refine vl_val (os_addi rfl rfl (by omega)) ?_
  refine vl_val (os_min rfl rfl) ?_
  refine vl_val (os_slice_h Try.underlying33 Try.sizeOf49 rfl rfl (h := m) (by omega) (by omega)) ?_
  refine vl_val (os_assign rfl) ?_
  refine vl_nil ?_
  refine v_seq ?_
  refine v_region ?_
  refine vl_val (os_assign rfl) ?_
  refine vl_nil ?_
  refine v_block ?_
  refine v_loop [(2, _)] (fun (i : Nat) => [(3, .int .i64 i)]) (fun i w' => i ≤ m ∧ Kb (Value.slice A n c).ownBlock.toList w w' ∧ (0 < c → ∃ g cs, A = some ⟨g, 0, none⟩ ∧ Bk w' g cs 49 ∧ cs.length = c * 2)) (fun i => m - i) (0) ⟨rfl, trivial⟩ ⟨rfl, trivial⟩ (⟨by omega, Kb.refl _ _, hA⟩) ?_
  rintro i w' ⟨hi, hk, hs⟩
  refine v_seq ?_
  refine v_seq ?_
  refine v_region ?_
  refine vl_val (os_move rfl) ?_
  refine vl_val (os_move rfl) ?_
  refine vl_val (os_len Try.underlying33 rfl) ?_
  refine vl_val (os_lss rfl rfl) ?_
  refine vl_nil ?_
  refine v_cond_d rfl (fun h => ?_) (fun h => ?_)
  · obtain ⟨g, cs, rfl, hB, hl⟩ := hs (by omega)
    refine v_skip ?_
    refine v_seq ?_
    refine v_block ?_
    refine v_region ?_
    refine vl_val (os_move rfl) ?_
    refine vl_val (os_move rfl) ?_
    refine vl_val (os_move rfl) ?_
    refine vl_call (kit_markCount 2 i w' (by omega) (by omega)) rfl ?_
    rintro v1 w1 ⟨rfl, b1⟩
    have hB1 := hB.keep b1
    refine vl_val (os_ixs Try.underlying33 Try.sizeOf49 rfl rfl (i := i) (by omega) (by omega)) ?_
    refine vl_unit (ou_store2 (by kernel_rfl) rfl rfl hB1 (by omega) rfl rfl) ?_
    have hB2 := (hB1.set (i * 2) (.int .i64 (markZ 2 i))).set (i * 2 + 1) (.int .i64 0)
    have ksub : ∀ k ∈ [g], k ∈ (Value.slice (some ⟨g, 0, none⟩) n c).ownBlock.toList ∨ w.heap.size ≤ k := fun k hk => .inl (by simpa [Value.ownBlock] using hk)
    have k2 : Kb (Value.slice (some ⟨g, 0, none⟩) n c).ownBlock.toList w ((w1.setCell ⟨g, 0 + i * 2, none⟩ (.int .i64 (markZ 2 i))).setCell ⟨g, 0 + i * 2 + 1, none⟩ (.int .i64 0)) := (hk.trans (Kb.of_below (S := [g]) b1) ksub).trans ((Kb.set (S := [g]) List.mem_cons_self (0 + i * 2) (.int .i64 (markZ 2 i))).trans (Kb.set (S := [g]) List.mem_cons_self (0 + i * 2 + 1) (.int .i64 0)) (fun k hk => .inl hk)) ksub
    refine vl_nil ?_
    refine v_region ?_
    refine vl_val (os_move rfl) ?_
    refine vl_val (os_addi rfl rfl (by omega)) ?_
    refine vl_val (os_assign rfl) ?_
    refine vl_nil ?_
    exact ⟨i + 1, ⟨rfl, trivial⟩, ⟨rfl, trivial⟩, ⟨by omega, k2, fun _ => ⟨g, _, rfl, hB2, by simpa using hl⟩⟩, by dsimp only; omega⟩
  · refine v_exit ?_
    exact post_end0 rfl (hk)
theorem kit_SameCounts (A B : Option Addr) (n m c d : Nat) (xs ys : List (Int × Int)) (w : World) (ha : RdP w 2 A (xs.map rowC)) (hb : RdP w 2 B (ys.map rowC)) (hn : n = xs.length) (hm : m = ys.length) (he : xs = ys) (hn' : n ≤ 9223372036854775807) :
    Gives Try.prog 107 #[.slice A n c, .slice B m d] w fun v w' => v = .bool true ∧ LeD w w' := by
  subst he
  refine gives_enter Try.call107 Try.func107 rfl rfl rfl (by kernel_rfl) ?_
  refine v_seq ?_
  refine v_region ?_
  refine vl_val (os_assign rfl) ?_
  refine vl_nil ?_
  refine v_seq ?_
  refine v_seq ?_
  refine v_region ?_
  refine vl_val (os_move rfl) ?_
  refine vl_val (os_len Try.underlying33 rfl) ?_
  refine vl_val (os_move rfl) ?_
  refine vl_val (os_len Try.underlying33 rfl) ?_
  refine vl_val (os_neq rfl rfl) ?_
  refine vl_nil ?_
  refine v_cond_no rfl (by omega) ?_
  refine v_skip ?_
  refine v_seq ?_
  refine v_seq ?_
  refine v_region ?_
  refine vl_val (os_assign rfl) ?_
  refine vl_nil ?_
  refine v_block ?_
  refine v_loop [(0, _), (1, _)] (fun (k : Nat) => [(5, .int .i64 k)]) (fun k w' => k ≤ n ∧ LeD w w') (fun k => n - k) (0) ⟨rfl, rfl, trivial⟩ ⟨rfl, trivial⟩ (⟨by omega, lee_d.refl _⟩) ?_
  rintro k w' ⟨hk, q, rfl⟩
  refine v_seq ?_
  refine v_seq ?_
  refine v_region ?_
  refine vl_val (os_move rfl) ?_
  refine vl_val (os_move rfl) ?_
  refine vl_val (os_len Try.underlying33 rfl) ?_
  refine vl_val (os_lss rfl rfl) ?_
  refine vl_nil ?_
  refine v_cond_d rfl (fun hlt => ?_) (fun hlt => ?_)
  · obtain ⟨b1, o1, rfl, -, -, c1⟩ := (ha.led ⟨q, rfl⟩).at2 (i := k) (by omega)
    obtain ⟨b2, o2, rfl, -, -, c2⟩ := (hb.led ⟨q, rfl⟩).at2 (i := k) (by omega)
    refine v_skip ?_
    refine v_seq ?_
    refine v_block ?_
    refine v_seq ?_
    refine v_region_t LeD _ mixed (by kernel_rfl) lee_d (led_start _) ?_
    refine vt_val (fun w hw => os_move rfl) ?_
    refine vt_val (fun w hw => os_move rfl) ?_
    refine vt_val (fun w hw => os_ixs Try.underlying33 Try.sizeOf49 rfl rfl (i := k) (by omega) (by omega)) ?_
    refine vt_val (fun w hw => os_loadP Try.underlying49 rfl (by kernel_rfl) rfl (c1.led hw)) ?_
    refine vt_val (fun w hw => os_move rfl) ?_
    refine vt_val (fun w hw => os_move rfl) ?_
    refine vt_val (fun w hw => os_ixs Try.underlying33 Try.sizeOf49 rfl rfl (i := k) (by omega) (by omega)) ?_
    refine vt_val (fun w hw => os_loadP Try.underlying49 rfl (by kernel_rfl) rfl (c2.led hw)) ?_
    refine vt_val (fun w hw => os_f (os_neqS2 Try.eqGuardType49 (by kernel_rfl) Try.stoodInHeld49 (by kernel_rfl) Try.underlying3 Try.isAgg3 rfl rfl) (by simp)) ?_
    refine vt_nil (fun w hw => ?_)
    obtain ⟨q2, rfl⟩ := hw
    refine v_cond_f rfl ?_
    refine v_skip ?_
    refine v_region ?_
    refine vl_val (os_move rfl) ?_
    refine vl_val (os_addi rfl rfl (by omega)) ?_
    refine vl_val (os_assign rfl) ?_
    refine vl_nil ?_
    exact ⟨k + 1, ⟨rfl, rfl, trivial⟩, ⟨rfl, trivial⟩, ⟨by omega, _, World.drewN_drewN ..⟩, by dsimp only; omega⟩
  · refine v_exit ?_
    refine v_seq ?_
    refine v_region ?_
    refine vl_val (os_assign rfl) ?_
    refine vl_nil ?_
    refine v_ret ?_
    exact post_ret rfl rfl (⟨rfl, _, rfl⟩)
theorem LentW.mono {w B B' t v ps} (h : LentW w B t v ps) (hb : B' ≤ B) : LentW w B' t v ps := by
  obtain ⟨g, C, e, hc, ho⟩ := h
  exact ⟨g, C, e, hc, OwnP.mono ho hb⟩
theorem LentW.kb {w w' B t v ps S} (h : LentW w B t v ps) (hb : Kb S w w') (hS : ∀ g, v.ownBlock = some g → g ∉ S) : LentW w' B t v ps := by
  obtain ⟨g, C, rfl, hc, ho⟩ := h
  exact ⟨g, C, rfl, hc, ho.blk fun k hk => hb.block k (ho.lt k hk).2 (hS k hk)⟩
set_option maxHeartbeats 1000000 in
theorem kit_SameNote (d e : NoteV) (w : World) (hd : NoteOk w d) (he : NoteOk w e) (h1 : d.st = e.st) (h2 : d.sq = e.sq) (h3 : d.n = e.n) (h4 : d.cs = e.cs) : Gives Try.prog 63 #[.agg d.cells.toArray, .agg e.cells.toArray] w fun v w' => v = .bool true ∧ Below w.heap.size w w' := by
  have hA0 := bk_new w d.cells 35
  have hb0 : Below w.heap.size w (w.alloc (.cells d.cells.toArray 35)) := (Below.refl _ w).alloc (Nat.le_refl _) _
  have hA := hA0.alloc (.cells e.cells.toArray 35)
  have hB := bk_new (w.alloc (.cells d.cells.toArray 35)) e.cells 35
  have hb1 := hb0.alloc hb0.size (.cells e.cells.toArray 35)
  have hd1 := hd.keep hb1
  have he1 := he.keep hb1
  have l1 := hd.2.1
  have l2 := he.2.1
  have l3 := hd.2.2.1
  refine gives_enter Try.call63 Try.func63 rfl rfl rfl (by kernel_rfl) ?_
  refine v_seq ?_
  refine v_region ?_
  refine vl_val (os_box rfl) ?_
  refine vl_val (os_box rfl) ?_
  refine vl_val (os_assign rfl) ?_
  refine vl_nil ?_
  refine v_seq ?_
  refine v_region ?_
  refine vl_val (os_fa (o := 0) (k := 0) (by kernel_rfl) rfl) ?_
  refine vl_val (os_load Try.isAgg3 rfl (hA.cell (i := 0) rfl)) ?_
  refine vl_val (os_fa (o := 0) (k := 0) (by kernel_rfl) rfl) ?_
  refine vl_val (os_load Try.isAgg3 rfl (hB.cell (i := 0) rfl)) ?_
  refine vl_val (os_t (os_eql rfl rfl) (h1)) ?_
  refine vl_val (os_move rfl) ?_
  refine vl_valg rfl (os_fa (o := 1) (k := 0) (by kernel_rfl) rfl) ?_
  refine vl_valg rfl (os_load Try.isAgg3 rfl (hA.cell (i := 1) rfl)) ?_
  refine vl_valg rfl (os_fa (o := 1) (k := 0) (by kernel_rfl) rfl) ?_
  refine vl_valg rfl (os_load Try.isAgg3 rfl (hB.cell (i := 1) rfl)) ?_
  refine vl_valg rfl (os_t (os_eql rfl rfl) (h2)) ?_
  refine vl_val (os_pick_t rfl rfl) ?_
  refine vl_val (os_move rfl) ?_
  refine vl_valg rfl (os_fa (o := 2) (k := 0) (by kernel_rfl) rfl) ?_
  refine vl_valg rfl (os_load Try.isAgg3 rfl (hA.cell (i := 2) rfl)) ?_
  refine vl_valg rfl (os_fa (o := 2) (k := 0) (by kernel_rfl) rfl) ?_
  refine vl_valg rfl (os_load Try.isAgg3 rfl (hB.cell (i := 2) rfl)) ?_
  refine vl_valg rfl (os_t (os_eql rfl rfl) (h3)) ?_
  refine vl_val (os_pick_t rfl rfl) ?_
  refine vl_val (os_move rfl) ?_
  refine vl_valg rfl (os_fa (o := 3) (k := 0) (by kernel_rfl) rfl) ?_
  refine vl_valg rfl (os_load Try.isAgg33 rfl (hA.cell (i := 3) rfl)) ?_
  refine vl_valg rfl (os_fa (o := 3) (k := 0) (by kernel_rfl) rfl) ?_
  refine vl_valg rfl (os_load Try.isAgg33 rfl (hB.cell (i := 3) rfl)) ?_
  refine vl_callg rfl (kit_SameCounts d.A e.A d.l e.l d.c e.c d.cs e.cs _ hd1.1 he1.1 l1 l2 h4 (by omega)) rfl ?_
  rintro v1 w1 ⟨rfl, b1⟩
  refine vl_val (os_pick_t rfl rfl) ?_
  refine vl_val (os_assign rfl) ?_
  refine vl_nil ?_
  refine v_ret ?_
  exact post_ret rfl rfl (⟨rfl, hb1.trans ((led_below b1).mono hb1.size)⟩)
set_option maxHeartbeats 1000000 in
theorem kit_KeptNote (d e : NoteV) (B : Nat) (w : World) (hv : LentW w B 49 (.slice d.A d.l d.c) e.cs) (hd : NoteOk w d) (he : NoteOk w e) (h1 : d.st = e.st) (h2 : d.sq = e.sq) (h3 : d.n = e.n) (h4 : d.cs = e.cs) (h5 : d.l ≤ 100000000) : Gives Try.prog 23 #[.agg d.cells.toArray, .agg e.cells.toArray] w fun v w' => v = .bool true ∧ Below w.heap.size w w' := by
  have hA0 := bk_new w d.cells 35
  have hb0 : Below w.heap.size w (w.alloc (.cells d.cells.toArray 35)) := (Below.refl _ w).alloc (Nat.le_refl _) _
  have hA := hA0.alloc (.cells e.cells.toArray 35)
  have hB := bk_new (w.alloc (.cells d.cells.toArray 35)) e.cells 35
  have hb1 := hb0.alloc hb0.size (.cells e.cells.toArray 35)
  have hd1 := hd.keep hb1
  have he1 := he.keep hb1
  have hv1 := hv.keep hb1
  have l1 := hd.2.1
  have l2 := he.2.1
  refine gives_enter Try.call23 Try.func23 rfl rfl rfl (by kernel_rfl) ?_
  refine v_seq ?_
  refine v_region ?_
  refine vl_val (os_box rfl) ?_
  refine vl_val (os_box rfl) ?_
  refine vl_val (os_assign rfl) ?_
  refine vl_nil ?_
  refine v_seq ?_
  refine v_region ?_
  refine vl_val (os_loadB Try.underlying35 rfl (by kernel_rfl) rfl (hA)) ?_
  refine vl_val (os_loadB Try.underlying35 rfl (by kernel_rfl) rfl (hB)) ?_
  refine vl_call (kit_SameNote d e _ hd1 he1 h1 h2 h3 h4) rfl ?_
  rintro v1 w1 ⟨rfl, b1⟩
  refine vl_val (os_move rfl) ?_
  refine vl_valg rfl (os_fa (o := 3) (k := 0) (by kernel_rfl) rfl) ?_
  refine vl_valg rfl (os_load Try.isAgg33 rfl ((hA.keep b1).cell (i := 3) rfl)) ?_
  refine vl_valg rfl (os_fa (o := 3) (k := 0) (by kernel_rfl) rfl) ?_
  refine vl_valg rfl (os_load Try.isAgg33 rfl ((hB.keep b1).cell (i := 3) rfl)) ?_
  refine vl_callg rfl (kit_KeptCounts (.slice d.A d.l d.c) B e.A e.l e.c e.cs _ (hv1.keep b1) (he1.keep b1).1 l2 (by rw [l2, ← h4, ← l1]; exact h5)) rfl ?_
  rintro v2 w2 ⟨rfl, b2⟩
  have b12 := hb1.trans (b1.mono hb1.size)
  refine vl_val (os_pick_t rfl rfl) ?_
  refine vl_val (os_assign rfl) ?_
  refine vl_nil ?_
  refine v_ret ?_
  exact post_ret rfl rfl (⟨rfl, b12.trans (b2.mono b12.size)⟩)
/-- a report that the kit has lent -/
def lentN (d : NoteV) (g C : Nat) : NoteV := ⟨d.st, d.sq, d.n, some ⟨g, 0, none⟩, d.cs.length, C, d.cs⟩
set_option maxHeartbeats 1000000 in
theorem kit_LentNote (d : NoteV) (w : World) (hd : NoteOk w d) (hl : d.l ≤ 100000000) : Gives Try.prog 20 #[.agg d.cells.toArray] w fun v w' => ∃ g C, v = .agg (lentN d g C).cells.toArray ∧ LentW w' w.heap.size 49 (.slice (some ⟨g, 0, none⟩) d.cs.length C) d.cs ∧ NoteOk w' (lentN d g C) ∧ Below w.heap.size w w' := by
  have hA0 := bk_new w d.cells 35
  have hb0 : Below w.heap.size w (w.alloc (.cells d.cells.toArray 35)) := (Below.refl _ w).alloc (Nat.le_refl _) _
  have hA := hA0.alloc (.cells [Value.int .i64 0, .int .i64 0, .int .i64 0, .slice none 0 0].toArray 35)
  have hB := bk_new (w.alloc (.cells d.cells.toArray 35)) [.int .i64 0, .int .i64 0, .int .i64 0, .slice none 0 0] 35
  have hb1 := hb0.alloc hb0.size (.cells [Value.int .i64 0, .int .i64 0, .int .i64 0, .slice none 0 0].toArray 35)
  have hd1 := hd.keep hb1
  have l1 := hd.2.1
  refine gives_enter Try.call20 Try.func20 rfl rfl rfl (by kernel_rfl) ?_
  refine v_seq ?_
  refine v_region ?_
  refine vl_val (os_box rfl) ?_
  refine vl_val (os_allocB Try.zeroValue35 (zc := _) (cs := [.int .i64 0, .int .i64 0, .int .i64 0, .slice none 0 0]) rfl) ?_
  simp only [World.size_alloc]
  refine vl_nil ?_
  refine v_seq ?_
  refine v_region ?_
  refine vl_val (os_fa (o := 3) (k := 0) (by kernel_rfl) rfl) ?_
  refine vl_val (os_load Try.isAgg33 rfl (hA.cell (i := 3) rfl)) ?_
  refine vl_call (kit_LentCounts d.A d.l d.c d.cs _ hd1.1 l1 hl) rfl ?_
  rintro v1 w1 ⟨hL, b1⟩
  have hL0 := hL
  obtain ⟨g, C, rfl, hC, hg1, hg2, hr⟩ := hL0.form
  have hA1 := hA.keep b1
  have hB1 := hB.keep b1
  simp only [World.size_alloc] at hA1 hB1 hL hg1 b1 hb1
  refine vl_val (os_fa (o := 3) (k := 0) (by kernel_rfl) rfl) ?_
  refine vl_unit (ou_store Try.sizeOf33 rfl rfl rfl (hA1.cell (i := 3) rfl) (hA1.free _)) ?_
  have hA2 := hA1.set 3 (.slice (some ⟨g, 0, none⟩) d.cs.length C)
  have hB2 := Bk.setOther hB1 (show w.heap.size ≠ w.heap.size + 1 by omega) (0 + 3) (.slice (some ⟨g, 0, none⟩) d.cs.length C)
  refine vl_nil ?_
  refine v_seq ?_
  refine v_region ?_
  refine vl_val (os_loadB Try.underlying35 rfl (by kernel_rfl) rfl (hA2)) ?_
  refine vl_unit (ou_storeB (by kernel_rfl) rfl rfl hB2 rfl rfl) ?_
  have hB3 := setRow_bk hB2 [.int .i64 d.st, .int .i64 d.sq, .int .i64 d.n, .slice (some ⟨g, 0, none⟩) d.cs.length C]
  have k3 : Kb [w.heap.size, w.heap.size + 1] w1 ((w1.setCell ⟨w.heap.size, 0 + 3, none⟩ (.slice (some ⟨g, 0, none⟩) d.cs.length C)).setRow (w.heap.size + 1) [Value.int .i64 d.st, .int .i64 d.sq, .int .i64 d.n, .slice (some ⟨g, 0, none⟩) d.cs.length C].toArray) := (Kb.set (S := [w.heap.size, w.heap.size + 1]) (by simp) (0 + 3) _).trans (Kb.setRow (S := [w.heap.size, w.heap.size + 1]) (by simp) _) (fun k hk => .inl hk)
  have hL3 := hL.kb k3 (fun k hk => by cases hk; simp; omega)
  have b3 := Kb.below k3 (hb1.trans (b1.mono (by omega))) (fun k hk => by simp at hk; omega) (by omega)
  have hN : NoteOk _ (lentN d g C) := ⟨by obtain ⟨g', C', e', _, _, _, hr'⟩ := hL3.form; cases e'; exact hr', rfl, by show d.cs.length ≤ _; omega, hd.2.2.2.1, hd.2.2.2.2⟩
  refine vl_nil ?_
  refine v_ret ?_
  exact post_cell rfl rfl Try.underlying35 rfl (by kernel_rfl) hB3 ⟨g, C, rfl, hL3.mono (by omega), hN, b3⟩
end Go.Proofs.Ytpjmiafefammkaa
