/- The law's kit: lists of lists that are lent, whether they are still as they were. -/
import Derived.Test.YtpojijnjdlnokaaKitL
import Derived.Test.YtpojijnjdlnokaaCrc
import Derived.Test.YtpojijnjdlnokaaFlE
namespace Go.Proofs.Ytpojijnjdlnokaa
open Go.RowKit
set_option linter.unusedVariables false

theorem Lent.led {w w' B t k f v zs} (h : Lent w B t k f v zs) (hb : LeD w w') : Lent w' B t k f v zs := by
  obtain ⟨g, C, e, hc, ho⟩ := h
  exact ⟨g, C, e, hc, Own.led ho hb⟩
theorem Lent.mono {w B B' t k f v zs} (h : Lent w B t k f v zs) (hb : B' ≤ B) : Lent w B' t k f v zs := by
  obtain ⟨g, C, e, hc, ho⟩ := h
  exact ⟨g, C, e, hc, Own.mono ho hb⟩
theorem Lent.grown {w w' B t k f v zs row} (h : Lent w B t k f v zs) (hb : w.grownBy w' row) (hr : ∀ g, v.ownBlock = some g → row ≠ some g) : Lent w' B t k f v zs := by
  obtain ⟨g, C, rfl, hc, ho⟩ := h
  exact ⟨g, C, rfl, hc, Own.kb ho (Kb.grown (S := row.toList) hb (fun k hk => by simp [hk])) (fun g' e e2 => hr g' e (by simpa using e2))⟩
theorem Lent.one {w B t k f v zs} (h : Lent w B t k f v zs) : v.oneCell' = true := by
  obtain ⟨g, C, rfl, hc, ho⟩ := h; rfl
theorem Lent.blk {w B t k f v zs} (h : Lent w B t k f v zs) {g : Nat} (hg : v.ownBlock = some g) : B ≤ g ∧ g < w.heap.size := by
  obtain ⟨g', C, rfl, hc, ho⟩ := h
  exact World.ownsRow.lt ho g (by simpa [Value.ownBlock] using hg)

/-- v is a list of lists that the kit has lent: a row of its own of such -/
structure LentS (w : World) (B : Nat) (t e : TypeId) (k : IntKind) (f : Int → Int → Int) (v : Value) (ls : List (List Int)) (us : List Value) : Prop where
  own : Own w B t v us
  len : us.length = ls.length
  each : ∀ (i : Nat) (u : Value), us[i]? = some u → Lent w B e k f u (ls.getD i [])
  sep : ∀ (i : Nat) (u : Value), us[i]? = some u → ∀ g, u.ownBlock = some g → v.ownBlock ≠ some g
theorem LentS.keep {w w' B t e k f v ls us} (h : LentS w B t e k f v ls us) (hb : Below w.heap.size w w') : LentS w' B t e k f v ls us :=
  ⟨Own.keepAll h.own hb, h.len, fun i u hu => (h.each i u hu).keep hb, h.sep⟩
theorem LentS.led {w w' B t e k f v ls us} (h : LentS w B t e k f v ls us) (hb : LeD w w') : LentS w' B t e k f v ls us :=
  ⟨Own.led h.own hb, h.len, fun i u hu => (h.each i u hu).led hb, h.sep⟩
theorem LentS.rds {w B t e k f v ls us} (h : LentS w B t e k f v ls us) {A : Option Addr} {n c : Nat} (hv : v = .slice A n c) (hl : ∀ l ∈ ls, l.length ≤ 140737488351232) : RdS w k A ls := fun h0 => by
  subst hv
  obtain ⟨A', c', e', _, _, hr, _⟩ := Own.form h.own
  cases e'
  obtain ⟨b, o, rfl, hc⟩ := hr (by rw [h.len]; exact h0)
  refine ⟨b, o, rfl, fun i hi => ?_⟩
  have hi' : i < us.length := by rw [h.len]; exact hi
  have h1 := h.each i us[i] (List.getElem?_eq_getElem hi')
  obtain ⟨g, C, h2, h3, h4, h5, h6, h7⟩ := h1.form
  refine ⟨some ⟨g, 0, none⟩, C, by rw [hc i hi', List.getElem?_eq_getElem hi', h2], h7, by omega, ?_⟩
  have e2 : ls.getD i [] = ls[i] := by simp [hi]
  rw [e2]
  exact hl _ (List.getElem_mem _)
theorem LentS.push {w1 w2 w5 B t e k f v v5 ls us u l} (hL : LentS w1 B t e k f v ls us) (hu : Lent w2 w1.heap.size e k f u l) (hb : Below w1.heap.size w1 w2) (hB : B ≤ w1.heap.size) (o : Obj) (ho : Own w5 B t v5 (us ++ [u]))
    (hg : (w2.alloc o).grownBy w5 v.ownBlock) (ha : v5.ownBlock = v.ownBlock ∨ v5.ownBlock = some (w2.alloc o).heap.size) : LentS w5 B t e k f v5 (ls ++ [l]) (us ++ [u]) := by
  have hal : Below w2.heap.size w2 (w2.alloc o) := (Below.refl _ _).alloc (Nat.le_refl _) _
  have hs := hb.size
  have key : ∀ (i : Nat) (x : Value), (us ++ [u])[i]? = some x → (us[i]? = some x ∧ i < us.length) ∨ (i = us.length ∧ x = u) := fun i x hx => by
    by_cases hi : i < us.length
    · rw [List.getElem?_append_left hi] at hx; exact .inl ⟨hx, hi⟩
    · rw [List.getElem?_append_right (by omega)] at hx
      have h1 := (List.getElem?_eq_some_iff.1 hx).1
      have h2 : i - us.length = 0 := by simpa using h1
      rw [h2] at hx
      exact .inr ⟨by omega, by simpa using hx.symm⟩
  have hv : ∀ g, v.ownBlock = some g → g < w1.heap.size := fun g hg' => (World.ownsRow.lt hL.own g hg').2
  refine ⟨ho, by simp [hL.len], fun i x hx => ?_, fun i x hx g hxg => ?_⟩
  · rcases key i x hx with ⟨h1, h2⟩ | ⟨rfl, rfl⟩
    · rw [show (ls ++ [l]).getD i [] = ls.getD i [] by simp [List.getElem?_append, show i < ls.length by rw [← hL.len]; exact h2]]
      exact (((hL.each i x h1).keep hb).keep hal).grown hg fun g e e2 => hL.sep i x h1 g e e2
    · rw [show (ls ++ [l]).getD us.length [] = l by rw [hL.len]; simp]
      exact ((hu.keep hal).grown hg fun g e e2 => by have := hv g e2; have := (hu.blk e).1; omega).mono hB
  · rcases key i x hx with ⟨h1, h2⟩ | ⟨rfl, rfl⟩
    · have h3 := ((hL.each i x h1).blk hxg).2
      rcases ha with h | h
      · rw [h]; exact hL.sep i x h1 g hxg
      · rw [h]; simp; omega
    · have h3 := hu.blk hxg
      rcases ha with h | h
      · rw [h]; intro e2; have := hv g e2; omega
      · rw [h]; simp; omega

set_option maxHeartbeats 1000000 in
theorem kit_LentRows (A : Option Addr) (n c : Nat) (ls : List (List Int)) (w : World) (ha : RdS w .u8 A ls) (hn : n = ls.length) (hn1 : n ≤ 100000) (hl : ∀ l ∈ ls, l.length ≤ 10000000) :
    Gives Try.prog 13 #[.slice A n c] w fun v w' => (∃ us, LentS w' w.heap.size 22 5 .u8 markB v ls us) ∧ Below w.heap.size w w' := by
  refine gives_enter Try.call13 Try.func13 rfl rfl rfl (by kernel_rfl) ?_
  refine v_seq ?_
  refine v_region ?_
  refine vl_val (os_assign rfl) ?_
  refine vl_nil ?_
  refine v_seq ?_
  refine v_region ?_
  refine vl_val (os_assign rfl) ?_
  refine vl_nil ?_
  refine v_seq ?_
  refine v_seq ?_
  refine v_region ?_
  refine vl_val (os_assign rfl) ?_
  refine vl_nil ?_
  refine v_block ?_
  refine v_loop2 [(0, _)] (fun (v : Value) (k : Nat) => [(3, v), (4, .int .i64 k)]) (fun v k w' => k ≤ n ∧ (∃ us, LentS w' w.heap.size 22 5 .u8 markB v (ls.take k) us) ∧ Below w.heap.size w w') (fun v k => n - k) (.slice none 0 0) (0) ⟨rfl, trivial⟩ ⟨rfl, rfl, trivial⟩ (⟨by omega, ⟨[], Own.nil _ _ _, by simp, fun i u hu => by simp at hu, fun i u hu => by simp at hu⟩, Below.refl _ _⟩) ?_
  rintro v k w' ⟨hk, ⟨us, hL⟩, hb⟩
  refine v_seq ?_
  refine v_seq ?_
  refine v_region ?_
  refine vl_val (os_move rfl) ?_
  refine vl_val (os_move rfl) ?_
  refine vl_val (os_len Try.underlying23 rfl) ?_
  refine vl_val (os_lss rfl rfl) ?_
  refine vl_nil ?_
  refine v_cond_d rfl (fun h => ?_) (fun h => ?_)
  · obtain ⟨b, o, Ai, ci, rfl, h1, h2, h3, h4⟩ := (ha.keep hb).at_ (i := k) (by omega)
    have hlk := hl (ls.getD k []) (by simp [show k < ls.length by omega])
    refine v_skip ?_
    refine v_seq ?_
    refine v_block ?_
    refine v_region ?_
    refine vl_val (os_move rfl) ?_
    refine vl_val (os_move rfl) ?_
    refine vl_val (os_move rfl) ?_
    refine vl_val (os_ix Try.underlying23 Try.sizeOf22 rfl rfl (i := k) (by omega) (by omega)) ?_
    refine vl_val (os_load Try.isAgg22 rfl (h1)) ?_
    refine vl_call (kit_LentBytes Ai _ ci _ w' h2 rfl (by omega)) rfl ?_
    rintro u2 w2 ⟨hu2, hb2⟩
    have hL2 := hL.keep hb2
    have ha2 : Below w2.heap.size w2 (w2.alloc (.cells [u2].toArray 22)) := (Below.refl _ _).alloc (Nat.le_refl _) _
    have hb3 : Below w.heap.size w w2 := hb.trans (hb2.mono hb.size)
    have hL3 := hL2.keep ha2
    have hlen : us.length = k := by rw [hL.len, List.length_take]; omega
    refine vl_val (os_lit Try.underlying23 Try.sizeOf22 Try.zeroValue22 rfl rfl rfl (by simp [oneCells, hu2.one]) (by decide)) ?_
    refine vl_some (ot_append_at Try.underlying23 ti_lBytes rfl rfl rfl hL3.own (rdc_alloc w2 [u2] _) rfl (by intro u hu; rw [List.mem_singleton.1 hu]; exact hu2.one) (by omega) (by simp [maxLen]; omega) (by have := hb3.size; simp; omega)) ?_
    rintro v5 w5 ⟨ho5, hg5, ha5⟩
    have hb5 := Own.below (hb3.alloc hb3.size (.cells [u2].toArray 22)) hL3.own hg5 (Nat.le_refl _) (by have := hb3.size; simp; omega)
    refine vl_val (os_assign rfl) ?_
    refine vl_nil ?_
    refine v_region ?_
    refine vl_val (os_move rfl) ?_
    refine vl_val (os_addi rfl rfl (by omega)) ?_
    refine vl_val (os_assign rfl) ?_
    refine vl_nil ?_
    exact ⟨⟨v5, k + 1⟩, ⟨rfl, trivial⟩, ⟨rfl, rfl, trivial⟩, ⟨by omega, ⟨us ++ [u2], by rw [List.take_add_one, List.getElem?_eq_getElem (by omega)]; have := hL.push hu2 hb2 hb.size _ ho5 hg5 ha5; simpa [show k < ls.length by omega] using this⟩, hb5⟩, by dsimp only; omega⟩
  · obtain rfl : n = k := by omega
    rw [List.take_of_length_le (by omega)] at hL
    refine v_exit ?_
    refine v_seq ?_
    refine v_region ?_
    refine vl_val (os_move rfl) ?_
    refine vl_val (os_assign rfl) ?_
    refine vl_nil ?_
    refine v_ret ?_
    exact post_ret rfl rfl (⟨⟨us, hL⟩, hb⟩)
set_option maxHeartbeats 1000000 in
theorem kit_KeptRows (v : Value) (us : List Value) (B : Nat) (A : Option Addr) (n c : Nat) (ls : List (List Int)) (w : World) (hv : LentS w B 22 5 .u8 markB v ls us) (ha : RdS w .u8 A ls) (hn : n = ls.length) (hn1 : n ≤ 100000) (hl : ∀ l ∈ ls, l.length ≤ 10000000) :
    Gives Try.prog 25 #[v, .slice A n c] w fun v w' => v = .bool true ∧ LeD w w' := by
  obtain ⟨A1, c1, rfl, -⟩ := Own.form hv.own
  have hlen := hv.len
  refine gives_enter Try.call25 Try.func25 rfl rfl rfl (by kernel_rfl) ?_
  refine v_seq ?_
  refine v_region ?_
  refine vl_val (os_assign rfl) ?_
  refine vl_nil ?_
  refine v_seq ?_
  refine v_seq ?_
  refine v_region ?_
  refine vl_val (os_move rfl) ?_
  refine vl_val (os_len Try.underlying23 rfl) ?_
  refine vl_val (os_move rfl) ?_
  refine vl_val (os_len Try.underlying23 rfl) ?_
  refine vl_val (os_neq rfl rfl) ?_
  refine vl_nil ?_
  refine v_cond_no rfl (by omega) ?_
  refine v_skip ?_
  refine v_seq ?_
  refine v_seq ?_
  refine v_region ?_
  refine vl_val (os_assign rfl) ?_
  refine vl_nil ?_
  refine v_block ?_
  refine v_loop [(0, _), (1, _)] (fun (k : Nat) => [(5, .int .i64 k)]) (fun k w' => k ≤ n ∧ LeD w w') (fun k => n - k) (0) ⟨rfl, rfl, trivial⟩ ⟨rfl, trivial⟩ (⟨by omega, lee_d.refl _⟩) ?_
  rintro k w' ⟨hk, hq⟩
  refine v_seq ?_
  refine v_seq ?_
  refine v_region ?_
  refine vl_val (os_move rfl) ?_
  refine vl_val (os_move rfl) ?_
  refine vl_val (os_len Try.underlying23 rfl) ?_
  refine vl_val (os_lss rfl rfl) ?_
  refine vl_nil ?_
  refine v_cond_d rfl (fun h => ?_) (fun h => ?_)
  · obtain ⟨b, o, Ai, ci, rfl, h1, h2, h3, h4⟩ := (ha.led hq).at_ (i := k) (by omega)
    have hlk := hl (ls.getD k []) (by simp [show k < ls.length by omega])
    have hv2 := hv.led hq
    obtain ⟨u, hu⟩ : ∃ u, us[k]? = some u := ⟨us[k]'(by omega), List.getElem?_eq_getElem (by omega)⟩
    obtain ⟨A1', c1', e', -, -, hr1, -⟩ := Own.form hv2.own
    cases e'
    obtain ⟨b1, o1, rfl, hc1⟩ := hr1 (by omega)
    have hcu := hc1 k (by omega)
    rw [hu] at hcu
    refine v_skip ?_
    refine v_seq ?_
    refine v_block ?_
    refine v_seq ?_
    refine v_region_t LeD _ mixed (by kernel_rfl) lee_d (led_start _) ?_
    refine vt_val (fun w hw => os_move rfl) ?_
    refine vt_val (fun w hw => os_move rfl) ?_
    refine vt_val (fun w hw => os_ix Try.underlying23 Try.sizeOf22 rfl rfl (i := k) (by omega) (by omega)) ?_
    refine vt_val (fun w hw => os_load Try.isAgg22 rfl (led_cell hw (hcu))) ?_
    refine vt_val (fun w hw => os_move rfl) ?_
    refine vt_val (fun w hw => os_move rfl) ?_
    refine vt_val (fun w hw => os_ix Try.underlying23 Try.sizeOf22 rfl rfl (i := k) (by omega) (by omega)) ?_
    refine vt_val (fun w hw => os_load Try.isAgg22 rfl (led_cell hw (h1))) ?_
    refine vt_call (v := .bool true) (fun w hw => kit_KeptBytes u B Ai _ ci _ w ((hv2.each k u hu).led hw) (h2.led hw) rfl (by omega)) rfl ?_
    refine vt_val (fun w hw => os_not rfl) ?_
    refine vt_nil (fun w hw => ?_)
    obtain ⟨q, rfl⟩ := hw
    refine v_cond_f rfl ?_
    refine v_skip ?_
    refine v_region ?_
    refine vl_val (os_move rfl) ?_
    refine vl_val (os_addi rfl rfl (by omega)) ?_
    refine vl_val (os_assign rfl) ?_
    refine vl_nil ?_
    exact ⟨k + 1, ⟨rfl, rfl, trivial⟩, ⟨rfl, trivial⟩, ⟨by omega, lee_d.trans hq ⟨q, rfl⟩⟩, by dsimp only; omega⟩
  · refine v_exit ?_
    refine v_seq ?_
    refine v_region ?_
    refine vl_val (os_assign rfl) ?_
    refine vl_nil ?_
    refine v_ret ?_
    exact post_ret rfl rfl (⟨rfl, hq⟩)
end Go.Proofs.Ytpojijnjdlnokaa
