/- Texts joined: KitR FlEB SmL HdZ KitI. -/
import Derived.Test.YtpojijnjdlnokaaM22
/- The law's kit: lists of lists that are lent, whether they are still as they were. -/
namespace Go.Proofs.Ytpojijnjdlnokaa
open Go.RowKit
set_option linter.unusedVariables false

theorem Lent.led {w w' B t k f v zs} (h : Lent w B t k f v zs) (hb : LeD w w') : Lent w' B t k f v zs := by
  obtain ⟨g, C, e, hc, ho⟩ := h
  exact ⟨g, C, e, hc, Own.led ho hb⟩
theorem Lent.mono {w B B' t k f v zs} (h : Lent w B t k f v zs) (hb : B' ≤ B) : Lent w B' t k f v zs := by
  obtain ⟨g, C, e, hc, ho⟩ := h
  exact ⟨g, C, e, hc, Own.mono ho hb⟩
theorem Lent.grown {w w' B t k f v zs row} (h : Lent w B t k f v zs) (hb : w.grownBy w' row) (hr : ∀ g, v.ownBlock = some g → row ≠ some g) : Lent w' B t k f v zs := by
  obtain ⟨g, C, rfl, hc, ho⟩ := h
  exact ⟨g, C, rfl, hc, Own.kb ho (Kb.grown (S := row.toList) hb (fun k hk => by simp [hk])) (fun g' e e2 => hr g' e (by simpa using e2))⟩
theorem Lent.one {w B t k f v zs} (h : Lent w B t k f v zs) : v.oneCell' = true := by
  obtain ⟨g, C, rfl, hc, ho⟩ := h; rfl
theorem Lent.blk {w B t k f v zs} (h : Lent w B t k f v zs) {g : Nat} (hg : v.ownBlock = some g) : B ≤ g ∧ g < w.heap.size := by
  obtain ⟨g', C, rfl, hc, ho⟩ := h
  exact World.ownsRow.lt ho g (by simpa [Value.ownBlock] using hg)

/-- v is a list of lists that the kit has lent: a row of its own of such -/
structure LentS (w : World) (B : Nat) (t e : TypeId) (k : IntKind) (f : Int → Int → Int) (v : Value) (ls : List (List Int)) (us : List Value) : Prop where
  own : Own w B t v us
  len : us.length = ls.length
  each : ∀ (i : Nat) (u : Value), us[i]? = some u → Lent w B e k f u (ls.getD i [])
  sep : ∀ (i : Nat) (u : Value), us[i]? = some u → ∀ g, u.ownBlock = some g → v.ownBlock ≠ some g
theorem LentS.keep {w w' B t e k f v ls us} (h : LentS w B t e k f v ls us) (hb : Below w.heap.size w w') : LentS w' B t e k f v ls us :=
  ⟨Own.keepAll h.own hb, h.len, fun i u hu => (h.each i u hu).keep hb, h.sep⟩
theorem LentS.led {w w' B t e k f v ls us} (h : LentS w B t e k f v ls us) (hb : LeD w w') : LentS w' B t e k f v ls us :=
  ⟨Own.led h.own hb, h.len, fun i u hu => (h.each i u hu).led hb, h.sep⟩
theorem LentS.rds {w B t e k f v ls us} (h : LentS w B t e k f v ls us) {A : Option Addr} {n c : Nat} (hv : v = .slice A n c) (hl : ∀ l ∈ ls, l.length ≤ 140737488351232) : RdS w k A ls := fun h0 => by
  subst hv
  obtain ⟨A', c', e', _, _, hr, _⟩ := Own.form h.own
  cases e'
  obtain ⟨b, o, rfl, hc⟩ := hr (by rw [h.len]; exact h0)
  refine ⟨b, o, rfl, fun i hi => ?_⟩
  have hi' : i < us.length := by rw [h.len]; exact hi
  have h1 := h.each i us[i] (List.getElem?_eq_getElem hi')
  obtain ⟨g, C, h2, h3, h4, h5, h6, h7⟩ := h1.form
  refine ⟨some ⟨g, 0, none⟩, C, by rw [hc i hi', List.getElem?_eq_getElem hi', h2], h7, by omega, ?_⟩
  have e2 : ls.getD i [] = ls[i] := by simp [hi]
  rw [e2]
  exact hl _ (List.getElem_mem _)
theorem LentS.push {w1 w2 w5 B t e k f v v5 ls us u l} (hL : LentS w1 B t e k f v ls us) (hu : Lent w2 w1.heap.size e k f u l) (hb : Below w1.heap.size w1 w2) (hB : B ≤ w1.heap.size) (o : Obj) (ho : Own w5 B t v5 (us ++ [u]))
    (hg : (w2.alloc o).grownBy w5 v.ownBlock) (ha : v5.ownBlock = v.ownBlock ∨ v5.ownBlock = some (w2.alloc o).heap.size) : LentS w5 B t e k f v5 (ls ++ [l]) (us ++ [u]) := by
  have hal : Below w2.heap.size w2 (w2.alloc o) := (Below.refl _ _).alloc (Nat.le_refl _) _
  have hs := hb.size
  have key : ∀ (i : Nat) (x : Value), (us ++ [u])[i]? = some x → (us[i]? = some x ∧ i < us.length) ∨ (i = us.length ∧ x = u) := fun i x hx => by
    by_cases hi : i < us.length
    · rw [List.getElem?_append_left hi] at hx; exact .inl ⟨hx, hi⟩
    · rw [List.getElem?_append_right (by omega)] at hx
      have h1 := (List.getElem?_eq_some_iff.1 hx).1
      have h2 : i - us.length = 0 := by simpa using h1
      rw [h2] at hx
      exact .inr ⟨by omega, by simpa using hx.symm⟩
  have hv : ∀ g, v.ownBlock = some g → g < w1.heap.size := fun g hg' => (World.ownsRow.lt hL.own g hg').2
  refine ⟨ho, by simp [hL.len], fun i x hx => ?_, fun i x hx g hxg => ?_⟩
  · rcases key i x hx with ⟨h1, h2⟩ | ⟨rfl, rfl⟩
    · rw [show (ls ++ [l]).getD i [] = ls.getD i [] by simp [List.getElem?_append, show i < ls.length by rw [← hL.len]; exact h2]]
      exact (((hL.each i x h1).keep hb).keep hal).grown hg fun g e e2 => hL.sep i x h1 g e e2
    · rw [show (ls ++ [l]).getD us.length [] = l by rw [hL.len]; simp]
      exact ((hu.keep hal).grown hg fun g e e2 => by have := hv g e2; have := (hu.blk e).1; omega).mono hB
  · rcases key i x hx with ⟨h1, h2⟩ | ⟨rfl, rfl⟩
    · have h3 := ((hL.each i x h1).blk hxg).2
      rcases ha with h | h
      · rw [h]; exact hL.sep i x h1 g hxg
      · rw [h]; simp; omega
    · have h3 := hu.blk hxg
      rcases ha with h | h
      · rw [h]; intro e2; have := hv g e2; omega
      · rw [h]; simp; omega

set_option maxHeartbeats 1000000 in
theorem kit_LentRows (A : Option Addr) (n c : Nat) (ls : List (List Int)) (w : World) (ha : RdS w .u8 A ls) (hn : n = ls.length) (hn1 : n ≤ 100000) (hl : ∀ l ∈ ls, l.length ≤ 10000000) :
    Gives Try.prog 13 #[.slice A n c] w fun v w' => (∃ us, LentS w' w.heap.size 22 5 .u8 markB v ls us) ∧ Below w.heap.size w w' := by
  refine gives_enter Try.call13 Try.func13 rfl rfl rfl (by kernel_rfl) ?_
  refine v_seq ?_
  refine v_region ?_
  refine vl_val (os_assign rfl) ?_
  refine vl_nil ?_
  refine v_seq ?_
  refine v_region ?_
  refine vl_val (os_assign rfl) ?_
  refine vl_nil ?_
  refine v_seq ?_
  refine v_seq ?_
  refine v_region ?_
  refine vl_val (os_assign rfl) ?_
  refine vl_nil ?_
  refine v_block ?_
  refine v_loop2 [(0, _)] (fun (v : Value) (k : Nat) => [(3, v), (4, .int .i64 k)]) (fun v k w' => k ≤ n ∧ (∃ us, LentS w' w.heap.size 22 5 .u8 markB v (ls.take k) us) ∧ Below w.heap.size w w') (fun v k => n - k) (.slice none 0 0) (0) ⟨rfl, trivial⟩ ⟨rfl, rfl, trivial⟩ (⟨by omega, ⟨[], Own.nil _ _ _, by simp, fun i u hu => by simp at hu, fun i u hu => by simp at hu⟩, Below.refl _ _⟩) ?_
  rintro v k w' ⟨hk, ⟨us, hL⟩, hb⟩
  refine v_seq ?_
  refine v_seq ?_
  refine v_region ?_
  refine vl_val (os_move rfl) ?_
  refine vl_val (os_move rfl) ?_
  refine vl_val (os_len Try.underlying23 rfl) ?_
  refine vl_val (os_lss rfl rfl) ?_
  refine vl_nil ?_
  refine v_cond_d rfl (fun h => ?_) (fun h => ?_)
  · obtain ⟨b, o, Ai, ci, rfl, h1, h2, h3, h4⟩ := (ha.keep hb).at_ (i := k) (by omega)
    have hlk := hl (ls.getD k []) (by simp [show k < ls.length by omega])
    refine v_skip ?_
    refine v_seq ?_
    refine v_block ?_
    refine v_region ?_
    refine vl_val (os_move rfl) ?_
    refine vl_val (os_move rfl) ?_
    refine vl_val (os_move rfl) ?_
    refine vl_val (os_ix Try.underlying23 Try.sizeOf22 rfl rfl (i := k) (by omega) (by omega)) ?_
    refine vl_val (os_load Try.isAgg22 rfl (h1)) ?_
    refine vl_call (kit_LentBytes Ai _ ci _ w' h2 rfl (by omega)) rfl ?_
    rintro u2 w2 ⟨hu2, hb2⟩
    have hL2 := hL.keep hb2
    have ha2 : Below w2.heap.size w2 (w2.alloc (.cells [u2].toArray 22)) := (Below.refl _ _).alloc (Nat.le_refl _) _
    have hb3 : Below w.heap.size w w2 := hb.trans (hb2.mono hb.size)
    have hL3 := hL2.keep ha2
    have hlen : us.length = k := by rw [hL.len, List.length_take]; omega
    refine vl_val (os_lit Try.underlying23 Try.sizeOf22 Try.zeroValue22 rfl rfl rfl (by simp [oneCells, hu2.one]) (by decide)) ?_
    refine vl_some (ot_append_at Try.underlying23 ti_lBytes rfl rfl rfl hL3.own (rdc_alloc w2 [u2] _) rfl (by intro u hu; rw [List.mem_singleton.1 hu]; exact hu2.one) (by omega) (by simp [maxLen]; omega) (by have := hb3.size; simp; omega)) ?_
    rintro v5 w5 ⟨ho5, hg5, ha5⟩
    have hb5 := Own.below (hb3.alloc hb3.size (.cells [u2].toArray 22)) hL3.own hg5 (Nat.le_refl _) (by have := hb3.size; simp; omega)
    refine vl_val (os_assign rfl) ?_
    refine vl_nil ?_
    refine v_region ?_
    refine vl_val (os_move rfl) ?_
    refine vl_val (os_addi rfl rfl (by omega)) ?_
    refine vl_val (os_assign rfl) ?_
    refine vl_nil ?_
    exact ⟨⟨v5, k + 1⟩, ⟨rfl, trivial⟩, ⟨rfl, rfl, trivial⟩, ⟨by omega, ⟨us ++ [u2], by rw [List.take_add_one, List.getElem?_eq_getElem (by omega)]; have := hL.push hu2 hb2 hb.size _ ho5 hg5 ha5; simpa [show k < ls.length by omega] using this⟩, hb5⟩, by dsimp only; omega⟩
  · obtain rfl : n = k := by omega
    rw [List.take_of_length_le (by omega)] at hL
    refine v_exit ?_
    refine v_seq ?_
    refine v_region ?_
    refine vl_val (os_move rfl) ?_
    refine vl_val (os_assign rfl) ?_
    refine vl_nil ?_
    refine v_ret ?_
    exact post_ret rfl rfl (⟨⟨us, hL⟩, hb⟩)
set_option maxHeartbeats 1000000 in
theorem kit_KeptRows (v : Value) (us : List Value) (B : Nat) (A : Option Addr) (n c : Nat) (ls : List (List Int)) (w : World) (hv : LentS w B 22 5 .u8 markB v ls us) (ha : RdS w .u8 A ls) (hn : n = ls.length) (hn1 : n ≤ 100000) (hl : ∀ l ∈ ls, l.length ≤ 10000000) :
    Gives Try.prog 25 #[v, .slice A n c] w fun v w' => v = .bool true ∧ LeD w w' := by
  obtain ⟨A1, c1, rfl, -⟩ := Own.form hv.own
  have hlen := hv.len
  refine gives_enter Try.call25 Try.func25 rfl rfl rfl (by kernel_rfl) ?_
  refine v_seq ?_
  refine v_region ?_
  refine vl_val (os_assign rfl) ?_
  refine vl_nil ?_
  refine v_seq ?_
  refine v_seq ?_
  refine v_region ?_
  refine vl_val (os_move rfl) ?_
  refine vl_val (os_len Try.underlying23 rfl) ?_
  refine vl_val (os_move rfl) ?_
  refine vl_val (os_len Try.underlying23 rfl) ?_
  refine vl_val (os_neq rfl rfl) ?_
  refine vl_nil ?_
  refine v_cond_no rfl (by omega) ?_
  refine v_skip ?_
  refine v_seq ?_
  refine v_seq ?_
  refine v_region ?_
  refine vl_val (os_assign rfl) ?_
  refine vl_nil ?_
  refine v_block ?_
  refine v_loop [(0, _), (1, _)] (fun (k : Nat) => [(5, .int .i64 k)]) (fun k w' => k ≤ n ∧ LeD w w') (fun k => n - k) (0) ⟨rfl, rfl, trivial⟩ ⟨rfl, trivial⟩ (⟨by omega, lee_d.refl _⟩) ?_
  rintro k w' ⟨hk, hq⟩
  refine v_seq ?_
  refine v_seq ?_
  refine v_region ?_
  refine vl_val (os_move rfl) ?_
  refine vl_val (os_move rfl) ?_
  refine vl_val (os_len Try.underlying23 rfl) ?_
  refine vl_val (os_lss rfl rfl) ?_
  refine vl_nil ?_
  refine v_cond_d rfl (fun h => ?_) (fun h => ?_)
  · obtain ⟨b, o, Ai, ci, rfl, h1, h2, h3, h4⟩ := (ha.led hq).at_ (i := k) (by omega)
    have hlk := hl (ls.getD k []) (by simp [show k < ls.length by omega])
    have hv2 := hv.led hq
    obtain ⟨u, hu⟩ : ∃ u, us[k]? = some u := ⟨us[k]'(by omega), List.getElem?_eq_getElem (by omega)⟩
    obtain ⟨A1', c1', e', -, -, hr1, -⟩ := Own.form hv2.own
    cases e'
    obtain ⟨b1, o1, rfl, hc1⟩ := hr1 (by omega)
    have hcu := hc1 k (by omega)
    rw [hu] at hcu
    refine v_skip ?_
    refine v_seq ?_
    refine v_block ?_
    refine v_seq ?_
    refine v_region_t LeD _ mixed (by kernel_rfl) lee_d (led_start _) ?_
    refine vt_val (fun w hw => os_move rfl) ?_
    refine vt_val (fun w hw => os_move rfl) ?_
    refine vt_val (fun w hw => os_ix Try.underlying23 Try.sizeOf22 rfl rfl (i := k) (by omega) (by omega)) ?_
    refine vt_val (fun w hw => os_load Try.isAgg22 rfl (led_cell hw (hcu))) ?_
    refine vt_val (fun w hw => os_move rfl) ?_
    refine vt_val (fun w hw => os_move rfl) ?_
    refine vt_val (fun w hw => os_ix Try.underlying23 Try.sizeOf22 rfl rfl (i := k) (by omega) (by omega)) ?_
    refine vt_val (fun w hw => os_load Try.isAgg22 rfl (led_cell hw (h1))) ?_
    refine vt_call (v := .bool true) (fun w hw => kit_KeptBytes u B Ai _ ci _ w ((hv2.each k u hu).led hw) (h2.led hw) rfl (by omega)) rfl ?_
    refine vt_val (fun w hw => os_not rfl) ?_
    refine vt_nil (fun w hw => ?_)
    obtain ⟨q, rfl⟩ := hw
    refine v_cond_f rfl ?_
    refine v_skip ?_
    refine v_region ?_
    refine vl_val (os_move rfl) ?_
    refine vl_val (os_addi rfl rfl (by omega)) ?_
    refine vl_val (os_assign rfl) ?_
    refine vl_nil ?_
    exact ⟨k + 1, ⟨rfl, rfl, trivial⟩, ⟨rfl, trivial⟩, ⟨by omega, lee_d.trans hq ⟨q, rfl⟩⟩, by dsimp only; omega⟩
  · refine v_exit ?_
    refine v_seq ?_
    refine v_region ?_
    refine vl_val (os_assign rfl) ?_
    refine vl_nil ?_
    refine v_ret ?_
    exact post_ret rfl rfl (⟨rfl, hq⟩)
end Go.Proofs.Ytpojijnjdlnokaa

/- The law's kit: whether lists of uint8 lie apart. -/
namespace Go.Proofs.Ytpojijnjdlnokaa
open Go.RowKit
set_option linter.unusedVariables false
/-- the bag's cells -/
def bagBytes (v : Value) : List Value := [.slice none 0 0, .slice none 0 0, .slice none 0 0, .slice none 0 0, .slice none 0 0, v, .slice none 0 0, .slice none 0 0, .slice none 0 0, .slice none 0 0, .slice none 0 0, .slice none 0 0, .slice none 0 0]
set_option maxHeartbeats 1000000 in
theorem kit_putBytes (g B : Nat) (v : Value) (Al : Option Addr) (nl cl : Nat) (ss : List Value) (w : World) (hB : Bk w g (bagBytes v) 122) (ho : Own w B 22 v ss) (hg : v.ownBlock ≠ some g) (hn : ss.length ≤ 100000) (hz : B ≤ w.heap.size) (hgB : B ≤ g) :
    Gives Try.prog 97 #[.pointer (some ⟨g, 0, none⟩), .slice Al nl cl] w fun u w' => ∃ v', Bk w' g (bagBytes v') 122 ∧ Own w' B 22 v' (ss ++ [.slice Al nl cl]) ∧ v'.ownBlock ≠ some g ∧ Below B w w' := by
  have hlt := hB.lt
  refine gives_enter Try.call97 Try.func97 rfl rfl rfl (by kernel_rfl) ?_
  refine v_region ?_
  refine vl_val (os_move rfl) ?_
  refine vl_val (os_move rfl) ?_
  refine vl_val (os_nilCheck rfl) ?_
  refine vl_val (os_fa (o := 5) (k := 0) (by kernel_rfl) rfl) ?_
  refine vl_val (os_load Try.isAgg23 rfl (Bk.cell (i := 5) hB rfl)) ?_
  refine vl_val (os_move rfl) ?_
  refine vl_val (os_lit Try.underlying23 Try.sizeOf22 Try.zeroValue22 rfl rfl rfl rfl (by decide)) ?_
  refine vl_some (ot_append_at Try.underlying23 ti_lBytes rfl rfl rfl (Own.alloc ho _) (rdc_alloc w [.slice Al nl cl] _) rfl (by intro u hu; rw [List.mem_singleton.1 hu]; rfl) (by omega) (by simp [maxLen]; omega) (by simp; omega)) ?_
  rintro v1 w1 ⟨ho1, hg1, ha1⟩
  obtain ⟨A1, c1, rfl, -⟩ := Own.form ho1
  have hne1 : (Value.slice A1 _ c1).ownBlock ≠ some g := fun e => by
    rcases ha1 with h6 | h6
    · rw [h6] at e; exact hg e
    · rw [h6] at e; simp at e; omega
  have hB1 := Bk.grown (Bk.alloc hB _) hg1 (fun e => hg e.symm)
  refine vl_val (os_nilCheck rfl) ?_
  refine vl_val (os_fa (o := 5) (k := 0) (by kernel_rfl) rfl) ?_
  refine vl_unit (ou_store Try.sizeOf23 rfl rfl rfl (Bk.cell (i := 5) hB1 rfl) (Bk.free hB1 _)) ?_
  refine vl_nil ?_
  exact post_end0 rfl (⟨_, Bk.set hB1 5 _, Own.setOther ho1 (fun g' e e2 => hne1 (by rw [e, e2])) _ _, hne1, below_set ((((Below.refl w.heap.size w).alloc (Nat.le_refl _) _).mono hz).trans ((Below.refl _ _).grown hg1 (by simp; omega) (fun k hk => (World.ownsRow.lt ho k hk).1))) hgB _ _⟩)

set_option maxHeartbeats 2000000 in
theorem kit_apartBytes (g : Nat) (A : Option Addr) (N cA B : Nat) (S : List Nat) (ss : List Value) (lab : Nat → Nat) (nn : Nat → Nat) (c0 d0 : Nat → List Value) (Hw : World) (hF : Fl Hw B 5 22 S A ss lab c0 (.slice none 0 0) [] 0 d0 Hw) (hN : ss.length = N) (hN1 : N ≤ 100000)
    (hn0 : ∀ j, j < N → (c0 j).length = nn j) (hn1 : ∀ j, j < N → nn j ≤ 1000000000) (hB : Bk Hw g (bagBytes (.slice A N cA)) 122) (hS : g ∉ S) :
    Gives Try.prog 74 #[.pointer (some ⟨g, 0, none⟩)] Hw fun v w' => v = .bool true ∧ Kb S Hw w' := by
  have hb := Below.refl Hw.heap.size Hw
  have hBw := hB
  refine gives_enter Try.call74 Try.func74 rfl rfl rfl (by kernel_rfl) ?_
  refine v_seq ?_
  refine v_region ?_
  refine vl_val (os_assign rfl) ?_
  refine vl_nil ?_
  refine v_seq ?_
  refine v_region ?_
  refine vl_val (os_move rfl) ?_
  refine vl_val (os_nilCheck rfl) ?_
  refine vl_val (os_fa (o := 0) (k := 0) (by kernel_rfl) rfl) ?_
  refine vl_val (os_load Try.isAgg110 rfl (Bk.cell (i := 0) hB rfl)) ?_
  refine vl_call (kit_noneLimbs _) rfl ?_
  rintro v1 w1 ⟨rfl, hb1⟩
  have hb := hb.trans (hb1.mono hb.size)
  have hB := hB.keep hb1
  clear hb1
  refine vl_val (os_move rfl) ?_
  refine vl_valg rfl (os_move rfl) ?_
  refine vl_valg rfl (os_nilCheck rfl) ?_
  refine vl_valg rfl (os_fa (o := 1) (k := 0) (by kernel_rfl) rfl) ?_
  refine vl_valg rfl (os_load Try.isAgg111 rfl (Bk.cell (i := 1) hB rfl)) ?_
  refine vl_callg rfl (kit_noneWords _) rfl ?_
  rintro v1 w1 ⟨rfl, hb1⟩
  have hb := hb.trans (hb1.mono hb.size)
  have hB := hB.keep hb1
  clear hb1
  refine vl_val (os_pick_t rfl rfl) ?_
  refine vl_val (os_move rfl) ?_
  refine vl_valg rfl (os_move rfl) ?_
  refine vl_valg rfl (os_nilCheck rfl) ?_
  refine vl_valg rfl (os_fa (o := 2) (k := 0) (by kernel_rfl) rfl) ?_
  refine vl_valg rfl (os_load Try.isAgg59 rfl (Bk.cell (i := 2) hB rfl)) ?_
  refine vl_callg rfl (kit_noneInts _) rfl ?_
  rintro v1 w1 ⟨rfl, hb1⟩
  have hb := hb.trans (hb1.mono hb.size)
  have hB := hB.keep hb1
  clear hb1
  refine vl_val (os_pick_t rfl rfl) ?_
  refine vl_val (os_move rfl) ?_
  refine vl_valg rfl (os_move rfl) ?_
  refine vl_valg rfl (os_nilCheck rfl) ?_
  refine vl_valg rfl (os_fa (o := 3) (k := 0) (by kernel_rfl) rfl) ?_
  refine vl_valg rfl (os_load Try.isAgg112 rfl (Bk.cell (i := 3) hB rfl)) ?_
  refine vl_callg rfl (kit_noneLongs _) rfl ?_
  rintro v1 w1 ⟨rfl, hb1⟩
  have hb := hb.trans (hb1.mono hb.size)
  have hB := hB.keep hb1
  clear hb1
  refine vl_val (os_pick_t rfl rfl) ?_
  refine vl_val (os_move rfl) ?_
  refine vl_valg rfl (os_move rfl) ?_
  refine vl_valg rfl (os_nilCheck rfl) ?_
  refine vl_valg rfl (os_fa (o := 4) (k := 0) (by kernel_rfl) rfl) ?_
  refine vl_valg rfl (os_load Try.isAgg113 rfl (Bk.cell (i := 4) hB rfl)) ?_
  refine vl_callg rfl (kit_noneTexts _) rfl ?_
  rintro v1 w1 ⟨rfl, hb1⟩
  have hb := hb.trans (hb1.mono hb.size)
  have hB := hB.keep hb1
  clear hb1
  refine vl_val (os_pick_t rfl rfl) ?_
  refine vl_val (os_move rfl) ?_
  refine vl_valg rfl (os_move rfl) ?_
  refine vl_valg rfl (os_nilCheck rfl) ?_
  refine vl_valg rfl (os_fa (o := 5) (k := 0) (by kernel_rfl) rfl) ?_
  refine vl_valg rfl (os_load Try.isAgg23 rfl (Bk.cell (i := 5) hB rfl)) ?_
  refine vl_callg rfl (kit_flatBytes A N cA B S ss lab nn c0 d0 Hw _ (hF.below hb) hN hN1 hn0 hn1) rfl ?_
  rintro v1 w1 ⟨rfl, hk1⟩
  have hkb : Kb S Hw w1 := hk1
  clear hb
  have hB := hBw.kb hk1 hS
  refine vl_val (os_pick_t rfl rfl) ?_
  refine vl_val (os_move rfl) ?_
  refine vl_valg rfl (os_move rfl) ?_
  refine vl_valg rfl (os_nilCheck rfl) ?_
  refine vl_valg rfl (os_fa (o := 6) (k := 0) (by kernel_rfl) rfl) ?_
  refine vl_valg rfl (os_load Try.isAgg114 rfl (Bk.cell (i := 6) hB rfl)) ?_
  refine vl_callg rfl (kit_noneTruths _) rfl ?_
  rintro v1 w1 ⟨rfl, hb1⟩
  have hkb := hkb.trans (Kb.of_below (S := []) hb1) (fun k hk => by cases hk)
  have hB := hB.keep hb1
  clear hb1
  refine vl_val (os_pick_t rfl rfl) ?_
  refine vl_val (os_move rfl) ?_
  refine vl_valg rfl (os_move rfl) ?_
  refine vl_valg rfl (os_nilCheck rfl) ?_
  refine vl_valg rfl (os_fa (o := 7) (k := 0) (by kernel_rfl) rfl) ?_
  refine vl_valg rfl (os_load Try.isAgg115 rfl (Bk.cell (i := 7) hB rfl)) ?_
  refine vl_callg rfl (kit_noneLayers _) rfl ?_
  rintro v1 w1 ⟨rfl, hb1⟩
  have hkb := hkb.trans (Kb.of_below (S := []) hb1) (fun k hk => by cases hk)
  have hB := hB.keep hb1
  clear hb1
  refine vl_val (os_pick_t rfl rfl) ?_
  refine vl_val (os_move rfl) ?_
  refine vl_valg rfl (os_move rfl) ?_
  refine vl_valg rfl (os_nilCheck rfl) ?_
  refine vl_valg rfl (os_fa (o := 8) (k := 0) (by kernel_rfl) rfl) ?_
  refine vl_valg rfl (os_load Try.isAgg116 rfl (Bk.cell (i := 8) hB rfl)) ?_
  refine vl_callg rfl (kit_noneTable _) rfl ?_
  rintro v1 w1 ⟨rfl, hb1⟩
  have hkb := hkb.trans (Kb.of_below (S := []) hb1) (fun k hk => by cases hk)
  have hB := hB.keep hb1
  clear hb1
  refine vl_val (os_pick_t rfl rfl) ?_
  refine vl_val (os_move rfl) ?_
  refine vl_valg rfl (os_move rfl) ?_
  refine vl_valg rfl (os_nilCheck rfl) ?_
  refine vl_valg rfl (os_fa (o := 9) (k := 0) (by kernel_rfl) rfl) ?_
  refine vl_valg rfl (os_load Try.isAgg117 rfl (Bk.cell (i := 9) hB rfl)) ?_
  refine vl_callg rfl (kit_noneHeads _) rfl ?_
  rintro v1 w1 ⟨rfl, hb1⟩
  have hkb := hkb.trans (Kb.of_below (S := []) hb1) (fun k hk => by cases hk)
  have hB := hB.keep hb1
  clear hb1
  refine vl_val (os_pick_t rfl rfl) ?_
  refine vl_val (os_move rfl) ?_
  refine vl_valg rfl (os_move rfl) ?_
  refine vl_valg rfl (os_nilCheck rfl) ?_
  refine vl_valg rfl (os_fa (o := 10) (k := 0) (by kernel_rfl) rfl) ?_
  refine vl_valg rfl (os_load Try.isAgg118 rfl (Bk.cell (i := 10) hB rfl)) ?_
  refine vl_callg rfl (kit_noneCounts _) rfl ?_
  rintro v1 w1 ⟨rfl, hb1⟩
  have hkb := hkb.trans (Kb.of_below (S := []) hb1) (fun k hk => by cases hk)
  have hB := hB.keep hb1
  clear hb1
  refine vl_val (os_pick_t rfl rfl) ?_
  refine vl_val (os_move rfl) ?_
  refine vl_valg rfl (os_move rfl) ?_
  refine vl_valg rfl (os_nilCheck rfl) ?_
  refine vl_valg rfl (os_fa (o := 11) (k := 0) (by kernel_rfl) rfl) ?_
  refine vl_valg rfl (os_load Try.isAgg119 rfl (Bk.cell (i := 11) hB rfl)) ?_
  refine vl_callg rfl (kit_noneNotes _) rfl ?_
  rintro v1 w1 ⟨rfl, hb1⟩
  have hkb := hkb.trans (Kb.of_below (S := []) hb1) (fun k hk => by cases hk)
  have hB := hB.keep hb1
  clear hb1
  refine vl_val (os_pick_t rfl rfl) ?_
  refine vl_val (os_move rfl) ?_
  refine vl_valg rfl (os_move rfl) ?_
  refine vl_valg rfl (os_nilCheck rfl) ?_
  refine vl_valg rfl (os_fa (o := 12) (k := 0) (by kernel_rfl) rfl) ?_
  refine vl_valg rfl (os_load Try.isAgg120 rfl (Bk.cell (i := 12) hB rfl)) ?_
  refine vl_callg rfl (kit_noneFates _) rfl ?_
  rintro v1 w1 ⟨rfl, hb1⟩
  have hkb := hkb.trans (Kb.of_below (S := []) hb1) (fun k hk => by cases hk)
  have hB := hB.keep hb1
  clear hb1
  refine vl_val (os_pick_t rfl rfl) ?_
  refine vl_val (os_assign rfl) ?_
  refine vl_nil ?_
  refine v_ret ?_
  exact post_ret rfl rfl (⟨rfl, hkb⟩)

set_option maxHeartbeats 2000000 in
theorem kit_ApartBytes (A : Option Addr) (N cA B : Nat) (ss : List Value) (nn : Nat → Nat) (cc : Nat → List Value) (w : World) (hr : RdC w A ss) (hN : ss.length = N) (hN1 : N ≤ 100000) (ho : ∀ (j : Nat) (v : Value), ss[j]? = some v → Own w B 5 v (cc j))
    (hs : ∀ (i j : Nat) (v u : Value), ss[i]? = some v → ss[j]? = some u → i < j → sep v u) (hn0 : ∀ j, j < N → (cc j).length = nn j) (hn1 : ∀ j, j < N → nn j ≤ 1000000000) (hB : B ≤ w.heap.size) :
    Gives Try.prog 56 #[.slice A N cA] w fun v w' => v = .bool true ∧ Kb (ss.filterMap Value.ownBlock) w w' := by
  refine gives_enter Try.call56 Try.func56 rfl rfl rfl (by kernel_rfl) ?_
  refine v_seq ?_
  refine v_region ?_
  refine vl_val (os_assign rfl) ?_
  refine vl_nil ?_
  refine v_seq ?_
  refine v_region ?_
  refine vl_val (os_build (cs := [.slice none 0 0, .slice none 0 0, .slice none 0 0, .slice none 0 0, .slice none 0 0, .slice none 0 0, .slice none 0 0, .slice none 0 0, .slice none 0 0, .slice none 0 0, .slice none 0 0, .slice none 0 0, .slice none 0 0]) rfl (by kernel_rfl)) ?_
  have hB0 := bk_new w (bagBytes (.slice none 0 0)) 122
  refine vl_val (os_box rfl) ?_
  refine vl_val (os_assign rfl) ?_
  refine vl_nil ?_
  refine v_seq ?_
  refine v_seq ?_
  refine v_region ?_
  refine vl_val (os_assign rfl) ?_
  refine vl_nil ?_
  refine v_block ?_
  refine v_loop [(0, _), (3, _)] (fun (k : Nat) => [(4, .int .i64 k)]) (fun k w' => k ≤ N ∧ ∃ v, Bk w' w.heap.size (bagBytes v) 122 ∧ Own w' w.heap.size 22 v (ss.take k) ∧ v.ownBlock ≠ some w.heap.size ∧ Below w.heap.size w w') (fun k => N - k) (0) ⟨rfl, rfl, trivial⟩ ⟨rfl, trivial⟩ (⟨by omega, .slice none 0 0, hB0, by rw [List.take_zero]; exact Own.nil _ _ _, by simp [Value.ownBlock], (Below.refl _ _).alloc (Nat.le_refl _) _⟩) ?_
  rintro k w' ⟨hk, v, hB1, ho1, hne, hb⟩
  refine v_seq ?_
  refine v_seq ?_
  refine v_region ?_
  refine vl_val (os_move rfl) ?_
  refine vl_val (os_move rfl) ?_
  refine vl_val (os_len Try.underlying23 rfl) ?_
  refine vl_val (os_lss rfl rfl) ?_
  refine vl_nil ?_
  refine v_cond_d rfl (fun h => ?_) (fun h => ?_)
  · obtain ⟨u, hu⟩ : ∃ u, ss[k]? = some u := ⟨ss[k]'(by omega), List.getElem?_eq_getElem (by omega)⟩
    obtain ⟨A1, c1, rfl, -⟩ := Own.form (ho k _ hu)
    obtain ⟨bA, oA, rfl, -⟩ := hr (by omega)
    refine v_skip ?_
    refine v_seq ?_
    refine v_block ?_
    refine v_region ?_
    refine vl_val (os_move rfl) ?_
    refine vl_val (os_move rfl) ?_
    refine vl_val (os_move rfl) ?_
    refine vl_val (os_ix Try.underlying23 Try.sizeOf22 rfl rfl (i := k) (by omega) (by omega)) ?_
    refine vl_val (os_load Try.isAgg22 rfl ((hr.keep hb).get hu)) ?_
    refine vl_call (kit_putBytes _ w.heap.size v _ _ _ (ss.take k) w' hB1 ho1 hne (by rw [List.length_take]; omega) hb.size (Nat.le_refl _)) rfl ?_
    rintro u2 w2 ⟨v2, hB2, ho2, hne2, hb2⟩
    refine vl_nil ?_
    refine v_region ?_
    refine vl_val (os_move rfl) ?_
    refine vl_val (os_addi rfl rfl (by omega)) ?_
    refine vl_val (os_assign rfl) ?_
    refine vl_nil ?_
    exact ⟨k + 1, ⟨rfl, rfl, trivial⟩, ⟨rfl, trivial⟩, ⟨by omega, v2, hB2, by rw [List.take_add_one, hu]; exact ho2, hne2, hb.trans hb2⟩, by dsimp only; omega⟩
  · obtain rfl : N = k := by omega
    rw [List.take_of_length_le (by omega)] at ho1
    obtain ⟨A1, c1, rfl, -, -, hr1, hA1⟩ := Own.form ho1
    have hS : ∀ b ∈ ss.filterMap Value.ownBlock, b < w.heap.size := fun b hb => by
      obtain ⟨x, hx, hxb⟩ := List.mem_filterMap.1 hb
      obtain ⟨j, hj⟩ := List.mem_iff_getElem?.1 hx
      exact (World.ownsRow.lt (ho j x hj) b hxb).2
    have hlt : ∀ (j : Nat) (x : Value) (b : Nat), ss[j]? = some x → x.ownBlock = some b → b < w.heap.size := fun j x b hj hxb => (World.ownsRow.lt (ho j x hj) b hxb).2
    obtain ⟨lab, hF⟩ := Fl.init (tt := 22) (dd := fun _ => []) (Nat.le_trans hB hb.size) hr1 (fun j x hj => (ho j x hj).keepAll hb) hs (fun b o e => ⟨(hA1 b o e).2.2, fun j x hj hxb => by have h1 := hlt j x b hj hxb; have h2 := (hA1 b o e).1; omega⟩)
    subst hN
    refine v_exit ?_
    refine v_seq ?_
    refine v_region ?_
    refine vl_val (os_move rfl) ?_
    refine vl_call (kit_apartBytes _ A1 _ c1 B _ ss lab nn cc (fun _ => []) w' hF rfl hN1 hn0 hn1 hB1 (fun hh => by have := hS _ hh; omega)) rfl ?_
    rintro u2 w2 ⟨rfl, hk2⟩
    refine vl_val (os_assign rfl) ?_
    refine vl_nil ?_
    refine v_ret ?_
    exact post_ret rfl rfl (⟨rfl, (Kb.of_below hb).trans hk2 (fun b hb => .inl hb)⟩)

end Go.Proofs.Ytpojijnjdlnokaa

/- Layer 7: the walk of SumDoes. -/
namespace Go.Proofs.Ytpojijnjdlnokaa
open Go.RowKit
set_option linter.unusedVariables false

theorem Own.part {w : World} {B : Nat} {t : TypeId} {g n c m : Nat} {cs : List Value} (h : Own w B t (.slice (some ⟨g, 0, none⟩) n c) cs) (hm : m ≤ c) : ∃ ds, ds.length = m ∧ Own w B t (.slice (some ⟨g, 0, none⟩) m c) ds := by
  rcases h.2 with ⟨h1, _⟩ | ⟨g', cap, cur, h1, hB, hg, hnc, hcm, hs, ht⟩
  · cases h1
  · cases h1
    have hl : (cur.toList.take m).length = m := by rw [List.length_take, Array.length_toList, hs]; omega
    exact ⟨cur.toList.take m, hl, by simp, .inr ⟨g, c, cur, by rw [hl], hB, hg, by omega, hcm, hs, by rw [hl]; simp⟩⟩
/-- how many there are in all -/
def lenS : List (List Int) → Nat
  | [] => 0
  | l :: r => l.length + lenS r
theorem lenS_take {ls : List (List Int)} {i : Nat} (hi : i < ls.length) : lenS (ls.take (i + 1)) = lenS (ls.take i) + (ls.getD i []).length := by
  induction ls generalizing i with
  | nil => simp at hi
  | cons l r ih =>
    cases i with
    | zero => simp [lenS]
    | succ i => rw [List.take_succ_cons, List.take_succ_cons, lenS, lenS, ih (by simpa using hi)]; simp; omega
theorem lenS_mem {ls : List (List Int)} : ∀ l ∈ ls, l.length ≤ lenS ls := by
  induction ls with
  | nil => intro l hl; cases hl
  | cons l r ih =>
    intro x hx
    rcases List.mem_cons.1 hx with rfl | hx
    · simp [lenS]
    · have := ih x hx; simp [lenS]; omega
end Go.Proofs.Ytpojijnjdlnokaa

/- Layer 14: the law's own functions, and the walk of HeadParses. -/
namespace Go.Proofs.Ytpojijnjdlnokaa
open Go.RowKit
set_option linter.unusedVariables false

theorem sep2 {a b : Value} (h1 : sep a b) : ∀ (i j : Nat) (v u : Value), [a, b][i]? = some v → [a, b][j]? = some u → i < j → sep v u := by
  intro i j v u hi hj hij
  rcases i with _ | _ | i <;> rcases j with _ | _ | j <;> simp at hi hj <;> (try omega) <;> subst hi <;> subst hj <;> assumption
theorem nat2 {Q : Nat → Prop} (h0 : Q 0) (h1 : Q 1) : ∀ j, j < 2 → Q j := by
  intro j hj
  rcases j with _ | _ | j
  · exact h0
  · exact h1
  · omega
theorem allP2 {P : Nat → Value → Prop} {a b : Value} (h0 : P 0 a) (h1 : P 1 b) : ∀ (j : Nat) (v : Value), [a, b][j]? = some v → P j v := by
  intro j v hj
  rcases j with _ | _ | j
  · cases hj; exact h0
  · cases hj; exact h1
  · simp at hj
/-- what was lent and what was told lie apart -/
theorem kit_Apart2 (g C B n2 c2 B2 : Nat) (A2 : Option Addr) (zs xs : List Int) (w : World) (hL : Lent w B 5 .u8 markB (.slice (some ⟨g, 0, none⟩) zs.length C) zs) (o2 : OwnK w B2 5 .u8 (.slice A2 n2 c2) xs) (hg : g < B2) (hBB : B ≤ B2) (hl : zs.length ≤ 1000000) (hx : xs.length ≤ 100000000) (hB : B ≤ w.heap.size) :
    Gives Try.prog 56 #[.slice (some ⟨w.heap.size, 0, none⟩) 2 2] (w.alloc (.cells [Value.slice (some ⟨g, 0, none⟩) zs.length C, .slice A2 n2 c2].toArray 22)) fun v w' => v = .bool true ∧ Below B w w' := by
  have ba : Below w.heap.size w (w.alloc (.cells [Value.slice (some ⟨g, 0, none⟩) zs.length C, .slice A2 n2 c2].toArray 22)) := (Below.refl _ _).alloc (Nat.le_refl _) _
  obtain ⟨ds, hds, od⟩ : ∃ ds : List Value, ds.length = zs.length ∧ Own (w.alloc (.cells [Value.slice (some ⟨g, 0, none⟩) zs.length C, .slice A2 n2 c2].toArray 22)) B 5 (.slice (some ⟨g, 0, none⟩) zs.length C) ds := by
    obtain ⟨g', C', e', hc', ho'⟩ := hL.keep ba
    cases e'
    exact Own.part ho' (by omega)
  have hown := allP2 (P := fun j v => Own (w.alloc (.cells [Value.slice (some ⟨g, 0, none⟩) zs.length C, .slice A2 n2 c2].toArray 22)) B 5 v ([ds, xs.map (Value.int .u8)].getD j [])) od ((Own.keepAll o2 ba).mono hBB)
  have s12 : sep (.slice (some ⟨g, 0, none⟩) zs.length C) (.slice A2 n2 c2) := fun x hx e => by have h1 := (World.ownsRow.lt o2 x e).1; have h2 : x = g := (by simpa [Value.ownBlock] using hx.symm); omega
  refine (kit_ApartBytes (some ⟨w.heap.size, 0, none⟩) 2 2 B [.slice (some ⟨g, 0, none⟩) zs.length C, .slice A2 n2 c2] (fun j => ([ds, xs.map (Value.int .u8)].getD j []).length) (fun j => [ds, xs.map (Value.int .u8)].getD j []) _ (rdc_alloc w [.slice (some ⟨g, 0, none⟩) zs.length C, .slice A2 n2 c2] _) rfl (by omega) hown (sep2 s12) (fun j _ => rfl) (nat2 (by simp [hds]; omega) (by simp; omega)) (by have := ba.size; omega)).mono fun v w' ⟨h1, kb⟩ => ?_
  exact ⟨h1, kb.below (ba.mono hB) (own_low hown) (by have := ba.size; omega)⟩
theorem hd_back {q : HeadP} {body : List Int} (h : putH q body = true) : hdE (sealL (headB q ++ body)) = 0 ∧ hdP (sealL (headB q ++ body)) = q ∧ hdB (sealL (headB q ++ body)) = body := by
  have h1 := seal_open (bs := headB q ++ body)
  have h2 := head_back h
  have hE : hdE (sealL (headB q ++ body)) = 0 := by unfold hdE; rw [if_neg (fun hh => hh h1.1), h1.2, h2.1]
  exact ⟨hE, by unfold hdP; rw [if_pos hE, h1.2, h2.2.1], by unfold hdB; rw [if_pos hE, h1.2, h2.2.2]⟩
def awQ : HeadP := ⟨1, 2, 0, 1, 3, [(1, 1)]⟩
theorem awQ_put : putH awQ [7] = true := by decide
theorem awQ_bytes : headB awQ ++ [7] = [1, 0, 1, 0, 0, 0, 2, 0, 1, 1, 0, 0, 0, 3, 1, 0, 1, 7] := by decide
theorem headB_all {q : HeadP} {zs : List Int} (hz : AllB zs) : AllB (headB q ++ zs) := fun z hm => by
  rcases List.mem_append.1 hm with hm | hm
  · exact headB_Y z hm
  · exact hz z hm
set_option maxHeartbeats 4000000 in
theorem law14_awake (w : World) : Gives Try.prog 44 #[] w fun v w' => v = .bool true ∧ Below w.heap.size w w' := by
  refine gives_enter Try.call44 Try.func44 rfl rfl rfl (by kernel_rfl) ?_
  refine v_seq ?_
  refine v_region ?_
  refine vl_val (os_assign rfl) ?_
  refine vl_nil ?_
  refine v_seq ?_
  refine v_region ?_
  refine vl_val (os_build (cs := [.int .i64 1, .int .i64 1]) rfl (by kernel_rfl)) ?_
  refine vl_some (ot_litS (css := [[.int .i64 1, .int .i64 1]]) Try.underlying63 Try.sizeOf62 Try.zeroValue62 rfl rfl (by intro c hc; simp at hc; subst hc; rfl) (by decide) (by decide) (by decide)) ?_
  rintro v1 w1 ⟨rfl, r1, s1, b1⟩
  refine vl_val (os_build (cs := [.int .i64 1, .int .i64 2, .int .i64 0, .int .i64 1, .int .i64 3, .slice (some ⟨w.heap.size, 0, none⟩) 1 1]) rfl (by kernel_rfl)) ?_
  refine vl_val (os_allocB Try.zeroValue65 (zc := _) (cs := zH) rfl) ?_
  have hN0 := bk_new w1 zH 65
  have b2a : Below w1.heap.size w1 (w1.alloc (.cells zH.toArray 65)) := (Below.refl _ _).alloc (Nat.le_refl _) _
  refine vl_unit (ou_storeB (by kernel_rfl) rfl rfl hN0 rfl rfl) ?_
  have hN2 := setRow_bk hN0 [.int .i64 1, .int .i64 2, .int .i64 0, .int .i64 1, .int .i64 3, .slice (some ⟨w.heap.size, 0, none⟩) 1 1]
  have b2 := below_setRow b2a (Nat.le_refl _) [Value.int .i64 1, .int .i64 2, .int .i64 0, .int .i64 1, .int .i64 3, .slice (some ⟨w.heap.size, 0, none⟩) 1 1].toArray
  obtain ⟨d, hdd⟩ : ∃ d : HeadV, d = ⟨awQ, some ⟨w.heap.size, 0, none⟩, 1, 1⟩ := ⟨_, rfl⟩
  have hdq : d.q = awQ := by rw [hdd]
  have hd1 : HeadOk w1 d := by rw [hdd]; exact ⟨r1, rfl, (by decide : (1 : Nat) ≤ 9000000000000), ⟨(⟨by decide, by decide⟩ : I64 1), (⟨by decide, by decide⟩ : I64 2), (⟨by decide, by decide⟩ : I64 0), (⟨by decide, by decide⟩ : I64 1), (⟨by decide, by decide⟩ : I64 3)⟩, (fun p hp => by simp [awQ] at hp; subst hp; exact ⟨⟨by decide, by decide⟩, ⟨by decide, by decide⟩⟩), Nat.le_refl _⟩
  have hN2 : Bk ((w1.alloc (.cells zH.toArray 65)).setRow w1.heap.size [Value.int .i64 1, .int .i64 2, .int .i64 0, .int .i64 1, .int .i64 3, .slice (some ⟨w.heap.size, 0, none⟩) 1 1].toArray) w1.heap.size d.cells 65 := by rw [hdd]; exact hN2
  generalize hw2 : (w1.alloc (.cells zH.toArray 65)).setRow w1.heap.size [Value.int .i64 1, .int .i64 2, .int .i64 0, .int .i64 1, .int .i64 3, .slice (some ⟨w.heap.size, 0, none⟩) 1 1].toArray = w2 at *
  have hd2 := hd1.keep b2
  have b2w : Below w.heap.size w w2 := Below.trans b1 (b2.mono (Below.size b1))
  have hback := hd_back awQ_put
  have hby := awQ_bytes
  have hpV : hpV d.q [7] = sealL (headB awQ ++ [7]) := by unfold hpV; rw [hdq, awQ_put]; rfl
  have hpE : hpE d.q [7] = 0 := by unfold hpE; rw [hdq, awQ_put]; rfl
  have hz7 : AllB [7] := fun z hz => by simp at hz; omega
  have hlen : (sealL (headB awQ ++ [7])).length = 22 := by rw [sealL_len, hby]; rfl
  have b3a : Below w2.heap.size w2 (w2.alloc (.cells (([7] : List Int).map (Value.int .u8)).toArray 5)) := (Below.refl _ _).alloc (Nat.le_refl _) _
  refine vl_nil ?_
  refine v_seq ?_
  refine v_region ?_
  refine vl_val (os_loadB Try.underlying65 rfl (by kernel_rfl) rfl (hN2)) ?_
  refine vl_val (os_lit Try.underlying22 Try.sizeOf5 Try.zeroValue5 rfl rfl rfl rfl (by decide)) ?_
  refine vl_call (hd_Put d (some ⟨w2.heap.size, 0, none⟩) 1 1 [7] _ (hd2.keep b3a) (rd_alloc w2 .u8 [7] 5) rfl hz7) rfl ?_
  rintro v3 w3 ⟨s3, rfl, o3, b3'⟩
  have b3 := b3a.trans (b3'.mono b3a.size)
  rw [hpV] at o3
  obtain ⟨A3, c3, rfl, hc3, hm3, r3, -⟩ := OwnK.form o3
  rw [hlen] at hc3
  rw [hlen, hpE]
  have b3w := b2w.trans (b3.mono b2w.size)
  refine vl_val (os_move rfl) ?_
  refine vl_val (os_extract rfl rfl) ?_
  refine vl_val (os_extract rfl rfl) ?_
  refine vl_val (os_assign rfl) ?_
  refine vl_val (os_assign rfl) ?_
  refine vl_nil ?_
  refine v_seq ?_
  refine v_region ?_
  refine vl_val (os_move rfl) ?_
  refine vl_call (hd_Parse A3 22 c3 (sealL (headB awQ ++ [7])) w3 r3 hlen.symm hc3 (by omega) (sealL_B (headB_all hz7))) rfl ?_
  rintro v4 w4 ⟨A4, l4, c4, s4, rfl, hd4, o4, b4⟩
  rw [hback.1]
  rw [hback.2.1] at hd4
  rw [hback.2.1]
  rw [hback.2.2] at o4
  refine vl_val (os_move rfl) ?_
  refine vl_val (os_extract rfl rfl) ?_
  refine vl_val (os_extract rfl rfl) ?_
  refine vl_val (os_extract rfl rfl) ?_
  refine vl_val (os_allocB Try.zeroValue65 (zc := _) (cs := zH) rfl) ?_
  have hM0 := bk_new w4 zH 65
  have b5a : Below w4.heap.size w4 (w4.alloc (.cells zH.toArray 65)) := (Below.refl _ _).alloc (Nat.le_refl _) _
  refine vl_unit (ou_storeB (by kernel_rfl) rfl rfl hM0 rfl rfl) ?_
  have hM5 := setRow_bk hM0 (HeadV.cells ⟨awQ, A4, l4, c4⟩)
  have b5 := below_setRow b5a (Nat.le_refl _) (HeadV.cells ⟨awQ, A4, l4, c4⟩).toArray
  generalize hw5 : (w4.alloc (.cells zH.toArray 65)).setRow w4.heap.size (HeadV.cells ⟨awQ, A4, l4, c4⟩).toArray = w5 at *
  have b35 := b4.trans (b5.mono b4.size)
  have b5w := b3w.trans (b35.mono b3w.size)
  have r5 := r3.keep b35
  have hN5 := (hN2.keep b3).keep b35
  obtain ⟨A6, c6, rfl, hc6, hm6, r6, -⟩ := OwnK.form o4
  refine vl_val (os_assign rfl) ?_
  refine vl_val (os_assign rfl) ?_
  refine vl_nil ?_
  refine v_seq ?_
  refine v_region ?_
  refine vl_val (os_move rfl) ?_
  refine vl_val (os_t (os_eql rfl rfl) (rfl)) ?_
  refine vl_val (os_move rfl) ?_
  refine vl_valg rfl (os_move rfl) ?_
  refine vl_valg rfl (os_len Try.underlying22 rfl) ?_
  refine vl_valg rfl (os_t (os_eql rfl rfl) (rfl)) ?_
  refine vl_val (os_pick_t rfl rfl) ?_
  refine vl_val (os_move rfl) ?_
  refine vl_valg rfl (os_move rfl) ?_
  refine vl_valg rfl (os_slice_h Try.underlying22 Try.sizeOf5 rfl rfl (h := 18) (by omega) (by omega)) ?_
  have b6a : Below w5.heap.size w5 (w5.alloc (.cells (([1, 0, 1, 0, 0, 0, 2, 0, 1, 1, 0, 0, 0, 3, 1, 0, 1, 7] : List Int).map (Value.int .u8)).toArray 5)) := (Below.refl _ w5).alloc (Nat.le_refl _) _
  refine vl_valg rfl (os_lit Try.underlying22 Try.sizeOf5 Try.zeroValue5 rfl rfl rfl rfl (by decide)) ?_
  refine vl_callg rfl (gives_boolb (kit_SameBytes A3 _ 18 18 c3 18 ((sealL (headB awQ ++ [7])).take 18) [1, 0, 1, 0, 0, 0, 2, 0, 1, 1, 0, 0, 0, 3, 1, 0, 1, 7] _ ((r5.take 18).alloc _) (rd_alloc w5 .u8 [1, 0, 1, 0, 0, 0, 2, 0, 1, 1, 0, 0, 0, 3, 1, 0, 1, 7] 5) (by rw [List.length_take, hlen]; rfl) rfl (by decide) (by decide)) (decide_eq_true (by unfold sealL; rw [List.take_left' (by rw [hby]; rfl), hby]))) rfl ?_
  rintro v6 w6 ⟨rfl, d6⟩
  have b56 : Below w5.heap.size w5 w6 := b6a.trans ((led_below d6).mono b6a.size)
  have b6w := b5w.trans (b56.mono b5w.size)
  have hde6 := (hd4.keep b5).keep b56
  have hd6 := (((hd2.keep b3).keep b35).keep b56)
  refine vl_val (os_pick_t rfl rfl) ?_
  refine vl_val (os_move rfl) ?_
  refine vl_valg rfl (os_move rfl) ?_
  refine vl_valg rfl (os_t (os_eql rfl rfl) (rfl)) ?_
  refine vl_val (os_pick_t rfl rfl) ?_
  refine vl_val (os_move rfl) ?_
  refine vl_valg rfl (os_loadB Try.underlying65 rfl (by kernel_rfl) rfl (hM5.keep b56)) ?_
  refine vl_valg rfl (os_loadB Try.underlying65 rfl (by kernel_rfl) rfl (hN5.keep b56)) ?_
  refine vl_callg rfl (kit_SameHead ⟨awQ, A4, l4, c4⟩ d w6 hde6 hd6 hdq.symm) rfl ?_
  rintro v7 w7 ⟨rfl, b7⟩
  have b7w := b6w.trans (b7.mono b6w.size)
  have b8a : Below w7.heap.size w7 (w7.alloc (.cells (([7] : List Int).map (Value.int .u8)).toArray 5)) := (Below.refl _ _).alloc (Nat.le_refl _) _
  refine vl_val (os_pick_t rfl rfl) ?_
  refine vl_val (os_move rfl) ?_
  refine vl_valg rfl (os_move rfl) ?_
  refine vl_valg rfl (os_lit Try.underlying22 Try.sizeOf5 Try.zeroValue5 rfl rfl rfl rfl (by decide)) ?_
  refine vl_callg rfl (kit_SameBytes A6 _ _ 1 c6 1 [7] [7] _ ((((r6.keep b5).keep b56).keep b7).alloc _) (rd_alloc w7 .u8 [7] 5) rfl rfl (by decide) (by decide)) rfl ?_
  rintro v8 w8 ⟨rfl, d8⟩
  refine vl_val (os_pick_t rfl rfl) ?_
  refine vl_val (os_assign rfl) ?_
  refine vl_nil ?_
  refine v_ret ?_
  exact post_ret rfl rfl (⟨by simp, b7w.trans ((b8a.trans ((led_below d8).mono b8a.size)).mono b7w.size)⟩)
set_option maxHeartbeats 4000000 in
theorem law14_parses (A : Option Addr) (n c : Nat) (zs : List Int) (w : World) (ha : Rd w .u8 A zs) (hn : n = zs.length) (hc : n ≤ c) (hn' : n ≤ 1000000) (hz : AllB zs) : Gives Try.prog 43 #[.slice A n c] w fun v w' => v = .bool true ∧ Below w.heap.size w w' := by
  refine gives_enter Try.call43 Try.func43 rfl rfl rfl (by kernel_rfl) ?_
  refine v_seq ?_
  refine v_region ?_
  refine vl_val (os_assign rfl) ?_
  refine vl_nil ?_
  refine v_seq ?_
  refine v_region ?_
  refine vl_val (os_move rfl) ?_
  refine vl_call (kit_LentBytes A n c zs w ha hn (by omega)) rfl ?_
  rintro v1 w1 ⟨hL, b1⟩
  have hL0 := hL
  obtain ⟨g, C, rfl, hC, hCm, hgw, hg1, rL⟩ := hL0.form
  refine vl_val (os_assign rfl) ?_
  refine vl_nil ?_
  refine v_seq ?_
  refine v_region ?_
  refine vl_val (os_move rfl) ?_
  refine vl_call (hd_Parse (some ⟨g, 0, none⟩) zs.length C zs w1 rL rfl (by omega) (by omega) hz) rfl ?_
  rintro v2 w2 ⟨A2, l2, c2, s2, rfl, hd, o2, b2⟩
  have b2w := b1.trans (b2.mono b1.size)
  refine vl_val (os_move rfl) ?_
  refine vl_val (os_extract rfl rfl) ?_
  refine vl_val (os_extract rfl rfl) ?_
  refine vl_val (os_extract rfl rfl) ?_
  refine vl_val (os_allocB Try.zeroValue65 (zc := _) (cs := zH) rfl) ?_
  have hM0 := bk_new w2 zH 65
  have b3a : Below w2.heap.size w2 (w2.alloc (.cells zH.toArray 65)) := (Below.refl _ _).alloc (Nat.le_refl _) _
  refine vl_unit (ou_storeB (by kernel_rfl) rfl rfl hM0 rfl rfl) ?_
  have hM3 := setRow_bk hM0 (HeadV.cells ⟨hdP zs, A2, l2, c2⟩)
  have b3 := below_setRow b3a (Nat.le_refl _) (HeadV.cells ⟨hdP zs, A2, l2, c2⟩).toArray
  generalize hw3 : (w2.alloc (.cells zH.toArray 65)).setRow w2.heap.size (HeadV.cells ⟨hdP zs, A2, l2, c2⟩).toArray = w3 at *
  have b3w := b2w.trans (b3.mono b2w.size)
  refine vl_val (os_assign rfl) ?_
  refine vl_val (os_assign rfl) ?_
  refine vl_nil ?_
  refine v_seq ?_
  refine v_region ?_
  refine vl_val (os_move rfl) ?_
  refine vl_call (ref14_Parse A n c zs w3 (ha.keep b3w) hn hc (by omega) hz) rfl ?_
  rintro v4 w4 ⟨A4, l4, c4, s4, rfl, he, o4, b4⟩
  have b4w := b3w.trans (b4.mono b3w.size)
  refine vl_val (os_move rfl) ?_
  refine vl_val (os_extract rfl rfl) ?_
  refine vl_val (os_extract rfl rfl) ?_
  refine vl_val (os_extract rfl rfl) ?_
  refine vl_val (os_allocB Try.zeroValue65 (zc := _) (cs := zH) rfl) ?_
  have hE0 := bk_new w4 zH 65
  have b5a : Below w4.heap.size w4 (w4.alloc (.cells zH.toArray 65)) := (Below.refl _ _).alloc (Nat.le_refl _) _
  refine vl_unit (ou_storeB (by kernel_rfl) rfl rfl hE0 rfl rfl) ?_
  have hE5 := setRow_bk hE0 (HeadV.cells ⟨hdP zs, A4, l4, c4⟩)
  have b5 := below_setRow b5a (Nat.le_refl _) (HeadV.cells ⟨hdP zs, A4, l4, c4⟩).toArray
  generalize hw5 : (w4.alloc (.cells zH.toArray 65)).setRow w4.heap.size (HeadV.cells ⟨hdP zs, A4, l4, c4⟩).toArray = w5 at *
  have b5w := b4w.trans (b5.mono b4w.size)
  have b35 := b4.trans (b5.mono b4.size)
  have b25 := b3.trans (b35.mono b3.size)
  have b15 := b2.trans (b25.mono b2.size)
  have hbl : (hdB zs).length ≤ 1000000 := by unfold hdB bodyP; split; (rw [List.length_drop]; have := hd_openV_len zs; omega); simp
  refine vl_val (os_assign rfl) ?_
  refine vl_val (os_assign rfl) ?_
  refine vl_nil ?_
  refine v_seq ?_
  refine v_region ?_
  refine vl_val (os_move rfl) ?_
  refine vl_val (os_move rfl) ?_
  refine vl_val (os_t (os_eql rfl rfl) (rfl)) ?_
  refine vl_val (os_move rfl) ?_
  refine vl_valg rfl (os_loadB Try.underlying65 rfl (by kernel_rfl) rfl (hM3.keep b35)) ?_
  refine vl_valg rfl (os_loadB Try.underlying65 rfl (by kernel_rfl) rfl (hE5)) ?_
  refine vl_callg rfl (kit_SameHead ⟨hdP zs, A2, l2, c2⟩ ⟨hdP zs, A4, l4, c4⟩ w5 ((hd.keep b3).keep b35) (he.keep b5) rfl) rfl ?_
  rintro v6 w6 ⟨rfl, b6⟩
  have b6w := b5w.trans (b6.mono b5w.size)
  have o26 := Own.keepAll (Own.keepAll o2 b25) b6
  have o46 := Own.keepAll (Own.keepAll o4 b5) b6
  obtain ⟨AX, cX, rfl, -, -, rX, -⟩ := OwnK.form o26
  obtain ⟨AY, cY, rfl, -, -, rY, -⟩ := OwnK.form o46
  refine vl_val (os_pick_t rfl rfl) ?_
  refine vl_val (os_move rfl) ?_
  refine vl_valg rfl (os_move rfl) ?_
  refine vl_valg rfl (os_move rfl) ?_
  refine vl_callg rfl (gives_boolb (kit_SameBytes AX AY _ _ cX cY (hdB zs) (hdB zs) w6 rX rY rfl rfl (by omega) (by omega)) (decide_eq_true rfl)) rfl ?_
  rintro v7 w7 ⟨rfl, d7⟩
  have b7w := b6w.trans ((led_below d7).mono b6w.size)
  have hL7 := ((hL.keep b15).keep b6).led d7
  refine vl_val (os_pick_t rfl rfl) ?_
  refine vl_val (os_move rfl) ?_
  refine vl_valg rfl (os_move rfl) ?_
  refine vl_valg rfl (os_move rfl) ?_
  refine vl_callg rfl (kit_KeptBytes (.slice (some ⟨g, 0, none⟩) zs.length C) w.heap.size A n c zs w7 hL7 (ha.keep b7w) hn (by omega)) rfl ?_
  rintro v8 w8 ⟨rfl, d8⟩
  have b8w := b7w.trans ((led_below d8).mono b7w.size)
  refine vl_val (os_pick_t rfl rfl) ?_
  refine vl_val (os_move rfl) ?_
  refine vl_valg rfl (os_move rfl) ?_
  refine vl_valg rfl (os_move rfl) ?_
  refine vl_valg rfl (os_lit Try.underlying23 Try.sizeOf22 Try.zeroValue22 rfl rfl rfl rfl (by decide)) ?_
  refine vl_callg rfl (kit_Apart2 g C w.heap.size _ cX w1.heap.size AX zs (hdB zs) w8 (hL7.led d8) (Own.led (Own.led o26 d7) d8) hg1 (by omega) (by omega) (by omega) b8w.size) rfl ?_
  rintro v9 w9 ⟨rfl, b9⟩
  refine vl_val (os_pick_t rfl rfl) ?_
  refine vl_val (os_assign rfl) ?_
  refine vl_nil ?_
  refine v_ret ?_
  exact post_ret rfl rfl (⟨rfl, b8w.trans b9⟩)
theorem law14_HeadParses (A : Option Addr) (n c : Nat) (zs : List Int) (w : World) (ha : Rd w .u8 A zs) (hn : n = zs.length) (hc : n ≤ c) (hz : AllB zs) : Gives Try.prog 42 #[.slice A n c] w fun v w' => v = .bool true ∧ Below w.heap.size w w' := by
  refine gives_enter Try.call42 Try.func42 rfl rfl rfl (by kernel_rfl) ?_
  refine v_seq ?_
  refine v_region ?_
  refine vl_val (os_assign rfl) ?_
  refine vl_nil ?_
  refine v_seq ?_
  refine v_seq ?_
  refine v_region ?_
  refine vl_val (os_move rfl) ?_
  refine vl_val (os_len Try.underlying22 rfl) ?_
  refine vl_val (os_gtr rfl rfl) ?_
  refine vl_nil ?_
  refine v_cond_d rfl (fun hbig => ?_) (fun hbig => ?_)
  · refine v_seq ?_
    refine v_region ?_
    refine vl_call (law14_awake w) rfl ?_
    rintro v1 w1 ⟨rfl, b1⟩
    refine vl_val (os_assign rfl) ?_
    refine vl_nil ?_
    refine v_ret ?_
    exact post_ret rfl rfl (⟨rfl, b1⟩)
  · refine v_skip ?_
    refine v_seq ?_
    refine v_region ?_
    refine vl_val (os_move rfl) ?_
    refine vl_call (r7_Seal A n c zs w ha hn (by omega) hz) rfl ?_
    rintro v2 w2 ⟨o2, b2⟩
    obtain ⟨A2, c2, rfl, hc2, hm2, r2, -⟩ := OwnK.form o2
    have hl2 := sealL_len zs
    refine vl_val (os_assign rfl) ?_
    refine vl_nil ?_
    refine v_seq ?_
    refine v_region ?_
    refine vl_val (os_move rfl) ?_
    refine vl_call (law14_parses A n c zs w2 (ha.keep b2) hn hc (by omega) hz) rfl ?_
    rintro v1 w1 ⟨rfl, b1⟩
    have b1w := b2.trans (b1.mono b2.size)
    refine vl_val (os_move rfl) ?_
    refine vl_valg rfl (os_move rfl) ?_
    refine vl_callg rfl (law14_parses A2 _ c2 (sealL zs) w1 (r2.keep b1) rfl hc2 (by omega) (sealL_B hz)) rfl ?_
    rintro v3 w3 ⟨rfl, b3⟩
    have b3w := b1w.trans (b3.mono b1w.size)
    refine vl_val (os_pick_t rfl rfl) ?_
    refine vl_val (os_move rfl) ?_
    refine vl_callg rfl (law14_awake w3) rfl ?_
    rintro v4 w4 ⟨rfl, b4⟩
    refine vl_val (os_pick_t rfl rfl) ?_
    refine vl_val (os_assign rfl) ?_
    refine vl_nil ?_
    refine v_ret ?_
    exact post_ret rfl rfl (⟨rfl, b3w.trans (b4.mono b3w.size)⟩)
end Go.Proofs.Ytpojijnjdlnokaa

/- The law's kit: headers that are lent; whether they are still as they were. -/
namespace Go.Proofs.Ytpojijnjdlnokaa
open Go.RowKit
set_option linter.unusedVariables false

set_option maxHeartbeats 1000000 in
theorem kit_KeptHead (d e : HeadV) (B : Nat) (w : World) (hv : LentW w B 62 (.slice d.A d.l d.c) e.q.rows) (hd : HeadOk w d) (he : HeadOk w e) (hq : d.q = e.q) (h5 : d.l ≤ 100000000) : Gives Try.prog 82 #[.agg d.cells.toArray, .agg e.cells.toArray] w fun v w' => v = .bool true ∧ Below w.heap.size w w' := by
  have hA0 := bk_new w d.cells 65
  have hb0 : Below w.heap.size w (w.alloc (.cells d.cells.toArray 65)) := (Below.refl _ w).alloc (Nat.le_refl _) _
  have hA := hA0.alloc (.cells e.cells.toArray 65)
  have hB := bk_new (w.alloc (.cells d.cells.toArray 65)) e.cells 65
  have hb1 := hb0.alloc hb0.size (.cells e.cells.toArray 65)
  have hd1 := hd.keep hb1
  have he1 := he.keep hb1
  have hv1 := hv.keep hb1
  have l1 := hd.2.1
  have l2 := he.2.1
  refine gives_enter Try.call82 Try.func82 rfl rfl rfl (by kernel_rfl) ?_
  refine v_seq ?_
  refine v_region ?_
  refine vl_val (os_box rfl) ?_
  refine vl_val (os_box rfl) ?_
  refine vl_val (os_assign rfl) ?_
  refine vl_nil ?_
  refine v_seq ?_
  refine v_region ?_
  refine vl_val (os_loadB Try.underlying65 rfl (by kernel_rfl) rfl (hA)) ?_
  refine vl_val (os_loadB Try.underlying65 rfl (by kernel_rfl) rfl (hB)) ?_
  refine vl_call (kit_SameHead d e _ hd1 he1 hq) rfl ?_
  rintro v1 w1 ⟨rfl, b1⟩
  refine vl_val (os_move rfl) ?_
  refine vl_valg rfl (os_fa (o := 5) (k := 0) (by kernel_rfl) rfl) ?_
  refine vl_valg rfl (os_load Try.isAgg63 rfl ((hA.keep b1).cell (i := 5) rfl)) ?_
  refine vl_valg rfl (os_fa (o := 5) (k := 0) (by kernel_rfl) rfl) ?_
  refine vl_valg rfl (os_load Try.isAgg63 rfl ((hB.keep b1).cell (i := 5) rfl)) ?_
  refine vl_callg rfl (kit_KeptTable (.slice d.A d.l d.c) B e.A e.l e.c e.q.rows _ (hv1.keep b1) (he1.keep b1).1 l2 (by rw [l2, ← hq, ← l1]; exact h5)) rfl ?_
  rintro v2 w2 ⟨rfl, b2⟩
  have b12 := hb1.trans (b1.mono hb1.size)
  refine vl_val (os_pick_t rfl rfl) ?_
  refine vl_val (os_assign rfl) ?_
  refine vl_nil ?_
  refine v_ret ?_
  exact post_ret rfl rfl (⟨rfl, b12.trans (b2.mono b12.size)⟩)
/-- a header that the kit has lent -/
def lentH (d : HeadV) (g C : Nat) : HeadV := ⟨d.q, some ⟨g, 0, none⟩, d.q.rows.length, C⟩
set_option maxHeartbeats 1000000 in
theorem kit_LentHead (d : HeadV) (w : World) (hd : HeadOk w d) (hl : d.l ≤ 100000000) : Gives Try.prog 76 #[.agg d.cells.toArray] w fun v w' => ∃ g C, v = .agg (lentH d g C).cells.toArray ∧ LentW w' w.heap.size 62 (.slice (some ⟨g, 0, none⟩) d.q.rows.length C) d.q.rows ∧ HeadOk w' (lentH d g C) ∧ Below w.heap.size w w' := by
  have hA0 := bk_new w d.cells 65
  have hb0 : Below w.heap.size w (w.alloc (.cells d.cells.toArray 65)) := (Below.refl _ w).alloc (Nat.le_refl _) _
  have hA := hA0.alloc (.cells zH.toArray 65)
  have hB := bk_new (w.alloc (.cells d.cells.toArray 65)) zH 65
  have hb1 := hb0.alloc hb0.size (.cells zH.toArray 65)
  have hd1 := hd.keep hb1
  have l1 := hd.2.1
  refine gives_enter Try.call76 Try.func76 rfl rfl rfl (by kernel_rfl) ?_
  refine v_seq ?_
  refine v_region ?_
  refine vl_val (os_box rfl) ?_
  refine vl_val (os_allocB Try.zeroValue65 (zc := _) (cs := zH) rfl) ?_
  simp only [World.size_alloc]
  refine vl_nil ?_
  refine v_seq ?_
  refine v_region ?_
  refine vl_val (os_fa (o := 5) (k := 0) (by kernel_rfl) rfl) ?_
  refine vl_val (os_load Try.isAgg63 rfl (hA.cell (i := 5) rfl)) ?_
  refine vl_call (kit_LentTable d.A d.l d.c d.q.rows _ hd1.1 l1 hl) rfl ?_
  rintro v1 w1 ⟨hL, b1⟩
  have hL0 := hL
  obtain ⟨g, C, rfl, hC, hg1, hg2, hr⟩ := hL0.form
  have hA1 := hA.keep b1
  have hB1 := hB.keep b1
  simp only [World.size_alloc] at hA1 hB1 hL hg1 b1 hb1
  refine vl_val (os_fa (o := 5) (k := 0) (by kernel_rfl) rfl) ?_
  refine vl_unit (ou_store Try.sizeOf63 rfl rfl rfl (hA1.cell (i := 5) rfl) (hA1.free _)) ?_
  have hA2 := hA1.set 5 (.slice (some ⟨g, 0, none⟩) d.q.rows.length C)
  have hB2 := Bk.setOther hB1 (show w.heap.size ≠ w.heap.size + 1 by omega) (0 + 5) (.slice (some ⟨g, 0, none⟩) d.q.rows.length C)
  refine vl_nil ?_
  refine v_seq ?_
  refine v_region ?_
  refine vl_val (os_loadB Try.underlying65 rfl (by kernel_rfl) rfl (hA2)) ?_
  refine vl_unit (ou_storeB (by kernel_rfl) rfl rfl hB2 rfl rfl) ?_
  have hB3 := setRow_bk hB2 (lentH d g C).cells
  have k3 : Kb [w.heap.size, w.heap.size + 1] w1 ((w1.setCell ⟨w.heap.size, 0 + 5, none⟩ (.slice (some ⟨g, 0, none⟩) d.q.rows.length C)).setRow (w.heap.size + 1) (lentH d g C).cells.toArray) := (Kb.set (S := [w.heap.size, w.heap.size + 1]) (by simp) (0 + 5) _).trans (Kb.setRow (S := [w.heap.size, w.heap.size + 1]) (by simp) _) (fun k hk => .inl hk)
  have hL3 := hL.kb k3 (fun k hk => by cases hk; simp; omega)
  have b3 := Kb.below k3 (hb1.trans (b1.mono (by omega))) (fun k hk => by simp at hk; omega) (by omega)
  have hN : HeadOk _ (lentH d g C) := ⟨by obtain ⟨g', C', e', _, _, _, hr'⟩ := hL3.form; cases e'; exact hr', rfl, by show d.q.rows.length ≤ _; omega, hd.2.2.2.1, hd.2.2.2.2.1, by show d.q.rows.length ≤ C; omega⟩
  refine vl_nil ?_
  refine v_ret ?_
  exact post_cell rfl rfl Try.underlying65 rfl (by kernel_rfl) hB3 ⟨g, C, rfl, hL3.mono (by omega), hN, b3⟩
end Go.Proofs.Ytpojijnjdlnokaa
