/- Texts joined: GsS KitP GsT. -/
import Derived.Test.YtpjmiafefammkaaM18
import Derived.Test.YtpjmiafefammkaaProg
/- Layer 24: the walk of GuessSmall. -/
namespace Go.Proofs.Ytpjmiafefammkaa
open Go.RowKit
set_option linter.unusedVariables false

section
variable {P : Program} {n : Cx} {fr : Fr} {w : World} {ty : TypeId} {T e : TypeId}
theorem ot_litS {l s : Nat} {ps : List (Nat × Operand)} {css : List (List Value)} {z0 : Value} (hT : P.underlying T = some (.slice e)) (hs : ∀ w, (sizeOf e).run P w = .ok s w) (hz : ∀ w, (zeroValue e).run P w = .ok z0 w) (hx : evP fr ps 0 = some (aggs css)) (hl : l = css.length) (h1 : ∀ cs ∈ css, cs.length = s) (h0 : 0 < l) (hs0 : 0 < s) (h2 : l * s ≤ 16777216) :
    OT P n (.buildSlice T l ps.toArray) ty fr w fun v w' => v = .slice (some ⟨w.heap.size, 0, none⟩) l l ∧ RdP w' s (some ⟨w.heap.size, 0, none⟩) css ∧ w'.heap.size = w.heap.size + 1 ∧ LeG w w' :=
  (os_litS hT hs hz hx hl h1 h0 hs0 h2).ot ⟨rfl, rdp_alloc _ _ _ h1, by simp, (Below.refl _ _).alloc (Nat.le_refl _) _⟩
end
theorem RdP.blk {w w' s A ps} (h : RdP w s A ps) (hb : ∀ a, A = some a → w'.heap[a.block]? = w.heap[a.block]?) : RdP w' s A ps := fun i c hc => by
  obtain ⟨b, o, e, hcell⟩ := h i c hc
  subst e
  refine ⟨b, o, rfl, fun j v hv => ?_⟩
  have := hcell j v hv
  have hb2 := hb _ rfl
  unfold World.cell? at this ⊢
  simp only [] at hb2 this ⊢
  rw [hb2]; exact this
theorem NoteOk.blk {w w' : World} {d : NoteV} (h : NoteOk w d) (hb : ∀ a, d.A = some a → w'.heap[a.block]? = w.heap[a.block]?) : NoteOk w' d := ⟨h.1.blk hb, h.2⟩
theorem ti_notes : TyInfo Try.prog 35 (.agg #[.int .i64 0, .int .i64 0, .int .i64 0, .slice none 0 0]) 4 48 := by unfold TyInfo; kernel_rfl
theorem cells_len (ds : List NoteV) : ∀ c ∈ ds.map NoteV.cells, c.length = 4 := fun c hc => by obtain ⟨x, _, rfl⟩ := List.mem_map.1 hc; rfl
theorem guess_Seq0 (p : Option Addr) (w : World) (h : Gives Try.prog 58 #[.pointer p] w fun v w' => v = .bool false ∧ w' = w) : Gives Try.prog 27 #[.pointer p] w fun v w' => v = .int .i64 0 ∧ w' = w := by
  refine gives_enter Try.call27 Try.func27 rfl rfl rfl (by kernel_rfl) ?_
  refine v_seq ?_
  refine v_region ?_
  refine vl_val (os_assign rfl) ?_
  refine vl_nil ?_
  refine v_seq ?_
  refine v_seq ?_
  refine v_region ?_
  refine vl_val (os_move rfl) ?_
  refine vl_call (h) rfl ?_
  rintro v w ⟨rfl, rfl⟩
  refine vl_val (os_not rfl) ?_
  refine vl_nil ?_
  refine v_cond_t rfl ?_
  refine v_seq ?_
  refine v_region ?_
  refine vl_val (os_assign rfl) ?_
  refine vl_nil ?_
  refine v_ret ?_
  exact post_ret rfl rfl (⟨rfl, rfl⟩)
theorem guess_Hear0 (p : Option Addr) (d : NoteV) (w : World) (h : ∀ w', Below w.heap.size w w' → Gives Try.prog 58 #[.pointer p] w' fun v w'' => v = .bool false ∧ w'' = w') : Gives Try.prog 21 #[.pointer p, .agg d.cells.toArray] w fun v w' => v = .int .i64 1 ∧ Below w.heap.size w w' := by
  have hb0 : Below w.heap.size w (w.alloc (.cells d.cells.toArray 35)) := (Below.refl _ w).alloc (Nat.le_refl _) _
  refine gives_enter Try.call21 Try.func21 rfl rfl rfl (by kernel_rfl) ?_
  refine v_seq ?_
  refine v_region ?_
  refine vl_val (os_box rfl) ?_
  refine vl_val (os_assign rfl) ?_
  refine vl_nil ?_
  refine v_seq ?_
  refine v_seq ?_
  refine v_region ?_
  refine vl_val (os_move rfl) ?_
  refine vl_call (h _ hb0) rfl ?_
  rintro v w ⟨rfl, rfl⟩
  refine vl_val (os_not rfl) ?_
  refine vl_nil ?_
  refine v_cond_t rfl ?_
  refine v_seq ?_
  refine v_region ?_
  refine vl_val (os_assign rfl) ?_
  refine vl_nil ?_
  refine v_ret ?_
  exact post_ret rfl rfl (⟨rfl, hb0⟩)
def gEnds : List Int := [-9223372036854775808, -1, 0, 1, 2, 3, 254, 255, 256, 65535, 65536, 2147483647, 2147483648]
theorem gEnds_in (k : Nat) : I64 (gEnds.getD k 0) := by
  by_cases h : k < 13
  · have : ∀ k, k < 13 → -9223372036854775808 ≤ gEnds.getD k 0 ∧ gEnds.getD k 0 ≤ 9223372036854775807 := by decide
    exact ⟨by have := this k h; omega, by have := this k h; omega⟩
  · rw [List.getD_eq_getElem?_getD, List.getElem?_eq_none (by simp [gEnds]; omega)]; exact ⟨by decide, by decide⟩
/-- the seven reports -/
def sevenN (x y m k : Int) (c d : Addr) : List NoteV := [⟨7, x, 3, some c, 1, 1, [(x, y)]⟩, ⟨x, 2, 3, some d, 2, 2, [(1, 3), (1 + m, x)]⟩, ⟨7, y, x, some c, 1, 1, [(x, y)]⟩, ⟨7, k, 3, some d, 2, 2, [(1, 3), (1 + m, x)]⟩, ⟨7, 5, 3, some c, 1, 1, [(x, y)]⟩, ⟨7, 6, 3, none, 0, 0, []⟩, ⟨7, 2147483647, 3, some d, 2, 2, [(1, 3), (1 + m, x)]⟩]
theorem i64_mk {z : Int} (h : -9223372036854775808 ≤ z ∧ z ≤ 9223372036854775807) : I64 z := ⟨by omega, by omega⟩
theorem seven_ok {w : World} {x y m k : Int} {c d : Addr} (hc : RdP w 2 (some c) ([(x, y)].map rowC)) (hd : RdP w 2 (some d) ([(1, 3), (1 + m, x)].map rowC)) (hx : I64 x) (hy : I64 y) (hm : 0 ≤ m ∧ m ≤ 2) (hk : 0 ≤ k ∧ k ≤ 8) : ∀ e ∈ sevenN x y m k c d, NoteOk w e := by
  have c1 : ∀ p ∈ [(x, y)], I64 p.1 ∧ I64 p.2 := fun p hp => by rw [List.mem_singleton.1 hp]; exact ⟨hx, hy⟩
  have d1 : ∀ p ∈ [((1 : Int), (3 : Int)), (1 + m, x)], I64 p.1 ∧ I64 p.2 := fun p hp => by
    simp only [List.mem_cons, List.not_mem_nil, or_false] at hp
    rcases hp with rfl | rfl
    · exact ⟨i64_mk (by decide), i64_mk (by decide)⟩
    · exact ⟨i64_mk (by simp only []; omega), hx⟩
  have q7 : I64 7 := i64_mk (by decide)
  have q3 : I64 3 := i64_mk (by decide)
  have q2 : I64 2 := i64_mk (by decide)
  have q5 : I64 5 := i64_mk (by decide)
  have q6 : I64 6 := i64_mk (by decide)
  have qm : I64 2147483647 := i64_mk (by decide)
  have qk : I64 k := i64_mk (by omega)
  have l0 : (0 : Nat) ≤ 9000000000000 := by decide
  have l1 : (1 : Nat) ≤ 9000000000000 := by decide
  have l2 : (2 : Nat) ≤ 9000000000000 := by decide
  intro e he
  simp only [sevenN, List.mem_cons, List.not_mem_nil, or_false] at he
  rcases he with rfl | rfl | rfl | rfl | rfl | rfl | rfl
  · exact ⟨hc, rfl, l1, ⟨q7, hx, q3⟩, c1⟩
  · exact ⟨hd, rfl, l2, ⟨hx, q2, q3⟩, d1⟩
  · exact ⟨hc, rfl, l1, ⟨q7, hy, hx⟩, c1⟩
  · exact ⟨hd, rfl, l2, ⟨q7, qk, q3⟩, d1⟩
  · exact ⟨hc, rfl, l1, ⟨q7, q5, q3⟩, c1⟩
  · exact ⟨fun i c hc => by simp at hc, rfl, l0, ⟨q7, q6, q3⟩, fun p hp => by cases hp⟩
  · exact ⟨hd, rfl, l2, ⟨q7, qm, q3⟩, d1⟩
theorem seven_grow {w3 w4 w5 w6 : World} {B : Nat} {V : Value} {ds : List NoteV} {d : NoteV} (hok : ∀ e ∈ ds, NoteOk w3 e) (hne : ∀ e ∈ ds, ∀ a, e.A = some a → a.block < w3.heap.size ∧ V.ownBlock ≠ some a.block) (hlow : ∀ a, d.A = some a → w3.heap.size ≤ a.block ∧ a.block < w4.heap.size) (hvl : ∀ k, V.ownBlock = some k → B ≤ k ∧ k < w3.heap.size) (hd5 : NoteOk w5 d) (b45 : Below w3.heap.size w3 w5) (s4 : w4.heap.size ≤ w5.heap.size) (hkeep : ∀ a : Addr, a.block < w5.heap.size → V.ownBlock ≠ some a.block → w6.heap[a.block]? = w5.heap[a.block]?) : ∀ e ∈ ds ++ [d], NoteOk w6 e := by
  intro e he
  have s3 := b45.size
  rcases List.mem_append.1 he with h | h
  · exact ((hok e h).keep b45).blk fun a ha => hkeep a (by have := (hne e h a ha).1; omega) (hne e h a ha).2
  · rw [List.mem_singleton.1 h]
    exact hd5.blk fun a ha => hkeep a (by have := hlow a ha; omega) fun e => by have := hlow a ha; have := hvl _ e; omega
theorem seven_ne {w3 w4 w5 w6 : World} {B : Nat} {V v6 : Value} {ds : List NoteV} {d : NoteV} (hne : ∀ e ∈ ds, ∀ a, e.A = some a → a.block < w3.heap.size ∧ V.ownBlock ≠ some a.block) (hlow : ∀ a, d.A = some a → w3.heap.size ≤ a.block ∧ a.block < w4.heap.size) (hvl : ∀ k, V.ownBlock = some k → B ≤ k ∧ k < w3.heap.size) (hv6 : v6.ownBlock = V.ownBlock ∨ v6.ownBlock = some w5.heap.size) (s3 : w3.heap.size ≤ w5.heap.size) (s4 : w4.heap.size ≤ w5.heap.size) (s6 : w5.heap.size ≤ w6.heap.size) : ∀ e ∈ ds ++ [d], ∀ a, e.A = some a → a.block < w6.heap.size ∧ v6.ownBlock ≠ some a.block := by
  intro e he a ha
  rcases List.mem_append.1 he with h | h
  · have h1 := hne e h a ha
    refine ⟨by omega, fun h2 => ?_⟩
    rcases hv6 with h3 | h3
    · exact h1.2 (h3 ▸ h2)
    · rw [h3] at h2; injection h2 with h2; omega
  · rw [List.mem_singleton.1 h] at ha
    have h1 := hlow a ha
    refine ⟨by omega, fun h2 => ?_⟩
    rcases hv6 with h3 | h3
    · have := hvl _ (h3 ▸ h2); omega
    · rw [h3] at h2; injection h2 with h2; omega
theorem RdN.take {w A ds} (h : RdN w A ds) (n : Nat) : RdN w A (ds.take n) := ⟨by rw [List.map_take]; exact h.1.take n, fun d hd => h.2 d (List.mem_of_mem_take hd)⟩

theorem zero257 : (mkG [] 0 0 0)[257]? = some (.int .i64 0) := (mkG_at (ps := []) (by decide) 0 0 0).2.1
set_option maxHeartbeats 8000000 in
theorem law24_GuessSmall (w : World) : Gives Try.prog 4 #[] w fun v w' => v = .bool true ∧ Below w.heap.size w w' := by
  refine gives_enter Try.call4 Try.func4 rfl rfl rfl (by kernel_rfl) ?_
  have r0 := rd_alloc w .i64 gEnds 3
  have b0 : Below w.heap.size w (w.alloc (.cells (gEnds.map (Value.int .i64)).toArray 3)) := (Below.refl _ w).alloc (Nat.le_refl _) _
  refine v_seq ?_
  refine v_region ?_
  refine vl_val (os_assign rfl) ?_
  refine vl_nil ?_
  refine v_seq ?_
  refine v_region ?_
  refine vl_val (os_lit Try.underlying40 Try.sizeOf3 Try.zeroValue3 rfl rfl rfl rfl (by decide)) ?_
  refine vl_val (os_assign rfl) ?_
  refine vl_nil ?_
  refine v_seq ?_
  refine v_seq ?_
  refine v_region ?_
  refine vl_val (os_assign rfl) ?_
  refine vl_nil ?_
  refine v_block ?_
  refine v_loop [(1, _)] (fun (n : Nat) => [(2, .int .i64 n)]) (fun n w' => n ≤ 169 ∧ Below w.heap.size w w' ∧ Rd w' .i64 (some ⟨w.heap.size, 0, none⟩) gEnds) (fun n => 169 - n) (0) ⟨rfl, trivial⟩ ⟨rfl, trivial⟩ (⟨by omega, b0, r0⟩) ?_
  rintro n w2 ⟨hn, hb2, r2⟩
  refine v_seq ?_
  refine v_seq ?_
  refine v_region ?_
  refine vl_val (os_move rfl) ?_
  refine vl_val (os_lss rfl rfl) ?_
  refine vl_nil ?_
  refine v_cond_d rfl (fun h => ?_) (fun h => ?_)
  · obtain ⟨ends, hE⟩ : ∃ ends, ends = gEnds := ⟨_, rfl⟩
    rw [← hE] at r2
    have hlE : ends.length = 13 := by rw [hE]; rfl
    obtain ⟨i, hi⟩ : ∃ i, n % 13 = i := ⟨_, rfl⟩
    obtain ⟨j, hj⟩ : ∃ j, n / 13 = j := ⟨_, rfl⟩
    obtain ⟨_, _, e1, ci⟩ := r2.at_ (i := i) (by omega)
    cases e1
    obtain ⟨_, _, e1, cj⟩ := r2.at_ (i := j) (by omega)
    cases e1
    have hX : I64 (ends.getD i 0) := by rw [hE]; exact gEnds_in i
    have hY : I64 (ends.getD j 0) := by rw [hE]; exact gEnds_in j
    refine v_skip ?_
    refine v_seq ?_
    refine v_block ?_
    refine v_seq ?_
    refine v_region_t LeD _ mixed (by kernel_rfl) lee_d (led_start _) ?_
    refine vt_val (fun w hw => os_move rfl) ?_
    refine vt_val (fun w hw => os_move rfl) ?_
    refine vt_val (fun w hw => os_remi rfl rfl (by omega)) ?_
    refine vt_val (fun w hw => os_ix Try.underlying40 Try.sizeOf3 rfl rfl (i := i) (by omega) (by omega)) ?_
    refine vt_val (fun w hw => os_load Try.isAgg3 rfl (led_cell hw (ci))) ?_
    refine vt_val (fun w hw => os_move rfl) ?_
    refine vt_val (fun w hw => os_move rfl) ?_
    refine vt_val (fun w hw => os_quoi rfl rfl (by omega)) ?_
    refine vt_val (fun w hw => os_ix Try.underlying40 Try.sizeOf3 rfl rfl (i := j) (by omega) (by omega)) ?_
    refine vt_val (fun w hw => os_load Try.isAgg3 rfl (led_cell hw (cj))) ?_
    refine vt_val (fun w hw => os_assign rfl) ?_
    refine vt_val (fun w hw => os_assign rfl) ?_
    refine vt_nil (fun w hw => ?_)
    obtain ⟨q, rfl⟩ := hw
    obtain ⟨x, hx⟩ : ∃ x, x = ends.getD i 0 := ⟨_, rfl⟩
    obtain ⟨y, hy⟩ : ∃ y, y = ends.getD j 0 := ⟨_, rfl⟩
    rw [← hx, ← hy]
    rw [← hx] at hX
    rw [← hy] at hY
    have d3 : LeD w2 (w2.drewN q) := ⟨q, rfl⟩
    generalize w2.drewN q = w3 at d3
    have b3w : Below w.heap.size w w3 := hb2.trans ((led_below d3).mono hb2.size)
    have r3 := r2.led d3
    refine v_seq ?_
    refine v_region ?_
    refine vl_val (os_move rfl) ?_
    refine vl_val (os_move rfl) ?_
    refine vl_val (os_build (cs := [.int .i64 x, .int .i64 y]) rfl (by kernel_rfl)) ?_
    refine vl_some (ot_litS (css := [[.int .i64 x, .int .i64 y]]) Try.underlying33 Try.sizeOf49 Try.zeroValue49 rfl rfl (by intro c hc; simp at hc; subst hc; rfl) (by decide) (by decide) (by decide)) ?_
    rintro v4 w4 ⟨rfl, r4, s4, b4⟩
    obtain ⟨m3, hm3⟩ : ∃ m3 : Int, (n : Int) % 3 = m3 ∧ 0 ≤ m3 ∧ m3 ≤ 2 := ⟨_, rfl, by omega, by omega⟩
    obtain ⟨k9, hk9⟩ : ∃ k9 : Int, (n : Int) % 9 = k9 ∧ 0 ≤ k9 ∧ k9 ≤ 8 := ⟨_, rfl, by omega, by omega⟩
    refine vl_val (os_assign rfl) ?_
    refine vl_nil ?_
    refine v_seq ?_
    refine v_region ?_
    refine vl_val (os_build (cs := [.int .i64 1, .int .i64 3]) rfl (by kernel_rfl)) ?_
    refine vl_val (os_move rfl) ?_
    refine vl_val (os_remi rfl rfl (by omega)) ?_
    rw [hm3.1]
    refine vl_val (os_addi rfl rfl (by omega)) ?_
    refine vl_val (os_move rfl) ?_
    refine vl_val (os_build (cs := [.int .i64 (1 + m3), .int .i64 x]) rfl (by kernel_rfl)) ?_
    refine vl_some (ot_litS (css := [[.int .i64 1, .int .i64 3], [.int .i64 (1 + m3), .int .i64 x]]) Try.underlying33 Try.sizeOf49 Try.zeroValue49 rfl rfl (by intro c hc; simp at hc; rcases hc with rfl | rfl <;> rfl) (by decide) (by decide) (by decide)) ?_
    rintro v5 w5 ⟨rfl, r5, s5, b5⟩
    refine vl_val (os_assign rfl) ?_
    refine vl_nil ?_
    refine v_seq ?_
    refine v_region ?_
    refine vl_val (os_move rfl) ?_
    refine vl_val (os_move rfl) ?_
    refine vl_val (os_build (cs := [.int .i64 7, .int .i64 x, .int .i64 3, .slice (some ⟨w3.heap.size, 0, none⟩) 1 1]) rfl (by kernel_rfl)) ?_
    refine vl_val (os_move rfl) ?_
    refine vl_val (os_move rfl) ?_
    refine vl_val (os_build (cs := [.int .i64 x, .int .i64 2, .int .i64 3, .slice (some ⟨w4.heap.size, 0, none⟩) 2 2]) rfl (by kernel_rfl)) ?_
    refine vl_val (os_move rfl) ?_
    refine vl_val (os_move rfl) ?_
    refine vl_val (os_move rfl) ?_
    refine vl_val (os_build (cs := [.int .i64 7, .int .i64 y, .int .i64 x, .slice (some ⟨w3.heap.size, 0, none⟩) 1 1]) rfl (by kernel_rfl)) ?_
    refine vl_val (os_move rfl) ?_
    refine vl_val (os_remi rfl rfl (by omega)) ?_
    rw [hk9.1]
    refine vl_val (os_move rfl) ?_
    refine vl_val (os_build (cs := [.int .i64 7, .int .i64 k9, .int .i64 3, .slice (some ⟨w4.heap.size, 0, none⟩) 2 2]) rfl (by kernel_rfl)) ?_
    refine vl_val (os_move rfl) ?_
    refine vl_val (os_build (cs := [.int .i64 7, .int .i64 5, .int .i64 3, .slice (some ⟨w3.heap.size, 0, none⟩) 1 1]) rfl (by kernel_rfl)) ?_
    refine vl_val (os_build (cs := [.int .i64 7, .int .i64 6, .int .i64 3, .slice none 0 0]) rfl (by kernel_rfl)) ?_
    refine vl_val (os_move rfl) ?_
    refine vl_val (os_build (cs := [.int .i64 7, .int .i64 2147483647, .int .i64 3, .slice (some ⟨w4.heap.size, 0, none⟩) 2 2]) rfl (by kernel_rfl)) ?_
    refine vl_some (ot_litS (css := (sevenN x y m3 k9 ⟨w3.heap.size, 0, none⟩ ⟨w4.heap.size, 0, none⟩).map NoteV.cells) Try.underlying22 Try.sizeOf35 Try.zeroValue35 rfl rfl (cells_len _) (by decide) (by decide) (by decide)) ?_
    rintro v6 w6 ⟨rfl, r6, s6, b6⟩
    have hN6 : RdN w6 (some ⟨w5.heap.size, 0, none⟩) (sevenN x y m3 k9 ⟨w3.heap.size, 0, none⟩ ⟨w4.heap.size, 0, none⟩) := ⟨r6, seven_ok ((RdP.keep r4 b5).keep b6) (RdP.keep r5 b6) hX hY hm3.2 hk9.2⟩
    have b4w : Below w.heap.size w w4 := b3w.trans (Below.mono b4 b3w.size)
    have b5w : Below w.heap.size w w5 := b4w.trans (Below.mono b5 b4w.size)
    have b6w : Below w.heap.size w w6 := b5w.trans (Below.mono b6 b5w.size)
    have r6e : Rd w6 .i64 (some ⟨w.heap.size, 0, none⟩) ends := ((r3.keep b4).keep b5).keep b6
    have q3 : I64 3 := i64_mk (by decide)
    have q255 : I64 255 := i64_mk (by decide)
    refine vl_val (os_assign rfl) ?_
    refine vl_nil ?_
    by_cases h7 : (n : Int) % 13 = 7
    · refine v_seq ?_
      refine v_region ?_
      refine vl_val (os_move rfl) ?_
      refine vl_call (law24_GuessHears 7 3 _ 7 7 _ w6 I64_7 q3 hN6 rfl (by decide)) rfl ?_
      rintro v7 w7 ⟨rfl, b7⟩
      refine vl_val (os_not rfl) ?_
      refine vl_val (os_move rfl) ?_
      refine vl_valg rfl (os_move rfl) ?_
      refine vl_valg rfl (os_move rfl) ?_
      refine vl_valg rfl (os_move rfl) ?_
      refine vl_valg rfl (os_slice_h Try.underlying22 Try.sizeOf35 rfl rfl (h := 2) (by omega) (by omega)) ?_
      refine vl_callg rfl (law24_GuessHears x y _ 2 7 _ w7 hX hY ((hN6.keep b7).take 2) rfl (by decide)) rfl ?_
      rintro v8 w8 ⟨rfl, b8⟩
      refine vl_valg rfl (os_not rfl) ?_
      refine vl_val (os_pick_f rfl rfl) ?_
      refine vl_val (os_move rfl) ?_
      refine vl_valg rfl (os_move rfl) ?_
      refine vl_valg rfl (os_remi rfl rfl (by omega)) ?_
      refine vl_valg rfl (os_t (os_eql rfl rfl) (h7)) ?_
      refine vl_valg rfl (os_move rfl) ?_
      refine vl_valg rfl (os_move rfl) ?_
      refine vl_callg rfl (law24_GuessHears 7 255 _ 7 7 _ w8 I64_7 q255 ((hN6.keep b7).keep b8) rfl (by decide)) rfl ?_
      rintro v9 w9 ⟨rfl, b9⟩
      have b7w := b6w.trans (b7.mono b6w.size)
      have b8w := b7w.trans (b8.mono b7w.size)
      have b9w := b8w.trans (b9.mono b8w.size)
      refine vl_valg rfl (os_not rfl) ?_
      refine vl_valg rfl (os_pick_t rfl rfl) ?_
      refine vl_val (os_pick_f rfl rfl) ?_
      refine vl_nil ?_
      refine v_cond_f rfl ?_
      refine v_skip ?_
      refine v_region ?_
      refine vl_val (os_move rfl) ?_
      refine vl_val (os_addi rfl rfl (by omega)) ?_
      refine vl_val (os_assign rfl) ?_
      refine vl_nil ?_
      exact ⟨n + 1, ⟨rfl, trivial⟩, ⟨rfl, trivial⟩, ⟨by omega, b9w, by rw [← hE]; exact ((r6e.keep b7).keep b8).keep b9⟩, by dsimp only; omega⟩
    · refine v_seq ?_
      refine v_region ?_
      refine vl_val (os_move rfl) ?_
      refine vl_call (law24_GuessHears 7 3 _ 7 7 _ w6 I64_7 q3 hN6 rfl (by decide)) rfl ?_
      rintro v7 w7 ⟨rfl, b7⟩
      refine vl_val (os_not rfl) ?_
      refine vl_val (os_move rfl) ?_
      refine vl_valg rfl (os_move rfl) ?_
      refine vl_valg rfl (os_move rfl) ?_
      refine vl_valg rfl (os_move rfl) ?_
      refine vl_valg rfl (os_slice_h Try.underlying22 Try.sizeOf35 rfl rfl (h := 2) (by omega) (by omega)) ?_
      refine vl_callg rfl (law24_GuessHears x y _ 2 7 _ w7 hX hY ((hN6.keep b7).take 2) rfl (by decide)) rfl ?_
      rintro v8 w8 ⟨rfl, b8⟩
      refine vl_valg rfl (os_not rfl) ?_
      refine vl_val (os_pick_f rfl rfl) ?_
      refine vl_val (os_move rfl) ?_
      refine vl_valg rfl (os_move rfl) ?_
      refine vl_valg rfl (os_remi rfl rfl (by omega)) ?_
      refine vl_valg rfl (os_f (os_eql rfl rfl) (h7)) ?_
      have b7w := b6w.trans (b7.mono b6w.size)
      have b8w := b7w.trans (b8.mono b7w.size)
      refine vl_valg rfl (os_move rfl) ?_
      refine vl_skip rfl rfl ?_
      refine vl_skip rfl rfl ?_
      refine vl_skip rfl rfl ?_
      refine vl_valg rfl (os_pick_f rfl rfl) ?_
      refine vl_val (os_pick_f rfl rfl) ?_
      refine vl_nil ?_
      refine v_cond_f rfl ?_
      refine v_skip ?_
      refine v_region ?_
      refine vl_val (os_move rfl) ?_
      refine vl_val (os_addi rfl rfl (by omega)) ?_
      refine vl_val (os_assign rfl) ?_
      refine vl_nil ?_
      exact ⟨n + 1, ⟨rfl, trivial⟩, ⟨rfl, trivial⟩, ⟨by omega, b8w, by rw [← hE]; exact (r6e.keep b7).keep b8⟩, by dsimp only; omega⟩
  · refine v_exit ?_
    refine v_seq ?_
    refine v_region ?_
    refine vl_val (os_assign rfl) ?_
    refine vl_nil ?_
    refine v_seq ?_
    refine v_seq ?_
    refine v_region ?_
    refine vl_val (os_assign rfl) ?_
    refine vl_nil ?_
    refine v_block ?_
    refine v_loop2 [] (fun (V : Value) (n : Nat) => [(8, V), (9, .int .i64 n)]) (fun V n w' => n ≤ 200 ∧ Below w.heap.size w w' ∧ ∃ ds : List NoteV, ds.length = n ∧ OwnP w' w.heap.size 35 4 V (ds.map NoteV.cells) ∧ (∀ d ∈ ds, NoteOk w' d) ∧ ∀ d ∈ ds, ∀ a, d.A = some a → a.block < w'.heap.size ∧ V.ownBlock ≠ some a.block) (fun V n => 200 - n) (.slice none 0 0) (0) trivial ⟨rfl, rfl, trivial⟩ (⟨by omega, hb2, [], rfl, OwnP.nil, by simp, by simp⟩) ?_
    rintro V n w3 ⟨hn3, b3, ds, hl, ho, hok, hne⟩
    refine v_seq ?_
    refine v_seq ?_
    refine v_region ?_
    refine vl_val (os_move rfl) ?_
    refine vl_val (os_lss rfl rfl) ?_
    refine vl_nil ?_
    refine v_cond_d rfl (fun h3 => ?_) (fun h3 => ?_)
    · refine v_skip ?_
      refine v_seq ?_
      refine v_block ?_
      refine v_region ?_
      refine vl_val (os_move rfl) ?_
      refine vl_val (os_move rfl) ?_
      refine vl_val (os_addi rfl rfl (by omega)) ?_
      refine vl_val (os_move rfl) ?_
      refine vl_val (os_remi rfl rfl (by omega)) ?_
      refine vl_val (os_quoi rfl rfl (by omega)) ?_
      refine vl_val (os_muli rfl rfl (by omega)) ?_
      refine vl_val (os_subi rfl rfl (by omega)) ?_
      refine vl_val (os_move rfl) ?_
      refine vl_val (os_quoi rfl rfl (by omega)) ?_
      refine vl_val (os_move rfl) ?_
      refine vl_val (os_quoi rfl rfl (by omega)) ?_
      refine vl_val (os_subi rfl rfl (by omega)) ?_
      refine vl_call (law24_reportB (1 + (n : Int) - (n : Int) % 5 / 4 * 2) ((n : Int) / 40) (5 - (n : Int) / 40) w3 (i64_mk (by omega)) (i64_mk (by omega)) (i64_mk (by omega))) rfl ?_
      rintro v4 w4 ⟨d, rfl, f1, f2, f3, f4, hd, b4, hlow⟩
      refine vl_some (ot_litS (css := [d.cells]) Try.underlying22 Try.sizeOf35 Try.zeroValue35 rfl rfl (by intro c hc; simp at hc; subst hc; rfl) (by decide) (by decide) (by decide)) ?_
      rintro v5 w5 ⟨rfl, r5, s5, b5⟩
      have b45 : Below w3.heap.size w3 w5 := b4.trans (Below.mono b5 b4.size)
      have ho5 := ho.keepAll b45
      have hmap : (ds.map NoteV.cells).length = n := by simp [hl]
      have b5w := b3.trans (b45.mono b3.size)
      have hvl := ho.lt
      refine vl_some (ot_append_p Try.underlying22 ti_notes rfl (by decide) rfl rfl ho5 r5 (by intro c hc; simp at hc; subst hc; rfl) rfl (by simp) (by intro c hc u hu; simp at hc; subst hc; simp [NoteV.cells] at hu; rcases hu with rfl | rfl | rfl | rfl <;> rfl) (by rw [hmap]; omega) (by rw [hmap]; simp only [maxLen]; omega) b5w.size) ?_
      rintro v6 w6 ⟨ho6, hg6, hv6⟩
      have hkeep : ∀ a : Addr, a.block < w5.heap.size → V.ownBlock ≠ some a.block → w6.heap[a.block]? = w5.heap[a.block]? := fun a h1 h2 => hg6.block _ h1 (fun e => h2 e.symm)
      have s45 := b45.size
      have s4 := b4.size
      have s6 : w5.heap.size ≤ w6.heap.size := hg6.size
      have hd5 := hd.keep b5
      refine vl_val (os_assign rfl) ?_
      refine vl_nil ?_
      refine v_region ?_
      refine vl_val (os_move rfl) ?_
      refine vl_val (os_addi rfl rfl (by omega)) ?_
      refine vl_val (os_assign rfl) ?_
      refine vl_nil ?_
      exact ⟨⟨v6, n + 1⟩, trivial, ⟨rfl, rfl, trivial⟩, ⟨by (try dsimp only); omega, OwnP.below b5w ho5 hg6 (Nat.le_refl _) b5w.size, ds ++ [d], by simp [hl], by (try dsimp only); rw [List.map_append]; exact ho6, seven_grow hok hne hlow hvl hd5 b45 (by omega) hkeep, seven_ne hne hlow hvl hv6 (by omega) (by omega) (by omega)⟩, by dsimp only; omega⟩
    · have hG0 := bk_new w3 (mkG [] 0 0 0) 54
      have bG := b3.alloc b3.size (.cells (mkG [] 0 0 0).toArray 54)
      refine v_exit ?_
      refine v_seq ?_
      refine v_region ?_
      refine vl_val (os_build (cs := mkG [] 0 0 0) rfl (by kernel_rfl)) ?_
      refine vl_val (os_box rfl) ?_
      refine vl_val (os_lit (vs := [.pointer none, .pointer (some ⟨w3.heap.size, 0, none⟩)]) Try.underlying55 Try.sizeOf25 Try.zeroValue25 rfl rfl rfl rfl (by decide)) ?_
      have hP0 := bk_new (w3.alloc (.cells (mkG [] 0 0 0).toArray 54)) [.pointer none, .pointer (some ⟨w3.heap.size, 0, none⟩)] 25
      simp only [World.size_alloc]
      simp only [World.size_alloc] at hP0
      have hG1 := hG0.alloc (.cells [Value.pointer none, .pointer (some ⟨w3.heap.size, 0, none⟩)].toArray 25)
      have bP := bG.alloc bG.size (.cells [Value.pointer none, .pointer (some ⟨w3.heap.size, 0, none⟩)].toArray 25)
      have b3p : Below w3.heap.size w3 ((w3.alloc (.cells (mkG [] 0 0 0).toArray 54)).alloc (.cells [Value.pointer none, .pointer (some ⟨w3.heap.size, 0, none⟩)].toArray 25)) := ((Below.refl _ w3).alloc (Nat.le_refl _) _).alloc (by simp) _
      refine vl_val (os_assign rfl) ?_
      refine vl_nil ?_
      refine v_seq ?_
      refine v_seq ?_
      refine v_region ?_
      refine vl_val (os_assign rfl) ?_
      refine vl_nil ?_
      refine v_block ?_
      refine v_loop [(8, _), (10, _)] (fun (i : Nat) => [(11, .int .i64 i)]) (fun i w' => i ≤ 2 ∧ Below w3.heap.size w3 w' ∧ Bk w' w3.heap.size (mkG [] 0 0 0) 54 ∧ Bk w' (w3.heap.size + 1) [.pointer none, .pointer (some ⟨w3.heap.size, 0, none⟩)] 25) (fun i => 2 - i) (0) ⟨rfl, rfl, trivial⟩ ⟨rfl, trivial⟩ (⟨by omega, b3p, hG1, hP0⟩) ?_
      rintro i w4 ⟨hi, b4, hG4, hP4⟩
      refine v_seq ?_
      refine v_seq ?_
      refine v_region ?_
      refine vl_val (os_move rfl) ?_
      refine vl_val (os_lss rfl rfl) ?_
      refine vl_nil ?_
      refine v_cond_d rfl (fun hi2 => ?_) (fun hi2 => ?_)
      · rcases (by omega : i = 0 ∨ i = 1) with rfl | rfl
        · refine v_skip ?_
          refine v_seq ?_
          refine v_block ?_
          refine v_seq ?_
          refine v_region ?_
          refine vl_val (os_move rfl) ?_
          refine vl_val (os_move rfl) ?_
          refine vl_val (os_ix Try.underlying55 Try.sizeOf25 rfl rfl (i := 0) (by omega) (by omega)) ?_
          refine vl_val (os_load Try.isAgg25 rfl (hP4.cell (i := 0) rfl)) ?_
          refine vl_val (os_assign rfl) ?_
          refine vl_nil ?_
          refine v_seq ?_
          refine v_region ?_
          refine vl_val (os_move rfl) ?_
          refine vl_call (law24_report 1 1 1 w4 I64_1 I64_1 I64_1) rfl ?_
          rintro v5 w5 ⟨d, rfl, -, -, -, -, -, b5⟩
          refine vl_call (guess_Hear0 none d w5 (fun w' _ => guess_made_nil w')) rfl ?_
          rintro v6 w6 ⟨rfl, b6⟩
          refine vl_val (os_f (os_neq rfl rfl) (by decide)) ?_
          refine vl_val (os_move rfl) ?_
          refine vl_valg rfl (os_move rfl) ?_
          refine vl_callg rfl (guess_Seq0 none w6 (guess_made_nil w6)) rfl ?_
          rintro v7 w6 ⟨rfl, rfl⟩
          refine vl_valg rfl (os_move rfl) ?_
          refine vl_callg rfl (guess_Parts0 none w6 (guess_made_nil w6)) rfl ?_
          rintro v8 w6 ⟨rfl, rfl⟩
          refine vl_valg rfl (os_len Try.underlying40 rfl) ?_
          refine vl_valg rfl (os_addi rfl rfl (by omega)) ?_
          refine vl_valg rfl (os_neq rfl rfl) ?_
          refine vl_val (os_pick_f rfl rfl) ?_
          refine vl_nil ?_
          refine v_cond_no rfl (by decide) ?_
          have b46 := b5.trans (b6.mono b5.size)
          refine v_skip ?_
          refine v_region ?_
          refine vl_val (os_move rfl) ?_
          refine vl_val (os_addi rfl rfl (by omega)) ?_
          refine vl_val (os_assign rfl) ?_
          refine vl_nil ?_
          exact ⟨1, ⟨rfl, rfl, trivial⟩, ⟨rfl, trivial⟩, ⟨by omega, b4.trans (b46.mono b4.size), hG4.keep b46, hP4.keep b46⟩, by dsimp only; omega⟩
        · refine v_skip ?_
          refine v_seq ?_
          refine v_block ?_
          refine v_seq ?_
          refine v_region ?_
          refine vl_val (os_move rfl) ?_
          refine vl_val (os_move rfl) ?_
          refine vl_val (os_ix Try.underlying55 Try.sizeOf25 rfl rfl (i := 1) (by omega) (by omega)) ?_
          refine vl_val (os_load Try.isAgg25 rfl (hP4.cell (i := 1) rfl)) ?_
          refine vl_val (os_assign rfl) ?_
          refine vl_nil ?_
          refine v_seq ?_
          refine v_region ?_
          refine vl_val (os_move rfl) ?_
          refine vl_call (law24_report 1 1 1 w4 I64_1 I64_1 I64_1) rfl ?_
          rintro v5 w5 ⟨d, rfl, -, -, -, -, -, b5⟩
          have hG5 := hG4.keep b5
          refine vl_call (guess_Hear0 (some ⟨w3.heap.size, 0, none⟩) d w5 (fun w' hb => guess_made0 _ w' ((hG5.keep hb).at_ zero257))) rfl ?_
          rintro v6 w6 ⟨rfl, b6⟩
          refine vl_val (os_f (os_neq rfl rfl) (by decide)) ?_
          have hm6 := guess_made0 _ w6 ((hG5.keep b6).at_ zero257)
          refine vl_val (os_move rfl) ?_
          refine vl_valg rfl (os_move rfl) ?_
          refine vl_callg rfl (guess_Seq0 _ w6 hm6) rfl ?_
          rintro v7 w6 ⟨rfl, rfl⟩
          refine vl_valg rfl (os_move rfl) ?_
          refine vl_callg rfl (guess_Parts0 _ w6 hm6) rfl ?_
          rintro v8 w6 ⟨rfl, rfl⟩
          refine vl_valg rfl (os_len Try.underlying40 rfl) ?_
          refine vl_valg rfl (os_addi rfl rfl (by omega)) ?_
          refine vl_valg rfl (os_neq rfl rfl) ?_
          refine vl_val (os_pick_f rfl rfl) ?_
          refine vl_nil ?_
          refine v_cond_no rfl (by decide) ?_
          have b46 := b5.trans (b6.mono b5.size)
          refine v_skip ?_
          refine v_region ?_
          refine vl_val (os_move rfl) ?_
          refine vl_val (os_addi rfl rfl (by omega)) ?_
          refine vl_val (os_assign rfl) ?_
          refine vl_nil ?_
          exact ⟨2, ⟨rfl, rfl, trivial⟩, ⟨rfl, trivial⟩, ⟨by omega, b4.trans (b46.mono b4.size), hG4.keep b46, hP4.keep b46⟩, by dsimp only; omega⟩
      · obtain ⟨A, c, rfl, -, -, hr⟩ := ho.form
        have hds : (ds.map NoteV.cells).length = ds.length := by simp
        have hNd : RdN w3 A ds := ⟨hr, hok⟩
        have b4w := b3.trans (b4.mono b3.size)
        refine v_exit ?_
        refine v_seq ?_
        refine v_region ?_
        refine vl_val (os_move rfl) ?_
        refine vl_call (law24_GuessHears 7 2 A _ c ds w4 I64_7 (i64_mk (by decide)) (hNd.keep b4) hds (by omega)) rfl ?_
        rintro v5 w5 ⟨rfl, b5⟩
        have b5w := b4w.trans (b5.mono b4w.size)
        refine vl_val (os_move rfl) ?_
        refine vl_callg rfl (law24_awake w5) rfl ?_
        rintro v6 w6 ⟨rfl, b6⟩
        refine vl_val (os_pick_t rfl rfl) ?_
        refine vl_val (os_assign rfl) ?_
        refine vl_nil ?_
        refine v_ret ?_
        exact post_ret rfl rfl (⟨rfl, b5w.trans (b6.mono b5w.size)⟩)
end Go.Proofs.Ytpjmiafefammkaa

/- The statements' own helpers: Pick. -/
namespace Go.Proofs.Ytpjmiafefammkaa
open Go.RowKit

def pickV (x n : Int) : Int := if n < 1 then 0 else x % n
theorem pick_neg {x n : Int} (hn : ¬ n < 1) (h : x.tmod n < 0) : x.tmod n + n = x % n := by
  have h1 := Int.tmod_eq_emod (a := x) (b := n)
  rw [h1] at h ⊢
  have h2 : (n.natAbs : Int) = n := by omega
  split at h
  · have := Int.emod_nonneg x (show n ≠ 0 by omega); omega
  · rename_i hh; rw [if_neg hh, h2]; omega
theorem pick_pos {x n : Int} (hn : ¬ n < 1) (h : ¬ x.tmod n < 0) : x.tmod n = x % n := by
  have h1 := Int.tmod_eq_emod (a := x) (b := n)
  rw [h1] at h ⊢
  have h2 : (n.natAbs : Int) = n := by omega
  split at h
  · rename_i hh; rw [if_pos hh]; omega
  · rename_i hh; rw [if_neg hh, h2] 
    have := Int.emod_lt_of_pos x (show 0 < n by omega)
    omega
theorem tmod_fit {x n : Int} (hn : ¬ n < 1) (h2 : n ≤ 9223372036854775807) (h : x.tmod n < 0) : -9223372036854775808 ≤ x.tmod n + n ∧ x.tmod n + n ≤ 9223372036854775807 := by
  rw [pick_neg hn h]
  have := Int.emod_nonneg x (show n ≠ 0 by omega)
  have := Int.emod_lt_of_pos x (show 0 < n by omega)
  omega

theorem kit_Pick (x m : Int) (w : World) (hm : m ≤ 9223372036854775807) : Gives Try.prog 32 #[.int .i64 x, .int .i64 m] w fun v w' => v = .int .i64 (pickV x m) ∧ w' = w := by
  refine gives_enter Try.call32 Try.func32 rfl rfl rfl (by kernel_rfl) ?_
  refine v_seq ?_
  refine v_region ?_
  refine vl_val (os_assign rfl) ?_
  refine vl_nil ?_
  refine v_seq ?_
  refine v_seq ?_
  refine v_region ?_
  refine vl_val (os_move rfl) ?_
  refine vl_val (os_lss rfl rfl) ?_
  refine vl_nil ?_
  refine v_cond_d rfl (fun h => ?_) (fun h => ?_)
  · refine v_seq ?_
    refine v_region ?_
    refine vl_val (os_assign rfl) ?_
    refine vl_nil ?_
    refine v_ret ?_
    exact post_ret rfl rfl ⟨by rw [pickV, if_pos h], rfl⟩
  · refine v_skip ?_
    refine v_seq ?_
    refine v_region ?_
    refine vl_val (os_move rfl) ?_
    refine vl_val (os_move rfl) ?_
    refine vl_val (os_rem rfl rfl (by omega) rfl) ?_
    refine vl_val (os_assign rfl) ?_
    refine vl_nil ?_
    refine v_seq ?_
    refine v_seq ?_
    refine v_region ?_
    refine vl_val (os_move rfl) ?_
    refine vl_val (os_lss rfl rfl) ?_
    refine vl_nil ?_
    refine v_cond_d rfl (fun h2 => ?_) (fun h2 => ?_)
    · refine v_region ?_
      refine vl_val (os_move rfl) ?_
      refine vl_val (os_move rfl) ?_
      refine vl_val (os_addi rfl rfl (tmod_fit h hm h2)) ?_
      refine vl_val (os_assign rfl) ?_
      refine vl_nil ?_
      refine v_seq ?_
      refine v_region ?_
      refine vl_val (os_move rfl) ?_
      refine vl_val (os_assign rfl) ?_
      refine vl_nil ?_
      refine v_ret ?_
      exact post_ret rfl rfl ⟨by rw [pickV, if_neg h, pick_neg h h2], rfl⟩
    · refine v_skip ?_
      refine v_seq ?_
      refine v_region ?_
      refine vl_val (os_move rfl) ?_
      refine vl_val (os_assign rfl) ?_
      refine vl_nil ?_
      refine v_ret ?_
      exact post_ret rfl rfl ⟨by rw [pickV, if_neg h, pick_pos h h2], rfl⟩
end Go.Proofs.Ytpjmiafefammkaa

/- Layer 24, plain: counts of more times; the same counts heard again and again. No program in sight. -/
namespace Go.Proofs.Ytpjmiafefammkaa
open Go.RowKit
set_option linter.unusedVariables false

/-- counts, each as much more -/
def moreC (k : Int) (cs : List (Int × Int)) : List (Int × Int) := cs.map fun c => (c.1, k * c.2)
theorem moreC_len (k : Int) (cs : List (Int × Int)) : (moreC k cs).length = cs.length := by simp [moreC]
theorem times_more (k : Int) (cs : List (Int × Int)) : timesL (moreC k cs) = k * timesL cs := by
  induction cs with
  | nil => simp [timesL, moreC]
  | cons c r ih =>
    simp only [timesL, moreC, List.map_cons, List.sum_cons, Int.mul_add] at ih ⊢
    rw [ih]
theorem saysGo_more {k all : Int} : ∀ (cs : List (Int × Int)) (out : List Int), (∀ c ∈ cs, shareV (k * c.2) (k * all) = shareV c.2 all) → saysGo (k * all) (moreC k cs) out = saysGo all cs out
  | [], out, h => rfl
  | c :: r, out, h => by
    show saysGo (k * all) (moreC k r) _ = saysGo all r _
    rw [saysGo_more r _ fun c hc => h c (List.mem_cons_of_mem _ hc), h c (by simp)]
theorem cnt_more {k n last : Int} {cs : List (Int × Int)} (hk : 1 ≤ k) (h : cntOk n last cs = true) (hf : ∀ c ∈ cs, k * c.2 ≤ 65535) : cntOk n last (moreC k cs) = true := by
  induction cs generalizing last with
  | nil => rfl
  | cons c r ih =>
    simp only [cntOk, Bool.and_eq_true, inB_iff] at h
    obtain ⟨⟨h1, h2⟩, h3⟩ := h
    have h4 := ih h3 fun c hc => hf c (List.mem_cons_of_mem _ hc)
    show ((inB c.1 (last + 1) n && inB (k * c.2) 1 65535) && cntOk n c.1 (moreC k r)) = true
    rw [h4, inB_iff.2 h1, inB_iff.2 ⟨?_, hf c (by simp)⟩]; rfl
    have : 1 * c.2 ≤ k * c.2 := Int.mul_le_mul_of_nonneg_right hk (by omega)
    omega
theorem says_more {d : NoteV} {k : Int} (hk : 1 ≤ k) (h : RightD d) (hl : 0 < d.cs.length) (hf : ∀ c ∈ d.cs, k * c.2 ≤ 65535) : saysL d.n (moreC k d.cs) = saysL d.n d.cs := by
  have h2 := cnt_more hk h.cnt hf
  obtain ⟨a1, a2, a3⟩ := rep_all h hl
  have hcnt := (cnt_all h.cnt).2 (by have := h.n; omega)
  have hn := h.n
  have b2 := (times_bd h2).2.1
  rw [times_more, moreC_len] at b2
  have b1 : 1 * timesL d.cs ≤ k * timesL d.cs := Int.mul_le_mul_of_nonneg_right hk (by omega)
  unfold saysL
  rw [times_more]
  refine saysGo_more _ _ fun c hc => ?_
  have a4 := a3 c hc
  have e1 : 0 ≤ k * c.2 := Int.mul_nonneg (by omega) a4.1
  have e2 : k * c.2 ≤ k * timesL d.cs := Int.mul_le_mul_of_nonneg_left a4.2 (by omega)
  rw [(share_val (a := k * c.2) (b := k * timesL d.cs) (by omega) (by omega) e1 e2).2, (share_val a1 a2 a4.1 a4.2).2, Int.mul_assoc, Int.mul_ediv_mul_of_pos _ _ (by omega)]
theorem tend_lo {h x : Int} (h1 : h ≤ x) : h ≤ blendW h x ∧ blendW h x ≤ x := by unfold blendW; omega
theorem tend_hi {h x : Int} (h1 : x < h) : blendW h x < h ∧ x - 7 ≤ blendW h x := by unfold blendW; omega
/-- after a hundred times, and behind them -/
theorem foldN_late {k : Nat} (hk : k = 100) {xs hs : List Int} (h1 : rowB hs = true) (h2 : rowB xs = true) (hl : hs.length = xs.length) {j : Nat} (hj : j < hs.length) (m : Nat) :
    (foldN xs (k + m) hs)[j]?.getD 0 ≤ xs[j]?.getD 0 ∧ xs[j]?.getD 0 - (foldN xs (k + m) hs)[j]?.getD 0 ≤ 7 := by
  induction m with
  | zero => have := foldN_hundred_k hk h1 h2 hl hj; exact ⟨this.1, this.2.1⟩
  | succ m ih =>
    have e := foldL_at (foldN xs (k + m) hs) xs (k := j) (by rw [foldN_len]; exact hj)
    show (foldL (foldN xs (k + m) hs) xs)[j]?.getD 0 ≤ _ ∧ _ - (foldL (foldN xs (k + m) hs) xs)[j]?.getD 0 ≤ 7
    rw [e]; unfold blendW; omega
/-- what the law asks of a place in round s -/
theorem tend_place {xs hs : List Int} (h1 : rowB hs = true) (h2 : rowB xs = true) (hl : hs.length = xs.length) {j : Nat} (hj : j < hs.length) {s : Nat} (hs1 : 1 ≤ s) :
    ((foldN xs (s - 1) hs).getD j 0 ≤ xs.getD j 0 → (foldN xs (s - 1) hs).getD j 0 ≤ (foldN xs s hs).getD j 0 ∧ (foldN xs s hs).getD j 0 ≤ xs.getD j 0) ∧
    (xs.getD j 0 < (foldN xs (s - 1) hs).getD j 0 → (foldN xs s hs).getD j 0 < (foldN xs (s - 1) hs).getD j 0 ∧ xs.getD j 0 - 7 ≤ (foldN xs s hs).getD j 0) ∧
    (100 < s → (foldN xs s hs).getD j 0 ≤ xs.getD j 0 ∧ xs.getD j 0 - (foldN xs s hs).getD j 0 ≤ 7) := by
  obtain ⟨t, rfl⟩ : ∃ t, s = t + 1 := ⟨s - 1, by omega⟩
  have e : (foldN xs (t + 1) hs).getD j 0 = blendW ((foldN xs t hs).getD j 0) (xs.getD j 0) := by
    have := foldL_at (foldN xs t hs) xs (k := j) (by rw [foldN_len]; exact hj)
    simpa [List.getD_eq_getElem?_getD, foldN] using this
  rw [show t + 1 - 1 = t by omega]
  refine ⟨fun h => by rw [e]; exact tend_lo h, fun h => by rw [e]; exact tend_hi h, fun h => ?_⟩
  obtain ⟨k, hk⟩ : ∃ k, k = 100 := ⟨_, rfl⟩
  have := foldN_late hk h1 h2 hl hj (t + 1 - k)
  rw [show k + (t + 1 - k) = t + 1 by omega] at this
  simpa [List.getD_eq_getElem?_getD] using this
theorem moreC_take {k : Int} {cs : List (Int × Int)} {i : Nat} (hi : i < cs.length) : moreC k (cs.take (i + 1)) = moreC k (cs.take i) ++ [((cs.getD i (0, 0)).1, k * (cs.getD i (0, 0)).2)] := by
  have e : cs.getD i (0, 0) = cs[i] := by simp [hi]
  unfold moreC
  rw [List.take_succ_eq_append_getElem hi, List.map_append, e]; rfl
def fitB (k : Int) (cs : List (Int × Int)) : Bool := cs.all fun c => decide (k * c.2 ≤ 65535)
theorem fitB_take {k : Int} {cs : List (Int × Int)} {i : Nat} (hi : i < cs.length) : fitB k (cs.take (i + 1)) = (fitB k (cs.take i) && decide (k * (cs.getD i (0, 0)).2 ≤ 65535)) := by
  have e : cs.getD i (0, 0) = cs[i] := by simp [hi]
  unfold fitB
  rw [List.take_succ_eq_append_getElem hi, List.all_append, e]; simp
theorem fitB_mem {k : Int} {cs : List (Int × Int)} (h : fitB k cs = true) : ∀ c ∈ cs, k * c.2 ≤ 65535 := fun c hc => by
  have := List.all_eq_true.1 h c hc
  simpa using this
theorem tend_mul {k x : Int} (hk : 1 ≤ k ∧ k ≤ 50) (hx : 1 ≤ x ∧ x ≤ 65535) : 0 ≤ k * x ∧ k * x ≤ 3276750 := by
  refine ⟨Int.mul_nonneg (by omega) (by omega), ?_⟩
  have h1 : k * x ≤ 50 * x := Int.mul_le_mul_of_nonneg_right hk.2 (by omega)
  omega
theorem pick50 (x : Int) : 1 ≤ 1 + pickV x 50 ∧ 1 + pickV x 50 ≤ 50 := by
  unfold pickV
  simp only [show ¬ (50 : Int) < 1 by decide, if_false]
  omega
end Go.Proofs.Ytpjmiafefammkaa
