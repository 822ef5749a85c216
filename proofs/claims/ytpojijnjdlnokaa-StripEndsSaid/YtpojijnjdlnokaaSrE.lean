/- Layer 9: the walk of StripEnds. -/
import Derived.Test.YtpojijnjdlnokaaSrD
namespace Go.Proofs.Ytpojijnjdlnokaa
open Go.RowKit
set_option linter.unusedVariables false

section
variable {P : Program} {n : Cx} {fr : Fr} {w : World} {ty T e : TypeId}
/-- a list of integers, written out -/
theorem ot_litI {k : IntKind} (zs : List Int) {l : Nat} {ps : List (Nat × Operand)} {z0 : Value} (hT : P.underlying T = some (.slice e)) (hs : ∀ w, (sizeOf e).run P w = .ok 1 w) (hz : ∀ w, (zeroValue e).run P w = .ok z0 w) (hz1 : z0.cells.size = 1) (hx : evP fr ps 0 = some (zs.map (Value.int k))) (hone : oneCells (zs.map (Value.int k)) = true) (hl : l = zs.length) (h2 : l ≤ 16777216) :
    OT P n (.buildSlice T l ps.toArray) ty fr w fun v w' => ∃ g, v = .slice (some ⟨g, 0, none⟩) l l ∧ Rd w' k (some ⟨g, 0, none⟩) zs ∧ Below w.heap.size w w' := by
  subst hl
  exact (os_lit hT hs hz hz1 hx (by simp) hone h2).ot ⟨_, rfl, rd_alloc w k zs e, (Below.refl _ _).alloc (Nat.le_refl _) _⟩
end
def sEnds : List Int := [-9223372036854775808, -1, 0, 1, 2, 3, 7, 253, 254, 255, 256, 257, 65534, 65535, 65536, 9223372036854775807]
theorem sEnds_in (i : Nat) : -9223372036854775808 ≤ sEnds.getD i 0 ∧ sEnds.getD i 0 ≤ 9223372036854775807 := by
  have h : ∀ z ∈ sEnds, -9223372036854775808 ≤ z ∧ z ≤ 9223372036854775807 := by decide
  by_cases hi : i < sEnds.length
  · have := h (sEnds[i]) (List.getElem_mem hi)
    simpa [hi] using this
  · have : sEnds.getD i 0 = 0 := by simp [List.getElem?_eq_none (by omega : sEnds.length ≤ i)]
    rw [this]; omega
def PairS (us : List Value) : Prop := ∀ (i j : Nat) (u u' : Value), us[i]? = some u → us[j]? = some u' → i < j → sep u u'
theorem PairS.push {w w2 : World} {B2 : Nat} {t : TypeId} {us : List Value} {u2 : Value} {cs2 : List Value} (h : PairS us) (hus : ∀ (i : Nat) (u : Value), us[i]? = some u → ∀ x, u.ownBlock = some x → x < w.heap.size) (hu : Own w2 B2 t u2 cs2) (hB : w.heap.size ≤ B2) : PairS (us ++ [u2]) := fun i j u u' hi hj hij => by
  have hjl := (List.getElem?_eq_some_iff.1 hj).1
  have hil : i < us.length := by simp at hjl; omega
  rw [List.getElem?_append_left hil] at hi
  by_cases hj2 : j < us.length
  · rw [List.getElem?_append_left hj2] at hj; exact h i j u u' hi hj hij
  · have e : j - us.length = 0 := by simp at hjl; omega
    rw [List.getElem?_append_right (by omega), e] at hj
    have e2 : u2 = u' := by simpa using hj
    subst e2
    intro x hx hx2
    have q1 := hus i u hi x hx
    have q2 := (World.ownsRow.lt hu x hx2).1
    omega
theorem OwnS.upd {w w5 : World} {B g n c i : Nat} {t e : TypeId} {k : IntKind} {ls : List (List Int)} {us : List Value} {u v5 : Value} {l5 : List Int} (hL : OwnS w B t e k (.slice (some ⟨g, 0, none⟩) n c) ls us) (hP : PairS us) (hu : us[i]? = some u) (ho : OwnK w5 B e k v5 l5) (hg : w.grownBy w5 u.ownBlock) (ha : v5.ownBlock = u.ownBlock ∨ v5.ownBlock = some w.heap.size) :
    OwnS (w5.setCell ⟨g, i, none⟩ v5) B t e k (.slice (some ⟨g, 0, none⟩) n c) (ls.set i l5) (us.set i v5) := by
  have hil := (List.getElem?_eq_some_iff.1 hu).1
  have hgl : g < w.heap.size := (World.ownsRow.lt hL.own g rfl).2
  have h5 : ∀ x, v5.ownBlock = some x → x ≠ g := fun x hx e => by
    subst e
    rcases ha with h | h
    · rw [h] at hx; exact hL.sep i u hu x hx rfl
    · rw [h] at hx; injection hx with hx; omega
  refine ⟨Own.set (Own.other hL.own hg (.inr fun e => hL.sep i u hu g e.symm rfl)) i v5, by simp [hL.len], fun j x hx => ?_, fun j x hx b hb e => ?_⟩
  · by_cases hj : j = i
    · subst hj
      rw [List.getElem?_set_self hil] at hx
      cases hx
      rw [show (ls.set j l5).getD j [] = l5 by simp [show j < ls.length by rw [← hL.len]; exact hil]]
      exact Own.setOther ho h5 _ v5
    · rw [List.getElem?_set_ne (fun h => hj h.symm)] at hx
      rw [show (ls.set i l5).getD j [] = ls.getD j [] by simp [List.getElem?_set_ne (fun h => hj h.symm)]]
      refine Own.setOther (Own.other (hL.each j x hx) hg ?_) (fun b hb e => by subst e; exact hL.sep j x hx b hb rfl) i v5
      cases hxb : x.ownBlock with
      | none => exact .inl rfl
      | some b =>
        refine .inr fun e => ?_
        rcases Nat.lt_or_gt_of_ne hj with h | h
        · exact hP j i x u hx hu h b hxb e.symm
        · exact hP i j u x hu hx h b e.symm hxb
  · by_cases hj : j = i
    · subst hj
      rw [List.getElem?_set_self hil] at hx
      cases hx
      have e2 : g = b := by simpa [Value.ownBlock] using e
      exact h5 b hb e2.symm
    · rw [List.getElem?_set_ne (fun h => hj h.symm)] at hx
      exact hL.sep j x hx b hb e

set_option maxHeartbeats 8000000 in
theorem law09_StripEnds (w : World) : Gives Try.prog 4 #[] w fun v w' => v = .bool true ∧ Below w.heap.size w w' := by
  refine gives_enter Try.call4 Try.func4 rfl rfl rfl (by kernel_rfl) ?_
  refine v_seq ?_
  refine v_region ?_
  refine vl_val (os_assign rfl) ?_
  refine vl_nil ?_
  refine v_seq ?_
  refine v_region ?_
  refine vl_some (ot_litI sEnds Try.underlying40 Try.sizeOf3 Try.zeroValue3 rfl rfl rfl rfl (by decide)) ?_
  rintro v0 w0 ⟨g0, rfl, r0, b0⟩
  obtain ⟨E, hE⟩ : ∃ E, E = sEnds := ⟨_, rfl⟩
  have hIE : ∀ i, -9223372036854775808 ≤ E.getD i 0 ∧ E.getD i 0 ≤ 9223372036854775807 := by rw [hE]; exact sEnds_in
  have hEl : E.length = 16 := by rw [hE]; rfl
  rw [← hE] at r0
  refine vl_val (os_assign rfl) ?_
  refine vl_nil ?_
  refine v_seq ?_
  refine v_seq ?_
  refine v_region ?_
  refine vl_val (os_assign rfl) ?_
  refine vl_nil ?_
  refine v_block ?_
  refine v_loop [(1, _)] (fun (i : Nat) => [(2, .int .i64 i)]) (fun i w' => i ≤ 16 ∧ Below w0.heap.size w0 w') (fun i => 16 - i) (0) ⟨rfl, trivial⟩ ⟨rfl, trivial⟩ (⟨by omega, Below.refl _ _⟩) ?_
  rintro i w1 ⟨hi, b1⟩
  refine v_seq ?_
  refine v_seq ?_
  refine v_region ?_
  refine vl_val (os_move rfl) ?_
  refine vl_val (os_move rfl) ?_
  refine vl_val (os_len Try.underlying40 rfl) ?_
  refine vl_val (os_lss rfl rfl) ?_
  refine vl_nil ?_
  refine v_cond_d rfl (fun h1 => ?_) (fun h1 => ?_)
  · refine v_skip ?_
    refine v_seq ?_
    refine v_block ?_
    refine v_seq ?_
    refine v_region ?_
    refine vl_val (os_assign rfl) ?_
    refine vl_nil ?_
    refine v_block ?_
    refine v_loop [(1, _), (2, _)] (fun (k : Nat) => [(3, .int .i64 k)]) (fun k w' => k ≤ 16 ∧ Below w0.heap.size w0 w') (fun k => 16 - k) (0) ⟨rfl, rfl, trivial⟩ ⟨rfl, trivial⟩ (⟨by omega, b1⟩) ?_
    rintro k w2 ⟨hk, b2⟩
    refine v_seq ?_
    refine v_seq ?_
    refine v_region ?_
    refine vl_val (os_move rfl) ?_
    refine vl_val (os_move rfl) ?_
    refine vl_val (os_len Try.underlying40 rfl) ?_
    refine vl_val (os_lss rfl rfl) ?_
    refine vl_nil ?_
    refine v_cond_d rfl (fun h2 => ?_) (fun h2 => ?_)
    · obtain ⟨gA, oA, eA, q1⟩ := (r0.keep b2).at_ (i := k) (by omega)
      cases eA
      obtain ⟨gA, oA, eA, q2⟩ := (r0.keep b2).at_ (i := i) (by omega)
      cases eA
      refine v_skip ?_
      refine v_seq ?_
      refine v_block ?_
      refine v_seq ?_
      refine v_region_t LeG _ mixed (by kernel_rfl) lee_g (leg_start _) ?_
      refine vt_val (fun w hw => os_move rfl) ?_
      refine vt_val (fun w hw => os_move rfl) ?_
      refine vt_val (fun w hw => os_ix Try.underlying40 Try.sizeOf3 rfl rfl (i := k) (by omega) (by omega)) ?_
      refine vt_val (fun w hw => os_load Try.isAgg3 rfl (leg_cell hw q1)) ?_
      refine vt_val (fun w hw => os_move rfl) ?_
      refine vt_val (fun w hw => os_move rfl) ?_
      refine vt_val (fun w hw => os_ix Try.underlying40 Try.sizeOf3 rfl rfl (i := i) (by omega) (by omega)) ?_
      refine vt_val (fun w hw => os_load Try.isAgg3 rfl (leg_cell hw q2)) ?_
      refine vt_call (v := .bool true) (fun w hw => law09_StripDoes none 0 0 [] (E.getD k 0) none 0 0 [] (E.getD i 0) w Rd.nil rfl (by omega) (hIE k) RdS.nil rfl (by omega) (hIE i)) rfl ?_
      refine vt_val (fun w hw => os_not rfl) ?_
      refine vt_nil (fun Hw H => ?_)
      refine v_cond_f rfl ?_
      refine v_skip ?_
      refine v_region ?_
      refine vl_val (os_move rfl) ?_
      refine vl_val (os_addi rfl rfl (by omega)) ?_
      refine vl_val (os_assign rfl) ?_
      refine vl_nil ?_
      exact ⟨k + 1, ⟨rfl, rfl, trivial⟩, ⟨rfl, trivial⟩, ⟨by omega, b2.trans (H.mono b2.size)⟩, by dsimp only; omega⟩
    · refine v_exit ?_
      refine v_region ?_
      refine vl_val (os_move rfl) ?_
      refine vl_val (os_addi rfl rfl (by omega)) ?_
      refine vl_val (os_assign rfl) ?_
      refine vl_nil ?_
      exact ⟨i + 1, ⟨rfl, trivial⟩, ⟨rfl, trivial⟩, ⟨by omega, b2⟩, by dsimp only; omega⟩
  · have bw1 : Below w.heap.size w w1 := b0.trans (b1.mono b0.size)
    refine v_exit ?_
    refine v_seq ?_
    refine v_seq ?_
    refine v_region ?_
    refine vl_val (os_assign rfl) ?_
    refine vl_nil ?_
    refine v_block ?_
    refine v_loop [] (fun (n : Nat) => [(4, .int .i64 n)]) (fun n w' => n ≤ 5 ∧ Below w.heap.size w w') (fun n => 5 - n) (0) trivial ⟨rfl, trivial⟩ (⟨by omega, bw1⟩) ?_
    rintro n w2 ⟨hn, b2⟩
    refine v_seq ?_
    refine v_seq ?_
    refine v_region ?_
    refine vl_val (os_move rfl) ?_
    refine vl_val (os_lss rfl rfl) ?_
    refine vl_nil ?_
    refine v_cond_d rfl (fun hn2 => ?_) (fun hn2 => ?_)
    · refine v_skip ?_
      refine v_seq ?_
      refine v_block ?_
      refine v_seq ?_
      refine v_region ?_
      refine vl_val (os_assign rfl) ?_
      refine vl_nil ?_
      refine v_block ?_
      refine v_loop [(4, _)] (fun (x : Nat) => [(5, .int .i64 x)]) (fun x w' => x ≤ 5 ∧ Below w.heap.size w w') (fun x => 5 - x) (0) ⟨rfl, trivial⟩ ⟨rfl, trivial⟩ (⟨by omega, b2⟩) ?_
      rintro x w3 ⟨hx, b3⟩
      refine v_seq ?_
      refine v_seq ?_
      refine v_region ?_
      refine vl_val (os_move rfl) ?_
      refine vl_val (os_lss rfl rfl) ?_
      refine vl_nil ?_
      refine v_cond_d rfl (fun hx2 => ?_) (fun hx2 => ?_)
      · obtain ⟨P, hP⟩ : ∃ P, P = n * x := ⟨_, rfl⟩
        have hP16 : P ≤ 16 := by rw [hP]; exact Nat.mul_le_mul (show n ≤ 4 by omega) (show x ≤ 4 by omega)
        have hPn : (n : Int) * ((x : Int) - 1) = (P : Int) - n := by rw [Int.mul_sub, Int.mul_one, hP, Int.natCast_mul]
        have hPx : (n : Int) * (x : Int) = P := by rw [hP, Int.natCast_mul]
        refine v_skip ?_
        refine v_seq ?_
        refine v_block ?_
        refine v_seq ?_
        refine v_region ?_
        refine vl_val (os_assign rfl) ?_
        refine vl_nil ?_
        refine v_seq ?_
        refine v_seq ?_
        refine v_region ?_
        refine vl_val (os_assign rfl) ?_
        refine vl_nil ?_
        refine v_block ?_
        refine v_loop2 [(4, _), (5, _)] (fun (v : Value) (r : Nat) => [(6, v), (7, .int .i64 r)]) (fun v r w' => r ≤ n ∧ (∃ ls us, ls.length = r ∧ (∀ l ∈ ls, l.length = x) ∧ OwnS w' w3.heap.size 22 5 .u8 v ls us ∧ PairS us) ∧ Below w3.heap.size w3 w') (fun v r => n - r) (.slice none 0 0) (0) ⟨rfl, rfl, trivial⟩ ⟨rfl, rfl, trivial⟩ (⟨by omega, ⟨[], [], rfl, (fun l hl => by cases hl), ⟨Own.nil _ _ _, by simp, fun i u hu => by simp at hu, fun i u hu => by simp at hu⟩, fun i j u u' hu => by simp at hu⟩, Below.refl _ _⟩) ?_
        rintro v r wr ⟨hr, ⟨ls, us, hll, hlx, hL, hPa⟩, hb⟩
        refine v_seq ?_
        refine v_seq ?_
        refine v_region ?_
        refine vl_val (os_move rfl) ?_
        refine vl_val (os_move rfl) ?_
        refine vl_val (os_lss rfl rfl) ?_
        refine vl_nil ?_
        refine v_cond_d rfl (fun hr2 => ?_) (fun hr2 => ?_)
        · have hlen : us.length = r := by rw [hL.len, hll]
          refine v_skip ?_
          refine v_seq ?_
          refine v_block ?_
          refine v_seq ?_
          refine v_region ?_
          refine vl_val (os_move rfl) ?_
          refine vl_some (ot_make (l := x) Try.underlying22 ti_u8 rfl rfl rfl rfl rfl (by omega) (by simp [maxLen]; omega) wr.heap.size (Nat.le_refl _)) ?_
          rintro v4 w4 ⟨rfl, o4, g4⟩
          have b4 : Below wr.heap.size wr w4 := (Below.refl _ _).grown g4 (Nat.le_refl _) (fun k hk => by cases hk)
          have o4' : OwnK w4 wr.heap.size 5 .u8 (.slice (some ⟨wr.heap.size, 0, none⟩) x x) (List.replicate x 0) := by unfold OwnK; rw [List.map_replicate]; exact o4
          refine vl_val (os_assign rfl) ?_
          refine vl_nil ?_
          refine v_seq ?_
          refine v_seq ?_
          refine v_region ?_
          refine vl_val (os_assign rfl) ?_
          refine vl_nil ?_
          refine v_block ?_
          refine v_loop [(4, _), (5, _), (6, _), (7, _), (8, _)] (fun (c : Nat) => [(9, .int .i64 c)]) (fun c w' => c ≤ x ∧ Below wr.heap.size wr w' ∧ ∃ zs : List Int, zs.length = x ∧ OwnK w' wr.heap.size 5 .u8 (.slice (some ⟨wr.heap.size, 0, none⟩) x x) zs) (fun c => x - c) (0) ⟨rfl, rfl, rfl, rfl, rfl, trivial⟩ ⟨rfl, trivial⟩ (⟨by omega, b4, List.replicate x 0, by simp, o4'⟩) ?_
          rintro c w5 ⟨hc, b5, zs, hzl, o5⟩
          refine v_seq ?_
          refine v_seq ?_
          refine v_region ?_
          refine vl_val (os_move rfl) ?_
          refine vl_val (os_move rfl) ?_
          refine vl_val (os_lss rfl rfl) ?_
          refine vl_nil ?_
          refine v_cond_d rfl (fun hc2 => ?_) (fun hc2 => ?_)
          · obtain ⟨zn, hzn⟩ : ∃ zn, IntKind.u8.wrap (9 * (r : Int) + c + 1) = zn := ⟨_, rfl⟩
            refine v_skip ?_
            refine v_seq ?_
            refine v_block ?_
            refine v_region ?_
            refine vl_val (os_move rfl) ?_
            refine vl_val (os_move rfl) ?_
            refine vl_val (os_move rfl) ?_
            refine vl_val (os_muli rfl rfl (by omega)) ?_
            refine vl_val (os_move rfl) ?_
            refine vl_val (os_addi rfl rfl (by omega)) ?_
            refine vl_val (os_addi rfl rfl (by omega)) ?_
            refine vl_val (os_conv Try.underlying3 Try.underlying5 rfl (hzn)) ?_
            refine vl_val (os_ix Try.underlying22 Try.sizeOf5 rfl rfl (i := c) (by omega) (by omega)) ?_
            refine vl_unit (ou_store Try.sizeOf5 rfl rfl rfl ((OwnK.cell o5 (by omega))) ((Own.free o5 _))) ?_
            refine vl_nil ?_
            refine v_region ?_
            refine vl_val (os_move rfl) ?_
            refine vl_val (os_addi rfl rfl (by omega)) ?_
            refine vl_val (os_assign rfl) ?_
            refine vl_nil ?_
            exact ⟨c + 1, ⟨rfl, rfl, rfl, rfl, rfl, trivial⟩, ⟨rfl, trivial⟩, ⟨by omega, Own.below_set b5 o5 (Nat.le_refl _) (0 + c) _, zs.set c zn, by simpa using hzl, by rw [Nat.zero_add]; exact OwnK.set o5 c _⟩, by dsimp only; omega⟩
          · obtain rfl : c = x := by omega
            have hL5 := hL.keep b5
            refine v_exit ?_
            refine v_region ?_
            refine vl_val (os_move rfl) ?_
            refine vl_val (os_move rfl) ?_
            refine vl_val (os_lit Try.underlying23 Try.sizeOf22 Try.zeroValue22 rfl rfl rfl rfl (by decide)) ?_
            have ha6 : Below w5.heap.size w5 (w5.alloc (.cells [Value.slice (some ⟨wr.heap.size, 0, none⟩) c c].toArray 22)) := (Below.refl _ _).alloc (Nat.le_refl _) _
            have hbw5 := hb.trans (b5.mono hb.size)
            have hL6 := hL5.keep ha6
            refine vl_some (ot_append_at Try.underlying23 ti_lBytes rfl rfl rfl hL6.own (rdc_alloc w5 [Value.slice (some ⟨wr.heap.size, 0, none⟩) c c] _) rfl (by intro u hu; rw [List.mem_singleton.1 hu]; rfl) (by omega) (by simp [maxLen]; omega) (by have := hbw5.size; simp; omega)) ?_
            rintro v7 w7 ⟨ho7, hg7, ha7⟩
            have hb7 := Own.below (hbw5.alloc hbw5.size (.cells [Value.slice (some ⟨wr.heap.size, 0, none⟩) c c].toArray 22)) hL6.own hg7 (Nat.le_refl _) (by have := hbw5.size; simp; omega)
            refine vl_val (os_assign rfl) ?_
            refine vl_nil ?_
            refine v_region ?_
            refine vl_val (os_move rfl) ?_
            refine vl_val (os_addi rfl rfl (by omega)) ?_
            refine vl_val (os_assign rfl) ?_
            refine vl_nil ?_
            exact ⟨⟨v7, r + 1⟩, ⟨rfl, rfl, trivial⟩, ⟨rfl, rfl, trivial⟩, ⟨by omega, ⟨ls ++ [zs], us ++ [.slice (some ⟨wr.heap.size, 0, none⟩) c c], by simp [hll], fun l hl => by rcases List.mem_append.1 hl with h | h; exact hlx l h; rw [List.mem_singleton.1 h]; exact hzl, hL.push o5 b5 hb.size _ ho7 hg7 ha7, hPa.push (w := wr) (fun i u hu y hy => (World.ownsRow.lt (hL.each i u hu) y hy).2) (show Own w5 wr.heap.size 5 (.slice (some ⟨wr.heap.size, 0, none⟩) c c) (zs.map (Value.int .u8)) from o5) (Nat.le_refl _)⟩, hb7⟩, by dsimp only; omega⟩
        · obtain rfl : n = r := by omega
          obtain ⟨A2, c2, rfl, hc2, -, -, -⟩ := Own.form hL.own
          have hul : us.length = n := by rw [hL.len, hll]
          rw [hul] at hc2 ⊢
          have hle : ∀ l ∈ ls, l.length ≤ 140737488351232 := fun l hl => by have := hlx l hl; omega
          refine v_exit ?_
          refine v_seq ?_
          refine v_seq ?_
          refine v_region ?_
          refine vl_val (os_move rfl) ?_
          refine vl_val (os_move rfl) ?_
          refine vl_val (os_subi rfl rfl (by omega)) ?_
          refine vl_val (os_mul rfl rfl ((show IntKind.i64.wrap ((n : Int) * ((x : Int) - 1)) = (P : Int) - n by rw [hPn]; exact i64_fit ⟨by omega, by omega⟩))) ?_
          refine vl_val (os_subi rfl rfl (by omega)) ?_
          refine vl_val (os_assign rfl) ?_
          refine vl_nil ?_
          refine v_block ?_
          refine v_loop [(4, _), (5, _), (6, _)] (fun (long : Int) => [(10, .int .i64 long)]) (fun long w' => (P : Int) - n - 2 ≤ long ∧ long ≤ (P : Int) + 3 ∧ Below wr.heap.size wr w') (fun long => ((P : Int) + 3 - long).toNat) ((P : Int) - n - 2) ⟨rfl, rfl, rfl, trivial⟩ ⟨rfl, trivial⟩ (⟨by omega, by omega, Below.refl _ _⟩) ?_
          rintro long w4 ⟨hl1, hl2, b4⟩
          refine v_seq ?_
          refine v_seq ?_
          refine v_region ?_
          refine vl_val (os_move rfl) ?_
          refine vl_val (os_move rfl) ?_
          refine vl_val (os_move rfl) ?_
          refine vl_val (os_mul rfl rfl ((show IntKind.i64.wrap ((n : Int) * (x : Int)) = (P : Int) by rw [hPx]; exact i64_fit ⟨by omega, by omega⟩))) ?_
          refine vl_val (os_addi rfl rfl (by omega)) ?_
          refine vl_val (os_lss rfl rfl) ?_
          refine vl_nil ?_
          refine v_cond_d rfl (fun hlt => ?_) (fun hlt => ?_)
          · obtain ⟨m, hm⟩ : ∃ m : Nat, max long 0 = (m : Int) := ⟨(max long 0).toNat, by omega⟩
            have hm2 : m ≤ 20 := by omega
            refine v_skip ?_
            refine v_seq ?_
            refine v_block ?_
            refine v_seq ?_
            refine v_region ?_
            refine vl_val (os_move rfl) ?_
            refine vl_val (os_max rfl rfl) ?_
            refine vl_some (ot_make (l := m) Try.underlying22 ti_u8 rfl rfl rfl hm hm (by omega) (by simp [maxLen]; omega) w4.heap.size (Nat.le_refl _)) ?_
            rintro v5 w5 ⟨rfl, o5, g5⟩
            have b5 : Below w4.heap.size w4 w5 := (Below.refl _ _).grown g5 (Nat.le_refl _) (fun k hk => by cases hk)
            have o5' : OwnK w5 w4.heap.size 5 .u8 (.slice (some ⟨w4.heap.size, 0, none⟩) m m) (List.replicate m 0) := by unfold OwnK; rw [List.map_replicate]; exact o5
            have b45 := b4.trans (b5.mono b4.size)
            refine vl_val (os_move rfl) ?_
            refine vl_val (os_move rfl) ?_
            refine vl_val (os_move rfl) ?_
            refine vl_call (law09_StripDoes _ m m (List.replicate m 0) n A2 n c2 ls long w5 (OwnK.rd o5') (by simp) (by omega) (by omega) ((hL.keep b45).rds rfl hle) hll.symm (by omega) (by omega)) rfl ?_
            rintro v6 w6 ⟨rfl, b6⟩
            refine vl_val (os_not rfl) ?_
            refine vl_nil ?_
            refine v_cond_f rfl ?_
            refine v_skip ?_
            refine v_region ?_
            refine vl_val (os_move rfl) ?_
            refine vl_val (os_addi rfl rfl (by omega)) ?_
            refine vl_val (os_assign rfl) ?_
            refine vl_nil ?_
            exact ⟨long + 1, ⟨rfl, rfl, rfl, trivial⟩, ⟨rfl, trivial⟩, ⟨by omega, by omega, b45.trans (b6.mono b45.size)⟩, by dsimp only; omega⟩
          · refine v_exit ?_
            refine v_seq ?_
            refine v_region ?_
            refine vl_val (os_move rfl) ?_
            refine vl_val (os_gtr rfl rfl) ?_
            refine vl_nil ?_
            refine v_cond_d rfl (fun hn1 => ?_) (fun hn1 => ?_)
            · obtain ⟨g, c2', e2, hg1, hg2, hc3, -⟩ := Own.row hL.own (by omega)
              rw [hul] at e2
              cases e2
              obtain ⟨j, hj⟩ : ∃ j, n = j + 1 := ⟨n - 1, by omega⟩
              obtain ⟨u, hu⟩ : ∃ u, us[j]? = some u := ⟨us[j]'(by omega), List.getElem?_eq_getElem (by omega)⟩
              have hL4 := hL.keep b4
              obtain ⟨Au, cu, rfl, -, -, hru, -⟩ := OwnK.form (hL4.each j u hu)
              have hlj : (ls.getD j []).length = x := hlx _ (by simp [show j < ls.length by omega])
              refine v_seq ?_
              refine v_region ?_
              refine vl_val (os_move rfl) ?_
              refine vl_val (os_move rfl) ?_
              refine vl_val (os_subi rfl rfl (by omega)) ?_
              refine vl_val (os_move rfl) ?_
              refine vl_val (os_move rfl) ?_
              refine vl_val (os_subi rfl rfl (by omega)) ?_
              refine vl_val (os_ix Try.underlying23 Try.sizeOf22 rfl rfl (i := j) (by omega) (by omega)) ?_
              refine vl_val (os_load Try.isAgg22 rfl (Own.get hL4.own hu)) ?_
              refine vl_val (os_lit Try.underlying22 Try.sizeOf5 Try.zeroValue5 rfl rfl rfl rfl (by decide)) ?_
              have b5 : Below w4.heap.size w4 (w4.alloc (.cells [Value.int .u8 5].toArray 5)) := (Below.refl _ _).alloc (Nat.le_refl _) _
              have hL5 := hL4.keep b5
              refine vl_some (ot_append_at Try.underlying22 ti_u8 rfl rfl rfl (hL5.each j _ hu) (rdc_alloc w4 [Value.int .u8 5] _) rfl (by intro u hu; rw [List.mem_singleton.1 hu]; rfl) (by rw [List.length_map]; omega) (by rw [List.length_map]; simp only [maxLen]; omega) (by have := hb.size; have := b4.size; simp; omega)) ?_
              rintro v6 w6 ⟨ho6, hg6, ha6⟩
              have ho6' : OwnK w6 w3.heap.size 5 .u8 v6 (ls.getD j [] ++ [5]) := by unfold OwnK; simpa using ho6
              have hou := Own.other hL5.own hg6 (.inr fun e => hL5.sep j _ hu g e.symm rfl)
              obtain ⟨A6, c6, rfl, -⟩ := OwnK.form ho6'
              refine vl_val (os_ix Try.underlying23 Try.sizeOf22 rfl rfl (i := j) (by omega) (by omega)) ?_
              refine vl_unit (ou_store Try.sizeOf22 rfl rfl rfl ((Own.get hou hu)) ((Own.free hou _))) ?_
              have hL7 := hL5.upd hPa hu ho6' hg6 ha6
              obtain ⟨w7, hw7⟩ : ∃ w7, w7 = w6.setCell ⟨g, j, none⟩ (.slice A6 (ls.getD j [] ++ [5]).length c6) := ⟨_, rfl⟩
              rw [← hw7] at hL7
              simp only [Nat.zero_add]
              rw [← hw7]
              have b3r : Below w.heap.size w wr := b3.trans (hb.mono b3.size)
              have b3w := b3.size
              have b7 : Below w.heap.size w w7 := by
                rw [hw7]
                exact below_set (Own.below (((b3r.trans (b4.mono b3r.size)).trans (b5.mono (b3r.trans (b4.mono b3r.size)).size))) (hL5.each j _ hu) hg6 b3w (((b3r.trans (b4.mono b3r.size)).trans (b5.mono (b3r.trans (b4.mono b3r.size)).size))).size) (by omega) _ _
              refine vl_nil ?_
              refine v_seq ?_
              refine v_region ?_
              refine vl_some (ot_litI [1, 2, 3] Try.underlying22 Try.sizeOf5 Try.zeroValue5 rfl rfl rfl rfl (by decide)) ?_
              rintro v8 w8 ⟨g8, rfl, r8, b8⟩
              refine vl_val (os_move rfl) ?_
              refine vl_val (os_remi rfl rfl (by omega)) ?_
              refine vl_val (os_slice_h Try.underlying22 Try.sizeOf5 rfl rfl (h := x % 4) (by omega) (by omega)) ?_
              refine vl_val (os_move rfl) ?_
              refine vl_val (os_move rfl) ?_
              refine vl_val (os_move rfl) ?_
              refine vl_val (os_move rfl) ?_
              refine vl_val (os_mul rfl rfl ((show IntKind.i64.wrap ((n : Int) * (x : Int)) = (P : Int) by rw [hPx]; exact i64_fit ⟨by omega, by omega⟩))) ?_
              have hls7 : ∀ l ∈ ls.set j (ls.getD j [] ++ [5]), l.length ≤ 140737488351232 := fun l hl => by
                rcases List.mem_or_eq_of_mem_set hl with h | h
                · exact hle l h
                · rw [h, List.length_append, hlj]; simp; omega
              refine vl_call (law09_StripDoes _ (x % 4) 3 ([1, 2, 3].take (x % 4)) n _ n c2 (ls.set j (ls.getD j [] ++ [5])) P w8 (r8.take _) (by simp; omega) (by omega) (by omega) ((hL7.keep b8).rds rfl hls7) (by simp [hll]) (by omega) (by omega)) rfl ?_
              rintro v9 w9 ⟨rfl, b9⟩
              have b8w := b7.trans (b8.mono b7.size)
              refine vl_val (os_not rfl) ?_
              refine vl_nil ?_
              refine v_cond_f rfl ?_
              refine v_skip ?_
              refine v_region ?_
              refine vl_val (os_move rfl) ?_
              refine vl_val (os_addi rfl rfl (by omega)) ?_
              refine vl_val (os_assign rfl) ?_
              refine vl_nil ?_
              exact ⟨x + 1, ⟨rfl, trivial⟩, ⟨rfl, trivial⟩, ⟨by omega, b8w.trans (b9.mono b8w.size)⟩, by dsimp only; omega⟩
            · have b3r : Below w.heap.size w wr := b3.trans (hb.mono b3.size)
              refine v_skip ?_
              refine v_region ?_
              refine vl_val (os_move rfl) ?_
              refine vl_val (os_addi rfl rfl (by omega)) ?_
              refine vl_val (os_assign rfl) ?_
              refine vl_nil ?_
              exact ⟨x + 1, ⟨rfl, trivial⟩, ⟨rfl, trivial⟩, ⟨by omega, b3r.trans (b4.mono b3r.size)⟩, by dsimp only; omega⟩
      · refine v_exit ?_
        refine v_region ?_
        refine vl_val (os_move rfl) ?_
        refine vl_val (os_addi rfl rfl (by omega)) ?_
        refine vl_val (os_assign rfl) ?_
        refine vl_nil ?_
        exact ⟨n + 1, trivial, ⟨rfl, trivial⟩, ⟨by omega, b3⟩, by dsimp only; omega⟩
    · refine v_exit ?_
      refine v_seq ?_
      refine v_seq ?_
      refine v_region ?_
      refine vl_val (os_assign rfl) ?_
      refine vl_nil ?_
      refine v_block ?_
      refine v_loop [] (fun (n : Nat) => [(11, .int .i64 n)]) (fun n w' => 65534 ≤ n ∧ n ≤ 65538 ∧ Below w.heap.size w w') (fun n => 65538 - n) (65534) trivial ⟨rfl, trivial⟩ (⟨by omega, by omega, b2⟩) ?_
      rintro n w3 ⟨hn1, hn3, b3⟩
      refine v_seq ?_
      refine v_seq ?_
      refine v_region ?_
      refine vl_val (os_move rfl) ?_
      refine vl_val (os_lss rfl rfl) ?_
      refine vl_nil ?_
      refine v_cond_d rfl (fun hn4 => ?_) (fun hn4 => ?_)
      · refine v_skip ?_
        refine v_seq ?_
        refine v_block ?_
        refine v_seq ?_
        refine v_region ?_
        refine vl_val (os_move rfl) ?_
        refine vl_some (ot_make (l := n) Try.underlying22 ti_u8 rfl rfl rfl rfl rfl (by omega) (by simp [maxLen]; omega) w3.heap.size (Nat.le_refl _)) ?_
        rintro v4 w4 ⟨rfl, o4, g4⟩
        have b4 : Below w3.heap.size w3 w4 := (Below.refl _ _).grown g4 (Nat.le_refl _) (fun k hk => by cases hk)
        have o4' : OwnK w4 w3.heap.size 5 .u8 (.slice (some ⟨w3.heap.size, 0, none⟩) n n) (List.replicate n 0) := by unfold OwnK; rw [List.map_replicate]; exact o4
        refine vl_call (law09_StripDoes _ n n (List.replicate n 0) 255 none 0 0 [] 0 w4 (OwnK.rd o4') (by simp) (by omega) (by omega) RdS.nil rfl (by omega) (by omega)) rfl ?_
        rintro v5 w5 ⟨rfl, b5⟩
        have b35 := b4.trans (b5.mono b4.size)
        refine vl_val (os_not rfl) ?_
        refine vl_val (os_move rfl) ?_
        refine vl_valg rfl (os_move rfl) ?_
        refine vl_someg rfl (ot_make (l := n) Try.underlying22 ti_u8 rfl rfl rfl rfl rfl (by omega) (by simp [maxLen]; omega) w5.heap.size (Nat.le_refl _)) ?_
        rintro v6 w6 ⟨rfl, o6, g6⟩
        have b6 : Below w5.heap.size w5 w6 := (Below.refl _ _).grown g6 (Nat.le_refl _) (fun k hk => by cases hk)
        have o6' : OwnK w6 w5.heap.size 5 .u8 (.slice (some ⟨w5.heap.size, 0, none⟩) n n) (List.replicate n 0) := by unfold OwnK; rw [List.map_replicate]; exact o6
        refine vl_valg rfl (os_move rfl) ?_
        refine vl_callg rfl (law09_StripDoes _ n n (List.replicate n 0) 1 none 0 0 [] n w6 (OwnK.rd o6') (by simp) (by omega) (by omega) RdS.nil rfl (by omega) (by omega)) rfl ?_
        rintro v7 w7 ⟨rfl, b7⟩
        have b36 := b35.trans (b6.mono b35.size)
        have b37 := b36.trans (b7.mono b36.size)
        refine vl_valg rfl (os_not rfl) ?_
        refine vl_val (os_pick_f rfl rfl) ?_
        refine vl_nil ?_
        refine v_cond_f rfl ?_
        refine v_skip ?_
        refine v_region ?_
        refine vl_val (os_move rfl) ?_
        refine vl_val (os_addi rfl rfl (by omega)) ?_
        refine vl_val (os_assign rfl) ?_
        refine vl_nil ?_
        exact ⟨n + 1, trivial, ⟨rfl, trivial⟩, ⟨by omega, by omega, b3.trans (b37.mono b3.size)⟩, by dsimp only; omega⟩
      · refine v_exit ?_
        refine v_seq ?_
        refine v_region ?_
        refine vl_call (law09_awake w3) rfl ?_
        rintro v4 w4 ⟨rfl, b4⟩
        refine vl_val (os_assign rfl) ?_
        refine vl_nil ?_
        refine v_ret ?_
        exact post_ret rfl rfl (⟨rfl, b3.trans (b4.mono b3.size)⟩)
end Go.Proofs.Ytpojijnjdlnokaa
