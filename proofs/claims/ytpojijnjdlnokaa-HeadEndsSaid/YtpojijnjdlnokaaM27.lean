/- Texts joined: HdE. -/
import Derived.Test.YtpojijnjdlnokaaM26
/- Layer 14: the walk of HeadEnds. -/
namespace Go.Proofs.Ytpojijnjdlnokaa
open Go.RowKit
set_option linter.unusedVariables false

section
variable {P : Program} {n : Cx} {fr : Fr} {w : World} {ty T e : TypeId}
theorem oneInts (k : IntKind) (zs : List Int) : oneCells (zs.map (Value.int k)) = true := by
  induction zs with
  | nil => rfl
  | cons z r ih => simpa [oneCells, Value.oneCell'] using ih
/-- a list of integers, written out -/
theorem ot_litK {k : IntKind} (zs : List Int) {l : Nat} {ps : List (Nat × Operand)} {z0 : Value} (hT : P.underlying T = some (.slice e)) (hs : ∀ w, (sizeOf e).run P w = .ok 1 w) (hz : ∀ w, (zeroValue e).run P w = .ok z0 w) (hz1 : z0.cells.size = 1) (hx : evP fr ps 0 = some (zs.map (Value.int k))) (hl : l = zs.length) (h2 : l ≤ 16777216) :
    OT P n (.buildSlice T l ps.toArray) ty fr w fun v w' => ∃ g, v = .slice (some ⟨g, 0, none⟩) l l ∧ Rd w' k (some ⟨g, 0, none⟩) zs ∧ Below w.heap.size w w' ∧ OwnK w' w.heap.size e k v zs := by
  subst hl
  refine (os_lit hT hs hz hz1 hx (by simp) (oneInts k zs) h2).ot ⟨_, rfl, rd_alloc w k zs e, (Below.refl _ _).alloc (Nat.le_refl _) _, ?_⟩
  have := own_alloc (B := w.heap.size) w (zs.map (Value.int k)) e (Nat.le_refl _) (by simp [maxLen]; omega)
  rw [List.length_map] at this
  exact this
end
section
variable {P : Program} {n : Cx} {all rest : List Oper} {fr : Fr} {w : World} {Q : Exit → Fr → World → Prop} {d : Nat} {op : Op} {ty : TypeId} {pos : String} {aft : Array Edge}
theorem vl_someg {T : Value → World → Prop} {j : Nat} {b : Bool} (hg : guardF all fr j = some (.bool b)) (h : OT P n op ty fr w T) (k : ∀ v w', T v w' → VL P n all rest ((d, v) :: fr) w' Q) : VL P n all (⟨some d, op, ty, pos, aft, some (j, b)⟩ :: rest) fr w Q := by
  unfold VL
  intro hok a ha
  obtain ⟨h1, h2⟩ := dst_lt hok rfl
  unfold OT at h
  obtain ⟨v, w', hr, ht⟩ := h a ha
  have k' := k v w' ht
  unfold VL at k'
  unfold wpListIn
  simp only [Region.wanted, guardF_yields ha hg, BEq.rfl, if_true]
  exact in_value (by rw [execOp_bare, hr]) (k' h2 _ (ha.put h1 v))
end
def hEnds : List Int := [-9223372036854775808, -1, 0, 1, 2, 7, 8, 9, 254, 255, 256, 65535, 65536, 2147483647, 2147483648, 4294967296, 9223372036854775807]
theorem hEnds_in (i : Nat) : I64 (hEnds.getD i 0) := by
  have h : ∀ z ∈ hEnds, I64 z := by unfold I64; decide
  by_cases hi : i < hEnds.length
  · have := h (hEnds[i]) (List.getElem_mem hi)
    simpa [hi] using this
  · have : hEnds.getD i 0 = 0 := by simp [List.getElem?_eq_none (by omega : hEnds.length ≤ i)]
    rw [this]; unfold I64; omega
def goodQ : HeadP := ⟨5, 77, 2, 4, 99, [(1, 2), (3, 7)]⟩
theorem goodQ_put : putH goodQ [1, 2, 3, 4, 5] = true := by decide
theorem goodQ_len : (headB goodQ).length = 20 := by rw [headB_len]; rfl
def goodB : List Int := [1, 2, 3, 4, 5]
def turnB : List Int := [0, 1, 2, 3, 4, 9, 128, 255]
theorem goodB_all : AllB goodB := by unfold AllB goodB; decide
theorem turnB_all : AllB turnB := by unfold AllB turnB; decide
theorem allB_take {zs : List Int} (h : AllB zs) (k : Nat) : AllB (zs.take k) := fun z hz => h z (List.mem_of_mem_take hz)
theorem allB_set {zs : List Int} (h : AllB zs) (k : Nat) {b : Int} (hb : 0 ≤ b ∧ b ≤ 255) : AllB (zs.set k b) := fun z hz => by
  rcases List.mem_or_eq_of_mem_set hz with hz | hz
  · exact h z hz
  · rw [hz]; exact hb
theorem row_getD {rows : List (Int × Int)} (r : Nat) (hr : r < rows.length) : ((rows.map rowC).getD r []) = rowC rows[r] := by simp [hr]
set_option maxHeartbeats 8000000 in
theorem law14_HeadEnds (w : World) : Gives Try.prog 7 #[] w fun v w' => v = .bool true ∧ Below w.heap.size w w' := by
  refine gives_enter Try.call7 Try.func7 rfl rfl rfl (by kernel_rfl) ?_
  refine v_seq ?_
  refine v_region ?_
  refine vl_val (os_assign rfl) ?_
  refine vl_nil ?_
  refine v_seq ?_
  refine v_region ?_
  refine vl_some (ot_litK hEnds Try.underlying40 Try.sizeOf3 Try.zeroValue3 rfl rfl rfl (by decide)) ?_
  rintro v0 w0 ⟨g0, rfl, r0, b0, -⟩
  obtain ⟨E, hE⟩ : ∃ E, E = hEnds := ⟨_, rfl⟩
  have hIE : ∀ i, I64 (E.getD i 0) := by rw [hE]; exact hEnds_in
  have hEl : E.length = 17 := by rw [hE]; rfl
  rw [← hE] at r0
  refine vl_val (os_assign rfl) ?_
  refine vl_nil ?_
  refine v_seq ?_
  refine v_region ?_
  refine vl_val (os_build (cs := [.int .i64 1, .int .i64 2]) rfl (by kernel_rfl)) ?_
  refine vl_val (os_build (cs := [.int .i64 3, .int .i64 7]) rfl (by kernel_rfl)) ?_
  refine vl_some (ot_litS (css := [[.int .i64 1, .int .i64 2], [.int .i64 3, .int .i64 7]]) Try.underlying63 Try.sizeOf62 Try.zeroValue62 rfl rfl (by intro c hc; simp at hc; rcases hc with rfl | rfl <;> rfl) (by decide) (by decide) (by decide)) ?_
  rintro v1 w1 ⟨rfl, r1, s1, b1⟩
  obtain ⟨g1, hg1⟩ : ∃ g1, w0.heap.size = g1 := ⟨_, rfl⟩
  rw [hg1] at r1
  rw [hg1]
  refine vl_val (os_build (cs := [.int .i64 5, .int .i64 77, .int .i64 2, .int .i64 4, .int .i64 99, .slice (some ⟨g1, 0, none⟩) 2 2]) rfl (by kernel_rfl)) ?_
  refine vl_val (os_allocB Try.zeroValue65 (zc := _) (cs := zH) rfl) ?_
  have hN0 := bk_new w1 zH 65
  have b2a : Below w1.heap.size w1 (w1.alloc (.cells zH.toArray 65)) := (Below.refl _ _).alloc (Nat.le_refl _) _
  refine vl_unit (ou_storeB (by kernel_rfl) rfl rfl hN0 rfl rfl) ?_
  have hN2 := setRow_bk hN0 [.int .i64 5, .int .i64 77, .int .i64 2, .int .i64 4, .int .i64 99, .slice (some ⟨g1, 0, none⟩) 2 2]
  have b2 := below_setRow b2a (Nat.le_refl _) [Value.int .i64 5, .int .i64 77, .int .i64 2, .int .i64 4, .int .i64 99, .slice (some ⟨g1, 0, none⟩) 2 2].toArray
  obtain ⟨d, hdd⟩ : ∃ d : HeadV, d = ⟨goodQ, some ⟨g1, 0, none⟩, 2, 2⟩ := ⟨_, rfl⟩
  have hdq : d.q = goodQ := by rw [hdd]
  have hdl : d.l = 2 := by rw [hdd]
  have hd1 : HeadOk w1 d := by rw [hdd]; exact ⟨r1, rfl, (by decide : (2 : Nat) ≤ 9000000000000), ⟨(⟨by decide, by decide⟩ : I64 5), (⟨by decide, by decide⟩ : I64 77), (⟨by decide, by decide⟩ : I64 2), (⟨by decide, by decide⟩ : I64 4), (⟨by decide, by decide⟩ : I64 99)⟩, (fun p hp => by simp [goodQ] at hp; rcases hp with rfl | rfl <;> exact ⟨⟨by decide, by decide⟩, ⟨by decide, by decide⟩⟩), Nat.le_refl _⟩
  have hN2 : Bk ((w1.alloc (.cells zH.toArray 65)).setRow w1.heap.size [Value.int .i64 5, .int .i64 77, .int .i64 2, .int .i64 4, .int .i64 99, .slice (some ⟨g1, 0, none⟩) 2 2].toArray) w1.heap.size d.cells 65 := by rw [hdd]; exact hN2
  generalize hw2 : (w1.alloc (.cells zH.toArray 65)).setRow w1.heap.size [Value.int .i64 5, .int .i64 77, .int .i64 2, .int .i64 4, .int .i64 99, .slice (some ⟨g1, 0, none⟩) 2 2].toArray = w2 at *
  have hd2 : HeadOk w2 d := hd1.keep b2
  have b2w : Below w.heap.size w w2 := b0.trans ((Below.trans b1 (b2.mono (Below.size b1))).mono b0.size)
  have r02 := (r0.keep b1).keep b2
  generalize hGG : w1.heap.size = G at *
  refine vl_nil ?_
  refine v_seq ?_
  refine v_region ?_
  refine vl_some (ot_litK goodB Try.underlying22 Try.sizeOf5 Try.zeroValue5 rfl rfl rfl (by decide)) ?_
  rintro v3 w3 ⟨gB, rfl, rB3, b3, -⟩
  have hB5 := goodB_all
  have hBl : goodB.length = 5 := rfl
  obtain ⟨BB, hBB⟩ : ∃ BB, BB = goodB := ⟨_, rfl⟩
  rw [← hBB] at rB3 hB5 hBl
  have hG3 := hN2.keep b3
  have hd3 := hd2.keep b3
  have rE3 := r02.keep b3
  have b3w := b2w.trans (b3.mono b2w.size)
  have hput : hpV d.q BB = sealL (headB goodQ ++ goodB) := by unfold hpV; rw [hdq, hBB, show putH goodQ goodB = true from goodQ_put]; rfl
  refine vl_val (os_assign rfl) ?_
  refine vl_nil ?_
  refine v_seq ?_
  refine v_seq ?_
  refine v_region ?_
  refine vl_val (os_assign rfl) ?_
  refine vl_nil ?_
  refine v_block ?_
  refine v_loop [(1, _), (2, _), (3, _)] (fun (i : Nat) => [(4, .int .i64 i)]) (fun i w' => i ≤ 17 ∧ Below w3.heap.size w3 w') (fun i => 17 - i) (0) ⟨rfl, rfl, rfl, trivial⟩ ⟨rfl, trivial⟩ (⟨by omega, Below.refl _ _⟩) ?_
  rintro i w4 ⟨hi, b4⟩
  refine v_seq ?_
  refine v_seq ?_
  refine v_region ?_
  refine vl_val (os_move rfl) ?_
  refine vl_val (os_move rfl) ?_
  refine vl_val (os_len Try.underlying40 rfl) ?_
  refine vl_val (os_lss rfl rfl) ?_
  refine vl_nil ?_
  refine v_cond_d rfl (fun hlt => ?_) (fun hlt => ?_)
  · refine v_skip ?_
    refine v_seq ?_
    refine v_block ?_
    refine v_seq ?_
    refine v_region ?_
    refine vl_val (os_assign rfl) ?_
    refine vl_nil ?_
    refine v_seq ?_
    refine v_seq ?_
    refine v_region ?_
    refine vl_val (os_assign rfl) ?_
    refine vl_nil ?_
    refine v_block ?_
    refine v_loop2 [(1, _), (2, _), (3, _), (4, _)] (fun (v : Value) (k : Nat) => [(5, v), (6, .int .i64 k)]) (fun v k w' => k ≤ 9 ∧ HL1 w' w3.heap.size v k ∧ Below w3.heap.size w3 w') (fun v k => 9 - k) (.slice none 0 0) (0) ⟨rfl, rfl, rfl, rfl, trivial⟩ ⟨rfl, rfl, trivial⟩ (⟨by omega, ⟨[], rfl, OwnP.nil, fun d hd => by cases hd⟩, b4⟩) ?_
    rintro v k w5 ⟨hk, hv, b5⟩
    refine v_seq ?_
    refine v_seq ?_
    refine v_region ?_
    refine vl_val (os_move rfl) ?_
    refine vl_val (os_lss rfl rfl) ?_
    refine vl_nil ?_
    refine v_cond_d rfl (fun hlt2 => ?_) (fun hlt2 => ?_)
    · have hv0 := hv
      refine v_skip ?_
      refine v_seq ?_
      refine v_block ?_
      refine v_region ?_
      refine vl_val (os_move rfl) ?_
      refine vl_val (os_loadB Try.underlying65 rfl (by kernel_rfl) rfl (hG3.keep b5)) ?_
      refine vl_call (kit_CopyHead d w5 (hd3.keep b5) (by omega)) rfl ?_
      rintro v6 w6 ⟨A6, c6, rfl, o6, hc6, b6⟩
      have b6w := b5.trans (b6.mono b5.size)
      obtain ⟨ds, hv1, hv2, hv3⟩ := (hv.keep b6)
      have hf6 : X2 w6 w3.heap.size ⟨d.q, A6, d.l, c6⟩ := ⟨OwnP.mono o6 b5.size, hdl, by rw [hdq]; rfl, hc6.2.2.2.1, hc6.2.2.2.2.1, hc6.2.2.2.2.2⟩
      refine vl_val (os_litS (css := [HeadV.cells ⟨d.q, A6, d.l, c6⟩]) Try.underlying66 Try.sizeOf65 Try.zeroValue65 rfl rfl (by intro c hc; simp at hc; subst hc; rfl) (by decide) (by decide) (by decide)) ?_
      have x0 : Below w6.heap.size w6 (w6.alloc (.cells [HeadV.cells ⟨d.q, A6, d.l, c6⟩].flatten.toArray 65)) := (Below.refl _ _).alloc (Nat.le_refl _) _
      have b7w := b6w.trans (x0.mono b6w.size)
      have hv2' := OwnP.alloc hv2 (.cells [HeadV.cells ⟨d.q, A6, d.l, c6⟩].flatten.toArray 65)
      have hv3' : ∀ d' ∈ ds, X2 (w6.alloc (.cells [HeadV.cells ⟨d.q, A6, d.l, c6⟩].flatten.toArray 65)) w3.heap.size d' := fun d' hd' => (hv3 d' hd').blk fun k hk => x0.block k ((hv3 d' hd').own.lt k hk).2
      have hf7 : X2 (w6.alloc (.cells [HeadV.cells ⟨d.q, A6, d.l, c6⟩].flatten.toArray 65)) w3.heap.size ⟨d.q, A6, d.l, c6⟩ := hf6.blk fun k hk => x0.block k (hf6.own.lt k hk).2
      have hml : (ds.map HeadV.cells).length = k := by simp [hv1]
      refine vl_some (ot_append_pn Try.underlying66 ti_wHead rfl (by decide) rfl rfl hv2' (rdp_alloc _ _ _ (by intro c hc; simp at hc; subst hc; rfl)) (by intro c hc; simp at hc; subst hc; rfl) rfl (by intro c hc u hu; simp at hc; subst hc; simp [HeadV.cells] at hu; rcases hu with rfl | rfl | rfl | rfl | rfl | rfl <;> rfl) (by rw [hml]; omega) (by rw [hml]; simp [maxLen]; omega) b7w.size) ?_
      rintro v8 w8 ⟨o8, hg8⟩
      refine vl_val (os_assign rfl) ?_
      refine vl_nil ?_
      refine v_region ?_
      refine vl_val (os_move rfl) ?_
      refine vl_val (os_addi rfl rfl (by omega)) ?_
      refine vl_val (os_assign rfl) ?_
      refine vl_nil ?_
      exact ⟨⟨v8, k + 1⟩, ⟨rfl, rfl, rfl, rfl, trivial⟩, ⟨rfl, rfl, trivial⟩, ⟨by omega, HL1.grown hv1 hv2' hv3' hf7 o8 hg8, OwnP.below b7w hv2' hg8 (Nat.le_refl _) b7w.size⟩, by dsimp only; omega⟩
    · obtain rfl : k = 9 := by omega
      obtain ⟨g, c, rfl, hgB, hgl, hc9⟩ := hv.row9
      obtain ⟨z, hz⟩ : ∃ z, E.getD i 0 = z := ⟨_, rfl⟩
      have hIz : I64 z := by rw [← hz]; exact hIE i
      obtain ⟨u, hu, hfr⟩ := hv.numAt (k := 0) (i := 0) (by omega) (by omega)
      obtain ⟨_, _, eE, ci⟩ := (rE3.keep b5).at_ (i := i) (by omega)
      cases eE
      rw [hz] at ci
      refine v_exit ?_
      refine v_mid [(1, _), (2, _), (3, _), (4, _), (5, _)] (fun (x : Nat) => []) (fun x w' => HL1 w' w3.heap.size (.slice (some ⟨g, 0, none⟩) 9 c) 9 ∧ Below w3.heap.size w3 w') ⟨rfl, rfl, rfl, rfl, rfl, trivial⟩ ?_ ?_
      · refine v_region ?_
        refine vl_val (os_move rfl) ?_
        refine vl_val (os_move rfl) ?_
        refine vl_val (os_move rfl) ?_
        refine vl_val (os_ix Try.underlying40 Try.sizeOf3 rfl rfl (i := i) (by omega) (by omega)) ?_
        refine vl_val (os_load Try.isAgg3 rfl (ci)) ?_
        refine vl_val (os_ixs Try.underlying66 Try.sizeOf65 rfl rfl (i := 0) (by omega) (by omega)) ?_
        refine vl_val (os_fa (o := 0) (k := 0) (by kernel_rfl) rfl) ?_
        refine vl_unit (ou_store Try.sizeOf3 rfl rfl rfl (hu) (hfr)) ?_
        refine vl_nil ?_
        exact ⟨0, ⟨rfl, rfl, rfl, rfl, rfl, trivial⟩, trivial, ⟨hv.setN (k := 0) (i := 0) (by omega) (by omega) hIz, below_set b5 hgB _ _⟩⟩
      · rintro x w5 ⟨hv, b5⟩
        obtain ⟨u, hu, hfr⟩ := hv.numAt (k := 1) (i := 1) (by omega) (by omega)
        obtain ⟨_, _, eE, ci⟩ := (rE3.keep b5).at_ (i := i) (by omega)
        cases eE
        rw [hz] at ci
        refine v_mid [(1, _), (2, _), (3, _), (4, _), (5, _)] (fun (x : Nat) => []) (fun x w' => HL1 w' w3.heap.size (.slice (some ⟨g, 0, none⟩) 9 c) 9 ∧ Below w3.heap.size w3 w') ⟨rfl, rfl, rfl, rfl, rfl, trivial⟩ ?_ ?_
        · refine v_region ?_
          refine vl_val (os_move rfl) ?_
          refine vl_val (os_move rfl) ?_
          refine vl_val (os_move rfl) ?_
          refine vl_val (os_ix Try.underlying40 Try.sizeOf3 rfl rfl (i := i) (by omega) (by omega)) ?_
          refine vl_val (os_load Try.isAgg3 rfl (ci)) ?_
          refine vl_val (os_ixs Try.underlying66 Try.sizeOf65 rfl rfl (i := 1) (by omega) (by omega)) ?_
          refine vl_val (os_fa (o := 1) (k := 0) (by kernel_rfl) rfl) ?_
          refine vl_unit (ou_store Try.sizeOf3 rfl rfl rfl (hu) (hfr)) ?_
          refine vl_nil ?_
          exact ⟨0, ⟨rfl, rfl, rfl, rfl, rfl, trivial⟩, trivial, ⟨hv.setN (k := 1) (i := 1) (by omega) (by omega) hIz, below_set b5 hgB _ _⟩⟩
        · rintro x w5 ⟨hv, b5⟩
          obtain ⟨u, hu, hfr⟩ := hv.numAt (k := 2) (i := 2) (by omega) (by omega)
          obtain ⟨_, _, eE, ci⟩ := (rE3.keep b5).at_ (i := i) (by omega)
          cases eE
          rw [hz] at ci
          refine v_mid [(1, _), (2, _), (3, _), (4, _), (5, _)] (fun (x : Nat) => []) (fun x w' => HL1 w' w3.heap.size (.slice (some ⟨g, 0, none⟩) 9 c) 9 ∧ Below w3.heap.size w3 w') ⟨rfl, rfl, rfl, rfl, rfl, trivial⟩ ?_ ?_
          · refine v_region ?_
            refine vl_val (os_move rfl) ?_
            refine vl_val (os_move rfl) ?_
            refine vl_val (os_move rfl) ?_
            refine vl_val (os_ix Try.underlying40 Try.sizeOf3 rfl rfl (i := i) (by omega) (by omega)) ?_
            refine vl_val (os_load Try.isAgg3 rfl (ci)) ?_
            refine vl_val (os_ixs Try.underlying66 Try.sizeOf65 rfl rfl (i := 2) (by omega) (by omega)) ?_
            refine vl_val (os_fa (o := 2) (k := 0) (by kernel_rfl) rfl) ?_
            refine vl_unit (ou_store Try.sizeOf3 rfl rfl rfl (hu) (hfr)) ?_
            refine vl_nil ?_
            exact ⟨0, ⟨rfl, rfl, rfl, rfl, rfl, trivial⟩, trivial, ⟨hv.setN (k := 2) (i := 2) (by omega) (by omega) hIz, below_set b5 hgB _ _⟩⟩
          · rintro x w5 ⟨hv, b5⟩
            obtain ⟨u, hu, hfr⟩ := hv.numAt (k := 3) (i := 3) (by omega) (by omega)
            obtain ⟨_, _, eE, ci⟩ := (rE3.keep b5).at_ (i := i) (by omega)
            cases eE
            rw [hz] at ci
            refine v_mid [(1, _), (2, _), (3, _), (4, _), (5, _)] (fun (x : Nat) => []) (fun x w' => HL1 w' w3.heap.size (.slice (some ⟨g, 0, none⟩) 9 c) 9 ∧ Below w3.heap.size w3 w') ⟨rfl, rfl, rfl, rfl, rfl, trivial⟩ ?_ ?_
            · refine v_region ?_
              refine vl_val (os_move rfl) ?_
              refine vl_val (os_move rfl) ?_
              refine vl_val (os_move rfl) ?_
              refine vl_val (os_ix Try.underlying40 Try.sizeOf3 rfl rfl (i := i) (by omega) (by omega)) ?_
              refine vl_val (os_load Try.isAgg3 rfl (ci)) ?_
              refine vl_val (os_ixs Try.underlying66 Try.sizeOf65 rfl rfl (i := 3) (by omega) (by omega)) ?_
              refine vl_val (os_fa (o := 3) (k := 0) (by kernel_rfl) rfl) ?_
              refine vl_unit (ou_store Try.sizeOf3 rfl rfl rfl (hu) (hfr)) ?_
              refine vl_nil ?_
              exact ⟨0, ⟨rfl, rfl, rfl, rfl, rfl, trivial⟩, trivial, ⟨hv.setN (k := 3) (i := 3) (by omega) (by omega) hIz, below_set b5 hgB _ _⟩⟩
            · rintro x w5 ⟨hv, b5⟩
              obtain ⟨u, hu, hfr⟩ := hv.numAt (k := 4) (i := 4) (by omega) (by omega)
              obtain ⟨_, _, eE, ci⟩ := (rE3.keep b5).at_ (i := i) (by omega)
              cases eE
              rw [hz] at ci
              refine v_mid [(1, _), (2, _), (3, _), (4, _), (5, _)] (fun (x : Nat) => []) (fun x w' => HL1 w' w3.heap.size (.slice (some ⟨g, 0, none⟩) 9 c) 9 ∧ Below w3.heap.size w3 w') ⟨rfl, rfl, rfl, rfl, rfl, trivial⟩ ?_ ?_
              · refine v_region ?_
                refine vl_val (os_move rfl) ?_
                refine vl_val (os_move rfl) ?_
                refine vl_val (os_move rfl) ?_
                refine vl_val (os_ix Try.underlying40 Try.sizeOf3 rfl rfl (i := i) (by omega) (by omega)) ?_
                refine vl_val (os_load Try.isAgg3 rfl (ci)) ?_
                refine vl_val (os_ixs Try.underlying66 Try.sizeOf65 rfl rfl (i := 4) (by omega) (by omega)) ?_
                refine vl_val (os_fa (o := 4) (k := 0) (by kernel_rfl) rfl) ?_
                refine vl_unit (ou_store Try.sizeOf3 rfl rfl rfl (hu) (hfr)) ?_
                refine vl_nil ?_
                exact ⟨0, ⟨rfl, rfl, rfl, rfl, rfl, trivial⟩, trivial, ⟨hv.setN (k := 4) (i := 4) (by omega) (by omega) hIz, below_set b5 hgB _ _⟩⟩
              · rintro x w5 ⟨hv, b5⟩
                have hvd : HL1 (w5.drewN 1) w3.heap.size (.slice (some ⟨g, 0, none⟩) 9 c) 9 := hv.led ⟨1, rfl⟩
                have bd : Below w3.heap.size w3 (w5.drewN 1) := b5.trans ((led_below (⟨1, rfl⟩ : LeD w5 (w5.drewN 1))).mono b5.size)
                obtain ⟨gr, c2, hgr, hcl, hrow⟩ := hvd.rowAt (k := 5) (by omega)
                obtain ⟨⟨u, hu⟩, hfr, hset⟩ := hrow 0 0 (by omega) (by omega)
                obtain ⟨_, _, eE, ci⟩ := (rE3.keep bd).at_ (i := i) (by omega)
                cases eE
                rw [hz] at ci
                refine v_mid [(1, _), (2, _), (3, _), (4, _), (5, _)] (fun (x : Nat) => []) (fun x w' => HL1 w' w3.heap.size (.slice (some ⟨g, 0, none⟩) 9 c) 9 ∧ Below w3.heap.size w3 w') ⟨rfl, rfl, rfl, rfl, rfl, trivial⟩ ?_ ?_
                · refine v_region_a mixed ?_
                  refine va_pure 0 rfl (by kernel_rfl) (by kernel_rfl) (by kernel_rfl) (fun w => (os_move rfl)) ?_
                  refine va_pure 1 rfl (by kernel_rfl) (by kernel_rfl) (by kernel_rfl) (fun w => (os_ixs Try.underlying66 Try.sizeOf65 rfl rfl (i := 5) (by omega) (by omega))) ?_
                  refine va_pure 2 rfl (by kernel_rfl) (by kernel_rfl) (by kernel_rfl) (fun w => (os_fa (o := 5) (k := 0) (by kernel_rfl) rfl)) ?_
                  refine va_pure 4 rfl (by kernel_rfl) (by kernel_rfl) (by kernel_rfl) (fun w => (os_move rfl)) ?_
                  refine va_pure 5 rfl (by kernel_rfl) (by kernel_rfl) (by kernel_rfl) (fun w => (os_move rfl)) ?_
                  refine va_pure 6 rfl (by kernel_rfl) (by kernel_rfl) (by kernel_rfl) (fun w => (os_ix Try.underlying40 Try.sizeOf3 rfl rfl (i := i) (by omega) (by omega))) ?_
                  refine va_two 3 7 (by kernel_rfl) ?_ ?_
                  · refine vn_val rfl (os_load Try.isAgg63 rfl (hcl)) ?_
                    refine va_one 7 (by kernel_rfl) ?_
                    refine vn_val rfl (os_load Try.isAgg3 rfl (ci)) ?_
                    refine va_pure 8 rfl (by kernel_rfl) (by kernel_rfl) (by kernel_rfl) (fun w => (os_ixs Try.underlying63 Try.sizeOf62 rfl rfl (i := 0) (by omega) (by omega))) ?_
                    refine va_pure 9 rfl (by kernel_rfl) (by kernel_rfl) (by kernel_rfl) (fun w => (os_fa (o := 0) (k := 0) (by kernel_rfl) rfl)) ?_
                    refine va_one 10 (by kernel_rfl) ?_
                    refine vn_unit rfl (ou_store Try.sizeOf3 rfl rfl rfl (hu) (hfr)) ?_
                    refine va_done (by kernel_rfl) ?_
                    exact ⟨0, ⟨rfl, rfl, rfl, rfl, rfl, trivial⟩, trivial, ⟨hset z hIz, below_set bd hgr _ _⟩⟩
                  · refine vn_val rfl (os_load Try.isAgg3 rfl (ci)) ?_
                    refine va_one 3 (by kernel_rfl) ?_
                    refine vn_val rfl (os_load Try.isAgg63 rfl (hcl)) ?_
                    refine va_pure 8 rfl (by kernel_rfl) (by kernel_rfl) (by kernel_rfl) (fun w => (os_ixs Try.underlying63 Try.sizeOf62 rfl rfl (i := 0) (by omega) (by omega))) ?_
                    refine va_pure 9 rfl (by kernel_rfl) (by kernel_rfl) (by kernel_rfl) (fun w => (os_fa (o := 0) (k := 0) (by kernel_rfl) rfl)) ?_
                    refine va_one 10 (by kernel_rfl) ?_
                    refine vn_unit rfl (ou_store Try.sizeOf3 rfl rfl rfl (hu) (hfr)) ?_
                    refine va_done (by kernel_rfl) ?_
                    exact ⟨0, ⟨rfl, rfl, rfl, rfl, rfl, trivial⟩, trivial, ⟨hset z hIz, below_set bd hgr _ _⟩⟩
                · rintro x w5 ⟨hv, b5⟩
                  have hvd : HL1 (w5.drewN 1) w3.heap.size (.slice (some ⟨g, 0, none⟩) 9 c) 9 := hv.led ⟨1, rfl⟩
                  have bd : Below w3.heap.size w3 (w5.drewN 1) := b5.trans ((led_below (⟨1, rfl⟩ : LeD w5 (w5.drewN 1))).mono b5.size)
                  obtain ⟨gr, c2, hgr, hcl, hrow⟩ := hvd.rowAt (k := 6) (by omega)
                  obtain ⟨⟨u, hu⟩, hfr, hset⟩ := hrow 1 0 (by omega) (by omega)
                  obtain ⟨_, _, eE, ci⟩ := (rE3.keep bd).at_ (i := i) (by omega)
                  cases eE
                  rw [hz] at ci
                  refine v_mid [(1, _), (2, _), (3, _), (4, _), (5, _)] (fun (x : Nat) => []) (fun x w' => HL1 w' w3.heap.size (.slice (some ⟨g, 0, none⟩) 9 c) 9 ∧ Below w3.heap.size w3 w') ⟨rfl, rfl, rfl, rfl, rfl, trivial⟩ ?_ ?_
                  · refine v_region_a mixed ?_
                    refine va_pure 0 rfl (by kernel_rfl) (by kernel_rfl) (by kernel_rfl) (fun w => (os_move rfl)) ?_
                    refine va_pure 1 rfl (by kernel_rfl) (by kernel_rfl) (by kernel_rfl) (fun w => (os_ixs Try.underlying66 Try.sizeOf65 rfl rfl (i := 6) (by omega) (by omega))) ?_
                    refine va_pure 2 rfl (by kernel_rfl) (by kernel_rfl) (by kernel_rfl) (fun w => (os_fa (o := 5) (k := 0) (by kernel_rfl) rfl)) ?_
                    refine va_pure 4 rfl (by kernel_rfl) (by kernel_rfl) (by kernel_rfl) (fun w => (os_move rfl)) ?_
                    refine va_pure 5 rfl (by kernel_rfl) (by kernel_rfl) (by kernel_rfl) (fun w => (os_move rfl)) ?_
                    refine va_pure 6 rfl (by kernel_rfl) (by kernel_rfl) (by kernel_rfl) (fun w => (os_ix Try.underlying40 Try.sizeOf3 rfl rfl (i := i) (by omega) (by omega))) ?_
                    refine va_two 3 7 (by kernel_rfl) ?_ ?_
                    · refine vn_val rfl (os_load Try.isAgg63 rfl (hcl)) ?_
                      refine va_one 7 (by kernel_rfl) ?_
                      refine vn_val rfl (os_load Try.isAgg3 rfl (ci)) ?_
                      refine va_pure 8 rfl (by kernel_rfl) (by kernel_rfl) (by kernel_rfl) (fun w => (os_ixs Try.underlying63 Try.sizeOf62 rfl rfl (i := 1) (by omega) (by omega))) ?_
                      refine va_pure 9 rfl (by kernel_rfl) (by kernel_rfl) (by kernel_rfl) (fun w => (os_fa (o := 0) (k := 0) (by kernel_rfl) rfl)) ?_
                      refine va_one 10 (by kernel_rfl) ?_
                      refine vn_unit rfl (ou_store Try.sizeOf3 rfl rfl rfl (hu) (hfr)) ?_
                      refine va_done (by kernel_rfl) ?_
                      exact ⟨0, ⟨rfl, rfl, rfl, rfl, rfl, trivial⟩, trivial, ⟨hset z hIz, below_set bd hgr _ _⟩⟩
                    · refine vn_val rfl (os_load Try.isAgg3 rfl (ci)) ?_
                      refine va_one 3 (by kernel_rfl) ?_
                      refine vn_val rfl (os_load Try.isAgg63 rfl (hcl)) ?_
                      refine va_pure 8 rfl (by kernel_rfl) (by kernel_rfl) (by kernel_rfl) (fun w => (os_ixs Try.underlying63 Try.sizeOf62 rfl rfl (i := 1) (by omega) (by omega))) ?_
                      refine va_pure 9 rfl (by kernel_rfl) (by kernel_rfl) (by kernel_rfl) (fun w => (os_fa (o := 0) (k := 0) (by kernel_rfl) rfl)) ?_
                      refine va_one 10 (by kernel_rfl) ?_
                      refine vn_unit rfl (ou_store Try.sizeOf3 rfl rfl rfl (hu) (hfr)) ?_
                      refine va_done (by kernel_rfl) ?_
                      exact ⟨0, ⟨rfl, rfl, rfl, rfl, rfl, trivial⟩, trivial, ⟨hset z hIz, below_set bd hgr _ _⟩⟩
                  · rintro x w5 ⟨hv, b5⟩
                    have hvd : HL1 (w5.drewN 1) w3.heap.size (.slice (some ⟨g, 0, none⟩) 9 c) 9 := hv.led ⟨1, rfl⟩
                    have bd : Below w3.heap.size w3 (w5.drewN 1) := b5.trans ((led_below (⟨1, rfl⟩ : LeD w5 (w5.drewN 1))).mono b5.size)
                    obtain ⟨gr, c2, hgr, hcl, hrow⟩ := hvd.rowAt (k := 7) (by omega)
                    obtain ⟨⟨u, hu⟩, hfr, hset⟩ := hrow 0 1 (by omega) (by omega)
                    obtain ⟨_, _, eE, ci⟩ := (rE3.keep bd).at_ (i := i) (by omega)
                    cases eE
                    rw [hz] at ci
                    refine v_mid [(1, _), (2, _), (3, _), (4, _), (5, _)] (fun (x : Nat) => []) (fun x w' => HL1 w' w3.heap.size (.slice (some ⟨g, 0, none⟩) 9 c) 9 ∧ Below w3.heap.size w3 w') ⟨rfl, rfl, rfl, rfl, rfl, trivial⟩ ?_ ?_
                    · refine v_region_a mixed ?_
                      refine va_pure 0 rfl (by kernel_rfl) (by kernel_rfl) (by kernel_rfl) (fun w => (os_move rfl)) ?_
                      refine va_pure 1 rfl (by kernel_rfl) (by kernel_rfl) (by kernel_rfl) (fun w => (os_ixs Try.underlying66 Try.sizeOf65 rfl rfl (i := 7) (by omega) (by omega))) ?_
                      refine va_pure 2 rfl (by kernel_rfl) (by kernel_rfl) (by kernel_rfl) (fun w => (os_fa (o := 5) (k := 0) (by kernel_rfl) rfl)) ?_
                      refine va_pure 4 rfl (by kernel_rfl) (by kernel_rfl) (by kernel_rfl) (fun w => (os_move rfl)) ?_
                      refine va_pure 5 rfl (by kernel_rfl) (by kernel_rfl) (by kernel_rfl) (fun w => (os_move rfl)) ?_
                      refine va_pure 6 rfl (by kernel_rfl) (by kernel_rfl) (by kernel_rfl) (fun w => (os_ix Try.underlying40 Try.sizeOf3 rfl rfl (i := i) (by omega) (by omega))) ?_
                      refine va_two 3 7 (by kernel_rfl) ?_ ?_
                      · refine vn_val rfl (os_load Try.isAgg63 rfl (hcl)) ?_
                        refine va_one 7 (by kernel_rfl) ?_
                        refine vn_val rfl (os_load Try.isAgg3 rfl (ci)) ?_
                        refine va_pure 8 rfl (by kernel_rfl) (by kernel_rfl) (by kernel_rfl) (fun w => (os_ixs Try.underlying63 Try.sizeOf62 rfl rfl (i := 0) (by omega) (by omega))) ?_
                        refine va_pure 9 rfl (by kernel_rfl) (by kernel_rfl) (by kernel_rfl) (fun w => (os_fa (o := 1) (k := 0) (by kernel_rfl) rfl)) ?_
                        refine va_one 10 (by kernel_rfl) ?_
                        refine vn_unit rfl (ou_store Try.sizeOf3 rfl rfl rfl (hu) (hfr)) ?_
                        refine va_done (by kernel_rfl) ?_
                        exact ⟨0, ⟨rfl, rfl, rfl, rfl, rfl, trivial⟩, trivial, ⟨hset z hIz, below_set bd hgr _ _⟩⟩
                      · refine vn_val rfl (os_load Try.isAgg3 rfl (ci)) ?_
                        refine va_one 3 (by kernel_rfl) ?_
                        refine vn_val rfl (os_load Try.isAgg63 rfl (hcl)) ?_
                        refine va_pure 8 rfl (by kernel_rfl) (by kernel_rfl) (by kernel_rfl) (fun w => (os_ixs Try.underlying63 Try.sizeOf62 rfl rfl (i := 0) (by omega) (by omega))) ?_
                        refine va_pure 9 rfl (by kernel_rfl) (by kernel_rfl) (by kernel_rfl) (fun w => (os_fa (o := 1) (k := 0) (by kernel_rfl) rfl)) ?_
                        refine va_one 10 (by kernel_rfl) ?_
                        refine vn_unit rfl (ou_store Try.sizeOf3 rfl rfl rfl (hu) (hfr)) ?_
                        refine va_done (by kernel_rfl) ?_
                        exact ⟨0, ⟨rfl, rfl, rfl, rfl, rfl, trivial⟩, trivial, ⟨hset z hIz, below_set bd hgr _ _⟩⟩
                    · rintro x w5 ⟨hv, b5⟩
                      obtain ⟨u, hu, hfr⟩ := hv.numAt (k := 8) (i := 5) (by omega) (by omega)
                      obtain ⟨_, _, eE, ci⟩ := (rE3.keep b5).at_ (i := i) (by omega)
                      cases eE
                      rw [hz] at ci
                      obtain ⟨m, hm, hm12⟩ : ∃ m : Nat, max (min z 12) 0 = (m : Int) ∧ m ≤ 12 := ⟨(max (min z 12) 0).toNat, by omega, by omega⟩
                      refine v_mid [(1, _), (2, _), (3, _), (4, _), (5, _)] (fun (x : Nat) => []) (fun x w' => HL2 w' g ∧ Below w3.heap.size w3 w') ⟨rfl, rfl, rfl, rfl, rfl, trivial⟩ ?_ ?_
                      · refine v_region ?_
                        refine vl_val (os_move rfl) ?_
                        refine vl_val (os_move rfl) ?_
                        refine vl_val (os_move rfl) ?_
                        refine vl_val (os_ix Try.underlying40 Try.sizeOf3 rfl rfl (i := i) (by omega) (by omega)) ?_
                        refine vl_val (os_load Try.isAgg3 rfl (ci)) ?_
                        refine vl_val (os_min rfl rfl) ?_
                        refine vl_val (os_max rfl rfl) ?_
                        refine vl_some (ot_makeR Try.underlying63 ti_wTable rfl rfl hm hm (by omega) (by simp [maxLen]; omega) w5.heap.size (Nat.le_refl _)) ?_
                        rintro v6 w6 ⟨rfl, o6, hg6⟩
                        have b6 : Below w5.heap.size w5 w6 := (Below.refl _ _).grown hg6 (Nat.le_refl _) (fun k hk => by cases hk)
                        have hv6 := hv.keep b6
                        have b6w := b5.trans (b6.mono b5.size)
                        obtain ⟨u, hu, hfr⟩ := hv6.numAt (k := 8) (i := 5) (by omega) (by omega)
                        refine vl_val (os_ixs Try.underlying66 Try.sizeOf65 rfl rfl (i := 8) (by omega) (by omega)) ?_
                        refine vl_val (os_fa (o := 5) (k := 0) (by kernel_rfl) rfl) ?_
                        refine vl_unit (ou_store Try.sizeOf63 rfl rfl rfl (hu) (hfr)) ?_
                        refine vl_nil ?_
                        exact ⟨0, ⟨rfl, rfl, rfl, rfl, rfl, trivial⟩, trivial, ⟨hv6.last o6 hm12, below_set b6w hgB _ _⟩⟩
                      · rintro x w6 ⟨h6, b6⟩
                        refine v_seq ?_
                        refine v_region ?_
                        refine vl_val (os_assign rfl) ?_
                        refine vl_nil ?_
                        refine v_block ?_
                        refine v_loop [(1, _), (2, _), (3, _), (4, _), (5, _)] (fun (k : Nat) => [(7, .int .i64 k)]) (fun k w' => k ≤ 9 ∧ HL2 w' g ∧ Below w3.heap.size w3 w') (fun k => 9 - k) (0) ⟨rfl, rfl, rfl, rfl, rfl, trivial⟩ ⟨rfl, trivial⟩ (⟨by omega, h6, b6⟩) ?_
                        rintro k w7 ⟨hk, h7, b7⟩
                        refine v_seq ?_
                        refine v_seq ?_
                        refine v_region ?_
                        refine vl_val (os_move rfl) ?_
                        refine vl_val (os_lss rfl rfl) ?_
                        refine vl_nil ?_
                        refine v_cond_d rfl (fun hlt3 => ?_) (fun hlt3 => ?_)
                        · obtain ⟨f, hf, hrf⟩ := h7.at_ (k := k) (by omega)
                          have hG7 := hG3.keep b7
                          have hd7 := hd3.keep b7
                          have rB7 := rB3.keep b7
                          refine v_skip ?_
                          refine v_seq ?_
                          refine v_block ?_
                          refine v_mid [(1, _), (2, _), (3, _), (4, _), (5, _), (7, _)] (fun (x : Nat) => [(136, .bool false)]) (fun x w' => HL2 w' g ∧ Below w3.heap.size w3 w') ⟨rfl, rfl, rfl, rfl, rfl, rfl, trivial⟩ ?_ ?_
                          · refine v_region_h (fun w' => Below w7.heap.size w7 w') mixed ((Below.refl _ _).drew) ?_
                            refine vh_pure 0 rfl (by kernel_rfl) (by kernel_rfl) (by kernel_rfl) (fun w hw => (os_move rfl)) ?_
                            refine vh_pure 1 rfl (by kernel_rfl) (by kernel_rfl) (by kernel_rfl) (fun w hw => (os_move rfl)) ?_
                            refine vh_pure 2 rfl (by kernel_rfl) (by kernel_rfl) (by kernel_rfl) (fun w hw => (os_ixs Try.underlying66 Try.sizeOf65 rfl rfl (i := k) (by omega) (by omega))) ?_
                            refine vh_pure 3 rfl (by kernel_rfl) (by kernel_rfl) (by kernel_rfl) (fun w hw => (os_loadP Try.underlying65 rfl (by kernel_rfl) rfl (hrf.keep hw))) ?_
                            refine vh_pure 4 rfl (by kernel_rfl) (by kernel_rfl) (by kernel_rfl) (fun w hw => (os_loadB Try.underlying65 rfl (by kernel_rfl) rfl (hG7.keep hw))) ?_
                            refine vh_pure 5 rfl (by kernel_rfl) (by kernel_rfl) (by kernel_rfl) (fun w hw => (os_move rfl)) ?_
                            refine vh_one 6 (by kernel_rfl) ?_
                            refine vhn_hold fun hcur => ?_
                            refine vhn_call rfl (law14_HeadPuts f d (some ⟨gB, 0, none⟩) 5 5 BB _ (hf.keep hcur) (hd7.keep hcur) (rB7.keep hcur) hBl.symm (by omega) hB5 (by omega)) rfl (fun hw v w' h => hw.trans (h.2.mono hw.size)) ?_
                            rintro v8 w8 ⟨rfl, b8⟩
                            refine vh_pure 7 rfl (by kernel_rfl) (by kernel_rfl) (by kernel_rfl) (fun w hw => (os_not rfl)) ?_
                            refine vh_pure 8 rfl (by kernel_rfl) (by kernel_rfl) (by kernel_rfl) (fun w hw => (os_move rfl)) ?_
                            refine vh_pure 9 rfl (by kernel_rfl) (by kernel_rfl) (by kernel_rfl) (fun w hw => (os_loadB Try.underlying65 rfl (by kernel_rfl) rfl (hG7.keep hw))) ?_
                            refine vh_pure 10 rfl (by kernel_rfl) (by kernel_rfl) (by kernel_rfl) (fun w hw => (os_move rfl)) ?_
                            refine vh_pure 11 rfl (by kernel_rfl) (by kernel_rfl) (by kernel_rfl) (fun w hw => (os_move rfl)) ?_
                            refine vh_pure 12 rfl (by kernel_rfl) (by kernel_rfl) (by kernel_rfl) (fun w hw => (os_ixs Try.underlying66 Try.sizeOf65 rfl rfl (i := k) (by omega) (by omega))) ?_
                            refine vh_pure 13 rfl (by kernel_rfl) (by kernel_rfl) (by kernel_rfl) (fun w hw => (os_loadP Try.underlying65 rfl (by kernel_rfl) rfl (hrf.keep hw))) ?_
                            refine vh_pure 14 rfl (by kernel_rfl) (by kernel_rfl) (by kernel_rfl) (fun w hw => (os_move rfl)) ?_
                            refine vh_pure 15 rfl (by kernel_rfl) (by kernel_rfl) (by kernel_rfl) (fun w hw => (os_move rfl)) ?_
                            refine vh_pure 16 rfl (by kernel_rfl) (by kernel_rfl) (by kernel_rfl) (fun w hw => (os_remi rfl rfl (by omega))) ?_
                            refine vh_pure 17 rfl (by kernel_rfl) (by kernel_rfl) (by kernel_rfl) (fun w hw => (os_slice_h Try.underlying22 Try.sizeOf5 rfl rfl (h := i % 6) (by omega) (by omega))) ?_
                            refine vh_one 18 (by kernel_rfl) ?_
                            refine vhn_hold fun hcur => ?_
                            refine vhn_call rfl (law14_HeadPuts d f (some ⟨gB, 0, none⟩) (i % 6) 5 (BB.take (i % 6)) _ (hd7.keep hcur) (hf.keep hcur) ((rB7.keep hcur).take _) (by rw [List.length_take]; omega) (by omega) (allB_take hB5 _) (by omega)) rfl (fun hw v w' h => hw.trans (h.2.mono hw.size)) ?_
                            rintro v9 w9 ⟨rfl, b9⟩
                            refine vh_pure 19 rfl (by kernel_rfl) (by kernel_rfl) (by kernel_rfl) (fun w hw => (os_not rfl)) ?_
                            refine vh_pure 20 rfl (by kernel_rfl) (by kernel_rfl) (by kernel_rfl) (fun w hw => (os_pick_f rfl rfl)) ?_
                            refine vh_done (by kernel_rfl) (fun hS => ?_)
                            exact ⟨0, ⟨rfl, rfl, rfl, rfl, rfl, rfl, trivial⟩, ⟨rfl, trivial⟩, ⟨h7.keep hS, b7.trans (hS.mono b7.size)⟩⟩
                          · rintro x w8 ⟨h8, b8⟩
                            refine v_cond_f rfl ?_
                            refine v_skip ?_
                            refine v_region ?_
                            refine vl_val (os_move rfl) ?_
                            refine vl_val (os_addi rfl rfl (by omega)) ?_
                            refine vl_val (os_assign rfl) ?_
                            refine vl_nil ?_
                            exact ⟨k + 1, ⟨rfl, rfl, rfl, rfl, rfl, trivial⟩, ⟨rfl, trivial⟩, ⟨by omega, h8, b8⟩, by dsimp only; omega⟩
                        · refine v_exit ?_
                          refine v_region ?_
                          refine vl_val (os_move rfl) ?_
                          refine vl_val (os_addi rfl rfl (by omega)) ?_
                          refine vl_val (os_assign rfl) ?_
                          refine vl_nil ?_
                          exact ⟨i + 1, ⟨rfl, rfl, rfl, trivial⟩, ⟨rfl, trivial⟩, ⟨by omega, b7⟩, by dsimp only; omega⟩
  · have b4w := b3w.trans (b4.mono b3w.size)
    refine v_exit ?_
    refine v_seq ?_
    refine v_region ?_
    refine vl_val (os_loadB Try.underlying65 rfl (by kernel_rfl) rfl (hG3.keep b4)) ?_
    refine vl_val (os_move rfl) ?_
    refine vl_call (ref14_Put d (some ⟨gB, 0, none⟩) 5 5 BB w4 (hd3.keep b4) (rB3.keep b4) hBl.symm (by omega) hB5 (by omega)) rfl ?_
    rintro v5 w5 ⟨s5, rfl, o5, b5⟩
    rw [hput] at o5
    have b5w := b4.trans (b5.mono b4.size)
    obtain ⟨S, hS⟩ : ∃ S, S = sealL (headB goodQ ++ goodB) := ⟨_, rfl⟩
    rw [← hS] at o5
    have hSl : S.length = 29 := by rw [hS, sealL_len, List.length_append, goodQ_len]; rfl
    have hSB : AllB S := by rw [hS]; exact sealL_B (headB_all goodB_all)
    obtain ⟨A5, c5, rfl, hc5, hm5, r5, -⟩ := OwnK.form o5
    rw [hSl] at hc5
    rw [hSl]
    refine vl_val (os_move rfl) ?_
    refine vl_val (os_extract rfl rfl) ?_
    refine vl_val (os_extract rfl rfl) ?_
    refine vl_val (os_assign rfl) ?_
    refine vl_val (os_assign rfl) ?_
    refine vl_nil ?_
    refine v_seq ?_
    refine v_region ?_
    refine vl_val (os_move rfl) ?_
    refine vl_val (os_move rfl) ?_
    refine vl_val (os_len Try.underlying22 rfl) ?_
    refine vl_val (os_subi rfl rfl (by omega)) ?_
    refine vl_val (os_slice_h Try.underlying22 Try.sizeOf5 rfl rfl (h := 25) (by omega) (by omega)) ?_
    refine vl_val (os_assign rfl) ?_
    refine vl_nil ?_
    refine v_seq ?_
    refine v_seq ?_
    refine v_region ?_
    refine vl_val (os_assign rfl) ?_
    refine vl_nil ?_
    refine v_block ?_
    refine v_loop [(2, _), (8, _), (10, _)] (fun (i : Nat) => [(11, .int .i64 i)]) (fun i w' => i ≤ 26 ∧ Below w5.heap.size w5 w') (fun i => 26 - i) (0) ⟨rfl, rfl, rfl, trivial⟩ ⟨rfl, trivial⟩ (⟨by omega, Below.refl _ _⟩) ?_
    rintro i w6 ⟨hi, b6⟩
    refine v_seq ?_
    refine v_seq ?_
    refine v_region ?_
    refine vl_val (os_move rfl) ?_
    refine vl_val (os_move rfl) ?_
    refine vl_val (os_len Try.underlying22 rfl) ?_
    refine vl_val (os_leq rfl rfl) ?_
    refine vl_nil ?_
    refine v_cond_d rfl (fun hlt2 => ?_) (fun hlt2 => ?_)
    · refine v_skip ?_
      refine v_seq ?_
      refine v_block ?_
      refine v_seq ?_
      refine v_seq ?_
      refine v_region ?_
      refine vl_val (os_move rfl) ?_
      refine vl_val (os_move rfl) ?_
      refine vl_val (os_slice_h Try.underlying22 Try.sizeOf5 rfl rfl (h := i) (by omega) (by omega)) ?_
      refine vl_call (law14_HeadParses A5 i c5 (S.take i) w6 ((r5.keep b6).take i) (by rw [List.length_take]; omega) (by omega) (allB_take hSB _)) rfl ?_
      rintro v7 w7 ⟨rfl, b7⟩
      refine vl_val (os_not rfl) ?_
      refine vl_nil ?_
      refine v_cond_f rfl ?_
      refine v_skip ?_
      refine v_seq ?_
      refine v_region ?_
      refine vl_val (os_assign rfl) ?_
      refine vl_nil ?_
      refine v_block ?_
      refine v_loop [(2, _), (8, _), (10, _), (11, _)] (fun (k : Nat) => [(12, .int .i64 k)]) (fun k w' => k ≤ 8 ∧ Below w5.heap.size w5 w') (fun k => 8 - k) (0) ⟨rfl, rfl, rfl, rfl, trivial⟩ ⟨rfl, trivial⟩ (⟨by omega, b6.trans (b7.mono b6.size)⟩) ?_
      rintro k w8 ⟨hk, b8⟩
      by_cases hk8 : k < 8
      · refine v_seq ?_
        refine v_seq ?_
        refine v_region ?_
        refine vl_val (os_move rfl) ?_
        refine vl_val (os_t (os_lss rfl rfl) (by omega)) ?_
        refine vl_val (os_move rfl) ?_
        refine vl_valg rfl (os_move rfl) ?_
        refine vl_valg rfl (os_move rfl) ?_
        refine vl_valg rfl (os_len Try.underlying22 rfl) ?_
        refine vl_valg rfl (os_lss rfl rfl) ?_
        refine vl_val (os_pick_t rfl rfl) ?_
        refine vl_nil ?_
        refine v_cond_d rfl (fun hi25 => ?_) (fun hi25 => ?_)
        · refine v_skip ?_
          refine v_seq ?_
          refine v_block ?_
          refine v_seq ?_
          refine v_region ?_
          refine vl_some (ot_litK (k := .u8) [] Try.underlying22 Try.sizeOf5 Try.zeroValue5 rfl rfl rfl (by decide)) ?_
          rintro v9 w9 ⟨g9, rfl, -, b9, o9⟩
          refine vl_val (os_move rfl) ?_
          refine vl_some (ot_appB (W0 := w8) Try.underlying22 ti_u8 rfl rfl rfl o9 b9 (((r5.keep b8).keep b9).take 25) (by rw [List.length_take]; omega) (by simp)) ?_
          rintro v10 w10 ⟨o10, b10⟩
          rw [List.nil_append] at o10
          have hTl : (S.take 25).length = 25 := by rw [List.length_take]; omega
          obtain ⟨g10, c10, rfl, hg10, hgl10, hc10, hm10⟩ := OwnK.row o10 (by omega)
          rw [hTl] at hc10 o10
          rw [hTl]
          refine vl_val (os_assign rfl) ?_
          refine vl_nil ?_
          refine v_seq ?_
          refine v_region ?_
          refine vl_val (os_move rfl) ?_
          refine vl_val (os_move rfl) ?_
          refine vl_some (ot_litK turnB Try.underlying22 Try.sizeOf5 Try.zeroValue5 rfl rfl rfl (by decide)) ?_
          rintro v11 w11 ⟨g11, rfl, r11, b11, -⟩
          obtain ⟨TB, hTB⟩ : ∃ TB, TB = turnB := ⟨_, rfl⟩
          rw [← hTB] at r11
          have hTBl : TB.length = 8 := by rw [hTB]; rfl
          have hTBB : AllB TB := by rw [hTB]; exact turnB_all
          have hTk := AllY.at_ hTBB k
          have o11 := Own.keepAll o10 b11
          have hcell : w11.cell? ⟨g10, 0 + i, none⟩ = some (.int .u8 ((S.take 25).getD i 0)) := by rw [Nat.zero_add]; exact OwnK.cell (o11 : OwnK w11 _ _ _ _ _) (by omega)
          refine vl_val (os_move rfl) ?_
          refine vl_val (os_ix Try.underlying22 Try.sizeOf5 rfl rfl (i := k) (by omega) (by omega)) ?_
          refine vl_val (os_load Try.isAgg5 rfl (r11.y' (i := k) (by omega))) ?_
          refine vl_val (os_ix Try.underlying22 Try.sizeOf5 rfl rfl (i := i) (by omega) (by omega)) ?_
          refine vl_unit (ou_store Try.sizeOf5 rfl rfl rfl (hcell) ((Own.free o11 _))) ?_
          have o12 : OwnK (w11.setCell ⟨g10, 0 + i, none⟩ (.int .u8 (TB.getD k 0))) w8.heap.size 5 .u8 (.slice (some ⟨g10, 0, none⟩) 25 c10) ((S.take 25).set i (TB.getD k 0)) := by rw [Nat.zero_add]; exact OwnK.set (o11 : OwnK w11 _ _ _ _ _) i _
          have b11w := b8.trans ((b10.trans (b11.mono b10.size)).mono b8.size)
          have b12w := below_set b11w (show w5.heap.size ≤ g10 by have := b8.size; omega) (0 + i) (.int .u8 (TB.getD k 0))
          refine vl_nil ?_
          refine v_seq ?_
          refine v_region ?_
          refine vl_val (os_move rfl) ?_
          refine vl_call (law14_HeadParses (some ⟨g10, 0, none⟩) 25 c10 ((S.take 25).set i (TB.getD k 0)) _ (OwnK.rd o12) (by rw [List.length_set]; exact hTl.symm) hc10 (allB_set (allB_take hSB _) i hTk)) rfl ?_
          rintro v13 w13 ⟨rfl, b13⟩
          refine vl_val (os_not rfl) ?_
          refine vl_nil ?_
          refine v_cond_f rfl ?_
          refine v_skip ?_
          refine v_region ?_
          refine vl_val (os_move rfl) ?_
          refine vl_val (os_addi rfl rfl (by omega)) ?_
          refine vl_val (os_assign rfl) ?_
          refine vl_nil ?_
          exact ⟨k + 1, ⟨rfl, rfl, rfl, rfl, trivial⟩, ⟨rfl, trivial⟩, ⟨by omega, b12w.trans (b13.mono b12w.size)⟩, by dsimp only; omega⟩
        · refine v_exit ?_
          refine v_region ?_
          refine vl_val (os_move rfl) ?_
          refine vl_val (os_addi rfl rfl (by omega)) ?_
          refine vl_val (os_assign rfl) ?_
          refine vl_nil ?_
          exact ⟨i + 1, ⟨rfl, rfl, rfl, trivial⟩, ⟨rfl, trivial⟩, ⟨by omega, b8⟩, by dsimp only; omega⟩
      · refine v_seq ?_
        refine v_seq ?_
        refine v_region ?_
        refine vl_val (os_move rfl) ?_
        refine vl_val (os_f (os_lss rfl rfl) (by omega)) ?_
        refine vl_val (os_move rfl) ?_
        refine vl_skip rfl rfl ?_
        refine vl_skip rfl rfl ?_
        refine vl_skip rfl rfl ?_
        refine vl_skip rfl rfl ?_
        refine vl_val (os_pick_f rfl rfl) ?_
        refine vl_nil ?_
        refine v_cond_f rfl ?_
        refine v_exit ?_
        refine v_region ?_
        refine vl_val (os_move rfl) ?_
        refine vl_val (os_addi rfl rfl (by omega)) ?_
        refine vl_val (os_assign rfl) ?_
        refine vl_nil ?_
        exact ⟨i + 1, ⟨rfl, rfl, rfl, trivial⟩, ⟨rfl, trivial⟩, ⟨by omega, b8⟩, by dsimp only; omega⟩
    · refine v_exit ?_
      refine v_seq ?_
      refine v_region ?_
      refine vl_some (ot_makeR Try.underlying63 ti_wTable rfl rfl (l := 8) rfl rfl (by decide) (by decide) w6.heap.size (Nat.le_refl _)) ?_
      rintro v7 w7 ⟨rfl, o7, hg7⟩
      have b7 : Below w6.heap.size w6 w7 := (Below.refl _ _).grown hg7 (Nat.le_refl _) (fun k hk => by cases hk)
      obtain ⟨gE, hgE⟩ : ∃ gE, w6.heap.size = gE := ⟨_, rfl⟩
      rw [hgE] at o7
      rw [hgE]
      refine vl_val (os_build (cs := [.int .i64 0, .int .i64 1, .int .i64 254, .int .i64 255, .int .i64 0, .slice (some ⟨gE, 0, none⟩) 8 8]) rfl (by kernel_rfl)) ?_
      refine vl_val (os_allocB Try.zeroValue65 (zc := _) (cs := zH) rfl) ?_
      have hM0 := bk_new w7 zH 65
      have b8a : Below w7.heap.size w7 (w7.alloc (.cells zH.toArray 65)) := (Below.refl _ _).alloc (Nat.le_refl _) _
      refine vl_unit (ou_storeB (by kernel_rfl) rfl rfl hM0 rfl rfl) ?_
      have hM8 := setRow_bk hM0 [.int .i64 0, .int .i64 1, .int .i64 254, .int .i64 255, .int .i64 0, .slice (some ⟨gE, 0, none⟩) 8 8]
      have b8 := below_setRow b8a (Nat.le_refl _) [Value.int .i64 0, .int .i64 1, .int .i64 254, .int .i64 255, .int .i64 0, .slice (some ⟨gE, 0, none⟩) 8 8].toArray
      generalize hw8 : (w7.alloc (.cells zH.toArray 65)).setRow w7.heap.size [Value.int .i64 0, .int .i64 1, .int .i64 254, .int .i64 255, .int .i64 0, .slice (some ⟨gE, 0, none⟩) 8 8].toArray = w8 at *
      have o8 := OwnP.keepAll o7 b8
      have b78 := b7.trans (b8.mono b7.size)
      have b68 := b6.trans (b78.mono b6.size)
      have hgl := (o7.lt gE rfl).2
      have hsz7 := b7.size
      have hsz6 := b6.size
      generalize hMM : w7.heap.size = M at *
      have hEM : gE ≠ M := by omega
      refine vl_nil ?_
      refine v_seq ?_
      refine v_seq ?_
      refine v_region ?_
      refine vl_val (os_assign rfl) ?_
      refine vl_nil ?_
      refine v_block ?_
      refine v_loop [(2, _), (8, _), (10, _), (14, _)] (fun (j : Nat) => [(15, .int .i64 j)]) (fun j w' => j ≤ 8 ∧ Below w5.heap.size w5 w' ∧ Bk w' M [.int .i64 0, .int .i64 1, .int .i64 254, .int .i64 255, .int .i64 0, .slice (some ⟨gE, 0, none⟩) 8 8] 65 ∧ ∃ rows : List (Int × Int), rows.length = 8 ∧ OwnP w' gE 62 2 (.slice (some ⟨gE, 0, none⟩) 8 8) (rows.map rowC) ∧ ∀ p ∈ rows, I64 p.1 ∧ I64 p.2) (fun j => 8 - j) (0) ⟨rfl, rfl, rfl, rfl, trivial⟩ ⟨rfl, trivial⟩ (⟨by omega, b68, hM8, _, List.length_replicate, (by first | exact o8 | (rw [hgE] at o8; exact o8)), fun p hp => by rw [List.mem_replicate] at hp; rw [hp.2]; exact ⟨i64_0, i64_0⟩⟩) ?_
      rintro j w9 ⟨hj, b9, hM9, rows, hrl, o9, hri⟩
      refine v_seq ?_
      refine v_seq ?_
      refine v_region ?_
      refine vl_val (os_move rfl) ?_
      refine vl_val (os_lss rfl rfl) ?_
      refine vl_nil ?_
      refine v_cond_d rfl (fun hlt3 => ?_) (fun hlt3 => ?_)
      · have hml : (rows.map rowC).length = 8 := by simp [hrl]
        obtain ⟨u, hu, -⟩ := OwnP.cellP o9 (k := j) (i := 0) (by omega) (by omega)
        have hfr := OwnP.free o9 (0 + j * 2 + 0)
        obtain ⟨x, hx1, hx2⟩ := setRF (rows := rows) (r := j) (f := 0) (by omega) (by omega) (1 + 30 * (j : Int))
        have o10 := OwnP.setF o9 (k := j) (i := 0) (by omega) (by omega) hml.symm (.int .i64 (1 + 30 * (j : Int)))
        rw [hx1, ← List.map_set] at o10
        refine v_skip ?_
        refine v_seq ?_
        refine v_block ?_
        refine v_region ?_
        refine vl_val (os_fa (o := 5) (k := 0) (by kernel_rfl) rfl) ?_
        refine vl_val (os_load Try.isAgg63 rfl (hM9.cell (i := 5) rfl)) ?_
        refine vl_val (os_move rfl) ?_
        refine vl_val (os_move rfl) ?_
        refine vl_val (os_muli rfl rfl (by omega)) ?_
        refine vl_val (os_addi rfl rfl (by omega)) ?_
        refine vl_val (os_ixs Try.underlying63 Try.sizeOf62 rfl rfl (i := j) (by omega) (by omega)) ?_
        refine vl_val (os_fa (o := 0) (k := 0) (by kernel_rfl) rfl) ?_
        refine vl_unit (ou_store Try.sizeOf3 rfl rfl rfl (hu) (hfr)) ?_
        refine vl_nil ?_
        refine v_region ?_
        refine vl_val (os_move rfl) ?_
        refine vl_val (os_addi rfl rfl (by omega)) ?_
        refine vl_val (os_assign rfl) ?_
        refine vl_nil ?_
        exact ⟨j + 1, ⟨rfl, rfl, rfl, rfl, trivial⟩, ⟨rfl, trivial⟩, ⟨by omega, below_set b9 (by omega) _ _, hM9.setOther hEM _ _, rows.set j x, by simp [hrl], by rw [Nat.zero_add]; exact o10, mem_set_all hri (hx2 ⟨by omega, by omega⟩ hri)⟩, by dsimp only; omega⟩
      · have hd9 : HeadOk w9 ⟨⟨0, 1, 254, 255, 0, rows⟩, some ⟨gE, 0, none⟩, 8, 8⟩ := HeadOk.ofOwn o9 hrl.symm (by decide) ⟨(i64_0 : I64 0), (⟨by decide, by decide⟩ : I64 1), (⟨by decide, by decide⟩ : I64 254), (⟨by decide, by decide⟩ : I64 255), (i64_0 : I64 0)⟩ hri (Nat.le_refl _)
        have b59 := b5w.trans (b9.mono b5w.size)
        have b9w := b3w.trans (b59.mono b3w.size)
        refine v_exit ?_
        refine v_seq ?_
        refine v_region ?_
        refine vl_val (os_loadB Try.underlying65 rfl (by kernel_rfl) rfl (hM9)) ?_
        refine vl_val (os_loadB Try.underlying65 rfl (by kernel_rfl) rfl (hG3.keep b59)) ?_
        refine vl_call (law14_HeadPuts ⟨⟨0, 1, 254, 255, 0, rows⟩, some ⟨gE, 0, none⟩, 8, 8⟩ d none 0 0 [] w9 hd9 (hd3.keep b59) Rd.nil rfl (by decide) (fun z hz => by cases hz) (by decide)) rfl ?_
        rintro v10 w10 ⟨rfl, b10⟩
        have b510 := b9.trans (b10.mono b9.size)
        refine vl_val (os_move rfl) ?_
        refine vl_someg rfl (ot_litK (k := .u8) [] Try.underlying22 Try.sizeOf5 Try.zeroValue5 rfl rfl rfl (by decide)) ?_
        rintro v11 w11 ⟨g11, rfl, -, b11, o11⟩
        refine vl_valg rfl (os_move rfl) ?_
        refine vl_someg rfl (ot_appB (W0 := w10) Try.underlying22 ti_u8 rfl rfl rfl o11 b11 (((r5.keep b510).keep b11).take 25) (by rw [List.length_take]; omega) (by simp)) ?_
        rintro v12 w12 ⟨o12, b12⟩
        refine vl_someg rfl (ot_litK [0] Try.underlying22 Try.sizeOf5 Try.zeroValue5 rfl rfl rfl (by decide)) ?_
        rintro v13 w13 ⟨g13, rfl, r13, b13, -⟩
        refine vl_someg rfl (ot_appB (W0 := w10) Try.underlying22 ti_u8 rfl rfl rfl (Own.keepAll o12 b13) (b12.trans (b13.mono b12.size)) r13 rfl (by simp; omega)) ?_
        rintro v14 w14 ⟨o14, b14⟩
        rw [List.nil_append] at o14
        obtain ⟨A14, c14, rfl, hc14, -, r14, -⟩ := OwnK.form o14
        refine vl_callg rfl (law14_HeadParses A14 _ c14 (S.take 25 ++ [0]) w14 r14 rfl hc14 (fun z hz => by rcases List.mem_append.1 hz with h | h; exact allB_take hSB _ z h; (simp at h; omega))) rfl ?_
        rintro v15 w15 ⟨rfl, b15⟩
        have b515 := b510.trans ((b14.trans (b15.mono b14.size)).mono b510.size)
        refine vl_val (os_pick_t rfl rfl) ?_
        refine vl_val (os_move rfl) ?_
        refine vl_valg rfl (os_move rfl) ?_
        refine vl_valg rfl (os_slice_l Try.underlying22 Try.sizeOf5 rfl rfl (i := 1) (by omega) (by omega)) ?_
        refine vl_callg rfl (law14_HeadParses _ _ _ (S.drop 1) w15 ((r5.keep b515).sliced (c := c5) (i := 1) (by omega)) (by rw [List.length_drop, hSl]) (by omega) (fun z hz => hSB z (List.mem_of_mem_drop hz))) rfl ?_
        rintro v16 w16 ⟨rfl, b16⟩
        have b516 := b515.trans (b16.mono b515.size)
        refine vl_val (os_pick_t rfl rfl) ?_
        refine vl_val (os_move rfl) ?_
        refine vl_valg rfl (os_move rfl) ?_
        refine vl_callg rfl (law14_parses A5 29 c5 S w16 (r5.keep b516) hSl.symm (by omega) (by decide) hSB) rfl ?_
        rintro v17 w17 ⟨rfl, b17⟩
        have b517 := b516.trans (b17.mono b516.size)
        have b17w := b3w.trans ((b5w.trans (b517.mono b5w.size)).mono b3w.size)
        refine vl_val (os_pick_t rfl rfl) ?_
        refine vl_val (os_move rfl) ?_
        refine vl_callg rfl (law14_awake w17) rfl ?_
        rintro v18 w18 ⟨rfl, b18⟩
        refine vl_val (os_pick_t rfl rfl) ?_
        refine vl_val (os_assign rfl) ?_
        refine vl_nil ?_
        refine v_ret ?_
        exact post_ret rfl rfl (⟨rfl, b17w.trans (b18.mono b17w.size)⟩)
end Go.Proofs.Ytpojijnjdlnokaa
