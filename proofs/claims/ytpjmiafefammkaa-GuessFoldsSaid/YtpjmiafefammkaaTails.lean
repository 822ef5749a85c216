/- Layer 23: Tails. -/
import Derived.Test.YtpjmiafefammkaaFixD
import Derived.Test.YtpjmiafefammkaaBack
namespace Go.Proofs.Ytpjmiafefammkaa
open Go.RowKit Go.Shelf

attribute [local go_sem] Oper.semAt_some

def tStep (hs : List Int) (st : Int × List Int) (j : Nat) : Int × List Int := (st.1 + hs[j]?.getD 0, st.2.set j (min (st.1 + hs[j]?.getD 0) 65536))
def tFold (hs : List Int) (pre : List Nat) : Int × List Int := pre.foldl (tStep hs) (0, hs)
theorem tFold_snoc (hs : List Int) (pre : List Nat) (j : Nat) : tFold hs (pre ++ [j]) = tStep hs (tFold hs pre) j := by simp [tFold]
theorem tFold_len (hs : List Int) (pre : List Nat) : (tFold hs pre).2.length = hs.length := by
  refine snoc_ind (P := fun pre => (tFold hs pre).2.length = hs.length) rfl (fun l j ih => ?_) pre
  rw [tFold_snoc]; simp [tStep, ih]
theorem tFold_bd {hs : List Int} (hr : rowB hs = true) (pre : List Nat) : (∀ j ∈ pre, j < hs.length) → 0 ≤ (tFold hs pre).1 ∧ (tFold hs pre).1 ≤ pre.length * 65536 := by
  refine snoc_ind (P := fun pre => (∀ j ∈ pre, j < hs.length) → 0 ≤ (tFold hs pre).1 ∧ (tFold hs pre).1 ≤ pre.length * 65536) (fun _ => by simp [tFold]) (fun l j ih hp => ?_) pre
  have h1 := ih (fun i hi => hp i (by simp [hi]))
  have h2 := rowB_at hr (hp j (by simp))
  rw [tFold_snoc]
  simp only [tStep, List.length_append, List.length_singleton, List.getD_eq_getElem?_getD] at *
  omega

/-- the tails, as the loop makes them -/
def tailsL (hs : List Int) : List Int := (tFold hs (downTo hs.length hs.length)).2
def tailsV (hs : List Int) : List Int := if rowB hs then tailsL hs else []

set_option maxHeartbeats 400000 in
theorem fixed_Tails_fn (k : Int) (n : Int) (w : World) : Calls Try.prog 111 #[.int .i64 k, .int .i64 n] w fun e w' => e = .returned (.int .i64 n) ∧ ∃ q, w' = w.drewN q := by
  go_enter Try.func111, Try.ntmps111
  go_wp2_with (fail)
  go_ret
  exact ⟨rfl, 0, rfl⟩
theorem enters_tails_fn : Enters Try.prog 111 := enters_of Try.func111 (by kernel_rfl) rfl

theorem mapK_id (zs : List Int) : mapK (fun _ n => n) zs = zs := by unfold mapK; exact List.mapIdx_eq_iff.2 (fun i => by simp)

set_option maxRecDepth 100000 in
set_option maxHeartbeats 2000000 in
theorem fixed_Tails (A : Option Addr) (n c : Nat) (hs : List Int) (w : World) (ha : Rd w .i64 A hs) (hn : n = hs.length) (hn' : n ≤ 9223372036854775807) (ih : AllI hs) :
    Calls Try.prog 73 #[.slice A n c] w fun e w' => ∃ v, e = .returned (.tuple #[v, .int .i64 (argE (rowB hs))]) ∧ OwnI w' w.heap.size v (tailsV hs) ∧ Below w.heap.size w w' := by
  have HN := Lib.hid hn; have iH := Lib.hid ih; clear hn ih
  cases r1 : rowB hs
  · have hv : tailsV hs = [] := by simp [tailsV, r1]
    rw [hv]; clear hv
    have R1 := Lib.hid r1; clear r1
    go_enter Try.func73, Try.ntmps73
    go_wp2_with (fail)
    refine (fixed_row A n c hs _ ha HN.out hn' iH.out).mono ?_
    rintro e w' ⟨rfl, q, rfl⟩
    rw [R1.out]
    go_wp2_with (fail)
    go_ret2
    exact ⟨_, rfl, OwnI.nil _ _, below_drewN_ (Below.refl _ _) _⟩
  · have hv : tailsV hs = tailsL hs := by simp [tailsV, r1]
    have he : argE true = 0 := rfl
    rw [hv, he]; clear hv he
    have hn256 : n ≤ 256 ∧ 0 < n := by have := rowB_len r1; rw [← HN.out] at this; exact ⟨this.2, this.1⟩
    obtain ⟨hn256, hn0⟩ := hn256
    have R1 := Lib.hid r1; clear r1
    refine wide_gen fun F hro hfn hcw => ?_
    refine callsIn_of_wp_marks Try.func73 rfl (hfn _) ?_ hro
    simp only [Try.ntmps73, List.size_toArray, List.length_cons, List.length_nil, Nat.reduceAdd, Nat.reduceSub, Array.replicate_succ, Array.replicate_zero, List.push_toArray, List.append_toArray, List.nil_append, List.cons_append]
    gi_wp2_with (gi_at_call 67; refine (hcw _ _ _ _ _ (fixed_row A n c hs _ ha HN.out hn' iH.out)).mono ?_; rintro e w' ⟨rfl, q, rfl⟩; rw [R1.out])

    refine (hcw _ _ _ _ _ (fixed_made A n c hs _ #[] (fun _ n => n) _ enters_tails_fn (ha.drewN q) HN.out (by omega) (fun k wx hk _ => fixed_Tails_fn _ _ _))).mono ?_
    rintro e w1 ⟨v, rfl, hown, hb⟩
    rw [mapK_id] at hown
    have hb0 : Below w.heap.size w w1 := (below_drewN_ (Below.refl _ w) q).trans hb
    have hsz0 := hb0.size
    obtain ⟨g, c1, rfl, hg0, hg1, hnc1, hown0⟩ := hown.row HN.out hn0
    clear hb hown
    gi_wp2_with (gi_at_call 112; refine (back_in F _ (hfn _) hro _ _ _ _).mono ?_; rintro e w' ⟨rfl, rfl⟩)
    obtain ⟨s1, hs1⟩ : ∃ s1, s1 = w1.heap.size := ⟨_, rfl⟩
    rw [← hs1]
    have hs1' : w1.heap.size = s1 := hs1.symm
    have bO := Boxed.new w1 40 (.slice (some ⟨g, 0, none⟩) n c1)
    have bS := Boxed.new (w1.alloc (.cells #[.slice (some ⟨g, 0, none⟩) n c1] 40)) 3 (.int .i64 0)
    have bN := Boxed.new ((w1.alloc (.cells #[.slice (some ⟨g, 0, none⟩) n c1] 40)).alloc (.cells #[.int .i64 0] 3)) 40 (.slice A n c)
    rw [World.size_alloc, hs1'] at bS
    rw [World.size_alloc, World.size_alloc, hs1'] at bN
    rw [hs1'] at bO
    have hbW : Below w.heap.size w (((w1.alloc (.cells #[.slice (some ⟨g, 0, none⟩) n c1] 40)).alloc (.cells #[.int .i64 0] 3)).alloc (.cells #[.slice A n c] 40)) := ((hb0.alloc hsz0 _).alloc (by simp; omega) _).alloc (by simp; omega) _
    have hrA : ∀ b off, A = some ⟨b, off, none⟩ → b < w.heap.size := fun b off e => by
      obtain ⟨b', off', e', hlt⟩ := ha.lt (by rw [← HN.out]; exact hn0)
      rw [e] at e'; cases e'; exact hlt
    have hsl : w.heap.size ≤ s1 := by omega
    have hgs : g < s1 := by omega
    have hg0 : w.heap.size ≤ g := hg0
    have hs1le : w1.heap.size ≤ s1 := by omega
    have hs1ge : s1 ≤ w1.heap.size := by omega
    have HS1 := Lib.hid hs1'; clear hs1 hs1'
    refine wpIn_rangeFunc_ownG hro (by decide) (gf := 141) (lb := #[.pointer (some ⟨s1 + 1 + 1, 0, none⟩)]) rfl (hfn _) (enters_of Try.func141 (by kernel_rfl) rfl)
      (back_stops F _ (hfn _) hro (by decide) (s1 + 1 + 1) (fun k => k < w.heap.size ∨ k = s1 + 1 + 1) A n c hs (by omega) _ (.inr rfl) (by simp; omega) bN.cell HN.out (ha.keep hbW) (fun b off e => .inl (hrA b off e))) KeepT.trans (keepT_b (by rintro k (hk | rfl) <;> simp <;> omega)) (Below.refl _ _) (fun _ => rfl)
      (fun pre W => ((W.cell? ⟨s1, 0, none⟩ = some (.slice (some ⟨g, 0, none⟩) n c1)) ∧ (W.cell? ⟨s1 + 1, 0, none⟩ = some (.int .i64 (tFold hs (pre.map (·.1))).1) ∧ W.frozen? ⟨s1 + 1, 0, none⟩ = false) ∧
        W.ownsRow w.heap.size 3 1 (.slice (some ⟨g, 0, none⟩) n c1) n ((tFold hs (pre.map (·.1))).2.map (Value.int .i64))) ∧ Below w.heap.size w W)
      (fun _ _ _ => False)
      ?own (fun _ _ _ _ _ hs _ _ => hs) ?start
      (fun x => { tmps := #[.slice A n c, undef, .slice none 0 0, .int .i64 0, .pointer (some ⟨s1, 0, none⟩), .pointer (some ⟨s1 + 1, 0, none⟩), .int .i64 (x.1 : Int), .int .i64 (hs[x.1]?.getD 0), .slice A n c, .bool true, .bool false, .slice A n c, .slice (some ⟨g, 0, none⟩) n c1, .slice A n c, .func (.func 141) #[] #[.pointer (some ⟨s1 + 1 + 1, 0, none⟩)], .int .i64 (x.1 : Int), .int .i64 (hs[x.1]?.getD 0), undef, undef, undef, undef, undef, undef, undef, undef, undef], defers := [] })
      ?assign ?body ?done ?stop
    case own => exact OwnFrom.and (Own.from (fun s A B row hs hg hr => ⟨cell_kept hs.1 hg hr, ⟨cell_kept hs.2.1.1 hg hr, (frozen_kept hs.2.1.1 hg hr).trans hs.2.1.2⟩, own_turned hs.2.2 hg hr⟩) _) (ownFrom_below (Nat.le_refl _) (by simp; omega))
    case start => exact ⟨⟨((bO.alloc _).alloc _).cell, ⟨(bS.alloc _).cell, (bS.alloc _).frozen⟩, World.ownsRow.alloc (World.ownsRow.alloc (World.ownsRow.alloc hown0 _) _) _⟩, hbW⟩
    case assign =>
      intro l x W K hK
      unfold encAt
      gi_wp2
      exact hK
    case body =>
      rintro l pre x W ⟨⟨hc, ⟨hsm, hfz⟩, hrow⟩, hB⟩ hpl
      have hxv := rowB_at R1.out (k := x.1) (by rw [← HN.out]; exact x.2)
      obtain ⟨hx1, hx2⟩ := hxv
      have hbd := tFold_bd R1.out (pre.map (·.1)) (by intro j hj; rw [List.mem_map] at hj; obtain ⟨y, _, rfl⟩ := hj; rw [← HN.out]; exact y.2)
      obtain ⟨hbd1, hbd2⟩ := hbd
      simp only [List.length_map, List.getD_eq_getElem?_getD] at hbd2 hx1 hx2
      have hmap : (pre ++ [x]).map (·.1) = pre.map (·.1) ++ [x.1] := by simp
      have hlenP : (tFold hs (pre.map (·.1))).2.length = n := by rw [tFold_len, HN.out]
      have HM := Lib.hid hmap; clear hmap
      have hPP := HM.out
      clear HM
      generalize hP : pre.map (·.1) = P at *
      have HM := Lib.hid hPP; clear hPP hP
      have HLP := Lib.hid hlenP; clear hlenP
      obtain ⟨xi, hxn⟩ := x
      dsimp only at *
      obtain ⟨y, hcell⟩ : ∃ y, W.cell? ⟨g, xi, none⟩ = some (.int .i64 y) := by
        have h1 : xi < (tFold hs P).2.length := by rw [HLP.out]; exact hxn
        exact ⟨_, by rw [World.ownsRow.cellAt hrow xi (by omega), List.getElem?_map, List.getElem?_eq_getElem h1]; rfl⟩
      have hfr := World.ownsRow.frozenAt hrow xi
      have hst := World.ownsRow.stored (ownsRow_setCell_other hrow (a := ⟨s1 + 1, 0, none⟩) (by simp; omega) (.int .i64 ((tFold hs P).1 + hs[xi]?.getD 0))) xi (.int .i64 (min ((tFold hs P).1 + hs[xi]?.getD 0) 65536))
      have HST := Lib.hid hst; clear hst
      have HRow := Lib.hid hrow; clear hrow
      have hsz := hB.size
      have hsnoc := tFold_snoc hs P xi
      have HSN := Lib.hid hsnoc; clear hsnoc
      generalize hS : (tFold hs P).1 = S at *
      have HS := Lib.hid hS; clear hS
      generalize hV : hs[xi]?.getD 0 = V at *
      have HV := Lib.hid hV; clear hV
      gi_wp2
      all_goals
        rename_i hcase
        have h2 := HST.out
        first | rw [show min (S + V) 65536 = 65536 by omega] at h2 | rw [show min (S + V) 65536 = S + V by omega] at h2
        refine ⟨((KeepsOthers.setCell _ _ _).trans (KeepsOthers.setCell _ _ _)).from _, ((KeepT.refl _ W).setCell (by simp; omega) _).setCell (by simp; omega) _, ?_⟩
        change ((_ ∧ (World.cell? _ _ = some (.int .i64 (tFold hs ((pre ++ [(⟨xi, hxn⟩ : Below_ n)]).map (fun x : Below_ n => x.1))).1) ∧ _) ∧ World.ownsRow _ _ _ _ _ _ (((tFold hs ((pre ++ [(⟨xi, hxn⟩ : Below_ n)]).map (fun x : Below_ n => x.1))).2).map _)) ∧ _)
        rw [HM.out, HSN.out]
        simp only [tStep, HS.out, HV.out]
        refine ⟨⟨?_, ⟨?_, ?_⟩, ?_⟩, (hB.setCell (by simp; omega) _).setCell (by simp; omega) _⟩
        · go_simp
        · go_simp
        · go_simp
        · first | rw [show min (S + V) 65536 = 65536 by omega] | rw [show min (S + V) 65536 = S + V by omega]
          rw [List.map_set]
          exact h2.1
    case done =>
      rintro D ys W hD hys ⟨⟨hc, ⟨hsm, hfz⟩, hrow⟩, hB⟩ hK
      gi_wp2
      refine ⟨by simp, .inl ⟨_, _, rfl, run_takeDeferred hK, ?_⟩⟩
      refine ⟨_, results_tmp2 rfl _ _ _, _, rfl, ?_, hB.trans (belowK_b (w := w) (Nat.le_refl _) W D _ _ (by simp at hD; omega) hK rfl rfl)⟩
      rw [hys] at hrow
      have ht := own_turned hrow (grownBy_putObj' W D (.deferred none)) (fun r e => by cases e; exact ⟨_, hK, rfl⟩)
      have hl : (tailsL hs).length = n := by unfold tailsL; rw [tFold_len, HN.out]
      unfold OwnI
      rw [hl]
      unfold tailsL
      rw [← HN.out]
      exact ht
    case stop =>
      rintro D c pre W _ _ h _
      exact h.elim
end Go.Proofs.Ytpjmiafefammkaa
