/- Texts joined: Tails FixQ GsP KitA FixE Vp KitS FixG Ty CrcP V32 Crc. -/
import Derived.Test.YtpjmiafefammkaaM4
import Derived.Test.YtpjmiafefammkaaProg
/- Layer 23: Tails. -/
namespace Go.Proofs.Ytpjmiafefammkaa
open Go.RowKit Go.Shelf

attribute [local go_sem] Oper.semAt_some

def tStep (hs : List Int) (st : Int × List Int) (j : Nat) : Int × List Int := (st.1 + hs[j]?.getD 0, st.2.set j (min (st.1 + hs[j]?.getD 0) 65536))
def tFold (hs : List Int) (pre : List Nat) : Int × List Int := pre.foldl (tStep hs) (0, hs)
theorem tFold_snoc (hs : List Int) (pre : List Nat) (j : Nat) : tFold hs (pre ++ [j]) = tStep hs (tFold hs pre) j := by simp [tFold]
theorem tFold_len (hs : List Int) (pre : List Nat) : (tFold hs pre).2.length = hs.length := by
  refine snoc_ind (P := fun pre => (tFold hs pre).2.length = hs.length) rfl (fun l j ih => ?_) pre
  rw [tFold_snoc]; simp [tStep, ih]
theorem tFold_bd {hs : List Int} (hr : rowB hs = true) (pre : List Nat) : (∀ j ∈ pre, j < hs.length) → 0 ≤ (tFold hs pre).1 ∧ (tFold hs pre).1 ≤ pre.length * 65536 := by
  refine snoc_ind (P := fun pre => (∀ j ∈ pre, j < hs.length) → 0 ≤ (tFold hs pre).1 ∧ (tFold hs pre).1 ≤ pre.length * 65536) (fun _ => by simp [tFold]) (fun l j ih hp => ?_) pre
  have h1 := ih (fun i hi => hp i (by simp [hi]))
  have h2 := rowB_at hr (hp j (by simp))
  rw [tFold_snoc]
  simp only [tStep, List.length_append, List.length_singleton, List.getD_eq_getElem?_getD] at *
  omega

/-- the tails, as the loop makes them -/
def tailsL (hs : List Int) : List Int := (tFold hs (downTo hs.length hs.length)).2
def tailsV (hs : List Int) : List Int := if rowB hs then tailsL hs else []

set_option maxHeartbeats 400000 in
theorem fixed_Tails_fn (k : Int) (n : Int) (w : World) : Calls Try.prog 111 #[.int .i64 k, .int .i64 n] w fun e w' => e = .returned (.int .i64 n) ∧ ∃ q, w' = w.drewN q := by
  go_enter Try.func111, Try.ntmps111
  go_wp2_with (fail)
  go_ret
  exact ⟨rfl, 0, rfl⟩
theorem enters_tails_fn : Enters Try.prog 111 := enters_of Try.func111 (by kernel_rfl) rfl

theorem mapK_id (zs : List Int) : mapK (fun _ n => n) zs = zs := by unfold mapK; exact List.mapIdx_eq_iff.2 (fun i => by simp)

set_option maxRecDepth 100000 in
set_option maxHeartbeats 2000000 in
theorem fixed_Tails (A : Option Addr) (n c : Nat) (hs : List Int) (w : World) (ha : Rd w .i64 A hs) (hn : n = hs.length) (hn' : n ≤ 9223372036854775807) (ih : AllI hs) :
    Calls Try.prog 73 #[.slice A n c] w fun e w' => ∃ v, e = .returned (.tuple #[v, .int .i64 (argE (rowB hs))]) ∧ OwnI w' w.heap.size v (tailsV hs) ∧ Below w.heap.size w w' := by
  have HN := Lib.hid hn; have iH := Lib.hid ih; clear hn ih
  cases r1 : rowB hs
  · have hv : tailsV hs = [] := by simp [tailsV, r1]
    rw [hv]; clear hv
    have R1 := Lib.hid r1; clear r1
    go_enter Try.func73, Try.ntmps73
    go_wp2_with (fail)
    refine (fixed_row A n c hs _ ha HN.out hn' iH.out).mono ?_
    rintro e w' ⟨rfl, q, rfl⟩
    rw [R1.out]
    go_wp2_with (fail)
    go_ret2
    exact ⟨_, rfl, OwnI.nil _ _, below_drewN_ (Below.refl _ _) _⟩
  · have hv : tailsV hs = tailsL hs := by simp [tailsV, r1]
    have he : argE true = 0 := rfl
    rw [hv, he]; clear hv he
    have hn256 : n ≤ 256 ∧ 0 < n := by have := rowB_len r1; rw [← HN.out] at this; exact ⟨this.2, this.1⟩
    obtain ⟨hn256, hn0⟩ := hn256
    have R1 := Lib.hid r1; clear r1
    refine wide_gen fun F hro hfn hcw => ?_
    refine callsIn_of_wp_marks Try.func73 rfl (hfn _) ?_ hro
    simp only [Try.ntmps73, List.size_toArray, List.length_cons, List.length_nil, Nat.reduceAdd, Nat.reduceSub, Array.replicate_succ, Array.replicate_zero, List.push_toArray, List.append_toArray, List.nil_append, List.cons_append]
    gi_wp2_with (gi_at_call 67; refine (hcw _ _ _ _ _ (fixed_row A n c hs _ ha HN.out hn' iH.out)).mono ?_; rintro e w' ⟨rfl, q, rfl⟩; rw [R1.out])

    refine (hcw _ _ _ _ _ (fixed_made A n c hs _ #[] (fun _ n => n) _ enters_tails_fn (ha.drewN q) HN.out (by omega) (fun k wx hk _ => fixed_Tails_fn _ _ _))).mono ?_
    rintro e w1 ⟨v, rfl, hown, hb⟩
    rw [mapK_id] at hown
    have hb0 : Below w.heap.size w w1 := (below_drewN_ (Below.refl _ w) q).trans hb
    have hsz0 := hb0.size
    obtain ⟨g, c1, rfl, hg0, hg1, hnc1, hown0⟩ := hown.row HN.out hn0
    clear hb hown
    gi_wp2_with (gi_at_call 112; refine (back_in F _ (hfn _) hro _ _ _ _).mono ?_; rintro e w' ⟨rfl, rfl⟩)
    obtain ⟨s1, hs1⟩ : ∃ s1, s1 = w1.heap.size := ⟨_, rfl⟩
    rw [← hs1]
    have hs1' : w1.heap.size = s1 := hs1.symm
    have bO := Boxed.new w1 40 (.slice (some ⟨g, 0, none⟩) n c1)
    have bS := Boxed.new (w1.alloc (.cells #[.slice (some ⟨g, 0, none⟩) n c1] 40)) 3 (.int .i64 0)
    have bN := Boxed.new ((w1.alloc (.cells #[.slice (some ⟨g, 0, none⟩) n c1] 40)).alloc (.cells #[.int .i64 0] 3)) 40 (.slice A n c)
    rw [World.size_alloc, hs1'] at bS
    rw [World.size_alloc, World.size_alloc, hs1'] at bN
    rw [hs1'] at bO
    have hbW : Below w.heap.size w (((w1.alloc (.cells #[.slice (some ⟨g, 0, none⟩) n c1] 40)).alloc (.cells #[.int .i64 0] 3)).alloc (.cells #[.slice A n c] 40)) := ((hb0.alloc hsz0 _).alloc (by simp; omega) _).alloc (by simp; omega) _
    have hrA : ∀ b off, A = some ⟨b, off, none⟩ → b < w.heap.size := fun b off e => by
      obtain ⟨b', off', e', hlt⟩ := ha.lt (by rw [← HN.out]; exact hn0)
      rw [e] at e'; cases e'; exact hlt
    have hsl : w.heap.size ≤ s1 := by omega
    have hgs : g < s1 := by omega
    have hg0 : w.heap.size ≤ g := hg0
    have hs1le : w1.heap.size ≤ s1 := by omega
    have hs1ge : s1 ≤ w1.heap.size := by omega
    have HS1 := Lib.hid hs1'; clear hs1 hs1'
    refine wpIn_rangeFunc_ownG hro (by decide) (gf := 141) (lb := #[.pointer (some ⟨s1 + 1 + 1, 0, none⟩)]) rfl (hfn _) (enters_of Try.func141 (by kernel_rfl) rfl)
      (back_stops F _ (hfn _) hro (by decide) (s1 + 1 + 1) (fun k => k < w.heap.size ∨ k = s1 + 1 + 1) A n c hs (by omega) _ (.inr rfl) (by simp; omega) bN.cell HN.out (ha.keep hbW) (fun b off e => .inl (hrA b off e))) KeepT.trans (keepT_b (by rintro k (hk | rfl) <;> simp <;> omega)) (Below.refl _ _) (fun _ => rfl)
      (fun pre W => ((W.cell? ⟨s1, 0, none⟩ = some (.slice (some ⟨g, 0, none⟩) n c1)) ∧ (W.cell? ⟨s1 + 1, 0, none⟩ = some (.int .i64 (tFold hs (pre.map (·.1))).1) ∧ W.frozen? ⟨s1 + 1, 0, none⟩ = false) ∧
        W.ownsRow w.heap.size 3 1 (.slice (some ⟨g, 0, none⟩) n c1) n ((tFold hs (pre.map (·.1))).2.map (Value.int .i64))) ∧ Below w.heap.size w W)
      (fun _ _ _ => False)
      ?own (fun _ _ _ _ _ hs _ _ => hs) ?start
      (fun x => { tmps := #[.slice A n c, undef, .slice none 0 0, .int .i64 0, .pointer (some ⟨s1, 0, none⟩), .pointer (some ⟨s1 + 1, 0, none⟩), .int .i64 (x.1 : Int), .int .i64 (hs[x.1]?.getD 0), .slice A n c, .bool true, .bool false, .slice A n c, .slice (some ⟨g, 0, none⟩) n c1, .slice A n c, .func (.func 141) #[] #[.pointer (some ⟨s1 + 1 + 1, 0, none⟩)], .int .i64 (x.1 : Int), .int .i64 (hs[x.1]?.getD 0), undef, undef, undef, undef, undef, undef, undef, undef, undef], defers := [] })
      ?assign ?body ?done ?stop
    case own => exact OwnFrom.and (Own.from (fun s A B row hs hg hr => ⟨cell_kept hs.1 hg hr, ⟨cell_kept hs.2.1.1 hg hr, (frozen_kept hs.2.1.1 hg hr).trans hs.2.1.2⟩, own_turned hs.2.2 hg hr⟩) _) (ownFrom_below (Nat.le_refl _) (by simp; omega))
    case start => exact ⟨⟨((bO.alloc _).alloc _).cell, ⟨(bS.alloc _).cell, (bS.alloc _).frozen⟩, World.ownsRow.alloc (World.ownsRow.alloc (World.ownsRow.alloc hown0 _) _) _⟩, hbW⟩
    case assign =>
      intro l x W K hK
      unfold encAt
      gi_wp2
      exact hK
    case body =>
      rintro l pre x W ⟨⟨hc, ⟨hsm, hfz⟩, hrow⟩, hB⟩ hpl
      have hxv := rowB_at R1.out (k := x.1) (by rw [← HN.out]; exact x.2)
      obtain ⟨hx1, hx2⟩ := hxv
      have hbd := tFold_bd R1.out (pre.map (·.1)) (by intro j hj; rw [List.mem_map] at hj; obtain ⟨y, _, rfl⟩ := hj; rw [← HN.out]; exact y.2)
      obtain ⟨hbd1, hbd2⟩ := hbd
      simp only [List.length_map, List.getD_eq_getElem?_getD] at hbd2 hx1 hx2
      have hmap : (pre ++ [x]).map (·.1) = pre.map (·.1) ++ [x.1] := by simp
      have hlenP : (tFold hs (pre.map (·.1))).2.length = n := by rw [tFold_len, HN.out]
      have HM := Lib.hid hmap; clear hmap
      have hPP := HM.out
      clear HM
      generalize hP : pre.map (·.1) = P at *
      have HM := Lib.hid hPP; clear hPP hP
      have HLP := Lib.hid hlenP; clear hlenP
      obtain ⟨xi, hxn⟩ := x
      dsimp only at *
      obtain ⟨y, hcell⟩ : ∃ y, W.cell? ⟨g, xi, none⟩ = some (.int .i64 y) := by
        have h1 : xi < (tFold hs P).2.length := by rw [HLP.out]; exact hxn
        exact ⟨_, by rw [World.ownsRow.cellAt hrow xi (by omega), List.getElem?_map, List.getElem?_eq_getElem h1]; rfl⟩
      have hfr := World.ownsRow.frozenAt hrow xi
      have hst := World.ownsRow.stored (ownsRow_setCell_other hrow (a := ⟨s1 + 1, 0, none⟩) (by simp; omega) (.int .i64 ((tFold hs P).1 + hs[xi]?.getD 0))) xi (.int .i64 (min ((tFold hs P).1 + hs[xi]?.getD 0) 65536))
      have HST := Lib.hid hst; clear hst
      have HRow := Lib.hid hrow; clear hrow
      have hsz := hB.size
      have hsnoc := tFold_snoc hs P xi
      have HSN := Lib.hid hsnoc; clear hsnoc
      generalize hS : (tFold hs P).1 = S at *
      have HS := Lib.hid hS; clear hS
      generalize hV : hs[xi]?.getD 0 = V at *
      have HV := Lib.hid hV; clear hV
      gi_wp2
      all_goals
        rename_i hcase
        have h2 := HST.out
        first | rw [show min (S + V) 65536 = 65536 by omega] at h2 | rw [show min (S + V) 65536 = S + V by omega] at h2
        refine ⟨((KeepsOthers.setCell _ _ _).trans (KeepsOthers.setCell _ _ _)).from _, ((KeepT.refl _ W).setCell (by simp; omega) _).setCell (by simp; omega) _, ?_⟩
        change ((_ ∧ (World.cell? _ _ = some (.int .i64 (tFold hs ((pre ++ [(⟨xi, hxn⟩ : Below_ n)]).map (fun x : Below_ n => x.1))).1) ∧ _) ∧ World.ownsRow _ _ _ _ _ _ (((tFold hs ((pre ++ [(⟨xi, hxn⟩ : Below_ n)]).map (fun x : Below_ n => x.1))).2).map _)) ∧ _)
        rw [HM.out, HSN.out]
        simp only [tStep, HS.out, HV.out]
        refine ⟨⟨?_, ⟨?_, ?_⟩, ?_⟩, (hB.setCell (by simp; omega) _).setCell (by simp; omega) _⟩
        · go_simp
        · go_simp
        · go_simp
        · first | rw [show min (S + V) 65536 = 65536 by omega] | rw [show min (S + V) 65536 = S + V by omega]
          rw [List.map_set]
          exact h2.1
    case done =>
      rintro D ys W hD hys ⟨⟨hc, ⟨hsm, hfz⟩, hrow⟩, hB⟩ hK
      gi_wp2
      refine ⟨by simp, .inl ⟨_, _, rfl, run_takeDeferred hK, ?_⟩⟩
      refine ⟨_, results_tmp2 rfl _ _ _, _, rfl, ?_, hB.trans (belowK_b (w := w) (Nat.le_refl _) W D _ _ (by simp at hD; omega) hK rfl rfl)⟩
      rw [hys] at hrow
      have ht := own_turned hrow (grownBy_putObj' W D (.deferred none)) (fun r e => by cases e; exact ⟨_, hK, rfl⟩)
      have hl : (tailsL hs).length = n := by unfold tailsL; rw [tFold_len, HN.out]
      unfold OwnI
      rw [hl]
      unfold tailsL
      rw [← HN.out]
      exact ht
    case stop =>
      rintro D c pre W _ _ h _
      exact h.elim
end Go.Proofs.Ytpjmiafefammkaa

/- Layer 23, plain laws: what tails are; sums of folds; folding a hundred times. No program in sight. -/
namespace Go.Proofs.Ytpjmiafefammkaa

def tailAt (hs : List Int) (k : Nat) : Int := min (hs.drop k).sum 65536

theorem sum_drop (hs : List Int) {k : Nat} (hk : k < hs.length) : (hs.drop k).sum = hs[k]?.getD 0 + (hs.drop (k + 1)).sum := by
  have h1 : hs[k]?.getD 0 = hs[k] := by simp [hk]
  rw [h1, List.drop_eq_getElem_cons hk, List.sum_cons]

theorem tFold_down (hs : List Int) : ∀ k, k ≤ hs.length → (tFold hs (downTo hs.length k)).1 = (hs.drop (hs.length - k)).sum ∧
    ∀ j, hs.length - k ≤ j → j < hs.length → (tFold hs (downTo hs.length k)).2[j]? = some (tailAt hs j) := by
  intro k
  induction k with
  | zero => intro _; exact ⟨by simp [downTo, tFold], fun j h1 h2 => by omega⟩
  | succ k ih =>
    intro hk
    obtain ⟨i1, i2⟩ := ih (by omega)
    have hs1 := sum_drop hs (k := hs.length - 1 - k) (by omega)
    rw [show hs.length - 1 - k + 1 = hs.length - k by omega] at hs1
    have hl := tFold_len hs (downTo hs.length k)
    rw [downTo_succ, tFold_snoc]
    simp only [tStep]
    rw [show hs.length - (k + 1) = hs.length - 1 - k by omega]
    refine ⟨by rw [i1, hs1]; omega, fun j h1 h2 => ?_⟩
    by_cases hj : j = hs.length - 1 - k
    · subst hj
      rw [List.getElem?_set_self (by omega)]
      unfold tailAt
      rw [i1, hs1, Int.add_comm]
    · rw [List.getElem?_set_ne (fun e => hj e.symm)]
      exact i2 j (by omega) h2

theorem tailsL_len (hs : List Int) : (tailsL hs).length = hs.length := by unfold tailsL; rw [tFold_len]

theorem tailsL_at (hs : List Int) {k : Nat} (hk : k < hs.length) : (tailsL hs)[k]? = some (tailAt hs k) := by
  unfold tailsL
  exact (tFold_down hs hs.length (Nat.le_refl _)).2 k (by omega) hk

theorem rowB_mem {hs : List Int} (hr : rowB hs = true) : ∀ z ∈ hs, 0 ≤ z ∧ z ≤ 65536 := by
  intro z hz
  obtain ⟨k, hk, rfl⟩ := List.mem_iff_getElem.1 hz
  have := rowB_at hr hk
  simpa [hk] using this

theorem sum_nonneg {hs : List Int} (h : ∀ z ∈ hs, 0 ≤ z) : 0 ≤ hs.sum := by
  induction hs with
  | nil => simp
  | cons x l ih => simp only [List.sum_cons]; have := h x (by simp); have := ih (fun z hz => h z (by simp [hz])); omega

theorem sum_le_mul {hs : List Int} (h : ∀ z ∈ hs, z ≤ 65536) : hs.sum ≤ hs.length * 65536 := by
  induction hs with
  | nil => simp
  | cons x l ih => simp only [List.sum_cons, List.length_cons]; have := h x (by simp); have := ih (fun z hz => h z (by simp [hz])); omega

/-- what the law's loop asks of each place -/
theorem tail_place {hs : List Int} (hr : rowB hs = true) {k : Nat} (hk : k < hs.length) :
    0 ≤ tailAt hs k ∧ tailAt hs k ≤ 65536 ∧ tailAt hs (k + 1) ≤ tailAt hs k ∧ 0 ≤ tailAt hs (k + 1) ∧ (tailAt hs k < 65536 → tailAt hs k = tailAt hs (k + 1) + hs[k]?.getD 0) ∧ (tailAt hs k = 65536 → 65536 ≤ tailAt hs (k + 1) + hs[k]?.getD 0) := by
  have h1 := sum_drop hs hk
  have h2 := rowB_at hr hk
  have h3 : 0 ≤ (hs.drop (k + 1)).sum := sum_nonneg fun z hz => (rowB_mem hr z (List.mem_of_mem_drop hz)).1
  simp only [List.getD_eq_getElem?_getD] at h2
  unfold tailAt
  omega

theorem tailAt_end (hs : List Int) {k : Nat} (hk : hs.length ≤ k) : tailAt hs k = 0 := by
  unfold tailAt; rw [List.drop_eq_nil_of_le hk]; decide

/-! ### folds -/
theorem foldL_len (hs xs : List Int) : (foldL hs xs).length = hs.length := mapK_length
theorem foldL_at (hs xs : List Int) {k : Nat} (hk : k < hs.length) : (foldL hs xs)[k]?.getD 0 = blendW (hs[k]?.getD 0) (xs[k]?.getD 0) := by
  unfold foldL mapK foldG
  simp [hk, List.getD_eq_getElem?_getD]

theorem rowB_mk {zs : List Int} (h0 : 0 < zs.length) (h1 : zs.length ≤ 256) (h2 : ∀ k, k < zs.length → 0 ≤ zs[k]?.getD 0 ∧ zs[k]?.getD 0 ≤ 65536) : rowB zs = true := by
  unfold rowB
  simp only [Bool.and_eq_true, decide_eq_true_eq, Bool.not_eq_true', List.any_eq_false]
  refine ⟨⟨h0, h1⟩, fun z hz => ?_⟩
  obtain ⟨k, hk, rfl⟩ := List.mem_iff_getElem.1 hz
  have := h2 k hk
  simp [hk] at this
  simp [isB_yes this.1 this.2]

theorem foldL_row {hs xs : List Int} (h1 : rowB hs = true) (h2 : rowB xs = true) (hl : hs.length = xs.length) : rowB (foldL hs xs) = true := by
  have a := rowB_len h1
  refine rowB_mk (by rw [foldL_len]; exact a.1) (by rw [foldL_len]; exact a.2) fun k hk => ?_
  rw [foldL_len] at hk
  rw [foldL_at hs xs hk]
  have b1 := rowB_at h1 hk
  have b2 := rowB_at h2 (k := k) (by omega)
  simp only [List.getD_eq_getElem?_getD] at b1 b2
  exact blendW_bd b1.1 b1.2 b2.1 b2.2

theorem foldV_ok {hs xs : List Int} (h1 : rowB hs = true) (h2 : rowB xs = true) (hl : hs.length = xs.length) : foldV hs xs = foldL hs xs ∧ foldOk hs xs = true := by
  have : foldOk hs xs = true := by simp [foldOk, h1, h2, hl]
  exact ⟨by simp [foldV, this], this⟩

theorem foldL_sum (hs : List Int) : ∀ (xs : List Int), hs.length = xs.length → 8 * (foldL hs xs).sum ≤ 7 * hs.sum + xs.sum := by
  induction hs with
  | nil => intro xs h; cases xs <;> simp_all [foldL, mapK]
  | cons h l ih =>
    intro xs hl
    cases xs with
    | nil => simp at hl
    | cons x m =>
      have := ih m (by simpa using hl)
      have e : foldL (h :: l) (x :: m) = blendW h x :: foldL l m := by
        unfold foldL mapK foldG
        simp [List.mapIdx_cons, List.getD_eq_getElem?_getD]
      rw [e]
      simp only [List.sum_cons]
      have : 8 * blendW h x ≤ 7 * h + x := by unfold blendW; omega
      omega

theorem foldL_self (hs : List Int) {k : Nat} (hk : k < hs.length) : (foldL hs hs)[k]?.getD 0 = hs[k]?.getD 0 := by
  rw [foldL_at hs hs hk]; unfold blendW; omega

/-- folded with the same row so many times -/
def foldN (xs : List Int) : Nat → List Int → List Int
  | 0, hs => hs
  | k + 1, hs => foldL (foldN xs k hs) xs
theorem foldN_len (xs hs : List Int) (k : Nat) : (foldN xs k hs).length = hs.length := by
  induction k with
  | zero => rfl
  | succ k ih => rw [foldN, foldL_len, ih]
theorem foldN_row {xs hs : List Int} (h1 : rowB hs = true) (h2 : rowB xs = true) (hl : hs.length = xs.length) (k : Nat) : rowB (foldN xs k hs) = true := by
  induction k with
  | zero => exact h1
  | succ k ih => exact foldL_row ih h2 (by rw [foldN_len]; exact hl)

/-- a number's way: from below (so much less), from above (so much more) -/
def down8 : Nat → Int → Int
  | 0, d => d
  | k + 1, d => down8 k d - down8 k d / 8
def up8 : Nat → Int → Int
  | 0, d => d
  | k + 1, d => up8 k d - (up8 k d + 7) / 8
theorem down8_mono (k : Nat) : ∀ d e : Int, 0 ≤ d → d ≤ e → 0 ≤ down8 k d ∧ down8 k d ≤ down8 k e := by
  induction k with
  | zero => intro d e h1 h2; exact ⟨h1, h2⟩
  | succ k ih => intro d e h1 h2; have := ih d e h1 h2; simp only [down8]; omega
theorem up8_mono (k : Nat) : ∀ d e : Int, 0 ≤ d → d ≤ e → 0 ≤ up8 k d ∧ up8 k d ≤ up8 k e := by
  induction k with
  | zero => intro d e h1 h2; exact ⟨h1, h2⟩
  | succ k ih => intro d e h1 h2; have := ih d e h1 h2; simp only [up8]; omega
theorem down8_end : down8 100 65536 = 7 := by decide +kernel
theorem up8_end : up8 100 65536 = 0 := by decide +kernel

theorem foldN_at (xs hs : List Int) {j : Nat} (hj : j < hs.length) (k : Nat) :
    (hs[j]?.getD 0 ≤ xs[j]?.getD 0 → xs[j]?.getD 0 - (foldN xs k hs)[j]?.getD 0 = down8 k (xs[j]?.getD 0 - hs[j]?.getD 0)) ∧
    (xs[j]?.getD 0 ≤ hs[j]?.getD 0 → (foldN xs k hs)[j]?.getD 0 - xs[j]?.getD 0 = up8 k (hs[j]?.getD 0 - xs[j]?.getD 0)) := by
  induction k with
  | zero => exact ⟨fun _ => rfl, fun _ => rfl⟩
  | succ k ih =>
    have e := foldL_at (foldN xs k hs) xs (k := j) (by rw [foldN_len]; exact hj)
    refine ⟨fun h => ?_, fun h => ?_⟩
    · have i1 := ih.1 h
      have := (down8_mono k _ _ (show 0 ≤ xs[j]?.getD 0 - hs[j]?.getD 0 by omega) (Int.le_refl _)).1
      simp only [foldN, down8, ← i1]
      rw [e]; unfold blendW; omega
    · have i1 := ih.2 h
      have := (up8_mono k _ _ (show 0 ≤ hs[j]?.getD 0 - xs[j]?.getD 0 by omega) (Int.le_refl _)).1
      simp only [foldN, up8, ← i1]
      rw [e]; unfold blendW; omega

/-- after a hundred times -/
theorem foldN_hundred {xs hs : List Int} (h1 : rowB hs = true) (h2 : rowB xs = true) (hl : hs.length = xs.length) {j : Nat} (hj : j < hs.length) :
    (foldN xs 100 hs)[j]?.getD 0 ≤ xs[j]?.getD 0 ∧ xs[j]?.getD 0 - (foldN xs 100 hs)[j]?.getD 0 ≤ 7 ∧ (foldN xs 101 hs)[j]?.getD 0 = (foldN xs 100 hs)[j]?.getD 0 := by
  have a1 := rowB_at h1 hj
  have a2 := rowB_at h2 (k := j) (by omega)
  simp only [List.getD_eq_getElem?_getD] at a1 a2
  obtain ⟨i1, i2⟩ := foldN_at xs hs hj 100
  have e := foldL_at (foldN xs 100 hs) xs (k := j) (by rw [foldN_len]; exact hj)
  have key : (foldN xs 100 hs)[j]?.getD 0 ≤ xs[j]?.getD 0 ∧ xs[j]?.getD 0 - (foldN xs 100 hs)[j]?.getD 0 ≤ 7 := by
    rcases Int.le_total (hs[j]?.getD 0) (xs[j]?.getD 0) with h | h
    · have := i1 h
      have m := down8_mono 100 (xs[j]?.getD 0 - hs[j]?.getD 0) 65536 (by omega) (by omega)
      rw [down8_end] at m
      omega
    · have := i2 h
      have m := up8_mono 100 (hs[j]?.getD 0 - xs[j]?.getD 0) 65536 (by omega) (by omega)
      rw [up8_end] at m
      omega
  refine ⟨key.1, key.2, ?_⟩
  show (foldL (foldN xs 100 hs) xs)[j]?.getD 0 = _
  rw [e]; unfold blendW; omega
theorem foldN_hundred_k {k : Nat} (hk : k = 100) {xs hs : List Int} (h1 : rowB hs = true) (h2 : rowB xs = true) (hl : hs.length = xs.length) {j : Nat} (hj : j < hs.length) :
    (foldN xs k hs)[j]?.getD 0 ≤ xs[j]?.getD 0 ∧ xs[j]?.getD 0 - (foldN xs k hs)[j]?.getD 0 ≤ 7 ∧ (foldL (foldN xs k hs) xs)[j]?.getD 0 = (foldN xs k hs)[j]?.getD 0 := by
  subst hk; exact foldN_hundred h1 h2 hl hj
end Go.Proofs.Ytpjmiafefammkaa

/- Layer 24, plain: what a report is, whether it is right, what it says. No program in sight. -/
namespace Go.Proofs.Ytpjmiafefammkaa
open Go.RowKit
set_option linter.unusedVariables false

structure NoteV where
  st : Int
  sq : Int
  n : Int
  A : Option Addr
  l : Nat
  c : Nat
  cs : List (Int × Int)
def NoteV.cells (d : NoteV) : List Value := [.int .i64 d.st, .int .i64 d.sq, .int .i64 d.n, .slice d.A d.l d.c]
def NoteOk (w : World) (d : NoteV) : Prop := RdP w 2 d.A (d.cs.map rowC) ∧ d.l = d.cs.length ∧ d.l ≤ 9000000000000 ∧ (I64 d.st ∧ I64 d.sq ∧ I64 d.n) ∧ ∀ p ∈ d.cs, I64 p.1 ∧ I64 p.2
theorem NoteOk.keep {w w' : World} {d : NoteV} (h : NoteOk w d) (hb : Below w.heap.size w w') : NoteOk w' d := ⟨h.1.keep hb, h.2⟩
theorem NoteOk.led {w w' : World} {d : NoteV} (h : NoteOk w d) (hb : LeD w w') : NoteOk w' d := ⟨h.1.led hb, h.2⟩

def inB (n a b : Int) : Bool := decide (a ≤ n ∧ n ≤ b)
def cntOk (n : Int) : Int → List (Int × Int) → Bool
  | _, [] => true
  | last, c :: r => (inB c.1 (last + 1) n && inB c.2 1 65535) && cntOk n c.1 r
def rightN (d : NoteV) : Bool := cntOk d.n 0 d.cs && inB d.st 0 65535 && inB d.sq 1 2147483647 && inB d.n 1 255
def whyN (st n sq : Int) (d : NoteV) : Int :=
  if rightN d = false then 2 else if d.st ≠ st ∨ d.n ≠ n then 13 else if d.sq ≤ sq then 14 else if d.l = 0 then 5 else 0
theorem why_ok {st n sq : Int} {d : NoteV} : whyN st n sq d = 0 ↔ rightN d = true ∧ d.st = st ∧ d.n = n ∧ sq < d.sq ∧ 0 < d.l := by
  unfold whyN
  cases rightN d
  · simp
  · simp only [Bool.true_eq_false, if_false]
    split
    · constructor
      · intro h; cases h
      · intro h; omega
    · split
      · constructor
        · intro h; cases h
        · intro h; omega
      · split
        · constructor
          · intro h; cases h
          · intro h; omega
        · simp; omega
theorem cnt_step {n : Int} {cs : List (Int × Int)} {i : Nat} {last : Int} (hi : i < cs.length) : cntOk n last (cs.drop i) = ((inB (cs.getD i (0, 0)).1 (last + 1) n && inB (cs.getD i (0, 0)).2 1 65535) && cntOk n (cs.getD i (0, 0)).1 (cs.drop (i + 1))) := by
  have e : cs.getD i (0, 0) = cs[i] := by simp [hi]
  rw [List.drop_eq_getElem_cons hi, cntOk, e]
theorem inB_iff {n a b : Int} : inB n a b = true ↔ a ≤ n ∧ n ≤ b := by simp [inB]
/-- the last count ahead of one -/
def lastC (cs : List (Int × Int)) : Nat → Int
  | 0 => 0
  | i + 1 => (cs.getD i (0, 0)).1
theorem cnt_all {n last : Int} {cs : List (Int × Int)} (h : cntOk n last cs = true) : (∀ c ∈ cs, last < c.1 ∧ c.1 ≤ n ∧ 1 ≤ c.2 ∧ c.2 ≤ 65535) ∧ (last ≤ n → last + (cs.length : Int) ≤ n) := by
  induction cs generalizing last with
  | nil => exact ⟨(fun c hc => by cases hc), (fun h => by simpa using h)⟩
  | cons x r ih =>
    simp only [cntOk, Bool.and_eq_true, inB_iff] at h
    obtain ⟨⟨h1, h2⟩, h3⟩ := h
    obtain ⟨i1, i2⟩ := ih h3
    refine ⟨fun c hc => ?_, fun _ => ?_⟩
    · rcases List.mem_cons.1 hc with rfl | hc
      · omega
      · have := i1 c hc; omega
    · have := i2 h1.2
      simp only [List.length_cons]; omega
/-- no place twice -/
theorem cnt_inc {n last : Int} {cs : List (Int × Int)} (h : cntOk n last cs = true) : cs.Pairwise fun a b => a.1 < b.1 := by
  induction cs generalizing last with
  | nil => exact List.Pairwise.nil
  | cons x r ih =>
    simp only [cntOk, Bool.and_eq_true] at h
    exact List.Pairwise.cons (fun c hc => ((cnt_all h.2).1 c hc).1) (ih h.2)

def timesL (cs : List (Int × Int)) : Int := (cs.map (·.2)).sum
def saysGo (all : Int) : List (Int × Int) → List Int → List Int
  | [], out => out
  | c :: r, out => saysGo all r (out.set c.1.toNat (shareV c.2 all))
def saysL (n : Int) (cs : List (Int × Int)) : List Int := saysGo (timesL cs) cs (List.replicate (n.toNat + 1) 0)
theorem saysGo_len (all : Int) : ∀ (cs : List (Int × Int)) (out : List Int), (saysGo all cs out).length = out.length
  | [], out => rfl
  | c :: r, out => by rw [saysGo, saysGo_len all r]; simp
theorem saysL_len (n : Int) (cs : List (Int × Int)) : (saysL n cs).length = n.toNat + 1 := by simp [saysL, saysGo_len]
theorem saysGo_step {all : Int} {cs : List (Int × Int)} {out : List Int} {i : Nat} (hi : i < cs.length) : saysGo all (cs.drop i) out = saysGo all (cs.drop (i + 1)) (out.set (cs.getD i (0, 0)).1.toNat (shareV (cs.getD i (0, 0)).2 all)) := by
  have e : cs.getD i (0, 0) = cs[i] := by simp [hi]
  rw [List.drop_eq_getElem_cons hi, saysGo, e]
theorem times_bd {n last : Int} {cs : List (Int × Int)} (h : cntOk n last cs = true) : (cs.length : Int) ≤ timesL cs ∧ timesL cs ≤ cs.length * 65535 ∧ ∀ c ∈ cs, c.2 ≤ timesL cs := by
  induction cs generalizing last with
  | nil => simp [timesL]
  | cons x r ih =>
    have hx := (cnt_all h).1 x (by simp)
    simp only [cntOk, Bool.and_eq_true] at h
    obtain ⟨i1, i2, i3⟩ := ih h.2
    simp only [timesL, List.map_cons, List.sum_cons, List.length_cons] at i1 i2 i3 ⊢
    refine ⟨by omega, by omega, fun c hc => ?_⟩
    rcases List.mem_cons.1 hc with rfl | hc
    · omega
    · have := i3 c hc; omega
theorem times_take {n last : Int} {cs : List (Int × Int)} (h : cntOk n last cs = true) (i : Nat) : 0 ≤ timesL (cs.take i) ∧ timesL (cs.take i) ≤ cs.length * 65535 := by
  induction cs generalizing last i with
  | nil => simp [timesL]
  | cons x r ih =>
    have hx := (cnt_all h).1 x (by simp)
    simp only [cntOk, Bool.and_eq_true] at h
    cases i with
    | zero => simp [timesL]; omega
    | succ i =>
      have := ih h.2 i
      simp only [timesL, List.take_succ_cons, List.map_cons, List.sum_cons, List.length_cons] at this ⊢
      omega
theorem times_succ {cs : List (Int × Int)} {i : Nat} (hi : i < cs.length) : timesL (cs.take (i + 1)) = timesL (cs.take i) + (cs.getD i (0, 0)).2 := by
  have e : cs.getD i (0, 0) = cs[i] := by simp [hi]
  unfold timesL
  rw [List.take_succ_eq_append_getElem hi, List.map_append, List.sum_append, e]
  simp
structure RightD (d : NoteV) : Prop where
  st : 0 ≤ d.st ∧ d.st ≤ 65535
  sq : 1 ≤ d.sq ∧ d.sq ≤ 2147483647
  n : 1 ≤ d.n ∧ d.n ≤ 255
  cnt : cntOk d.n 0 d.cs = true
theorem right_iff {d : NoteV} : rightN d = true ↔ RightD d := by
  simp only [rightN, Bool.and_eq_true, inB_iff]
  exact ⟨fun h => ⟨h.1.1.2, h.1.2, h.2, h.1.1.1⟩, fun h => ⟨⟨⟨h.cnt, h.st⟩, h.sq⟩, h.n⟩⟩
theorem share_bd {a b : Int} : 0 ≤ shareV a b ∧ shareV a b ≤ 65536 := by
  unfold shareV shareOk
  split
  · rename_i h
    simp only [decide_eq_true_eq] at h
    refine ⟨Int.ediv_nonneg (by omega) (by omega), ?_⟩
    have : a * 65536 / b ≤ 65536 := by
      apply Int.ediv_le_of_le_mul (by omega)
      rw [Int.mul_comm]
      exact Int.mul_le_mul_of_nonneg_left (by omega) (by decide)
    exact this
  · omega
theorem saysGo_bd {all : Int} : ∀ (cs : List (Int × Int)) (out : List Int), (∀ z ∈ out, 0 ≤ z ∧ z ≤ 65536) → ∀ z ∈ saysGo all cs out, 0 ≤ z ∧ z ≤ 65536
  | [], out, h => h
  | c :: r, out, h => saysGo_bd r _ fun z hz => by
    rcases List.mem_or_eq_of_mem_set hz with h1 | rfl
    · exact h z h1
    · exact share_bd
theorem saysL_bd {n : Int} {cs : List (Int × Int)} : ∀ z ∈ saysL n cs, 0 ≤ z ∧ z ≤ 65536 := saysGo_bd cs _ fun z hz => by
  rw [(List.mem_replicate.1 hz).2]; decide
theorem saysL_row {n : Int} {cs : List (Int × Int)} (hn : n ≤ 255) : rowB (saysL n cs) = true := by
  refine rowB_mk (by rw [saysL_len]; omega) (by rw [saysL_len]; omega) fun k hk => ?_
  rw [List.getElem?_eq_getElem hk]
  exact saysL_bd _ (List.getElem_mem _)
end Go.Proofs.Ytpjmiafefammkaa

/- The statements' own helpers (hourglasskit): lists held against each other. -/
namespace Go.Proofs.Ytpjmiafefammkaa
open Go.RowKit

set_option maxHeartbeats 400000 in
theorem same_ints (A B : Option Addr) (n m c d : Nat) (xs ys : List Int) (w : World) (ha : Rd w .i64 A xs) (hb : Rd w .i64 B ys) (hn : n = xs.length) (hm : m = ys.length)
   (hn' : n ≤ 9223372036854775807) (hm' : m ≤ 9223372036854775807) :
    Calls Try.prog 26 #[.slice A n c, .slice B m d] w fun e w' => e = .returned (.bool (decide (xs = ys))) ∧ ∃ q, w' = w.drewN q := by
  by_cases hlen : n = m
  · subst hlen
    have H1 := Lib.hid hn; have H2 := Lib.hid hm; clear hn hm
    go_enter Try.func26, Try.ntmps26
    go_wp2_with (fail)
    go_loopw [5] (fun i wr => ∃ k : Nat, k ≤ n ∧ i = .int .i64 k ∧ xs.take k = ys.take k ∧ ∃ q, wr = w.drewN q) (fun i wr => n - (intOf i).toNat)
    case atStart => exact ⟨0, by omega, rfl, rfl, 0, rfl⟩
    case round =>
      obtain ⟨k, hk, rfl, htk, q, rfl⟩ := hrel
      have Htk := Lib.hid htk; clear htk
      by_cases hlt : k < n
      · obtain ⟨b1, o1, rfl, hc1⟩ := ha.at_ (i := k) (by rw [← H1.out]; exact hlt)
        obtain ⟨b2, o2, rfl, hc2⟩ := hb.at_ (i := k) (by rw [← H2.out]; exact hlt)
        go_wp2_with (fail)
        go_quiet (fail)
        go_wp2_with (fail)
        · go_ret
          exact ⟨ret_bool (decide_eq_false (ne_of_getD 0 (ne_of_bne (by assumption)))).symm, drew_ex⟩
        · go_roundw
          case rel => exact ⟨k + 1, by omega, by go_num, take_succ_eq H1.out H2.out hlt Htk.out 0 (by simp_all), _, rfl⟩
          case measure => simp [intOf]; omega
      · obtain rfl : k = n := by omega
        go_wp2_with (fail)
        go_ret
        exact ⟨ret_bool (decide_eq_true (eq_of_take H1.out H2.out Htk.out)).symm, q, rfl⟩
  · have hd : ((n : Int) != (m : Int)) = true := by simp; omega
    have H1 := Lib.hid hn; have H2 := Lib.hid hm; clear hn hm
    go_enter Try.func26, Try.ntmps26
    go_wp2_with (fail)
    go_ret
    exact ⟨ret_bool (decide_eq_false (fun h => hlen (by rw [H1.out, H2.out, h]))).symm, 0, rfl⟩
end Go.Proofs.Ytpjmiafefammkaa

/- Layer 23: awake, and the walks of FixedParts, FixedBlends. -/
namespace Go.Proofs.Ytpjmiafefammkaa
open Go.RowKit

theorem rd_lit3 (w : World) (x y z : Int) (t : TypeId) : Rd (w.alloc (.cells #[.int .i64 x, .int .i64 y, .int .i64 z] t)) .i64 (some ⟨w.heap.size, 0, none⟩) [x, y, z] := fun _ =>
  ⟨w.heap.size, 0, rfl, fun i hi => by
    rw [Nat.zero_add, cell_of_row _ w.heap.size i _ t (0, 0) (heap_alloc_new w _)]
    match i, hi with
    | 0, _ => rfl
    | 1, _ => rfl
    | 2, _ => rfl⟩

theorem allI_lit3 : AllI [1, 2, 3] := by intro z hz; simp at hz; rcases hz with rfl | rfl | rfl <;> exact ⟨by decide, by decide⟩

end Go.Proofs.Ytpjmiafefammkaa

/- What the rules want of the program. -/
namespace Go.Proofs.Ytpjmiafefammkaa
theorem mixed : Try.prog.follows .mixedOrders = true := by kernel_rfl
end Go.Proofs.Ytpjmiafefammkaa

/- The statements' own helpers: lists held against each other. -/
namespace Go.Proofs.Ytpjmiafefammkaa
open Go.RowKit
set_option linter.unusedVariables false

theorem kit_SameInts (A B : Option Addr) (n m c d : Nat) (xs ys : List Int) (w : World) (ha : Rd w .i64 A xs) (hb : Rd w .i64 B ys) (hn : n = xs.length) (hm : m = ys.length)
   (hn' : n ≤ 9223372036854775807) (hm' : m ≤ 9223372036854775807) :
    Gives Try.prog 26 #[.slice A n c, .slice B m d] w fun v w' => v = .bool (decide (xs = ys)) ∧ LeD w w' := by
  refine gives_enter Try.call26 Try.func26 rfl rfl rfl (by kernel_rfl) ?_
  refine v_seq ?_
  refine v_region ?_
  refine vl_val (os_assign rfl) ?_
  refine vl_nil ?_
  refine v_seq ?_
  refine v_seq ?_
  refine v_region ?_
  refine vl_val (os_move rfl) ?_
  refine vl_val (os_len Try.underlying40 rfl) ?_
  refine vl_val (os_move rfl) ?_
  refine vl_val (os_len Try.underlying40 rfl) ?_
  refine vl_val (os_neq rfl rfl) ?_
  refine vl_nil ?_
  refine v_cond_d rfl (fun h => ?_) (fun h => ?_)
  · refine v_seq ?_
    refine v_region ?_
    refine vl_val (os_assign rfl) ?_
    refine vl_nil ?_
    refine v_ret ?_
    exact post_ret rfl rfl (⟨by rw [decide_eq_false]; intro he; subst he; omega, lee_d.refl _⟩)
  · refine v_skip ?_
    refine v_seq ?_
    refine v_seq ?_
    refine v_region ?_
    refine vl_val (os_assign rfl) ?_
    refine vl_nil ?_
    refine v_block ?_
    refine v_loop [(0, _), (1, _)] (fun (k : Nat) => [(5, .int .i64 k)]) (fun k w' => k ≤ n ∧ xs.take k = ys.take k ∧ LeD w w') (fun k => n - k) (0) ⟨rfl, rfl, trivial⟩ ⟨rfl, trivial⟩ (⟨by omega, rfl, lee_d.refl _⟩) ?_
    rintro k w' ⟨hk, htk, q, rfl⟩
    refine v_seq ?_
    refine v_seq ?_
    refine v_region ?_
    refine vl_val (os_move rfl) ?_
    refine vl_val (os_move rfl) ?_
    refine vl_val (os_len Try.underlying40 rfl) ?_
    refine vl_val (os_lss rfl rfl) ?_
    refine vl_nil ?_
    refine v_cond_d rfl (fun hlt => ?_) (fun hlt => ?_)
    · obtain ⟨b1, o1, rfl, c1⟩ := (ha.drewN q).at_ (i := k) (by omega)
      obtain ⟨b2, o2, rfl, c2⟩ := (hb.drewN q).at_ (i := k) (by omega)
      refine v_skip ?_
      refine v_seq ?_
      refine v_block ?_
      refine v_seq ?_
      refine v_region_t LeD _ mixed (by kernel_rfl) lee_d (led_start _) ?_
      refine vt_val (fun w hw => os_move rfl) ?_
      refine vt_val (fun w hw => os_move rfl) ?_
      refine vt_val (fun w hw => os_ix Try.underlying40 Try.sizeOf3 rfl rfl (i := k) (by omega) (by omega)) ?_
      refine vt_val (fun w hw => os_load Try.isAgg3 rfl (led_cell hw (c1))) ?_
      refine vt_val (fun w hw => os_move rfl) ?_
      refine vt_val (fun w hw => os_move rfl) ?_
      refine vt_val (fun w hw => os_ix Try.underlying40 Try.sizeOf3 rfl rfl (i := k) (by omega) (by omega)) ?_
      refine vt_val (fun w hw => os_load Try.isAgg3 rfl (led_cell hw (c2))) ?_
      refine vt_val (fun w hw => os_neq rfl rfl) ?_
      refine vt_nil (fun w hw => ?_)
      obtain ⟨q2, rfl⟩ := hw
      refine v_cond_d rfl (fun hne => ?_) (fun hne => ?_)
      · refine v_seq ?_
        refine v_region ?_
        refine vl_val (os_assign rfl) ?_
        refine vl_nil ?_
        refine v_ret ?_
        exact post_ret rfl rfl (⟨by rw [decide_eq_false]; intro he; subst he; exact hne rfl, _, World.drewN_drewN ..⟩)
      · refine v_skip ?_
        refine v_region ?_
        refine vl_val (os_move rfl) ?_
        refine vl_val (os_addi rfl rfl (by omega)) ?_
        refine vl_val (os_assign rfl) ?_
        refine vl_nil ?_
        exact ⟨k + 1, ⟨rfl, rfl, trivial⟩, ⟨rfl, trivial⟩, ⟨by omega, take_succ_eq (n := n) hn (by omega) (by omega) htk 0 (by simpa using hne), _, World.drewN_drewN ..⟩, by dsimp only; omega⟩
    · obtain rfl : k = n := by omega
      refine v_exit ?_
      refine v_seq ?_
      refine v_region ?_
      refine vl_val (os_assign rfl) ?_
      refine vl_nil ?_
      refine v_ret ?_
      exact post_ret rfl rfl (⟨by rw [decide_eq_true]; exact eq_of_take hn (by omega) htk, _, rfl⟩)

theorem kit_SameBytes (A B : Option Addr) (n m c d : Nat) (xs ys : List Int) (w : World) (ha : Rd w .u8 A xs) (hb : Rd w .u8 B ys) (hn : n = xs.length) (hm : m = ys.length)
   (hn' : n ≤ 9223372036854775807) (hm' : m ≤ 9223372036854775807) :
    Gives Try.prog 154 #[.slice A n c, .slice B m d] w fun v w' => v = .bool (decide (xs = ys)) ∧ LeD w w' := by
  refine gives_enter Try.call154 Try.func154 rfl rfl rfl (by kernel_rfl) ?_
  refine v_seq ?_
  refine v_region ?_
  refine vl_val (os_assign rfl) ?_
  refine vl_nil ?_
  refine v_seq ?_
  refine v_seq ?_
  refine v_region ?_
  refine vl_val (os_move rfl) ?_
  refine vl_val (os_len Try.underlying161 rfl) ?_
  refine vl_val (os_move rfl) ?_
  refine vl_val (os_len Try.underlying161 rfl) ?_
  refine vl_val (os_neq rfl rfl) ?_
  refine vl_nil ?_
  refine v_cond_d rfl (fun h => ?_) (fun h => ?_)
  · refine v_seq ?_
    refine v_region ?_
    refine vl_val (os_assign rfl) ?_
    refine vl_nil ?_
    refine v_ret ?_
    exact post_ret rfl rfl (⟨by rw [decide_eq_false]; intro he; subst he; omega, lee_d.refl _⟩)
  · refine v_skip ?_
    refine v_seq ?_
    refine v_seq ?_
    refine v_region ?_
    refine vl_val (os_assign rfl) ?_
    refine vl_nil ?_
    refine v_block ?_
    refine v_loop [(0, _), (1, _)] (fun (k : Nat) => [(5, .int .i64 k)]) (fun k w' => k ≤ n ∧ xs.take k = ys.take k ∧ LeD w w') (fun k => n - k) (0) ⟨rfl, rfl, trivial⟩ ⟨rfl, trivial⟩ (⟨by omega, rfl, lee_d.refl _⟩) ?_
    rintro k w' ⟨hk, htk, q, rfl⟩
    refine v_seq ?_
    refine v_seq ?_
    refine v_region ?_
    refine vl_val (os_move rfl) ?_
    refine vl_val (os_move rfl) ?_
    refine vl_val (os_len Try.underlying161 rfl) ?_
    refine vl_val (os_lss rfl rfl) ?_
    refine vl_nil ?_
    refine v_cond_d rfl (fun hlt => ?_) (fun hlt => ?_)
    · obtain ⟨b1, o1, rfl, c1⟩ := (ha.drewN q).at_ (i := k) (by omega)
      obtain ⟨b2, o2, rfl, c2⟩ := (hb.drewN q).at_ (i := k) (by omega)
      refine v_skip ?_
      refine v_seq ?_
      refine v_block ?_
      refine v_seq ?_
      refine v_region_t LeD _ mixed (by kernel_rfl) lee_d (led_start _) ?_
      refine vt_val (fun w hw => os_move rfl) ?_
      refine vt_val (fun w hw => os_move rfl) ?_
      refine vt_val (fun w hw => os_ix Try.underlying161 Try.sizeOf5 rfl rfl (i := k) (by omega) (by omega)) ?_
      refine vt_val (fun w hw => os_load Try.isAgg5 rfl (led_cell hw (c1))) ?_
      refine vt_val (fun w hw => os_move rfl) ?_
      refine vt_val (fun w hw => os_move rfl) ?_
      refine vt_val (fun w hw => os_ix Try.underlying161 Try.sizeOf5 rfl rfl (i := k) (by omega) (by omega)) ?_
      refine vt_val (fun w hw => os_load Try.isAgg5 rfl (led_cell hw (c2))) ?_
      refine vt_val (fun w hw => os_neq rfl rfl) ?_
      refine vt_nil (fun w hw => ?_)
      obtain ⟨q2, rfl⟩ := hw
      refine v_cond_d rfl (fun hne => ?_) (fun hne => ?_)
      · refine v_seq ?_
        refine v_region ?_
        refine vl_val (os_assign rfl) ?_
        refine vl_nil ?_
        refine v_ret ?_
        exact post_ret rfl rfl (⟨by rw [decide_eq_false]; intro he; subst he; exact hne rfl, _, World.drewN_drewN ..⟩)
      · refine v_skip ?_
        refine v_region ?_
        refine vl_val (os_move rfl) ?_
        refine vl_val (os_addi rfl rfl (by omega)) ?_
        refine vl_val (os_assign rfl) ?_
        refine vl_nil ?_
        exact ⟨k + 1, ⟨rfl, rfl, trivial⟩, ⟨rfl, trivial⟩, ⟨by omega, take_succ_eq (n := n) hn (by omega) (by omega) htk 0 (by simpa using hne), _, World.drewN_drewN ..⟩, by dsimp only; omega⟩
    · obtain rfl : k = n := by omega
      refine v_exit ?_
      refine v_seq ?_
      refine v_region ?_
      refine vl_val (os_assign rfl) ?_
      refine vl_nil ?_
      refine v_ret ?_
      exact post_ret rfl rfl (⟨by rw [decide_eq_true]; exact eq_of_take hn (by omega) htk, _, rfl⟩)

end Go.Proofs.Ytpjmiafefammkaa

/- Layer 23: the contracts in the form of the rules; the sum of a row. -/
namespace Go.Proofs.Ytpjmiafefammkaa
open Go.RowKit
set_option linter.unusedVariables false

theorem g_Is (a : Int) (w : World) (h : I64 a) : Gives Try.prog 109 #[.int .i64 a] w fun v w' => v = .bool (isB a) ∧ w' = w :=
  gives_of Try.call109 (fixed_Is a w h) fun e w' ⟨h1, h2⟩ => ⟨_, h1, rfl, h2.symm⟩
theorem g_Is_t {a : Int} {w w' : World} (h : isB a = true) (hw : LeD w w') : Gives Try.prog 109 #[.int .i64 a] w' fun v w'' => v = .bool true ∧ LeD w' w'' :=
  (g_Is a w' (by have := isB_iff.1 h; exact ⟨by omega, by omega⟩)).mono fun v w'' ⟨h1, h2⟩ => ⟨by rw [h1, h], by rw [h2]; exact lee_d.refl _⟩
theorem g_Fold (A B : Option Addr) (n m c d : Nat) (hs xs : List Int) (w : World) (ha : Rd w .i64 A hs) (hb : Rd w .i64 B xs) (hn : n = hs.length) (hm : m = xs.length)
    (hn' : n ≤ 9223372036854775807) (hm' : m ≤ 9223372036854775807) (ih : AllI hs) (ix : AllI xs) :
    Gives Try.prog 30 #[.slice A n c, .slice B m d] w fun v w' => ∃ u, v = .tuple #[u, .int .i64 (argE (foldOk hs xs))] ∧ OwnI w' w.heap.size u (foldV hs xs) ∧ Below w.heap.size w w' :=
  gives_of Try.call30 (fixed_Fold A B n m c d hs xs w ha hb hn hm hn' hm' ih ix) fun e w' ⟨u, h1, h2, h3⟩ => ⟨_, h1, u, rfl, h2, h3⟩
theorem g_Tails (A : Option Addr) (n c : Nat) (hs : List Int) (w : World) (ha : Rd w .i64 A hs) (hn : n = hs.length) (hn' : n ≤ 9223372036854775807) (ih : AllI hs) :
    Gives Try.prog 73 #[.slice A n c] w fun v w' => ∃ u, v = .tuple #[u, .int .i64 (argE (rowB hs))] ∧ OwnI w' w.heap.size u (tailsV hs) ∧ Below w.heap.size w w' :=
  gives_of Try.call73 (fixed_Tails A n c hs w ha hn hn' ih) fun e w' ⟨u, h1, h2, h3⟩ => ⟨_, h1, u, rfl, h2, h3⟩

end Go.Proofs.Ytpjmiafefammkaa

/- Rows of the table of types. -/
namespace Go.Proofs.Ytpjmiafefammkaa
theorem ti_int : TyInfo Try.prog 3 (.int .i64 0) 1 8 := by unfold TyInfo; kernel_rfl
theorem ti_u8 : TyInfo Try.prog 5 (.int .u8 0) 1 1 := by unfold TyInfo; kernel_rfl
end Go.Proofs.Ytpjmiafefammkaa

/- Layer 7, plain: the sums as functions on bits; they are linear. No program in sight. -/
namespace Go.Proofs.Ytpjmiafefammkaa
open Go.RowKit

def crcPoly : BitVec 32 := 0xEDB88320#32
def crcRnd (s : BitVec 32) : BitVec 32 := (s >>> 1) ^^^ (crcPoly &&& -(s &&& 1#32))
def crcRnds : Nat → BitVec 32 → BitVec 32
  | 0, s => s
  | k + 1, s => crcRnd (crcRnds k s)
def crcTab (n : Nat) : BitVec 32 := crcRnds 8 (BitVec.ofNat 32 n)
def crcStep (s : BitVec 32) (z : Int) : BitVec 32 := (s >>> 8) ^^^ crcTab (s.setWidth 8 ^^^ BitVec.ofInt 8 z).toNat
def crcRun (s : BitVec 32) (zs : List Int) : BitVec 32 := zs.foldl crcStep s
def crcGo (s : BitVec 32) (zs : List Int) : BitVec 32 := ~~~ crcRun (~~~ s) zs
def crcOf (parts : List (List Int)) : BitVec 32 := ~~~ parts.foldl crcRun (~~~ 0#32)

theorem crc_neg (s : BitVec 32) : -(s &&& 1#32) = if s.getLsbD 0 then BitVec.allOnes 32 else 0#32 := by
  have h : s &&& 1#32 = if s.getLsbD 0 then 1#32 else 0#32 := by
    apply BitVec.eq_of_getLsbD_eq
    intro i hi
    by_cases h0 : i = 0
    · subst h0
      cases hs : s.getLsbD 0 <;> simp at hs ⊢ <;> simp [hs]
    · have h1 : (1#32).getLsbD i = false := by simp [BitVec.getLsbD_one, h0]
      simp only [BitVec.getLsbD_and, h1, Bool.and_false]
      split <;> simp [h1]
  rw [h]
  split <;> decide
theorem crcRnd_eq (s : BitVec 32) : crcRnd s = (s >>> 1) ^^^ (if s.getLsbD 0 then crcPoly else 0#32) := by
  unfold crcRnd
  rw [crc_neg]
  split
  · rw [show crcPoly &&& BitVec.allOnes 32 = crcPoly from by decide]
  · rw [show crcPoly &&& 0#32 = 0#32 from by decide]
theorem xor_lc (a b c : BitVec 32) : a ^^^ (b ^^^ c) = b ^^^ (a ^^^ c) := by rw [← BitVec.xor_assoc, BitVec.xor_comm a b, BitVec.xor_assoc]
theorem xor_cc (a b : BitVec 32) : a ^^^ (a ^^^ b) = b := by rw [← BitVec.xor_assoc]; simp
theorem crcRnd_xor (a b : BitVec 32) : crcRnd (a ^^^ b) = crcRnd a ^^^ crcRnd b := by
  rw [crcRnd_eq, crcRnd_eq, crcRnd_eq, BitVec.ushiftRight_xor_distrib, BitVec.getLsbD_xor]
  generalize a >>> 1 = x
  generalize b >>> 1 = y
  cases a.getLsbD 0 <;> cases b.getLsbD 0 <;> simp [BitVec.xor_assoc]
  · rw [BitVec.xor_comm]
  · rw [BitVec.xor_comm y, xor_cc]
theorem crcRnds_xor (k : Nat) (a b : BitVec 32) : crcRnds k (a ^^^ b) = crcRnds k a ^^^ crcRnds k b := by
  induction k with
  | zero => rfl
  | succ k ih => simp only [crcRnds, ih, crcRnd_xor]
theorem crcRnds_zero (k : Nat) : crcRnds k 0#32 = 0#32 := by
  induction k with
  | zero => rfl
  | succ k ih => simp only [crcRnds, ih]; decide
/-- rounds that take out noughts shift -/
theorem crcRnds_shift (k : Nat) : ∀ s : BitVec 32, (∀ i, i < k → s.getLsbD i = false) → crcRnds k s = s >>> k := by
  induction k with
  | zero => intro s _; simp [crcRnds]
  | succ k ih =>
    intro s h
    simp only [crcRnds]
    rw [ih s (fun i hi => h i (by omega)), crcRnd_eq]
    have : (s >>> k).getLsbD 0 = false := by simpa using h k (by omega)
    rw [this]
    simp [← BitVec.shiftRight_add]
theorem crcStep_rnds (s : BitVec 32) (z : Int) : crcStep s z = crcRnds 8 (s ^^^ BitVec.setWidth 32 (BitVec.ofInt 8 z)) := by
  have h : s ^^^ BitVec.setWidth 32 (BitVec.ofInt 8 z) = ((s >>> 8) <<< 8) ^^^ BitVec.setWidth 32 (s.setWidth 8 ^^^ BitVec.ofInt 8 z) := by
    apply BitVec.eq_of_getLsbD_eq
    intro i hi
    simp only [BitVec.getLsbD_xor, BitVec.getLsbD_setWidth, BitVec.getLsbD_shiftLeft, BitVec.getLsbD_ushiftRight, hi, decide_true, Bool.true_and]
    by_cases h8 : i < 8
    · simp [h8]
    · simp [h8, show 8 + (i - 8) = i by omega]
  rw [h, crcRnds_xor, crcRnds_shift 8 _ (fun i hi => by simp [hi])]
  unfold crcStep crcTab
  congr 1
  · apply BitVec.eq_of_getLsbD_eq
    intro i hi
    simp only [BitVec.getLsbD_ushiftRight, BitVec.getLsbD_shiftLeft]
    by_cases h1 : 8 + i < 32
    · simp [h1]
    · simp [h1]; exact BitVec.getLsbD_of_ge _ _ (by omega)
  · congr 1
    apply BitVec.eq_of_toNat_eq
    simp [BitVec.toNat_setWidth, BitVec.toNat_ofNat]
theorem crcStep_xor (a b : BitVec 32) (x y z : Int) (h : BitVec.ofInt 8 z = BitVec.ofInt 8 x ^^^ BitVec.ofInt 8 y) : crcStep (a ^^^ b) z = crcStep a x ^^^ crcStep b y := by
  rw [crcStep_rnds, crcStep_rnds, crcStep_rnds, ← crcRnds_xor, h]
  congr 1
  rw [BitVec.setWidth_xor]
  generalize BitVec.setWidth 32 (BitVec.ofInt 8 x) = u
  generalize BitVec.setWidth 32 (BitVec.ofInt 8 y) = v
  rw [BitVec.xor_assoc, BitVec.xor_assoc, xor_lc b u v]
theorem crcRun_xor : ∀ (xs ys zs : List Int) (a b : BitVec 32), xs.length = ys.length → zs.length = xs.length → (∀ i, i < xs.length → BitVec.ofInt 8 (zs.getD i 0) = BitVec.ofInt 8 (xs.getD i 0) ^^^ BitVec.ofInt 8 (ys.getD i 0)) →
    crcRun (a ^^^ b) zs = crcRun a xs ^^^ crcRun b ys
  | [], ys, zs, a, b, h1, h2, _ => by
    have e1 : ys = [] := List.eq_nil_of_length_eq_zero (by simpa using h1.symm)
    have e2 : zs = [] := List.eq_nil_of_length_eq_zero (by simpa using h2)
    subst e1; subst e2; rfl
  | x :: xs, [], zs, a, b, h1, _, _ => by simp at h1
  | x :: xs, y :: ys, [], a, b, _, h2, _ => by simp at h2
  | x :: xs, y :: ys, z :: zs, a, b, h1, h2, h => by
    have h0 := h 0 (by simp)
    simp at h0
    have ih := crcRun_xor xs ys zs (crcStep a x) (crcStep b y) (by simpa using h1) (by simpa using h2) fun i hi => by have := h (i + 1) (by simpa using hi); simpa using this
    show crcRun (crcStep (a ^^^ b) z) zs = crcRun (crcStep a x) xs ^^^ crcRun (crcStep b y) ys
    rw [crcStep_xor a b x y z h0, ih]
theorem crcRun_app (s : BitVec 32) (a b : List Int) : crcRun s (a ++ b) = crcRun (crcRun s a) b := by simp [crcRun]
theorem crcOf_one (a : List Int) : crcOf [a] = crcGo 0#32 a := rfl
/-- the law's sums -/
theorem crcOf_parts (xs : List Int) {lo hi : Nat} (h : lo ≤ hi) : crcOf [xs.take lo, (xs.drop lo).take (hi - lo), [], xs.drop hi] = crcOf [xs] := by
  unfold crcOf
  simp only [List.foldl_cons, List.foldl_nil]
  rw [← crcRun_app, ← crcRun_app, ← crcRun_app]
  have : xs.take lo ++ ((xs.drop lo).take (hi - lo) ++ ([] ++ xs.drop hi)) = xs := by
    rw [List.nil_append]
    have h2 : (xs.drop lo).take (hi - lo) ++ xs.drop hi = xs.drop lo := by
      have : xs.drop hi = (xs.drop lo).drop (hi - lo) := by rw [List.drop_drop]; congr 1; omega
      rw [this, List.take_append_drop]
    rw [h2, List.take_append_drop]
  rw [this]
theorem crcGo_parts (xs : List Int) (lo : Nat) : crcGo (crcOf [xs.take lo]) (xs.drop lo) = crcOf [xs] := by
  unfold crcGo crcOf
  simp only [List.foldl_cons, List.foldl_nil]
  rw [BitVec.not_not, ← crcRun_app, List.take_append_drop]
theorem not_xor (a b : BitVec 32) : ~~~ a ^^^ ~~~ b = a ^^^ b := by
  apply BitVec.eq_of_getLsbD_eq
  intro i hi
  simp [hi]
theorem crcOf_diff (xs ys ds zs : List Int) (h1 : xs.length = ys.length) (h2 : ds.length = xs.length) (h3 : zs.length = xs.length) (hd : ∀ i, i < xs.length → BitVec.ofInt 8 (ds.getD i 0) = BitVec.ofInt 8 (xs.getD i 0) ^^^ BitVec.ofInt 8 (ys.getD i 0))
    (hz : ∀ i, i < xs.length → zs.getD i 0 = 0) : crcOf [xs] ^^^ crcOf [ys] = crcOf [ds] ^^^ crcOf [zs] := by
  unfold crcOf
  simp only [List.foldl_cons, List.foldl_nil]
  rw [not_xor, not_xor, ← crcRun_xor xs ys ds _ _ h1 h2 hd, ← crcRun_xor ds zs ds _ _ (by omega) rfl fun i hi => by rw [hz i (by omega)]; simp]
end Go.Proofs.Ytpjmiafefammkaa

/- The rules of operations on 32 bits and on bytes, as functions on bits. No program in sight. -/
namespace Go.Proofs.Ytpjmiafefammkaa
open Go.RowKit
set_option linter.unusedVariables false

theorem u32_of (x : BitVec 32) : BitVec.ofInt 32 (x.toNat : Int) = x := by rw [BitVec.ofInt_natCast]; simp
theorem u32_fit (x : BitVec 32) : IntKind.u32.wrap (x.toNat : Int) = x.toNat := by rw [IntKind.wrap_u32]; have := x.isLt; omega
theorem u8_of (x : BitVec 8) : BitVec.ofInt 8 (x.toNat : Int) = x := by rw [BitVec.ofInt_natCast]; simp
theorem u8_fit (x : BitVec 8) : IntKind.u8.wrap (x.toNat : Int) = x.toNat := by rw [IntKind.wrap_u8]; have := x.isLt; omega
theorem u8_int {z : Int} (h0 : 0 ≤ z) (h1 : z ≤ 255) : ((BitVec.ofInt 8 z).toNat : Int) = z := by
  rw [BitVec.toNat_ofInt]; simp; omega
theorem u32_int {z : Int} (h0 : 0 ≤ z) (h1 : z ≤ 4294967295) : ((BitVec.ofInt 32 z).toNat : Int) = z := by
  rw [BitVec.toNat_ofInt]; simp; omega

section
variable {P : Program} {n : Cx} {fr : Fr} {w : World} {ty : TypeId} {x y z : Operand} {m p : Int} {T T2 : TypeId} {k2 : IntKind}
theorem os_xor32 (a b : BitVec 32) (hx : Fr.ev fr x = some (.int .u32 m)) (hm : m = (a.toNat : Int)) (hy : Fr.ev fr y = some (.int .u32 p)) (hp : p = (b.toNat : Int)) : OS P n (.binOp .xor T x y T2) ty fr w (.int .u32 ((a ^^^ b).toNat : Int)) w :=
  os_xor hx hy (by subst hm; subst hp; show IntKind.u32.wrap ((BitVec.ofInt 32 _ ^^^ BitVec.ofInt 32 _).toNat : Nat) = _; rw [u32_of, u32_of]; exact u32_fit _)
theorem os_and32 (a b : BitVec 32) (hx : Fr.ev fr x = some (.int .u32 m)) (hm : m = (a.toNat : Int)) (hy : Fr.ev fr y = some (.int .u32 p)) (hp : p = (b.toNat : Int)) : OS P n (.binOp .and T x y T2) ty fr w (.int .u32 ((a &&& b).toNat : Int)) w :=
  os_and hx hy (by subst hm; subst hp; show IntKind.u32.wrap ((BitVec.ofInt 32 _ &&& BitVec.ofInt 32 _).toNat : Nat) = _; rw [u32_of, u32_of]; exact u32_fit _)
theorem os_shr32 (a : BitVec 32) (s : Nat) (hx : Fr.ev fr x = some (.int .u32 m)) (hm : m = (a.toNat : Int)) (hy : Fr.ev fr y = some (.int k2 p)) (hp : p = (s : Int)) : OS P n (.binOp .shr T x y T2) ty fr w (.int .u32 ((a >>> s).toNat : Int)) w :=
  os_shr hx hy (by omega) (by
    subst hm; subst hp
    show (a.toNat : Int).fdiv (2 ^ min ((s : Int)).toNat 32) = _
    have e : ((s : Int)).toNat = s := by omega
    rw [e, BitVec.toNat_ushiftRight, Nat.shiftRight_eq_div_pow, Int.fdiv_eq_ediv_of_nonneg _ (by exact_mod_cast Nat.zero_le _)]
    by_cases h : s ≤ 32
    · rw [Nat.min_eq_left h]; simp
    · rw [Nat.min_eq_right (by omega)]
      have h1 : a.toNat / 2 ^ s = 0 := Nat.div_eq_of_lt (Nat.lt_of_lt_of_le a.isLt (Nat.pow_le_pow_right (by omega) (by omega)))
      have h2 : a.toNat / 2 ^ 32 = 0 := Nat.div_eq_of_lt a.isLt
      rw [h1]
      have : ((a.toNat : Int) / 2 ^ 32) = ((a.toNat / 2 ^ 32 : Nat) : Int) := by simp
      rw [this, h2])
theorem os_neg32 (a : BitVec 32) (hx : Fr.ev fr x = some (.int .u32 m)) (hm : m = (a.toNat : Int)) : OS P n (.unOp .neg T x) ty fr w (.int .u32 ((-a).toNat : Int)) w :=
  os_neg hx (by subst hm; rw [IntKind.wrap_u32, BitVec.toNat_neg]; have := a.isLt; simp; omega)
theorem os_com32 (a : BitVec 32) (hx : Fr.ev fr x = some (.int .u32 m)) (hm : m = (a.toNat : Int)) : OS P n (.unOp .xor T x) ty fr w (.int .u32 ((~~~ a).toNat : Int)) w :=
  os_com hx (by
    subst hm
    show IntKind.u32.wrap ((BitVec.ofInt 32 4294967295 ^^^ BitVec.ofInt 32 _).toNat : Nat) = _
    rw [u32_of, show BitVec.ofInt 32 4294967295 = BitVec.allOnes 32 from by decide, BitVec.allOnes_xor]; exact u32_fit _)
theorem os_xor8 (a b : BitVec 8) (hx : Fr.ev fr x = some (.int .u8 m)) (hm : m = (a.toNat : Int)) (hy : Fr.ev fr y = some (.int .u8 p)) (hp : p = (b.toNat : Int)) : OS P n (.binOp .xor T x y T2) ty fr w (.int .u8 ((a ^^^ b).toNat : Int)) w :=
  os_xor hx hy (by subst hm; subst hp; show IntKind.u8.wrap ((BitVec.ofInt 8 _ ^^^ BitVec.ofInt 8 _).toNat : Nat) = _; rw [u8_of, u8_of]; exact u8_fit _)
/-- a byte of 32 bits -/
theorem os_low8 (a : BitVec 32) (h1 : P.underlying T = some (.int .u32)) (h2 : P.underlying T2 = some (.int .u8)) (hx : Fr.ev fr x = some (.int .u32 m)) (hm : m = (a.toNat : Int)) : OS P n (.convert T T2 x) ty fr w (.int .u8 ((a.setWidth 8).toNat : Int)) w :=
  os_conv h1 h2 hx (by subst hm; rw [IntKind.wrap_u8, BitVec.toNat_setWidth]; simp)
end
end Go.Proofs.Ytpjmiafefammkaa

/- Layer 7: the contracts of the program's sums. -/
namespace Go.Proofs.Ytpjmiafefammkaa
open Go.RowKit
set_option linter.unusedVariables false

section
variable {P : Program} {n : Cx} {fr : Fr} {w : World} {ty : TypeId} {x y : Operand} {m : Int} {T e : TypeId} {k : IntKind} {v : Value}
theorem os_ixa {g i l : Nat} (hT : P.underlying T = some (.array l e)) (hs : ∀ w, (sizeOf e).run P w = .ok 1 w) (hx : Fr.ev fr x = some (.pointer (some ⟨g, 0, none⟩))) (hy : Fr.ev fr y = some (.int k m)) (hm : m = (i : Int)) (h : i < l) : OS P n (.indexAddr T x y) ty fr w (.pointer (some ⟨g, 0 + i, none⟩)) w := by
  subst hm
  exact os_of fun a ha => by simp [execOp, ha.ev hx, ha.ev hy, Instr.indexAt, asIntOf, run_underlying hT, Instr.sureAddr, h, hs, addr_add]
theorem os_allocB {zc : Array Value} {cs : List Value} (hz : ∀ w, (zeroValue T).run P w = .ok (.agg zc) w) (he : zc = cs.toArray) : OS P n (.alloc T) ty fr w (.pointer (some ⟨w.heap.size, 0, none⟩)) (w.alloc (.cells cs.toArray T)) := by
  subst he
  exact os_alloc hz
end

section
variable {P : Program} {n : Cx} {fr : Fr} {w : World} {fn : Func} {U : Value → World → Prop} {t g : Nat} {T e : TypeId} {cs : List Value} {d : TypeDesc}
/-- a named result that lies in memory -/
theorem post_cell (hf : fn.results = #[.cell t T]) (hg : Fr.get fr t = some (.pointer (some ⟨g, 0, none⟩))) (hu : P.underlying T = some d) (hd : (match d with | .struct _ | .array _ _ => true | _ => false) = true) (hs : (P.info? T).map (·.size) = some cs.length) (hB : Bk w g cs e) (h : U (.agg cs.toArray) w) : Post P n fn U .ret fr w := by
  unfold Post
  refine ⟨_, fun a ha => ?_, h⟩
  have := run_loadVar_row (P := P) w g e T cs.toArray (0, 0) d hB hu hd (by simpa using hs)
  have h1 : a.tmps.getD t undef = .pointer (some ⟨g, 0, none⟩) := by simp [Array.getD_eq_getD_getElem?, ha.at_ t _ hg]
  simp only [Array.getD_eq_getD_getElem?] at h1
  simp [results, hf, h1, asAddr, this]
end

/-- lists of lists -/
def RdS (w : World) (k : IntKind) (A : Option Addr) (ls : List (List Int)) : Prop :=
  0 < ls.length → ∃ b off, A = some ⟨b, off, none⟩ ∧ ∀ i, i < ls.length → ∃ Ai ci, w.cell? ⟨b, off + i, none⟩ = some (.slice Ai (ls.getD i []).length ci) ∧ Rd w k Ai (ls.getD i []) ∧ (ls.getD i []).length ≤ ci ∧ (ls.getD i []).length ≤ 140737488351232
theorem RdS.nil {w k A} : RdS w k A [] := fun h => absurd h (by simp)
theorem RdS.at_ {w k A ls} (h : RdS w k A ls) {i : Nat} (hi : i < ls.length) : ∃ b off Ai ci, A = some ⟨b, off, none⟩ ∧ w.cell? ⟨b, off + i, none⟩ = some (.slice Ai (ls.getD i []).length ci) ∧ Rd w k Ai (ls.getD i []) ∧ (ls.getD i []).length ≤ ci ∧ (ls.getD i []).length ≤ 140737488351232 := by
  obtain ⟨b, off, e, hc⟩ := h (by omega)
  obtain ⟨Ai, ci, h1⟩ := hc i hi
  exact ⟨b, off, Ai, ci, e, h1⟩
theorem RdS.keep {w w' : World} {k A ls} (h : RdS w k A ls) (hb : Below w.heap.size w w') : RdS w' k A ls := by
  intro hl
  obtain ⟨b, off, e, hc⟩ := h hl
  refine ⟨b, off, e, fun i hi => ?_⟩
  obtain ⟨Ai, ci, h1, h2, h3, h4⟩ := hc i hi
  have := World.block_lt_of_cell? w ⟨b, off + i, none⟩ h1
  exact ⟨Ai, ci, (hb.cell (p := ⟨b, off + i, none⟩) this).trans h1, h2.keep hb, h3, h4⟩
theorem RdS.led {w w' : World} {k A ls} (h : RdS w k A ls) (hb : LeD w w') : RdS w' k A ls := by obtain ⟨q, rfl⟩ := hb; exact h

def crcCellsTo (k : Nat) : List Value := (List.range 256).map fun n => if n < k then .int .u32 ((crcTab n).toNat : Int) else .int .u32 0
def crcCells : List Value := crcCellsTo 256
theorem crcCellsTo_len (k : Nat) : (crcCellsTo k).length = 256 := by simp [crcCellsTo]
theorem crcCellsTo_set (k : Nat) (hk : k < 256) : (crcCellsTo k).set k (.int .u32 ((crcTab k).toNat : Int)) = crcCellsTo (k + 1) := by
  apply List.ext_getElem
  · simp [crcCellsTo]
  · intro i h1 h2
    rw [List.getElem_set]
    simp only [crcCellsTo, List.getElem_map, List.getElem_range]
    by_cases h : k = i
    · subst h; simp
    · rw [if_neg h]
      by_cases h3 : i < k
      · rw [if_pos h3, if_pos (by omega)]
      · rw [if_neg h3, if_neg (by omega)]
theorem crcCells_at {i : Nat} (hi : i < 256) : nthV crcCells i = some (.int .u32 ((crcTab i).toNat : Int)) := by
  rw [nthV_eq]
  simp [crcCells, crcCellsTo, hi]
theorem crcCellsTo_some (k : Nat) {i : Nat} (hi : i < 256) : ∃ v, nthV (crcCellsTo k) i = some v := by
  rw [nthV_eq]
  exact ⟨_, List.getElem?_eq_getElem (by rw [crcCellsTo_len]; exact hi)⟩
theorem crcCells_one : oneCells crcCells = true := by
  have : ∀ l : List Value, (∀ v ∈ l, v.oneCell' = true) → oneCells l = true := by
    intro l
    induction l with
    | nil => intro _; rfl
    | cons v r ih => intro h; simp only [oneCells, Bool.and_eq_true]; exact ⟨h v (by simp), ih fun u hu => h u (by simp [hu])⟩
  refine this _ fun v hv => ?_
  simp only [crcCells, crcCellsTo, List.mem_map] at hv
  obtain ⟨n, _, rfl⟩ := hv
  split <;> rfl
/-- each number is a byte -/
def AllB (zs : List Int) : Prop := ∀ z ∈ zs, 0 ≤ z ∧ z ≤ 255
theorem AllB.at_ {zs : List Int} (h : AllB zs) (k : Nat) : 0 ≤ zs.getD k 0 ∧ zs.getD k 0 ≤ 255 := by
  by_cases hk : k < zs.length
  · simp [hk]; exact h _ (List.getElem_mem _)
  · simp [hk]
theorem crcRun_take {s : BitVec 32} {zs : List Int} {k : Nat} (hk : k < zs.length) : crcRun s (zs.take (k + 1)) = crcStep (crcRun s (zs.take k)) (zs.getD k 0) := by
  rw [List.take_succ_eq_append_getElem hk, crcRun_app]
  simp [crcRun, hk]

end Go.Proofs.Ytpjmiafefammkaa
