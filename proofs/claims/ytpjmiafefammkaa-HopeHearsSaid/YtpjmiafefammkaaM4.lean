/- Texts joined: FixD Back Tails FixQ KitA FixE KitS FixG Ap Kb. -/
import Derived.Test.YtpjmiafefammkaaM3
import Derived.RangeFuncBox
import Derived.RangeFuncNested
import Derived.RangeFuncBound
import Derived.RangeFuncCalls
import Derived.RangeFuncLeaves
import Derived.Shelf.Abstract
import Derived.Shelf.RegionOpen
import Derived.WalkKit
import Derived.OwnWalkIn
import Derived.TacticsInMore
import Derived.LoopNIn
import Derived.LoopIn
import Derived.Test.YtpjmiafefammkaaProg
import Derived.Maps.AppendAt
/- Layer 23: Fold. -/
namespace Go.Proofs.Ytpjmiafefammkaa
open Go.RowKit

def foldOk (h x : List Int) : Bool := rowB h && rowB x && decide (h.length = x.length)
def foldG (x : List Int) (k : Nat) (n : Int) : Int := blendW n (x.getD k 0)
def foldL (h x : List Int) : List Int := mapK (foldG x) h
def foldV (h x : List Int) : List Int := if foldOk h x then foldL h x else []

theorem rowB_at {zs : List Int} (h : rowB zs = true) {k : Nat} (hk : k < zs.length) : 0 ≤ zs.getD k 0 ∧ zs.getD k 0 ≤ 65536 := by
  unfold rowB at h
  simp only [Bool.and_eq_true, Bool.not_eq_true', List.any_eq_false] at h
  have := h.2 zs[k] (List.getElem_mem _)
  simp at this
  simp [hk]
  exact isB_iff.1 this
theorem rowB_len {zs : List Int} (h : rowB zs = true) : 0 < zs.length ∧ zs.length ≤ 256 := by
  unfold rowB at h
  simp at h
  exact ⟨by have := h.1.1; cases zs <;> simp_all, h.1.2⟩

set_option maxHeartbeats 400000 in
theorem fixed_Fold_fn (k : Nat) (n : Int) (Bx : Nat) (A : Option Addr) (m c : Nat) (xs : List Int) (w : World) (hbox : w.cell? ⟨Bx, 0, none⟩ = some (.slice A m c)) (ha : Rd w .i64 A xs) (hm : m = xs.length) (hm' : m ≤ 256) (hk : k < m)
    (h0 : 0 ≤ n) (h1 : n ≤ 65536) (hr : rowB xs = true) :
    Calls Try.prog 69 #[.int .i64 k, .int .i64 n, .pointer (some ⟨Bx, 0, none⟩)] w fun e w' => e = .returned (.int .i64 (foldG xs k n)) ∧ ∃ q, w' = w.drewN q := by
  have hx := rowB_at hr (k := k) (by omega)
  obtain ⟨b1, o1, rfl, hc1⟩ := ha.at_ (i := k) (by omega)
  have HR := Lib.hid hr; have HM := Lib.hid hm; have HX := Lib.hid hx; clear hr hm hx
  go_enter Try.func69, Try.ntmps69
  go_wp2_with (fail)
  refine (fixed_blend n _ _ h0 h1 HX.out.1 HX.out.2).mono ?_
  rintro e w' ⟨rfl, rfl⟩
  go_wp2_with (fail)
  go_ret
  exact ⟨rfl, 0, rfl⟩

theorem enters_fold_fn : Enters Try.prog 69 := enters_of Try.func69 (by kernel_rfl) rfl

set_option maxHeartbeats 1000000 in
theorem fixed_Fold (A B : Option Addr) (n m c d : Nat) (hs xs : List Int) (w : World) (ha : Rd w .i64 A hs) (hb : Rd w .i64 B xs) (hn : n = hs.length) (hm : m = xs.length)
    (hn' : n ≤ 9223372036854775807) (hm' : m ≤ 9223372036854775807) (ih : AllI hs) (ix : AllI xs) :
    Calls Try.prog 30 #[.slice A n c, .slice B m d] w fun e w' => ∃ v, e = .returned (.tuple #[v, .int .i64 (argE (foldOk hs xs))]) ∧ OwnI w' w.heap.size v (foldV hs xs) ∧ Below w.heap.size w w' := by
  have iH := Lib.hid ih; have iX := Lib.hid ix; have HN := Lib.hid hn; have HM := Lib.hid hm; clear ih ix hn hm
  have ha1 := ha.alloc (.cells #[.slice B m d] 40)
  have hb1 := hb.alloc (.cells #[.slice B m d] 40)
  have hbel : Below w.heap.size w (w.alloc (.cells #[.slice B m d] 40)) := (Below.refl _ w).alloc (Nat.le_refl _) _
  cases r1 : rowB hs
  · have hv : foldV hs xs = [] := by simp [foldV, foldOk, r1]
    have he : argE (foldOk hs xs) = 2 := by simp [foldOk, r1, argE]
    rw [hv, he]; clear hv he
    have R1 := Lib.hid r1; clear r1
    go_enter Try.func30, Try.ntmps30
    go_wp2_with (fail)
    refine (fixed_row A n c hs _ ha1 HN.out hn' iH.out).mono ?_
    rintro e w' ⟨rfl, q, rfl⟩
    rw [R1.out]
    go_wp2_with (fail)
    go_ret2
    exact ⟨_, rfl, OwnI.nil _ _, below_drewN_ hbel _⟩
  · cases r2 : rowB xs
    · have hv : foldV hs xs = [] := by simp [foldV, foldOk, r2]
      have he : argE (foldOk hs xs) = 2 := by simp [foldOk, r2, argE]
      rw [hv, he]; clear hv he
      have R1 := Lib.hid r1; have R2 := Lib.hid r2; clear r1 r2
      go_enter Try.func30, Try.ntmps30
      go_wp2_with (fail)
      refine (fixed_row A n c hs _ ha1 HN.out hn' iH.out).mono ?_
      rintro e w' ⟨rfl, q, rfl⟩
      rw [R1.out]
      go_wp2_with (fail)
      refine (fixed_row B m d xs _ (hb1.drewN q) HM.out hm' iX.out).mono ?_
      rintro e w' ⟨rfl, q2, rfl⟩
      rw [R2.out]
      go_wp2_with (fail)
      go_ret2
      exact ⟨_, rfl, OwnI.nil _ _, below_drewN_ hbel _⟩
    · by_cases hl : n = m
      · have hlen : hs.length = xs.length := by rw [← HN.out, ← HM.out]; exact hl
        have hv : foldV hs xs = foldL hs xs := by simp [foldV, foldOk, r1, r2, hlen]
        have he : argE (foldOk hs xs) = 0 := by simp [foldOk, r1, r2, hlen, argE]
        rw [hv, he]; clear hv he hlen
        subst hl
        have hn256 : n ≤ 256 := by have := rowB_len r1; rw [← HN.out] at this; exact this.2
        have R1 := Lib.hid r1; have R2 := Lib.hid r2; clear r1 r2
        go_enter Try.func30, Try.ntmps30
        go_wp2_with (fail)
        refine (fixed_row A n c hs _ ha1 HN.out hn' iH.out).mono ?_
        rintro e w' ⟨rfl, q, rfl⟩
        rw [R1.out]
        go_wp2_with (fail)
        refine (fixed_row B n d xs _ (hb1.drewN q) HM.out hm' iX.out).mono ?_
        rintro e w' ⟨rfl, q2, rfl⟩
        rw [R2.out]
        go_wp2_with (fail)
        refine (fixed_made A n c hs _ #[.pointer (some ⟨w.heap.size, 0, none⟩)] (foldG xs) _ enters_fold_fn (ha1.drewN (q + q2)) HN.out (by omega) ?_).mono ?_
        · intro k wx hk hbx
          have hk' : k < n := by rw [HN.out]; exact hk
          have hb0 := rowB_at R1.out hk
          refine fixed_Fold_fn k _ w.heap.size B n d xs wx ?_ ?_ HM.out hn256 hk' hb0.1 hb0.2 R2.out
          · exact (hbx.cell (p := ⟨w.heap.size, 0, none⟩) (by simp)).trans (cell_one_alloc w _ _)
          · exact (hb1.drewN (q + q2)).keep hbx
        · rintro e w2 ⟨v, rfl, hown, hb2⟩
          go_wp2_with (fail)
          go_ret2
          refine ⟨_, rfl, ?_, ?_⟩
          · exact hown.mono (by simp)
          · exact (below_drewN_ hbel _).trans (hb2.mono (by simp))
      · have hlen : ¬ hs.length = xs.length := by rw [← HN.out, ← HM.out]; exact hl
        have hv : foldV hs xs = [] := by simp [foldV, foldOk, hlen]
        have he : argE (foldOk hs xs) = 2 := by simp [foldOk, hlen, argE]
        rw [hv, he]; clear hv he hlen
        have hd : ((n : Int) != (m : Int)) = true := by simp; omega
        have R1 := Lib.hid r1; have R2 := Lib.hid r2; clear r1 r2
        go_enter Try.func30, Try.ntmps30
        go_wp2_with (fail)
        refine (fixed_row A n c hs _ ha1 HN.out hn' iH.out).mono ?_
        rintro e w' ⟨rfl, q, rfl⟩
        rw [R1.out]
        go_wp2_with (fail)
        refine (fixed_row B m d xs _ (hb1.drewN q) HM.out hm' iX.out).mono ?_
        rintro e w' ⟨rfl, q2, rfl⟩
        rw [R2.out]
        go_wp2_with (fail)
        go_ret2
        exact ⟨_, rfl, OwnI.nil _ _, below_drewN_ hbel _⟩
end Go.Proofs.Ytpjmiafefammkaa

/- slices.Backward at []int: the iterator's contract: all places from the last one to the first one; or a part of them. -/
namespace Go.Proofs.Ytpjmiafefammkaa
open Go.RowKit Go.Shelf

attribute [local go_sem] Oper.semAt_some

/-- a call that ranges over a function is walked at a fence that is a variable -/
theorem wide_gen {P : Program} {f : FuncId} {args : Array Value} {w : World} {R : Ending → World → Prop}
    (h : ∀ F : Fence, F.round = none → (∀ f, F.fn f) → (∀ (n : Nat) (g : FuncId) (as' : Array Value) (w' : World) (R' : Ending → World → Prop), Calls P g as' w' R' → CallsIn F n P g as' w' R') → CallsIn F 5 P f args w R) : Calls P f args w R :=
  callsIn_wide.1 (h Fence.wide rfl (fun _ => trivial) (fun _ _ _ _ _ hc => callsIn_wide.2 hc))

/-- the blocks of T lie as they lay -/
def KeepT (T : Nat → Prop) (W W' : World) : Prop := W.heap.size ≤ W'.heap.size ∧ ∀ k, T k → W'.heap[k]? = W.heap[k]?
theorem KeepT.refl (T : Nat → Prop) (W : World) : KeepT T W W := ⟨Nat.le_refl _, fun _ _ => rfl⟩
theorem KeepT.trans {T : Nat → Prop} {A B C : World} (h : KeepT T A B) (k : KeepT T B C) : KeepT T A C := ⟨Nat.le_trans h.1 k.1, fun i hi => (k.2 i hi).trans (h.2 i hi)⟩
theorem KeepT.cell {T : Nat → Prop} {W W' : World} (h : KeepT T W W') {p : Addr} (hp : T p.block) : W'.cell? p = W.cell? p := World.cell?_of_block (h.2 _ hp)
theorem KeepT.grown {T : Nat → Prop} {A W W' : World} {row : Option Nat} (h : KeepT T A W) (hg : W.grownBy W' row) (hT : ∀ k, T k → k < W.heap.size) (hr : ∀ k, row = some k → ¬ T k) : KeepT T A W' :=
  h.trans ⟨hg.size, fun k hk => hg.block k (hT k hk) (fun e => hr k e.symm hk)⟩
theorem keepT_b {T : Nat → Prop} {w : World} (hT : ∀ k, T k → k < w.heap.size) (W : World) (l : Nat) (o o' : Obj) (hl : w.heap.size ≤ l) (h : W.heap[l]? = some o) (_ : o.isCells = false) (_ : o.isWalk = false) : KeepT T W (W.putObj l o') := by
  have hlt := (Array.getElem?_eq_some_iff.1 h).1
  exact (KeepT.refl T W).grown (grownBy_putObj' W l o') (fun k hk => by have := hT k hk; omega) (fun k e hk => by cases e; have := hT _ hk; omega)
theorem KeepT.setCell {T : Nat → Prop} {A W : World} (h : KeepT T A W) {p : Addr} (hp : ¬ T p.block) (u : Value) : KeepT T A (W.setCell p u) :=
  h.trans ⟨by simp [World.setCell], fun k hk => Below.heap_setCell _ _ _ _ (fun e => hp (e ▸ hk))⟩

/-- a place of a list of n -/
abbrev Below_ (n : Nat) := { j : Nat // j < n }
/-- what has come when k rounds are over: the places n - 1, .., n - k -/
def downTo (n k : Nat) : List Nat := (List.range k).map fun j => n - 1 - j
theorem downTo_succ (n k : Nat) : downTo n (k + 1) = downTo n k ++ [n - 1 - k] := by simp [downTo, List.range_succ]
theorem downTo_length (n k : Nat) : (downTo n k).length = k := by simp [downTo]
def encAt (zs : List Int) (n : Nat) (x : Below_ n) : Array Value := #[Value.int .i64 (x.1 : Int), Value.int .i64 (zs[x.1]?.getD 0)]

set_option maxRecDepth 100000 in
set_option maxHeartbeats 2000000 in
theorem back1_in (F : Fence) (nf : Nat) (h7 : F.fn 141) (hro : F.round = none) (hn : 1 ≤ nf) (l Bs : Nat) (T : Nat → Prop) (A : Option Addr) (n c : Nat) (zs : List Int) (hreach : n ≤ 1152921504606846976) (hA : ∀ b off, A = some ⟨b, off, none⟩ → T b)
    (hnz : n = zs.length) (J Jx : List (Below_ n) → World → Prop)
    (hY : ∀ pre x W, J pre W → pre.length < n → YieldAt F (nf - 1) Try.prog l (encAt zs n x) W fun e W' =>
      (e = .returned (.bool true) ∧ J (pre ++ [x]) W' ∧ KeepT T W W') ∨ (e = .returned (.bool false) ∧ Jx (pre ++ [x]) W'))
    (W : World) (hBs : W.cell? ⟨Bs, 0, none⟩ = some (.slice A n c)) (hBn : T Bs) (ha : Rd W .i64 A zs) (h0 : J [] W) :
    CallsIn F nf Try.prog 141 #[.func (.yield l) #[] #[], .pointer (some ⟨Bs, 0, none⟩)] W fun e W' => (∃ v, e = .returned v) ∧
      ((∃ ys, ys.map (·.1) = downTo n n ∧ J ys W') ∨ (∃ pre, (∃ k, k ≤ n ∧ pre.map (·.1) = downTo n k) ∧ Jx pre W')) := by
  have HZ := Lib.hid hnz; clear hnz
  refine callsIn_of_wp Try.func141 rfl h7 ?_ hro
  simp only [Try.ntmps141, List.size_toArray, List.length_cons, List.length_nil, Nat.reduceAdd, Nat.reduceSub, Array.replicate_succ, Array.replicate_zero, List.push_toArray, List.append_toArray, List.nil_append, List.cons_append]
  gi_wp2
  gi_loopw [3] (fun i wr => ∃ k : Nat, k ≤ n ∧ i = .int .i64 ((n : Int) - 1 - k) ∧ (∃ pre : List (Below_ n), pre.map (·.1) = downTo n k ∧ J pre wr) ∧ KeepT T W wr)
    (fun i _ => (intOf i + 1).toNat)
  case atStart => exact ⟨0, Nat.zero_le _, by simp, ⟨[], rfl, h0⟩, KeepT.refl _ _⟩
  case round =>
    obtain ⟨k, hk, rfl, ⟨pre, hpre, hJs⟩, hnx⟩ := hrel
    have HP := Lib.hid hpre; clear hpre
    by_cases hlt : k < n
    · obtain ⟨j, hj⟩ : ∃ j, j + k + 1 = n := ⟨n - k - 1, by omega⟩
      obtain ⟨b1, o1, rfl, hc1⟩ := ha.at_ (i := j) (by rw [← HZ.out]; omega)
      have hb1 := hA b1 o1 rfl
      have hc2 := (hnx.cell (p := ⟨b1, o1 + j, none⟩) hb1).trans hc1
      have hc3 := (hnx.cell (p := ⟨Bs, 0, none⟩) hBn).trans hBs
      have hjn : j < n := by omega
      have hy0 := hY pre ⟨j, hjn⟩ wr hJs (by have := congrArg List.length HP.out; rw [List.length_map, downTo_length] at this; omega)
      have hs : (pre ++ [(⟨j, hjn⟩ : Below_ n)]).map (·.1) = downTo n (k + 1) := by
        rw [downTo_succ, List.map_append, HP.out, show n - 1 - k = j by omega]; rfl
      have HS := Lib.hid hs; clear hs
      obtain ⟨fn, tmps, assign, body, hy, hR⟩ := hy0
      simp only [encAt] at hy
      rw [show ((n : Int) - 1 - k) = (j : Int) by omega]
      have HJ := Lib.hid hj; clear hj hlt
      gi_wp2
      refine hR.mono ?_
      rintro e W3 (⟨rfl, hJ3, hk3⟩ | ⟨rfl, hJx3⟩)
      · gi_wp2
        go_roundw
        case rel => exact ⟨k + 1, by have := HJ.out; omega, by have := HJ.out; congr 1; omega, ⟨_, HS.out, hJ3⟩, hnx.trans hk3⟩
        case measure => simp [intOf]
      · gi_wp2
        refine bodyPost_ret (results_none rfl _ _ _) rfl ?_
        exact ⟨⟨_, rfl⟩, .inr ⟨_, ⟨k + 1, by have := HJ.out; omega, HS.out⟩, hJx3⟩⟩
    · obtain rfl : k = n := by omega
      gi_wp2
      go_end0
      exact ⟨⟨_, rfl⟩, .inl ⟨_, HP.out, hJs⟩⟩

set_option maxHeartbeats 1000000 in
theorem back_in (F : Fence) (nf : Nat) (h5 : F.fn 112) (hro : F.round = none) (a : Option Addr) (len cap : Nat) (w : World) :
    CallsIn F nf Try.prog 112 #[.slice a len cap] w fun e w' => e = .returned (.func (.func 141) #[] #[.pointer (some ⟨w.heap.size, 0, none⟩)]) ∧ w' = w.alloc (.cells #[.slice a len cap] 40) := by
  refine callsIn_of_wp Try.func112 rfl h5 ?_ hro
  simp only [Try.ntmps112, List.size_toArray, List.length_cons, List.length_nil, Nat.reduceAdd, Nat.reduceSub, Array.replicate_succ, Array.replicate_zero, List.push_toArray, List.append_toArray, List.nil_append, List.cons_append]
  gi_wp2
  go_ret
  exact ⟨rfl, rfl⟩

theorem back_stops (F : Fence) (nf : Nat) (h8 : F.fn 141) (hro : F.round = none) (hn : 1 ≤ nf) (Bs : Nat) (T : Nat → Prop) (A : Option Addr) (n c : Nat) (zs : List Int) (hreach : n ≤ 1152921504606846976) (w : World) (hBn : T Bs) (hBs : Bs < w.heap.size)
    (hc : w.cell? ⟨Bs, 0, none⟩ = some (.slice A n c)) (hnz : n = zs.length) (ha : Rd w .i64 A zs) (hA : ∀ b off, A = some ⟨b, off, none⟩ → T b) :
    SeqStopsK F nf Try.prog 141 #[.pointer (some ⟨Bs, 0, none⟩)] (encAt zs n) (KeepT T) (fun ys => ys.map (·.1) = downTo n n)
      (fun pre => ∃ k, k ≤ n ∧ pre.map (·.1) = downTo n k) n w := fun l J Jx W hW _ _ hY h0 => by
  have hc' := (hW.cell (p := ⟨Bs, 0, none⟩) hBs).trans hc
  exact back1_in F nf h8 hro hn l Bs T A n c zs hreach hA hnz J Jx hY W hc' hBn (ha.keep hW) h0
end Go.Proofs.Ytpjmiafefammkaa

/- Layer 23: Tails. -/
namespace Go.Proofs.Ytpjmiafefammkaa
open Go.RowKit Go.Shelf

attribute [local go_sem] Oper.semAt_some

def tStep (hs : List Int) (st : Int × List Int) (j : Nat) : Int × List Int := (st.1 + hs[j]?.getD 0, st.2.set j (min (st.1 + hs[j]?.getD 0) 65536))
def tFold (hs : List Int) (pre : List Nat) : Int × List Int := pre.foldl (tStep hs) (0, hs)
theorem tFold_snoc (hs : List Int) (pre : List Nat) (j : Nat) : tFold hs (pre ++ [j]) = tStep hs (tFold hs pre) j := by simp [tFold]
theorem tFold_len (hs : List Int) (pre : List Nat) : (tFold hs pre).2.length = hs.length := by
  refine snoc_ind (P := fun pre => (tFold hs pre).2.length = hs.length) rfl (fun l j ih => ?_) pre
  rw [tFold_snoc]; simp [tStep, ih]
theorem tFold_bd {hs : List Int} (hr : rowB hs = true) (pre : List Nat) : (∀ j ∈ pre, j < hs.length) → 0 ≤ (tFold hs pre).1 ∧ (tFold hs pre).1 ≤ pre.length * 65536 := by
  refine snoc_ind (P := fun pre => (∀ j ∈ pre, j < hs.length) → 0 ≤ (tFold hs pre).1 ∧ (tFold hs pre).1 ≤ pre.length * 65536) (fun _ => by simp [tFold]) (fun l j ih hp => ?_) pre
  have h1 := ih (fun i hi => hp i (by simp [hi]))
  have h2 := rowB_at hr (hp j (by simp))
  rw [tFold_snoc]
  simp only [tStep, List.length_append, List.length_singleton, List.getD_eq_getElem?_getD] at *
  omega

/-- the tails, as the loop makes them -/
def tailsL (hs : List Int) : List Int := (tFold hs (downTo hs.length hs.length)).2
def tailsV (hs : List Int) : List Int := if rowB hs then tailsL hs else []

set_option maxHeartbeats 400000 in
theorem fixed_Tails_fn (k : Int) (n : Int) (w : World) : Calls Try.prog 111 #[.int .i64 k, .int .i64 n] w fun e w' => e = .returned (.int .i64 n) ∧ ∃ q, w' = w.drewN q := by
  go_enter Try.func111, Try.ntmps111
  go_wp2_with (fail)
  go_ret
  exact ⟨rfl, 0, rfl⟩
theorem enters_tails_fn : Enters Try.prog 111 := enters_of Try.func111 (by kernel_rfl) rfl

theorem mapK_id (zs : List Int) : mapK (fun _ n => n) zs = zs := by unfold mapK; exact List.mapIdx_eq_iff.2 (fun i => by simp)

set_option maxRecDepth 100000 in
set_option maxHeartbeats 2000000 in
theorem fixed_Tails (A : Option Addr) (n c : Nat) (hs : List Int) (w : World) (ha : Rd w .i64 A hs) (hn : n = hs.length) (hn' : n ≤ 9223372036854775807) (ih : AllI hs) :
    Calls Try.prog 73 #[.slice A n c] w fun e w' => ∃ v, e = .returned (.tuple #[v, .int .i64 (argE (rowB hs))]) ∧ OwnI w' w.heap.size v (tailsV hs) ∧ Below w.heap.size w w' := by
  have HN := Lib.hid hn; have iH := Lib.hid ih; clear hn ih
  cases r1 : rowB hs
  · have hv : tailsV hs = [] := by simp [tailsV, r1]
    rw [hv]; clear hv
    have R1 := Lib.hid r1; clear r1
    go_enter Try.func73, Try.ntmps73
    go_wp2_with (fail)
    refine (fixed_row A n c hs _ ha HN.out hn' iH.out).mono ?_
    rintro e w' ⟨rfl, q, rfl⟩
    rw [R1.out]
    go_wp2_with (fail)
    go_ret2
    exact ⟨_, rfl, OwnI.nil _ _, below_drewN_ (Below.refl _ _) _⟩
  · have hv : tailsV hs = tailsL hs := by simp [tailsV, r1]
    have he : argE true = 0 := rfl
    rw [hv, he]; clear hv he
    have hn256 : n ≤ 256 ∧ 0 < n := by have := rowB_len r1; rw [← HN.out] at this; exact ⟨this.2, this.1⟩
    obtain ⟨hn256, hn0⟩ := hn256
    have R1 := Lib.hid r1; clear r1
    refine wide_gen fun F hro hfn hcw => ?_
    refine callsIn_of_wp_marks Try.func73 rfl (hfn _) ?_ hro
    simp only [Try.ntmps73, List.size_toArray, List.length_cons, List.length_nil, Nat.reduceAdd, Nat.reduceSub, Array.replicate_succ, Array.replicate_zero, List.push_toArray, List.append_toArray, List.nil_append, List.cons_append]
    gi_wp2_with (gi_at_call 67; refine (hcw _ _ _ _ _ (fixed_row A n c hs _ ha HN.out hn' iH.out)).mono ?_; rintro e w' ⟨rfl, q, rfl⟩; rw [R1.out])

    refine (hcw _ _ _ _ _ (fixed_made A n c hs _ #[] (fun _ n => n) _ enters_tails_fn (ha.drewN q) HN.out (by omega) (fun k wx hk _ => fixed_Tails_fn _ _ _))).mono ?_
    rintro e w1 ⟨v, rfl, hown, hb⟩
    rw [mapK_id] at hown
    have hb0 : Below w.heap.size w w1 := (below_drewN_ (Below.refl _ w) q).trans hb
    have hsz0 := hb0.size
    obtain ⟨g, c1, rfl, hg0, hg1, hnc1, hown0⟩ := hown.row HN.out hn0
    clear hb hown
    gi_wp2_with (gi_at_call 112; refine (back_in F _ (hfn _) hro _ _ _ _).mono ?_; rintro e w' ⟨rfl, rfl⟩)
    obtain ⟨s1, hs1⟩ : ∃ s1, s1 = w1.heap.size := ⟨_, rfl⟩
    rw [← hs1]
    have hs1' : w1.heap.size = s1 := hs1.symm
    have bO := Boxed.new w1 40 (.slice (some ⟨g, 0, none⟩) n c1)
    have bS := Boxed.new (w1.alloc (.cells #[.slice (some ⟨g, 0, none⟩) n c1] 40)) 3 (.int .i64 0)
    have bN := Boxed.new ((w1.alloc (.cells #[.slice (some ⟨g, 0, none⟩) n c1] 40)).alloc (.cells #[.int .i64 0] 3)) 40 (.slice A n c)
    rw [World.size_alloc, hs1'] at bS
    rw [World.size_alloc, World.size_alloc, hs1'] at bN
    rw [hs1'] at bO
    have hbW : Below w.heap.size w (((w1.alloc (.cells #[.slice (some ⟨g, 0, none⟩) n c1] 40)).alloc (.cells #[.int .i64 0] 3)).alloc (.cells #[.slice A n c] 40)) := ((hb0.alloc hsz0 _).alloc (by simp; omega) _).alloc (by simp; omega) _
    have hrA : ∀ b off, A = some ⟨b, off, none⟩ → b < w.heap.size := fun b off e => by
      obtain ⟨b', off', e', hlt⟩ := ha.lt (by rw [← HN.out]; exact hn0)
      rw [e] at e'; cases e'; exact hlt
    have hsl : w.heap.size ≤ s1 := by omega
    have hgs : g < s1 := by omega
    have hg0 : w.heap.size ≤ g := hg0
    have hs1le : w1.heap.size ≤ s1 := by omega
    have hs1ge : s1 ≤ w1.heap.size := by omega
    have HS1 := Lib.hid hs1'; clear hs1 hs1'
    refine wpIn_rangeFunc_ownG hro (by decide) (gf := 141) (lb := #[.pointer (some ⟨s1 + 1 + 1, 0, none⟩)]) rfl (hfn _) (enters_of Try.func141 (by kernel_rfl) rfl)
      (back_stops F _ (hfn _) hro (by decide) (s1 + 1 + 1) (fun k => k < w.heap.size ∨ k = s1 + 1 + 1) A n c hs (by omega) _ (.inr rfl) (by simp; omega) bN.cell HN.out (ha.keep hbW) (fun b off e => .inl (hrA b off e))) KeepT.trans (keepT_b (by rintro k (hk | rfl) <;> simp <;> omega)) (Below.refl _ _) (fun _ => rfl)
      (fun pre W => ((W.cell? ⟨s1, 0, none⟩ = some (.slice (some ⟨g, 0, none⟩) n c1)) ∧ (W.cell? ⟨s1 + 1, 0, none⟩ = some (.int .i64 (tFold hs (pre.map (·.1))).1) ∧ W.frozen? ⟨s1 + 1, 0, none⟩ = false) ∧
        W.ownsRow w.heap.size 3 1 (.slice (some ⟨g, 0, none⟩) n c1) n ((tFold hs (pre.map (·.1))).2.map (Value.int .i64))) ∧ Below w.heap.size w W)
      (fun _ _ _ => False)
      ?own (fun _ _ _ _ _ hs _ _ => hs) ?start
      (fun x => { tmps := #[.slice A n c, undef, .slice none 0 0, .int .i64 0, .pointer (some ⟨s1, 0, none⟩), .pointer (some ⟨s1 + 1, 0, none⟩), .int .i64 (x.1 : Int), .int .i64 (hs[x.1]?.getD 0), .slice A n c, .bool true, .bool false, .slice A n c, .slice (some ⟨g, 0, none⟩) n c1, .slice A n c, .func (.func 141) #[] #[.pointer (some ⟨s1 + 1 + 1, 0, none⟩)], .int .i64 (x.1 : Int), .int .i64 (hs[x.1]?.getD 0), undef, undef, undef, undef, undef, undef, undef, undef, undef], defers := [] })
      ?assign ?body ?done ?stop
    case own => exact OwnFrom.and (Own.from (fun s A B row hs hg hr => ⟨cell_kept hs.1 hg hr, ⟨cell_kept hs.2.1.1 hg hr, (frozen_kept hs.2.1.1 hg hr).trans hs.2.1.2⟩, own_turned hs.2.2 hg hr⟩) _) (ownFrom_below (Nat.le_refl _) (by simp; omega))
    case start => exact ⟨⟨((bO.alloc _).alloc _).cell, ⟨(bS.alloc _).cell, (bS.alloc _).frozen⟩, World.ownsRow.alloc (World.ownsRow.alloc (World.ownsRow.alloc hown0 _) _) _⟩, hbW⟩
    case assign =>
      intro l x W K hK
      unfold encAt
      gi_wp2
      exact hK
    case body =>
      rintro l pre x W ⟨⟨hc, ⟨hsm, hfz⟩, hrow⟩, hB⟩ hpl
      have hxv := rowB_at R1.out (k := x.1) (by rw [← HN.out]; exact x.2)
      obtain ⟨hx1, hx2⟩ := hxv
      have hbd := tFold_bd R1.out (pre.map (·.1)) (by intro j hj; rw [List.mem_map] at hj; obtain ⟨y, _, rfl⟩ := hj; rw [← HN.out]; exact y.2)
      obtain ⟨hbd1, hbd2⟩ := hbd
      simp only [List.length_map, List.getD_eq_getElem?_getD] at hbd2 hx1 hx2
      have hmap : (pre ++ [x]).map (·.1) = pre.map (·.1) ++ [x.1] := by simp
      have hlenP : (tFold hs (pre.map (·.1))).2.length = n := by rw [tFold_len, HN.out]
      have HM := Lib.hid hmap; clear hmap
      have hPP := HM.out
      clear HM
      generalize hP : pre.map (·.1) = P at *
      have HM := Lib.hid hPP; clear hPP hP
      have HLP := Lib.hid hlenP; clear hlenP
      obtain ⟨xi, hxn⟩ := x
      dsimp only at *
      obtain ⟨y, hcell⟩ : ∃ y, W.cell? ⟨g, xi, none⟩ = some (.int .i64 y) := by
        have h1 : xi < (tFold hs P).2.length := by rw [HLP.out]; exact hxn
        exact ⟨_, by rw [World.ownsRow.cellAt hrow xi (by omega), List.getElem?_map, List.getElem?_eq_getElem h1]; rfl⟩
      have hfr := World.ownsRow.frozenAt hrow xi
      have hst := World.ownsRow.stored (ownsRow_setCell_other hrow (a := ⟨s1 + 1, 0, none⟩) (by simp; omega) (.int .i64 ((tFold hs P).1 + hs[xi]?.getD 0))) xi (.int .i64 (min ((tFold hs P).1 + hs[xi]?.getD 0) 65536))
      have HST := Lib.hid hst; clear hst
      have HRow := Lib.hid hrow; clear hrow
      have hsz := hB.size
      have hsnoc := tFold_snoc hs P xi
      have HSN := Lib.hid hsnoc; clear hsnoc
      generalize hS : (tFold hs P).1 = S at *
      have HS := Lib.hid hS; clear hS
      generalize hV : hs[xi]?.getD 0 = V at *
      have HV := Lib.hid hV; clear hV
      gi_wp2
      all_goals
        rename_i hcase
        have h2 := HST.out
        first | rw [show min (S + V) 65536 = 65536 by omega] at h2 | rw [show min (S + V) 65536 = S + V by omega] at h2
        refine ⟨((KeepsOthers.setCell _ _ _).trans (KeepsOthers.setCell _ _ _)).from _, ((KeepT.refl _ W).setCell (by simp; omega) _).setCell (by simp; omega) _, ?_⟩
        change ((_ ∧ (World.cell? _ _ = some (.int .i64 (tFold hs ((pre ++ [(⟨xi, hxn⟩ : Below_ n)]).map (fun x : Below_ n => x.1))).1) ∧ _) ∧ World.ownsRow _ _ _ _ _ _ (((tFold hs ((pre ++ [(⟨xi, hxn⟩ : Below_ n)]).map (fun x : Below_ n => x.1))).2).map _)) ∧ _)
        rw [HM.out, HSN.out]
        simp only [tStep, HS.out, HV.out]
        refine ⟨⟨?_, ⟨?_, ?_⟩, ?_⟩, (hB.setCell (by simp; omega) _).setCell (by simp; omega) _⟩
        · go_simp
        · go_simp
        · go_simp
        · first | rw [show min (S + V) 65536 = 65536 by omega] | rw [show min (S + V) 65536 = S + V by omega]
          rw [List.map_set]
          exact h2.1
    case done =>
      rintro D ys W hD hys ⟨⟨hc, ⟨hsm, hfz⟩, hrow⟩, hB⟩ hK
      gi_wp2
      refine ⟨by simp, .inl ⟨_, _, rfl, run_takeDeferred hK, ?_⟩⟩
      refine ⟨_, results_tmp2 rfl _ _ _, _, rfl, ?_, hB.trans (belowK_b (w := w) (Nat.le_refl _) W D _ _ (by simp at hD; omega) hK rfl rfl)⟩
      rw [hys] at hrow
      have ht := own_turned hrow (grownBy_putObj' W D (.deferred none)) (fun r e => by cases e; exact ⟨_, hK, rfl⟩)
      have hl : (tailsL hs).length = n := by unfold tailsL; rw [tFold_len, HN.out]
      unfold OwnI
      rw [hl]
      unfold tailsL
      rw [← HN.out]
      exact ht
    case stop =>
      rintro D c pre W _ _ h _
      exact h.elim
end Go.Proofs.Ytpjmiafefammkaa

/- Layer 23, plain laws: what tails are; sums of folds; folding a hundred times. No program in sight. -/
namespace Go.Proofs.Ytpjmiafefammkaa

def tailAt (hs : List Int) (k : Nat) : Int := min (hs.drop k).sum 65536

theorem sum_drop (hs : List Int) {k : Nat} (hk : k < hs.length) : (hs.drop k).sum = hs[k]?.getD 0 + (hs.drop (k + 1)).sum := by
  have h1 : hs[k]?.getD 0 = hs[k] := by simp [hk]
  rw [h1, List.drop_eq_getElem_cons hk, List.sum_cons]

theorem tFold_down (hs : List Int) : ∀ k, k ≤ hs.length → (tFold hs (downTo hs.length k)).1 = (hs.drop (hs.length - k)).sum ∧
    ∀ j, hs.length - k ≤ j → j < hs.length → (tFold hs (downTo hs.length k)).2[j]? = some (tailAt hs j) := by
  intro k
  induction k with
  | zero => intro _; exact ⟨by simp [downTo, tFold], fun j h1 h2 => by omega⟩
  | succ k ih =>
    intro hk
    obtain ⟨i1, i2⟩ := ih (by omega)
    have hs1 := sum_drop hs (k := hs.length - 1 - k) (by omega)
    rw [show hs.length - 1 - k + 1 = hs.length - k by omega] at hs1
    have hl := tFold_len hs (downTo hs.length k)
    rw [downTo_succ, tFold_snoc]
    simp only [tStep]
    rw [show hs.length - (k + 1) = hs.length - 1 - k by omega]
    refine ⟨by rw [i1, hs1]; omega, fun j h1 h2 => ?_⟩
    by_cases hj : j = hs.length - 1 - k
    · subst hj
      rw [List.getElem?_set_self (by omega)]
      unfold tailAt
      rw [i1, hs1, Int.add_comm]
    · rw [List.getElem?_set_ne (fun e => hj e.symm)]
      exact i2 j (by omega) h2

theorem tailsL_len (hs : List Int) : (tailsL hs).length = hs.length := by unfold tailsL; rw [tFold_len]

theorem tailsL_at (hs : List Int) {k : Nat} (hk : k < hs.length) : (tailsL hs)[k]? = some (tailAt hs k) := by
  unfold tailsL
  exact (tFold_down hs hs.length (Nat.le_refl _)).2 k (by omega) hk

theorem rowB_mem {hs : List Int} (hr : rowB hs = true) : ∀ z ∈ hs, 0 ≤ z ∧ z ≤ 65536 := by
  intro z hz
  obtain ⟨k, hk, rfl⟩ := List.mem_iff_getElem.1 hz
  have := rowB_at hr hk
  simpa [hk] using this

theorem sum_nonneg {hs : List Int} (h : ∀ z ∈ hs, 0 ≤ z) : 0 ≤ hs.sum := by
  induction hs with
  | nil => simp
  | cons x l ih => simp only [List.sum_cons]; have := h x (by simp); have := ih (fun z hz => h z (by simp [hz])); omega

theorem sum_le_mul {hs : List Int} (h : ∀ z ∈ hs, z ≤ 65536) : hs.sum ≤ hs.length * 65536 := by
  induction hs with
  | nil => simp
  | cons x l ih => simp only [List.sum_cons, List.length_cons]; have := h x (by simp); have := ih (fun z hz => h z (by simp [hz])); omega

/-- what the law's loop asks of each place -/
theorem tail_place {hs : List Int} (hr : rowB hs = true) {k : Nat} (hk : k < hs.length) :
    0 ≤ tailAt hs k ∧ tailAt hs k ≤ 65536 ∧ tailAt hs (k + 1) ≤ tailAt hs k ∧ 0 ≤ tailAt hs (k + 1) ∧ (tailAt hs k < 65536 → tailAt hs k = tailAt hs (k + 1) + hs[k]?.getD 0) ∧ (tailAt hs k = 65536 → 65536 ≤ tailAt hs (k + 1) + hs[k]?.getD 0) := by
  have h1 := sum_drop hs hk
  have h2 := rowB_at hr hk
  have h3 : 0 ≤ (hs.drop (k + 1)).sum := sum_nonneg fun z hz => (rowB_mem hr z (List.mem_of_mem_drop hz)).1
  simp only [List.getD_eq_getElem?_getD] at h2
  unfold tailAt
  omega

theorem tailAt_end (hs : List Int) {k : Nat} (hk : hs.length ≤ k) : tailAt hs k = 0 := by
  unfold tailAt; rw [List.drop_eq_nil_of_le hk]; decide

/-! ### folds -/
theorem foldL_len (hs xs : List Int) : (foldL hs xs).length = hs.length := mapK_length
theorem foldL_at (hs xs : List Int) {k : Nat} (hk : k < hs.length) : (foldL hs xs)[k]?.getD 0 = blendW (hs[k]?.getD 0) (xs[k]?.getD 0) := by
  unfold foldL mapK foldG
  simp [hk, List.getD_eq_getElem?_getD]

theorem rowB_mk {zs : List Int} (h0 : 0 < zs.length) (h1 : zs.length ≤ 256) (h2 : ∀ k, k < zs.length → 0 ≤ zs[k]?.getD 0 ∧ zs[k]?.getD 0 ≤ 65536) : rowB zs = true := by
  unfold rowB
  simp only [Bool.and_eq_true, decide_eq_true_eq, Bool.not_eq_true', List.any_eq_false]
  refine ⟨⟨h0, h1⟩, fun z hz => ?_⟩
  obtain ⟨k, hk, rfl⟩ := List.mem_iff_getElem.1 hz
  have := h2 k hk
  simp [hk] at this
  simp [isB_yes this.1 this.2]

theorem foldL_row {hs xs : List Int} (h1 : rowB hs = true) (h2 : rowB xs = true) (hl : hs.length = xs.length) : rowB (foldL hs xs) = true := by
  have a := rowB_len h1
  refine rowB_mk (by rw [foldL_len]; exact a.1) (by rw [foldL_len]; exact a.2) fun k hk => ?_
  rw [foldL_len] at hk
  rw [foldL_at hs xs hk]
  have b1 := rowB_at h1 hk
  have b2 := rowB_at h2 (k := k) (by omega)
  simp only [List.getD_eq_getElem?_getD] at b1 b2
  exact blendW_bd b1.1 b1.2 b2.1 b2.2

theorem foldV_ok {hs xs : List Int} (h1 : rowB hs = true) (h2 : rowB xs = true) (hl : hs.length = xs.length) : foldV hs xs = foldL hs xs ∧ foldOk hs xs = true := by
  have : foldOk hs xs = true := by simp [foldOk, h1, h2, hl]
  exact ⟨by simp [foldV, this], this⟩

theorem foldL_sum (hs : List Int) : ∀ (xs : List Int), hs.length = xs.length → 8 * (foldL hs xs).sum ≤ 7 * hs.sum + xs.sum := by
  induction hs with
  | nil => intro xs h; cases xs <;> simp_all [foldL, mapK]
  | cons h l ih =>
    intro xs hl
    cases xs with
    | nil => simp at hl
    | cons x m =>
      have := ih m (by simpa using hl)
      have e : foldL (h :: l) (x :: m) = blendW h x :: foldL l m := by
        unfold foldL mapK foldG
        simp [List.mapIdx_cons, List.getD_eq_getElem?_getD]
      rw [e]
      simp only [List.sum_cons]
      have : 8 * blendW h x ≤ 7 * h + x := by unfold blendW; omega
      omega

theorem foldL_self (hs : List Int) {k : Nat} (hk : k < hs.length) : (foldL hs hs)[k]?.getD 0 = hs[k]?.getD 0 := by
  rw [foldL_at hs hs hk]; unfold blendW; omega

/-- folded with the same row so many times -/
def foldN (xs : List Int) : Nat → List Int → List Int
  | 0, hs => hs
  | k + 1, hs => foldL (foldN xs k hs) xs
theorem foldN_len (xs hs : List Int) (k : Nat) : (foldN xs k hs).length = hs.length := by
  induction k with
  | zero => rfl
  | succ k ih => rw [foldN, foldL_len, ih]
theorem foldN_row {xs hs : List Int} (h1 : rowB hs = true) (h2 : rowB xs = true) (hl : hs.length = xs.length) (k : Nat) : rowB (foldN xs k hs) = true := by
  induction k with
  | zero => exact h1
  | succ k ih => exact foldL_row ih h2 (by rw [foldN_len]; exact hl)

/-- a number's way: from below (so much less), from above (so much more) -/
def down8 : Nat → Int → Int
  | 0, d => d
  | k + 1, d => down8 k d - down8 k d / 8
def up8 : Nat → Int → Int
  | 0, d => d
  | k + 1, d => up8 k d - (up8 k d + 7) / 8
theorem down8_mono (k : Nat) : ∀ d e : Int, 0 ≤ d → d ≤ e → 0 ≤ down8 k d ∧ down8 k d ≤ down8 k e := by
  induction k with
  | zero => intro d e h1 h2; exact ⟨h1, h2⟩
  | succ k ih => intro d e h1 h2; have := ih d e h1 h2; simp only [down8]; omega
theorem up8_mono (k : Nat) : ∀ d e : Int, 0 ≤ d → d ≤ e → 0 ≤ up8 k d ∧ up8 k d ≤ up8 k e := by
  induction k with
  | zero => intro d e h1 h2; exact ⟨h1, h2⟩
  | succ k ih => intro d e h1 h2; have := ih d e h1 h2; simp only [up8]; omega
theorem down8_end : down8 100 65536 = 7 := by decide +kernel
theorem up8_end : up8 100 65536 = 0 := by decide +kernel

theorem foldN_at (xs hs : List Int) {j : Nat} (hj : j < hs.length) (k : Nat) :
    (hs[j]?.getD 0 ≤ xs[j]?.getD 0 → xs[j]?.getD 0 - (foldN xs k hs)[j]?.getD 0 = down8 k (xs[j]?.getD 0 - hs[j]?.getD 0)) ∧
    (xs[j]?.getD 0 ≤ hs[j]?.getD 0 → (foldN xs k hs)[j]?.getD 0 - xs[j]?.getD 0 = up8 k (hs[j]?.getD 0 - xs[j]?.getD 0)) := by
  induction k with
  | zero => exact ⟨fun _ => rfl, fun _ => rfl⟩
  | succ k ih =>
    have e := foldL_at (foldN xs k hs) xs (k := j) (by rw [foldN_len]; exact hj)
    refine ⟨fun h => ?_, fun h => ?_⟩
    · have i1 := ih.1 h
      have := (down8_mono k _ _ (show 0 ≤ xs[j]?.getD 0 - hs[j]?.getD 0 by omega) (Int.le_refl _)).1
      simp only [foldN, down8, ← i1]
      rw [e]; unfold blendW; omega
    · have i1 := ih.2 h
      have := (up8_mono k _ _ (show 0 ≤ hs[j]?.getD 0 - xs[j]?.getD 0 by omega) (Int.le_refl _)).1
      simp only [foldN, up8, ← i1]
      rw [e]; unfold blendW; omega

/-- after a hundred times -/
theorem foldN_hundred {xs hs : List Int} (h1 : rowB hs = true) (h2 : rowB xs = true) (hl : hs.length = xs.length) {j : Nat} (hj : j < hs.length) :
    (foldN xs 100 hs)[j]?.getD 0 ≤ xs[j]?.getD 0 ∧ xs[j]?.getD 0 - (foldN xs 100 hs)[j]?.getD 0 ≤ 7 ∧ (foldN xs 101 hs)[j]?.getD 0 = (foldN xs 100 hs)[j]?.getD 0 := by
  have a1 := rowB_at h1 hj
  have a2 := rowB_at h2 (k := j) (by omega)
  simp only [List.getD_eq_getElem?_getD] at a1 a2
  obtain ⟨i1, i2⟩ := foldN_at xs hs hj 100
  have e := foldL_at (foldN xs 100 hs) xs (k := j) (by rw [foldN_len]; exact hj)
  have key : (foldN xs 100 hs)[j]?.getD 0 ≤ xs[j]?.getD 0 ∧ xs[j]?.getD 0 - (foldN xs 100 hs)[j]?.getD 0 ≤ 7 := by
    rcases Int.le_total (hs[j]?.getD 0) (xs[j]?.getD 0) with h | h
    · have := i1 h
      have m := down8_mono 100 (xs[j]?.getD 0 - hs[j]?.getD 0) 65536 (by omega) (by omega)
      rw [down8_end] at m
      omega
    · have := i2 h
      have m := up8_mono 100 (hs[j]?.getD 0 - xs[j]?.getD 0) 65536 (by omega) (by omega)
      rw [up8_end] at m
      omega
  refine ⟨key.1, key.2, ?_⟩
  show (foldL (foldN xs 100 hs) xs)[j]?.getD 0 = _
  rw [e]; unfold blendW; omega
theorem foldN_hundred_k {k : Nat} (hk : k = 100) {xs hs : List Int} (h1 : rowB hs = true) (h2 : rowB xs = true) (hl : hs.length = xs.length) {j : Nat} (hj : j < hs.length) :
    (foldN xs k hs)[j]?.getD 0 ≤ xs[j]?.getD 0 ∧ xs[j]?.getD 0 - (foldN xs k hs)[j]?.getD 0 ≤ 7 ∧ (foldL (foldN xs k hs) xs)[j]?.getD 0 = (foldN xs k hs)[j]?.getD 0 := by
  subst hk; exact foldN_hundred h1 h2 hl hj
end Go.Proofs.Ytpjmiafefammkaa

/- The statements' own helpers (hourglasskit): lists held against each other. -/
namespace Go.Proofs.Ytpjmiafefammkaa
open Go.RowKit

set_option maxHeartbeats 400000 in
theorem same_ints (A B : Option Addr) (n m c d : Nat) (xs ys : List Int) (w : World) (ha : Rd w .i64 A xs) (hb : Rd w .i64 B ys) (hn : n = xs.length) (hm : m = ys.length)
   (hn' : n ≤ 9223372036854775807) (hm' : m ≤ 9223372036854775807) :
    Calls Try.prog 26 #[.slice A n c, .slice B m d] w fun e w' => e = .returned (.bool (decide (xs = ys))) ∧ ∃ q, w' = w.drewN q := by
  by_cases hlen : n = m
  · subst hlen
    have H1 := Lib.hid hn; have H2 := Lib.hid hm; clear hn hm
    go_enter Try.func26, Try.ntmps26
    go_wp2_with (fail)
    go_loopw [5] (fun i wr => ∃ k : Nat, k ≤ n ∧ i = .int .i64 k ∧ xs.take k = ys.take k ∧ ∃ q, wr = w.drewN q) (fun i wr => n - (intOf i).toNat)
    case atStart => exact ⟨0, by omega, rfl, rfl, 0, rfl⟩
    case round =>
      obtain ⟨k, hk, rfl, htk, q, rfl⟩ := hrel
      have Htk := Lib.hid htk; clear htk
      by_cases hlt : k < n
      · obtain ⟨b1, o1, rfl, hc1⟩ := ha.at_ (i := k) (by rw [← H1.out]; exact hlt)
        obtain ⟨b2, o2, rfl, hc2⟩ := hb.at_ (i := k) (by rw [← H2.out]; exact hlt)
        go_wp2_with (fail)
        go_quiet (fail)
        go_wp2_with (fail)
        · go_ret
          exact ⟨ret_bool (decide_eq_false (ne_of_getD 0 (ne_of_bne (by assumption)))).symm, drew_ex⟩
        · go_roundw
          case rel => exact ⟨k + 1, by omega, by go_num, take_succ_eq H1.out H2.out hlt Htk.out 0 (by simp_all), _, rfl⟩
          case measure => simp [intOf]; omega
      · obtain rfl : k = n := by omega
        go_wp2_with (fail)
        go_ret
        exact ⟨ret_bool (decide_eq_true (eq_of_take H1.out H2.out Htk.out)).symm, q, rfl⟩
  · have hd : ((n : Int) != (m : Int)) = true := by simp; omega
    have H1 := Lib.hid hn; have H2 := Lib.hid hm; clear hn hm
    go_enter Try.func26, Try.ntmps26
    go_wp2_with (fail)
    go_ret
    exact ⟨ret_bool (decide_eq_false (fun h => hlen (by rw [H1.out, H2.out, h]))).symm, 0, rfl⟩
end Go.Proofs.Ytpjmiafefammkaa

/- Layer 23: awake, and the walks of FixedParts, FixedBlends. -/
namespace Go.Proofs.Ytpjmiafefammkaa
open Go.RowKit

theorem rd_lit3 (w : World) (x y z : Int) (t : TypeId) : Rd (w.alloc (.cells #[.int .i64 x, .int .i64 y, .int .i64 z] t)) .i64 (some ⟨w.heap.size, 0, none⟩) [x, y, z] := fun _ =>
  ⟨w.heap.size, 0, rfl, fun i hi => by
    rw [Nat.zero_add, cell_of_row _ w.heap.size i _ t (0, 0) (heap_alloc_new w _)]
    match i, hi with
    | 0, _ => rfl
    | 1, _ => rfl
    | 2, _ => rfl⟩

theorem allI_lit3 : AllI [1, 2, 3] := by intro z hz; simp at hz; rcases hz with rfl | rfl | rfl <;> exact ⟨by decide, by decide⟩

end Go.Proofs.Ytpjmiafefammkaa

/- The statements' own helpers: lists held against each other. -/
namespace Go.Proofs.Ytpjmiafefammkaa
open Go.RowKit
set_option linter.unusedVariables false

theorem kit_SameInts (A B : Option Addr) (n m c d : Nat) (xs ys : List Int) (w : World) (ha : Rd w .i64 A xs) (hb : Rd w .i64 B ys) (hn : n = xs.length) (hm : m = ys.length)
   (hn' : n ≤ 9223372036854775807) (hm' : m ≤ 9223372036854775807) :
    Gives Try.prog 26 #[.slice A n c, .slice B m d] w fun v w' => v = .bool (decide (xs = ys)) ∧ LeD w w' := by
  refine gives_enter Try.call26 Try.func26 rfl rfl rfl (by kernel_rfl) ?_
  refine v_seq ?_
  refine v_region ?_
  refine vl_val (os_assign rfl) ?_
  refine vl_nil ?_
  refine v_seq ?_
  refine v_seq ?_
  refine v_region ?_
  refine vl_val (os_move rfl) ?_
  refine vl_val (os_len Try.underlying40 rfl) ?_
  refine vl_val (os_move rfl) ?_
  refine vl_val (os_len Try.underlying40 rfl) ?_
  refine vl_val (os_neq rfl rfl) ?_
  refine vl_nil ?_
  refine v_cond_d rfl (fun h => ?_) (fun h => ?_)
  · refine v_seq ?_
    refine v_region ?_
    refine vl_val (os_assign rfl) ?_
    refine vl_nil ?_
    refine v_ret ?_
    exact post_ret rfl rfl (⟨by rw [decide_eq_false]; intro he; subst he; omega, lee_d.refl _⟩)
  · refine v_skip ?_
    refine v_seq ?_
    refine v_seq ?_
    refine v_region ?_
    refine vl_val (os_assign rfl) ?_
    refine vl_nil ?_
    refine v_block ?_
    refine v_loop [(0, _), (1, _)] (fun (k : Nat) => [(5, .int .i64 k)]) (fun k w' => k ≤ n ∧ xs.take k = ys.take k ∧ LeD w w') (fun k => n - k) (0) ⟨rfl, rfl, trivial⟩ ⟨rfl, trivial⟩ (⟨by omega, rfl, lee_d.refl _⟩) ?_
    rintro k w' ⟨hk, htk, q, rfl⟩
    refine v_seq ?_
    refine v_seq ?_
    refine v_region ?_
    refine vl_val (os_move rfl) ?_
    refine vl_val (os_move rfl) ?_
    refine vl_val (os_len Try.underlying40 rfl) ?_
    refine vl_val (os_lss rfl rfl) ?_
    refine vl_nil ?_
    refine v_cond_d rfl (fun hlt => ?_) (fun hlt => ?_)
    · obtain ⟨b1, o1, rfl, c1⟩ := (ha.drewN q).at_ (i := k) (by omega)
      obtain ⟨b2, o2, rfl, c2⟩ := (hb.drewN q).at_ (i := k) (by omega)
      refine v_skip ?_
      refine v_seq ?_
      refine v_block ?_
      refine v_seq ?_
      refine v_region_t LeD _ mixed (by kernel_rfl) lee_d (led_start _) ?_
      refine vt_val (fun w hw => os_move rfl) ?_
      refine vt_val (fun w hw => os_move rfl) ?_
      refine vt_val (fun w hw => os_ix Try.underlying40 Try.sizeOf3 rfl rfl (i := k) (by omega) (by omega)) ?_
      refine vt_val (fun w hw => os_load Try.isAgg3 rfl (led_cell hw (c1))) ?_
      refine vt_val (fun w hw => os_move rfl) ?_
      refine vt_val (fun w hw => os_move rfl) ?_
      refine vt_val (fun w hw => os_ix Try.underlying40 Try.sizeOf3 rfl rfl (i := k) (by omega) (by omega)) ?_
      refine vt_val (fun w hw => os_load Try.isAgg3 rfl (led_cell hw (c2))) ?_
      refine vt_val (fun w hw => os_neq rfl rfl) ?_
      refine vt_nil (fun w hw => ?_)
      obtain ⟨q2, rfl⟩ := hw
      refine v_cond_d rfl (fun hne => ?_) (fun hne => ?_)
      · refine v_seq ?_
        refine v_region ?_
        refine vl_val (os_assign rfl) ?_
        refine vl_nil ?_
        refine v_ret ?_
        exact post_ret rfl rfl (⟨by rw [decide_eq_false]; intro he; subst he; exact hne rfl, _, World.drewN_drewN ..⟩)
      · refine v_skip ?_
        refine v_region ?_
        refine vl_val (os_move rfl) ?_
        refine vl_val (os_addi rfl rfl (by omega)) ?_
        refine vl_val (os_assign rfl) ?_
        refine vl_nil ?_
        exact ⟨k + 1, ⟨rfl, rfl, trivial⟩, ⟨rfl, trivial⟩, ⟨by omega, take_succ_eq (n := n) hn (by omega) (by omega) htk 0 (by simpa using hne), _, World.drewN_drewN ..⟩, by dsimp only; omega⟩
    · obtain rfl : k = n := by omega
      refine v_exit ?_
      refine v_seq ?_
      refine v_region ?_
      refine vl_val (os_assign rfl) ?_
      refine vl_nil ?_
      refine v_ret ?_
      exact post_ret rfl rfl (⟨by rw [decide_eq_true]; exact eq_of_take hn (by omega) htk, _, rfl⟩)

theorem kit_SameBytes (A B : Option Addr) (n m c d : Nat) (xs ys : List Int) (w : World) (ha : Rd w .u8 A xs) (hb : Rd w .u8 B ys) (hn : n = xs.length) (hm : m = ys.length)
   (hn' : n ≤ 9223372036854775807) (hm' : m ≤ 9223372036854775807) :
    Gives Try.prog 154 #[.slice A n c, .slice B m d] w fun v w' => v = .bool (decide (xs = ys)) ∧ LeD w w' := by
  refine gives_enter Try.call154 Try.func154 rfl rfl rfl (by kernel_rfl) ?_
  refine v_seq ?_
  refine v_region ?_
  refine vl_val (os_assign rfl) ?_
  refine vl_nil ?_
  refine v_seq ?_
  refine v_seq ?_
  refine v_region ?_
  refine vl_val (os_move rfl) ?_
  refine vl_val (os_len Try.underlying161 rfl) ?_
  refine vl_val (os_move rfl) ?_
  refine vl_val (os_len Try.underlying161 rfl) ?_
  refine vl_val (os_neq rfl rfl) ?_
  refine vl_nil ?_
  refine v_cond_d rfl (fun h => ?_) (fun h => ?_)
  · refine v_seq ?_
    refine v_region ?_
    refine vl_val (os_assign rfl) ?_
    refine vl_nil ?_
    refine v_ret ?_
    exact post_ret rfl rfl (⟨by rw [decide_eq_false]; intro he; subst he; omega, lee_d.refl _⟩)
  · refine v_skip ?_
    refine v_seq ?_
    refine v_seq ?_
    refine v_region ?_
    refine vl_val (os_assign rfl) ?_
    refine vl_nil ?_
    refine v_block ?_
    refine v_loop [(0, _), (1, _)] (fun (k : Nat) => [(5, .int .i64 k)]) (fun k w' => k ≤ n ∧ xs.take k = ys.take k ∧ LeD w w') (fun k => n - k) (0) ⟨rfl, rfl, trivial⟩ ⟨rfl, trivial⟩ (⟨by omega, rfl, lee_d.refl _⟩) ?_
    rintro k w' ⟨hk, htk, q, rfl⟩
    refine v_seq ?_
    refine v_seq ?_
    refine v_region ?_
    refine vl_val (os_move rfl) ?_
    refine vl_val (os_move rfl) ?_
    refine vl_val (os_len Try.underlying161 rfl) ?_
    refine vl_val (os_lss rfl rfl) ?_
    refine vl_nil ?_
    refine v_cond_d rfl (fun hlt => ?_) (fun hlt => ?_)
    · obtain ⟨b1, o1, rfl, c1⟩ := (ha.drewN q).at_ (i := k) (by omega)
      obtain ⟨b2, o2, rfl, c2⟩ := (hb.drewN q).at_ (i := k) (by omega)
      refine v_skip ?_
      refine v_seq ?_
      refine v_block ?_
      refine v_seq ?_
      refine v_region_t LeD _ mixed (by kernel_rfl) lee_d (led_start _) ?_
      refine vt_val (fun w hw => os_move rfl) ?_
      refine vt_val (fun w hw => os_move rfl) ?_
      refine vt_val (fun w hw => os_ix Try.underlying161 Try.sizeOf5 rfl rfl (i := k) (by omega) (by omega)) ?_
      refine vt_val (fun w hw => os_load Try.isAgg5 rfl (led_cell hw (c1))) ?_
      refine vt_val (fun w hw => os_move rfl) ?_
      refine vt_val (fun w hw => os_move rfl) ?_
      refine vt_val (fun w hw => os_ix Try.underlying161 Try.sizeOf5 rfl rfl (i := k) (by omega) (by omega)) ?_
      refine vt_val (fun w hw => os_load Try.isAgg5 rfl (led_cell hw (c2))) ?_
      refine vt_val (fun w hw => os_neq rfl rfl) ?_
      refine vt_nil (fun w hw => ?_)
      obtain ⟨q2, rfl⟩ := hw
      refine v_cond_d rfl (fun hne => ?_) (fun hne => ?_)
      · refine v_seq ?_
        refine v_region ?_
        refine vl_val (os_assign rfl) ?_
        refine vl_nil ?_
        refine v_ret ?_
        exact post_ret rfl rfl (⟨by rw [decide_eq_false]; intro he; subst he; exact hne rfl, _, World.drewN_drewN ..⟩)
      · refine v_skip ?_
        refine v_region ?_
        refine vl_val (os_move rfl) ?_
        refine vl_val (os_addi rfl rfl (by omega)) ?_
        refine vl_val (os_assign rfl) ?_
        refine vl_nil ?_
        exact ⟨k + 1, ⟨rfl, rfl, trivial⟩, ⟨rfl, trivial⟩, ⟨by omega, take_succ_eq (n := n) hn (by omega) (by omega) htk 0 (by simpa using hne), _, World.drewN_drewN ..⟩, by dsimp only; omega⟩
    · obtain rfl : k = n := by omega
      refine v_exit ?_
      refine v_seq ?_
      refine v_region ?_
      refine vl_val (os_assign rfl) ?_
      refine vl_nil ?_
      refine v_ret ?_
      exact post_ret rfl rfl (⟨by rw [decide_eq_true]; exact eq_of_take hn (by omega) htk, _, rfl⟩)

end Go.Proofs.Ytpjmiafefammkaa

/- Layer 23: the contracts in the form of the rules; the sum of a row. -/
namespace Go.Proofs.Ytpjmiafefammkaa
open Go.RowKit
set_option linter.unusedVariables false

theorem g_Is (a : Int) (w : World) (h : I64 a) : Gives Try.prog 109 #[.int .i64 a] w fun v w' => v = .bool (isB a) ∧ w' = w :=
  gives_of Try.call109 (fixed_Is a w h) fun e w' ⟨h1, h2⟩ => ⟨_, h1, rfl, h2.symm⟩
theorem g_Is_t {a : Int} {w w' : World} (h : isB a = true) (hw : LeD w w') : Gives Try.prog 109 #[.int .i64 a] w' fun v w'' => v = .bool true ∧ LeD w' w'' :=
  (g_Is a w' (by have := isB_iff.1 h; exact ⟨by omega, by omega⟩)).mono fun v w'' ⟨h1, h2⟩ => ⟨by rw [h1, h], by rw [h2]; exact lee_d.refl _⟩
theorem g_Fold (A B : Option Addr) (n m c d : Nat) (hs xs : List Int) (w : World) (ha : Rd w .i64 A hs) (hb : Rd w .i64 B xs) (hn : n = hs.length) (hm : m = xs.length)
    (hn' : n ≤ 9223372036854775807) (hm' : m ≤ 9223372036854775807) (ih : AllI hs) (ix : AllI xs) :
    Gives Try.prog 30 #[.slice A n c, .slice B m d] w fun v w' => ∃ u, v = .tuple #[u, .int .i64 (argE (foldOk hs xs))] ∧ OwnI w' w.heap.size u (foldV hs xs) ∧ Below w.heap.size w w' :=
  gives_of Try.call30 (fixed_Fold A B n m c d hs xs w ha hb hn hm hn' hm' ih ix) fun e w' ⟨u, h1, h2, h3⟩ => ⟨_, h1, u, rfl, h2, h3⟩
theorem g_Tails (A : Option Addr) (n c : Nat) (hs : List Int) (w : World) (ha : Rd w .i64 A hs) (hn : n = hs.length) (hn' : n ≤ 9223372036854775807) (ih : AllI hs) :
    Gives Try.prog 73 #[.slice A n c] w fun v w' => ∃ u, v = .tuple #[u, .int .i64 (argE (rowB hs))] ∧ OwnI w' w.heap.size u (tailsV hs) ∧ Below w.heap.size w w' :=
  gives_of Try.call73 (fixed_Tails A n c hs w ha hn hn' ih) fun e w' ⟨u, h1, h2, h3⟩ => ⟨_, h1, u, rfl, h2, h3⟩

end Go.Proofs.Ytpjmiafefammkaa

/- append, and where the result's row lies. No program in sight. -/
namespace Go.Proofs.Ytpjmiafefammkaa
open Go.RowKit
set_option linter.unusedVariables false
section
variable {P : Program} {n : Cx} {fr : Fr} {w w' : World} {ty : TypeId} {x y z : Operand} {v u : Value} {T T2 e : TypeId} {op : Op}
/-- append(s, x...), and where the result's row lies -/
theorem ot_append_at {A : Option Addr} {m c : Nat} {cs news : List Value} {z0 : Value} {bytes : Nat} {B : Nat} (hT : P.underlying T = some (.slice e)) (hi : TyInfo P e z0 1 bytes) (hz : z0.cells.size = 1) (hx : Fr.ev fr x = some v) (hy : Fr.ev fr y = some (.slice A m c))
    (ho : Own w B e v cs) (hr : RdC w A news) (hm : m = news.length) (h1 : ∀ u ∈ news, u.oneCell' = true) (hb : (cs.length + m) * bytes ≤ 140737488355328) (hl : cs.length + m ≤ maxLen) (hB : B ≤ w.heap.size) :
    OT P n (.call ⟨.builtin .append, #[x, y], #[T, T]⟩) ty fr w fun v' w' => Own w' B e v' (cs ++ news) ∧ w.grownBy w' v.ownBlock ∧ (v'.ownBlock = v.ownBlock ∨ v'.ownBlock = some w.heap.size) := by
  obtain ⟨i, i1, i2, i3, i4⟩ := info_parts hi
  by_cases h0 : 0 < news.length
  · obtain ⟨b, o, rfl, hc⟩ := hr h0
    obtain ⟨v', w', hrun, ho', hg, _, hown⟩ := run_append_own_at (P := P) w B T ty e i z0 1 bytes hT i1 i2 i3 i4 hz (by omega) v cs.length cs ho ⟨b, o, none⟩ m c news (by omega)
      (fun j u hu => by
        have hj := (List.getElem?_eq_some_iff.1 hu).1
        rw [addr_add, hc j hj]; exact hu) h1 hl hb hB
    refine ot_of fun a ha => ⟨v', w', by simp [execOp, resolve, invoke, builtin, ha.ev hx, ha.ev hy, hrun, Result.andThen], ?_, hg, hown⟩
    unfold Own
    rw [List.length_append, ← hm]
    exact ho'
  · have hnil : news = [] := List.eq_nil_of_length_eq_zero (by omega)
    subst hnil
    have hm0 : m = 0 := by simpa using hm
    subst hm0
    have hrun : (Builtin.append_ #[T, T] ty #[v, .slice A 0 c]).run P w = .ok v w := by
      rcases ho.2 with ⟨rfl, h2⟩ | ⟨g, cap, cur, rfl, _, _, hnc, _⟩
      · cases A <;> simp [Builtin.append_, run_underlying hT, sizeOf, typeInfo, i1, Builtin.lenOf, Builtin.firstCells, loadCells, loadCellsFrom]
      · cases A <;> simp [Builtin.append_, run_underlying hT, sizeOf, typeInfo, i1, Builtin.lenOf, Builtin.firstCells, hnc, storeCells, loadCells, loadCellsFrom]
    refine ot_of fun a ha => ⟨v, w, by simp [execOp, resolve, invoke, builtin, ha.ev hx, ha.ev hy, hrun, Result.andThen], by simpa using ho, World.grownBy.refl _ _, .inl rfl⟩
end
/-- two lists of a call's own in two rows -/
def sep (h r : Value) : Prop := ∀ x, h.ownBlock = some x → r.ownBlock ≠ some x
theorem sep.symm {h r : Value} (s : sep h r) : sep r h := fun x hr hh => s x hh hr
theorem sep.grow {h h' r : Value} {w : World} {B : Nat} {t : TypeId} {cs : List Value} (s : sep h r) (hr : Own w B t r cs) (hh : h'.ownBlock = h.ownBlock ∨ h'.ownBlock = some w.heap.size) : sep h' r := by
  intro x hx hrx
  rcases hh with e | e
  · rw [e] at hx; exact s x hx hrx
  · rw [e] at hx; cases hx
    have := (World.ownsRow.lt hr _ hrx).2
    omega
theorem sep.other {h r : Value} (s : sep h r) : r.ownBlock = none ∨ r.ownBlock ≠ h.ownBlock := by
  cases hr : r.ownBlock with
  | none => exact .inl rfl
  | some x => exact .inr fun e => s x e.symm hr
end Go.Proofs.Ytpjmiafefammkaa

/- What stays but for some blocks. No program in sight. -/
namespace Go.Proofs.Ytpjmiafefammkaa
open Go.RowKit
set_option linter.unusedVariables false
/-! ### all stays but for some blocks -/
structure Kb (S : List Nat) (w w' : World) : Prop where
  os : w'.os = w.os
  tape : w'.tape = w.tape
  output : w'.output = w.output
  size : w.heap.size ≤ w'.heap.size
  block : ∀ k, k < w.heap.size → k ∉ S → w'.heap[k]? = w.heap[k]?
theorem Kb.refl (S : List Nat) (w : World) : Kb S w w := ⟨rfl, rfl, rfl, Nat.le_refl _, fun _ _ _ => rfl⟩
theorem Kb.trans {S T : List Nat} {a b c : World} (h : Kb S a b) (h' : Kb T b c) (hT : ∀ k ∈ T, k ∈ S ∨ a.heap.size ≤ k) : Kb S a c :=
  ⟨h'.os.trans h.os, h'.tape.trans h.tape, h'.output.trans h.output, Nat.le_trans h.size h'.size, fun k hk hS => by
    rw [h'.block k (Nat.lt_of_lt_of_le hk h.size) (fun hkT => by rcases hT k hkT with h1 | h1; exact hS h1; omega), h.block k hk hS]⟩
theorem Kb.mono {S T : List Nat} {a b : World} (h : Kb S a b) (hT : ∀ k ∈ S, k ∈ T ∨ a.heap.size ≤ k) : Kb T a b :=
  ⟨h.os, h.tape, h.output, h.size, fun k hk hS => h.block k hk fun hkS => by rcases hT k hkS with h1 | h1; exact hS h1; omega⟩
theorem Kb.of_below {S : List Nat} {a b : World} (h : Below a.heap.size a b) : Kb S a b := ⟨h.os, h.tape, h.output, h.size, fun k hk _ => h.block k hk⟩
theorem Kb.below {S : List Nat} {B : Nat} {w0 a b : World} (h : Kb S a b) (hb : Below B w0 a) (hS : ∀ k ∈ S, B ≤ k) (hB : B ≤ a.heap.size) : Below B w0 b :=
  ⟨h.os.trans hb.os, h.tape.trans hb.tape, h.output.trans hb.output, Nat.le_trans hb.size h.size, fun k hk => by
    rw [h.block k (by omega) (fun hkS => by have := hS k hkS; omega), hb.block k hk]⟩
theorem Kb.led {S : List Nat} {a b : World} (h : LeD a b) : Kb S a b := Kb.of_below (led_below h)
theorem Kb.set {S : List Nat} {w : World} {g : Nat} (hg : g ∈ S) (i : Nat) (u : Value) : Kb S w (w.setCell ⟨g, i, none⟩ u) :=
  have hb := below_set (Below.refl 0 w) (Nat.zero_le g) i u
  ⟨hb.os, hb.tape, hb.output, by simp [World.setCell], fun k _ hk => by
    rw [Below.heap_setCell _ _ _ _ (fun e => hk (by simp at e; rw [e]; exact hg))]⟩
theorem Kb.grown {S : List Nat} {w w' : World} {row : Option Nat} (hg : w.grownBy w' row) (hS : ∀ k, row = some k → k ∈ S) : Kb S w w' := by
  have hb := (Below.refl 0 w).grown hg (Nat.zero_le _) (fun k hk => Nat.zero_le _)
  refine ⟨hb.os, hb.tape, hb.output, ?_, fun k hk hkS => hg.block k hk fun e => hkS (hS k e.symm)⟩
  exact hg.size
theorem Bk.kb {w w' g cs t S} (h : Bk w g cs t) (hb : Kb S w w') (hg : g ∉ S) : Bk w' g cs t := (hb.block g h.lt hg).trans h
theorem Own.kb {w w' B t v cs S} (h : Own w B t v cs) (hb : Kb S w w') (hg : ∀ g, v.ownBlock = some g → g ∉ S) : Own w' B t v cs := by
  refine ⟨h.1, ?_⟩
  rcases h.2 with hn | ⟨g, cap, cur, rfl, hB0, hgg, rest⟩
  · exact .inl hn
  · exact .inr ⟨g, cap, cur, rfl, hB0, (hb.block g (Array.getElem?_eq_some_iff.1 hgg).1 (hg g rfl)).trans hgg, rest⟩

end Go.Proofs.Ytpjmiafefammkaa
