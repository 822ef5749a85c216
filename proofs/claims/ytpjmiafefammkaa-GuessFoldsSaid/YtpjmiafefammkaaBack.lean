/- slices.Backward at []int: the iterator's contract: all places from the last one to the first one; or a part of them. -/
import Derived.RangeFuncBox
import Derived.RangeFuncNested
import Derived.RangeFuncBound
import Derived.RangeFuncCalls
import Derived.RangeFuncLeaves
import Derived.Shelf.Abstract
import Derived.Shelf.RegionOpen
import Derived.WalkKit
import Derived.OwnWalkIn
import Derived.TacticsInMore
import Derived.LoopNIn
import Derived.LoopIn
import Derived.Test.YtpjmiafefammkaaOwn
namespace Go.Proofs.Ytpjmiafefammkaa
open Go.RowKit Go.Shelf

attribute [local go_sem] Oper.semAt_some

/-- a call that ranges over a function is walked at a fence that is a variable -/
theorem wide_gen {P : Program} {f : FuncId} {args : Array Value} {w : World} {R : Ending → World → Prop}
    (h : ∀ F : Fence, F.round = none → (∀ f, F.fn f) → (∀ (n : Nat) (g : FuncId) (as' : Array Value) (w' : World) (R' : Ending → World → Prop), Calls P g as' w' R' → CallsIn F n P g as' w' R') → CallsIn F 5 P f args w R) : Calls P f args w R :=
  callsIn_wide.1 (h Fence.wide rfl (fun _ => trivial) (fun _ _ _ _ _ hc => callsIn_wide.2 hc))

/-- the blocks of T lie as they lay -/
def KeepT (T : Nat → Prop) (W W' : World) : Prop := W.heap.size ≤ W'.heap.size ∧ ∀ k, T k → W'.heap[k]? = W.heap[k]?
theorem KeepT.refl (T : Nat → Prop) (W : World) : KeepT T W W := ⟨Nat.le_refl _, fun _ _ => rfl⟩
theorem KeepT.trans {T : Nat → Prop} {A B C : World} (h : KeepT T A B) (k : KeepT T B C) : KeepT T A C := ⟨Nat.le_trans h.1 k.1, fun i hi => (k.2 i hi).trans (h.2 i hi)⟩
theorem KeepT.cell {T : Nat → Prop} {W W' : World} (h : KeepT T W W') {p : Addr} (hp : T p.block) : W'.cell? p = W.cell? p := World.cell?_of_block (h.2 _ hp)
theorem KeepT.grown {T : Nat → Prop} {A W W' : World} {row : Option Nat} (h : KeepT T A W) (hg : W.grownBy W' row) (hT : ∀ k, T k → k < W.heap.size) (hr : ∀ k, row = some k → ¬ T k) : KeepT T A W' :=
  h.trans ⟨hg.size, fun k hk => hg.block k (hT k hk) (fun e => hr k e.symm hk)⟩
theorem keepT_b {T : Nat → Prop} {w : World} (hT : ∀ k, T k → k < w.heap.size) (W : World) (l : Nat) (o o' : Obj) (hl : w.heap.size ≤ l) (h : W.heap[l]? = some o) (_ : o.isCells = false) (_ : o.isWalk = false) : KeepT T W (W.putObj l o') := by
  have hlt := (Array.getElem?_eq_some_iff.1 h).1
  exact (KeepT.refl T W).grown (grownBy_putObj' W l o') (fun k hk => by have := hT k hk; omega) (fun k e hk => by cases e; have := hT _ hk; omega)
theorem KeepT.setCell {T : Nat → Prop} {A W : World} (h : KeepT T A W) {p : Addr} (hp : ¬ T p.block) (u : Value) : KeepT T A (W.setCell p u) :=
  h.trans ⟨by simp [World.setCell], fun k hk => Below.heap_setCell _ _ _ _ (fun e => hp (e ▸ hk))⟩

/-- a place of a list of n -/
abbrev Below_ (n : Nat) := { j : Nat // j < n }
/-- what has come when k rounds are over: the places n - 1, .., n - k -/
def downTo (n k : Nat) : List Nat := (List.range k).map fun j => n - 1 - j
theorem downTo_succ (n k : Nat) : downTo n (k + 1) = downTo n k ++ [n - 1 - k] := by simp [downTo, List.range_succ]
theorem downTo_length (n k : Nat) : (downTo n k).length = k := by simp [downTo]
def encAt (zs : List Int) (n : Nat) (x : Below_ n) : Array Value := #[Value.int .i64 (x.1 : Int), Value.int .i64 (zs[x.1]?.getD 0)]

set_option maxRecDepth 100000 in
set_option maxHeartbeats 2000000 in
theorem back1_in (F : Fence) (nf : Nat) (h7 : F.fn 141) (hro : F.round = none) (hn : 1 ≤ nf) (l Bs : Nat) (T : Nat → Prop) (A : Option Addr) (n c : Nat) (zs : List Int) (hreach : n ≤ 1152921504606846976) (hA : ∀ b off, A = some ⟨b, off, none⟩ → T b)
    (hnz : n = zs.length) (J Jx : List (Below_ n) → World → Prop)
    (hY : ∀ pre x W, J pre W → pre.length < n → YieldAt F (nf - 1) Try.prog l (encAt zs n x) W fun e W' =>
      (e = .returned (.bool true) ∧ J (pre ++ [x]) W' ∧ KeepT T W W') ∨ (e = .returned (.bool false) ∧ Jx (pre ++ [x]) W'))
    (W : World) (hBs : W.cell? ⟨Bs, 0, none⟩ = some (.slice A n c)) (hBn : T Bs) (ha : Rd W .i64 A zs) (h0 : J [] W) :
    CallsIn F nf Try.prog 141 #[.func (.yield l) #[] #[], .pointer (some ⟨Bs, 0, none⟩)] W fun e W' => (∃ v, e = .returned v) ∧
      ((∃ ys, ys.map (·.1) = downTo n n ∧ J ys W') ∨ (∃ pre, (∃ k, k ≤ n ∧ pre.map (·.1) = downTo n k) ∧ Jx pre W')) := by
  have HZ := Lib.hid hnz; clear hnz
  refine callsIn_of_wp Try.func141 rfl h7 ?_ hro
  simp only [Try.ntmps141, List.size_toArray, List.length_cons, List.length_nil, Nat.reduceAdd, Nat.reduceSub, Array.replicate_succ, Array.replicate_zero, List.push_toArray, List.append_toArray, List.nil_append, List.cons_append]
  gi_wp2
  gi_loopw [3] (fun i wr => ∃ k : Nat, k ≤ n ∧ i = .int .i64 ((n : Int) - 1 - k) ∧ (∃ pre : List (Below_ n), pre.map (·.1) = downTo n k ∧ J pre wr) ∧ KeepT T W wr)
    (fun i _ => (intOf i + 1).toNat)
  case atStart => exact ⟨0, Nat.zero_le _, by simp, ⟨[], rfl, h0⟩, KeepT.refl _ _⟩
  case round =>
    obtain ⟨k, hk, rfl, ⟨pre, hpre, hJs⟩, hnx⟩ := hrel
    have HP := Lib.hid hpre; clear hpre
    by_cases hlt : k < n
    · obtain ⟨j, hj⟩ : ∃ j, j + k + 1 = n := ⟨n - k - 1, by omega⟩
      obtain ⟨b1, o1, rfl, hc1⟩ := ha.at_ (i := j) (by rw [← HZ.out]; omega)
      have hb1 := hA b1 o1 rfl
      have hc2 := (hnx.cell (p := ⟨b1, o1 + j, none⟩) hb1).trans hc1
      have hc3 := (hnx.cell (p := ⟨Bs, 0, none⟩) hBn).trans hBs
      have hjn : j < n := by omega
      have hy0 := hY pre ⟨j, hjn⟩ wr hJs (by have := congrArg List.length HP.out; rw [List.length_map, downTo_length] at this; omega)
      have hs : (pre ++ [(⟨j, hjn⟩ : Below_ n)]).map (·.1) = downTo n (k + 1) := by
        rw [downTo_succ, List.map_append, HP.out, show n - 1 - k = j by omega]; rfl
      have HS := Lib.hid hs; clear hs
      obtain ⟨fn, tmps, assign, body, hy, hR⟩ := hy0
      simp only [encAt] at hy
      rw [show ((n : Int) - 1 - k) = (j : Int) by omega]
      have HJ := Lib.hid hj; clear hj hlt
      gi_wp2
      refine hR.mono ?_
      rintro e W3 (⟨rfl, hJ3, hk3⟩ | ⟨rfl, hJx3⟩)
      · gi_wp2
        go_roundw
        case rel => exact ⟨k + 1, by have := HJ.out; omega, by have := HJ.out; congr 1; omega, ⟨_, HS.out, hJ3⟩, hnx.trans hk3⟩
        case measure => simp [intOf]
      · gi_wp2
        refine bodyPost_ret (results_none rfl _ _ _) rfl ?_
        exact ⟨⟨_, rfl⟩, .inr ⟨_, ⟨k + 1, by have := HJ.out; omega, HS.out⟩, hJx3⟩⟩
    · obtain rfl : k = n := by omega
      gi_wp2
      go_end0
      exact ⟨⟨_, rfl⟩, .inl ⟨_, HP.out, hJs⟩⟩

set_option maxHeartbeats 1000000 in
theorem back_in (F : Fence) (nf : Nat) (h5 : F.fn 112) (hro : F.round = none) (a : Option Addr) (len cap : Nat) (w : World) :
    CallsIn F nf Try.prog 112 #[.slice a len cap] w fun e w' => e = .returned (.func (.func 141) #[] #[.pointer (some ⟨w.heap.size, 0, none⟩)]) ∧ w' = w.alloc (.cells #[.slice a len cap] 40) := by
  refine callsIn_of_wp Try.func112 rfl h5 ?_ hro
  simp only [Try.ntmps112, List.size_toArray, List.length_cons, List.length_nil, Nat.reduceAdd, Nat.reduceSub, Array.replicate_succ, Array.replicate_zero, List.push_toArray, List.append_toArray, List.nil_append, List.cons_append]
  gi_wp2
  go_ret
  exact ⟨rfl, rfl⟩

theorem back_stops (F : Fence) (nf : Nat) (h8 : F.fn 141) (hro : F.round = none) (hn : 1 ≤ nf) (Bs : Nat) (T : Nat → Prop) (A : Option Addr) (n c : Nat) (zs : List Int) (hreach : n ≤ 1152921504606846976) (w : World) (hBn : T Bs) (hBs : Bs < w.heap.size)
    (hc : w.cell? ⟨Bs, 0, none⟩ = some (.slice A n c)) (hnz : n = zs.length) (ha : Rd w .i64 A zs) (hA : ∀ b off, A = some ⟨b, off, none⟩ → T b) :
    SeqStopsK F nf Try.prog 141 #[.pointer (some ⟨Bs, 0, none⟩)] (encAt zs n) (KeepT T) (fun ys => ys.map (·.1) = downTo n n)
      (fun pre => ∃ k, k ≤ n ∧ pre.map (·.1) = downTo n k) n w := fun l J Jx W hW _ _ hY h0 => by
  have hc' := (hW.cell (p := ⟨Bs, 0, none⟩) hBs).trans hc
  exact back1_in F nf h8 hro hn l Bs T A n c zs hreach hA hnz J Jx hY W hc' hBn (ha.keep hW) h0
end Go.Proofs.Ytpjmiafefammkaa
