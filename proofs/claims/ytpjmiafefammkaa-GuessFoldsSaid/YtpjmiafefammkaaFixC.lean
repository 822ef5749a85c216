/- Layer 23: made (a row out of another one), Fold. -/
import Derived.Test.YtpjmiafefammkaaFixB
namespace Go.Proofs.Ytpjmiafefammkaa
open Go.RowKit

/-- what stands after k places: g of each place and number -/
def mapK (g : Nat → Int → Int) (zs : List Int) : List Int := zs.mapIdx g

theorem mapK_take_succ {g : Nat → Int → Int} {zs : List Int} {k n : Nat} (hn : n = zs.length) (hk : k < n) : mapK g (zs.take (k + 1)) = mapK g (zs.take k) ++ [g k (zs.getD k 0)] := by
  have hk' : k < zs.length := by omega
  unfold mapK
  rw [List.take_succ_eq_append_getElem hk', List.mapIdx_append]
  simp [hk', Nat.min_eq_left (Nat.le_of_lt hk')]

theorem mapK_length {g zs} : (mapK g zs).length = zs.length := by simp [mapK]

set_option maxHeartbeats 1000000 in
theorem fixed_made (A : Option Addr) (n c : Nat) (zs : List Int) (f : FuncId) (cap : Array Value) (g : Nat → Int → Int) (w : World) (hent : Enters Try.prog f) (ha : Rd w .i64 A zs) (hn : n = zs.length)
    (hn' : n * 8 ≤ 140737488351232)
    (hcall : ∀ k wx, k < zs.length → Below w.heap.size w wx → Calls Try.prog f (#[.int .i64 k, .int .i64 (zs.getD k 0)] ++ cap) wx fun e w' => e = .returned (.int .i64 (g k (zs.getD k 0))) ∧ ∃ q', w' = wx.drewN q') :
    Calls Try.prog 68 #[.slice A n c, .func (.func f) #[] cap] w fun e w' => ∃ v, e = .returned v ∧ OwnI w' w.heap.size v (mapK g zs) ∧ Below w.heap.size w w' := by
  have H1 := Lib.hid hn; have HC := Lib.hid hcall; clear hn hcall
  have hentr : ∀ (args : Array Value) (w : World), (callFunc f args).run Try.prog w = .ok (.enter f args) w := hent
  obtain ⟨i0, hi, hz0, hz1, hz2⟩ := info_parts info_int
  have HI := Lib.hid hi; have HZ0 := Lib.hid hz0; have HZ1 := Lib.hid hz1; have HZ2 := Lib.hid hz2
  clear hi hz0 hz1 hz2
  go_enter Try.func68, Try.ntmps68
  go_wp2_with (at_make; refine wpList_make_own _ rfl (.const (.int .i64 0)) (.tmp 9) 40 rfl w.heap.size 3 i0 (.int .i64 0) 1 Try.underlying40 HI.out HZ0.out HZ1.out .i64 .i64 n n rfl rfl rfl (by rw [HZ2.out]; omega) (by unfold maxLen; omega) (by simp) ?_)
  intro w1 hown hgrow
  have hb1 : Below w.heap.size w w1 := (Below.refl _ w).grown hgrow (Nat.le_refl _) (fun k hk => by cases hk)
  go_wp2_with (fail)
  go_loopw [5, 13] (fun v i wr => ∃ k : Nat, k ≤ n ∧ i = .int .i64 k ∧ OwnI wr w.heap.size v (mapK g (zs.take k)) ∧ Below w.heap.size w wr) (fun _ i wr => n - (intOf i).toNat)
  case atStart => exact ⟨0, by omega, rfl, by simpa [OwnI, mapK] using hown, hb1⟩
  case round =>
    obtain ⟨k, hk, rfl, hown1, hb⟩ := hrel
    clear hown hgrow hb1
    by_cases hlt : k < n
    · obtain ⟨b1, o1, rfl, hc1⟩ := (ha.keep hb).at_ (i := k) (by rw [← H1.out]; exact hlt)
      have hll : (mapK g (zs.take k)).length = k := by rw [mapK_length, List.length_take, ← H1.out]; omega
      have HL := Lib.hid hll; clear hll
      have hsz := hb.size
      go_wp2_with (fail)
      refine (HC.out k _ (by rw [← H1.out]; exact hlt) hb).mono ?_
      rintro e w' ⟨rfl, q', rfl⟩
      go_wp2_with (at_builtin; refine wpl_append1 rfl (.tmp 18) (.tmp 23) 40 rfl w.heap.size 3 (.int .i64 0) 8 Try.underlying40 info_int rfl _ _ _ rfl ((ownsRow_drewN hown1 q').alloc _) wr.heap.size 1 (.int .i64 (g k (zs.getD k 0))) rfl ?_ rfl ?_ ?_ ?_ ?_)
      case refine_1 => exact cell_one_drewN _ _ _ _
      case refine_2 => rw [HL.out]; omega
      case refine_3 => rw [HL.out]; unfold maxLen; omega
      case refine_4 => simp; omega
      intro v2 w2 hown2 hgrow2
      have hb2 : Below w.heap.size w w2 := below_grown_own ((below_drewN_ hb q').alloc (by simpa using hsz) _) ((ownsRow_drewN hown1 q').alloc _) hgrow2 (by simp; omega)
      clear hb hown1 hgrow2
      go_wp2_with (fail)
      go_roundw
      case rel => exact ⟨k + 1, by omega, by go_num, by rw [mapK_take_succ H1.out hlt]; simpa [OwnI] using hown2, hb2⟩
      case measure => simp [intOf]; omega
    · obtain rfl : k = n := by omega
      go_wp2_with (fail)
      go_ret
      refine ⟨_, rfl, ?_, hb⟩
      rw [H1.out, List.take_length] at hown1
      exact hown1
end Go.Proofs.Ytpjmiafefammkaa
