/- The statements' own helpers (hourglasskit): lists held against each other. -/
import Derived.Test.YtpjmiafefammkaaProg
import Derived.Test.YtpjmiafefammkaaLib
namespace Go.Proofs.Ytpjmiafefammkaa
open Go.RowKit

set_option maxHeartbeats 400000 in
theorem same_ints (A B : Option Addr) (n m c d : Nat) (xs ys : List Int) (w : World) (ha : Rd w .i64 A xs) (hb : Rd w .i64 B ys) (hn : n = xs.length) (hm : m = ys.length)
   (hn' : n ≤ 9223372036854775807) (hm' : m ≤ 9223372036854775807) :
    Calls Try.prog 26 #[.slice A n c, .slice B m d] w fun e w' => e = .returned (.bool (decide (xs = ys))) ∧ ∃ q, w' = w.drewN q := by
  by_cases hlen : n = m
  · subst hlen
    have H1 := Lib.hid hn; have H2 := Lib.hid hm; clear hn hm
    go_enter Try.func26, Try.ntmps26
    go_wp2_with (fail)
    go_loopw [5] (fun i wr => ∃ k : Nat, k ≤ n ∧ i = .int .i64 k ∧ xs.take k = ys.take k ∧ ∃ q, wr = w.drewN q) (fun i wr => n - (intOf i).toNat)
    case atStart => exact ⟨0, by omega, rfl, rfl, 0, rfl⟩
    case round =>
      obtain ⟨k, hk, rfl, htk, q, rfl⟩ := hrel
      have Htk := Lib.hid htk; clear htk
      by_cases hlt : k < n
      · obtain ⟨b1, o1, rfl, hc1⟩ := ha.at_ (i := k) (by rw [← H1.out]; exact hlt)
        obtain ⟨b2, o2, rfl, hc2⟩ := hb.at_ (i := k) (by rw [← H2.out]; exact hlt)
        go_wp2_with (fail)
        go_quiet (fail)
        go_wp2_with (fail)
        · go_ret
          exact ⟨ret_bool (decide_eq_false (ne_of_getD 0 (ne_of_bne (by assumption)))).symm, drew_ex⟩
        · go_roundw
          case rel => exact ⟨k + 1, by omega, by go_num, take_succ_eq H1.out H2.out hlt Htk.out 0 (by simp_all), _, rfl⟩
          case measure => simp [intOf]; omega
      · obtain rfl : k = n := by omega
        go_wp2_with (fail)
        go_ret
        exact ⟨ret_bool (decide_eq_true (eq_of_take H1.out H2.out Htk.out)).symm, q, rfl⟩
  · have hd : ((n : Int) != (m : Int)) = true := by simp; omega
    have H1 := Lib.hid hn; have H2 := Lib.hid hm; clear hn hm
    go_enter Try.func26, Try.ntmps26
    go_wp2_with (fail)
    go_ret
    exact ⟨ret_bool (decide_eq_false (fun h => hlen (by rw [H1.out, H2.out, h]))).symm, 0, rfl⟩
end Go.Proofs.Ytpjmiafefammkaa
