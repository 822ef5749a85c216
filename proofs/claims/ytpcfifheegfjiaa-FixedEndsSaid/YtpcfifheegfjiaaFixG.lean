/- Layer 23: the contracts in the form of the rules; the sum of a row. -/
import Derived.Test.YtpcfifheegfjiaaFixQ
import Derived.Test.YtpcfifheegfjiaaFixE
import Derived.Test.YtpcfifheegfjiaaKitS
import Derived.Test.YtpcfifheegfjiaaM
namespace Go.Proofs.Ytpcfifheegfjiaa
open Go.RowKit
set_option linter.unusedVariables false

theorem g_awake (w : World) : Gives Try.prog 25 #[] w fun v w' => v = .bool true ∧ Below w.heap.size w w' :=
  gives_of Try.call25 (law23_awake w) fun e w' ⟨h1, h2⟩ => ⟨_, h1, rfl, h2⟩
theorem g_Is (a : Int) (w : World) (h : I64 a) : Gives Try.prog 23 #[.int .i64 a] w fun v w' => v = .bool (isB a) ∧ w' = w :=
  gives_of Try.call23 (fixed_Is a w h) fun e w' ⟨h1, h2⟩ => ⟨_, h1, rfl, h2.symm⟩
theorem g_Is_t {a : Int} {w w' : World} (h : isB a = true) (hw : LeD w w') : Gives Try.prog 23 #[.int .i64 a] w' fun v w'' => v = .bool true ∧ LeD w' w'' :=
  (g_Is a w' (by have := isB_iff.1 h; exact ⟨by omega, by omega⟩)).mono fun v w'' ⟨h1, h2⟩ => ⟨by rw [h1, h], by rw [h2]; exact lee_d.refl _⟩
theorem g_Fold (A B : Option Addr) (n m c d : Nat) (hs xs : List Int) (w : World) (ha : Rd w .i64 A hs) (hb : Rd w .i64 B xs) (hn : n = hs.length) (hm : m = xs.length)
    (hn' : n ≤ 9223372036854775807) (hm' : m ≤ 9223372036854775807) (ih : AllI hs) (ix : AllI xs) :
    Gives Try.prog 30 #[.slice A n c, .slice B m d] w fun v w' => ∃ u, v = .tuple #[u, .int .i64 (argE (foldOk hs xs))] ∧ OwnI w' w.heap.size u (foldV hs xs) ∧ Below w.heap.size w w' :=
  gives_of Try.call30 (fixed_Fold A B n m c d hs xs w ha hb hn hm hn' hm' ih ix) fun e w' ⟨u, h1, h2, h3⟩ => ⟨_, h1, u, rfl, h2, h3⟩
theorem g_Tails (A : Option Addr) (n c : Nat) (hs : List Int) (w : World) (ha : Rd w .i64 A hs) (hn : n = hs.length) (hn' : n ≤ 9223372036854775807) (ih : AllI hs) :
    Gives Try.prog 32 #[.slice A n c] w fun v w' => ∃ u, v = .tuple #[u, .int .i64 (argE (rowB hs))] ∧ OwnI w' w.heap.size u (tailsV hs) ∧ Below w.heap.size w w' :=
  gives_of Try.call32 (fixed_Tails A n c hs w ha hn hn' ih) fun e w' ⟨u, h1, h2, h3⟩ => ⟨_, h1, u, rfl, h2, h3⟩

theorem law23_sum (A : Option Addr) (n c : Nat) (zs : List Int) (w : World) (ha : Rd w .i64 A zs) (hn : n = zs.length) (hn' : n ≤ 256) (hr : ∀ z ∈ zs, 0 ≤ z ∧ z ≤ 65536) :
    Gives Try.prog 37 #[.slice A n c] w fun v w' => v = .int .i64 zs.sum ∧ w' = w := by
  refine gives_enter Try.call37 Try.func37 rfl rfl rfl (by kernel_rfl) ?_
  refine v_seq ?_
  refine v_region ?_
  refine vl_val (os_assign rfl) ?_
  refine vl_nil ?_
  refine v_seq ?_
  refine v_region ?_
  refine vl_val (os_assign rfl) ?_
  refine vl_nil ?_
  refine v_seq ?_
  refine v_seq ?_
  refine v_region ?_
  refine vl_val (os_assign rfl) ?_
  refine vl_nil ?_
  refine v_block ?_
  refine v_loop [(0, _)] (fun (k : Nat) => [(3, .int .i64 (zs.take k).sum), (4, .int .i64 k)]) (fun k w' => k ≤ n ∧ w' = w) (fun k => n - k) (0) ⟨rfl, trivial⟩ ⟨rfl, rfl, trivial⟩ (⟨by omega, rfl⟩) ?_
  rintro k w' ⟨hk, rfl⟩
  refine v_seq ?_
  refine v_seq ?_
  refine v_region ?_
  refine vl_val (os_move rfl) ?_
  refine vl_val (os_move rfl) ?_
  refine vl_val (os_len Try.underlying37 rfl) ?_
  refine vl_val (os_lss rfl rfl) ?_
  refine vl_nil ?_
  refine v_cond_d rfl (fun hlt => ?_) (fun hlt => ?_)
  · obtain ⟨b1, o1, rfl, c1⟩ := ha.at_ (i := k) (by omega)
    have hk' : k < zs.length := by omega
    have hz : zs.getD k 0 = zs[k] := by simp [hk']
    have hb0 := hr zs[k] (List.getElem_mem _)
    have hb1 : 0 ≤ (zs.take k).sum := sum_nonneg fun z hz => (hr z (List.mem_of_mem_take hz)).1
    have hb2 : (zs.take k).sum ≤ (zs.take k).length * 65536 := sum_le_mul fun z hz => (hr z (List.mem_of_mem_take hz)).2
    have hb3 : (zs.take k).length ≤ k := List.length_take_le _ _
    have hnext : (zs.take (k + 1)).sum = (zs.take k).sum + zs[k] := by rw [List.take_succ_eq_append_getElem hk', List.sum_append]; simp
    rw [hz] at c1
    refine v_skip ?_
    refine v_seq ?_
    refine v_block ?_
    refine v_region ?_
    refine vl_val (os_move rfl) ?_
    refine vl_val (os_move rfl) ?_
    refine vl_val (os_move rfl) ?_
    refine vl_val (os_ix Try.underlying37 Try.sizeOf3 rfl rfl (i := k) (by omega) (by omega)) ?_
    refine vl_val (os_load Try.isAgg3 rfl (c1)) ?_
    refine vl_val (os_addi rfl rfl (by omega)) ?_
    refine vl_val (os_assign rfl) ?_
    refine vl_nil ?_
    refine v_region ?_
    refine vl_val (os_move rfl) ?_
    refine vl_val (os_addi rfl rfl (by omega)) ?_
    refine vl_val (os_assign rfl) ?_
    refine vl_nil ?_
    exact ⟨k + 1, ⟨rfl, trivial⟩, ⟨by rw [hnext]; rfl, rfl, trivial⟩, ⟨by omega, rfl⟩, by dsimp only; omega⟩
  · obtain rfl : k = n := by omega
    refine v_exit ?_
    refine v_seq ?_
    refine v_region ?_
    refine vl_val (os_move rfl) ?_
    refine vl_val (os_assign rfl) ?_
    refine vl_nil ?_
    refine v_ret ?_
    exact post_ret rfl rfl (⟨by rw [hn, List.take_length], rfl⟩)
end Go.Proofs.Ytpcfifheegfjiaa
