/- Layer 7: the walk of SumParts. -/
import Derived.Test.YtpcfifheegfjiaaCrcL
import Derived.Test.YtpcfifheegfjiaaV4
namespace Go.Proofs.Ytpcfifheegfjiaa
open Go.RowKit
set_option linter.unusedVariables false

def xorZ (xs ys : List Int) (i : Nat) : Int := ((BitVec.ofInt 8 (xs.getD i 0) ^^^ BitVec.ofInt 8 (ys.getD i 0)).toNat : Int)
def xorTo (xs ys : List Int) (n k : Nat) : List Int := (List.range n).map fun i => if i < k then xorZ xs ys i else 0
theorem xorTo_zero (xs ys : List Int) (n : Nat) : xorTo xs ys n 0 = List.replicate n 0 := by
  apply List.ext_getElem <;> simp [xorTo]
theorem xorTo_set (xs ys : List Int) {n k : Nat} (hk : k < n) : (xorTo xs ys n k).set k (xorZ xs ys k) = xorTo xs ys n (k + 1) := by
  apply List.ext_getElem
  · simp [xorTo]
  · intro i h1 h2
    rw [List.getElem_set]
    simp only [xorTo, List.getElem_map, List.getElem_range]
    by_cases h : k = i
    · subst h; simp
    · rw [if_neg h]
      by_cases h3 : i < k
      · rw [if_pos h3, if_pos (by omega)]
      · rw [if_neg h3, if_neg (by omega)]
theorem xorTo_at (xs ys : List Int) {n i : Nat} (hi : i < n) : BitVec.ofInt 8 ((xorTo xs ys n n).getD i 0) = BitVec.ofInt 8 (xs.getD i 0) ^^^ BitVec.ofInt 8 (ys.getD i 0) := by
  have : (xorTo xs ys n n).getD i 0 = xorZ xs ys i := by simp [xorTo, hi]
  rw [this]
  exact u8_of _
theorem xorTo_len (xs ys : List Int) (n k : Nat) : (xorTo xs ys n k).length = n := by simp [xorTo]
theorem xorZ_bd (xs ys : List Int) (i : Nat) : 0 ≤ xorZ xs ys i ∧ xorZ xs ys i ≤ 255 := by
  unfold xorZ
  have := (BitVec.ofInt 8 (xs.getD i 0) ^^^ BitVec.ofInt 8 (ys.getD i 0)).isLt
  omega
theorem xorTo_B (xs ys : List Int) (n k : Nat) : AllB (xorTo xs ys n k) := by
  intro z hz
  simp only [xorTo, List.mem_map] at hz
  obtain ⟨i, _, rfl⟩ := hz
  split
  · exact xorZ_bd xs ys i
  · omega

theorem u8_of_bd {z : Int} (h : 0 ≤ z ∧ z ≤ 255) : z = ((BitVec.ofInt 8 z).toNat : Int) := by
  rw [BitVec.toNat_ofInt]; omega
/-- a list of lists that a region lays -/
def IsRows (k : IntKind) (l : Nat) (ls : List (List Int)) : Fact := fun v w => ∃ A c, v = .slice A l c ∧ RdS w k A ls
theorem isRows_stable (k : IntKind) (l : Nat) (ls : List (List Int)) : Stable LeG (IsRows k l ls) := fun v w w' h ⟨A, c, e, r⟩ => ⟨A, c, e, r.keep h⟩

set_option maxHeartbeats 1000000 in
theorem law07_SumParts (A B : Option Addr) (n c m d : Nat) (xs ys : List Int) (at_ also : Int) (w : World) (ha : Rd w .u8 A xs) (hb : Rd w .u8 B ys) (hn : n = xs.length) (hm : m = ys.length)
    (hnc : n ≤ c) (hmd : m ≤ d) (hc : c ≤ 140737488351232) (hd : d ≤ 140737488351232) (hx : AllB xs) (hy : AllB ys) :
    Gives Try.prog 3 #[.slice A n c, .slice B m d, .int .i64 at_, .int .i64 also] w fun v w' => v = .bool true ∧ Below w.heap.size w w' := by
  refine gives_enter Try.call3 Try.func3 rfl rfl rfl (by kernel_rfl) ?_
  refine v_seq ?_
  refine v_region ?_
  refine vl_val (os_assign rfl) ?_
  refine vl_nil ?_
  refine v_seq ?_
  refine v_seq ?_
  refine v_region ?_
  refine vl_call (law07_awake w) rfl ?_
  rintro v1 w1 ⟨rfl, hb1⟩
  refine vl_val (os_not rfl) ?_
  refine vl_nil ?_
  refine v_cond_f rfl ?_
  refine v_skip ?_
  refine v_seq ?_
  refine v_seq ?_
  refine v_region ?_
  refine vl_val (os_move rfl) ?_
  refine vl_val (os_len Try.underlying22 rfl) ?_
  refine vl_val (os_move rfl) ?_
  refine vl_val (os_len Try.underlying22 rfl) ?_
  refine vl_val (os_addi rfl rfl (by omega)) ?_
  refine vl_val (os_gtr rfl rfl) ?_
  refine vl_nil ?_
  refine v_cond_d rfl (fun hbig => ?_) (fun hbig => ?_)
  · refine v_seq ?_
    refine v_region ?_
    refine vl_val (os_assign rfl) ?_
    refine vl_nil ?_
    refine v_ret ?_
    exact post_ret rfl rfl (⟨rfl, hb1⟩)
  · have ha1 := ha.keep hb1
    have hy1 := hb.keep hb1
    refine v_skip ?_
    refine v_seq ?_
    refine v_region ?_
    refine vl_val (os_move rfl) ?_
    refine vl_val (os_move rfl) ?_
    refine vl_val (os_len Try.underlying22 rfl) ?_
    refine vl_val (os_addi rfl rfl (by omega)) ?_
    refine vl_call (kit_Pick at_ (n + 1) _ (by omega)) rfl ?_
    rintro v2 w1 ⟨rfl, rfl⟩
    refine vl_val (os_move rfl) ?_
    refine vl_val (os_move rfl) ?_
    refine vl_val (os_len Try.underlying22 rfl) ?_
    refine vl_val (os_addi rfl rfl (by omega)) ?_
    refine vl_call (kit_Pick also (n + 1) _ (by omega)) rfl ?_
    rintro v3 w1 ⟨rfl, rfl⟩
    have p1 : 0 ≤ pickV at_ (n + 1) ∧ pickV at_ (n + 1) ≤ n := by unfold pickV; rw [if_neg (by omega)]; have := Int.emod_nonneg at_ (show (n : Int) + 1 ≠ 0 by omega); have := Int.emod_lt_of_pos at_ (show 0 < (n : Int) + 1 by omega); omega
    have p2 : 0 ≤ pickV also (n + 1) ∧ pickV also (n + 1) ≤ n := by unfold pickV; rw [if_neg (by omega)]; have := Int.emod_nonneg also (show (n : Int) + 1 ≠ 0 by omega); have := Int.emod_lt_of_pos also (show 0 < (n : Int) + 1 by omega); omega
    refine vl_val (os_assign rfl) ?_
    refine vl_val (os_assign rfl) ?_
    refine vl_nil ?_
    refine v_seq ?_
    refine v_region ?_
    refine vl_val (os_move rfl) ?_
    refine vl_val (os_move rfl) ?_
    refine vl_val (os_min rfl rfl) ?_
    refine vl_val (os_move rfl) ?_
    refine vl_val (os_move rfl) ?_
    refine vl_val (os_max rfl rfl) ?_
    refine vl_val (os_assign rfl) ?_
    refine vl_val (os_assign rfl) ?_
    refine vl_nil ?_
    refine v_seq ?_
    refine v_region ?_
    refine vl_val (os_move rfl) ?_
    refine vl_val (os_lit Try.underlying77 Try.sizeOf22 Try.zeroValue22 rfl rfl rfl rfl (by decide)) ?_
    refine vl_call (sum_Of _ _ _ [xs] _ (rds_lit' _ .u8 _ [(A, n, c, xs)] (by intro x hx; simp at hx; subst hx; exact ⟨ha1, hn, hnc, hc⟩)) rfl (by simp) (by intro l hl; simp at hl; subst hl; exact hx)) rfl ?_
    rintro v4 w4 ⟨rfl, hb4⟩
    have hb4w : Below w.heap.size w w4 := (hb1.alloc hb1.size _).trans (hb4.mono (by simp; have := hb1.size; omega))
    have ha4 := ha.keep hb4w
    have hy4 := hb.keep hb4w
    obtain ⟨lo, hlo⟩ : ∃ lo : Nat, min (pickV at_ (n + 1)) (pickV also (n + 1)) = lo := ⟨(min (pickV at_ (n + 1)) (pickV also (n + 1))).toNat, by omega⟩
    obtain ⟨hi, hhi⟩ : ∃ hi : Nat, max (pickV at_ (n + 1)) (pickV also (n + 1)) = hi := ⟨(max (pickV at_ (n + 1)) (pickV also (n + 1))).toNat, by omega⟩
    rw [hlo, hhi]
    have hlh : lo ≤ hi ∧ hi ≤ n := by omega
    clear hlo hhi p1 p2
    refine vl_val (os_assign rfl) ?_
    refine vl_nil ?_
    refine v_seq ?_
    refine v_seq ?_
    refine v_region_t LeG _ mixed (by kernel_rfl) lee_g (leg_start _) ?_
    refine vt_val (fun w hw => os_move rfl) ?_
    refine vt_val (fun w hw => os_move rfl) ?_
    refine vt_val (fun w hw => os_slice_h Try.underlying22 Try.sizeOf5 rfl rfl (h := lo) (by omega) (by omega)) ?_
    refine vt_val (fun w hw => os_move rfl) ?_
    refine vt_val (fun w hw => os_move rfl) ?_
    refine vt_val (fun w hw => os_move rfl) ?_
    refine vt_val (fun w hw => os_slice_lh Try.underlying22 Try.sizeOf5 rfl rfl (i := lo) (by omega) rfl (j := hi) (by omega) (by omega) (by omega)) ?_
    refine vt_val (fun w hw => os_move rfl) ?_
    refine vt_val (fun w hw => os_move rfl) ?_
    refine vt_val (fun w hw => os_slice_l Try.underlying22 Try.sizeOf5 rfl rfl (i := hi) (by omega) (by omega)) ?_
    refine vt_new (IsRows .u8 4 [xs.take lo, (xs.drop lo).take (hi - lo), [], xs.drop hi]) (isRows_stable _ _ _) (fun w hw => os_lit Try.underlying77 Try.sizeOf22 Try.zeroValue22 rfl rfl rfl rfl (by decide)) (fun w hw => ⟨below_text _ _, _, _, rfl, rds_lit' _ .u8 _ [(A, lo, c, xs.take lo), ((if c = lo then A else A.map (·.add (lo * 1))), hi - lo, c - lo, (xs.drop lo).take (hi - lo)), (none, 0, 0, []), ((if c = hi then A else A.map (·.add (hi * 1))), n - hi, c - hi, xs.drop hi)] (by intro x hx; simp only [List.mem_cons, List.not_mem_nil, or_false] at hx; rcases hx with rfl | rfl | rfl | rfl; exact ⟨(ha4.keep hw).take lo, by simp; omega, by simp; omega, hc⟩; exact ⟨((ha4.keep hw).sliced (c := c) (i := lo) (by omega)).take _, by simp; omega, by simp; omega, by simp; omega⟩; exact ⟨Rd.nil, rfl, by simp, by simp⟩; exact ⟨(ha4.keep hw).sliced (c := c) (i := hi) (by omega), by simp; omega, by simp; omega, by simp; omega⟩)⟩) ?_
    refine vt_callu 54 (.int .u32 ((crcOf [xs]).toNat : Int)) rfl (fun u w hw ⟨A', c', e, hr⟩ => ⟨_, rfl, by subst e; exact (sum_Of A' 4 c' _ w hr rfl (by simp) (by intro l hl z hz; simp at hl; rcases hl with rfl | rfl | rfl | rfl; exact hx z (List.mem_of_mem_take hz); exact hx z (List.mem_of_mem_drop (List.mem_of_mem_take hz)); cases hz; exact hx z (List.mem_of_mem_drop hz))).mono fun v w' hh => ⟨by rw [hh.1, crcOf_parts xs hlh.1], hh.2⟩⟩) ?_
    refine vt_val (fun w hw => os_move rfl) ?_
    refine vt_val (fun w hw => os_f (os_neq rfl rfl) (by simp)) ?_
    refine vt_val (fun w hw => os_move rfl) ?_
    refine vt_valg rfl (fun w hw => os_move rfl) ?_
    refine vt_valg rfl (fun w hw => os_move rfl) ?_
    refine vt_valg rfl (fun w hw => os_slice_h Try.underlying22 Try.sizeOf5 rfl rfl (h := lo) (by omega) (by omega)) ?_
    refine vt_new (IsRows .u8 1 [xs.take lo]) (isRows_stable _ _ _) (fun w hw => os_lit Try.underlying77 Try.sizeOf22 Try.zeroValue22 rfl rfl rfl rfl (by decide)) (fun w hw => ⟨below_text _ _, _, _, rfl, rds_lit' _ .u8 _ [(A, lo, c, xs.take lo)] (by intro x hx; simp at hx; subst hx; exact ⟨(ha4.keep hw).take lo, by simp; omega, by simp; omega, hc⟩)⟩) ?_
    refine vt_callu 62 (.int .u32 ((crcOf [xs.take lo]).toNat : Int)) rfl (fun u w hw ⟨A', c', e, hr⟩ => ⟨_, rfl, by subst e; exact (sum_Of A' 1 c' _ w hr rfl (by simp) (by intro l hl z hz; simp at hl; subst hl; exact hx z (List.mem_of_mem_take hz)))⟩) ?_
    refine vt_valg rfl (fun w hw => os_move rfl) ?_
    refine vt_valg rfl (fun w hw => os_move rfl) ?_
    refine vt_valg rfl (fun w hw => os_slice_l Try.underlying22 Try.sizeOf5 rfl rfl (i := lo) (by omega) (by omega)) ?_
    refine vt_callg rfl (v := _) (fun w hw => (sum_Go (crcOf [xs.take lo]) _ _ _ (xs.drop lo) w ((ha4.keep hw).sliced (c := c) (i := lo) (by omega)) (by simp; omega) (by omega) (fun z hz => hx z (List.mem_of_mem_drop hz))).mono fun v w' hh => ⟨by rw [hh.1, crcGo_parts], hh.2⟩) rfl ?_
    refine vt_valg rfl (fun w hw => os_move rfl) ?_
    refine vt_valg rfl (fun w hw => os_f (os_neq rfl rfl) (by simp)) ?_
    refine vt_val (fun w hw => os_pick_f rfl rfl) ?_
    refine vt_val (fun w hw => os_move rfl) ?_
    refine vt_valg rfl (fun w hw => os_move rfl) ?_
    refine vt_callg rfl (v := _) (fun w hw => (sum_Go 0#32 A n c xs w (ha4.keep hw) hn (by omega) hx)) rfl ?_
    refine vt_valg rfl (fun w hw => os_move rfl) ?_
    refine vt_valg rfl (fun w hw => os_f (os_neq rfl rfl) (by rw [crcOf_one]; simp)) ?_
    refine vt_val (fun w hw => os_pick_f rfl rfl) ?_
    refine vt_nil (fun Hw H => ?_)
    intro u2 hu2 u1 hu1
    refine v_cond_f rfl ?_
    refine v_skip ?_
    refine v_seq ?_
    refine v_seq ?_
    refine v_region ?_
    refine vl_val (os_move rfl) ?_
    refine vl_val (os_len Try.underlying22 rfl) ?_
    refine vl_val (os_move rfl) ?_
    refine vl_val (os_len Try.underlying22 rfl) ?_
    refine vl_val (os_neq rfl rfl) ?_
    refine vl_nil ?_
    refine v_cond_d rfl (fun hnm => ?_) (fun hnm => ?_)
    · refine v_seq ?_
      refine v_region ?_
      refine vl_val (os_assign rfl) ?_
      refine vl_nil ?_
      refine v_ret ?_
      exact post_ret rfl rfl (⟨rfl, hb4w.trans (H.mono (by have := hb4w.size; omega))⟩)
    · have hnm' : n = m := by omega
      have hbH : Below w.heap.size w Hw := hb4w.trans (H.mono (by have := hb4w.size; omega))
      refine v_skip ?_
      refine v_mid2 [(0, _), (1, _), (13, _)] (fun (dv : Value) (zv : Value) => [(14, dv), (15, zv)]) (fun dv zv w' => ∃ g1 g2, g1 ≠ g2 ∧ dv = .slice (some ⟨g1, 0, none⟩) n n ∧ zv = .slice (some ⟨g2, 0, none⟩) n n ∧ OwnK w' Hw.heap.size 5 .u8 dv (List.replicate n 0) ∧ OwnK w' Hw.heap.size 5 .u8 zv (List.replicate n 0) ∧ Below Hw.heap.size Hw w') ⟨rfl, rfl, rfl, trivial⟩ ?_ ?_
      · refine v_region_a mixed ?_
        refine va_take 0 rfl (by kernel_rfl) (by kernel_rfl) (by kernel_rfl) (fun w => os_move rfl) ?_
        refine va_take 1 rfl (by kernel_rfl) (by kernel_rfl) (by kernel_rfl) (fun w => os_len Try.underlying22 rfl) ?_
        refine va_take 3 rfl (by kernel_rfl) (by kernel_rfl) (by kernel_rfl) (fun w => os_move rfl) ?_
        refine va_take 4 rfl (by kernel_rfl) (by kernel_rfl) (by kernel_rfl) (fun w => os_len Try.underlying22 rfl) ?_
        have hbD : Below Hw.heap.size Hw { Hw with drawn := Hw.drawn + 1 } := (Below.refl _ _).drew
        refine va_all [2, 5] (by kernel_rfl) (by simp) ?_
        intro i hi
        simp only [List.mem_cons, List.not_mem_nil, or_false] at hi
        rcases hi with rfl | rfl
        · refine va_some 2 rfl (ot_make Try.underlying22 ti_u8 rfl rfl rfl rfl rfl (by omega) (by simp [maxLen]; omega) Hw.heap.size (by simp)) ?_
          rintro v wa ⟨rfl, ho1, hg1⟩
          have hba : Below Hw.heap.size Hw wa := hbD.grown hg1 (by simp) (fun k hk => by cases hk)
          refine va_take 6 rfl (by kernel_rfl) (by kernel_rfl) (by kernel_rfl) (fun w => os_assign rfl) ?_
          refine va_all [5] (by kernel_rfl) (by simp) ?_
          intro i hi
          simp only [List.mem_cons, List.not_mem_nil, or_false] at hi
          subst hi
          refine va_some 5 rfl (ot_make Try.underlying22 ti_u8 rfl rfl rfl rfl rfl (by omega) (by simp [maxLen]; omega) Hw.heap.size hba.size) ?_
          rintro v wb ⟨rfl, ho2, hg2⟩
          have hbb : Below Hw.heap.size Hw wb := hba.grown hg2 hba.size (fun k hk => by cases hk)
          have h12 := (World.ownsRow.lt ho1 _ rfl).2
          refine va_take 7 rfl (by kernel_rfl) (by kernel_rfl) (by kernel_rfl) (fun w => os_assign rfl) ?_
          refine va_done (by kernel_rfl) ?_
          have ho1b := Own.other ho1 hg2 (.inr (by simp [Value.ownBlock]))
          have e0 : (List.replicate n 0).map (Value.int .u8) = List.replicate n (Value.int .u8 0) := by simp
          exact ⟨(_, _), ⟨rfl, rfl, rfl, trivial⟩, ⟨rfl, rfl, trivial⟩, _, _, (by dsimp only at h12 ⊢; omega), rfl, rfl, by unfold OwnK; rw [e0]; exact ho1b, by unfold OwnK; rw [e0]; exact ho2, hbb⟩
        · refine va_some 5 rfl (ot_make Try.underlying22 ti_u8 rfl rfl rfl rfl rfl (by omega) (by simp [maxLen]; omega) Hw.heap.size (by simp)) ?_
          rintro v wa ⟨rfl, ho1, hg1⟩
          have hba : Below Hw.heap.size Hw wa := hbD.grown hg1 (by simp) (fun k hk => by cases hk)
          refine va_all [2] (by kernel_rfl) (by simp) ?_
          intro i hi
          simp only [List.mem_cons, List.not_mem_nil, or_false] at hi
          subst hi
          refine va_some 2 rfl (ot_make Try.underlying22 ti_u8 rfl rfl rfl rfl rfl (by omega) (by simp [maxLen]; omega) Hw.heap.size hba.size) ?_
          rintro v wb ⟨rfl, ho2, hg2⟩
          have hbb : Below Hw.heap.size Hw wb := hba.grown hg2 hba.size (fun k hk => by cases hk)
          have h12 := (World.ownsRow.lt ho1 _ rfl).2
          refine va_take 6 rfl (by kernel_rfl) (by kernel_rfl) (by kernel_rfl) (fun w => os_assign rfl) ?_
          refine va_take 7 rfl (by kernel_rfl) (by kernel_rfl) (by kernel_rfl) (fun w => os_assign rfl) ?_
          refine va_done (by kernel_rfl) ?_
          have ho1b := Own.other ho1 hg2 (.inr (by simp [Value.ownBlock]))
          have e0 : (List.replicate n 0).map (Value.int .u8) = List.replicate n (Value.int .u8 0) := by simp
          exact ⟨(_, _), ⟨rfl, rfl, rfl, trivial⟩, ⟨rfl, rfl, trivial⟩, _, _, (by dsimp only at h12 ⊢; omega), rfl, rfl, by unfold OwnK; rw [e0]; exact ho2, by unfold OwnK; rw [e0]; exact ho1b, hbb⟩
      · rintro dv zv w5 ⟨g1, g2, hg, rfl, rfl, hdm, hzm, hbm⟩
        have hbM : Below w.heap.size w w5 := hbH.trans (hbm.mono hbH.size)
        have hg1 : Hw.heap.size ≤ g1 ∧ g1 < w5.heap.size := World.ownsRow.lt hdm g1 rfl
        have hg2 : Hw.heap.size ≤ g2 ∧ g2 < w5.heap.size := World.ownsRow.lt hzm g2 rfl
        refine v_seq ?_
        refine v_seq ?_
        refine v_region ?_
        refine vl_val (os_assign rfl) ?_
        refine vl_nil ?_
        refine v_block ?_
        refine v_loop [(0, _), (1, _), (13, _), (14, _), (15, _)] (fun (k : Nat) => [(16, .int .i64 k)]) (fun k w' => k ≤ n ∧ OwnK w' Hw.heap.size 5 .u8 (.slice (some ⟨g1, 0, none⟩) n n) (xorTo xs ys n k) ∧ OwnK w' Hw.heap.size 5 .u8 (.slice (some ⟨g2, 0, none⟩) n n) (List.replicate n 0) ∧ Below Hw.heap.size Hw w') (fun k => n - k) (0) ⟨rfl, rfl, rfl, rfl, rfl, trivial⟩ ⟨rfl, trivial⟩ (⟨by omega, by rw [xorTo_zero]; exact hdm, hzm, hbm⟩) ?_
        rintro k w' ⟨hk, hdk, hzk, hbk⟩
        refine v_seq ?_
        refine v_seq ?_
        refine v_region ?_
        refine vl_val (os_move rfl) ?_
        refine vl_val (os_move rfl) ?_
        refine vl_val (os_len Try.underlying22 rfl) ?_
        refine vl_val (os_lss rfl rfl) ?_
        refine vl_nil ?_
        refine v_cond_d rfl (fun h => ?_) (fun h => ?_)
        · have h' : k < n := by omega
          obtain ⟨ba, oa, rfl, hca⟩ := ha.keep hbH (by omega)
          obtain ⟨bb, ob, rfl, hcb⟩ := hb.keep hbH (by omega)
          have hba : ba < Hw.heap.size := World.block_lt_of_cell? _ _ (hca k (by omega))
          have hbb : bb < Hw.heap.size := World.block_lt_of_cell? _ _ (hcb k (by omega))
          refine v_skip ?_
          refine v_seq ?_
          refine v_block ?_
          refine v_region_t (LeS (⟨g1, 0 + k, none⟩) (.int .u8 (xorZ xs ys k))) _ mixed (by kernel_rfl) (lee_s _ _) (les_start _ _ _) ?_
          refine vt_val (fun w hw => os_move rfl) ?_
          refine vt_val (fun w hw => os_move rfl) ?_
          refine vt_val (fun w hw => os_move rfl) ?_
          refine vt_val (fun w hw => os_move rfl) ?_
          refine vt_val (fun w hw => os_ix Try.underlying22 Try.sizeOf5 rfl rfl (i := k) (by omega) (by omega)) ?_
          refine vt_val (fun w hw => os_load Try.isAgg5 rfl (les_cell hw (fun e => by have := congrArg Addr.block e; dsimp only at this; omega) ((leb_cell hbk hba (hca k (by omega)))))) ?_
          refine vt_val (fun w hw => os_move rfl) ?_
          refine vt_val (fun w hw => os_move rfl) ?_
          refine vt_val (fun w hw => os_ix Try.underlying22 Try.sizeOf5 rfl rfl (i := k) (by omega) (by omega)) ?_
          refine vt_val (fun w hw => os_load Try.isAgg5 rfl (les_cell hw (fun e => by have := congrArg Addr.block e; dsimp only at this; omega) ((leb_cell hbk hbb (hcb k (by omega)))))) ?_
          refine vt_val (fun w hw => os_xor8 (BitVec.ofInt 8 (xs.getD k 0)) (BitVec.ofInt 8 (ys.getD k 0)) rfl (by have := hx.at_ k; exact u8_of_bd this) rfl (by have := hy.at_ k; exact u8_of_bd this)) ?_
          refine vt_val (fun w hw => os_ix Try.underlying22 Try.sizeOf5 rfl rfl (i := k) (by omega) (by omega)) ?_
          refine vt_store Try.sizeOf5 rfl rfl rfl ((OwnK.cell hdk (by rw [xorTo_len]; omega))) ((Own.free hdk _)) ?_
          refine vt_nilg (fun w hw hg => ?_)
          obtain ⟨-, -, q, rfl⟩ := hg
          refine v_region ?_
          refine vl_val (os_move rfl) ?_
          refine vl_val (os_addi rfl rfl (by omega)) ?_
          refine vl_val (os_assign rfl) ?_
          refine vl_nil ?_
          exact ⟨k + 1, ⟨rfl, rfl, rfl, rfl, rfl, trivial⟩, ⟨rfl, trivial⟩, ⟨by omega, by rw [Nat.zero_add, ← xorTo_set xs ys h']; exact Own.led (OwnK.set hdk k _) ⟨q, rfl⟩, Own.led (Own.setOther hzk (fun g' e => by have : g2 = g' := (by simpa [Value.ownBlock] using e); omega) _ _) ⟨q, rfl⟩, (below_set hbk hg1.1 _ _).trans (led_below ⟨q, rfl⟩)⟩, by dsimp only; omega⟩
        · obtain rfl : n = k := by omega
          have hbN : Below w.heap.size w w' := hbH.trans (hbk.mono hbH.size)
          refine v_exit ?_
          refine v_seq ?_
          refine v_region ?_
          refine vl_val (os_move rfl) ?_
          refine vl_val (os_move rfl) ?_
          refine vl_val (os_lit Try.underlying77 Try.sizeOf22 Try.zeroValue22 rfl rfl rfl rfl (by decide)) ?_
          refine vl_call (sum_Of _ _ _ [ys] _ (rds_lit' _ .u8 _ [(B, m, d, ys)] (by intro x hx; simp only [List.mem_cons, List.not_mem_nil, or_false] at hx; subst hx; exact ⟨hb.keep hbN, hm, hmd, hd⟩)) rfl (by simp) (by intro l hl; simp only [List.mem_cons, List.not_mem_nil, or_false] at hl; subst hl; exact hy)) rfl ?_
          rintro v6 w6 ⟨rfl, hb6⟩
          have hb6w : Below w'.heap.size w' w6 := ((Below.refl _ _).alloc (Nat.le_refl _) _).trans (hb6.mono (by simp))
          have hd6 := OwnK.rd (Own.keepAll hdk hb6w)
          have hz6 := OwnK.rd (Own.keepAll hzk hb6w)
          refine vl_val (os_xor32 (crcOf [xs]) (crcOf [ys]) rfl rfl rfl rfl) ?_
          refine vl_val (os_move rfl) ?_
          refine vl_val (os_lit Try.underlying77 Try.sizeOf22 Try.zeroValue22 rfl rfl rfl rfl (by decide)) ?_
          refine vl_call (sum_Of _ _ _ [xorTo xs ys n n] _ (rds_lit' _ .u8 _ [(some ⟨g1, 0, none⟩, n, n, xorTo xs ys n n)] (by intro x hx; simp only [List.mem_cons, List.not_mem_nil, or_false] at hx; subst hx; exact ⟨hd6, (xorTo_len ..).symm, Nat.le_refl _, by dsimp only; omega⟩)) rfl (by simp) (by intro l hl; simp only [List.mem_cons, List.not_mem_nil, or_false] at hl; subst hl; exact xorTo_B _ _ _ _)) rfl ?_
          rintro v7 w7 ⟨rfl, hb7⟩
          have hb7w : Below w6.heap.size w6 w7 := ((Below.refl _ _).alloc (Nat.le_refl _) _).trans (hb7.mono (by simp))
          refine vl_val (os_move rfl) ?_
          refine vl_val (os_lit Try.underlying77 Try.sizeOf22 Try.zeroValue22 rfl rfl rfl rfl (by decide)) ?_
          refine vl_call (sum_Of _ _ _ [List.replicate n 0] _ (rds_lit' _ .u8 _ [(some ⟨g2, 0, none⟩, n, n, List.replicate n 0)] (by intro x hx; simp only [List.mem_cons, List.not_mem_nil, or_false] at hx; subst hx; exact ⟨hz6.keep hb7w, (by simp), Nat.le_refl _, by dsimp only; omega⟩)) rfl (by simp) (by intro l hl; simp only [List.mem_cons, List.not_mem_nil, or_false] at hl; subst hl; intro z hz; rw [List.eq_of_mem_replicate hz]; omega)) rfl ?_
          rintro v8 w8 ⟨rfl, hb8⟩
          have hb8w : Below w7.heap.size w7 w8 := ((Below.refl _ _).alloc (Nat.le_refl _) _).trans (hb8.mono (by simp))
          refine vl_val (os_xor32 (crcOf [xorTo xs ys n n]) (crcOf [List.replicate n 0]) rfl rfl rfl rfl) ?_
          refine vl_val (os_eql rfl rfl) ?_
          refine vl_val (os_assign rfl) ?_
          refine vl_nil ?_
          refine v_ret ?_
          exact post_ret rfl rfl (⟨by rw [crcOf_diff xs ys (xorTo xs ys n n) (List.replicate n 0) (by omega) (by rw [xorTo_len]; omega) (by simp; omega) (fun i hi => xorTo_at _ _ (by omega)) (fun i hi => by simp [show i < n by omega])]; simp, hbN.trans ((hb6w.trans (hb7w.mono hb6w.size)).trans (hb8w.mono (Nat.le_trans hb6w.size hb7w.size)) |>.mono hbN.size)⟩)
end Go.Proofs.Ytpcfifheegfjiaa
