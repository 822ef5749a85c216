/- Layer 8: the walk of PackBack. -/
import Derived.Test.YtpcfifheegfjiaaPkM
namespace Go.Proofs.Ytpcfifheegfjiaa
open Go.RowKit
set_option linter.unusedVariables false

theorem flat_drop {ds : List DoV} {i : Nat} {d : DoV} (hd : ds[i]? = some d) : (ds.drop i).flatMap itB = itB d ++ (ds.drop (i + 1)).flatMap itB := by
  obtain ⟨hi, rfl⟩ := List.getElem?_eq_some_iff.1 hd
  rw [List.drop_eq_getElem_cons hi, List.flatMap_cons]
theorem itB_Y {w : World} {d : DoV} (h : DoOk w d) : AllY (itB d) := by
  unfold itB
  split
  · exact numBytes_Y _ _
  · exact h.y
theorem flat_Y {w : World} {ds : List DoV} (h : ∀ d ∈ ds, DoOk w d) : AllY (ds.flatMap itB) := fun z hz => by
  obtain ⟨d, hd, h1⟩ := List.mem_flatMap.1 hz
  exact itB_Y (h d hd) z h1
theorem RrS.lo {w : World} {B g : Nat} {v : Value} {bs : List Int} {e : Int} (h : RrS w B g v bs e) : ∀ k ∈ [g], B ≤ k := by
  intro k hk
  rw [List.mem_singleton.1 hk]; exact h.low
/-- a reader of the first k of tot bytes, con of which have been asked for -/
def CutInv (k tot con : Nat) (bs : List Int) (e : Int) : Prop := AllY bs ∧ bs.length ≤ tot ∧ ((e = 0 ∧ con + bs.length = k) ∨ (e ≠ 0 ∧ k < tot))
theorem cut_num {k tot con sz : Nat} {bs : List Int} {e : Int} (h : CutInv k tot con bs e) (hs : 1 ≤ sz ∧ sz ≤ 4) (ht : con + sz ≤ tot) : CutInv k tot (con + sz) (if rnOk e sz bs then bs.drop (sz : Int).toNat else bs) (rnErr e sz bs) := by
  obtain ⟨h1, h2, h3⟩ := h
  rw [Int.toNat_natCast]
  rcases h3 with ⟨rfl, h3⟩ | ⟨he, h3⟩
  · by_cases hl : sz ≤ bs.length
    · have hok : rnOk 0 sz bs = true := decide_eq_true ⟨rfl, by omega, by omega, by omega⟩
      rw [if_pos hok, rnErr, if_pos rfl, if_pos (show 1 ≤ (sz : Int) ∧ (sz : Int) ≤ 4 by omega), if_pos (show (sz : Int) ≤ (bs.length : Int) by omega)]
      exact ⟨h1.drop _, by rw [List.length_drop]; omega, .inl ⟨rfl, by rw [List.length_drop]; omega⟩⟩
    · rw [if_neg (by rw [rnOk, decide_eq_true_iff]; omega), rnErr, if_pos rfl, if_pos (show 1 ≤ (sz : Int) ∧ (sz : Int) ≤ 4 by omega), if_neg (show ¬ (sz : Int) ≤ (bs.length : Int) by omega)]
      exact ⟨h1, h2, .inr ⟨by omega, by omega⟩⟩
  · rw [if_neg (by rw [rnOk, decide_eq_true_iff]; exact fun hh => he hh.1), rnErr, if_neg he]
    exact ⟨h1, h2, .inr ⟨he, h3⟩⟩
theorem cut_take {k tot con l : Nat} {bs : List Int} {e : Int} (h : CutInv k tot con bs e) (ht : con + l ≤ tot) : CutInv k tot (con + l) (if takeOk e l bs then bs.drop (l : Int).toNat else bs) (takeErr e l bs) := by
  obtain ⟨h1, h2, h3⟩ := h
  rw [Int.toNat_natCast]
  rcases h3 with ⟨rfl, h3⟩ | ⟨he, h3⟩
  · by_cases hl : l ≤ bs.length
    · have hok : takeOk 0 l bs = true := decide_eq_true ⟨rfl, by omega, by omega⟩
      rw [if_pos hok, takeErr, if_pos rfl, if_neg (show ¬ (l : Int) < 0 by omega), if_pos (show (l : Int) ≤ (bs.length : Int) by omega)]
      exact ⟨h1.drop _, by rw [List.length_drop]; omega, .inl ⟨rfl, by rw [List.length_drop]; omega⟩⟩
    · rw [if_neg (by rw [takeOk, decide_eq_true_iff]; omega), takeErr, if_pos rfl, if_neg (show ¬ (l : Int) < 0 by omega), if_neg (show ¬ (l : Int) ≤ (bs.length : Int) by omega)]
      exact ⟨h1, h2, .inr ⟨by omega, by omega⟩⟩
  · rw [if_neg (by rw [takeOk, decide_eq_true_iff]; exact fun hh => he hh.1), takeErr, if_neg he]
    exact ⟨h1, h2, .inr ⟨he, h3⟩⟩
theorem pick_nat (cut : Int) (m : Nat) : ∃ k : Nat, pickV cut ((m : Int) + 1) = k ∧ k ≤ m := by
  refine ⟨(cut % ((m : Int) + 1)).toNat, ?_, ?_⟩
  · have := Int.emod_nonneg cut (show (m : Int) + 1 ≠ 0 by omega)
    rw [pickV, if_neg (by omega)]; omega
  · have := Int.emod_lt_of_pos cut (show 0 < (m : Int) + 1 by omega)
    omega
def conL (ds : List DoV) (i : Nat) : Nat := ((ds.take i).flatMap itB).length
theorem conL_succ {ds : List DoV} {i : Nat} {d : DoV} (hd : ds[i]? = some d) : conL ds (i + 1) = conL ds i + (itB d).length := by
  obtain ⟨hi, rfl⟩ := List.getElem?_eq_some_iff.1 hd
  rw [conL, List.take_succ_eq_append_getElem hi, List.flatMap_append, List.length_append]
  simp [conL]
theorem conL_le (ds : List DoV) (i : Nat) : conL ds i ≤ (ds.flatMap itB).length := by
  conv => rhs; rw [← List.take_append_drop i ds, List.flatMap_append, List.length_append]
  unfold conL; omega
set_option maxHeartbeats 4000000 in
theorem law08_PackBack (A : Option Addr) (n c : Nat) (ds : List DoV) (cut : Int) (w : World) (ha : RdDo w A ds) (hn : n = ds.length) (hm : n ≤ 140737488351232) :
    Gives Try.prog 14 #[.slice A n c, .int .i64 cut] w fun v w' => v = .bool true ∧ Below w.heap.size w w' := by
  have hlens : ∀ d ∈ ds, d.bs.length = d.l := fun d hd => (ha.each d hd).len
  refine gives_enter Try.call14 Try.func14 rfl rfl rfl (by kernel_rfl) ?_
  refine v_seq ?_
  refine v_region ?_
  refine vl_val (os_assign rfl) ?_
  refine vl_nil ?_
  refine v_seq ?_
  refine v_seq ?_
  refine v_region ?_
  refine vl_call (law08_awake w) rfl ?_
  rintro v1 w1 ⟨rfl, b1⟩
  refine vl_val (os_not rfl) ?_
  refine vl_nil ?_
  refine v_cond_f rfl ?_
  refine v_skip ?_
  refine v_seq ?_
  refine v_seq ?_
  refine v_region ?_
  refine vl_val (os_move rfl) ?_
  refine vl_call (law08_size A n c ds w1 (ha.keep b1) hn hm) rfl ?_
  rintro v2 w1 ⟨⟨N, rfl, hN⟩, rfl⟩
  refine vl_val (os_gtr rfl rfl) ?_
  refine vl_nil ?_
  refine v_cond_d rfl (fun hbig => ?_) (fun hbig => ?_)
  · refine v_seq ?_
    refine v_region ?_
    refine vl_val (os_assign rfl) ?_
    refine vl_nil ?_
    refine v_ret ?_
    exact post_ret rfl rfl (⟨rfl, b1⟩)
  · have hsz : ds.length + sumL ds ≤ 2000 := hN (by omega)
    have ha1 := ha.keep b1
    refine v_skip ?_
    refine v_seq ?_
    refine v_region ?_
    refine vl_call (pk_New w1) rfl ?_
    rintro u3 w3 ⟨g, rfl, h3, b3⟩
    refine vl_val (os_assign rfl) ?_
    refine vl_nil ?_
    refine v_seq ?_
    refine v_seq ?_
    refine v_region ?_
    refine vl_val (os_assign rfl) ?_
    refine vl_nil ?_
    refine v_block ?_
    refine v_loop [(0, _), (1, _), (5, _)] (fun (i : Nat) => [(6, .int .i64 i)]) (fun i w' => i ≤ n ∧ Below w1.heap.size w1 w' ∧ ∃ v', WrS w' w1.heap.size 113 g v' (wAll (ds.take i)).1 (wAll (ds.take i)).2) (fun i => n - i) (0) ⟨rfl, rfl, rfl, trivial⟩ ⟨rfl, trivial⟩ (⟨by omega, b3, .slice none 0 0, h3⟩) ?_
    rintro i w' ⟨hi, bw, v', hw⟩
    refine v_seq ?_
    refine v_seq ?_
    refine v_region ?_
    refine vl_val (os_move rfl) ?_
    refine vl_val (os_move rfl) ?_
    refine vl_val (os_len Try.underlying49 rfl) ?_
    refine vl_val (os_lss rfl rfl) ?_
    refine vl_nil ?_
    refine v_cond_d rfl (fun hlt => ?_) (fun hlt => ?_)
    · have hd : ds[i]? = some ds[i] := List.getElem?_eq_getElem (by omega)
      have hap := ha1.keep bw
      obtain ⟨b, o, rfl, hc, hk⟩ := hap.at_ hd
      have hlen := wAll_len ds hlens i (by omega)
      have hsl := sumL_le (ds := ds) i
      have hsl2 := sumL_le (ds := ds) (i + 1)
      rw [sumL_take hd] at hsl2
      refine v_skip ?_
      refine v_seq ?_
      refine v_block ?_
      refine v_region ?_
      refine vl_val (os_move rfl) ?_
      refine vl_val (os_move rfl) ?_
      refine vl_val (os_move rfl) ?_
      refine vl_val (os_ixs Try.underlying49 Try.sizeOf58 rfl rfl (i := i) (by omega) (by omega)) ?_
      refine vl_val (os_loadP Try.underlying58 rfl (by kernel_rfl) rfl hc) ?_
      refine vl_call (law08_put g v' (wAll (ds.take i)) ds[i] w1.heap.size w' hw hk bw.size (by omega)) rfl ?_
      rintro u4 w4 ⟨v4, h4, k4, o4⟩
      refine vl_nil ?_
      refine v_region ?_
      refine vl_val (os_move rfl) ?_
      refine vl_val (os_addi rfl rfl (by omega)) ?_
      refine vl_val (os_assign rfl) ?_
      refine vl_nil ?_
      exact ⟨i + 1, ⟨rfl, rfl, rfl, trivial⟩, ⟨rfl, trivial⟩, ⟨by omega, k4.below bw (blocks_low hw) bw.size, v4, by rw [wAll_snoc hd]; exact h4⟩, by dsimp only; omega⟩
    · obtain rfl : n = i := by omega
      have hlen := wAll_len ds hlens n (by omega)
      rw [List.take_of_length_le (by omega)] at hw hlen
      have hsl := sumL_le (ds := ds) n
      refine v_exit ?_
      refine v_seq ?_
      refine v_region ?_
      refine vl_val (os_move rfl) ?_
      refine vl_call (pk_Bytes g v' _ _ w1.heap.size w' hw (by omega)) rfl ?_
      rintro u4 w4 ⟨s4, rfl, o4, b4⟩
      have b14 := bw.trans (b4.mono bw.size)
      refine vl_val (os_move rfl) ?_
      refine vl_val (os_extract rfl rfl) ?_
      refine vl_val (os_extract rfl rfl) ?_
      refine vl_val (os_assign rfl) ?_
      refine vl_val (os_assign rfl) ?_
      refine vl_nil ?_
      rcases wAll_cases ds with ⟨hA, hok⟩ | hE
      · rw [hA] at o4 ⊢
        rw [hA] at hlen
        dsimp only at hlen
        rw [if_pos rfl] at o4
        dsimp only at o4
        obtain ⟨bs, hbs⟩ : ∃ bs, bs = ds.flatMap itB := ⟨_, rfl⟩
        have hY : AllY bs := hbs ▸ flat_Y ha.each
        rw [← hbs] at o4 hlen
        obtain ⟨A4, c4, rfl, hc4, _, r4, _⟩ := OwnK.form o4
        refine v_seq ?_
        refine v_seq ?_
        refine v_region ?_
        refine vl_val (os_move rfl) ?_
        refine vl_val (os_neq rfl rfl) ?_
        refine vl_nil ?_
        refine v_cond_no rfl (by simp) ?_
        refine v_skip ?_
        refine v_seq ?_
        refine v_region ?_
        refine vl_val (os_move rfl) ?_
        refine vl_call (pk_Over A4 _ c4 bs w4 r4 rfl (by omega)) rfl ?_
        rintro u5 w5 ⟨g5, v5, rfl, h5, b5⟩
        have b15 := b14.trans (b5.mono b14.size)
        refine vl_val (os_assign rfl) ?_
        refine vl_nil ?_
        refine v_seq ?_
        refine v_seq ?_
        refine v_region ?_
        refine vl_val (os_assign rfl) ?_
        refine vl_nil ?_
        refine v_block ?_
        refine v_loop [(0, _), (1, _), (7, _), (9, _)] (fun (i : Nat) => [(10, .int .i64 i)]) (fun i w' => i ≤ n ∧ Below w4.heap.size w4 w' ∧ ∃ v', RrS w' w4.heap.size g5 v' ((ds.drop i).flatMap itB) 0) (fun i => n - i) (0) ⟨rfl, rfl, rfl, rfl, trivial⟩ ⟨rfl, trivial⟩ (⟨by omega, b5, v5, by rw [List.drop_zero, ← hbs]; exact h5⟩) ?_
        rintro i w' ⟨hi, bw5, v', hr⟩
        refine v_seq ?_
        refine v_seq ?_
        refine v_region ?_
        refine vl_val (os_move rfl) ?_
        refine vl_val (os_move rfl) ?_
        refine vl_val (os_len Try.underlying49 rfl) ?_
        refine vl_val (os_lss rfl rfl) ?_
        refine vl_nil ?_
        refine v_cond_d rfl (fun hlt => ?_) (fun hlt => ?_)
        · have hd : ds[i]? = some ds[i] := List.getElem?_eq_getElem (by omega)
          have hap := ha1.keep (b14.trans (bw5.mono b14.size))
          obtain ⟨b, o, rfl, hc, hk⟩ := hap.at_ hd
          have hsp := flat_drop hd
          have hokd := hok ds[i] (List.getElem_mem _)
          have hY2 : AllY ((ds.drop i).flatMap itB) := flat_Y (w := w) (fun d hd => ha.each d (List.mem_of_mem_drop hd))
          refine v_skip ?_
          refine v_seq ?_
          refine v_block ?_
          refine v_seq ?_
          refine v_region ?_
          refine vl_val (os_move rfl) ?_
          refine vl_val (os_move rfl) ?_
          refine vl_val (os_ixs Try.underlying49 Try.sizeOf58 rfl rfl (i := i) (by omega) (by omega)) ?_
          refine vl_val (os_fa (o := 0) (k := 0) (by kernel_rfl) rfl) ?_
          refine vl_val (os_load Try.isAgg3 rfl (hc.c4.1)) ?_
          refine vl_call (kit_Pick ds[i].what 2 _ (by omega)) rfl ?_
          rintro v6 w' ⟨rfl, rfl⟩
          refine vl_val (os_eql rfl rfl) ?_
          refine vl_nil ?_
          refine v_cond_d rfl (fun hpk => ?_) (fun hpk => ?_)
          · have hit : itB ds[i] = numBytes ds[i].n ds[i].size.toNat := by rw [itB, if_pos hpk]
            have hfit : fitsB ds[i].n ds[i].size = true := by have := hokd; rw [okD, if_pos hpk] at this; exact this
            have hf := of_decide_eq_true hfit
            obtain ⟨sz, hsz2⟩ : ∃ sz : Nat, ds[i].size = sz := ⟨ds[i].size.toNat, by omega⟩
            rw [hsz2, Int.toNat_natCast] at hit hf
            rw [hsp, hit] at hr hY2
            have hl5 : (numBytes ds[i].n sz).length = sz := numBytes_len _ _
            obtain ⟨rest, hrest⟩ : ∃ rest, rest = (ds.drop (i + 1)).flatMap itB := ⟨_, rfl⟩
            rw [← hrest] at hr hY2
            have hlr : rest.length ≤ bs.length := by rw [hbs, ← List.take_append_drop (i + 1) ds, List.flatMap_append, List.length_append, ← hrest]; omega
            have hrok : rnOk 0 (sz : Int) (numBytes ds[i].n sz ++ rest) = true := decide_eq_true ⟨rfl, by omega, by omega, by rw [List.length_append]; omega⟩
            have hrer : rnErr 0 (sz : Int) (numBytes ds[i].n sz ++ rest) = 0 := by unfold rnErr; rw [if_pos rfl, if_pos (show 1 ≤ (sz : Int) ∧ (sz : Int) ≤ 4 by omega), if_pos (by rw [List.length_append]; omega)]
            have hnum : numOf ((numBytes ds[i].n sz ++ rest).take sz) = ds[i].n := by rw [List.take_append_of_le_length (by omega), List.take_of_length_le (by omega)]; exact numOf_numBytes (by omega) (by omega)
            have hdrop : (numBytes ds[i].n sz ++ rest).drop sz = rest := by rw [List.drop_append_of_le_length (by omega), List.drop_of_length_le (by omega)]; rfl
            refine v_seq ?_
            refine v_region_a mixed ?_
            refine va_pure 0 rfl (by kernel_rfl) (by kernel_rfl) (by kernel_rfl) (fun w => (os_move rfl)) ?_
            refine va_pure 1 rfl (by kernel_rfl) (by kernel_rfl) (by kernel_rfl) (fun w => (os_move rfl)) ?_
            refine va_pure 2 rfl (by kernel_rfl) (by kernel_rfl) (by kernel_rfl) (fun w => (os_move rfl)) ?_
            refine va_pure 3 rfl (by kernel_rfl) (by kernel_rfl) (by kernel_rfl) (fun w => (os_ixs Try.underlying49 Try.sizeOf58 rfl rfl (i := i) (by omega) (by omega))) ?_
            refine va_pure 4 rfl (by kernel_rfl) (by kernel_rfl) (by kernel_rfl) (fun w => (os_fa (o := 2) (k := 0) (by kernel_rfl) rfl)) ?_
            refine va_pure 7 rfl (by kernel_rfl) (by kernel_rfl) (by kernel_rfl) (fun w => (os_move rfl)) ?_
            refine va_pure 8 rfl (by kernel_rfl) (by kernel_rfl) (by kernel_rfl) (fun w => (os_move rfl)) ?_
            refine va_pure 9 rfl (by kernel_rfl) (by kernel_rfl) (by kernel_rfl) (fun w => (os_ixs Try.underlying49 Try.sizeOf58 rfl rfl (i := i) (by omega) (by omega))) ?_
            refine va_pure 10 rfl (by kernel_rfl) (by kernel_rfl) (by kernel_rfl) (fun w => (os_fa (o := 1) (k := 0) (by kernel_rfl) rfl)) ?_
            refine va_two 5 11 (by kernel_rfl) ?_ ?_
            · refine vn_val rfl (os_load Try.isAgg3 rfl ((hc.led ⟨1, rfl⟩).c4.2.2.1)) ?_
              rw [hsz2]
              refine va_two 6 11 (by kernel_rfl) ?_ ?_
              · refine vn_call rfl (pk_RNumber g5 v' _ 0 sz w4.heap.size _ (hr.keep (led_below ⟨1, rfl⟩)) (by have := bw5.size; simp; omega) (by rw [List.length_append]; omega) hY2) rfl ?_
                rintro u7 w7 ⟨v7, rfl, h7, k7, e7⟩
                rw [hrok, if_pos rfl, Int.toNat_natCast, hrer, hdrop] at h7
                rw [hrok, if_pos rfl, Int.toNat_natCast, hnum]
                have bw6 : Below w4.heap.size w4 w7 := ((Kb.led ⟨1, rfl⟩).trans k7 (fun k hk => .inl hk)).below bw5 hr.lo bw5.size
                obtain ⟨_, _, e8, hc8, _⟩ := (ha1.keep (b14.trans (bw6.mono b14.size))).at_ hd
                cases e8
                refine va_one 11 (by kernel_rfl) ?_
                refine vn_val rfl (os_load Try.isAgg3 rfl (by first | exact hc8.c4.2.1 | exact (hc.led ⟨1, rfl⟩).c4.2.1)) ?_
                refine va_pure 12 rfl (by kernel_rfl) (by kernel_rfl) (by kernel_rfl) (fun w => (os_neq rfl rfl)) ?_
                refine va_done (by kernel_rfl) ?_
                refine v_cond_no rfl (by simp) ?_
                refine v_skip ?_
                refine v_region ?_
                refine vl_val (os_move rfl) ?_
                refine vl_val (os_addi rfl rfl (by omega)) ?_
                refine vl_val (os_assign rfl) ?_
                refine vl_nil ?_
                exact ⟨i + 1, ⟨rfl, rfl, rfl, rfl, trivial⟩, ⟨rfl, trivial⟩, ⟨by omega, bw6, v7, by rw [← hrest]; exact h7⟩, by dsimp only; omega⟩
              · refine vn_val rfl (os_load Try.isAgg3 rfl (by first | exact hc8.c4.2.1 | exact (hc.led ⟨1, rfl⟩).c4.2.1)) ?_
                refine va_one 6 (by kernel_rfl) ?_
                refine vn_call rfl (pk_RNumber g5 v' _ 0 sz w4.heap.size _ (hr.keep (led_below ⟨1, rfl⟩)) (by have := bw5.size; simp; omega) (by rw [List.length_append]; omega) hY2) rfl ?_
                rintro u7 w7 ⟨v7, rfl, h7, k7, e7⟩
                rw [hrok, if_pos rfl, Int.toNat_natCast, hrer, hdrop] at h7
                rw [hrok, if_pos rfl, Int.toNat_natCast, hnum]
                have bw6 : Below w4.heap.size w4 w7 := ((Kb.led ⟨1, rfl⟩).trans k7 (fun k hk => .inl hk)).below bw5 hr.lo bw5.size
                obtain ⟨_, _, e8, hc8, _⟩ := (ha1.keep (b14.trans (bw6.mono b14.size))).at_ hd
                cases e8
                refine va_pure 12 rfl (by kernel_rfl) (by kernel_rfl) (by kernel_rfl) (fun w => (os_neq rfl rfl)) ?_
                refine va_done (by kernel_rfl) ?_
                refine v_cond_no rfl (by simp) ?_
                refine v_skip ?_
                refine v_region ?_
                refine vl_val (os_move rfl) ?_
                refine vl_val (os_addi rfl rfl (by omega)) ?_
                refine vl_val (os_assign rfl) ?_
                refine vl_nil ?_
                exact ⟨i + 1, ⟨rfl, rfl, rfl, rfl, trivial⟩, ⟨rfl, trivial⟩, ⟨by omega, bw6, v7, by rw [← hrest]; exact h7⟩, by dsimp only; omega⟩
            · refine vn_val rfl (os_load Try.isAgg3 rfl (by first | exact hc8.c4.2.1 | exact (hc.led ⟨1, rfl⟩).c4.2.1)) ?_
              refine va_one 5 (by kernel_rfl) ?_
              refine vn_val rfl (os_load Try.isAgg3 rfl ((hc.led ⟨1, rfl⟩).c4.2.2.1)) ?_
              rw [hsz2]
              refine va_one 6 (by kernel_rfl) ?_
              refine vn_call rfl (pk_RNumber g5 v' _ 0 sz w4.heap.size _ (hr.keep (led_below ⟨1, rfl⟩)) (by have := bw5.size; simp; omega) (by rw [List.length_append]; omega) hY2) rfl ?_
              rintro u7 w7 ⟨v7, rfl, h7, k7, e7⟩
              rw [hrok, if_pos rfl, Int.toNat_natCast, hrer, hdrop] at h7
              rw [hrok, if_pos rfl, Int.toNat_natCast, hnum]
              have bw6 : Below w4.heap.size w4 w7 := ((Kb.led ⟨1, rfl⟩).trans k7 (fun k hk => .inl hk)).below bw5 hr.lo bw5.size
              obtain ⟨_, _, e8, hc8, _⟩ := (ha1.keep (b14.trans (bw6.mono b14.size))).at_ hd
              cases e8
              refine va_pure 12 rfl (by kernel_rfl) (by kernel_rfl) (by kernel_rfl) (fun w => (os_neq rfl rfl)) ?_
              refine va_done (by kernel_rfl) ?_
              refine v_cond_no rfl (by simp) ?_
              refine v_skip ?_
              refine v_region ?_
              refine vl_val (os_move rfl) ?_
              refine vl_val (os_addi rfl rfl (by omega)) ?_
              refine vl_val (os_assign rfl) ?_
              refine vl_nil ?_
              exact ⟨i + 1, ⟨rfl, rfl, rfl, rfl, trivial⟩, ⟨rfl, trivial⟩, ⟨by omega, bw6, v7, by rw [← hrest]; exact h7⟩, by dsimp only; omega⟩
          · have hit : itB ds[i] = ds[i].bs := by rw [itB, if_neg hpk]
            have hlk := hk.len
            have hmk := hk.max
            have hsl := sumL_le (ds := ds) (i + 1)
            rw [sumL_take hd] at hsl
            rw [hsp, hit] at hr hY2
            obtain ⟨rest, hrest⟩ : ∃ rest, rest = (ds.drop (i + 1)).flatMap itB := ⟨_, rfl⟩
            rw [← hrest] at hr hY2
            have hlr : rest.length ≤ bs.length := by rw [hbs, ← List.take_append_drop (i + 1) ds, List.flatMap_append, List.length_append, ← hrest]; omega
            have hrok : takeOk 0 (ds[i].l : Int) (ds[i].bs ++ rest) = true := decide_eq_true ⟨rfl, by omega, by rw [List.length_append]; omega⟩
            have hrer : takeErr 0 (ds[i].l : Int) (ds[i].bs ++ rest) = 0 := by unfold takeErr; rw [if_pos rfl, if_neg (show ¬ (ds[i].l : Int) < 0 by omega), if_pos (by rw [List.length_append]; omega)]
            have htake : (ds[i].bs ++ rest).take ds[i].l = ds[i].bs := by rw [List.take_append_of_le_length (by omega), List.take_of_length_le (by omega)]
            have hdrop : (ds[i].bs ++ rest).drop ds[i].l = rest := by rw [List.drop_append_of_le_length (by omega), List.drop_of_length_le (by omega)]; rfl
            refine v_seq ?_
            refine v_region_a mixed ?_
            refine va_pure 0 rfl (by kernel_rfl) (by kernel_rfl) (by kernel_rfl) (fun w => (os_move rfl)) ?_
            refine va_pure 1 rfl (by kernel_rfl) (by kernel_rfl) (by kernel_rfl) (fun w => (os_move rfl)) ?_
            refine va_pure 2 rfl (by kernel_rfl) (by kernel_rfl) (by kernel_rfl) (fun w => (os_move rfl)) ?_
            refine va_pure 3 rfl (by kernel_rfl) (by kernel_rfl) (by kernel_rfl) (fun w => (os_ixs Try.underlying49 Try.sizeOf58 rfl rfl (i := i) (by omega) (by omega))) ?_
            refine va_pure 4 rfl (by kernel_rfl) (by kernel_rfl) (by kernel_rfl) (fun w => (os_fa (o := 3) (k := 0) (by kernel_rfl) rfl)) ?_
            refine va_pure 8 rfl (by kernel_rfl) (by kernel_rfl) (by kernel_rfl) (fun w => (os_move rfl)) ?_
            refine va_pure 9 rfl (by kernel_rfl) (by kernel_rfl) (by kernel_rfl) (fun w => (os_move rfl)) ?_
            refine va_pure 10 rfl (by kernel_rfl) (by kernel_rfl) (by kernel_rfl) (fun w => (os_ixs Try.underlying49 Try.sizeOf58 rfl rfl (i := i) (by omega) (by omega))) ?_
            refine va_pure 11 rfl (by kernel_rfl) (by kernel_rfl) (by kernel_rfl) (fun w => (os_fa (o := 3) (k := 0) (by kernel_rfl) rfl)) ?_
            refine va_two 5 12 (by kernel_rfl) ?_ ?_
            · refine vn_val rfl (os_load Try.isAgg22 rfl ((hc.led ⟨1, rfl⟩).c4.2.2.2)) ?_
              refine va_pure 6 rfl (by kernel_rfl) (by kernel_rfl) (by kernel_rfl) (fun w => (os_len Try.underlying22 rfl)) ?_
              refine va_two 7 12 (by kernel_rfl) ?_ ?_
              · refine vn_call rfl (pk_Take g5 v' _ 0 ds[i].l w4.heap.size _ (hr.keep (led_below ⟨1, rfl⟩)) (by have := bw5.size; simp; omega) (by rw [List.length_append]; omega)) rfl ?_
                rintro u7 w7 ⟨v7, o7, h7, k7, e7⟩
                rw [hrok, if_pos rfl, Int.toNat_natCast, hrer, hdrop] at h7
                rw [hrok, if_pos rfl, Int.toNat_natCast, htake] at o7
                obtain ⟨A7, c7, rfl, _, _, r7, _⟩ := OwnK.form o7
                have bw6 : Below w4.heap.size w4 w7 := ((Kb.led ⟨1, rfl⟩).trans k7 (fun k hk => .inl hk)).below bw5 hr.lo bw5.size
                obtain ⟨_, _, e8, hc8, hk8⟩ := (ha1.keep (b14.trans (bw6.mono b14.size))).at_ hd
                cases e8
                refine va_one 12 (by kernel_rfl) ?_
                refine vn_val rfl (os_load Try.isAgg22 rfl (by first | exact hc8.c4.2.2.2 | exact (hc.led ⟨1, rfl⟩).c4.2.2.2)) ?_
                refine va_one 13 (by kernel_rfl) ?_
                refine vn_call rfl ((kit_SameBytes A7 _ _ _ c7 _ _ _ w7 r7 hk8.rd rfl hlk.symm (by omega) (by omega)).mono fun v w' hh => (⟨by rw [hh.1, decide_eq_true rfl], hh.2⟩ : v = .bool true ∧ LeD w7 w')) rfl ?_
                rintro v9 w9 ⟨rfl, d9⟩
                refine va_pure 14 rfl (by kernel_rfl) (by kernel_rfl) (by kernel_rfl) (fun w => (os_not rfl)) ?_
                refine va_done (by kernel_rfl) ?_
                refine v_cond_f rfl ?_
                refine v_skip ?_
                refine v_region ?_
                refine vl_val (os_move rfl) ?_
                refine vl_val (os_addi rfl rfl (by omega)) ?_
                refine vl_val (os_assign rfl) ?_
                refine vl_nil ?_
                exact ⟨i + 1, ⟨rfl, rfl, rfl, rfl, trivial⟩, ⟨rfl, trivial⟩, ⟨by omega, bw6.trans ((led_below d9).mono bw6.size), v7, by rw [← hrest]; exact h7.keep (led_below d9)⟩, by dsimp only; omega⟩
              · refine vn_val rfl (os_load Try.isAgg22 rfl (by first | exact hc8.c4.2.2.2 | exact (hc.led ⟨1, rfl⟩).c4.2.2.2)) ?_
                refine va_one 7 (by kernel_rfl) ?_
                refine vn_call rfl (pk_Take g5 v' _ 0 ds[i].l w4.heap.size _ (hr.keep (led_below ⟨1, rfl⟩)) (by have := bw5.size; simp; omega) (by rw [List.length_append]; omega)) rfl ?_
                rintro u7 w7 ⟨v7, o7, h7, k7, e7⟩
                rw [hrok, if_pos rfl, Int.toNat_natCast, hrer, hdrop] at h7
                rw [hrok, if_pos rfl, Int.toNat_natCast, htake] at o7
                obtain ⟨A7, c7, rfl, _, _, r7, _⟩ := OwnK.form o7
                have bw6 : Below w4.heap.size w4 w7 := ((Kb.led ⟨1, rfl⟩).trans k7 (fun k hk => .inl hk)).below bw5 hr.lo bw5.size
                obtain ⟨_, _, e8, hc8, hk8⟩ := (ha1.keep (b14.trans (bw6.mono b14.size))).at_ hd
                cases e8
                refine va_one 13 (by kernel_rfl) ?_
                refine vn_call rfl ((kit_SameBytes A7 _ _ _ c7 _ _ _ w7 r7 hk8.rd rfl hlk.symm (by omega) (by omega)).mono fun v w' hh => (⟨by rw [hh.1, decide_eq_true rfl], hh.2⟩ : v = .bool true ∧ LeD w7 w')) rfl ?_
                rintro v9 w9 ⟨rfl, d9⟩
                refine va_pure 14 rfl (by kernel_rfl) (by kernel_rfl) (by kernel_rfl) (fun w => (os_not rfl)) ?_
                refine va_done (by kernel_rfl) ?_
                refine v_cond_f rfl ?_
                refine v_skip ?_
                refine v_region ?_
                refine vl_val (os_move rfl) ?_
                refine vl_val (os_addi rfl rfl (by omega)) ?_
                refine vl_val (os_assign rfl) ?_
                refine vl_nil ?_
                exact ⟨i + 1, ⟨rfl, rfl, rfl, rfl, trivial⟩, ⟨rfl, trivial⟩, ⟨by omega, bw6.trans ((led_below d9).mono bw6.size), v7, by rw [← hrest]; exact h7.keep (led_below d9)⟩, by dsimp only; omega⟩
            · refine vn_val rfl (os_load Try.isAgg22 rfl (by first | exact hc8.c4.2.2.2 | exact (hc.led ⟨1, rfl⟩).c4.2.2.2)) ?_
              refine va_one 5 (by kernel_rfl) ?_
              refine vn_val rfl (os_load Try.isAgg22 rfl ((hc.led ⟨1, rfl⟩).c4.2.2.2)) ?_
              refine va_pure 6 rfl (by kernel_rfl) (by kernel_rfl) (by kernel_rfl) (fun w => (os_len Try.underlying22 rfl)) ?_
              refine va_one 7 (by kernel_rfl) ?_
              refine vn_call rfl (pk_Take g5 v' _ 0 ds[i].l w4.heap.size _ (hr.keep (led_below ⟨1, rfl⟩)) (by have := bw5.size; simp; omega) (by rw [List.length_append]; omega)) rfl ?_
              rintro u7 w7 ⟨v7, o7, h7, k7, e7⟩
              rw [hrok, if_pos rfl, Int.toNat_natCast, hrer, hdrop] at h7
              rw [hrok, if_pos rfl, Int.toNat_natCast, htake] at o7
              obtain ⟨A7, c7, rfl, _, _, r7, _⟩ := OwnK.form o7
              have bw6 : Below w4.heap.size w4 w7 := ((Kb.led ⟨1, rfl⟩).trans k7 (fun k hk => .inl hk)).below bw5 hr.lo bw5.size
              obtain ⟨_, _, e8, hc8, hk8⟩ := (ha1.keep (b14.trans (bw6.mono b14.size))).at_ hd
              cases e8
              refine va_one 13 (by kernel_rfl) ?_
              refine vn_call rfl ((kit_SameBytes A7 _ _ _ c7 _ _ _ w7 r7 hk8.rd rfl hlk.symm (by omega) (by omega)).mono fun v w' hh => (⟨by rw [hh.1, decide_eq_true rfl], hh.2⟩ : v = .bool true ∧ LeD w7 w')) rfl ?_
              rintro v9 w9 ⟨rfl, d9⟩
              refine va_pure 14 rfl (by kernel_rfl) (by kernel_rfl) (by kernel_rfl) (fun w => (os_not rfl)) ?_
              refine va_done (by kernel_rfl) ?_
              refine v_cond_f rfl ?_
              refine v_skip ?_
              refine v_region ?_
              refine vl_val (os_move rfl) ?_
              refine vl_val (os_addi rfl rfl (by omega)) ?_
              refine vl_val (os_assign rfl) ?_
              refine vl_nil ?_
              exact ⟨i + 1, ⟨rfl, rfl, rfl, rfl, trivial⟩, ⟨rfl, trivial⟩, ⟨by omega, bw6.trans ((led_below d9).mono bw6.size), v7, by rw [← hrest]; exact h7.keep (led_below d9)⟩, by dsimp only; omega⟩
        · obtain rfl : n = i := by omega
          rw [List.drop_of_length_le (by omega)] at hr
          have hr : RrS w' w4.heap.size g5 v' [] 0 := hr
          have b16 := b14.trans (bw5.mono b14.size)
          refine v_exit ?_
          refine v_seq ?_
          refine v_seq ?_
          refine v_region ?_
          refine vl_val (os_move rfl) ?_
          refine vl_call (pk_Left g5 v' [] 0 w4.heap.size w' hr) rfl ?_
          rintro u8 w' ⟨rfl, rfl⟩
          refine vl_val (os_f (os_neq rfl rfl) (by simp)) ?_
          refine vl_val (os_move rfl) ?_
          refine vl_valg rfl (os_move rfl) ?_
          refine vl_callg rfl (pk_End g5 v' [] 0 w4.heap.size w' hr) rfl ?_
          rintro u9 w' ⟨rfl, rfl⟩
          refine vl_valg rfl (os_neq rfl rfl) ?_
          refine vl_val (os_pick_f rfl rfl) ?_
          refine vl_nil ?_
          refine v_cond_no rfl (by simp) ?_
          obtain ⟨k, hpk, hkl⟩ := pick_nat cut bs.length
          refine v_skip ?_
          refine v_seq ?_
          refine v_region ?_
          refine vl_val (os_move rfl) ?_
          refine vl_val (os_move rfl) ?_
          refine vl_val (os_len Try.underlying22 rfl) ?_
          refine vl_val (os_addi rfl rfl (by omega)) ?_
          refine vl_call (kit_Pick cut ((bs.length : Int) + 1) w' (by omega)) rfl ?_
          rintro u10 w10 ⟨rfl, rfl⟩
          rw [hpk]
          refine vl_val (os_assign rfl) ?_
          refine vl_nil ?_
          refine v_seq ?_
          refine v_region ?_
          refine vl_val (os_move rfl) ?_
          refine vl_val (os_move rfl) ?_
          refine vl_val (os_slice_h Try.underlying22 Try.sizeOf5 rfl rfl (h := k) (by omega) (by omega)) ?_
          have r6 := (r4.keep bw5).take k
          refine vl_call (pk_Over A4 k c4 (bs.take k) w10 r6 (by rw [List.length_take]; omega) (by omega)) rfl ?_
          rintro u11 w11 ⟨g6, v6, rfl, h6, b6⟩
          refine vl_val (os_assign rfl) ?_
          refine vl_nil ?_
          refine v_seq ?_
          refine v_seq ?_
          refine v_region ?_
          refine vl_val (os_assign rfl) ?_
          refine vl_nil ?_
          refine v_block ?_
          refine v_loop [(0, _), (7, _), (11, _), (12, _)] (fun (i : Nat) => [(13, .int .i64 i)]) (fun i w' => i ≤ n ∧ Below w10.heap.size w10 w' ∧ ∃ v' bs' e', RrS w' w10.heap.size g6 v' bs' e' ∧ CutInv k bs.length (conL ds i) bs' e') (fun i => n - i) (0) ⟨rfl, rfl, rfl, rfl, trivial⟩ ⟨rfl, trivial⟩ (⟨by omega, b6, v6, bs.take k, 0, h6, hY.take k, by rw [List.length_take]; omega, .inl ⟨rfl, by rw [List.length_take]; simp [conL]; omega⟩⟩) ?_
          rintro i w12 ⟨hi, bw6, v', bs', e', hr', hcut⟩
          refine v_seq ?_
          refine v_seq ?_
          refine v_region ?_
          refine vl_val (os_move rfl) ?_
          refine vl_val (os_move rfl) ?_
          refine vl_val (os_len Try.underlying49 rfl) ?_
          refine vl_val (os_lss rfl rfl) ?_
          refine vl_nil ?_
          refine v_cond_d rfl (fun hlt => ?_) (fun hlt => ?_)
          · have hd : ds[i]? = some ds[i] := List.getElem?_eq_getElem (by omega)
            have hap := ha1.keep (b16.trans (bw6.mono b16.size))
            obtain ⟨b, o, rfl, hc, hk⟩ := hap.at_ hd
            have hokd := hok ds[i] (List.getElem_mem _)
            have hcon := conL_succ hd
            have hcl := conL_le ds (i + 1)
            rw [← hbs] at hcl
            refine v_skip ?_
            refine v_seq ?_
            refine v_block ?_
            refine v_seq ?_
            refine v_region ?_
            refine vl_val (os_move rfl) ?_
            refine vl_val (os_move rfl) ?_
            refine vl_val (os_ixs Try.underlying49 Try.sizeOf58 rfl rfl (i := i) (by omega) (by omega)) ?_
            refine vl_val (os_fa (o := 0) (k := 0) (by kernel_rfl) rfl) ?_
            refine vl_val (os_load Try.isAgg3 rfl (hc.c4.1)) ?_
            refine vl_call (kit_Pick ds[i].what 2 _ (by omega)) rfl ?_
            rintro v6 w12 ⟨rfl, rfl⟩
            refine vl_val (os_eql rfl rfl) ?_
            refine vl_nil ?_
            refine v_cond_d rfl (fun hpk2 => ?_) (fun hpk2 => ?_)
            · have hit : itB ds[i] = numBytes ds[i].n ds[i].size.toNat := by rw [itB, if_pos hpk2]
              have hfit : fitsB ds[i].n ds[i].size = true := by have := hokd; rw [okD, if_pos hpk2] at this; exact this
              have hf := of_decide_eq_true hfit
              obtain ⟨sz, hsz2⟩ : ∃ sz : Nat, ds[i].size = sz := ⟨ds[i].size.toNat, by omega⟩
              rw [hsz2, Int.toNat_natCast] at hit hf
              rw [hit, numBytes_len] at hcon
              have hnew := cut_num hcut (sz := sz) (by omega) (by omega)
              refine v_region ?_
              refine vl_val (os_move rfl) ?_
              refine vl_val (os_move rfl) ?_
              refine vl_val (os_move rfl) ?_
              refine vl_val (os_ixs Try.underlying49 Try.sizeOf58 rfl rfl (i := i) (by omega) (by omega)) ?_
              refine vl_val (os_fa (o := 2) (k := 0) (by kernel_rfl) rfl) ?_
              refine vl_val (os_load Try.isAgg3 rfl (hc.c4.2.2.1)) ?_
              rw [hsz2]
              refine vl_call (pk_RNumber g6 v' bs' e' sz w10.heap.size w12 hr' bw6.size (by have := hcut.2.1; omega) hcut.1) rfl ?_
              rintro u7 w7 ⟨v7, rfl, h7, k7, e7⟩
              refine vl_nil ?_
              refine v_region ?_
              refine vl_val (os_move rfl) ?_
              refine vl_val (os_addi rfl rfl (by omega)) ?_
              refine vl_val (os_assign rfl) ?_
              refine vl_nil ?_
              exact ⟨i + 1, ⟨rfl, rfl, rfl, rfl, trivial⟩, ⟨rfl, trivial⟩, ⟨by omega, k7.below bw6 hr'.lo bw6.size, v7, _, _, h7, by rw [hcon]; exact hnew⟩, by dsimp only; omega⟩
            · have hit : itB ds[i] = ds[i].bs := by rw [itB, if_neg hpk2]
              rw [hit, hk.len] at hcon
              have hnew := cut_take hcut (l := ds[i].l) (by omega)
              refine v_region ?_
              refine vl_val (os_move rfl) ?_
              refine vl_val (os_move rfl) ?_
              refine vl_val (os_move rfl) ?_
              refine vl_val (os_ixs Try.underlying49 Try.sizeOf58 rfl rfl (i := i) (by omega) (by omega)) ?_
              refine vl_val (os_fa (o := 3) (k := 0) (by kernel_rfl) rfl) ?_
              refine vl_val (os_load Try.isAgg22 rfl (hc.c4.2.2.2)) ?_
              refine vl_val (os_len Try.underlying22 rfl) ?_
              refine vl_call (pk_Take g6 v' bs' e' ds[i].l w10.heap.size w12 hr' bw6.size (by have := hcut.2.1; omega)) rfl ?_
              rintro u7 w7 ⟨v7, o7, h7, k7, e7⟩
              refine vl_nil ?_
              refine v_region ?_
              refine vl_val (os_move rfl) ?_
              refine vl_val (os_addi rfl rfl (by omega)) ?_
              refine vl_val (os_assign rfl) ?_
              refine vl_nil ?_
              exact ⟨i + 1, ⟨rfl, rfl, rfl, rfl, trivial⟩, ⟨rfl, trivial⟩, ⟨by omega, k7.below bw6 hr'.lo bw6.size, v7, _, _, h7, by rw [hcon]; exact hnew⟩, by dsimp only; omega⟩
          · obtain rfl : n = i := by omega
            have htot : conL ds n = bs.length := by rw [conL, List.take_of_length_le (by omega), hbs]
            refine v_exit ?_
            refine v_seq ?_
            refine v_region ?_
            refine vl_val (os_move rfl) ?_
            refine vl_call (pk_End g6 v' bs' e' w10.heap.size w12 hr') rfl ?_
            rintro u9 w12 ⟨rfl, rfl⟩
            have hend : (decide ((if 0 < (if e' = 0 then (bs'.length : Int) else 0) then 4 else e') = 0) == decide ((k : Int) = (bs.length : Int))) = true := by
              rcases hcut.2.2 with ⟨rfl, h3⟩ | ⟨he, h3⟩
              · rw [htot] at h3
                have h4 : bs'.length = 0 := by omega
                have h5 : (k : Int) = (bs.length : Int) := by omega
                simp [h4, h5]
              · have h5 : ¬ (k : Int) = (bs.length : Int) := by omega
                simp [he, h5]
            refine vl_val (os_eql rfl rfl) ?_
            refine vl_val (os_move rfl) ?_
            refine vl_val (os_move rfl) ?_
            refine vl_val (os_len Try.underlying22 rfl) ?_
            refine vl_val (os_eql rfl rfl) ?_
            refine vl_val (os_eqlb Try.underlying4 rfl rfl) ?_
            refine vl_val (os_assign rfl) ?_
            refine vl_nil ?_
            refine v_ret ?_
            exact post_ret rfl rfl (⟨by rw [hend], b1.trans ((b16.trans (bw6.mono b16.size)).mono b1.size)⟩)
      · rw [hE] at o4 ⊢
        refine v_seq ?_
        refine v_seq ?_
        refine v_region ?_
        refine vl_val (os_move rfl) ?_
        refine vl_val (os_neq rfl rfl) ?_
        refine vl_nil ?_
        refine v_cond_yes rfl (by simp) ?_
        refine v_seq ?_
        refine v_region ?_
        refine vl_val (os_move rfl) ?_
        refine vl_val (os_t (os_eql rfl rfl) (rfl)) ?_
        obtain ⟨A4, c4, rfl, _⟩ := OwnK.form o4
        refine vl_val (os_move rfl) ?_
        refine vl_valg rfl (os_move rfl) ?_
        refine vl_valg rfl (os_len Try.underlying22 rfl) ?_
        refine vl_valg rfl (os_eql rfl rfl) ?_
        refine vl_val (os_pick_t rfl rfl) ?_
        refine vl_val (os_assign rfl) ?_
        refine vl_nil ?_
        refine v_ret ?_
        exact post_ret rfl rfl (⟨by simp, b1.trans (b14.mono b1.size)⟩)
end Go.Proofs.Ytpcfifheegfjiaa
