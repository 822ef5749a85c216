/- Layer 11: awake, and the walk of SizeMore. -/
import Derived.Test.YtpcfifheegfjiaaSzF
import Derived.Test.YtpcfifheegfjiaaSzQ
import Derived.Test.YtpcfifheegfjiaaKitP
namespace Go.Proofs.Ytpcfifheegfjiaa
open Go.RowKit
set_option linter.unusedVariables false

theorem law11_awake (w : World) : Gives Try.prog 26 #[] w fun v w' => v = .bool true ∧ Below w.heap.size w w' := by
  have hB0 := bk_new w [.int .i64 0, .int .i64 0, .int .i64 0] 36
  have hb0 : Below w.heap.size w (w.alloc (.cells #[.int .i64 0, .int .i64 0, .int .i64 0] 36)) := (Below.refl _ w).alloc (Nat.le_refl _) _
  have hB := setRow_bk hB0 [.int .i64 4, .int .i64 64, .int .i64 200]
  have hb := below_setRow hb0 (Nat.le_refl _) #[.int .i64 4, .int .i64 64, .int .i64 200]
  refine gives_enter Try.call26 Try.func26 rfl rfl rfl (by kernel_rfl) ?_
  refine v_seq ?_
  refine v_region ?_
  refine vl_val (os_assign rfl) ?_
  refine vl_nil ?_
  refine v_seq ?_
  refine v_region ?_
  refine vl_val (os_build (cs := [.int .i64 4, .int .i64 64, .int .i64 200]) rfl (by kernel_rfl)) ?_
  refine vl_val (os_alloc Try.zeroValue36) ?_
  refine vl_unit (ou_storeB (by kernel_rfl) rfl rfl (hB0) rfl rfl) ?_
  refine vl_nil ?_
  refine v_seq ?_
  refine v_region ?_
  refine vl_val (os_loadB Try.underlying36 rfl (by kernel_rfl) rfl (hB)) ?_
  refine vl_call (size_Room 4 64 200 2 _) rfl ?_
  rintro v w1 ⟨rfl, hb1⟩
  have hb1w := hb.trans (hb1.mono hb.size)
  have hB1 := hB.keep hb1
  refine vl_val (os_move rfl) ?_
  refine vl_val (os_extract rfl rfl) ?_
  refine vl_val (os_extract rfl rfl) ?_
  refine vl_val (os_assign rfl) ?_
  refine vl_val (os_assign rfl) ?_
  refine vl_nil ?_
  refine v_seq ?_
  refine v_region ?_
  refine vl_val (os_move rfl) ?_
  refine vl_val (os_t (os_eql rfl rfl) (by decide)) ?_
  refine vl_val (os_move rfl) ?_
  refine vl_valg rfl (os_move rfl) ?_
  refine vl_valg rfl (os_t (os_eql rfl rfl) (by decide)) ?_
  refine vl_val (os_pick_t rfl rfl) ?_
  refine vl_val (os_move rfl) ?_
  refine vl_valg rfl (os_loadB Try.underlying36 rfl (by kernel_rfl) rfl (hB1)) ?_
  have hB2 := (hB1.alloc (.cells #[.int .i64 40, .int .i64 60] 3)).alloc (.cells #[.int .i64 4, .int .i64 4] 3)
  have hr1 := (rd_alloc w1 .i64 [40, 60] 3).alloc (.cells #[.int .i64 4, .int .i64 4] 3)
  have hr2 := rd_alloc (w1.alloc (.cells #[.int .i64 40, .int .i64 60] 3)) .i64 [4, 4] 3
  have hb2w : Below w.heap.size w ((w1.alloc (.cells #[.int .i64 40, .int .i64 60] 3)).alloc (.cells #[.int .i64 4, .int .i64 4] 3)) := (hb1w.alloc hb1w.size _).alloc (by simp; have := hb1w.size; omega) _
  refine vl_valg rfl (os_lit Try.underlying37 Try.sizeOf3 Try.zeroValue3 rfl rfl rfl rfl (by decide)) ?_
  refine vl_valg rfl (os_lit Try.underlying37 Try.sizeOf3 Try.zeroValue3 rfl rfl rfl rfl (by decide)) ?_
  refine vl_callg rfl (gives_boolb (size_Fits 4 64 200 _ _ 2 2 2 2 [40, 60] [4, 4] _ hr1 hr2 rfl rfl (by decide) (by decide) (by intro z hz; simp at hz; subst hz; exact ⟨by decide, by decide⟩)) (c := true) (by decide)) rfl ?_
  rintro v w2 ⟨rfl, hb3⟩
  have hb3w := hb2w.trans (hb3.mono hb2w.size)
  have hB3 := hB2.keep hb3
  refine vl_val (os_pick_t rfl rfl) ?_
  refine vl_val (os_move rfl) ?_
  refine vl_valg rfl (os_loadB Try.underlying36 rfl (by kernel_rfl) rfl (hB3)) ?_
  have hr3 := (rd_alloc w2 .i64 [40, 60] 3).alloc (.cells #[.int .i64 3, .int .i64 4] 3)
  have hr4 := rd_alloc (w2.alloc (.cells #[.int .i64 40, .int .i64 60] 3)) .i64 [3, 4] 3
  have hb4w : Below w.heap.size w ((w2.alloc (.cells #[.int .i64 40, .int .i64 60] 3)).alloc (.cells #[.int .i64 3, .int .i64 4] 3)) := (hb3w.alloc hb3w.size _).alloc (by simp; have := hb3w.size; omega) _
  refine vl_valg rfl (os_lit Try.underlying37 Try.sizeOf3 Try.zeroValue3 rfl rfl rfl rfl (by decide)) ?_
  refine vl_valg rfl (os_lit Try.underlying37 Try.sizeOf3 Try.zeroValue3 rfl rfl rfl rfl (by decide)) ?_
  refine vl_callg rfl (gives_boolb (size_Fits 4 64 200 _ _ 2 2 2 2 [40, 60] [3, 4] _ hr3 hr4 rfl rfl (by decide) (by decide) (by intro z hz; simp at hz; rcases hz with rfl | rfl <;> exact ⟨by decide, by decide⟩)) (c := false) (by decide)) rfl ?_
  rintro v w3 ⟨rfl, hb5⟩
  refine vl_valg rfl (os_not rfl) ?_
  refine vl_val (os_pick_t rfl rfl) ?_
  refine vl_val (os_assign rfl) ?_
  refine vl_nil ?_
  refine v_ret ?_
  exact post_ret rfl rfl (⟨rfl, hb4w.trans (hb5.mono hb4w.size)⟩)

theorem gives_eq {P : Program} {f : FuncId} {args : Array Value} {w : World} {u v : Value} {R : World → Prop} (h : Gives P f args w fun x w' => x = u ∧ R w') (e : u = v) : Gives P f args w fun x w' => x = v ∧ R w' := by subst e; exact h

theorem pick_bd (x : Int) {n : Int} (h : 1 ≤ n) : 0 ≤ pickV x n ∧ pickV x n < n := by
  unfold pickV
  rw [if_neg (by omega)]
  exact ⟨Int.emod_nonneg x (by omega), Int.emod_lt_of_pos x (by omega)⟩

set_option maxHeartbeats 2000000 in
theorem law11_SizeMore (n m b : Int) (A K : Option Addr) (l c lk ck : Nat) (lens ks : List Int) (mtu bud turn : Int) (w : World) (ha : Rd w .i64 A lens) (hk : Rd w .i64 K ks) (hl : l = lens.length) (hlk : lk = ks.length)
    (hl' : l ≤ 17592186044416) (hlk' : lk ≤ 17592186044416) (hlc : l ≤ c) (hkc : lk ≤ ck) (hks : AllI ks) (ht : I64 turn) :
    Gives Try.prog 6 #[.agg #[.int .i64 n, .int .i64 m, .int .i64 b], .slice A l c, .slice K lk ck, .int .i64 mtu, .int .i64 bud, .int .i64 turn] w fun v w' => v = .bool true ∧ Below w.heap.size w w' := by
  have hb0 : Below w.heap.size w (w.alloc (.cells #[.int .i64 n, .int .i64 m, .int .i64 b] 36)) := (Below.refl _ w).alloc (Nat.le_refl _) _
  have hB0 := bk_new w [.int .i64 n, .int .i64 m, .int .i64 b] 36
  refine gives_enter Try.call6 Try.func6 rfl rfl rfl (by kernel_rfl) ?_
  refine v_seq ?_
  refine v_region ?_
  refine vl_val (os_box rfl) ?_
  refine vl_val (os_assign rfl) ?_
  refine vl_nil ?_
  refine v_seq ?_
  refine v_seq ?_
  refine v_region ?_
  refine vl_call (law11_awake _) rfl ?_
  rintro v1 w1 ⟨rfl, hb1⟩
  have hb1w := hb0.trans (hb1.mono (by simp))
  have hB1 := hB0.keep hb1
  have ha1 := ha.keep hb1w
  have hk1 := hk.keep hb1w
  refine vl_val (os_not rfl) ?_
  refine vl_nil ?_
  by_cases hbig : 300 < (l : Int) + lk
  · refine v_cond_f rfl ?_
    refine v_skip ?_
    refine v_seq ?_
    refine v_seq ?_
    refine v_region ?_
    refine vl_val (os_move rfl) ?_
    refine vl_val (os_len Try.underlying37 rfl) ?_
    refine vl_val (os_move rfl) ?_
    refine vl_val (os_len Try.underlying37 rfl) ?_
    refine vl_val (os_addi rfl rfl (by omega)) ?_
    refine vl_val (os_t (os_gtr rfl rfl) (by omega)) ?_
    refine vl_val (os_move rfl) ?_
    refine vl_skip rfl rfl ?_
    refine vl_skip rfl rfl ?_
    refine vl_skip rfl rfl ?_
    refine vl_skip rfl rfl ?_
    refine vl_skip rfl rfl ?_
    refine vl_val (os_pick_t rfl rfl) ?_
    refine vl_nil ?_
    refine v_cond_t rfl ?_
    refine v_seq ?_
    refine v_region ?_
    refine vl_val (os_assign rfl) ?_
    refine vl_nil ?_
    refine v_ret ?_
    exact post_ret rfl rfl (⟨rfl, hb1w⟩)
  · cases hf : fitsB n m b lens ks
    · refine v_cond_f rfl ?_
      refine v_skip ?_
      refine v_seq ?_
      refine v_seq ?_
      refine v_region ?_
      refine vl_val (os_move rfl) ?_
      refine vl_val (os_len Try.underlying37 rfl) ?_
      refine vl_val (os_move rfl) ?_
      refine vl_val (os_len Try.underlying37 rfl) ?_
      refine vl_val (os_addi rfl rfl (by omega)) ?_
      refine vl_val (os_f (os_gtr rfl rfl) (by omega)) ?_
      refine vl_val (os_move rfl) ?_
      refine vl_valg rfl (os_loadB Try.underlying36 rfl (by kernel_rfl) rfl (hB1)) ?_
      refine vl_valg rfl (os_move rfl) ?_
      refine vl_valg rfl (os_move rfl) ?_
      refine vl_callg rfl (gives_boolb (size_Fits n m b _ _ l c lk ck lens ks _ ha1 hk1 hl hlk (by omega) (by omega) hks) hf) rfl ?_
      rintro v2 w2 ⟨rfl, hb2⟩
      refine vl_valg rfl (os_not rfl) ?_
      refine vl_val (os_pick_f rfl rfl) ?_
      refine vl_nil ?_
      refine v_cond_t rfl ?_
      refine v_seq ?_
      refine v_region ?_
      refine vl_val (os_assign rfl) ?_
      refine vl_nil ?_
      refine v_ret ?_
      exact post_ret rfl rfl (⟨rfl, hb1w.trans (hb2.mono hb1w.size)⟩)
    · refine v_cond_f rfl ?_
      refine v_skip ?_
      refine v_seq ?_
      refine v_seq ?_
      refine v_region ?_
      refine vl_val (os_move rfl) ?_
      refine vl_val (os_len Try.underlying37 rfl) ?_
      refine vl_val (os_move rfl) ?_
      refine vl_val (os_len Try.underlying37 rfl) ?_
      refine vl_val (os_addi rfl rfl (by omega)) ?_
      refine vl_val (os_f (os_gtr rfl rfl) (by omega)) ?_
      refine vl_val (os_move rfl) ?_
      refine vl_valg rfl (os_loadB Try.underlying36 rfl (by kernel_rfl) rfl (hB1)) ?_
      refine vl_valg rfl (os_move rfl) ?_
      refine vl_valg rfl (os_move rfl) ?_
      refine vl_callg rfl (gives_boolb (size_Fits n m b _ _ l c lk ck lens ks _ ha1 hk1 hl hlk (by omega) (by omega) hks) hf) rfl ?_
      rintro v2 w2 ⟨rfl, hb2⟩
      have hb2w := hb1w.trans (hb2.mono hb1w.size)
      have hB2 := hB1.keep hb2
      have ha2 := ha1.keep hb2
      have hk2 := hk1.keep hb2
      have hfi := fits_iff.1 hf
      obtain ⟨f1, f2, f3, f4, f5, f6⟩ := hfi
      have hrb : rightB n m b = true := by simp only [roomOk, Bool.and_eq_true] at f1; exact f1.1
      have hr := right_bd hrb
      have hlb := lens_bd f2
      have hx0 := fits_nonneg hf
      have hp1 := pick_bd mtu (show 1 ≤ 1501 - m by omega)
      have hp2 := pick_bd bud (show 1 ≤ 524289 - b by omega)
      have hB3 := hB2.alloc (.cells #[.int .i64 0, .int .i64 0, .int .i64 0] 36)
      have hW0 := bk_new w2 [.int .i64 0, .int .i64 0, .int .i64 0] 36
      have hg1 := hb2w.size
      have hW1 := setRow_bk hW0 [.int .i64 n, .int .i64 m, .int .i64 b]
      have x0 : Below w2.heap.size w2 (w2.alloc (.cells #[.int .i64 0, .int .i64 0, .int .i64 0] 36)) := (Below.refl _ w2).alloc (Nat.le_refl _) _
      have x1 := below_setRow x0 (Nat.le_refl _) #[.int .i64 n, .int .i64 m, .int .i64 b]
      have hB4 := hB2.below x1 hB2.lt
      have hne : ∀ i j, (⟨w.heap.size, i, none⟩ : Addr) ≠ ⟨w2.heap.size, j, none⟩ := fun i j he => by have h1 := hB2.lt; have h2 := congrArg Addr.block he; simp only [] at h2; omega
      have hm1 : IntKind.i64.wrap (m + pickV mtu (1501 - m)) = m + pickV mtu (1501 - m) := i64_fit ⟨by omega, by omega⟩
      refine vl_valg rfl (os_not rfl) ?_
      refine vl_val (os_pick_f rfl rfl) ?_
      refine vl_nil ?_
      refine v_cond_f rfl ?_
      refine v_skip ?_
      refine v_seq ?_
      refine v_region ?_
      refine vl_val (os_loadB Try.underlying36 rfl (by kernel_rfl) rfl (hB2)) ?_
      refine vl_val (os_alloc Try.zeroValue36) ?_
      refine vl_unit (ou_storeB (by kernel_rfl) rfl rfl (hW0) rfl rfl) ?_
      refine vl_nil ?_
      refine v_seq ?_
      refine v_region_t (LeS (⟨w2.heap.size, 0 + 1, none⟩) (.int .i64 (m + pickV mtu (1501 - m)))) _ mixed (by kernel_rfl) (lee_s _ _) (les_start _ _ _) ?_
      refine vt_val (fun w hw => os_fa (o := 1) (k := 0) (by kernel_rfl) rfl) ?_
      refine vt_val (fun w hw => os_load Try.isAgg3 rfl (les_cell hw (hne _ _) (hB4.cell rfl))) ?_
      refine vt_val (fun w hw => os_move rfl) ?_
      refine vt_val (fun w hw => os_fa (o := 1) (k := 0) (by kernel_rfl) rfl) ?_
      refine vt_val (fun w hw => os_load Try.isAgg3 rfl (les_cell hw (hne _ _) (hB4.cell rfl))) ?_
      refine vt_val (fun w hw => os_subi rfl rfl (by omega)) ?_
      refine vt_call (v := _) (fun w hw => (kit_Pick mtu (1501 - m) _ (by omega)).mono fun v w' h => ⟨h.1, by rw [h.2]; exact (lee_s _ _).refl _⟩) rfl ?_
      refine vt_val (fun w hw => os_addi rfl rfl (by omega)) ?_
      refine vt_val (fun w hw => os_fa (o := 1) (k := 0) (by kernel_rfl) rfl) ?_
      refine vt_store Try.sizeOf3 rfl rfl rfl (hW1.cell rfl) (hW1.free _) ?_
      refine vt_nilg (fun w hw hg => ?_)
      obtain ⟨-, -, q1, rfl⟩ := hg
      have hW2 := (hW1.set 1 (.int .i64 (m + pickV mtu (1501 - m)))).led ⟨q1, rfl⟩
      have x2 := below_set x1 (Nat.le_refl _) (0 + 1) (.int .i64 (m + pickV mtu (1501 - m)))
      have hB5 := hB2.below x2 hB2.lt
      refine v_seq ?_
      refine v_region_t (LeS (⟨w2.heap.size, 0 + 2, none⟩) (.int .i64 (b + pickV bud (524289 - b)))) _ mixed (by kernel_rfl) (lee_s _ _) (les_start _ _ _) ?_
      refine vt_val (fun w hw => os_fa (o := 2) (k := 0) (by kernel_rfl) rfl) ?_
      refine vt_val (fun w hw => os_load Try.isAgg3 rfl (les_cell hw (hne _ _) (hB5.cell rfl))) ?_
      refine vt_val (fun w hw => os_move rfl) ?_
      refine vt_val (fun w hw => os_fa (o := 2) (k := 0) (by kernel_rfl) rfl) ?_
      refine vt_val (fun w hw => os_load Try.isAgg3 rfl (les_cell hw (hne _ _) (hB5.cell rfl))) ?_
      refine vt_val (fun w hw => os_subi rfl rfl (by omega)) ?_
      refine vt_call (v := _) (fun w hw => (kit_Pick bud (524289 - b) _ (by omega)).mono fun v w' h => ⟨h.1, by rw [h.2]; exact (lee_s _ _).refl _⟩) rfl ?_
      refine vt_val (fun w hw => os_addi rfl rfl (by omega)) ?_
      refine vt_val (fun w hw => os_fa (o := 2) (k := 0) (by kernel_rfl) rfl) ?_
      refine vt_store Try.sizeOf3 rfl rfl rfl (hW2.cell rfl) (hW2.free _) ?_
      refine vt_nilg (fun w hw hg => ?_)
      obtain ⟨-, -, q2, rfl⟩ := hg
      have hW3 := (hW2.set 2 (.int .i64 (b + pickV bud (524289 - b)))).led ⟨q2, rfl⟩
      have x3 := below_drewN_ (below_set (below_drewN_ x2 q1) (Nat.le_refl _) (0 + 2) (.int .i64 (b + pickV bud (524289 - b)))) q2
      have hB6 := hB2.below x3 hB2.lt
      have ha6 := ha2.keep x3
      have hk6 := hk2.keep x3
      have hb6w := hb2w.trans (x3.mono hb2w.size)
      have hfr := fits_room hf (show m ≤ m + pickV mtu (1501 - m) by omega) (by omega) (show b ≤ b + pickV bud (524289 - b) by omega) (by omega)
      rw [← hl] at hfr hx0 f1
      have e1 : roomV n m b l = roomW n m b l := by unfold roomV; rw [f1]; rfl
      have e2 : roomV n (m + pickV mtu (1501 - m)) (b + pickV bud (524289 - b)) l = roomW n (m + pickV mtu (1501 - m)) (b + pickV bud (524289 - b)) l := by unfold roomV; rw [hfr.2.1]; rfl
      have hfr3 := hfr.2.2
      have hfr1 := hfr.1
      have hfr2 := hfr.2.1
      clear hfr
      generalize hM : m + pickV mtu (1501 - m) = M at *
      generalize hBu : b + pickV bud (524289 - b) = Bu at *
      refine v_seq ?_
      refine v_region ?_
      refine vl_val (os_loadB Try.underlying36 rfl (by kernel_rfl) rfl (hB6)) ?_
      refine vl_val (os_move rfl) ?_
      refine vl_val (os_len Try.underlying37 rfl) ?_
      refine vl_call (size_Room n m b l _) rfl ?_
      rintro v3 w3 ⟨rfl, hb3⟩
      have hb3w := hb6w.trans (hb3.mono hb6w.size)
      refine vl_val (os_move rfl) ?_
      refine vl_val (os_extract rfl rfl) ?_
      refine vl_val (os_extract rfl rfl) ?_
      refine vl_val (os_assign rfl) ?_
      refine vl_val (os_assign rfl) ?_
      refine vl_nil ?_
      refine v_seq ?_
      refine v_region ?_
      refine vl_val (os_loadB Try.underlying36 rfl (by kernel_rfl) rfl (hW3.keep hb3)) ?_
      refine vl_val (os_move rfl) ?_
      refine vl_val (os_len Try.underlying37 rfl) ?_
      refine vl_call (size_Room n M Bu l _) rfl ?_
      rintro v4 w4 ⟨rfl, hb4⟩
      have hb4w := hb3w.trans (hb4.mono hb3w.size)
      refine vl_val (os_move rfl) ?_
      refine vl_val (os_extract rfl rfl) ?_
      refine vl_val (os_extract rfl rfl) ?_
      refine vl_val (os_assign rfl) ?_
      refine vl_val (os_assign rfl) ?_
      refine vl_nil ?_
      refine v_seq ?_
      refine v_region ?_
      refine vl_val (os_move rfl) ?_
      refine vl_val (os_move rfl) ?_
      refine vl_val (os_len Try.underlying37 rfl) ?_
      refine vl_call (kit_Pick turn l _ (by omega)) rfl ?_
      rintro v5 w4 ⟨rfl, rfl⟩
      have ha8 := (ha6.keep hb3).keep hb4
      have hk8 := (hk6.keep hb3).keep hb4
      have hB8 := (hB6.keep hb3).keep hb4
      have hW8 := (hW3.keep hb3).keep hb4
      have hl1 := hlb.1
      have pk := pick_bd turn (show (1 : Int) ≤ l by omega)
      obtain ⟨kk, hkk⟩ : ∃ kk : Nat, pickV turn l = kk := ⟨(pickV turn l).toNat, by omega⟩
      rw [hkk] at pk ⊢
      have hlk2 := hlb.2.2 kk (by omega)
      have s0 := own_alloc w4 [] 3 (Nat.le_refl w4.heap.size) (by simp [maxLen])
      have s0b : Below w4.heap.size w4 (w4.alloc (.cells #[] 3)) := (Below.refl _ w4).alloc (Nat.le_refl _) _
      refine vl_val (os_assign rfl) ?_
      refine vl_nil ?_
      refine v_seq ?_
      refine v_region ?_
      refine vl_val (os_lit Try.underlying37 Try.sizeOf3 Try.zeroValue3 rfl rfl rfl rfl (by decide)) ?_
      refine vl_val (os_move rfl) ?_
      refine vl_some (ot_append Try.underlying37 ti_int rfl rfl rfl s0 (ha8.keep s0b).toC (by simp [hl]) (ints_oneCell _ _) (by simp; omega) (by simp [maxLen]; omega) (by simp)) ?_
      rintro v6 w6 ⟨so, sg⟩
      simp only [List.nil_append] at so
      have so6 : OwnK w6 w4.heap.size 3 .i64 v6 lens := so
      have x6 := s0.below s0b sg (Nat.le_refl _) (by simp)
      obtain ⟨g6, c6, rfl, hg6, hg6', hc6, _⟩ := so6.row (by omega)
      obtain ⟨b1, o1, hA, cl⟩ := (ha8.keep x6).at_ (i := kk) (by omega)
      have ha9 := ha8.keep x6
      have hk9 := hk8.keep x6
      have hB9 := hB8.keep x6
      have hW9 := hW8.keep x6
      subst hA
      refine vl_val (os_assign rfl) ?_
      refine vl_nil ?_
      refine v_seq ?_
      refine v_region ?_
      refine vl_val (os_move rfl) ?_
      refine vl_val (os_move rfl) ?_
      refine vl_val (os_move rfl) ?_
      refine vl_val (os_quo rfl rfl (by decide) rfl) ?_
      refine vl_val (os_move rfl) ?_
      refine vl_val (os_move rfl) ?_
      refine vl_val (os_ix Try.underlying37 Try.sizeOf3 rfl rfl (i := kk) (by omega) (by omega)) ?_
      refine vl_val (os_load Try.isAgg3 rfl (cl)) ?_
      refine vl_val (os_addi rfl rfl (by omega)) ?_
      refine vl_call (kit_Pick _ (lens.getD kk 0 + 1) _ (by omega)) rfl ?_
      rintro v7 w6 ⟨rfl, rfl⟩
      have pv := pick_bd (IntKind.i64.wrap (turn.tdiv 2)) (show 1 ≤ lens.getD kk 0 + 1 by omega)
      generalize pickV (IntKind.i64.wrap (turn.tdiv 2)) (lens.getD kk 0 + 1) = V at *
      refine vl_val (os_ix Try.underlying37 Try.sizeOf3 rfl rfl (i := kk) (by omega) (by omega)) ?_
      refine vl_unit (ou_store Try.sizeOf3 rfl rfl rfl (by rw [Nat.zero_add]; exact so6.cell (by omega)) (by rw [Nat.zero_add]; exact Own.free so6 _)) ?_
      have so7 := so6.set (0 + kk) V
      have x7 := Own.below_set x6 so6 (Nat.le_refl _) (0 + kk) (.int .i64 V)
      rw [Nat.zero_add] at so7 x7
      rw [Nat.zero_add]
      generalize hw7 : w6.setCell ⟨g6, kk, none⟩ (.int .i64 V) = w7 at *
      clear hw7
      have ha10 := ha8.keep x7
      have hk10 := hk8.keep x7
      have hB10 := hB8.keep x7
      have hW10 := hW8.keep x7
      have z0 := own_alloc w7 [] 3 (Nat.le_refl w7.heap.size) (by simp [maxLen])
      have z0b : Below w7.heap.size w7 (w7.alloc (.cells #[] 3)) := (Below.refl _ w7).alloc (Nat.le_refl _) _
      refine vl_nil ?_
      refine v_seq ?_
      refine v_region ?_
      refine vl_val (os_lit Try.underlying37 Try.sizeOf3 Try.zeroValue3 rfl rfl rfl rfl (by decide)) ?_
      refine vl_val (os_move rfl) ?_
      refine vl_some (ot_append Try.underlying37 ti_int rfl rfl rfl z0 (hk10.keep z0b).toC (by simp [hlk]) (ints_oneCell _ _) (by simp; omega) (by simp [maxLen]; omega) (by simp)) ?_
      rintro v8 w8 ⟨zo, zg⟩
      simp only [List.nil_append] at zo
      have zo8 : OwnK w8 w7.heap.size 3 .i64 v8 ks := zo
      have y8 := z0.below z0b zg (Nat.le_refl _) (by simp)
      obtain ⟨g8, c8, rfl, hg8, hg8', hc8, _⟩ := zo8.row (by omega)
      have hB11 := hB10.keep y8
      refine vl_val (os_assign rfl) ?_
      refine vl_nil ?_
      refine v_seq ?_
      refine v_region ?_
      refine vl_val (os_move rfl) ?_
      refine vl_val (os_move rfl) ?_
      refine vl_val (os_len Try.underlying37 rfl) ?_
      refine vl_val (os_subi rfl rfl (by omega)) ?_
      refine vl_val (os_fa (o := 0) (k := 0) (by kernel_rfl) rfl) ?_
      refine vl_val (os_load Try.isAgg3 rfl (hB11.cell rfl)) ?_
      refine vl_val (os_ix Try.underlying37 Try.sizeOf3 rfl rfl (i := lk - 1) (by omega) (by omega)) ?_
      refine vl_unit (ou_store Try.sizeOf3 rfl rfl rfl (by rw [Nat.zero_add]; exact zo8.cell (by omega)) (by rw [Nat.zero_add]; exact Own.free zo8 _)) ?_
      have zo9 := zo8.set (0 + (lk - 1)) n
      have y9 := Own.below_set y8 zo8 (Nat.le_refl _) (0 + (lk - 1)) (.int .i64 n)
      rw [Nat.zero_add] at zo9 y9
      rw [Nat.zero_add]
      generalize hw9 : w8.setCell ⟨g8, lk - 1, none⟩ (.int .i64 n) = w9 at *
      clear hw9
      have ha12 := ha10.keep y9
      have hk12 := hk10.keep y9
      have hB12 := hB10.keep y9
      have hW12 := hW10.keep y9
      have so12 := so7.rd.keep y9
      have zo12 := zo9.rd
      have b12 : Below w.heap.size w w9 := (hb4w.trans (x7.mono hb4w.size)).trans (y9.mono (Nat.le_trans hb4w.size x7.size))
      refine vl_nil ?_
      refine v_seq ?_
      refine v_region ?_
      refine vl_val (os_move rfl) ?_
      refine vl_val (os_t (os_eql rfl rfl) (by rw [f1]; decide)) ?_
      refine vl_val (os_move rfl) ?_
      refine vl_valg rfl (os_move rfl) ?_
      refine vl_valg rfl (os_t (os_eql rfl rfl) (by rw [hfr2]; decide)) ?_
      refine vl_val (os_pick_t rfl rfl) ?_
      refine vl_val (os_move rfl) ?_
      refine vl_valg rfl (os_move rfl) ?_
      refine vl_valg rfl (os_move rfl) ?_
      refine vl_valg rfl (os_t (os_geq rfl rfl) (by rw [e1, e2]; exact hfr3)) ?_
      refine vl_val (os_pick_t rfl rfl) ?_
      refine vl_val (os_move rfl) ?_
      refine vl_valg rfl (os_move rfl) ?_
      refine vl_valg rfl (os_t (os_geq rfl rfl) (by rw [e1]; exact hx0)) ?_
      refine vl_val (os_pick_t rfl rfl) ?_
      refine vl_val (os_move rfl) ?_
      refine vl_valg rfl (os_loadB Try.underlying36 rfl (by kernel_rfl) rfl (hW12)) ?_
      refine vl_valg rfl (os_move rfl) ?_
      refine vl_valg rfl (os_move rfl) ?_
      refine vl_callg rfl (gives_boolb (size_Fits n M Bu _ _ l _ lk ck lens ks _ ha12 hk12 hl hlk (by omega) (by omega) hks) hfr1) rfl ?_
      rintro v13 w13 ⟨rfl, hb13⟩
      have b13 := b12.trans (hb13.mono b12.size)
      refine vl_val (os_pick_t rfl rfl) ?_
      refine vl_val (os_move rfl) ?_
      refine vl_valg rfl (os_loadB Try.underlying36 rfl (by kernel_rfl) rfl (hB12.keep hb13)) ?_
      refine vl_valg rfl (os_move rfl) ?_
      refine vl_valg rfl (os_move rfl) ?_
      refine vl_callg rfl (gives_boolb (size_Fits n m b _ _ _ c6 lk ck (lens.set kk V) ks _ (so12.keep hb13) (hk12.keep hb13) (by rw [List.length_set]) hlk (by omega) (by omega) hks) (fits_short hf (by omega) pv.1 (by omega))) rfl ?_
      rintro v14 w14 ⟨rfl, hb14⟩
      have b14 := b13.trans (hb14.mono b13.size)
      refine vl_val (os_pick_t rfl rfl) ?_
      refine vl_val (os_move rfl) ?_
      refine vl_valg rfl (os_loadB Try.underlying36 rfl (by kernel_rfl) rfl ((hB12.keep hb13).keep hb14)) ?_
      refine vl_valg rfl (os_move rfl) ?_
      refine vl_valg rfl (os_move rfl) ?_
      refine vl_callg rfl (gives_boolb (size_Fits n m b _ _ l _ _ c8 lens (ks.set (lk - 1) n) _ ((ha12.keep hb13).keep hb14) ((zo12.keep hb13).keep hb14) hl (by rw [List.length_set]) (by omega) (by omega) (by intro z hz; rcases List.mem_or_eq_of_mem_set hz with hz | hz; exact hks z hz; subst hz; exact ⟨by omega, by omega⟩)) (c := true) (by rw [hlk]; exact fits_more hf)) rfl ?_
      rintro v15 w15 ⟨rfl, hb15⟩
      refine vl_val (os_pick_t rfl rfl) ?_
      refine vl_val (os_assign rfl) ?_
      refine vl_nil ?_
      refine v_ret ?_
      exact post_ret rfl rfl (⟨rfl, b14.trans (hb15.mono b14.size)⟩)
end Go.Proofs.Ytpcfifheegfjiaa
