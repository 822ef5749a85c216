/- Texts joined: PmL. -/
import Derived.Test.YtpojijnjdlnokaaM14
/- Layer 13: the walk of PlanMore. -/
namespace Go.Proofs.Ytpojijnjdlnokaa
open Go.RowKit
set_option linter.unusedVariables false

def zP : List Value := [.int .i64 0, .int .i64 0, .int .i64 0, .slice none 0 0, .slice none 0 0, .slice none 0 0]
theorem rows_sepT {w : World} {B B' : Nat} {t t' : TypeId} {s s' n m : Nat} {v u : Value} {cs ds : List Value} (h : w.ownsRow B t s v n cs) (h' : w.ownsRow B' t' s' u m ds) (ht : t ≠ t') : ∀ k, u.ownBlock = some k → v.ownBlock ≠ some k := by
  intro k hk hv
  rcases h.2 with ⟨rfl, _⟩ | ⟨g, cap, cur, rfl, _, hg, _⟩
  · cases hv
  rcases h'.2 with ⟨rfl, _⟩ | ⟨g', cap', cur', rfl, _, hg', _⟩
  · cases hk
  simp only [Value.ownBlock, Option.some.injEq] at hk hv
  subst hk
  subst hv
  rw [hg] at hg'
  injection hg' with hg'
  injection hg' with _ hg'
  exact ht hg'
theorem pm_two {w w1 w2 : World} {B : Nat} {V V1 U : Value} {ps ps1 : List (List Value)} {zs : List Int} (hV : OwnP w B 62 2 V ps) (hU : OwnK w B 3 .i64 U zs) (a : Below w.heap.size w w1) (g1 : w1.grownBy w2 V.ownBlock) (hV1 : OwnP w2 B 62 2 V1 ps1) (hV' : OwnP w1 B 62 2 V ps) :
    OwnK w2 B 3 .i64 U zs :=
  Own.kb (Own.keepAll hU a) (Kb.grown (S := V.ownBlock.toList) g1 (fun k hk => by simp [hk])) (fun b hb hm => rows_sepT hV'.2 (Own.keepAll hU a) (by decide) b hb (by simpa using hm))
theorem pm_two' {w1 w2 : World} {B : Nat} {V U : Value} {ps : List (List Value)} {zs : List Int} (hV : OwnP w1 B 62 2 V ps) (hU : OwnK w1 B 3 .i64 U zs) (g : w1.grownBy w2 U.ownBlock) : OwnP w2 B 62 2 V ps :=
  hV.blk fun k hk => (Kb.grown (S := U.ownBlock.toList) g (fun k hk => by simp [hk])).block k (hV.lt k hk).2 (fun hm => rows_sepT hU hV.2 (by decide) k hk (by simpa using hm))
set_option maxHeartbeats 8000000 in
theorem law13_PlanMore (d : TaskV) (q : TaskP) (x y : Int) (w : World) (hd : TaskOk w d q) : Gives Try.prog 9 #[.agg d.cells.toArray, .int .i64 x, .int .i64 y] w fun v w' => v = .bool true ∧ Below w.heap.size w w' := by
  have hB := bk_new w d.cells 44
  have hb0 : Below w.heap.size w (w.alloc (.cells d.cells.toArray 44)) := (Below.refl _ w).alloc (Nat.le_refl _) _
  have hll := hd.ll
  have hwl := hd.wl
  have hvl := hd.vl
  have hbl := hd.bl
  have hbw := hd.bw
  have hbv := hd.bv
  have hl8 := bestL_len (q := q)
  refine gives_enter Try.call9 Try.func9 rfl rfl rfl (by kernel_rfl) ?_
  refine v_seq ?_
  refine v_region ?_
  refine vl_val (os_box rfl) ?_
  refine vl_val (os_assign rfl) ?_
  refine vl_nil ?_
  refine v_seq ?_
  refine v_seq ?_
  refine v_region ?_
  refine vl_call (law13_awake _) rfl ?_
  rintro v1 w1 ⟨rfl, b1⟩
  have hb1 := hb0.trans (b1.mono hb0.size)
  have hB1 := hB.keep b1
  refine vl_val (os_not rfl) ?_
  refine vl_nil ?_
  refine v_cond_f rfl ?_
  refine v_skip ?_
  refine v_seq ?_
  refine v_seq ?_
  refine v_region ?_
  refine vl_val (os_fa (o := 3) (k := 0) (by kernel_rfl) rfl) ?_
  refine vl_val (os_load Try.isAgg40 rfl (hB1.cell (i := 3) rfl)) ?_
  refine vl_val (os_len Try.underlying40 rfl) ?_
  refine vl_val (os_fa (o := 4) (k := 0) (by kernel_rfl) rfl) ?_
  refine vl_val (os_load Try.isAgg40 rfl (hB1.cell (i := 4) rfl)) ?_
  refine vl_val (os_len Try.underlying40 rfl) ?_
  refine vl_val (os_addi rfl rfl (by omega)) ?_
  refine vl_val (os_fa (o := 5) (k := 0) (by kernel_rfl) rfl) ?_
  refine vl_val (os_load Try.isAgg40 rfl (hB1.cell (i := 5) rfl)) ?_
  refine vl_val (os_len Try.underlying40 rfl) ?_
  refine vl_val (os_addi rfl rfl (by omega)) ?_
  refine vl_val (os_gtr rfl rfl) ?_
  refine vl_nil ?_
  refine v_cond_d rfl (fun hbig => ?_) (fun hbig => ?_)
  · refine v_seq ?_
    refine v_region ?_
    refine vl_val (os_assign rfl) ?_
    refine vl_nil ?_
    refine v_ret ?_
    exact post_ret rfl rfl (⟨rfl, hb1⟩)
  · refine v_skip ?_
    refine v_seq ?_
    refine v_region ?_
    refine vl_val (os_loadB Try.underlying44 rfl (by kernel_rfl) rfl hB1) ?_
    refine vl_call (pn_Score d q w1 (hd.keep hb1)) rfl ?_
    rintro v2 w2 ⟨rfl, b2⟩
    have hb2 := hb1.trans (b2.mono hb1.size)
    have hB2 := hB1.keep b2
    refine vl_val (os_move rfl) ?_
    refine vl_val (os_extract rfl rfl) ?_
    refine vl_val (os_extract rfl rfl) ?_
    refine vl_val (os_assign rfl) ?_
    refine vl_val (os_assign rfl) ?_
    refine vl_nil ?_
    refine v_seq ?_
    refine v_region ?_
    refine vl_val (os_loadB Try.underlying44 rfl (by kernel_rfl) rfl hB2) ?_
    refine vl_call (pn_Best d q w2 (hd.keep hb2)) rfl ?_
    rintro v3 w3 ⟨s, rfl, ho, b3⟩
    have hb3 := hb2.trans (b3.mono hb2.size)
    have hB3 := hB2.keep b3
    obtain ⟨A3, c3, rfl, -, -, hr3, -⟩ := OwnK.form ho
    refine vl_val (os_move rfl) ?_
    refine vl_val (os_extract rfl rfl) ?_
    refine vl_val (os_extract rfl rfl) ?_
    refine vl_val (os_assign rfl) ?_
    refine vl_val (os_assign rfl) ?_
    refine vl_nil ?_
    refine v_seq ?_
    refine v_seq ?_
    refine v_region ?_
    refine vl_val (os_move rfl) ?_
    refine vl_val (os_move rfl) ?_
    refine vl_val (os_f (os_neq rfl rfl) (by omega)) ?_
    refine vl_nil ?_
    refine v_cond_f rfl ?_
    refine v_skip ?_
    refine v_seq ?_
    refine v_seq ?_
    refine v_region ?_
    refine vl_val (os_move rfl) ?_
    refine vl_val (os_neq rfl rfl) ?_
    refine vl_nil ?_
    refine v_cond_d rfl (fun hE => ?_) (fun hE => ?_)
    · refine v_seq ?_
      refine v_region ?_
      refine vl_val (os_assign rfl) ?_
      refine vl_nil ?_
      refine v_ret ?_
      exact post_ret rfl rfl (⟨rfl, hb3⟩)
    · have hE0 : bestE q = 0 := by omega
      have hbr := bestR hE0
      have hR := hbr.R_
      have hn1 := hR.n1
      have hn2 := hR.n2
      have hl1 := hR.l1
      have hl2 := hR.l2
      have hm1 := hR.m1
      have hq1 := hR.b1
      have hdn := hd.n
      have hdm := hd.m
      have hdb := hd.b
      obtain ⟨X, hX⟩ : ∃ X, X = pickV x (1501 - d.m) := ⟨_, rfl⟩
      obtain ⟨Y, hY⟩ : ∃ Y, Y = pickV y (524289 - d.b) := ⟨_, rfl⟩
      have hXb : 0 ≤ X ∧ X < 1501 - d.m := by rw [hX]; exact pick_bd _ (by omega)
      have hYb : 0 ≤ Y ∧ Y < 524289 - d.b := by rw [hY]; exact pick_bd _ (by omega)
      refine v_skip ?_
      refine v_seq ?_
      refine v_region ?_
      refine vl_val (os_loadB Try.underlying44 rfl (by kernel_rfl) rfl hB3) ?_
      refine vl_val (os_allocB Try.zeroValue44 (zc := _) (cs := zP) rfl) ?_
      refine vl_unit (ou_storeB (cs := zP) (t := 44) (by kernel_rfl) rfl rfl (bk_new w3 zP _) rfl rfl) ?_
      have hM : Bk ((w3.alloc (.cells zP.toArray 44)).setRow w3.heap.size d.cells.toArray) w3.heap.size d.cells 44 := setRow_bk (bk_new w3 zP _) _
      have b4 : Below w3.heap.size w3 ((w3.alloc (.cells zP.toArray 44)).setRow w3.heap.size d.cells.toArray) := below_setRow ((Below.refl _ w3).alloc (Nat.le_refl _) _) (Nat.le_refl _) _
      refine vl_nil ?_
      refine v_mid [(2, _), (3, _), (7, _), (9, _), (11, _)] (fun (u : Unit) => []) (fun u w' => Bk w' w3.heap.size {d with m := d.m + X}.cells 44 ∧ Below w3.heap.size w3 w') ⟨rfl, rfl, rfl, rfl, rfl, trivial⟩ ?_ ?_
      · refine v_region_a mixed ?_
        refine va_pure 0 rfl (by kernel_rfl) (by kernel_rfl) (by kernel_rfl) (fun w => (os_fa (o := 0) (k := 2) (by kernel_rfl) rfl)) ?_
        refine va_pure 1 rfl (by kernel_rfl) (by kernel_rfl) (by kernel_rfl) (fun w => (os_fa (o := 1) (k := 0) (by kernel_rfl) rfl)) ?_
        refine va_pure 3 rfl (by kernel_rfl) (by kernel_rfl) (by kernel_rfl) (fun w => (os_move rfl)) ?_
        refine va_pure 4 rfl (by kernel_rfl) (by kernel_rfl) (by kernel_rfl) (fun w => (os_fa (o := 0) (k := 2) (by kernel_rfl) rfl)) ?_
        refine va_pure 5 rfl (by kernel_rfl) (by kernel_rfl) (by kernel_rfl) (fun w => (os_fa (o := 1) (k := 0) (by kernel_rfl) rfl)) ?_
        refine va_two 2 6 (by kernel_rfl) ?_ ?_
        · refine vn_val rfl (os_load Try.isAgg3 rfl ((hB3.keep b4.drew).cell (i := 1) rfl)) ?_
          refine va_one 6 (by kernel_rfl) ?_
          refine vn_val rfl (os_load Try.isAgg3 rfl ((hB3.keep b4.drew).cell (i := 1) rfl)) ?_
          refine va_pure 7 rfl (by kernel_rfl) (by kernel_rfl) (by kernel_rfl) (fun w => (os_subi rfl rfl (by omega))) ?_
          refine va_one 8 (by kernel_rfl) ?_
          refine vn_call rfl (kit_Pick x (1501 - d.m) _ (by omega)) rfl ?_
          rintro v5 w5 ⟨rfl, rfl⟩
          refine va_pure 9 rfl (by kernel_rfl) (by kernel_rfl) (by kernel_rfl) (fun w => (os_addi rfl rfl (by omega))) ?_
          refine va_pure 10 rfl (by kernel_rfl) (by kernel_rfl) (by kernel_rfl) (fun w => (os_fa (o := 0) (k := 2) (by kernel_rfl) rfl)) ?_
          refine va_pure 11 rfl (by kernel_rfl) (by kernel_rfl) (by kernel_rfl) (fun w => (os_fa (o := 1) (k := 0) (by kernel_rfl) rfl)) ?_
          refine va_one 12 (by kernel_rfl) ?_
          refine vn_unit rfl (ou_store Try.sizeOf3 rfl rfl rfl ((hM.led ⟨1, rfl⟩).cell (i := 1) rfl) ((hM.led ⟨1, rfl⟩).free _)) ?_
          refine va_done (by kernel_rfl) ?_
          exact ⟨(), ⟨rfl, rfl, rfl, rfl, rfl, trivial⟩, trivial, ⟨by have := (hM.led ⟨1, rfl⟩).set 1 (.int .i64 (d.m + X)); rw [hX] at this ⊢; exact this, below_set b4.drew (Nat.le_refl _) _ _⟩⟩
        · refine vn_val rfl (os_load Try.isAgg3 rfl ((hB3.keep b4.drew).cell (i := 1) rfl)) ?_
          refine va_pure 7 rfl (by kernel_rfl) (by kernel_rfl) (by kernel_rfl) (fun w => (os_subi rfl rfl (by omega))) ?_
          refine va_two 2 8 (by kernel_rfl) ?_ ?_
          · refine vn_val rfl (os_load Try.isAgg3 rfl ((hB3.keep b4.drew).cell (i := 1) rfl)) ?_
            refine va_one 8 (by kernel_rfl) ?_
            refine vn_call rfl (kit_Pick x (1501 - d.m) _ (by omega)) rfl ?_
            rintro v5 w5 ⟨rfl, rfl⟩
            refine va_pure 9 rfl (by kernel_rfl) (by kernel_rfl) (by kernel_rfl) (fun w => (os_addi rfl rfl (by omega))) ?_
            refine va_pure 10 rfl (by kernel_rfl) (by kernel_rfl) (by kernel_rfl) (fun w => (os_fa (o := 0) (k := 2) (by kernel_rfl) rfl)) ?_
            refine va_pure 11 rfl (by kernel_rfl) (by kernel_rfl) (by kernel_rfl) (fun w => (os_fa (o := 1) (k := 0) (by kernel_rfl) rfl)) ?_
            refine va_one 12 (by kernel_rfl) ?_
            refine vn_unit rfl (ou_store Try.sizeOf3 rfl rfl rfl ((hM.led ⟨1, rfl⟩).cell (i := 1) rfl) ((hM.led ⟨1, rfl⟩).free _)) ?_
            refine va_done (by kernel_rfl) ?_
            exact ⟨(), ⟨rfl, rfl, rfl, rfl, rfl, trivial⟩, trivial, ⟨by have := (hM.led ⟨1, rfl⟩).set 1 (.int .i64 (d.m + X)); rw [hX] at this ⊢; exact this, below_set b4.drew (Nat.le_refl _) _ _⟩⟩
          · refine vn_call rfl (kit_Pick x (1501 - d.m) _ (by omega)) rfl ?_
            rintro v5 w5 ⟨rfl, rfl⟩
            refine va_one 2 (by kernel_rfl) ?_
            refine vn_val rfl (os_load Try.isAgg3 rfl ((hB3.keep b4.drew).cell (i := 1) rfl)) ?_
            refine va_pure 9 rfl (by kernel_rfl) (by kernel_rfl) (by kernel_rfl) (fun w => (os_addi rfl rfl (by omega))) ?_
            refine va_pure 10 rfl (by kernel_rfl) (by kernel_rfl) (by kernel_rfl) (fun w => (os_fa (o := 0) (k := 2) (by kernel_rfl) rfl)) ?_
            refine va_pure 11 rfl (by kernel_rfl) (by kernel_rfl) (by kernel_rfl) (fun w => (os_fa (o := 1) (k := 0) (by kernel_rfl) rfl)) ?_
            refine va_one 12 (by kernel_rfl) ?_
            refine vn_unit rfl (ou_store Try.sizeOf3 rfl rfl rfl ((hM.led ⟨1, rfl⟩).cell (i := 1) rfl) ((hM.led ⟨1, rfl⟩).free _)) ?_
            refine va_done (by kernel_rfl) ?_
            exact ⟨(), ⟨rfl, rfl, rfl, rfl, rfl, trivial⟩, trivial, ⟨by have := (hM.led ⟨1, rfl⟩).set 1 (.int .i64 (d.m + X)); rw [hX] at this ⊢; exact this, below_set b4.drew (Nat.le_refl _) _ _⟩⟩
      · rintro u w5 ⟨hM5, b5⟩
        have hB5 := hB3.keep b5
        refine v_mid [(3, _), (7, _), (9, _), (11, _)] (fun (u : Unit) => []) (fun u w' => Bk w' w3.heap.size {d with m := d.m + X, b := d.b + Y}.cells 44 ∧ Below w3.heap.size w3 w') ⟨rfl, rfl, rfl, rfl, trivial⟩ ?_ ?_
        · refine v_region_a mixed ?_
          refine va_pure 0 rfl (by kernel_rfl) (by kernel_rfl) (by kernel_rfl) (fun w => (os_fa (o := 0) (k := 2) (by kernel_rfl) rfl)) ?_
          refine va_pure 1 rfl (by kernel_rfl) (by kernel_rfl) (by kernel_rfl) (fun w => (os_fa (o := 2) (k := 0) (by kernel_rfl) rfl)) ?_
          refine va_pure 3 rfl (by kernel_rfl) (by kernel_rfl) (by kernel_rfl) (fun w => (os_move rfl)) ?_
          refine va_pure 4 rfl (by kernel_rfl) (by kernel_rfl) (by kernel_rfl) (fun w => (os_fa (o := 0) (k := 2) (by kernel_rfl) rfl)) ?_
          refine va_pure 5 rfl (by kernel_rfl) (by kernel_rfl) (by kernel_rfl) (fun w => (os_fa (o := 2) (k := 0) (by kernel_rfl) rfl)) ?_
          refine va_two 2 6 (by kernel_rfl) ?_ ?_
          · refine vn_val rfl (os_load Try.isAgg3 rfl ((hB5.led ⟨1, rfl⟩).cell (i := 2) rfl)) ?_
            refine va_one 6 (by kernel_rfl) ?_
            refine vn_val rfl (os_load Try.isAgg3 rfl ((hB5.led ⟨1, rfl⟩).cell (i := 2) rfl)) ?_
            refine va_pure 7 rfl (by kernel_rfl) (by kernel_rfl) (by kernel_rfl) (fun w => (os_subi rfl rfl (by omega))) ?_
            refine va_one 8 (by kernel_rfl) ?_
            refine vn_call rfl (kit_Pick y (524289 - d.b) _ (by omega)) rfl ?_
            rintro v6 w6 ⟨rfl, rfl⟩
            refine va_pure 9 rfl (by kernel_rfl) (by kernel_rfl) (by kernel_rfl) (fun w => (os_addi rfl rfl (by omega))) ?_
            refine va_pure 10 rfl (by kernel_rfl) (by kernel_rfl) (by kernel_rfl) (fun w => (os_fa (o := 0) (k := 2) (by kernel_rfl) rfl)) ?_
            refine va_pure 11 rfl (by kernel_rfl) (by kernel_rfl) (by kernel_rfl) (fun w => (os_fa (o := 2) (k := 0) (by kernel_rfl) rfl)) ?_
            refine va_one 12 (by kernel_rfl) ?_
            refine vn_unit rfl (ou_store Try.sizeOf3 rfl rfl rfl ((hM5.led ⟨1, rfl⟩).cell (i := 2) rfl) ((hM5.led ⟨1, rfl⟩).free _)) ?_
            refine va_done (by kernel_rfl) ?_
            exact ⟨(), ⟨rfl, rfl, rfl, rfl, trivial⟩, trivial, ⟨by have := (hM5.led ⟨1, rfl⟩).set 2 (.int .i64 (d.b + Y)); rw [hY] at this ⊢; exact this, below_set b5.drew (Nat.le_refl _) _ _⟩⟩
          · refine vn_val rfl (os_load Try.isAgg3 rfl ((hB5.led ⟨1, rfl⟩).cell (i := 2) rfl)) ?_
            refine va_pure 7 rfl (by kernel_rfl) (by kernel_rfl) (by kernel_rfl) (fun w => (os_subi rfl rfl (by omega))) ?_
            refine va_two 2 8 (by kernel_rfl) ?_ ?_
            · refine vn_val rfl (os_load Try.isAgg3 rfl ((hB5.led ⟨1, rfl⟩).cell (i := 2) rfl)) ?_
              refine va_one 8 (by kernel_rfl) ?_
              refine vn_call rfl (kit_Pick y (524289 - d.b) _ (by omega)) rfl ?_
              rintro v6 w6 ⟨rfl, rfl⟩
              refine va_pure 9 rfl (by kernel_rfl) (by kernel_rfl) (by kernel_rfl) (fun w => (os_addi rfl rfl (by omega))) ?_
              refine va_pure 10 rfl (by kernel_rfl) (by kernel_rfl) (by kernel_rfl) (fun w => (os_fa (o := 0) (k := 2) (by kernel_rfl) rfl)) ?_
              refine va_pure 11 rfl (by kernel_rfl) (by kernel_rfl) (by kernel_rfl) (fun w => (os_fa (o := 2) (k := 0) (by kernel_rfl) rfl)) ?_
              refine va_one 12 (by kernel_rfl) ?_
              refine vn_unit rfl (ou_store Try.sizeOf3 rfl rfl rfl ((hM5.led ⟨1, rfl⟩).cell (i := 2) rfl) ((hM5.led ⟨1, rfl⟩).free _)) ?_
              refine va_done (by kernel_rfl) ?_
              exact ⟨(), ⟨rfl, rfl, rfl, rfl, trivial⟩, trivial, ⟨by have := (hM5.led ⟨1, rfl⟩).set 2 (.int .i64 (d.b + Y)); rw [hY] at this ⊢; exact this, below_set b5.drew (Nat.le_refl _) _ _⟩⟩
            · refine vn_call rfl (kit_Pick y (524289 - d.b) _ (by omega)) rfl ?_
              rintro v6 w6 ⟨rfl, rfl⟩
              refine va_one 2 (by kernel_rfl) ?_
              refine vn_val rfl (os_load Try.isAgg3 rfl ((hB5.led ⟨1, rfl⟩).cell (i := 2) rfl)) ?_
              refine va_pure 9 rfl (by kernel_rfl) (by kernel_rfl) (by kernel_rfl) (fun w => (os_addi rfl rfl (by omega))) ?_
              refine va_pure 10 rfl (by kernel_rfl) (by kernel_rfl) (by kernel_rfl) (fun w => (os_fa (o := 0) (k := 2) (by kernel_rfl) rfl)) ?_
              refine va_pure 11 rfl (by kernel_rfl) (by kernel_rfl) (by kernel_rfl) (fun w => (os_fa (o := 2) (k := 0) (by kernel_rfl) rfl)) ?_
              refine va_one 12 (by kernel_rfl) ?_
              refine vn_unit rfl (ou_store Try.sizeOf3 rfl rfl rfl ((hM5.led ⟨1, rfl⟩).cell (i := 2) rfl) ((hM5.led ⟨1, rfl⟩).free _)) ?_
              refine va_done (by kernel_rfl) ?_
              exact ⟨(), ⟨rfl, rfl, rfl, rfl, trivial⟩, trivial, ⟨by have := (hM5.led ⟨1, rfl⟩).set 2 (.int .i64 (d.b + Y)); rw [hY] at this ⊢; exact this, below_set b5.drew (Nat.le_refl _) _ _⟩⟩
        · rintro u w6 ⟨hM6, b6⟩
          have hb6 := hb3.trans (b6.mono hb3.size)
          have hB6 := hB3.keep b6
          obtain ⟨q2, hq2⟩ : ∃ q2, q2 = wideQ q (q.m + X) (q.b + Y) := ⟨_, rfl⟩
          have hd2 : TaskOk w {d with m := d.m + X, b := d.b + Y} q2 := by rw [hq2]; exact ⟨hd.L, hd.W, hd.V, hll, hwl, hvl, hbl, hbw, hbv, hdn, by show d.m + X = q.m + X; omega, by show d.b + Y = q.b + Y; omega, ⟨hd.iN.1, ⟨by show _ ≤ q.m + X; omega, by show q.m + X ≤ _; omega⟩, ⟨by show _ ≤ q.b + Y; omega, by show q.b + Y ≤ _; omega⟩⟩, hd.iL, hd.iW, hd.iV⟩
          refine v_seq ?_
          refine v_region ?_
          refine vl_val (os_loadB Try.underlying44 rfl (by kernel_rfl) rfl hM6) ?_
          refine vl_call (pn_Score _ q2 w6 (hd2.keep hb6)) rfl ?_
          rintro v7 w7 ⟨rfl, b7⟩
          have hb7 := hb6.trans (b7.mono hb6.size)
          have hB7 := hB6.keep b7
          have b37 := b6.trans (b7.mono b6.size)
          have hr7 := hr3.keep b37
          have hd7 := hd.keep hb7
          refine vl_val (os_move rfl) ?_
          refine vl_val (os_extract rfl rfl) ?_
          refine vl_val (os_extract rfl rfl) ?_
          refine vl_val (os_assign rfl) ?_
          refine vl_val (os_assign rfl) ?_
          refine vl_nil ?_
          refine v_seq ?_
          refine v_region ?_
          refine vl_val (os_fa (o := 4) (k := 0) (by kernel_rfl) rfl) ?_
          refine vl_val (os_load Try.isAgg40 rfl (hB7.cell (i := 4) rfl)) ?_
          refine vl_val (os_move rfl) ?_
          refine vl_val (os_fa (o := 5) (k := 0) (by kernel_rfl) rfl) ?_
          refine vl_val (os_load Try.isAgg40 rfl (hB7.cell (i := 5) rfl)) ?_
          refine vl_call (wg_Score d.AW A3 d.AV d.wl _ d.vl d.wc c3 d.vc q.worths (bestL q) q.ws w7 hd7.W hr7 hd7.V hwl rfl hvl (by omega) (by omega) (by omega)) rfl ?_
          rintro v8 w8 ⟨rfl, d8⟩
          have hwide := wide hE0 (m := q.m + X) (b := q.b + Y) ⟨by omega, by omega⟩ ⟨by omega, by omega⟩
          rw [← hq2] at hwide
          have hsc : scV q.worths (bestL q) q.ws = scoreV q := by rw [scoreV, if_pos hE0]
          have hso : errA (scOk q.worths (bestL q) q.ws) = 0 := by rw [hbr.sc]; rfl
          have hb8 := hb7.trans ((led_below d8).mono hb7.size)
          have hB8 := hB7.led d8
          have hd8 := hd7.led d8
          have hr8 := hr7.led d8
          have hlen : (bestL q).length = q.lens.length := by rw [hbr.l, natL_len, hbr.len]
          have hlr : (rowsZ (bestL q) q.lens).length = q.lens.length := by simp [rowsZ, hlen]
          refine vl_val (os_move rfl) ?_
          refine vl_val (os_extract rfl rfl) ?_
          refine vl_val (os_extract rfl rfl) ?_
          refine vl_val (os_assign rfl) ?_
          refine vl_val (os_assign rfl) ?_
          refine vl_nil ?_
          refine v_seq ?_
          refine v_seq ?_
          refine v_region ?_
          refine vl_val (os_move rfl) ?_
          refine vl_val (os_f (os_neq rfl rfl) (by omega)) ?_
          refine vl_val (os_move rfl) ?_
          refine vl_valg rfl (os_move rfl) ?_
          refine vl_valg rfl (os_f (os_neq rfl rfl) (by omega)) ?_
          refine vl_val (os_pick_f rfl rfl) ?_
          refine vl_val (os_move rfl) ?_
          refine vl_valg rfl (os_move rfl) ?_
          refine vl_valg rfl (os_move rfl) ?_
          refine vl_valg rfl (os_f (os_lss rfl rfl) (by omega)) ?_
          refine vl_val (os_pick_f rfl rfl) ?_
          refine vl_val (os_move rfl) ?_
          refine vl_valg rfl (os_move rfl) ?_
          refine vl_valg rfl (os_move rfl) ?_
          refine vl_valg rfl (os_f (os_neq rfl rfl) (by omega)) ?_
          refine vl_val (os_pick_f rfl rfl) ?_
          refine vl_nil ?_
          refine v_cond_f rfl ?_
          refine v_skip ?_
          refine v_seq ?_
          refine v_region ?_
          refine vl_val (os_assign rfl) ?_
          refine vl_nil ?_
          refine v_seq ?_
          refine v_region ?_
          refine vl_val (os_assign rfl) ?_
          refine vl_nil ?_
          refine v_seq ?_
          refine v_seq ?_
          refine v_region ?_
          refine vl_val (os_assign rfl) ?_
          refine vl_nil ?_
          refine v_block ?_
          refine v_loop3 [(3, _), (9, _)] (fun (V : Value) (U : Value) (i : Nat) => [(16, V), (17, U), (18, .int .i64 i)]) (fun V U i w' => i ≤ q.lens.length ∧ OwnP w' w8.heap.size 62 2 V (((rowsZ (bestL q) q.lens).take i).map rowC) ∧ OwnK w' w8.heap.size 3 .i64 U (List.replicate i 1) ∧ Below w8.heap.size w8 w') (fun V U i => q.lens.length - i) (.slice none 0 0) (.slice none 0 0) (0) ⟨rfl, rfl, trivial⟩ ⟨rfl, rfl, rfl, trivial⟩ (⟨by omega, by simpa using OwnP.nil, Own.nil _ _ _, Below.refl _ _⟩) ?_
          rintro V U i w9 ⟨hi, hV, hU, b9⟩
          refine v_seq ?_
          refine v_seq ?_
          refine v_region ?_
          refine vl_val (os_move rfl) ?_
          refine vl_val (os_move rfl) ?_
          refine vl_val (os_len Try.underlying40 rfl) ?_
          refine vl_val (os_lss rfl rfl) ?_
          refine vl_nil ?_
          refine v_cond_d rfl (fun hlt => ?_) (fun hlt => ?_)
          · have hB9 := hB8.keep b9
            have hd9 := hd8.keep b9
            obtain ⟨bk, ok, rfl, dk⟩ := (hr8.keep b9).at_ (i := i) (by omega)
            obtain ⟨ba, oa, ea, da⟩ := hd9.L.at_ (i := i) (by omega)
            have eln : (((rowsZ (bestL q) q.lens).take i).map rowC).length = i := by simp [hlr]; omega
            refine v_skip ?_
            refine v_seq ?_
            refine v_block ?_
            refine v_seq ?_
            refine v_region_a mixed ?_
            refine va_pure 0 rfl (by kernel_rfl) (by kernel_rfl) (by kernel_rfl) (fun w => (os_move rfl)) ?_
            refine va_pure 1 rfl (by kernel_rfl) (by kernel_rfl) (by kernel_rfl) (fun w => (os_move rfl)) ?_
            refine va_pure 2 rfl (by kernel_rfl) (by kernel_rfl) (by kernel_rfl) (fun w => (os_move rfl)) ?_
            refine va_pure 3 rfl (by kernel_rfl) (by kernel_rfl) (by kernel_rfl) (fun w => (os_ix Try.underlying40 Try.sizeOf3 rfl rfl (i := i) (by omega) (by omega))) ?_
            refine va_pure 5 rfl (by kernel_rfl) (by kernel_rfl) (by kernel_rfl) (fun w => (os_fa (o := 3) (k := 0) (by kernel_rfl) rfl)) ?_
            refine va_pure 7 rfl (by kernel_rfl) (by kernel_rfl) (by kernel_rfl) (fun w => (os_move rfl)) ?_
            refine va_two 4 6 (by kernel_rfl) ?_ ?_
            · refine vn_val rfl (os_load Try.isAgg3 rfl (led_cell (⟨1, rfl⟩ : LeD w9 _) dk)) ?_
              refine va_one 6 (by kernel_rfl) ?_
              refine vn_val rfl (os_load Try.isAgg40 rfl ((hB9.led ⟨1, rfl⟩).cell (i := 3) rfl)) ?_
              rw [ea]
              refine va_pure 8 rfl (by kernel_rfl) (by kernel_rfl) (by kernel_rfl) (fun w => (os_ix Try.underlying40 Try.sizeOf3 rfl rfl (i := i) (by omega) (by omega))) ?_
              refine va_one 9 (by kernel_rfl) ?_
              refine vn_val rfl (os_load Try.isAgg3 rfl (led_cell (⟨1, rfl⟩ : LeD w9 _) da)) ?_
              refine va_pure 10 rfl (by kernel_rfl) (by kernel_rfl) (by kernel_rfl) (fun w => (os_build (cs := [.int .i64 ((bestL q).getD i 0), .int .i64 (q.lens.getD i 0)]) rfl (by kernel_rfl))) ?_
              refine va_one 11 (by kernel_rfl) ?_
              refine vn_val rfl (os_litS (css := [[.int .i64 ((bestL q).getD i 0), .int .i64 (q.lens.getD i 0)]]) Try.underlying63 Try.sizeOf62 Try.zeroValue62 rfl rfl (by intro c hc; simp at hc; subst hc; rfl) (by decide) (by decide) (by decide)) ?_
              refine va_one 12 (by kernel_rfl) ?_
              refine vn_some rfl (ot_append_p Try.underlying63 ti_row rfl (by decide) rfl rfl (OwnP.alloc (OwnP.led hV ⟨1, rfl⟩) _) (rdp_alloc _ _ _ (by intro c hc; simp at hc; subst hc; rfl)) (by intro c hc; simp at hc; subst hc; rfl) rfl (by simp) (by intro c hc u hu; simp at hc; subst hc; simp at hu; rcases hu with rfl | rfl <;> rfl) (by rw [eln]; omega) (by rw [eln]; simp [maxLen]; omega) (by have := b9.size; simp; omega)) ?_
              rintro v10 w10 ⟨so, sg, _⟩
              have b9d : Below w9.heap.size w9 { w9 with drawn := w9.drawn + 1 } := (Below.refl _ w9).drew
              have b9a := b9d.alloc b9d.size (.cells [[Value.int .i64 ((bestL q).getD i 0), .int .i64 (q.lens.getD i 0)]].flatten.toArray 62)
              have hV' := OwnP.alloc (OwnP.led hV ⟨1, rfl⟩) (.cells [[Value.int .i64 ((bestL q).getD i 0), .int .i64 (q.lens.getD i 0)]].flatten.toArray 62)
              have b9w := b9.trans (b9a.mono b9.size)
              have hU1 := pm_two hV hU b9a sg so hV'
              have b10 := OwnP.below b9w hV' sg (Nat.le_refl _) b9w.size
              refine va_pure 13 rfl (by kernel_rfl) (by kernel_rfl) (by kernel_rfl) (fun w => (os_assign rfl)) ?_
              refine va_done (by kernel_rfl) ?_
              refine v_region ?_
              refine vl_val (os_move rfl) ?_
              refine vl_val (os_lit Try.underlying40 Try.sizeOf3 Try.zeroValue3 rfl rfl rfl rfl (by decide)) ?_
              refine vl_some (ot_append Try.underlying40 ti_int rfl rfl rfl (Own.alloc hU1 (.cells [Value.int .i64 1].toArray 3)) (rdc_alloc w10 [Value.int .i64 1] _) rfl (by intro u hu; rw [List.mem_singleton.1 hu]; rfl) (by simp; omega) (by simp [maxLen]; omega) (by have := b10.size; simp; omega)) ?_
              rintro v11 w11 ⟨o11, g11⟩
              refine vl_val (os_assign rfl) ?_
              refine vl_nil ?_
              refine v_region ?_
              refine vl_val (os_move rfl) ?_
              refine vl_val (os_addi rfl rfl (by omega)) ?_
              refine vl_val (os_assign rfl) ?_
              refine vl_nil ?_
              exact ⟨⟨v10, v11, i + 1⟩, ⟨rfl, rfl, trivial⟩, ⟨rfl, rfl, rfl, trivial⟩, ⟨by dsimp only; omega, by rw [rows_take (by omega) hlen]; exact pm_two' (OwnP.alloc so _) (Own.alloc hU1 _) g11, by unfold OwnK; rw [List.replicate_succ', List.map_append]; exact o11, Own.below (b10.alloc b10.size (.cells [Value.int .i64 1].toArray 3)) (Own.alloc hU1 _) g11 (Nat.le_refl _) (by have := b10.size; simp; omega)⟩, by dsimp only; omega⟩
            · refine vn_val rfl (os_load Try.isAgg40 rfl ((hB9.led ⟨1, rfl⟩).cell (i := 3) rfl)) ?_
              rw [ea]
              refine va_pure 8 rfl (by kernel_rfl) (by kernel_rfl) (by kernel_rfl) (fun w => (os_ix Try.underlying40 Try.sizeOf3 rfl rfl (i := i) (by omega) (by omega))) ?_
              refine va_two 4 9 (by kernel_rfl) ?_ ?_
              · refine vn_val rfl (os_load Try.isAgg3 rfl (led_cell (⟨1, rfl⟩ : LeD w9 _) dk)) ?_
                refine va_one 9 (by kernel_rfl) ?_
                refine vn_val rfl (os_load Try.isAgg3 rfl (led_cell (⟨1, rfl⟩ : LeD w9 _) da)) ?_
                refine va_pure 10 rfl (by kernel_rfl) (by kernel_rfl) (by kernel_rfl) (fun w => (os_build (cs := [.int .i64 ((bestL q).getD i 0), .int .i64 (q.lens.getD i 0)]) rfl (by kernel_rfl))) ?_
                refine va_one 11 (by kernel_rfl) ?_
                refine vn_val rfl (os_litS (css := [[.int .i64 ((bestL q).getD i 0), .int .i64 (q.lens.getD i 0)]]) Try.underlying63 Try.sizeOf62 Try.zeroValue62 rfl rfl (by intro c hc; simp at hc; subst hc; rfl) (by decide) (by decide) (by decide)) ?_
                refine va_one 12 (by kernel_rfl) ?_
                refine vn_some rfl (ot_append_p Try.underlying63 ti_row rfl (by decide) rfl rfl (OwnP.alloc (OwnP.led hV ⟨1, rfl⟩) _) (rdp_alloc _ _ _ (by intro c hc; simp at hc; subst hc; rfl)) (by intro c hc; simp at hc; subst hc; rfl) rfl (by simp) (by intro c hc u hu; simp at hc; subst hc; simp at hu; rcases hu with rfl | rfl <;> rfl) (by rw [eln]; omega) (by rw [eln]; simp [maxLen]; omega) (by have := b9.size; simp; omega)) ?_
                rintro v10 w10 ⟨so, sg, _⟩
                have b9d : Below w9.heap.size w9 { w9 with drawn := w9.drawn + 1 } := (Below.refl _ w9).drew
                have b9a := b9d.alloc b9d.size (.cells [[Value.int .i64 ((bestL q).getD i 0), .int .i64 (q.lens.getD i 0)]].flatten.toArray 62)
                have hV' := OwnP.alloc (OwnP.led hV ⟨1, rfl⟩) (.cells [[Value.int .i64 ((bestL q).getD i 0), .int .i64 (q.lens.getD i 0)]].flatten.toArray 62)
                have b9w := b9.trans (b9a.mono b9.size)
                have hU1 := pm_two hV hU b9a sg so hV'
                have b10 := OwnP.below b9w hV' sg (Nat.le_refl _) b9w.size
                refine va_pure 13 rfl (by kernel_rfl) (by kernel_rfl) (by kernel_rfl) (fun w => (os_assign rfl)) ?_
                refine va_done (by kernel_rfl) ?_
                refine v_region ?_
                refine vl_val (os_move rfl) ?_
                refine vl_val (os_lit Try.underlying40 Try.sizeOf3 Try.zeroValue3 rfl rfl rfl rfl (by decide)) ?_
                refine vl_some (ot_append Try.underlying40 ti_int rfl rfl rfl (Own.alloc hU1 (.cells [Value.int .i64 1].toArray 3)) (rdc_alloc w10 [Value.int .i64 1] _) rfl (by intro u hu; rw [List.mem_singleton.1 hu]; rfl) (by simp; omega) (by simp [maxLen]; omega) (by have := b10.size; simp; omega)) ?_
                rintro v11 w11 ⟨o11, g11⟩
                refine vl_val (os_assign rfl) ?_
                refine vl_nil ?_
                refine v_region ?_
                refine vl_val (os_move rfl) ?_
                refine vl_val (os_addi rfl rfl (by omega)) ?_
                refine vl_val (os_assign rfl) ?_
                refine vl_nil ?_
                exact ⟨⟨v10, v11, i + 1⟩, ⟨rfl, rfl, trivial⟩, ⟨rfl, rfl, rfl, trivial⟩, ⟨by dsimp only; omega, by rw [rows_take (by omega) hlen]; exact pm_two' (OwnP.alloc so _) (Own.alloc hU1 _) g11, by unfold OwnK; rw [List.replicate_succ', List.map_append]; exact o11, Own.below (b10.alloc b10.size (.cells [Value.int .i64 1].toArray 3)) (Own.alloc hU1 _) g11 (Nat.le_refl _) (by have := b10.size; simp; omega)⟩, by dsimp only; omega⟩
              · refine vn_val rfl (os_load Try.isAgg3 rfl (led_cell (⟨1, rfl⟩ : LeD w9 _) da)) ?_
                refine va_one 4 (by kernel_rfl) ?_
                refine vn_val rfl (os_load Try.isAgg3 rfl (led_cell (⟨1, rfl⟩ : LeD w9 _) dk)) ?_
                refine va_pure 10 rfl (by kernel_rfl) (by kernel_rfl) (by kernel_rfl) (fun w => (os_build (cs := [.int .i64 ((bestL q).getD i 0), .int .i64 (q.lens.getD i 0)]) rfl (by kernel_rfl))) ?_
                refine va_one 11 (by kernel_rfl) ?_
                refine vn_val rfl (os_litS (css := [[.int .i64 ((bestL q).getD i 0), .int .i64 (q.lens.getD i 0)]]) Try.underlying63 Try.sizeOf62 Try.zeroValue62 rfl rfl (by intro c hc; simp at hc; subst hc; rfl) (by decide) (by decide) (by decide)) ?_
                refine va_one 12 (by kernel_rfl) ?_
                refine vn_some rfl (ot_append_p Try.underlying63 ti_row rfl (by decide) rfl rfl (OwnP.alloc (OwnP.led hV ⟨1, rfl⟩) _) (rdp_alloc _ _ _ (by intro c hc; simp at hc; subst hc; rfl)) (by intro c hc; simp at hc; subst hc; rfl) rfl (by simp) (by intro c hc u hu; simp at hc; subst hc; simp at hu; rcases hu with rfl | rfl <;> rfl) (by rw [eln]; omega) (by rw [eln]; simp [maxLen]; omega) (by have := b9.size; simp; omega)) ?_
                rintro v10 w10 ⟨so, sg, _⟩
                have b9d : Below w9.heap.size w9 { w9 with drawn := w9.drawn + 1 } := (Below.refl _ w9).drew
                have b9a := b9d.alloc b9d.size (.cells [[Value.int .i64 ((bestL q).getD i 0), .int .i64 (q.lens.getD i 0)]].flatten.toArray 62)
                have hV' := OwnP.alloc (OwnP.led hV ⟨1, rfl⟩) (.cells [[Value.int .i64 ((bestL q).getD i 0), .int .i64 (q.lens.getD i 0)]].flatten.toArray 62)
                have b9w := b9.trans (b9a.mono b9.size)
                have hU1 := pm_two hV hU b9a sg so hV'
                have b10 := OwnP.below b9w hV' sg (Nat.le_refl _) b9w.size
                refine va_pure 13 rfl (by kernel_rfl) (by kernel_rfl) (by kernel_rfl) (fun w => (os_assign rfl)) ?_
                refine va_done (by kernel_rfl) ?_
                refine v_region ?_
                refine vl_val (os_move rfl) ?_
                refine vl_val (os_lit Try.underlying40 Try.sizeOf3 Try.zeroValue3 rfl rfl rfl rfl (by decide)) ?_
                refine vl_some (ot_append Try.underlying40 ti_int rfl rfl rfl (Own.alloc hU1 (.cells [Value.int .i64 1].toArray 3)) (rdc_alloc w10 [Value.int .i64 1] _) rfl (by intro u hu; rw [List.mem_singleton.1 hu]; rfl) (by simp; omega) (by simp [maxLen]; omega) (by have := b10.size; simp; omega)) ?_
                rintro v11 w11 ⟨o11, g11⟩
                refine vl_val (os_assign rfl) ?_
                refine vl_nil ?_
                refine v_region ?_
                refine vl_val (os_move rfl) ?_
                refine vl_val (os_addi rfl rfl (by omega)) ?_
                refine vl_val (os_assign rfl) ?_
                refine vl_nil ?_
                exact ⟨⟨v10, v11, i + 1⟩, ⟨rfl, rfl, trivial⟩, ⟨rfl, rfl, rfl, trivial⟩, ⟨by dsimp only; omega, by rw [rows_take (by omega) hlen]; exact pm_two' (OwnP.alloc so _) (Own.alloc hU1 _) g11, by unfold OwnK; rw [List.replicate_succ', List.map_append]; exact o11, Own.below (b10.alloc b10.size (.cells [Value.int .i64 1].toArray 3)) (Own.alloc hU1 _) g11 (Nat.le_refl _) (by have := b10.size; simp; omega)⟩, by dsimp only; omega⟩
          · obtain rfl : i = q.lens.length := by omega
            rw [List.take_of_length_le (Nat.le_of_eq hlr)] at hV
            obtain ⟨A9, c9, rfl, -, -, r9⟩ := OwnP.form hV
            obtain ⟨K9, k9, rfl, -, -, u9, -⟩ := OwnK.form hU
            rw [List.length_map, hlr, List.length_replicate]
            obtain ⟨hlay, N, hof, hN0, hN1, hNb, hE3, hL3⟩ := tight hE0
            have hof' : ofV d.n (rowsZ (bestL q) q.lens) = N := by rw [hdn]; exact hof
            have hly' : errE (layOk d.n (rowsZ (bestL q) q.lens)) = 0 := by rw [hdn, hlay]; rfl
            have hNb0 : 0 ≤ N * d.n := Int.mul_nonneg hN0 (by omega)
            rw [← hdn] at hNb
            have hb9 := hb8.trans (b9.mono hb8.size)
            have hB9 := hB8.keep b9
            refine v_exit ?_
            refine v_seq ?_
            refine v_region ?_
            refine vl_val (os_fa (o := 0) (k := 2) (by kernel_rfl) rfl) ?_
            refine vl_val (os_fa (o := 0) (k := 0) (by kernel_rfl) rfl) ?_
            refine vl_val (os_load Try.isAgg3 rfl (hB9.cell (i := 0) rfl)) ?_
            refine vl_val (os_move rfl) ?_
            refine vl_call (size_Of d.n A9 _ c9 (rowsZ (bestL q) q.lens) w9 r9 (by omega) (by omega)) rfl ?_
            rintro v10 w10 ⟨rfl, b10⟩
            rw [hof', hly']
            have hb10 := hb9.trans (b10.mono hb9.size)
            have hB10 := hB9.keep b10
            refine vl_val (os_move rfl) ?_
            refine vl_val (os_extract rfl rfl) ?_
            refine vl_val (os_extract rfl rfl) ?_
            refine vl_val (os_assign rfl) ?_
            refine vl_val (os_assign rfl) ?_
            refine vl_nil ?_
            refine v_seq ?_
            refine v_region ?_
            refine vl_val (os_loadB Try.underlying44 rfl (by kernel_rfl) rfl hB10) ?_
            refine vl_val (os_allocB Try.zeroValue44 (zc := _) (cs := zP) rfl) ?_
            refine vl_unit (ou_storeB (cs := zP) (t := 44) (by kernel_rfl) rfl rfl (bk_new w10 zP _) rfl rfl) ?_
            have hM := setRow_bk (bk_new w10 zP 44) d.cells
            have b11 : Below w10.heap.size w10 ((w10.alloc (.cells zP.toArray 44)).setRow w10.heap.size d.cells.toArray) := below_setRow ((Below.refl _ w10).alloc (Nat.le_refl _) _) (Nat.le_refl _) _
            obtain ⟨w11, hw11⟩ : ∃ w11, w11 = (w10.alloc (.cells zP.toArray 44)).setRow w10.heap.size d.cells.toArray := ⟨_, rfl⟩
            rw [← hw11] at hM b11 ⊢
            have hB11 := hB10.keep b11
            refine vl_nil ?_
            refine v_seq ?_
            refine v_region ?_
            refine vl_val (os_move rfl) ?_
            refine vl_val (os_fa (o := 0) (k := 2) (by kernel_rfl) rfl) ?_
            refine vl_val (os_fa (o := 0) (k := 0) (by kernel_rfl) rfl) ?_
            refine vl_val (os_load Try.isAgg3 rfl (hB11.cell (i := 0) rfl)) ?_
            refine vl_val (os_muli rfl rfl (by omega)) ?_
            refine vl_val (os_fa (o := 0) (k := 2) (by kernel_rfl) rfl) ?_
            refine vl_val (os_fa (o := 2) (k := 0) (by kernel_rfl) rfl) ?_
            refine vl_unit (ou_store Try.sizeOf3 rfl rfl rfl (hM.cell (i := 2) rfl) (hM.free _)) ?_
            have hM' := hM.set 2 (.int .i64 (N * d.n))
            refine vl_nil ?_
            refine v_seq ?_
            refine v_region ?_
            refine vl_val (os_move rfl) ?_
            refine vl_val (os_max rfl rfl) ?_
            refine vl_val (os_fa (o := 0) (k := 2) (by kernel_rfl) rfl) ?_
            refine vl_val (os_fa (o := 1) (k := 0) (by kernel_rfl) rfl) ?_
            refine vl_unit (ou_store Try.sizeOf3 rfl rfl rfl (hM'.cell (i := 1) rfl) (hM'.free _)) ?_
            have hM2 := hM'.set 1 (.int .i64 (max N 64))
            have b12 : Below w10.heap.size w10 ((w11.setCell ⟨w10.heap.size, 0 + 2, none⟩ (.int .i64 (N * d.n))).setCell ⟨w10.heap.size, 0 + 1, none⟩ (.int .i64 (max N 64))) := below_set (below_set b11 (Nat.le_refl _) _ _) (Nat.le_refl _) _ _
            obtain ⟨w12, hw12⟩ : ∃ w12, w12 = (w11.setCell ⟨w10.heap.size, 0 + 2, none⟩ (.int .i64 (N * d.n))).setCell ⟨w10.heap.size, 0 + 1, none⟩ (.int .i64 (max N 64)) := ⟨_, rfl⟩
            rw [← hw12] at b12 ⊢
            have hM3 : Bk w12 w10.heap.size {d with m := max N 64, b := N * d.n}.cells 44 := by rw [hw12]; exact hM2
            have hb12 := hb10.trans (b12.mono hb10.size)
            have hB12 := hB10.keep b12
            have hd3 : TaskOk w {d with m := max N 64, b := N * d.n} (wideQ q (max N 64) (N * q.n)) := ⟨hd.L, hd.W, hd.V, hll, hwl, hvl, hbl, hbw, hbv, hdn, rfl, by show N * d.n = N * q.n; rw [hdn], ⟨hd.iN.1, ⟨by show _ ≤ max N 64; omega, by show max N 64 ≤ _; omega⟩, ⟨by show _ ≤ N * q.n; rw [← hdn]; omega, by show N * q.n ≤ _; rw [← hdn]; omega⟩⟩, hd.iL, hd.iW, hd.iV⟩
            refine vl_nil ?_
            refine v_seq ?_
            refine v_region ?_
            refine vl_val (os_loadB Try.underlying44 rfl (by kernel_rfl) rfl hM3) ?_
            refine vl_call (pn_Best _ _ w12 (hd3.keep hb12)) rfl ?_
            rintro v13 w13 ⟨s13, rfl, o13, b13⟩
            rw [hL3] at o13
            obtain ⟨A13, c13, rfl, -, -, r13, -⟩ := OwnK.form o13
            have hb13 := hb12.trans (b13.mono hb12.size)
            have hB13 := hB12.keep b13
            refine vl_val (os_move rfl) ?_
            refine vl_val (os_extract rfl rfl) ?_
            refine vl_val (os_extract rfl rfl) ?_
            refine vl_val (os_assign rfl) ?_
            refine vl_val (os_assign rfl) ?_
            refine vl_nil ?_
            refine v_seq ?_
            refine v_region ?_
            refine vl_val (os_fa (o := 0) (k := 2) (by kernel_rfl) rfl) ?_
            refine vl_val (os_fa (o := 0) (k := 0) (by kernel_rfl) rfl) ?_
            refine vl_val (os_load Try.isAgg3 rfl (hB13.cell (i := 0) rfl)) ?_
            refine vl_call (wg_Even d.n w13 ⟨by omega, by omega⟩) rfl ?_
            rintro v14 w14 ⟨s14, rfl, o14, b14⟩
            obtain ⟨A14, c14, rfl, -, -, r14, -⟩ := OwnK.form o14
            have hb14 := hb13.trans (b14.mono hb13.size)
            have hB14 := hB13.keep b14
            refine vl_val (os_move rfl) ?_
            refine vl_val (os_extract rfl rfl) ?_
            refine vl_val (os_extract rfl rfl) ?_
            refine vl_val (os_assign rfl) ?_
            refine vl_val (os_assign rfl) ?_
            refine vl_nil ?_
            refine v_seq ?_
            refine v_region ?_
            refine vl_val (os_loadB Try.underlying44 rfl (by kernel_rfl) rfl hB14) ?_
            refine vl_val (os_allocB Try.zeroValue44 (zc := _) (cs := zP) rfl) ?_
            refine vl_unit (ou_storeB (cs := zP) (t := 44) (by kernel_rfl) rfl rfl (bk_new w14 zP _) rfl rfl) ?_
            have hF := setRow_bk (bk_new w14 zP 44) d.cells
            have b15 : Below w14.heap.size w14 ((w14.alloc (.cells zP.toArray 44)).setRow w14.heap.size d.cells.toArray) := below_setRow ((Below.refl _ w14).alloc (Nat.le_refl _) _) (Nat.le_refl _) _
            obtain ⟨w15, hw15⟩ : ∃ w15, w15 = (w14.alloc (.cells zP.toArray 44)).setRow w14.heap.size d.cells.toArray := ⟨_, rfl⟩
            rw [← hw15] at hF b15 ⊢
            refine vl_nil ?_
            refine v_seq ?_
            refine v_region ?_
            refine vl_val (os_move rfl) ?_
            refine vl_val (os_fa (o := 5) (k := 0) (by kernel_rfl) rfl) ?_
            refine vl_unit (ou_store Try.sizeOf40 rfl rfl rfl (hF.cell (i := 5) rfl) (hF.free _)) ?_
            have hF2 := hF.set 5 (.slice A14 (evenL d.n).length c14)
            have b16 : Below w14.heap.size w14 (w15.setCell ⟨w14.heap.size, 0 + 5, none⟩ (.slice A14 (evenL d.n).length c14)) := below_set b15 (Nat.le_refl _) _ _
            obtain ⟨w16, hw16⟩ : ∃ w16, w16 = w15.setCell ⟨w14.heap.size, 0 + 5, none⟩ (.slice A14 (evenL d.n).length c14) := ⟨_, rfl⟩
            rw [← hw16] at b16 ⊢
            have hF3 : Bk w16 w14.heap.size {d with AV := A14, vl := (evenL d.n).length, vc := c14}.cells 44 := by rw [hw16]; exact hF2
            have hb16 := hb14.trans (b16.mono hb14.size)
            have hB16 := hB14.keep b16
            have hd16 := hd.keep hb16
            have hel := evenL_len d.n
            obtain ⟨hev, hE4, hL4⟩ := flat hE0
            have hd4 : TaskOk w16 {d with AV := A14, vl := (evenL d.n).length, vc := c14} (flatQ q) := by
              have h := r14.keep b16
              exact ⟨hd16.L, hd16.W, by show Rd _ _ _ (evenL q.n); rw [← hdn]; exact h, hll, hwl, by show (evenL d.n).length = (evenL q.n).length; rw [hdn], hbl, hbw, by show (evenL d.n).length ≤ _; omega, hdn, hdm, hdb, hd.iN, hd.iL, hd.iW, fun z hz => by
                have hz' : z ∈ evenL q.n := hz
                rw [evenL, if_pos hev] at hz'
                rw [(List.mem_replicate.1 hz').2]; exact ⟨by omega, by omega⟩⟩
            refine vl_nil ?_
            refine v_seq ?_
            refine v_region ?_
            refine vl_val (os_loadB Try.underlying44 rfl (by kernel_rfl) rfl hF3) ?_
            refine vl_call (pn_Best _ (flatQ q) w16 hd4) rfl ?_
            rintro v17 w17 ⟨s17, rfl, o17, b17⟩
            have hl17 := bestL_len (q := flatQ q)
            obtain ⟨A17, c17, rfl, -, -, r17, -⟩ := OwnK.form o17
            have hea : errA (evenOk d.n) = 0 := by rw [hdn, hev]; rfl
            have hb17 := hb16.trans (b17.mono hb16.size)
            have b1317 := b14.trans ((b16.trans (b17.mono b16.size)).mono b14.size)
            have b917 : Below w9.heap.size w9 w17 := b10.trans ((b12.trans ((b13.trans (b1317.mono b13.size)).mono b12.size)).mono b10.size)
            refine vl_val (os_move rfl) ?_
            refine vl_val (os_extract rfl rfl) ?_
            refine vl_val (os_extract rfl rfl) ?_
            refine vl_val (os_assign rfl) ?_
            refine vl_val (os_assign rfl) ?_
            refine vl_nil ?_
            refine v_seq ?_
            refine v_seq ?_
            refine v_region ?_
            refine vl_val (os_move rfl) ?_
            refine vl_val (os_f (os_neq rfl rfl) (by omega)) ?_
            refine vl_val (os_move rfl) ?_
            refine vl_valg rfl (os_move rfl) ?_
            refine vl_valg rfl (os_f (os_neq rfl rfl) (by omega)) ?_
            refine vl_val (os_pick_f rfl rfl) ?_
            refine vl_val (os_move rfl) ?_
            refine vl_valg rfl (os_move rfl) ?_
            refine vl_valg rfl (os_f (os_neq rfl rfl) (by omega)) ?_
            refine vl_val (os_pick_f rfl rfl) ?_
            refine vl_val (os_move rfl) ?_
            refine vl_valg rfl (os_move rfl) ?_
            refine vl_valg rfl (os_f (os_neq rfl rfl) (by omega)) ?_
            refine vl_val (os_pick_f rfl rfl) ?_
            refine vl_val (os_move rfl) ?_
            refine vl_valg rfl (os_move rfl) ?_
            refine vl_valg rfl (os_move rfl) ?_
            refine vl_callg rfl (gives_boolb (kit_SameInts A13 A3 _ _ c13 c3 (bestL q) (bestL q) w17 (r13.keep b1317) (hr8.keep (b9.trans (b917.mono b9.size))) rfl rfl (by omega) (by omega)) (decide_eq_true rfl)) rfl ?_
            rintro v18 w18 ⟨rfl, d18⟩
            have hb18 := hb17.trans ((led_below d18).mono hb17.size)
            have hB18 := hB16.keep (b17.trans ((led_below d18).mono b17.size))
            have hd18 := (hd.keep hb18)
            have u18 := (u9.keep b917).led d18
            refine vl_valg rfl (os_not rfl) ?_
            refine vl_val (os_pick_f rfl rfl) ?_
            refine vl_nil ?_
            cases hfit : fitsB d.n d.m d.b q.lens (List.replicate q.lens.length 1)
            · refine v_cond_f rfl ?_
              refine v_skip ?_
              refine v_seq ?_
              refine v_region ?_
              refine vl_val (os_fa (o := 0) (k := 2) (by kernel_rfl) rfl) ?_
              refine vl_val (os_loadP (cs := [.int .i64 d.n, .int .i64 d.m, .int .i64 d.b]) Try.underlying42 rfl (by kernel_rfl) rfl ((Bk.rdc hB18).take 3)) ?_
              refine vl_val (os_fa (o := 3) (k := 0) (by kernel_rfl) rfl) ?_
              refine vl_val (os_load Try.isAgg40 rfl (hB18.cell (i := 3) rfl)) ?_
              refine vl_val (os_move rfl) ?_
              refine vl_call (gives_boolb (size_Fits d.n d.m d.b d.AL K9 d.ll d.lc _ k9 q.lens (List.replicate q.lens.length 1) w18 hd18.L u18 hll (by simp) (by omega) (by omega) (fun z hz => by rw [(List.mem_replicate.1 hz).2]; exact ⟨by omega, by omega⟩)) hfit) rfl ?_
              rintro v19 w19 ⟨rfl, b19⟩
              have hb19 := hb18.trans (b19.mono hb18.size)
              refine vl_val (os_not rfl) ?_
              refine vl_val (os_move rfl) ?_
              refine vl_skip rfl rfl ?_
              refine vl_skip rfl rfl ?_
              refine vl_skip rfl rfl ?_
              refine vl_val (os_pick_t rfl rfl) ?_
              refine vl_val (os_assign rfl) ?_
              refine vl_nil ?_
              refine v_ret ?_
              exact post_ret rfl rfl (⟨rfl, hb19⟩)
            · refine v_cond_f rfl ?_
              refine v_skip ?_
              refine v_seq ?_
              refine v_region ?_
              refine vl_val (os_fa (o := 0) (k := 2) (by kernel_rfl) rfl) ?_
              refine vl_val (os_loadP (cs := [.int .i64 d.n, .int .i64 d.m, .int .i64 d.b]) Try.underlying42 rfl (by kernel_rfl) rfl ((Bk.rdc hB18).take 3)) ?_
              refine vl_val (os_fa (o := 3) (k := 0) (by kernel_rfl) rfl) ?_
              refine vl_val (os_load Try.isAgg40 rfl (hB18.cell (i := 3) rfl)) ?_
              refine vl_val (os_move rfl) ?_
              refine vl_call (gives_boolb (size_Fits d.n d.m d.b d.AL K9 d.ll d.lc _ k9 q.lens (List.replicate q.lens.length 1) w18 hd18.L u18 hll (by simp) (by omega) (by omega) (fun z hz => by rw [(List.mem_replicate.1 hz).2]; exact ⟨by omega, by omega⟩)) hfit) rfl ?_
              rintro v19 w19 ⟨rfl, b19⟩
              have hb19 := hb18.trans (b19.mono hb18.size)
              rw [hdn, hdm, hdb] at hfit
              have hlf := hL4 hfit
              refine vl_val (os_not rfl) ?_
              refine vl_val (os_move rfl) ?_
              refine vl_valg rfl (os_move rfl) ?_
              refine vl_valg rfl (os_move rfl) ?_
              refine vl_callg rfl (gives_boolb (kit_SameInts A17 K9 _ _ c17 k9 (bestL (flatQ q)) (List.replicate q.lens.length 1) w19 ((r17.led d18).keep b19) (u18.keep b19) rfl (by simp) (by omega) (by omega)) (decide_eq_true hlf)) rfl ?_
              rintro v20 w20 ⟨rfl, d20⟩
              refine vl_val (os_pick_f rfl rfl) ?_
              refine vl_val (os_assign rfl) ?_
              refine vl_nil ?_
              refine v_ret ?_
              exact post_ret rfl rfl (⟨rfl, hb19.trans ((led_below d20).mono hb19.size)⟩)
end Go.Proofs.Ytpojijnjdlnokaa
