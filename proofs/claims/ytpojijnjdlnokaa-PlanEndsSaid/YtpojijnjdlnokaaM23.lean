/- Texts joined: PeL. -/
import Derived.Test.YtpojijnjdlnokaaM22
/- Layer 13: the walk of PlanEnds. -/
namespace Go.Proofs.Ytpojijnjdlnokaa
open Go.RowKit
set_option linter.unusedVariables false

/-- five lists of four numbers each -/
def WtS (w : World) (G : Nat) : Prop := ∀ j, j < 5 → ∃ A zs, w.cell? ⟨G, 0 + j, none⟩ = some (.slice A 4 4) ∧ Rd w .i64 A zs ∧ zs.length = 4 ∧ AllI zs ∧ ∀ b o, A = some ⟨b, o, none⟩ → b < w.heap.size
theorem WtS.keep {w w' : World} {G : Nat} (h : WtS w G) (hb : Below w.heap.size w w') : WtS w' G := fun j hj => by
  obtain ⟨A, zs, h1, h2, h3, h4, h5⟩ := h j hj
  have hs := hb.size
  exact ⟨A, zs, leg_cell hb h1, h2.keep hb, h3, h4, fun b o e => by have := h5 b o e; omega⟩
theorem wts_of {w : World} {B G g1 g2 g3 g4 g5 : Nat} (r1 : Rd w .i64 (some ⟨g1, 0, none⟩) [9, 9, 9, 9]) (r2 : Rd w .i64 (some ⟨g2, 0, none⟩) [9, 9, 9, 0]) (r3 : Rd w .i64 (some ⟨g3, 0, none⟩) [9, 9, 1, 0]) (r4 : Rd w .i64 (some ⟨g4, 0, none⟩) [0, 0, 0, 0]) (r5 : Rd w .i64 (some ⟨g5, 0, none⟩) [65536, 65536, 65535, 1])
    (o : Own w B 40 (.slice (some ⟨G, 0, none⟩) 5 5) [.slice (some ⟨g1, 0, none⟩) 4 4, .slice (some ⟨g2, 0, none⟩) 4 4, .slice (some ⟨g3, 0, none⟩) 4 4, .slice (some ⟨g4, 0, none⟩) 4 4, .slice (some ⟨g5, 0, none⟩) 4 4]) : WtS w G := by
  have f : ∀ {g : Nat} {zs : List Int} (j : Nat), Rd w .i64 (some ⟨g, 0, none⟩) zs → zs.length = 4 → (∀ z ∈ zs, -100000000 ≤ z ∧ z ≤ 100000000) → w.cell? ⟨G, 0 + j, none⟩ = some (.slice (some ⟨g, 0, none⟩) 4 4) → ∃ A zs, w.cell? ⟨G, 0 + j, none⟩ = some (.slice A 4 4) ∧ Rd w .i64 A zs ∧ zs.length = 4 ∧ AllI zs ∧ ∀ b o, A = some ⟨b, o, none⟩ → b < w.heap.size := fun {g zs} j h hl hz hc => ⟨_, zs, hc, h, hl, fun z h => small_I (hz z h), fun b o e => by
    obtain ⟨b', o', e', hlt⟩ := h.lt (by omega)
    rw [e] at e'
    cases e'; exact hlt⟩
  intro j hj
  rcases j with _ | _ | _ | _ | _ | j
  · exact f 0 r1 rfl (by decide) (Own.get o rfl)
  · exact f 1 r2 rfl (by decide) (Own.get o rfl)
  · exact f 2 r3 rfl (by decide) (Own.get o rfl)
  · exact f 3 r4 rfl (by decide) (Own.get o rfl)
  · exact f 4 r5 rfl (by decide) (Own.get o rfl)
  · omega
theorem lg {a b c : World} (h : LeG a b) (h' : LeG b c) : LeG a c := lee_g.trans h h'
theorem lg_al (a : World) (o : Obj) : LeG a (a.alloc o) := (Below.refl _ a).alloc (Nat.le_refl _) o
theorem lg_dr (a : World) : LeG a { a with drawn := a.drawn + 1 } := (Below.refl _ a).drew
theorem lg_rf (a : World) : LeG a a := Below.refl _ a
/-- however the two lists and the task came to lie -/
theorem tb_fin {w0 a1 w10 a2 w11 aM z : World} {n m b : Int} {g10 g11 : Nat} {A : Option Addr} {ls os ws : List Int} (l1 : LeG w0 a1) (o10 : OwnK w10 a1.heap.size 3 .i64 (.slice (some ⟨g10, 0, none⟩) 2 2) ls) (b10 : LeG a1 w10) (l2 : LeG w0 a2) (o11 : OwnK w11 a2.heap.size 3 .i64 (.slice (some ⟨g11, 0, none⟩) 2 2) os) (b11 : LeG a2 w11)
    (lM : LeG w0 aM) (l10 : LeG w10 z) (l11 : LeG w11 z) (lMz : LeG (aM.alloc (.cells zP.toArray 44)) z) (h12 : LeG w10 a2 ∨ LeG w11 a1)
    (rA : Rd w0 .i64 A ws) (lA : ws.length = 4) (iA : AllI ws) (iL : AllI ls) (iO : AllI os) (iN : I64 n ∧ I64 m ∧ I64 b) (hl : ls.length = 2) (ho : os.length = 2) :
    TB w0 (z.setRow aM.heap.size (TaskV.cells ⟨n, m, b, some ⟨g10, 0, none⟩, 2, 2, some ⟨g11, 0, none⟩, 2, 2, A, 4, 4⟩).toArray) aM.heap.size ⟨n, m, b, some ⟨g10, 0, none⟩, 2, 2, some ⟨g11, 0, none⟩, 2, 2, A, 4, 4⟩ ⟨n, m, b, ls, os, ws⟩ := by
  have z1 := Below.size l1
  have z2 := Below.size l2
  have zM := Below.size lM
  have hMz : Bk z aM.heap.size zP 44 := (bk_new aM zP _).keep lMz
  have hk : Kb [aM.heap.size] z (z.setRow aM.heap.size (TaskV.cells ⟨n, m, b, some ⟨g10, 0, none⟩, 2, 2, some ⟨g11, 0, none⟩, 2, 2, A, 4, 4⟩).toArray) := Kb.grown (grown_setRow z _ _) (fun k hk => by cases hk; simp)
  have c10 := Own.keepAll o10 l10
  have c11 := Own.keepAll o11 l11
  have f : ∀ {B n c : Nat} {A : Option Addr} {zs : List Value}, Own z B 3 (.slice A n c) zs → Own (z.setRow aM.heap.size (TaskV.cells ⟨_, m, b, some ⟨g10, 0, none⟩, 2, 2, some ⟨g11, 0, none⟩, 2, 2, _, 4, 4⟩).toArray) B 3 (.slice A n c) zs := fun h => Own.kb h hk (fun g hg hm => TB.ne hMz (by decide) h g hg (by simpa using hm))
  refine ⟨setRow_bk hMz _, zM, Own.mono (f c10) z1, Own.mono (f c11) z2, rA, lA.symm, fun k hk hw => ?_, ⟨by show ls.length ≤ 9; omega, by show os.length ≤ 9; omega, by show ws.length ≤ 9; omega⟩, rfl, rfl, rfl, iN, iL, iO, iA, below_setRow (Below.trans l1 ((Below.trans b10 (Below.mono l10 (Below.size b10))).mono z1)) zM _⟩
  have h1 := World.ownsRow.lt o10 k hk
  have h2 := World.ownsRow.lt o11 k hw
  rcases h12 with h | h
  · have := Below.size h; omega
  · have := Below.size h; omega
set_option maxHeartbeats 8000000 in
theorem law13_PlanEnds (w : World) : Gives Try.prog 6 #[] w fun v w' => v = .bool true ∧ Below w.heap.size w w' := by
  refine gives_enter Try.call6 Try.func6 rfl rfl rfl (by kernel_rfl) ?_
  refine v_seq ?_
  refine v_region ?_
  refine vl_val (os_assign rfl) ?_
  refine vl_nil ?_
  refine v_seq ?_
  refine v_region ?_
  refine vl_some (ot_litZ [9, 9, 9, 9] Try.underlying40 Try.sizeOf3 Try.zeroValue3 rfl rfl rfl rfl (by decide)) ?_
  rintro v1 w1 ⟨g1, rfl, r1, b1⟩
  refine vl_some (ot_litZ [9, 9, 9, 0] Try.underlying40 Try.sizeOf3 Try.zeroValue3 rfl rfl rfl rfl (by decide)) ?_
  rintro v2 w2 ⟨g2, rfl, r2, b2⟩
  refine vl_some (ot_litZ [9, 9, 1, 0] Try.underlying40 Try.sizeOf3 Try.zeroValue3 rfl rfl rfl rfl (by decide)) ?_
  rintro v3 w3 ⟨g3, rfl, r3, b3⟩
  refine vl_some (ot_litZ [0, 0, 0, 0] Try.underlying40 Try.sizeOf3 Try.zeroValue3 rfl rfl rfl rfl (by decide)) ?_
  rintro v4 w4 ⟨g4, rfl, r4, b4⟩
  refine vl_some (ot_litZ [65536, 65536, 65535, 1] Try.underlying40 Try.sizeOf3 Try.zeroValue3 rfl rfl rfl rfl (by decide)) ?_
  rintro v5 w5 ⟨g5, rfl, r5, b5⟩
  refine vl_some (ot_litU [.slice (some ⟨g1, 0, none⟩) 4 4, .slice (some ⟨g2, 0, none⟩) 4 4, .slice (some ⟨g3, 0, none⟩) 4 4, .slice (some ⟨g4, 0, none⟩) 4 4, .slice (some ⟨g5, 0, none⟩) 4 4] Try.underlying59 Try.sizeOf40 Try.zeroValue40 rfl rfl rfl rfl (by decide)) ?_
  rintro v6 w6 ⟨rfl, o6, z6, b6⟩
  have hW6 : WtS w6 w5.heap.size := wts_of ((((((r1.keep b2).keep b3).keep b4).keep b5).keep b6)) ((((r2.keep b3).keep b4).keep b5).keep b6) (((r3.keep b4).keep b5).keep b6) ((r4.keep b5).keep b6) (r5.keep b6) o6
  have b6w : Below w.heap.size w w6 := b1.trans ((b2.trans ((b3.trans ((b4.trans ((b5.trans (b6.mono b5.size)).mono b4.size)).mono b3.size)).mono b2.size)).mono b1.size)
  refine vl_val (os_assign rfl) ?_
  refine vl_nil ?_
  refine v_seq ?_
  refine v_seq ?_
  refine v_region ?_
  refine vl_val (os_assign rfl) ?_
  refine vl_nil ?_
  refine v_block ?_
  refine v_loop [(1, _)] (fun (r : Nat) => [(2, .int .i64 r)]) (fun r w' => r ≤ 10 ∧ Below w6.heap.size w6 w') (fun r => 10 - r) (0) ⟨rfl, trivial⟩ ⟨rfl, trivial⟩ (⟨by omega, Below.refl _ _⟩) ?_
  rintro r w7 ⟨hr, b7⟩
  refine v_seq ?_
  refine v_seq ?_
  refine v_region ?_
  refine vl_val (os_move rfl) ?_
  refine vl_val (os_lss rfl rfl) ?_
  refine vl_nil ?_
  refine v_cond_d rfl (fun hlt => ?_) (fun hlt => ?_)
  · refine v_skip ?_
    refine v_seq ?_
    refine v_block ?_
    refine v_seq ?_
    refine v_region ?_
    refine vl_val (os_assign rfl) ?_
    refine vl_nil ?_
    refine v_block ?_
    refine v_loop [(1, _), (2, _)] (fun (m : Nat) => [(3, .int .i64 m)]) (fun m w' => m ≤ 60 ∧ Below w6.heap.size w6 w') (fun m => 60 - m) (0) ⟨rfl, rfl, trivial⟩ ⟨rfl, trivial⟩ (⟨by omega, b7⟩) ?_
    rintro m w8 ⟨hm, b8⟩
    refine v_seq ?_
    refine v_seq ?_
    refine v_region ?_
    refine vl_val (os_move rfl) ?_
    refine vl_val (os_lss rfl rfl) ?_
    refine vl_nil ?_
    refine v_cond_d rfl (fun hlt2 => ?_) (fun hlt2 => ?_)
    · refine v_skip ?_
      refine v_seq ?_
      refine v_block ?_
      refine v_seq ?_
      refine v_region ?_
      refine vl_val (os_move rfl) ?_
      refine vl_val (os_remi rfl rfl (by omega)) ?_
      refine vl_val (os_addi rfl rfl (by omega)) ?_
      refine vl_val (os_move rfl) ?_
      refine vl_val (os_addi rfl rfl (by omega)) ?_
      refine vl_val (os_muli rfl rfl (by omega)) ?_
      refine vl_val (os_build (cs := [.int .i64 3, .int .i64 (64 + (m : Int) % 2), .int .i64 (3 * (24 + (r : Int)))]) rfl (by kernel_rfl)) ?_
      refine vl_val (os_allocB Try.zeroValue42 (zc := _) (cs := [.int .i64 0, .int .i64 0, .int .i64 0]) rfl) ?_
      refine vl_unit (ou_storeB (cs := [.int .i64 0, .int .i64 0, .int .i64 0]) (t := 42) (by kernel_rfl) rfl rfl (bk_new w8 _ _) rfl rfl) ?_
      have hBo := setRow_bk (bk_new w8 [.int .i64 0, .int .i64 0, .int .i64 0] 42) [.int .i64 3, .int .i64 (64 + (m : Int) % 2), .int .i64 (3 * (24 + (r : Int)))]
      have b9 := below_setRow ((Below.refl _ w8).alloc (Nat.le_refl _) (.cells [Value.int .i64 0, .int .i64 0, .int .i64 0].toArray 42)) (Nat.le_refl _) [Value.int .i64 3, .int .i64 (64 + (m : Int) % 2), .int .i64 (3 * (24 + (r : Int)))].toArray
      obtain ⟨w9, hw9⟩ : ∃ w9, w9 = (w8.alloc (.cells [Value.int .i64 0, .int .i64 0, .int .i64 0].toArray 42)).setRow w8.heap.size [Value.int .i64 3, .int .i64 (64 + (m : Int) % 2), .int .i64 (3 * (24 + (r : Int)))].toArray := ⟨_, rfl⟩
      rw [← hw9] at hBo b9 ⊢
      have b89 := b8.trans (b9.mono b8.size)
      obtain ⟨j, hj, hj5⟩ : ∃ j : Nat, (m : Int) % 5 = j ∧ j < 5 := ⟨m % 5, by omega, by omega⟩
      obtain ⟨A, ws, cA, rA, lA, iA, hA⟩ := hW6.keep b89 j hj5
      refine vl_nil ?_
      refine v_mid [(1, _), (2, _), (3, _)] (fun (T : Nat) => [(5, .pointer (some ⟨T, 0, none⟩))]) (fun T w' => ∃ d q, TB w9 w' T d q ∧ q.lens.length ≤ 8 ∧ q.worths.length ≤ 8) ⟨rfl, rfl, rfl, trivial⟩ ?_ ?_
      · refine v_region_h (LeG w9) mixed (leg_start _) ?_
        refine vh_pure 0 rfl (by kernel_rfl) (by kernel_rfl) (by kernel_rfl) (fun w hw => (os_loadB Try.underlying42 rfl (by kernel_rfl) rfl (hBo.keep hw))) ?_
        refine vh_pure 1 rfl (by kernel_rfl) (by kernel_rfl) (by kernel_rfl) (fun w hw => (os_move rfl)) ?_
        refine vh_pure 2 rfl (by kernel_rfl) (by kernel_rfl) (by kernel_rfl) (fun w hw => (os_remi rfl rfl (by omega))) ?_
        refine vh_pure 3 rfl (by kernel_rfl) (by kernel_rfl) (by kernel_rfl) (fun w hw => (os_move rfl)) ?_
        refine vh_pure 4 rfl (by kernel_rfl) (by kernel_rfl) (by kernel_rfl) (fun w hw => (os_remi rfl rfl (by omega))) ?_
        refine vh_pure 5 rfl (by kernel_rfl) (by kernel_rfl) (by kernel_rfl) (fun w hw => (os_muli rfl rfl (by omega))) ?_
        refine vh_pure 7 rfl (by kernel_rfl) (by kernel_rfl) (by kernel_rfl) (fun w hw => (os_move rfl)) ?_
        refine vh_pure 8 rfl (by kernel_rfl) (by kernel_rfl) (by kernel_rfl) (fun w hw => (os_remi rfl rfl (by omega))) ?_
        refine vh_pure 9 rfl (by kernel_rfl) (by kernel_rfl) (by kernel_rfl) (fun w hw => (os_move rfl)) ?_
        refine vh_pure 10 rfl (by kernel_rfl) (by kernel_rfl) (by kernel_rfl) (fun w hw => (os_quoi rfl rfl (by omega))) ?_
        refine vh_pure 11 rfl (by kernel_rfl) (by kernel_rfl) (by kernel_rfl) (fun w hw => (os_remi rfl rfl (by omega))) ?_
        refine vh_pure 13 rfl (by kernel_rfl) (by kernel_rfl) (by kernel_rfl) (fun w hw => (os_move rfl)) ?_
        refine vh_pure 14 rfl (by kernel_rfl) (by kernel_rfl) (by kernel_rfl) (fun w hw => (os_move rfl)) ?_
        refine vh_pure 15 rfl (by kernel_rfl) (by kernel_rfl) (by kernel_rfl) (fun w hw => (os_remi rfl rfl (by omega))) ?_
        refine vh_pure 16 rfl (by kernel_rfl) (by kernel_rfl) (by kernel_rfl) (fun w hw => (os_ix Try.underlying59 Try.sizeOf40 rfl rfl (i := j) (by omega) (by omega))) ?_
        refine vh_pure 17 rfl (by kernel_rfl) (by kernel_rfl) (by kernel_rfl) (fun w hw => (os_load Try.isAgg40 rfl (leg_cell hw cA))) ?_
        refine vh_three 6 12 19 (by kernel_rfl) ?_ ?_ ?_
        · refine vhn_some rfl (ot_litO [(m : Int) % 7, 2 * ((m : Int) % 5)] Try.underlying40 Try.sizeOf3 Try.zeroValue3 rfl rfl rfl rfl (by decide)) (fun hw v w' h => by obtain ⟨_, _, _, hb⟩ := h; exact hw.trans (hb.mono (Below.size hw))) ?_
          rintro v10 w10 ⟨g10, rfl, o10, b10⟩
          refine vh_two 12 19 (by kernel_rfl) ?_ ?_
          · refine vhn_some rfl (ot_litO [(m : Int) % 3, (m : Int) / 3 % 4] Try.underlying40 Try.sizeOf3 Try.zeroValue3 rfl rfl rfl rfl (by decide)) (fun hw v w' h => by obtain ⟨_, _, _, hb⟩ := h; exact hw.trans (hb.mono (Below.size hw))) ?_
            rintro v11 w11 ⟨g11, rfl, o11, b11⟩
            refine vh_pure 18 rfl (by kernel_rfl) (by kernel_rfl) (by kernel_rfl) (fun w hw => (os_build (cs := TaskV.cells ⟨3, 64 + (m : Int) % 2, 3 * (24 + (r : Int)), some ⟨g10, 0, none⟩, 2, 2, some ⟨g11, 0, none⟩, 2, 2, A, 4, 4⟩) rfl (by kernel_rfl))) ?_
            refine vh_one 19 (by kernel_rfl) ?_
            refine vhn_val rfl (os_allocB Try.zeroValue44 (zc := _) (cs := zP) rfl) (fun hw => hw.alloc (Below.size hw) _) ?_
            refine vh_one 20 (by kernel_rfl) ?_
            refine vhn_unit rfl (ou_storeB (cs := zP) (t := 44) (by kernel_rfl) rfl rfl (by first | exact bk_new _ zP _ | exact (bk_new _ zP _).keep b11 | exact (bk_new _ zP _).keep b10 | exact ((bk_new _ zP _).keep b10).keep b11 | exact ((bk_new _ zP _).keep b11).keep b10) rfl rfl) (fun hw => below_setRow hw (by first | exact Below.size (lg_dr _) | exact Below.size (lg (lg_dr _) b10) | exact Below.size (lg (lg_dr _) b11) | exact Below.size (lg (lg (lg_dr _) b10) b11) | exact Below.size (lg (lg (lg_dr _) b11) b10)) _) ?_
            refine vh_done (by kernel_rfl) (fun hS => ?_)
            exact ⟨_, ⟨rfl, rfl, rfl, trivial⟩, ⟨rfl, trivial⟩, ⟨_, _, tb_fin (n := 3) (m := 64 + (m : Int) % 2) (b := 3 * (24 + (r : Int))) (by first | exact lg_dr _ | exact lg (lg_dr _) (lg_al _ _) | exact lg (lg_dr _) b11 | exact lg (lg (lg_dr _) b11) (lg_al _ _) | exact lg (lg (lg_dr _) (lg_al _ _)) b11) o10 b10 (by first | exact lg_dr _ | exact lg (lg_dr _) (lg_al _ _) | exact lg (lg_dr _) b10 | exact lg (lg (lg_dr _) b10) (lg_al _ _) | exact lg (lg (lg_dr _) (lg_al _ _)) b10) o11 b11 (by first | exact lg_dr _ | exact lg (lg_dr _) b10 | exact lg (lg_dr _) b11 | exact lg (lg (lg_dr _) b10) b11 | exact lg (lg (lg_dr _) b11) b10) (by first | exact lg_rf _ | exact lg_al _ _ | exact b11 | exact lg (lg_al _ _) b11 | exact lg b11 (lg_al _ _)) (by first | exact lg_rf _ | exact lg_al _ _ | exact b10 | exact lg (lg_al _ _) b10 | exact lg b10 (lg_al _ _)) (by first | exact lg_rf _ | exact b10 | exact b11 | exact lg b10 b11 | exact lg b11 b10) (by first | exact .inl (lg_rf _) | exact .inl (lg_al _ _) | exact .inr (lg_rf _) | exact .inr (lg_al _ _)) rA lA iA (fun z hz => small_I (by simp at hz; rcases hz with rfl | rfl <;> omega)) (fun z hz => small_I (by simp at hz; rcases hz with rfl | rfl <;> omega)) ⟨small_I (by omega), small_I (by omega), small_I (by omega)⟩ rfl rfl, by show 2 ≤ 8; omega, by show 2 ≤ 8; omega⟩⟩
          · refine vhn_val rfl (os_allocB Try.zeroValue44 (zc := _) (cs := zP) rfl) (fun hw => hw.alloc (Below.size hw) _) ?_
            refine vh_one 12 (by kernel_rfl) ?_
            refine vhn_some rfl (ot_litO [(m : Int) % 3, (m : Int) / 3 % 4] Try.underlying40 Try.sizeOf3 Try.zeroValue3 rfl rfl rfl rfl (by decide)) (fun hw v w' h => by obtain ⟨_, _, _, hb⟩ := h; exact hw.trans (hb.mono (Below.size hw))) ?_
            rintro v11 w11 ⟨g11, rfl, o11, b11⟩
            refine vh_pure 18 rfl (by kernel_rfl) (by kernel_rfl) (by kernel_rfl) (fun w hw => (os_build (cs := TaskV.cells ⟨3, 64 + (m : Int) % 2, 3 * (24 + (r : Int)), some ⟨g10, 0, none⟩, 2, 2, some ⟨g11, 0, none⟩, 2, 2, A, 4, 4⟩) rfl (by kernel_rfl))) ?_
            refine vh_one 20 (by kernel_rfl) ?_
            refine vhn_unit rfl (ou_storeB (cs := zP) (t := 44) (by kernel_rfl) rfl rfl (by first | exact bk_new _ zP _ | exact (bk_new _ zP _).keep b11 | exact (bk_new _ zP _).keep b10 | exact ((bk_new _ zP _).keep b10).keep b11 | exact ((bk_new _ zP _).keep b11).keep b10) rfl rfl) (fun hw => below_setRow hw (by first | exact Below.size (lg_dr _) | exact Below.size (lg (lg_dr _) b10) | exact Below.size (lg (lg_dr _) b11) | exact Below.size (lg (lg (lg_dr _) b10) b11) | exact Below.size (lg (lg (lg_dr _) b11) b10)) _) ?_
            refine vh_done (by kernel_rfl) (fun hS => ?_)
            exact ⟨_, ⟨rfl, rfl, rfl, trivial⟩, ⟨rfl, trivial⟩, ⟨_, _, tb_fin (n := 3) (m := 64 + (m : Int) % 2) (b := 3 * (24 + (r : Int))) (by first | exact lg_dr _ | exact lg (lg_dr _) (lg_al _ _) | exact lg (lg_dr _) b11 | exact lg (lg (lg_dr _) b11) (lg_al _ _) | exact lg (lg (lg_dr _) (lg_al _ _)) b11) o10 b10 (by first | exact lg_dr _ | exact lg (lg_dr _) (lg_al _ _) | exact lg (lg_dr _) b10 | exact lg (lg (lg_dr _) b10) (lg_al _ _) | exact lg (lg (lg_dr _) (lg_al _ _)) b10) o11 b11 (by first | exact lg_dr _ | exact lg (lg_dr _) b10 | exact lg (lg_dr _) b11 | exact lg (lg (lg_dr _) b10) b11 | exact lg (lg (lg_dr _) b11) b10) (by first | exact lg_rf _ | exact lg_al _ _ | exact b11 | exact lg (lg_al _ _) b11 | exact lg b11 (lg_al _ _)) (by first | exact lg_rf _ | exact lg_al _ _ | exact b10 | exact lg (lg_al _ _) b10 | exact lg b10 (lg_al _ _)) (by first | exact lg_rf _ | exact b10 | exact b11 | exact lg b10 b11 | exact lg b11 b10) (by first | exact .inl (lg_rf _) | exact .inl (lg_al _ _) | exact .inr (lg_rf _) | exact .inr (lg_al _ _)) rA lA iA (fun z hz => small_I (by simp at hz; rcases hz with rfl | rfl <;> omega)) (fun z hz => small_I (by simp at hz; rcases hz with rfl | rfl <;> omega)) ⟨small_I (by omega), small_I (by omega), small_I (by omega)⟩ rfl rfl, by show 2 ≤ 8; omega, by show 2 ≤ 8; omega⟩⟩
        · refine vhn_some rfl (ot_litO [(m : Int) % 3, (m : Int) / 3 % 4] Try.underlying40 Try.sizeOf3 Try.zeroValue3 rfl rfl rfl rfl (by decide)) (fun hw v w' h => by obtain ⟨_, _, _, hb⟩ := h; exact hw.trans (hb.mono (Below.size hw))) ?_
          rintro v11 w11 ⟨g11, rfl, o11, b11⟩
          refine vh_two 6 19 (by kernel_rfl) ?_ ?_
          · refine vhn_some rfl (ot_litO [(m : Int) % 7, 2 * ((m : Int) % 5)] Try.underlying40 Try.sizeOf3 Try.zeroValue3 rfl rfl rfl rfl (by decide)) (fun hw v w' h => by obtain ⟨_, _, _, hb⟩ := h; exact hw.trans (hb.mono (Below.size hw))) ?_
            rintro v10 w10 ⟨g10, rfl, o10, b10⟩
            refine vh_pure 18 rfl (by kernel_rfl) (by kernel_rfl) (by kernel_rfl) (fun w hw => (os_build (cs := TaskV.cells ⟨3, 64 + (m : Int) % 2, 3 * (24 + (r : Int)), some ⟨g10, 0, none⟩, 2, 2, some ⟨g11, 0, none⟩, 2, 2, A, 4, 4⟩) rfl (by kernel_rfl))) ?_
            refine vh_one 19 (by kernel_rfl) ?_
            refine vhn_val rfl (os_allocB Try.zeroValue44 (zc := _) (cs := zP) rfl) (fun hw => hw.alloc (Below.size hw) _) ?_
            refine vh_one 20 (by kernel_rfl) ?_
            refine vhn_unit rfl (ou_storeB (cs := zP) (t := 44) (by kernel_rfl) rfl rfl (by first | exact bk_new _ zP _ | exact (bk_new _ zP _).keep b11 | exact (bk_new _ zP _).keep b10 | exact ((bk_new _ zP _).keep b10).keep b11 | exact ((bk_new _ zP _).keep b11).keep b10) rfl rfl) (fun hw => below_setRow hw (by first | exact Below.size (lg_dr _) | exact Below.size (lg (lg_dr _) b10) | exact Below.size (lg (lg_dr _) b11) | exact Below.size (lg (lg (lg_dr _) b10) b11) | exact Below.size (lg (lg (lg_dr _) b11) b10)) _) ?_
            refine vh_done (by kernel_rfl) (fun hS => ?_)
            exact ⟨_, ⟨rfl, rfl, rfl, trivial⟩, ⟨rfl, trivial⟩, ⟨_, _, tb_fin (n := 3) (m := 64 + (m : Int) % 2) (b := 3 * (24 + (r : Int))) (by first | exact lg_dr _ | exact lg (lg_dr _) (lg_al _ _) | exact lg (lg_dr _) b11 | exact lg (lg (lg_dr _) b11) (lg_al _ _) | exact lg (lg (lg_dr _) (lg_al _ _)) b11) o10 b10 (by first | exact lg_dr _ | exact lg (lg_dr _) (lg_al _ _) | exact lg (lg_dr _) b10 | exact lg (lg (lg_dr _) b10) (lg_al _ _) | exact lg (lg (lg_dr _) (lg_al _ _)) b10) o11 b11 (by first | exact lg_dr _ | exact lg (lg_dr _) b10 | exact lg (lg_dr _) b11 | exact lg (lg (lg_dr _) b10) b11 | exact lg (lg (lg_dr _) b11) b10) (by first | exact lg_rf _ | exact lg_al _ _ | exact b11 | exact lg (lg_al _ _) b11 | exact lg b11 (lg_al _ _)) (by first | exact lg_rf _ | exact lg_al _ _ | exact b10 | exact lg (lg_al _ _) b10 | exact lg b10 (lg_al _ _)) (by first | exact lg_rf _ | exact b10 | exact b11 | exact lg b10 b11 | exact lg b11 b10) (by first | exact .inl (lg_rf _) | exact .inl (lg_al _ _) | exact .inr (lg_rf _) | exact .inr (lg_al _ _)) rA lA iA (fun z hz => small_I (by simp at hz; rcases hz with rfl | rfl <;> omega)) (fun z hz => small_I (by simp at hz; rcases hz with rfl | rfl <;> omega)) ⟨small_I (by omega), small_I (by omega), small_I (by omega)⟩ rfl rfl, by show 2 ≤ 8; omega, by show 2 ≤ 8; omega⟩⟩
          · refine vhn_val rfl (os_allocB Try.zeroValue44 (zc := _) (cs := zP) rfl) (fun hw => hw.alloc (Below.size hw) _) ?_
            refine vh_one 6 (by kernel_rfl) ?_
            refine vhn_some rfl (ot_litO [(m : Int) % 7, 2 * ((m : Int) % 5)] Try.underlying40 Try.sizeOf3 Try.zeroValue3 rfl rfl rfl rfl (by decide)) (fun hw v w' h => by obtain ⟨_, _, _, hb⟩ := h; exact hw.trans (hb.mono (Below.size hw))) ?_
            rintro v10 w10 ⟨g10, rfl, o10, b10⟩
            refine vh_pure 18 rfl (by kernel_rfl) (by kernel_rfl) (by kernel_rfl) (fun w hw => (os_build (cs := TaskV.cells ⟨3, 64 + (m : Int) % 2, 3 * (24 + (r : Int)), some ⟨g10, 0, none⟩, 2, 2, some ⟨g11, 0, none⟩, 2, 2, A, 4, 4⟩) rfl (by kernel_rfl))) ?_
            refine vh_one 20 (by kernel_rfl) ?_
            refine vhn_unit rfl (ou_storeB (cs := zP) (t := 44) (by kernel_rfl) rfl rfl (by first | exact bk_new _ zP _ | exact (bk_new _ zP _).keep b11 | exact (bk_new _ zP _).keep b10 | exact ((bk_new _ zP _).keep b10).keep b11 | exact ((bk_new _ zP _).keep b11).keep b10) rfl rfl) (fun hw => below_setRow hw (by first | exact Below.size (lg_dr _) | exact Below.size (lg (lg_dr _) b10) | exact Below.size (lg (lg_dr _) b11) | exact Below.size (lg (lg (lg_dr _) b10) b11) | exact Below.size (lg (lg (lg_dr _) b11) b10)) _) ?_
            refine vh_done (by kernel_rfl) (fun hS => ?_)
            exact ⟨_, ⟨rfl, rfl, rfl, trivial⟩, ⟨rfl, trivial⟩, ⟨_, _, tb_fin (n := 3) (m := 64 + (m : Int) % 2) (b := 3 * (24 + (r : Int))) (by first | exact lg_dr _ | exact lg (lg_dr _) (lg_al _ _) | exact lg (lg_dr _) b11 | exact lg (lg (lg_dr _) b11) (lg_al _ _) | exact lg (lg (lg_dr _) (lg_al _ _)) b11) o10 b10 (by first | exact lg_dr _ | exact lg (lg_dr _) (lg_al _ _) | exact lg (lg_dr _) b10 | exact lg (lg (lg_dr _) b10) (lg_al _ _) | exact lg (lg (lg_dr _) (lg_al _ _)) b10) o11 b11 (by first | exact lg_dr _ | exact lg (lg_dr _) b10 | exact lg (lg_dr _) b11 | exact lg (lg (lg_dr _) b10) b11 | exact lg (lg (lg_dr _) b11) b10) (by first | exact lg_rf _ | exact lg_al _ _ | exact b11 | exact lg (lg_al _ _) b11 | exact lg b11 (lg_al _ _)) (by first | exact lg_rf _ | exact lg_al _ _ | exact b10 | exact lg (lg_al _ _) b10 | exact lg b10 (lg_al _ _)) (by first | exact lg_rf _ | exact b10 | exact b11 | exact lg b10 b11 | exact lg b11 b10) (by first | exact .inl (lg_rf _) | exact .inl (lg_al _ _) | exact .inr (lg_rf _) | exact .inr (lg_al _ _)) rA lA iA (fun z hz => small_I (by simp at hz; rcases hz with rfl | rfl <;> omega)) (fun z hz => small_I (by simp at hz; rcases hz with rfl | rfl <;> omega)) ⟨small_I (by omega), small_I (by omega), small_I (by omega)⟩ rfl rfl, by show 2 ≤ 8; omega, by show 2 ≤ 8; omega⟩⟩
        · refine vhn_val rfl (os_allocB Try.zeroValue44 (zc := _) (cs := zP) rfl) (fun hw => hw.alloc (Below.size hw) _) ?_
          refine vh_two 6 12 (by kernel_rfl) ?_ ?_
          · refine vhn_some rfl (ot_litO [(m : Int) % 7, 2 * ((m : Int) % 5)] Try.underlying40 Try.sizeOf3 Try.zeroValue3 rfl rfl rfl rfl (by decide)) (fun hw v w' h => by obtain ⟨_, _, _, hb⟩ := h; exact hw.trans (hb.mono (Below.size hw))) ?_
            rintro v10 w10 ⟨g10, rfl, o10, b10⟩
            refine vh_one 12 (by kernel_rfl) ?_
            refine vhn_some rfl (ot_litO [(m : Int) % 3, (m : Int) / 3 % 4] Try.underlying40 Try.sizeOf3 Try.zeroValue3 rfl rfl rfl rfl (by decide)) (fun hw v w' h => by obtain ⟨_, _, _, hb⟩ := h; exact hw.trans (hb.mono (Below.size hw))) ?_
            rintro v11 w11 ⟨g11, rfl, o11, b11⟩
            refine vh_pure 18 rfl (by kernel_rfl) (by kernel_rfl) (by kernel_rfl) (fun w hw => (os_build (cs := TaskV.cells ⟨3, 64 + (m : Int) % 2, 3 * (24 + (r : Int)), some ⟨g10, 0, none⟩, 2, 2, some ⟨g11, 0, none⟩, 2, 2, A, 4, 4⟩) rfl (by kernel_rfl))) ?_
            refine vh_one 20 (by kernel_rfl) ?_
            refine vhn_unit rfl (ou_storeB (cs := zP) (t := 44) (by kernel_rfl) rfl rfl (by first | exact bk_new _ zP _ | exact (bk_new _ zP _).keep b11 | exact (bk_new _ zP _).keep b10 | exact ((bk_new _ zP _).keep b10).keep b11 | exact ((bk_new _ zP _).keep b11).keep b10) rfl rfl) (fun hw => below_setRow hw (by first | exact Below.size (lg_dr _) | exact Below.size (lg (lg_dr _) b10) | exact Below.size (lg (lg_dr _) b11) | exact Below.size (lg (lg (lg_dr _) b10) b11) | exact Below.size (lg (lg (lg_dr _) b11) b10)) _) ?_
            refine vh_done (by kernel_rfl) (fun hS => ?_)
            exact ⟨_, ⟨rfl, rfl, rfl, trivial⟩, ⟨rfl, trivial⟩, ⟨_, _, tb_fin (n := 3) (m := 64 + (m : Int) % 2) (b := 3 * (24 + (r : Int))) (by first | exact lg_dr _ | exact lg (lg_dr _) (lg_al _ _) | exact lg (lg_dr _) b11 | exact lg (lg (lg_dr _) b11) (lg_al _ _) | exact lg (lg (lg_dr _) (lg_al _ _)) b11) o10 b10 (by first | exact lg_dr _ | exact lg (lg_dr _) (lg_al _ _) | exact lg (lg_dr _) b10 | exact lg (lg (lg_dr _) b10) (lg_al _ _) | exact lg (lg (lg_dr _) (lg_al _ _)) b10) o11 b11 (by first | exact lg_dr _ | exact lg (lg_dr _) b10 | exact lg (lg_dr _) b11 | exact lg (lg (lg_dr _) b10) b11 | exact lg (lg (lg_dr _) b11) b10) (by first | exact lg_rf _ | exact lg_al _ _ | exact b11 | exact lg (lg_al _ _) b11 | exact lg b11 (lg_al _ _)) (by first | exact lg_rf _ | exact lg_al _ _ | exact b10 | exact lg (lg_al _ _) b10 | exact lg b10 (lg_al _ _)) (by first | exact lg_rf _ | exact b10 | exact b11 | exact lg b10 b11 | exact lg b11 b10) (by first | exact .inl (lg_rf _) | exact .inl (lg_al _ _) | exact .inr (lg_rf _) | exact .inr (lg_al _ _)) rA lA iA (fun z hz => small_I (by simp at hz; rcases hz with rfl | rfl <;> omega)) (fun z hz => small_I (by simp at hz; rcases hz with rfl | rfl <;> omega)) ⟨small_I (by omega), small_I (by omega), small_I (by omega)⟩ rfl rfl, by show 2 ≤ 8; omega, by show 2 ≤ 8; omega⟩⟩
          · refine vhn_some rfl (ot_litO [(m : Int) % 3, (m : Int) / 3 % 4] Try.underlying40 Try.sizeOf3 Try.zeroValue3 rfl rfl rfl rfl (by decide)) (fun hw v w' h => by obtain ⟨_, _, _, hb⟩ := h; exact hw.trans (hb.mono (Below.size hw))) ?_
            rintro v11 w11 ⟨g11, rfl, o11, b11⟩
            refine vh_one 6 (by kernel_rfl) ?_
            refine vhn_some rfl (ot_litO [(m : Int) % 7, 2 * ((m : Int) % 5)] Try.underlying40 Try.sizeOf3 Try.zeroValue3 rfl rfl rfl rfl (by decide)) (fun hw v w' h => by obtain ⟨_, _, _, hb⟩ := h; exact hw.trans (hb.mono (Below.size hw))) ?_
            rintro v10 w10 ⟨g10, rfl, o10, b10⟩
            refine vh_pure 18 rfl (by kernel_rfl) (by kernel_rfl) (by kernel_rfl) (fun w hw => (os_build (cs := TaskV.cells ⟨3, 64 + (m : Int) % 2, 3 * (24 + (r : Int)), some ⟨g10, 0, none⟩, 2, 2, some ⟨g11, 0, none⟩, 2, 2, A, 4, 4⟩) rfl (by kernel_rfl))) ?_
            refine vh_one 20 (by kernel_rfl) ?_
            refine vhn_unit rfl (ou_storeB (cs := zP) (t := 44) (by kernel_rfl) rfl rfl (by first | exact bk_new _ zP _ | exact (bk_new _ zP _).keep b11 | exact (bk_new _ zP _).keep b10 | exact ((bk_new _ zP _).keep b10).keep b11 | exact ((bk_new _ zP _).keep b11).keep b10) rfl rfl) (fun hw => below_setRow hw (by first | exact Below.size (lg_dr _) | exact Below.size (lg (lg_dr _) b10) | exact Below.size (lg (lg_dr _) b11) | exact Below.size (lg (lg (lg_dr _) b10) b11) | exact Below.size (lg (lg (lg_dr _) b11) b10)) _) ?_
            refine vh_done (by kernel_rfl) (fun hS => ?_)
            exact ⟨_, ⟨rfl, rfl, rfl, trivial⟩, ⟨rfl, trivial⟩, ⟨_, _, tb_fin (n := 3) (m := 64 + (m : Int) % 2) (b := 3 * (24 + (r : Int))) (by first | exact lg_dr _ | exact lg (lg_dr _) (lg_al _ _) | exact lg (lg_dr _) b11 | exact lg (lg (lg_dr _) b11) (lg_al _ _) | exact lg (lg (lg_dr _) (lg_al _ _)) b11) o10 b10 (by first | exact lg_dr _ | exact lg (lg_dr _) (lg_al _ _) | exact lg (lg_dr _) b10 | exact lg (lg (lg_dr _) b10) (lg_al _ _) | exact lg (lg (lg_dr _) (lg_al _ _)) b10) o11 b11 (by first | exact lg_dr _ | exact lg (lg_dr _) b10 | exact lg (lg_dr _) b11 | exact lg (lg (lg_dr _) b10) b11 | exact lg (lg (lg_dr _) b11) b10) (by first | exact lg_rf _ | exact lg_al _ _ | exact b11 | exact lg (lg_al _ _) b11 | exact lg b11 (lg_al _ _)) (by first | exact lg_rf _ | exact lg_al _ _ | exact b10 | exact lg (lg_al _ _) b10 | exact lg b10 (lg_al _ _)) (by first | exact lg_rf _ | exact b10 | exact b11 | exact lg b10 b11 | exact lg b11 b10) (by first | exact .inl (lg_rf _) | exact .inl (lg_al _ _) | exact .inr (lg_rf _) | exact .inr (lg_al _ _)) rA lA iA (fun z hz => small_I (by simp at hz; rcases hz with rfl | rfl <;> omega)) (fun z hz => small_I (by simp at hz; rcases hz with rfl | rfl <;> omega)) ⟨small_I (by omega), small_I (by omega), small_I (by omega)⟩ rfl rfl, by show 2 ≤ 8; omega, by show 2 ≤ 8; omega⟩⟩
      · rintro T w10 ⟨d, q, hT, hl8, ho8⟩
        refine v_seq ?_
        refine v_seq ?_
        refine v_region ?_
        refine vl_val (os_loadB Try.underlying44 rfl (by kernel_rfl) rfl hT.bk) ?_
        refine vl_call (law13_PlanBest d q w10 hT.ok) rfl ?_
        rintro v11 w11 ⟨rfl, b11⟩
        have hT1 := hT.keep b11
        refine vl_val (os_not rfl) ?_
        refine vl_nil ?_
        refine v_cond_f rfl ?_
        refine v_skip ?_
        refine v_seq ?_
        refine v_region ?_
        refine vl_val (os_fa (o := 3) (k := 0) (by kernel_rfl) rfl) ?_
        refine vl_val (os_load Try.isAgg40 rfl (hT1.bk.cell (i := 3) rfl)) ?_
        refine vl_val (os_move rfl) ?_
        refine vl_val (os_lit Try.underlying40 Try.sizeOf3 Try.zeroValue3 rfl rfl rfl rfl (by decide)) ?_
        refine vl_some (ot_append_at Try.underlying40 ti_int rfl rfl rfl (Own.alloc hT1.L (.cells [Value.int .i64 r].toArray 3)) (rdc_alloc w11 [Value.int .i64 r] _) rfl (by intro u hu; rw [List.mem_singleton.1 hu]; rfl) (by simp; omega) (by simp [maxLen]; omega) (by have := hT1.bel.size; simp; omega)) ?_
        rintro v12 w12 ⟨o12, g12, a12⟩
        obtain ⟨A12, c12, rfl, -⟩ := Own.form o12
        have k12 := hT1.bkL (lg_al _ _) g12
        refine vl_val (os_fa (o := 3) (k := 0) (by kernel_rfl) rfl) ?_
        refine vl_unit (ou_store Try.sizeOf40 rfl rfl rfl (k12.cell (i := 3) rfl) (k12.free _)) ?_
        have hT2 := hT1.stepL (z := r) hl8 (small_I (by omega)) (lg_al _ _) (by unfold OwnK; rw [List.map_append]; exact o12) g12 a12
        obtain ⟨w13, hw13⟩ : ∃ w13, w13 = w12.setCell ⟨T, 0 + 3, none⟩ (.slice A12 (List.map (Value.int IntKind.i64) q.lens ++ [Value.int IntKind.i64 ↑r]).length c12) := ⟨_, rfl⟩
        rw [← hw13] at hT2 ⊢
        refine vl_nil ?_
        refine v_seq ?_
        refine v_region ?_
        refine vl_val (os_fa (o := 4) (k := 0) (by kernel_rfl) rfl) ?_
        refine vl_val (os_load Try.isAgg40 rfl (hT2.bk.cell (i := 4) rfl)) ?_
        refine vl_val (os_lit Try.underlying40 Try.sizeOf3 Try.zeroValue3 rfl rfl rfl rfl (by decide)) ?_
        refine vl_some (ot_append_at Try.underlying40 ti_int rfl rfl rfl (Own.alloc hT2.W (.cells [Value.int .i64 2].toArray 3)) (rdc_alloc w13 [Value.int .i64 2] _) rfl (by intro u hu; rw [List.mem_singleton.1 hu]; rfl) (by simp; omega) (by simp [maxLen]; omega) (by have := hT2.bel.size; simp; omega)) ?_
        rintro v14 w14 ⟨o14, g14, a14⟩
        obtain ⟨A14, c14, rfl, -⟩ := Own.form o14
        have k14 := hT2.bkW (lg_al _ _) g14
        refine vl_val (os_fa (o := 4) (k := 0) (by kernel_rfl) rfl) ?_
        refine vl_unit (ou_store Try.sizeOf40 rfl rfl rfl (k14.cell (i := 4) rfl) (k14.free _)) ?_
        have hT3 := hT2.stepW (z := 2) ho8 (small_I (by omega)) (lg_al _ _) (by unfold OwnK; rw [List.map_append]; exact o14) g14 a14
        obtain ⟨w15, hw15⟩ : ∃ w15, w15 = w14.setCell ⟨T, 0 + 4, none⟩ (.slice A14 (List.map (Value.int IntKind.i64) q.worths ++ [Value.int IntKind.i64 2]).length c14) := ⟨_, rfl⟩
        rw [← hw15] at hT3 ⊢
        refine vl_nil ?_
        refine v_seq ?_
        refine v_region ?_
        refine vl_val (os_loadB Try.underlying44 rfl (by kernel_rfl) rfl hT3.bk) ?_
        refine vl_call (law13_PlanBest _ _ w15 hT3.ok) rfl ?_
        rintro v16 w16 ⟨rfl, b16⟩
        refine vl_val (os_not rfl) ?_
        refine vl_nil ?_
        refine v_cond_f rfl ?_
        refine v_skip ?_
        refine v_region ?_
        refine vl_val (os_move rfl) ?_
        refine vl_val (os_addi rfl rfl (by omega)) ?_
        refine vl_val (os_assign rfl) ?_
        refine vl_nil ?_
        exact ⟨m + 1, ⟨rfl, rfl, trivial⟩, ⟨rfl, trivial⟩, ⟨by omega, b89.trans ((hT3.keep b16).bel.mono b89.size)⟩, by dsimp only; omega⟩
    · refine v_exit ?_
      refine v_region ?_
      refine vl_val (os_move rfl) ?_
      refine vl_val (os_addi rfl rfl (by omega)) ?_
      refine vl_val (os_assign rfl) ?_
      refine vl_nil ?_
      exact ⟨r + 1, ⟨rfl, trivial⟩, ⟨rfl, trivial⟩, ⟨by omega, b8⟩, by dsimp only; omega⟩
  · obtain ⟨A, ws, cA, rA, lA, iA, hA⟩ := hW6.keep b7 0 (by omega)
    refine v_exit ?_
    refine v_seq ?_
    refine v_region ?_
    refine vl_val (os_build (cs := [.int .i64 3, .int .i64 64, .int .i64 200]) rfl (by kernel_rfl)) ?_
    refine vl_some (ot_litZ [5] Try.underlying40 Try.sizeOf3 Try.zeroValue3 rfl rfl rfl rfl (by decide)) ?_
    rintro v8 w8 ⟨g8, rfl, r8, b8⟩
    refine vl_some (ot_litZ [1] Try.underlying40 Try.sizeOf3 Try.zeroValue3 rfl rfl rfl rfl (by decide)) ?_
    rintro v9 w9 ⟨g9, rfl, r9, b9⟩
    have b79 : Below w7.heap.size w7 w9 := b8.trans (b9.mono b8.size)
    refine vl_val (os_move rfl) ?_
    refine vl_val (os_ixs Try.underlying59 Try.sizeOf40 rfl rfl (i := 0) (by omega) (by omega)) ?_
    refine vl_val (os_load Try.isAgg40 rfl (leg_cell b79 cA)) ?_
    refine vl_val (os_build (cs := TaskV.cells ⟨3, 64, 200, some ⟨g8, 0, none⟩, 1, 1, some ⟨g9, 0, none⟩, 1, 1, A, 4, 4⟩) rfl (by kernel_rfl)) ?_
    refine vl_val (os_allocB Try.zeroValue44 (zc := _) (cs := zP) rfl) ?_
    refine vl_unit (ou_storeB (cs := zP) (t := 44) (by kernel_rfl) rfl rfl (bk_new w9 zP _) rfl rfl) ?_
    obtain ⟨d, hd⟩ : ∃ d : TaskV, d = ⟨3, 64, 200, some ⟨g8, 0, none⟩, 1, 1, some ⟨g9, 0, none⟩, 1, 1, A, 4, 4⟩ := ⟨_, rfl⟩
    rw [← hd]
    have hG := setRow_bk (bk_new w9 zP 44) d.cells
    have b10 := below_setRow (lg_al w9 (.cells zP.toArray 44)) (Nat.le_refl _) d.cells.toArray
    obtain ⟨w10, hw10⟩ : ∃ w10, w10 = (w9.alloc (.cells zP.toArray 44)).setRow w9.heap.size d.cells.toArray := ⟨_, rfl⟩
    rw [← hw10] at hG b10 ⊢
    have b710 := b79.trans (b10.mono b79.size)
    have hd10 : TaskOk w10 d ⟨3, 64, 200, [5], [1], ws⟩ := by
      rw [hd]
      exact ⟨(r8.keep b9).keep b10, r9.keep b10, rA.keep b710, rfl, rfl, lA.symm, by show 1 ≤ _; omega, by show 1 ≤ _; omega, by show 4 ≤ _; omega, rfl, rfl, rfl, ⟨small_I (z := 3) (by decide), small_I (z := 64) (by decide), small_I (z := 200) (by decide)⟩, fun z hz => small_I (by simp at hz; omega), fun z hz => small_I (by simp at hz; omega), iA⟩
    have hlow : ∀ b o, (d.AL = some ⟨b, o, none⟩ ∨ d.AW = some ⟨b, o, none⟩ ∨ d.AV = some ⟨b, o, none⟩) → b < w10.heap.size := by
      rw [hd]
      have s9 := b9.size
      have s10 := b10.size
      have s79 := b79.size
      rintro b o (e | e | e)
      · obtain ⟨b', o', e', hlt⟩ := r8.lt (by decide)
        rw [e'] at e; cases e; omega
      · obtain ⟨b', o', e', hlt⟩ := r9.lt (by decide)
        rw [e'] at e; cases e; omega
      · have := hA b o e; omega
    have b10w : Below w.heap.size w w10 := b6w.trans ((b7.trans (b710.mono b7.size)).mono b6w.size)
    refine vl_nil ?_
    refine v_seq ?_
    refine v_region ?_
    refine vl_val (os_assign rfl) ?_
    refine vl_nil ?_
    refine v_seq ?_
    refine v_seq ?_
    refine v_region ?_
    refine vl_val (os_assign rfl) ?_
    refine vl_nil ?_
    refine v_block ?_
    refine v_loop2 [(6, _)] (fun (v : Value) (i : Nat) => [(7, v), (8, .int .i64 i)]) (fun v i w' => i ≤ 14 ∧ OwnP w' w10.heap.size 44 6 v (List.replicate i d.cells) ∧ Below w10.heap.size w10 w') (fun v i => 14 - i) (.slice none 0 0) (0) ⟨rfl, trivial⟩ ⟨rfl, rfl, trivial⟩ (⟨by omega, OwnP.nil, Below.refl _ _⟩) ?_
    rintro v i w11 ⟨hi, hv, b11⟩
    refine v_seq ?_
    refine v_seq ?_
    refine v_region ?_
    refine vl_val (os_move rfl) ?_
    refine vl_val (os_lss rfl rfl) ?_
    refine vl_nil ?_
    refine v_cond_d rfl (fun hlt2 => ?_) (fun hlt2 => ?_)
    · refine v_skip ?_
      refine v_seq ?_
      refine v_block ?_
      refine v_region ?_
      refine vl_val (os_move rfl) ?_
      refine vl_val (os_loadB Try.underlying44 rfl (by kernel_rfl) rfl (hG.keep b11)) ?_
      refine vl_val (os_litS (css := [d.cells]) Try.underlying60 Try.sizeOf44 Try.zeroValue44 rfl rfl (by intro c hc; simp at hc; subst hc; rfl) (by decide) (by decide) (by decide)) ?_
      have x0 : Below w11.heap.size w11 (w11.alloc (.cells [d.cells].flatten.toArray 44)) := lg_al _ _
      have hv' := OwnP.alloc hv (.cells [d.cells].flatten.toArray 44)
      have b11w := b11.trans (x0.mono b11.size)
      refine vl_some (ot_append_pn Try.underlying60 ti_task rfl (by decide) rfl rfl hv' (rdp_alloc _ _ _ (by intro c hc; simp at hc; subst hc; rfl)) (by intro c hc; simp at hc; subst hc; rfl) rfl (by intro c hc u hu; simp at hc; subst hc; simp [TaskV.cells] at hu; rcases hu with rfl | rfl | rfl | rfl | rfl | rfl <;> rfl) (by rw [List.length_replicate]; omega) (by rw [List.length_replicate]; simp [maxLen]; omega) b11w.size) ?_
      rintro v12 w12 ⟨o12, hg12⟩
      refine vl_val (os_assign rfl) ?_
      refine vl_nil ?_
      refine v_region ?_
      refine vl_val (os_move rfl) ?_
      refine vl_val (os_addi rfl rfl (by omega)) ?_
      refine vl_val (os_assign rfl) ?_
      refine vl_nil ?_
      exact ⟨⟨v12, i + 1⟩, ⟨rfl, trivial⟩, ⟨rfl, rfl, trivial⟩, ⟨by dsimp only; omega, by dsimp only; rw [List.replicate_succ']; exact o12, OwnP.below b11w hv' hg12 (Nat.le_refl _) b11w.size⟩, by dsimp only; omega⟩
    · obtain rfl : i = 14 := by omega
      obtain ⟨g, c, rfl, hL⟩ := BL.of hv b11 hd10 hlow
      have hgB := hL.low.1
      obtain ⟨u, hu, hfr⟩ := hL.cell (k := 1) (i := 0) (by omega) (by omega)
      refine v_exit ?_
      refine v_mid [(7, _)] (fun (x : Nat) => []) (fun x w' => BL w' w10.heap.size g ∧ Below w10.heap.size w10 w') ⟨rfl, trivial⟩ ?_ ?_
      · refine v_region ?_
        refine vl_val (os_move rfl) ?_
        refine vl_val (os_ixs Try.underlying60 Try.sizeOf44 rfl rfl (i := 1) (by omega) (by omega)) ?_
        refine vl_val (os_fa (o := 0) (k := 2) (by kernel_rfl) rfl) ?_
        refine vl_val (os_fa (o := 0) (k := 0) (by kernel_rfl) rfl) ?_
        refine vl_unit (ou_store Try.sizeOf3 rfl rfl rfl (hu) (hfr)) ?_
        refine vl_nil ?_
        exact ⟨0, ⟨rfl, trivial⟩, trivial, ⟨hL.setN (k := 1) (i := 0) (by omega) (by omega) (small_I (by omega)), below_set b11 hgB _ _⟩⟩
      · rintro x w11 ⟨hL, b11⟩
        obtain ⟨u, hu, hfr⟩ := hL.cell (k := 2) (i := 0) (by omega) (by omega)
        refine v_mid [(7, _)] (fun (x : Nat) => []) (fun x w' => BL w' w10.heap.size g ∧ Below w10.heap.size w10 w') ⟨rfl, trivial⟩ ?_ ?_
        · refine v_region ?_
          refine vl_val (os_move rfl) ?_
          refine vl_val (os_ixs Try.underlying60 Try.sizeOf44 rfl rfl (i := 2) (by omega) (by omega)) ?_
          refine vl_val (os_fa (o := 0) (k := 2) (by kernel_rfl) rfl) ?_
          refine vl_val (os_fa (o := 0) (k := 0) (by kernel_rfl) rfl) ?_
          refine vl_unit (ou_store Try.sizeOf3 rfl rfl rfl (hu) (hfr)) ?_
          refine vl_nil ?_
          exact ⟨0, ⟨rfl, trivial⟩, trivial, ⟨hL.setN (k := 2) (i := 0) (by omega) (by omega) (small_I (by omega)), below_set b11 hgB _ _⟩⟩
        · rintro x w11 ⟨hL, b11⟩
          obtain ⟨u, hu, hfr⟩ := hL.cell (k := 3) (i := 1) (by omega) (by omega)
          refine v_mid [(7, _)] (fun (x : Nat) => []) (fun x w' => BL w' w10.heap.size g ∧ Below w10.heap.size w10 w') ⟨rfl, trivial⟩ ?_ ?_
          · refine v_region ?_
            refine vl_val (os_move rfl) ?_
            refine vl_val (os_ixs Try.underlying60 Try.sizeOf44 rfl rfl (i := 3) (by omega) (by omega)) ?_
            refine vl_val (os_fa (o := 0) (k := 2) (by kernel_rfl) rfl) ?_
            refine vl_val (os_fa (o := 1) (k := 0) (by kernel_rfl) rfl) ?_
            refine vl_unit (ou_store Try.sizeOf3 rfl rfl rfl (hu) (hfr)) ?_
            refine vl_nil ?_
            exact ⟨0, ⟨rfl, trivial⟩, trivial, ⟨hL.setN (k := 3) (i := 1) (by omega) (by omega) (small_I (by omega)), below_set b11 hgB _ _⟩⟩
          · rintro x w11 ⟨hL, b11⟩
            obtain ⟨u, hu, hfr⟩ := hL.cell (k := 4) (i := 2) (by omega) (by omega)
            refine v_mid [(7, _)] (fun (x : Nat) => []) (fun x w' => BL w' w10.heap.size g ∧ Below w10.heap.size w10 w') ⟨rfl, trivial⟩ ?_ ?_
            · refine v_region ?_
              refine vl_val (os_move rfl) ?_
              refine vl_val (os_ixs Try.underlying60 Try.sizeOf44 rfl rfl (i := 4) (by omega) (by omega)) ?_
              refine vl_val (os_fa (o := 0) (k := 2) (by kernel_rfl) rfl) ?_
              refine vl_val (os_fa (o := 2) (k := 0) (by kernel_rfl) rfl) ?_
              refine vl_unit (ou_store Try.sizeOf3 rfl rfl rfl (hu) (hfr)) ?_
              refine vl_nil ?_
              exact ⟨0, ⟨rfl, trivial⟩, trivial, ⟨hL.setN (k := 4) (i := 2) (by omega) (by omega) (small_I (by omega)), below_set b11 hgB _ _⟩⟩
            · rintro x w11 ⟨hL, b11⟩
              obtain ⟨u, hu, hfr⟩ := hL.cell (k := 5) (i := 3) (by omega) (by omega)
              refine v_mid [(7, _)] (fun (x : Nat) => []) (fun x w' => BL w' w10.heap.size g ∧ Below w10.heap.size w10 w') ⟨rfl, trivial⟩ ?_ ?_
              · refine v_region ?_
                refine vl_val (os_move rfl) ?_
                refine vl_val (os_ixs Try.underlying60 Try.sizeOf44 rfl rfl (i := 5) (by omega) (by omega)) ?_
                refine vl_val (os_fa (o := 3) (k := 0) (by kernel_rfl) rfl) ?_
                refine vl_unit (ou_store Try.sizeOf40 rfl rfl rfl (hu) (hfr)) ?_
                refine vl_nil ?_
                exact ⟨0, ⟨rfl, trivial⟩, trivial, ⟨hL.setL (k := 5) (i := 3) (zs := []) (by omega) (by omega) Rd.nil rfl (by omega) (fun z hz => by cases hz) (fun b o e => by cases e), below_set b11 hgB _ _⟩⟩
              · rintro x w11 ⟨hL, b11⟩
                refine v_mid [(7, _)] (fun (x : Nat) => []) (fun x w' => BL w' w10.heap.size g ∧ Below w10.heap.size w10 w') ⟨rfl, trivial⟩ ?_ ?_
                · refine v_region ?_
                  refine vl_val (os_move rfl) ?_
                  refine vl_some (ot_make (l := 9) Try.underlying40 ti_int rfl rfl rfl (by omega) (by omega) (by omega) (by simp [maxLen]) w11.heap.size (Nat.le_refl _)) ?_
                  rintro v12 w12 ⟨rfl, o12, q12⟩
                  have o12 : OwnK w12 w11.heap.size 3 .i64 (.slice (some ⟨w11.heap.size, 0, none⟩) 9 9) (List.replicate 9 0) := by unfold OwnK; rw [List.map_replicate]; exact o12
                  have b12 : Below w11.heap.size w11 w12 := (Below.refl _ _).grown q12 (Nat.le_refl _) (fun k hk => by cases hk)
                  have hL2 := hL.keep b12
                  obtain ⟨u, hu, hfr⟩ := hL2.cell (k := 6) (i := 3) (by omega) (by omega)
                  refine vl_val (os_ixs Try.underlying60 Try.sizeOf44 rfl rfl (i := 6) (by omega) (by omega)) ?_
                  refine vl_val (os_fa (o := 3) (k := 0) (by kernel_rfl) rfl) ?_
                  refine vl_unit (ou_store Try.sizeOf40 rfl rfl rfl (hu) (hfr)) ?_
                  refine vl_nil ?_
                  exact ⟨0, ⟨rfl, trivial⟩, trivial, ⟨hL2.setL (k := 6) (i := 3) (by omega) (by omega) (Rd.ownK o12).1 (Rd.ownK o12).2 (by omega) (fun z hz => small_I (by rw [(List.mem_replicate.1 hz).2]; omega)) (fun b o e => by cases e; show w11.heap.size ≠ g; have h2 := hL.low.2; omega), below_set (b11.trans (b12.mono b11.size)) hgB _ _⟩⟩
                · rintro x w11 ⟨hL, b11⟩
                  refine v_mid [(7, _)] (fun (x : Nat) => []) (fun x w' => BL w' w10.heap.size g ∧ Below w10.heap.size w10 w') ⟨rfl, trivial⟩ ?_ ?_
                  · refine v_region ?_
                    refine vl_val (os_move rfl) ?_
                    refine vl_some (ot_make (l := 9) Try.underlying40 ti_int rfl rfl rfl (by omega) (by omega) (by omega) (by simp [maxLen]) w11.heap.size (Nat.le_refl _)) ?_
                    rintro v12 w12 ⟨rfl, o12, q12⟩
                    have o12 : OwnK w12 w11.heap.size 3 .i64 (.slice (some ⟨w11.heap.size, 0, none⟩) 9 9) (List.replicate 9 0) := by unfold OwnK; rw [List.map_replicate]; exact o12
                    have b12 : Below w11.heap.size w11 w12 := (Below.refl _ _).grown q12 (Nat.le_refl _) (fun k hk => by cases hk)
                    have hL2 := hL.keep b12
                    obtain ⟨u, hu, hfr⟩ := hL2.cell (k := 6) (i := 4) (by omega) (by omega)
                    refine vl_val (os_ixs Try.underlying60 Try.sizeOf44 rfl rfl (i := 6) (by omega) (by omega)) ?_
                    refine vl_val (os_fa (o := 4) (k := 0) (by kernel_rfl) rfl) ?_
                    refine vl_unit (ou_store Try.sizeOf40 rfl rfl rfl (hu) (hfr)) ?_
                    refine vl_nil ?_
                    exact ⟨0, ⟨rfl, trivial⟩, trivial, ⟨hL2.setL (k := 6) (i := 4) (by omega) (by omega) (Rd.ownK o12).1 (Rd.ownK o12).2 (by omega) (fun z hz => small_I (by rw [(List.mem_replicate.1 hz).2]; omega)) (fun b o e => by cases e; show w11.heap.size ≠ g; have h2 := hL.low.2; omega), below_set (b11.trans (b12.mono b11.size)) hgB _ _⟩⟩
                  · rintro x w11 ⟨hL, b11⟩
                    obtain ⟨u, hu, hfr⟩ := hL.cell (k := 7) (i := 4) (by omega) (by omega)
                    refine v_mid [(7, _)] (fun (x : Nat) => []) (fun x w' => BL w' w10.heap.size g ∧ Below w10.heap.size w10 w') ⟨rfl, trivial⟩ ?_ ?_
                    · refine v_region ?_
                      refine vl_val (os_move rfl) ?_
                      refine vl_val (os_ixs Try.underlying60 Try.sizeOf44 rfl rfl (i := 7) (by omega) (by omega)) ?_
                      refine vl_val (os_fa (o := 4) (k := 0) (by kernel_rfl) rfl) ?_
                      refine vl_unit (ou_store Try.sizeOf40 rfl rfl rfl (hu) (hfr)) ?_
                      refine vl_nil ?_
                      exact ⟨0, ⟨rfl, trivial⟩, trivial, ⟨hL.setL (k := 7) (i := 4) (zs := []) (by omega) (by omega) Rd.nil rfl (by omega) (fun z hz => by cases hz) (fun b o e => by cases e), below_set b11 hgB _ _⟩⟩
                    · rintro x w11 ⟨hL, b11⟩
                      refine v_mid [(7, _)] (fun (x : Nat) => []) (fun x w' => BL w' w10.heap.size g ∧ Below w10.heap.size w10 w') ⟨rfl, trivial⟩ ?_ ?_
                      · refine v_region ?_
                        refine vl_val (os_move rfl) ?_
                        refine vl_some (ot_litO [65536] Try.underlying40 Try.sizeOf3 Try.zeroValue3 rfl rfl rfl rfl (by decide)) ?_
                        rintro v12 w12 ⟨gL, rfl, o12, b12⟩
                        have hL2 := hL.keep b12
                        obtain ⟨u, hu, hfr⟩ := hL2.cell (k := 8) (i := 3) (by omega) (by omega)
                        refine vl_val (os_ixs Try.underlying60 Try.sizeOf44 rfl rfl (i := 8) (by omega) (by omega)) ?_
                        refine vl_val (os_fa (o := 3) (k := 0) (by kernel_rfl) rfl) ?_
                        refine vl_unit (ou_store Try.sizeOf40 rfl rfl rfl (hu) (hfr)) ?_
                        refine vl_nil ?_
                        exact ⟨0, ⟨rfl, trivial⟩, trivial, ⟨hL2.setL (k := 8) (i := 3) (by omega) (by omega) (Rd.ownK o12).1 (Rd.ownK o12).2 (by omega) (fun z hz => small_I (by simp at hz; omega)) (fun b o e => by cases e; show gL ≠ g; have h1 : w11.heap.size ≤ gL := (World.ownsRow.lt o12 _ rfl).1; have h2 := hL.low.2; omega), below_set (b11.trans (b12.mono b11.size)) hgB _ _⟩⟩
                      · rintro x w11 ⟨hL, b11⟩
                        refine v_mid [(7, _)] (fun (x : Nat) => []) (fun x w' => BL w' w10.heap.size g ∧ Below w10.heap.size w10 w') ⟨rfl, trivial⟩ ?_ ?_
                        · refine v_region ?_
                          refine vl_val (os_move rfl) ?_
                          refine vl_some (ot_litO [-1] Try.underlying40 Try.sizeOf3 Try.zeroValue3 rfl rfl rfl rfl (by decide)) ?_
                          rintro v12 w12 ⟨gL, rfl, o12, b12⟩
                          have hL2 := hL.keep b12
                          obtain ⟨u, hu, hfr⟩ := hL2.cell (k := 9) (i := 3) (by omega) (by omega)
                          refine vl_val (os_ixs Try.underlying60 Try.sizeOf44 rfl rfl (i := 9) (by omega) (by omega)) ?_
                          refine vl_val (os_fa (o := 3) (k := 0) (by kernel_rfl) rfl) ?_
                          refine vl_unit (ou_store Try.sizeOf40 rfl rfl rfl (hu) (hfr)) ?_
                          refine vl_nil ?_
                          exact ⟨0, ⟨rfl, trivial⟩, trivial, ⟨hL2.setL (k := 9) (i := 3) (by omega) (by omega) (Rd.ownK o12).1 (Rd.ownK o12).2 (by omega) (fun z hz => small_I (by simp at hz; omega)) (fun b o e => by cases e; show gL ≠ g; have h1 : w11.heap.size ≤ gL := (World.ownsRow.lt o12 _ rfl).1; have h2 := hL.low.2; omega), below_set (b11.trans (b12.mono b11.size)) hgB _ _⟩⟩
                        · rintro x w11 ⟨hL, b11⟩
                          refine v_mid [(7, _)] (fun (x : Nat) => []) (fun x w' => BL w' w10.heap.size g ∧ Below w10.heap.size w10 w') ⟨rfl, trivial⟩ ?_ ?_
                          · refine v_region ?_
                            refine vl_val (os_move rfl) ?_
                            refine vl_some (ot_litO [1048577] Try.underlying40 Try.sizeOf3 Try.zeroValue3 rfl rfl rfl rfl (by decide)) ?_
                            rintro v12 w12 ⟨gL, rfl, o12, b12⟩
                            have hL2 := hL.keep b12
                            obtain ⟨u, hu, hfr⟩ := hL2.cell (k := 10) (i := 4) (by omega) (by omega)
                            refine vl_val (os_ixs Try.underlying60 Try.sizeOf44 rfl rfl (i := 10) (by omega) (by omega)) ?_
                            refine vl_val (os_fa (o := 4) (k := 0) (by kernel_rfl) rfl) ?_
                            refine vl_unit (ou_store Try.sizeOf40 rfl rfl rfl (hu) (hfr)) ?_
                            refine vl_nil ?_
                            exact ⟨0, ⟨rfl, trivial⟩, trivial, ⟨hL2.setL (k := 10) (i := 4) (by omega) (by omega) (Rd.ownK o12).1 (Rd.ownK o12).2 (by omega) (fun z hz => small_I (by simp at hz; omega)) (fun b o e => by cases e; show gL ≠ g; have h1 : w11.heap.size ≤ gL := (World.ownsRow.lt o12 _ rfl).1; have h2 := hL.low.2; omega), below_set (b11.trans (b12.mono b11.size)) hgB _ _⟩⟩
                          · rintro x w11 ⟨hL, b11⟩
                            refine v_mid [(7, _)] (fun (x : Nat) => []) (fun x w' => BL w' w10.heap.size g ∧ Below w10.heap.size w10 w') ⟨rfl, trivial⟩ ?_ ?_
                            · refine v_region ?_
                              refine vl_val (os_move rfl) ?_
                              refine vl_some (ot_litO [-1] Try.underlying40 Try.sizeOf3 Try.zeroValue3 rfl rfl rfl rfl (by decide)) ?_
                              rintro v12 w12 ⟨gL, rfl, o12, b12⟩
                              have hL2 := hL.keep b12
                              obtain ⟨u, hu, hfr⟩ := hL2.cell (k := 11) (i := 4) (by omega) (by omega)
                              refine vl_val (os_ixs Try.underlying60 Try.sizeOf44 rfl rfl (i := 11) (by omega) (by omega)) ?_
                              refine vl_val (os_fa (o := 4) (k := 0) (by kernel_rfl) rfl) ?_
                              refine vl_unit (ou_store Try.sizeOf40 rfl rfl rfl (hu) (hfr)) ?_
                              refine vl_nil ?_
                              exact ⟨0, ⟨rfl, trivial⟩, trivial, ⟨hL2.setL (k := 11) (i := 4) (by omega) (by omega) (Rd.ownK o12).1 (Rd.ownK o12).2 (by omega) (fun z hz => small_I (by simp at hz; omega)) (fun b o e => by cases e; show gL ≠ g; have h1 : w11.heap.size ≤ gL := (World.ownsRow.lt o12 _ rfl).1; have h2 := hL.low.2; omega), below_set (b11.trans (b12.mono b11.size)) hgB _ _⟩⟩
                            · rintro x w11 ⟨hL, b11⟩
                              refine v_mid [(7, _)] (fun (x : Nat) => []) (fun x w' => BL w' w10.heap.size g ∧ Below w10.heap.size w10 w') ⟨rfl, trivial⟩ ?_ ?_
                              · refine v_region ?_
                                refine vl_val (os_move rfl) ?_
                                refine vl_some (ot_litO [9, 9, 9, 10] Try.underlying40 Try.sizeOf3 Try.zeroValue3 rfl rfl rfl rfl (by decide)) ?_
                                rintro v12 w12 ⟨gL, rfl, o12, b12⟩
                                have hL2 := hL.keep b12
                                obtain ⟨u, hu, hfr⟩ := hL2.cell (k := 12) (i := 5) (by omega) (by omega)
                                refine vl_val (os_ixs Try.underlying60 Try.sizeOf44 rfl rfl (i := 12) (by omega) (by omega)) ?_
                                refine vl_val (os_fa (o := 5) (k := 0) (by kernel_rfl) rfl) ?_
                                refine vl_unit (ou_store Try.sizeOf40 rfl rfl rfl (hu) (hfr)) ?_
                                refine vl_nil ?_
                                exact ⟨0, ⟨rfl, trivial⟩, trivial, ⟨hL2.setL (k := 12) (i := 5) (by omega) (by omega) (Rd.ownK o12).1 (Rd.ownK o12).2 (by omega) (fun z hz => small_I (by simp at hz; omega)) (fun b o e => by cases e; show gL ≠ g; have h1 : w11.heap.size ≤ gL := (World.ownsRow.lt o12 _ rfl).1; have h2 := hL.low.2; omega), below_set (b11.trans (b12.mono b11.size)) hgB _ _⟩⟩
                              · rintro x w11 ⟨hL, b11⟩
                                obtain ⟨u, hu, hfr⟩ := hL.cell (k := 13) (i := 0) (by omega) (by omega)
                                refine v_mid [(7, _)] (fun (x : Nat) => []) (fun x w' => BL w' w10.heap.size g ∧ Below w10.heap.size w10 w') ⟨rfl, trivial⟩ ?_ ?_
                                · refine v_region ?_
                                  refine vl_val (os_move rfl) ?_
                                  refine vl_val (os_ixs Try.underlying60 Try.sizeOf44 rfl rfl (i := 13) (by omega) (by omega)) ?_
                                  refine vl_val (os_fa (o := 0) (k := 2) (by kernel_rfl) rfl) ?_
                                  refine vl_val (os_fa (o := 0) (k := 0) (by kernel_rfl) rfl) ?_
                                  refine vl_unit (ou_store Try.sizeOf3 rfl rfl rfl (hu) (hfr)) ?_
                                  refine vl_nil ?_
                                  exact ⟨0, ⟨rfl, trivial⟩, trivial, ⟨hL.setN (k := 13) (i := 0) (by omega) (by omega) (small_I (by omega)), below_set b11 hgB _ _⟩⟩
                                · rintro x w11 ⟨hL, b11⟩
                                  refine v_seq ?_
                                  refine v_seq ?_
                                  refine v_region ?_
                                  refine vl_val (os_assign rfl) ?_
                                  refine vl_nil ?_
                                  refine v_block ?_
                                  refine v_loop [(7, _)] (fun (i : Nat) => [(9, .int .i64 i)]) (fun i w' => i ≤ 14 ∧ Below w11.heap.size w11 w') (fun i => 14 - i) (0) ⟨rfl, trivial⟩ ⟨rfl, trivial⟩ (⟨by omega, Below.refl _ _⟩) ?_
                                  rintro i w12 ⟨hi, b12⟩
                                  refine v_seq ?_
                                  refine v_seq ?_
                                  refine v_region ?_
                                  refine vl_val (os_move rfl) ?_
                                  refine vl_val (os_move rfl) ?_
                                  refine vl_val (os_len Try.underlying60 rfl) ?_
                                  refine vl_val (os_lss rfl rfl) ?_
                                  refine vl_nil ?_
                                  refine v_cond_d rfl (fun hlt3 => ?_) (fun hlt3 => ?_)
                                  · obtain ⟨d', q', hok, hrc⟩ := (hL.keep b12).at_ (k := i) (by omega)
                                    refine v_skip ?_
                                    refine v_seq ?_
                                    refine v_block ?_
                                    refine v_seq ?_
                                    refine v_region ?_
                                    refine vl_val (os_move rfl) ?_
                                    refine vl_val (os_move rfl) ?_
                                    refine vl_val (os_ixs Try.underlying60 Try.sizeOf44 rfl rfl (i := i) (by omega) (by omega)) ?_
                                    refine vl_val (os_loadP (cs := d'.cells) Try.underlying44 rfl (by kernel_rfl) rfl hrc) ?_
                                    refine vl_call (law13_PlanBest d' q' w12 hok) rfl ?_
                                    rintro v13 w13 ⟨rfl, b13⟩
                                    refine vl_val (os_not rfl) ?_
                                    refine vl_nil ?_
                                    refine v_cond_f rfl ?_
                                    refine v_skip ?_
                                    refine v_region ?_
                                    refine vl_val (os_move rfl) ?_
                                    refine vl_val (os_addi rfl rfl (by omega)) ?_
                                    refine vl_val (os_assign rfl) ?_
                                    refine vl_nil ?_
                                    exact ⟨i + 1, ⟨rfl, trivial⟩, ⟨rfl, trivial⟩, ⟨by omega, b12.trans (b13.mono b12.size)⟩, by dsimp only; omega⟩
                                  · refine v_exit ?_
                                    refine v_seq ?_
                                    refine v_region ?_
                                    refine vl_call (law13_awake w12) rfl ?_
                                    rintro v13 w13 ⟨rfl, b13⟩
                                    refine vl_val (os_assign rfl) ?_
                                    refine vl_nil ?_
                                    refine v_ret ?_
                                    exact post_ret rfl rfl (⟨rfl, b10w.trans ((b11.trans ((b12.trans (b13.mono b12.size)).mono b11.size)).mono b10w.size)⟩)
end Go.Proofs.Ytpojijnjdlnokaa
