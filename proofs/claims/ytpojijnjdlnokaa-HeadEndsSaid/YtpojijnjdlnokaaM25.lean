/- Texts joined: HdQ. -/
import Derived.Test.YtpojijnjdlnokaaM24
/- Layer 14: the walk of HeadPuts. -/
namespace Go.Proofs.Ytpojijnjdlnokaa
open Go.RowKit
set_option linter.unusedVariables false

section
variable {P : Program} {n : Cx} {fr : Fr} {w : World} {ty T : TypeId}
theorem ot_allocB {zc : Array Value} {cs : List Value} (hz : ∀ w, (zeroValue T).run P w = .ok (.agg zc) w) (he : zc = cs.toArray) : OT P n (.alloc T) ty fr w fun v w' => ∃ p, v = .pointer (some ⟨p, 0, none⟩) ∧ Bk w' p cs T ∧ w.heap.size ≤ p ∧ Below w.heap.size w w' :=
  (os_allocB hz he).ot ⟨w.heap.size, rfl, bk_new w cs T, Nat.le_refl _, (Below.refl _ _).alloc (Nat.le_refl _) _⟩
end
theorem Own.kbQ {w w' : World} {B : Nat} {t : TypeId} {v : Value} {cs : List Value} {S : List Nat} (h : Own w B t v cs) (hb : Kb S w w') (hS : ∀ g, v.ownBlock = some g → g ∉ S) : Own w' B t v cs := by
  refine ⟨h.1, ?_⟩
  rcases h.2 with hn | ⟨g', cap, cur, rfl, hB0, hg, rest⟩
  · exact .inl hn
  · exact .inr ⟨g', cap, cur, rfl, hB0, by rw [hb.block g' (Array.getElem?_eq_some_iff.1 hg).1 (hS g' rfl)]; exact hg, rest⟩
theorem Lent.kbQ {w w' : World} {B : Nat} {t : TypeId} {k : IntKind} {f : Int → Int → Int} {v : Value} {zs : List Int} {S : List Nat} (h : Lent w B t k f v zs) (hb : Kb S w w') (hS : ∀ g, v.ownBlock = some g → g ∉ S) : Lent w' B t k f v zs := by
  obtain ⟨g, C, rfl, hc, ho⟩ := h
  exact ⟨g, C, rfl, hc, Own.kbQ ho hb hS⟩
theorem Lent.monoQ {w : World} {B B' : Nat} {t : TypeId} {k : IntKind} {f : Int → Int → Int} {v : Value} {zs : List Int} (h : Lent w B t k f v zs) (hB : B' ≤ B) : Lent w B' t k f v zs := by
  obtain ⟨g, C, rfl, hc, ho⟩ := h
  exact ⟨g, C, rfl, hc, Own.mono ho hB⟩
theorem Own.type_ne {w : World} {B : Nat} {t t' : TypeId} {g n c M : Nat} {cs ds : List Value} (h : Own w B t (.slice (some ⟨g, 0, none⟩) n c) cs) (hM : Bk w M ds t') (ht : t ≠ t') : g ≠ M := by
  rintro rfl
  rcases h.2 with ⟨h1, _⟩ | ⟨g', cap, cur, h1, _, hg, _⟩
  · cases h1
  · simp only [Value.slice.injEq, Option.some.injEq, Addr.mk.injEq, and_true] at h1
    obtain ⟨rfl, _⟩ := h1
    unfold Bk at hM
    rw [hg] at hM
    injection hM with hM
    injection hM with _ hM
    exact ht hM
theorem Lent.type_ne {w : World} {B : Nat} {t t' : TypeId} {k : IntKind} {f : Int → Int → Int} {g n c M : Nat} {zs : List Int} {ds : List Value} (h : Lent w B t k f (.slice (some ⟨g, 0, none⟩) n c) zs) (hM : Bk w M ds t') (ht : t ≠ t') : g ≠ M := by
  obtain ⟨g', C, e, hc, ho⟩ := h
  cases e
  exact Own.type_ne ho hM ht
theorem LentW.type_ne {w : World} {B : Nat} {t t' : TypeId} {g n c M : Nat} {ps : List (Int × Int)} {ds : List Value} (h : LentW w B t (.slice (some ⟨g, 0, none⟩) n c) ps) (hM : Bk w M ds t') (ht : t ≠ t') : g ≠ M := by
  obtain ⟨g', C, e, hc, ho⟩ := h
  cases e
  exact OwnP.type_ne ho hM ht
/-- what is lent, behind the first statement -/
structure HpS (w w' : World) (d e : HeadV) (zs : List Int) (p7 p8 g1 C1 g2 C2 g3 C3 : Nat) : Prop where
  m7 : Bk w' p7 (lentH d g1 C1).cells 65
  m8 : Bk w' p8 (lentH e g2 C2).cells 65
  x1 : LentW w' w.heap.size 62 (.slice (some ⟨g1, 0, none⟩) d.q.rows.length C1) d.q.rows
  x2 : LentW w' w.heap.size 62 (.slice (some ⟨g2, 0, none⟩) e.q.rows.length C2) e.q.rows
  o1 : HeadOk w' (lentH d g1 C1)
  o2 : HeadOk w' (lentH e g2 C2)
  l3 : Lent w' w.heap.size 5 .u8 markB (.slice (some ⟨g3, 0, none⟩) zs.length C3) zs
  b : Below w.heap.size w w'
theorem HpS.of {w W : World} {d e : HeadV} {zs : List Int} {p7 p8 g1 C1 g2 C2 g3 C3 : Nat} {z : List Value} (h7 : Bk W p7 z 65) (h8 : Bk W p8 z 65) (hne : p7 ≠ p8) (l7 : w.heap.size ≤ p7) (l8 : w.heap.size ≤ p8)
    (x1 : LentW W w.heap.size 62 (.slice (some ⟨g1, 0, none⟩) d.q.rows.length C1) d.q.rows) (x2 : LentW W w.heap.size 62 (.slice (some ⟨g2, 0, none⟩) e.q.rows.length C2) e.q.rows)
    (o1 : HeadOk W (lentH d g1 C1)) (o2 : HeadOk W (lentH e g2 C2)) (l3 : Lent W w.heap.size 5 .u8 markB (.slice (some ⟨g3, 0, none⟩) zs.length C3) zs) (b : Below w.heap.size w W) :
    HpS w ((W.setRow p7 (lentH d g1 C1).cells.toArray).setRow p8 (lentH e g2 C2).cells.toArray) d e zs p7 p8 g1 C1 g2 C2 g3 C3 := by
  have k : Kb [p7, p8] W ((W.setRow p7 (lentH d g1 C1).cells.toArray).setRow p8 (lentH e g2 C2).cells.toArray) := (Kb.setRow (S := [p7, p8]) (by simp) _).trans (Kb.setRow (S := [p7, p8]) (by simp) _) (fun k hk => .inl hk)
  have n17 := x1.type_ne h7 (by decide)
  have n18 := x1.type_ne h8 (by decide)
  have n27 := x2.type_ne h7 (by decide)
  have n28 := x2.type_ne h8 (by decide)
  have n37 := l3.type_ne h7 (by decide)
  have n38 := l3.type_ne h8 (by decide)
  have y1 := x1.kb k (fun k hk => by cases hk; simp; omega)
  have y2 := x2.kb k (fun k hk => by cases hk; simp; omega)
  have y3 := l3.kbQ k (fun k hk => by cases hk; simp; omega)
  refine ⟨(setRow_bk h7 _).rowOther (fun e => hne e.symm) _, setRow_bk (h8.rowOther hne _) _, y1, y2, ⟨?_, o1.2⟩, ⟨?_, o2.2⟩, y3, below_setRow (below_setRow b l7 _) l8 _⟩
  · obtain ⟨g', C', e', _, _, _, hr'⟩ := y1.form; cases e'; exact hr'
  · obtain ⟨g', C', e', _, _, _, hr'⟩ := y2.form; cases e'; exact hr'
theorem hpV_len (q : HeadP) (zs : List Int) : (hpV q zs).length ≤ 18 + 3 * q.rows.length + zs.length := by
  unfold hpV
  split
  · rw [sealL_len, List.length_append, headB_len]; omega
  · simp
set_option maxHeartbeats 4000000 in
theorem law14_HeadPuts (d e : HeadV) (A : Option Addr) (n c : Nat) (zs : List Int) (w : World) (hd : HeadOk w d) (he : HeadOk w e) (ha : Rd w .u8 A zs) (hn : n = zs.length) (hc : n ≤ c) (hz : AllB zs) (hm9 : n ≤ 200000000000000) : Gives Try.prog 40 #[.agg d.cells.toArray, .agg e.cells.toArray, .slice A n c] w fun v w' => v = .bool true ∧ Below w.heap.size w w' := by
  have hA0 := bk_new w d.cells 65
  have hb0 : Below w.heap.size w (w.alloc (.cells d.cells.toArray 65)) := (Below.refl _ w).alloc (Nat.le_refl _) _
  have hA : Bk ((w.alloc (.cells (Value.agg d.cells.toArray).cells 65)).alloc (.cells (Value.agg e.cells.toArray).cells 65)) w.heap.size d.cells 65 := hA0.alloc (.cells e.cells.toArray 65)
  have hB : Bk ((w.alloc (.cells (Value.agg d.cells.toArray).cells 65)).alloc (.cells (Value.agg e.cells.toArray).cells 65)) (w.alloc (.cells (Value.agg d.cells.toArray).cells 65)).heap.size e.cells 65 := bk_new (w.alloc (.cells d.cells.toArray 65)) e.cells 65
  have hb1 : Below w.heap.size w ((w.alloc (.cells (Value.agg d.cells.toArray).cells 65)).alloc (.cells (Value.agg e.cells.toArray).cells 65)) := hb0.alloc hb0.size (.cells e.cells.toArray 65)
  have l1 := hd.2.1
  have l2 := he.2.1
  have l3 := hd.2.2.1
  have l4 := he.2.2.1
  refine gives_enter Try.call40 Try.func40 rfl rfl rfl (by kernel_rfl) ?_
  refine v_seq ?_
  refine v_region ?_
  refine vl_val (os_box rfl) ?_
  refine vl_val (os_box rfl) ?_
  refine vl_val (os_assign rfl) ?_
  refine vl_nil ?_
  refine v_seq ?_
  refine v_seq ?_
  refine v_region ?_
  refine vl_val (os_fa (o := 5) (k := 0) (by kernel_rfl) rfl) ?_
  refine vl_val (os_load Try.isAgg63 rfl (hA.cell (i := 5) rfl)) ?_
  refine vl_val (os_len Try.underlying63 rfl) ?_
  refine vl_val (os_fa (o := 5) (k := 0) (by kernel_rfl) rfl) ?_
  refine vl_val (os_load Try.isAgg63 rfl (hB.cell (i := 5) rfl)) ?_
  refine vl_val (os_len Try.underlying63 rfl) ?_
  refine vl_val (os_addi rfl rfl (by omega)) ?_
  refine vl_val (os_move rfl) ?_
  refine vl_val (os_len Try.underlying22 rfl) ?_
  refine vl_val (os_addi rfl rfl (by omega)) ?_
  refine vl_val (os_gtr rfl rfl) ?_
  refine vl_nil ?_
  refine v_cond_d rfl (fun hbig => ?_) (fun hbig => ?_)
  · refine v_seq ?_
    refine v_region ?_
    refine vl_call (law14_awake _) rfl ?_
    rintro v1 w1 ⟨rfl, b1⟩
    refine vl_val (os_assign rfl) ?_
    refine vl_nil ?_
    refine v_ret ?_
    exact post_ret rfl rfl (⟨rfl, hb1.trans (b1.mono hb1.size)⟩)
  · have hgl := hB.lt
    generalize hW : (w.alloc (.cells (Value.agg d.cells.toArray).cells 65)).alloc (.cells (Value.agg e.cells.toArray).cells 65) = w4 at *
    have hd4 := hd.keep hb1
    have he4 := he.keep hb1
    have ha4 := ha.keep hb1
    have b0 : Below w4.heap.size w4 { w4 with drawn := w4.drawn + 1 } := (Below.refl _ _).drew
    refine v_skip ?_
    refine v_mid3 [(2, _), (3, _), (4, _)] (fun (p7 : Nat) (p8 : Nat) (vi : Value) => [(7, .pointer (some ⟨p7, 0, none⟩)), (8, .pointer (some ⟨p8, 0, none⟩)), (9, vi)]) (fun p7 p8 vi w' => ∃ g1 C1 g2 C2 g3 C3, vi = .slice (some ⟨g3, 0, none⟩) zs.length C3 ∧ HpS w4 w' d e zs p7 p8 g1 C1 g2 C2 g3 C3) ⟨rfl, rfl, rfl, trivial⟩ ?_ ?_
    · refine v_region_h (fun w' => Below w4.heap.size w4 w') mixed (b0) ?_
      refine vh_pure 0 rfl (by kernel_rfl) (by kernel_rfl) (by kernel_rfl) (fun w hw => (os_loadB Try.underlying65 rfl (by kernel_rfl) rfl (hA.keep hw))) ?_
      refine vh_pure 2 rfl (by kernel_rfl) (by kernel_rfl) (by kernel_rfl) (fun w hw => (os_loadB Try.underlying65 rfl (by kernel_rfl) rfl (hB.keep hw))) ?_
      refine vh_pure 4 rfl (by kernel_rfl) (by kernel_rfl) (by kernel_rfl) (fun w hw => (os_move rfl)) ?_
      refine vh_three 1 6 7 (by kernel_rfl) ?_ ?_ ?_
      · refine vhn_hold fun hcur => ?_
        refine vhn_call rfl (kit_LentHead d _ (hd4.keep hcur) (by omega)) rfl (fun hw v w' h => by obtain ⟨g, C, _, _, _, b⟩ := h; exact hw.trans (b.mono hw.size)) ?_
        rintro v5 w5 ⟨g1, C1, rfl, hx, hxo, b⟩
        replace hx := hx.mono hcur.size
        try replace hp7 := hp7.keep b
        try replace hp8 := hp8.keep b
        refine vh_three 3 6 7 (by kernel_rfl) ?_ ?_ ?_
        · refine vhn_hold fun hcur => ?_
          refine vhn_call rfl (kit_LentHead e _ (he4.keep hcur) (by omega)) rfl (fun hw v w' h => by obtain ⟨g, C, _, _, _, b⟩ := h; exact hw.trans (b.mono hw.size)) ?_
          rintro v6 w6 ⟨g2, C2, rfl, hy, hyo, b⟩
          replace hy := hy.mono hcur.size
          replace hx := hx.keep b
          replace hxo := hxo.keep b
          try replace hp7 := hp7.keep b
          try replace hp8 := hp8.keep b
          refine vh_three 5 6 7 (by kernel_rfl) ?_ ?_ ?_
          · refine vhn_hold fun hcur => ?_
            refine vhn_call rfl (kit_LentBytes A n c zs _ (ha4.keep hcur) hn (by omega)) rfl (fun hw v w' h => hw.trans (h.2.mono hw.size)) ?_
            rintro v7 w7 ⟨hi, b⟩
            replace hi := hi.monoQ hcur.size
            obtain ⟨g3, C3, rfl, -, -, -, -, -⟩ := hi.form
            replace hx := hx.keep b
            replace hxo := hxo.keep b
            replace hy := hy.keep b
            replace hyo := hyo.keep b
            try replace hp7 := hp7.keep b
            try replace hp8 := hp8.keep b
            refine vh_two 6 7 (by kernel_rfl) ?_ ?_
            · refine vhn_hold fun hcur => ?_
              refine vhn_some rfl (ot_allocB Try.zeroValue65 (cs := zH) rfl) (fun hw v w' h => by obtain ⟨p, _, _, _, b⟩ := h; exact hw.trans (b.mono hw.size)) ?_
              rintro v8 w8 ⟨p7, rfl, hp7, hs7, b⟩
              have l7 := Nat.le_trans hcur.size hs7
              try have hne : p7 ≠ p8 := by have := hp8.lt; omega
              try replace hx := hx.keep b
              try replace hxo := hxo.keep b
              try replace hy := hy.keep b
              try replace hyo := hyo.keep b
              try replace hi := hi.keep b
              try replace hp8 := hp8.keep b
              refine vh_one 7 (by kernel_rfl) ?_
              refine vhn_hold fun hcur => ?_
              refine vhn_some rfl (ot_allocB Try.zeroValue65 (cs := zH) rfl) (fun hw v w' h => by obtain ⟨p, _, _, _, b⟩ := h; exact hw.trans (b.mono hw.size)) ?_
              rintro v9 w9 ⟨p8, rfl, hp8, hs8, b⟩
              have l8 := Nat.le_trans hcur.size hs8
              try have hne : p7 ≠ p8 := by have := hp7.lt; omega
              try replace hx := hx.keep b
              try replace hxo := hxo.keep b
              try replace hy := hy.keep b
              try replace hyo := hyo.keep b
              try replace hi := hi.keep b
              try replace hp7 := hp7.keep b
              refine vh_one 8 (by kernel_rfl) ?_
              refine vhn_hold fun hcur => ?_
              refine vhn_unit rfl (ou_storeB (by kernel_rfl) rfl rfl hp7 rfl rfl) (fun hw => below_setRow hw l7 _) ?_
              have bE := hcur
              refine vh_one 9 (by kernel_rfl) ?_
              refine vhn_unit rfl (ou_storeB (by kernel_rfl) rfl rfl (hp8.rowOther hne _) rfl rfl) (fun hw => below_setRow hw l8 _) ?_
              refine vh_pure 10 rfl (by kernel_rfl) (by kernel_rfl) (by kernel_rfl) (fun w hw => (os_assign rfl)) ?_
              refine vh_done (by kernel_rfl) (fun hS => ?_)
              exact ⟨⟨p7, p8, _⟩, ⟨rfl, rfl, rfl, trivial⟩, ⟨rfl, rfl, rfl, trivial⟩, ⟨g1, C1, g2, C2, g3, C3, rfl, HpS.of hp7 hp8 hne l7 l8 hx hy hxo hyo hi bE⟩⟩
            · refine vhn_hold fun hcur => ?_
              refine vhn_some rfl (ot_allocB Try.zeroValue65 (cs := zH) rfl) (fun hw v w' h => by obtain ⟨p, _, _, _, b⟩ := h; exact hw.trans (b.mono hw.size)) ?_
              rintro v9 w9 ⟨p8, rfl, hp8, hs8, b⟩
              have l8 := Nat.le_trans hcur.size hs8
              try have hne : p7 ≠ p8 := by have := hp7.lt; omega
              try replace hx := hx.keep b
              try replace hxo := hxo.keep b
              try replace hy := hy.keep b
              try replace hyo := hyo.keep b
              try replace hi := hi.keep b
              try replace hp7 := hp7.keep b
              refine vh_one 6 (by kernel_rfl) ?_
              refine vhn_hold fun hcur => ?_
              refine vhn_some rfl (ot_allocB Try.zeroValue65 (cs := zH) rfl) (fun hw v w' h => by obtain ⟨p, _, _, _, b⟩ := h; exact hw.trans (b.mono hw.size)) ?_
              rintro v8 w8 ⟨p7, rfl, hp7, hs7, b⟩
              have l7 := Nat.le_trans hcur.size hs7
              try have hne : p7 ≠ p8 := by have := hp8.lt; omega
              try replace hx := hx.keep b
              try replace hxo := hxo.keep b
              try replace hy := hy.keep b
              try replace hyo := hyo.keep b
              try replace hi := hi.keep b
              try replace hp8 := hp8.keep b
              refine vh_one 8 (by kernel_rfl) ?_
              refine vhn_hold fun hcur => ?_
              refine vhn_unit rfl (ou_storeB (by kernel_rfl) rfl rfl hp7 rfl rfl) (fun hw => below_setRow hw l7 _) ?_
              have bE := hcur
              refine vh_one 9 (by kernel_rfl) ?_
              refine vhn_unit rfl (ou_storeB (by kernel_rfl) rfl rfl (hp8.rowOther hne _) rfl rfl) (fun hw => below_setRow hw l8 _) ?_
              refine vh_pure 10 rfl (by kernel_rfl) (by kernel_rfl) (by kernel_rfl) (fun w hw => (os_assign rfl)) ?_
              refine vh_done (by kernel_rfl) (fun hS => ?_)
              exact ⟨⟨p7, p8, _⟩, ⟨rfl, rfl, rfl, trivial⟩, ⟨rfl, rfl, rfl, trivial⟩, ⟨g1, C1, g2, C2, g3, C3, rfl, HpS.of hp7 hp8 hne l7 l8 hx hy hxo hyo hi bE⟩⟩
          · refine vhn_hold fun hcur => ?_
            refine vhn_some rfl (ot_allocB Try.zeroValue65 (cs := zH) rfl) (fun hw v w' h => by obtain ⟨p, _, _, _, b⟩ := h; exact hw.trans (b.mono hw.size)) ?_
            rintro v8 w8 ⟨p7, rfl, hp7, hs7, b⟩
            have l7 := Nat.le_trans hcur.size hs7
            try have hne : p7 ≠ p8 := by have := hp8.lt; omega
            try replace hx := hx.keep b
            try replace hxo := hxo.keep b
            try replace hy := hy.keep b
            try replace hyo := hyo.keep b
            try replace hi := hi.keep b
            try replace hp8 := hp8.keep b
            refine vh_two 5 7 (by kernel_rfl) ?_ ?_
            · refine vhn_hold fun hcur => ?_
              refine vhn_call rfl (kit_LentBytes A n c zs _ (ha4.keep hcur) hn (by omega)) rfl (fun hw v w' h => hw.trans (h.2.mono hw.size)) ?_
              rintro v7 w7 ⟨hi, b⟩
              replace hi := hi.monoQ hcur.size
              obtain ⟨g3, C3, rfl, -, -, -, -, -⟩ := hi.form
              replace hx := hx.keep b
              replace hxo := hxo.keep b
              replace hy := hy.keep b
              replace hyo := hyo.keep b
              try replace hp7 := hp7.keep b
              try replace hp8 := hp8.keep b
              refine vh_one 7 (by kernel_rfl) ?_
              refine vhn_hold fun hcur => ?_
              refine vhn_some rfl (ot_allocB Try.zeroValue65 (cs := zH) rfl) (fun hw v w' h => by obtain ⟨p, _, _, _, b⟩ := h; exact hw.trans (b.mono hw.size)) ?_
              rintro v9 w9 ⟨p8, rfl, hp8, hs8, b⟩
              have l8 := Nat.le_trans hcur.size hs8
              try have hne : p7 ≠ p8 := by have := hp7.lt; omega
              try replace hx := hx.keep b
              try replace hxo := hxo.keep b
              try replace hy := hy.keep b
              try replace hyo := hyo.keep b
              try replace hi := hi.keep b
              try replace hp7 := hp7.keep b
              refine vh_one 8 (by kernel_rfl) ?_
              refine vhn_hold fun hcur => ?_
              refine vhn_unit rfl (ou_storeB (by kernel_rfl) rfl rfl hp7 rfl rfl) (fun hw => below_setRow hw l7 _) ?_
              have bE := hcur
              refine vh_one 9 (by kernel_rfl) ?_
              refine vhn_unit rfl (ou_storeB (by kernel_rfl) rfl rfl (hp8.rowOther hne _) rfl rfl) (fun hw => below_setRow hw l8 _) ?_
              refine vh_pure 10 rfl (by kernel_rfl) (by kernel_rfl) (by kernel_rfl) (fun w hw => (os_assign rfl)) ?_
              refine vh_done (by kernel_rfl) (fun hS => ?_)
              exact ⟨⟨p7, p8, _⟩, ⟨rfl, rfl, rfl, trivial⟩, ⟨rfl, rfl, rfl, trivial⟩, ⟨g1, C1, g2, C2, g3, C3, rfl, HpS.of hp7 hp8 hne l7 l8 hx hy hxo hyo hi bE⟩⟩
            · refine vhn_hold fun hcur => ?_
              refine vhn_some rfl (ot_allocB Try.zeroValue65 (cs := zH) rfl) (fun hw v w' h => by obtain ⟨p, _, _, _, b⟩ := h; exact hw.trans (b.mono hw.size)) ?_
              rintro v9 w9 ⟨p8, rfl, hp8, hs8, b⟩
              have l8 := Nat.le_trans hcur.size hs8
              try have hne : p7 ≠ p8 := by have := hp7.lt; omega
              try replace hx := hx.keep b
              try replace hxo := hxo.keep b
              try replace hy := hy.keep b
              try replace hyo := hyo.keep b
              try replace hi := hi.keep b
              try replace hp7 := hp7.keep b
              refine vh_one 5 (by kernel_rfl) ?_
              refine vhn_hold fun hcur => ?_
              refine vhn_call rfl (kit_LentBytes A n c zs _ (ha4.keep hcur) hn (by omega)) rfl (fun hw v w' h => hw.trans (h.2.mono hw.size)) ?_
              rintro v7 w7 ⟨hi, b⟩
              replace hi := hi.monoQ hcur.size
              obtain ⟨g3, C3, rfl, -, -, -, -, -⟩ := hi.form
              replace hx := hx.keep b
              replace hxo := hxo.keep b
              replace hy := hy.keep b
              replace hyo := hyo.keep b
              try replace hp7 := hp7.keep b
              try replace hp8 := hp8.keep b
              refine vh_one 8 (by kernel_rfl) ?_
              refine vhn_hold fun hcur => ?_
              refine vhn_unit rfl (ou_storeB (by kernel_rfl) rfl rfl hp7 rfl rfl) (fun hw => below_setRow hw l7 _) ?_
              have bE := hcur
              refine vh_one 9 (by kernel_rfl) ?_
              refine vhn_unit rfl (ou_storeB (by kernel_rfl) rfl rfl (hp8.rowOther hne _) rfl rfl) (fun hw => below_setRow hw l8 _) ?_
              refine vh_pure 10 rfl (by kernel_rfl) (by kernel_rfl) (by kernel_rfl) (fun w hw => (os_assign rfl)) ?_
              refine vh_done (by kernel_rfl) (fun hS => ?_)
              exact ⟨⟨p7, p8, _⟩, ⟨rfl, rfl, rfl, trivial⟩, ⟨rfl, rfl, rfl, trivial⟩, ⟨g1, C1, g2, C2, g3, C3, rfl, HpS.of hp7 hp8 hne l7 l8 hx hy hxo hyo hi bE⟩⟩
          · refine vhn_hold fun hcur => ?_
            refine vhn_some rfl (ot_allocB Try.zeroValue65 (cs := zH) rfl) (fun hw v w' h => by obtain ⟨p, _, _, _, b⟩ := h; exact hw.trans (b.mono hw.size)) ?_
            rintro v9 w9 ⟨p8, rfl, hp8, hs8, b⟩
            have l8 := Nat.le_trans hcur.size hs8
            try have hne : p7 ≠ p8 := by have := hp7.lt; omega
            try replace hx := hx.keep b
            try replace hxo := hxo.keep b
            try replace hy := hy.keep b
            try replace hyo := hyo.keep b
            try replace hi := hi.keep b
            try replace hp7 := hp7.keep b
            refine vh_two 5 6 (by kernel_rfl) ?_ ?_
            · refine vhn_hold fun hcur => ?_
              refine vhn_call rfl (kit_LentBytes A n c zs _ (ha4.keep hcur) hn (by omega)) rfl (fun hw v w' h => hw.trans (h.2.mono hw.size)) ?_
              rintro v7 w7 ⟨hi, b⟩
              replace hi := hi.monoQ hcur.size
              obtain ⟨g3, C3, rfl, -, -, -, -, -⟩ := hi.form
              replace hx := hx.keep b
              replace hxo := hxo.keep b
              replace hy := hy.keep b
              replace hyo := hyo.keep b
              try replace hp7 := hp7.keep b
              try replace hp8 := hp8.keep b
              refine vh_one 6 (by kernel_rfl) ?_
              refine vhn_hold fun hcur => ?_
              refine vhn_some rfl (ot_allocB Try.zeroValue65 (cs := zH) rfl) (fun hw v w' h => by obtain ⟨p, _, _, _, b⟩ := h; exact hw.trans (b.mono hw.size)) ?_
              rintro v8 w8 ⟨p7, rfl, hp7, hs7, b⟩
              have l7 := Nat.le_trans hcur.size hs7
              try have hne : p7 ≠ p8 := by have := hp8.lt; omega
              try replace hx := hx.keep b
              try replace hxo := hxo.keep b
              try replace hy := hy.keep b
              try replace hyo := hyo.keep b
              try replace hi := hi.keep b
              try replace hp8 := hp8.keep b
              refine vh_one 8 (by kernel_rfl) ?_
              refine vhn_hold fun hcur => ?_
              refine vhn_unit rfl (ou_storeB (by kernel_rfl) rfl rfl hp7 rfl rfl) (fun hw => below_setRow hw l7 _) ?_
              have bE := hcur
              refine vh_one 9 (by kernel_rfl) ?_
              refine vhn_unit rfl (ou_storeB (by kernel_rfl) rfl rfl (hp8.rowOther hne _) rfl rfl) (fun hw => below_setRow hw l8 _) ?_
              refine vh_pure 10 rfl (by kernel_rfl) (by kernel_rfl) (by kernel_rfl) (fun w hw => (os_assign rfl)) ?_
              refine vh_done (by kernel_rfl) (fun hS => ?_)
              exact ⟨⟨p7, p8, _⟩, ⟨rfl, rfl, rfl, trivial⟩, ⟨rfl, rfl, rfl, trivial⟩, ⟨g1, C1, g2, C2, g3, C3, rfl, HpS.of hp7 hp8 hne l7 l8 hx hy hxo hyo hi bE⟩⟩
            · refine vhn_hold fun hcur => ?_
              refine vhn_some rfl (ot_allocB Try.zeroValue65 (cs := zH) rfl) (fun hw v w' h => by obtain ⟨p, _, _, _, b⟩ := h; exact hw.trans (b.mono hw.size)) ?_
              rintro v8 w8 ⟨p7, rfl, hp7, hs7, b⟩
              have l7 := Nat.le_trans hcur.size hs7
              try have hne : p7 ≠ p8 := by have := hp8.lt; omega
              try replace hx := hx.keep b
              try replace hxo := hxo.keep b
              try replace hy := hy.keep b
              try replace hyo := hyo.keep b
              try replace hi := hi.keep b
              try replace hp8 := hp8.keep b
              refine vh_one 5 (by kernel_rfl) ?_
              refine vhn_hold fun hcur => ?_
              refine vhn_call rfl (kit_LentBytes A n c zs _ (ha4.keep hcur) hn (by omega)) rfl (fun hw v w' h => hw.trans (h.2.mono hw.size)) ?_
              rintro v7 w7 ⟨hi, b⟩
              replace hi := hi.monoQ hcur.size
              obtain ⟨g3, C3, rfl, -, -, -, -, -⟩ := hi.form
              replace hx := hx.keep b
              replace hxo := hxo.keep b
              replace hy := hy.keep b
              replace hyo := hyo.keep b
              try replace hp7 := hp7.keep b
              try replace hp8 := hp8.keep b
              refine vh_one 8 (by kernel_rfl) ?_
              refine vhn_hold fun hcur => ?_
              refine vhn_unit rfl (ou_storeB (by kernel_rfl) rfl rfl hp7 rfl rfl) (fun hw => below_setRow hw l7 _) ?_
              have bE := hcur
              refine vh_one 9 (by kernel_rfl) ?_
              refine vhn_unit rfl (ou_storeB (by kernel_rfl) rfl rfl (hp8.rowOther hne _) rfl rfl) (fun hw => below_setRow hw l8 _) ?_
              refine vh_pure 10 rfl (by kernel_rfl) (by kernel_rfl) (by kernel_rfl) (fun w hw => (os_assign rfl)) ?_
              refine vh_done (by kernel_rfl) (fun hS => ?_)
              exact ⟨⟨p7, p8, _⟩, ⟨rfl, rfl, rfl, trivial⟩, ⟨rfl, rfl, rfl, trivial⟩, ⟨g1, C1, g2, C2, g3, C3, rfl, HpS.of hp7 hp8 hne l7 l8 hx hy hxo hyo hi bE⟩⟩
        · refine vhn_hold fun hcur => ?_
          refine vhn_some rfl (ot_allocB Try.zeroValue65 (cs := zH) rfl) (fun hw v w' h => by obtain ⟨p, _, _, _, b⟩ := h; exact hw.trans (b.mono hw.size)) ?_
          rintro v8 w8 ⟨p7, rfl, hp7, hs7, b⟩
          have l7 := Nat.le_trans hcur.size hs7
          try have hne : p7 ≠ p8 := by have := hp8.lt; omega
          try replace hx := hx.keep b
          try replace hxo := hxo.keep b
          try replace hy := hy.keep b
          try replace hyo := hyo.keep b
          try replace hi := hi.keep b
          try replace hp8 := hp8.keep b
          refine vh_two 3 7 (by kernel_rfl) ?_ ?_
          · refine vhn_hold fun hcur => ?_
            refine vhn_call rfl (kit_LentHead e _ (he4.keep hcur) (by omega)) rfl (fun hw v w' h => by obtain ⟨g, C, _, _, _, b⟩ := h; exact hw.trans (b.mono hw.size)) ?_
            rintro v6 w6 ⟨g2, C2, rfl, hy, hyo, b⟩
            replace hy := hy.mono hcur.size
            replace hx := hx.keep b
            replace hxo := hxo.keep b
            try replace hp7 := hp7.keep b
            try replace hp8 := hp8.keep b
            refine vh_two 5 7 (by kernel_rfl) ?_ ?_
            · refine vhn_hold fun hcur => ?_
              refine vhn_call rfl (kit_LentBytes A n c zs _ (ha4.keep hcur) hn (by omega)) rfl (fun hw v w' h => hw.trans (h.2.mono hw.size)) ?_
              rintro v7 w7 ⟨hi, b⟩
              replace hi := hi.monoQ hcur.size
              obtain ⟨g3, C3, rfl, -, -, -, -, -⟩ := hi.form
              replace hx := hx.keep b
              replace hxo := hxo.keep b
              replace hy := hy.keep b
              replace hyo := hyo.keep b
              try replace hp7 := hp7.keep b
              try replace hp8 := hp8.keep b
              refine vh_one 7 (by kernel_rfl) ?_
              refine vhn_hold fun hcur => ?_
              refine vhn_some rfl (ot_allocB Try.zeroValue65 (cs := zH) rfl) (fun hw v w' h => by obtain ⟨p, _, _, _, b⟩ := h; exact hw.trans (b.mono hw.size)) ?_
              rintro v9 w9 ⟨p8, rfl, hp8, hs8, b⟩
              have l8 := Nat.le_trans hcur.size hs8
              try have hne : p7 ≠ p8 := by have := hp7.lt; omega
              try replace hx := hx.keep b
              try replace hxo := hxo.keep b
              try replace hy := hy.keep b
              try replace hyo := hyo.keep b
              try replace hi := hi.keep b
              try replace hp7 := hp7.keep b
              refine vh_one 8 (by kernel_rfl) ?_
              refine vhn_hold fun hcur => ?_
              refine vhn_unit rfl (ou_storeB (by kernel_rfl) rfl rfl hp7 rfl rfl) (fun hw => below_setRow hw l7 _) ?_
              have bE := hcur
              refine vh_one 9 (by kernel_rfl) ?_
              refine vhn_unit rfl (ou_storeB (by kernel_rfl) rfl rfl (hp8.rowOther hne _) rfl rfl) (fun hw => below_setRow hw l8 _) ?_
              refine vh_pure 10 rfl (by kernel_rfl) (by kernel_rfl) (by kernel_rfl) (fun w hw => (os_assign rfl)) ?_
              refine vh_done (by kernel_rfl) (fun hS => ?_)
              exact ⟨⟨p7, p8, _⟩, ⟨rfl, rfl, rfl, trivial⟩, ⟨rfl, rfl, rfl, trivial⟩, ⟨g1, C1, g2, C2, g3, C3, rfl, HpS.of hp7 hp8 hne l7 l8 hx hy hxo hyo hi bE⟩⟩
            · refine vhn_hold fun hcur => ?_
              refine vhn_some rfl (ot_allocB Try.zeroValue65 (cs := zH) rfl) (fun hw v w' h => by obtain ⟨p, _, _, _, b⟩ := h; exact hw.trans (b.mono hw.size)) ?_
              rintro v9 w9 ⟨p8, rfl, hp8, hs8, b⟩
              have l8 := Nat.le_trans hcur.size hs8
              try have hne : p7 ≠ p8 := by have := hp7.lt; omega
              try replace hx := hx.keep b
              try replace hxo := hxo.keep b
              try replace hy := hy.keep b
              try replace hyo := hyo.keep b
              try replace hi := hi.keep b
              try replace hp7 := hp7.keep b
              refine vh_one 5 (by kernel_rfl) ?_
              refine vhn_hold fun hcur => ?_
              refine vhn_call rfl (kit_LentBytes A n c zs _ (ha4.keep hcur) hn (by omega)) rfl (fun hw v w' h => hw.trans (h.2.mono hw.size)) ?_
              rintro v7 w7 ⟨hi, b⟩
              replace hi := hi.monoQ hcur.size
              obtain ⟨g3, C3, rfl, -, -, -, -, -⟩ := hi.form
              replace hx := hx.keep b
              replace hxo := hxo.keep b
              replace hy := hy.keep b
              replace hyo := hyo.keep b
              try replace hp7 := hp7.keep b
              try replace hp8 := hp8.keep b
              refine vh_one 8 (by kernel_rfl) ?_
              refine vhn_hold fun hcur => ?_
              refine vhn_unit rfl (ou_storeB (by kernel_rfl) rfl rfl hp7 rfl rfl) (fun hw => below_setRow hw l7 _) ?_
              have bE := hcur
              refine vh_one 9 (by kernel_rfl) ?_
              refine vhn_unit rfl (ou_storeB (by kernel_rfl) rfl rfl (hp8.rowOther hne _) rfl rfl) (fun hw => below_setRow hw l8 _) ?_
              refine vh_pure 10 rfl (by kernel_rfl) (by kernel_rfl) (by kernel_rfl) (fun w hw => (os_assign rfl)) ?_
              refine vh_done (by kernel_rfl) (fun hS => ?_)
              exact ⟨⟨p7, p8, _⟩, ⟨rfl, rfl, rfl, trivial⟩, ⟨rfl, rfl, rfl, trivial⟩, ⟨g1, C1, g2, C2, g3, C3, rfl, HpS.of hp7 hp8 hne l7 l8 hx hy hxo hyo hi bE⟩⟩
          · refine vhn_hold fun hcur => ?_
            refine vhn_some rfl (ot_allocB Try.zeroValue65 (cs := zH) rfl) (fun hw v w' h => by obtain ⟨p, _, _, _, b⟩ := h; exact hw.trans (b.mono hw.size)) ?_
            rintro v9 w9 ⟨p8, rfl, hp8, hs8, b⟩
            have l8 := Nat.le_trans hcur.size hs8
            try have hne : p7 ≠ p8 := by have := hp7.lt; omega
            try replace hx := hx.keep b
            try replace hxo := hxo.keep b
            try replace hy := hy.keep b
            try replace hyo := hyo.keep b
            try replace hi := hi.keep b
            try replace hp7 := hp7.keep b
            refine vh_one 3 (by kernel_rfl) ?_
            refine vhn_hold fun hcur => ?_
            refine vhn_call rfl (kit_LentHead e _ (he4.keep hcur) (by omega)) rfl (fun hw v w' h => by obtain ⟨g, C, _, _, _, b⟩ := h; exact hw.trans (b.mono hw.size)) ?_
            rintro v6 w6 ⟨g2, C2, rfl, hy, hyo, b⟩
            replace hy := hy.mono hcur.size
            replace hx := hx.keep b
            replace hxo := hxo.keep b
            try replace hp7 := hp7.keep b
            try replace hp8 := hp8.keep b
            refine vh_one 5 (by kernel_rfl) ?_
            refine vhn_hold fun hcur => ?_
            refine vhn_call rfl (kit_LentBytes A n c zs _ (ha4.keep hcur) hn (by omega)) rfl (fun hw v w' h => hw.trans (h.2.mono hw.size)) ?_
            rintro v7 w7 ⟨hi, b⟩
            replace hi := hi.monoQ hcur.size
            obtain ⟨g3, C3, rfl, -, -, -, -, -⟩ := hi.form
            replace hx := hx.keep b
            replace hxo := hxo.keep b
            replace hy := hy.keep b
            replace hyo := hyo.keep b
            try replace hp7 := hp7.keep b
            try replace hp8 := hp8.keep b
            refine vh_one 8 (by kernel_rfl) ?_
            refine vhn_hold fun hcur => ?_
            refine vhn_unit rfl (ou_storeB (by kernel_rfl) rfl rfl hp7 rfl rfl) (fun hw => below_setRow hw l7 _) ?_
            have bE := hcur
            refine vh_one 9 (by kernel_rfl) ?_
            refine vhn_unit rfl (ou_storeB (by kernel_rfl) rfl rfl (hp8.rowOther hne _) rfl rfl) (fun hw => below_setRow hw l8 _) ?_
            refine vh_pure 10 rfl (by kernel_rfl) (by kernel_rfl) (by kernel_rfl) (fun w hw => (os_assign rfl)) ?_
            refine vh_done (by kernel_rfl) (fun hS => ?_)
            exact ⟨⟨p7, p8, _⟩, ⟨rfl, rfl, rfl, trivial⟩, ⟨rfl, rfl, rfl, trivial⟩, ⟨g1, C1, g2, C2, g3, C3, rfl, HpS.of hp7 hp8 hne l7 l8 hx hy hxo hyo hi bE⟩⟩
        · refine vhn_hold fun hcur => ?_
          refine vhn_some rfl (ot_allocB Try.zeroValue65 (cs := zH) rfl) (fun hw v w' h => by obtain ⟨p, _, _, _, b⟩ := h; exact hw.trans (b.mono hw.size)) ?_
          rintro v9 w9 ⟨p8, rfl, hp8, hs8, b⟩
          have l8 := Nat.le_trans hcur.size hs8
          try have hne : p7 ≠ p8 := by have := hp7.lt; omega
          try replace hx := hx.keep b
          try replace hxo := hxo.keep b
          try replace hy := hy.keep b
          try replace hyo := hyo.keep b
          try replace hi := hi.keep b
          try replace hp7 := hp7.keep b
          refine vh_two 3 6 (by kernel_rfl) ?_ ?_
          · refine vhn_hold fun hcur => ?_
            refine vhn_call rfl (kit_LentHead e _ (he4.keep hcur) (by omega)) rfl (fun hw v w' h => by obtain ⟨g, C, _, _, _, b⟩ := h; exact hw.trans (b.mono hw.size)) ?_
            rintro v6 w6 ⟨g2, C2, rfl, hy, hyo, b⟩
            replace hy := hy.mono hcur.size
            replace hx := hx.keep b
            replace hxo := hxo.keep b
            try replace hp7 := hp7.keep b
            try replace hp8 := hp8.keep b
            refine vh_two 5 6 (by kernel_rfl) ?_ ?_
            · refine vhn_hold fun hcur => ?_
              refine vhn_call rfl (kit_LentBytes A n c zs _ (ha4.keep hcur) hn (by omega)) rfl (fun hw v w' h => hw.trans (h.2.mono hw.size)) ?_
              rintro v7 w7 ⟨hi, b⟩
              replace hi := hi.monoQ hcur.size
              obtain ⟨g3, C3, rfl, -, -, -, -, -⟩ := hi.form
              replace hx := hx.keep b
              replace hxo := hxo.keep b
              replace hy := hy.keep b
              replace hyo := hyo.keep b
              try replace hp7 := hp7.keep b
              try replace hp8 := hp8.keep b
              refine vh_one 6 (by kernel_rfl) ?_
              refine vhn_hold fun hcur => ?_
              refine vhn_some rfl (ot_allocB Try.zeroValue65 (cs := zH) rfl) (fun hw v w' h => by obtain ⟨p, _, _, _, b⟩ := h; exact hw.trans (b.mono hw.size)) ?_
              rintro v8 w8 ⟨p7, rfl, hp7, hs7, b⟩
              have l7 := Nat.le_trans hcur.size hs7
              try have hne : p7 ≠ p8 := by have := hp8.lt; omega
              try replace hx := hx.keep b
              try replace hxo := hxo.keep b
              try replace hy := hy.keep b
              try replace hyo := hyo.keep b
              try replace hi := hi.keep b
              try replace hp8 := hp8.keep b
              refine vh_one 8 (by kernel_rfl) ?_
              refine vhn_hold fun hcur => ?_
              refine vhn_unit rfl (ou_storeB (by kernel_rfl) rfl rfl hp7 rfl rfl) (fun hw => below_setRow hw l7 _) ?_
              have bE := hcur
              refine vh_one 9 (by kernel_rfl) ?_
              refine vhn_unit rfl (ou_storeB (by kernel_rfl) rfl rfl (hp8.rowOther hne _) rfl rfl) (fun hw => below_setRow hw l8 _) ?_
              refine vh_pure 10 rfl (by kernel_rfl) (by kernel_rfl) (by kernel_rfl) (fun w hw => (os_assign rfl)) ?_
              refine vh_done (by kernel_rfl) (fun hS => ?_)
              exact ⟨⟨p7, p8, _⟩, ⟨rfl, rfl, rfl, trivial⟩, ⟨rfl, rfl, rfl, trivial⟩, ⟨g1, C1, g2, C2, g3, C3, rfl, HpS.of hp7 hp8 hne l7 l8 hx hy hxo hyo hi bE⟩⟩
            · refine vhn_hold fun hcur => ?_
              refine vhn_some rfl (ot_allocB Try.zeroValue65 (cs := zH) rfl) (fun hw v w' h => by obtain ⟨p, _, _, _, b⟩ := h; exact hw.trans (b.mono hw.size)) ?_
              rintro v8 w8 ⟨p7, rfl, hp7, hs7, b⟩
              have l7 := Nat.le_trans hcur.size hs7
              try have hne : p7 ≠ p8 := by have := hp8.lt; omega
              try replace hx := hx.keep b
              try replace hxo := hxo.keep b
              try replace hy := hy.keep b
              try replace hyo := hyo.keep b
              try replace hi := hi.keep b
              try replace hp8 := hp8.keep b
              refine vh_one 5 (by kernel_rfl) ?_
              refine vhn_hold fun hcur => ?_
              refine vhn_call rfl (kit_LentBytes A n c zs _ (ha4.keep hcur) hn (by omega)) rfl (fun hw v w' h => hw.trans (h.2.mono hw.size)) ?_
              rintro v7 w7 ⟨hi, b⟩
              replace hi := hi.monoQ hcur.size
              obtain ⟨g3, C3, rfl, -, -, -, -, -⟩ := hi.form
              replace hx := hx.keep b
              replace hxo := hxo.keep b
              replace hy := hy.keep b
              replace hyo := hyo.keep b
              try replace hp7 := hp7.keep b
              try replace hp8 := hp8.keep b
              refine vh_one 8 (by kernel_rfl) ?_
              refine vhn_hold fun hcur => ?_
              refine vhn_unit rfl (ou_storeB (by kernel_rfl) rfl rfl hp7 rfl rfl) (fun hw => below_setRow hw l7 _) ?_
              have bE := hcur
              refine vh_one 9 (by kernel_rfl) ?_
              refine vhn_unit rfl (ou_storeB (by kernel_rfl) rfl rfl (hp8.rowOther hne _) rfl rfl) (fun hw => below_setRow hw l8 _) ?_
              refine vh_pure 10 rfl (by kernel_rfl) (by kernel_rfl) (by kernel_rfl) (fun w hw => (os_assign rfl)) ?_
              refine vh_done (by kernel_rfl) (fun hS => ?_)
              exact ⟨⟨p7, p8, _⟩, ⟨rfl, rfl, rfl, trivial⟩, ⟨rfl, rfl, rfl, trivial⟩, ⟨g1, C1, g2, C2, g3, C3, rfl, HpS.of hp7 hp8 hne l7 l8 hx hy hxo hyo hi bE⟩⟩
          · refine vhn_hold fun hcur => ?_
            refine vhn_some rfl (ot_allocB Try.zeroValue65 (cs := zH) rfl) (fun hw v w' h => by obtain ⟨p, _, _, _, b⟩ := h; exact hw.trans (b.mono hw.size)) ?_
            rintro v8 w8 ⟨p7, rfl, hp7, hs7, b⟩
            have l7 := Nat.le_trans hcur.size hs7
            try have hne : p7 ≠ p8 := by have := hp8.lt; omega
            try replace hx := hx.keep b
            try replace hxo := hxo.keep b
            try replace hy := hy.keep b
            try replace hyo := hyo.keep b
            try replace hi := hi.keep b
            try replace hp8 := hp8.keep b
            refine vh_one 3 (by kernel_rfl) ?_
            refine vhn_hold fun hcur => ?_
            refine vhn_call rfl (kit_LentHead e _ (he4.keep hcur) (by omega)) rfl (fun hw v w' h => by obtain ⟨g, C, _, _, _, b⟩ := h; exact hw.trans (b.mono hw.size)) ?_
            rintro v6 w6 ⟨g2, C2, rfl, hy, hyo, b⟩
            replace hy := hy.mono hcur.size
            replace hx := hx.keep b
            replace hxo := hxo.keep b
            try replace hp7 := hp7.keep b
            try replace hp8 := hp8.keep b
            refine vh_one 5 (by kernel_rfl) ?_
            refine vhn_hold fun hcur => ?_
            refine vhn_call rfl (kit_LentBytes A n c zs _ (ha4.keep hcur) hn (by omega)) rfl (fun hw v w' h => hw.trans (h.2.mono hw.size)) ?_
            rintro v7 w7 ⟨hi, b⟩
            replace hi := hi.monoQ hcur.size
            obtain ⟨g3, C3, rfl, -, -, -, -, -⟩ := hi.form
            replace hx := hx.keep b
            replace hxo := hxo.keep b
            replace hy := hy.keep b
            replace hyo := hyo.keep b
            try replace hp7 := hp7.keep b
            try replace hp8 := hp8.keep b
            refine vh_one 8 (by kernel_rfl) ?_
            refine vhn_hold fun hcur => ?_
            refine vhn_unit rfl (ou_storeB (by kernel_rfl) rfl rfl hp7 rfl rfl) (fun hw => below_setRow hw l7 _) ?_
            have bE := hcur
            refine vh_one 9 (by kernel_rfl) ?_
            refine vhn_unit rfl (ou_storeB (by kernel_rfl) rfl rfl (hp8.rowOther hne _) rfl rfl) (fun hw => below_setRow hw l8 _) ?_
            refine vh_pure 10 rfl (by kernel_rfl) (by kernel_rfl) (by kernel_rfl) (fun w hw => (os_assign rfl)) ?_
            refine vh_done (by kernel_rfl) (fun hS => ?_)
            exact ⟨⟨p7, p8, _⟩, ⟨rfl, rfl, rfl, trivial⟩, ⟨rfl, rfl, rfl, trivial⟩, ⟨g1, C1, g2, C2, g3, C3, rfl, HpS.of hp7 hp8 hne l7 l8 hx hy hxo hyo hi bE⟩⟩
      · refine vhn_hold fun hcur => ?_
        refine vhn_some rfl (ot_allocB Try.zeroValue65 (cs := zH) rfl) (fun hw v w' h => by obtain ⟨p, _, _, _, b⟩ := h; exact hw.trans (b.mono hw.size)) ?_
        rintro v8 w8 ⟨p7, rfl, hp7, hs7, b⟩
        have l7 := Nat.le_trans hcur.size hs7
        try have hne : p7 ≠ p8 := by have := hp8.lt; omega
        try replace hx := hx.keep b
        try replace hxo := hxo.keep b
        try replace hy := hy.keep b
        try replace hyo := hyo.keep b
        try replace hi := hi.keep b
        try replace hp8 := hp8.keep b
        refine vh_two 1 7 (by kernel_rfl) ?_ ?_
        · refine vhn_hold fun hcur => ?_
          refine vhn_call rfl (kit_LentHead d _ (hd4.keep hcur) (by omega)) rfl (fun hw v w' h => by obtain ⟨g, C, _, _, _, b⟩ := h; exact hw.trans (b.mono hw.size)) ?_
          rintro v5 w5 ⟨g1, C1, rfl, hx, hxo, b⟩
          replace hx := hx.mono hcur.size
          try replace hp7 := hp7.keep b
          try replace hp8 := hp8.keep b
          refine vh_two 3 7 (by kernel_rfl) ?_ ?_
          · refine vhn_hold fun hcur => ?_
            refine vhn_call rfl (kit_LentHead e _ (he4.keep hcur) (by omega)) rfl (fun hw v w' h => by obtain ⟨g, C, _, _, _, b⟩ := h; exact hw.trans (b.mono hw.size)) ?_
            rintro v6 w6 ⟨g2, C2, rfl, hy, hyo, b⟩
            replace hy := hy.mono hcur.size
            replace hx := hx.keep b
            replace hxo := hxo.keep b
            try replace hp7 := hp7.keep b
            try replace hp8 := hp8.keep b
            refine vh_two 5 7 (by kernel_rfl) ?_ ?_
            · refine vhn_hold fun hcur => ?_
              refine vhn_call rfl (kit_LentBytes A n c zs _ (ha4.keep hcur) hn (by omega)) rfl (fun hw v w' h => hw.trans (h.2.mono hw.size)) ?_
              rintro v7 w7 ⟨hi, b⟩
              replace hi := hi.monoQ hcur.size
              obtain ⟨g3, C3, rfl, -, -, -, -, -⟩ := hi.form
              replace hx := hx.keep b
              replace hxo := hxo.keep b
              replace hy := hy.keep b
              replace hyo := hyo.keep b
              try replace hp7 := hp7.keep b
              try replace hp8 := hp8.keep b
              refine vh_one 7 (by kernel_rfl) ?_
              refine vhn_hold fun hcur => ?_
              refine vhn_some rfl (ot_allocB Try.zeroValue65 (cs := zH) rfl) (fun hw v w' h => by obtain ⟨p, _, _, _, b⟩ := h; exact hw.trans (b.mono hw.size)) ?_
              rintro v9 w9 ⟨p8, rfl, hp8, hs8, b⟩
              have l8 := Nat.le_trans hcur.size hs8
              try have hne : p7 ≠ p8 := by have := hp7.lt; omega
              try replace hx := hx.keep b
              try replace hxo := hxo.keep b
              try replace hy := hy.keep b
              try replace hyo := hyo.keep b
              try replace hi := hi.keep b
              try replace hp7 := hp7.keep b
              refine vh_one 8 (by kernel_rfl) ?_
              refine vhn_hold fun hcur => ?_
              refine vhn_unit rfl (ou_storeB (by kernel_rfl) rfl rfl hp7 rfl rfl) (fun hw => below_setRow hw l7 _) ?_
              have bE := hcur
              refine vh_one 9 (by kernel_rfl) ?_
              refine vhn_unit rfl (ou_storeB (by kernel_rfl) rfl rfl (hp8.rowOther hne _) rfl rfl) (fun hw => below_setRow hw l8 _) ?_
              refine vh_pure 10 rfl (by kernel_rfl) (by kernel_rfl) (by kernel_rfl) (fun w hw => (os_assign rfl)) ?_
              refine vh_done (by kernel_rfl) (fun hS => ?_)
              exact ⟨⟨p7, p8, _⟩, ⟨rfl, rfl, rfl, trivial⟩, ⟨rfl, rfl, rfl, trivial⟩, ⟨g1, C1, g2, C2, g3, C3, rfl, HpS.of hp7 hp8 hne l7 l8 hx hy hxo hyo hi bE⟩⟩
            · refine vhn_hold fun hcur => ?_
              refine vhn_some rfl (ot_allocB Try.zeroValue65 (cs := zH) rfl) (fun hw v w' h => by obtain ⟨p, _, _, _, b⟩ := h; exact hw.trans (b.mono hw.size)) ?_
              rintro v9 w9 ⟨p8, rfl, hp8, hs8, b⟩
              have l8 := Nat.le_trans hcur.size hs8
              try have hne : p7 ≠ p8 := by have := hp7.lt; omega
              try replace hx := hx.keep b
              try replace hxo := hxo.keep b
              try replace hy := hy.keep b
              try replace hyo := hyo.keep b
              try replace hi := hi.keep b
              try replace hp7 := hp7.keep b
              refine vh_one 5 (by kernel_rfl) ?_
              refine vhn_hold fun hcur => ?_
              refine vhn_call rfl (kit_LentBytes A n c zs _ (ha4.keep hcur) hn (by omega)) rfl (fun hw v w' h => hw.trans (h.2.mono hw.size)) ?_
              rintro v7 w7 ⟨hi, b⟩
              replace hi := hi.monoQ hcur.size
              obtain ⟨g3, C3, rfl, -, -, -, -, -⟩ := hi.form
              replace hx := hx.keep b
              replace hxo := hxo.keep b
              replace hy := hy.keep b
              replace hyo := hyo.keep b
              try replace hp7 := hp7.keep b
              try replace hp8 := hp8.keep b
              refine vh_one 8 (by kernel_rfl) ?_
              refine vhn_hold fun hcur => ?_
              refine vhn_unit rfl (ou_storeB (by kernel_rfl) rfl rfl hp7 rfl rfl) (fun hw => below_setRow hw l7 _) ?_
              have bE := hcur
              refine vh_one 9 (by kernel_rfl) ?_
              refine vhn_unit rfl (ou_storeB (by kernel_rfl) rfl rfl (hp8.rowOther hne _) rfl rfl) (fun hw => below_setRow hw l8 _) ?_
              refine vh_pure 10 rfl (by kernel_rfl) (by kernel_rfl) (by kernel_rfl) (fun w hw => (os_assign rfl)) ?_
              refine vh_done (by kernel_rfl) (fun hS => ?_)
              exact ⟨⟨p7, p8, _⟩, ⟨rfl, rfl, rfl, trivial⟩, ⟨rfl, rfl, rfl, trivial⟩, ⟨g1, C1, g2, C2, g3, C3, rfl, HpS.of hp7 hp8 hne l7 l8 hx hy hxo hyo hi bE⟩⟩
          · refine vhn_hold fun hcur => ?_
            refine vhn_some rfl (ot_allocB Try.zeroValue65 (cs := zH) rfl) (fun hw v w' h => by obtain ⟨p, _, _, _, b⟩ := h; exact hw.trans (b.mono hw.size)) ?_
            rintro v9 w9 ⟨p8, rfl, hp8, hs8, b⟩
            have l8 := Nat.le_trans hcur.size hs8
            try have hne : p7 ≠ p8 := by have := hp7.lt; omega
            try replace hx := hx.keep b
            try replace hxo := hxo.keep b
            try replace hy := hy.keep b
            try replace hyo := hyo.keep b
            try replace hi := hi.keep b
            try replace hp7 := hp7.keep b
            refine vh_one 3 (by kernel_rfl) ?_
            refine vhn_hold fun hcur => ?_
            refine vhn_call rfl (kit_LentHead e _ (he4.keep hcur) (by omega)) rfl (fun hw v w' h => by obtain ⟨g, C, _, _, _, b⟩ := h; exact hw.trans (b.mono hw.size)) ?_
            rintro v6 w6 ⟨g2, C2, rfl, hy, hyo, b⟩
            replace hy := hy.mono hcur.size
            replace hx := hx.keep b
            replace hxo := hxo.keep b
            try replace hp7 := hp7.keep b
            try replace hp8 := hp8.keep b
            refine vh_one 5 (by kernel_rfl) ?_
            refine vhn_hold fun hcur => ?_
            refine vhn_call rfl (kit_LentBytes A n c zs _ (ha4.keep hcur) hn (by omega)) rfl (fun hw v w' h => hw.trans (h.2.mono hw.size)) ?_
            rintro v7 w7 ⟨hi, b⟩
            replace hi := hi.monoQ hcur.size
            obtain ⟨g3, C3, rfl, -, -, -, -, -⟩ := hi.form
            replace hx := hx.keep b
            replace hxo := hxo.keep b
            replace hy := hy.keep b
            replace hyo := hyo.keep b
            try replace hp7 := hp7.keep b
            try replace hp8 := hp8.keep b
            refine vh_one 8 (by kernel_rfl) ?_
            refine vhn_hold fun hcur => ?_
            refine vhn_unit rfl (ou_storeB (by kernel_rfl) rfl rfl hp7 rfl rfl) (fun hw => below_setRow hw l7 _) ?_
            have bE := hcur
            refine vh_one 9 (by kernel_rfl) ?_
            refine vhn_unit rfl (ou_storeB (by kernel_rfl) rfl rfl (hp8.rowOther hne _) rfl rfl) (fun hw => below_setRow hw l8 _) ?_
            refine vh_pure 10 rfl (by kernel_rfl) (by kernel_rfl) (by kernel_rfl) (fun w hw => (os_assign rfl)) ?_
            refine vh_done (by kernel_rfl) (fun hS => ?_)
            exact ⟨⟨p7, p8, _⟩, ⟨rfl, rfl, rfl, trivial⟩, ⟨rfl, rfl, rfl, trivial⟩, ⟨g1, C1, g2, C2, g3, C3, rfl, HpS.of hp7 hp8 hne l7 l8 hx hy hxo hyo hi bE⟩⟩
        · refine vhn_hold fun hcur => ?_
          refine vhn_some rfl (ot_allocB Try.zeroValue65 (cs := zH) rfl) (fun hw v w' h => by obtain ⟨p, _, _, _, b⟩ := h; exact hw.trans (b.mono hw.size)) ?_
          rintro v9 w9 ⟨p8, rfl, hp8, hs8, b⟩
          have l8 := Nat.le_trans hcur.size hs8
          try have hne : p7 ≠ p8 := by have := hp7.lt; omega
          try replace hx := hx.keep b
          try replace hxo := hxo.keep b
          try replace hy := hy.keep b
          try replace hyo := hyo.keep b
          try replace hi := hi.keep b
          try replace hp7 := hp7.keep b
          refine vh_one 1 (by kernel_rfl) ?_
          refine vhn_hold fun hcur => ?_
          refine vhn_call rfl (kit_LentHead d _ (hd4.keep hcur) (by omega)) rfl (fun hw v w' h => by obtain ⟨g, C, _, _, _, b⟩ := h; exact hw.trans (b.mono hw.size)) ?_
          rintro v5 w5 ⟨g1, C1, rfl, hx, hxo, b⟩
          replace hx := hx.mono hcur.size
          try replace hp7 := hp7.keep b
          try replace hp8 := hp8.keep b
          refine vh_one 3 (by kernel_rfl) ?_
          refine vhn_hold fun hcur => ?_
          refine vhn_call rfl (kit_LentHead e _ (he4.keep hcur) (by omega)) rfl (fun hw v w' h => by obtain ⟨g, C, _, _, _, b⟩ := h; exact hw.trans (b.mono hw.size)) ?_
          rintro v6 w6 ⟨g2, C2, rfl, hy, hyo, b⟩
          replace hy := hy.mono hcur.size
          replace hx := hx.keep b
          replace hxo := hxo.keep b
          try replace hp7 := hp7.keep b
          try replace hp8 := hp8.keep b
          refine vh_one 5 (by kernel_rfl) ?_
          refine vhn_hold fun hcur => ?_
          refine vhn_call rfl (kit_LentBytes A n c zs _ (ha4.keep hcur) hn (by omega)) rfl (fun hw v w' h => hw.trans (h.2.mono hw.size)) ?_
          rintro v7 w7 ⟨hi, b⟩
          replace hi := hi.monoQ hcur.size
          obtain ⟨g3, C3, rfl, -, -, -, -, -⟩ := hi.form
          replace hx := hx.keep b
          replace hxo := hxo.keep b
          replace hy := hy.keep b
          replace hyo := hyo.keep b
          try replace hp7 := hp7.keep b
          try replace hp8 := hp8.keep b
          refine vh_one 8 (by kernel_rfl) ?_
          refine vhn_hold fun hcur => ?_
          refine vhn_unit rfl (ou_storeB (by kernel_rfl) rfl rfl hp7 rfl rfl) (fun hw => below_setRow hw l7 _) ?_
          have bE := hcur
          refine vh_one 9 (by kernel_rfl) ?_
          refine vhn_unit rfl (ou_storeB (by kernel_rfl) rfl rfl (hp8.rowOther hne _) rfl rfl) (fun hw => below_setRow hw l8 _) ?_
          refine vh_pure 10 rfl (by kernel_rfl) (by kernel_rfl) (by kernel_rfl) (fun w hw => (os_assign rfl)) ?_
          refine vh_done (by kernel_rfl) (fun hS => ?_)
          exact ⟨⟨p7, p8, _⟩, ⟨rfl, rfl, rfl, trivial⟩, ⟨rfl, rfl, rfl, trivial⟩, ⟨g1, C1, g2, C2, g3, C3, rfl, HpS.of hp7 hp8 hne l7 l8 hx hy hxo hyo hi bE⟩⟩
      · refine vhn_hold fun hcur => ?_
        refine vhn_some rfl (ot_allocB Try.zeroValue65 (cs := zH) rfl) (fun hw v w' h => by obtain ⟨p, _, _, _, b⟩ := h; exact hw.trans (b.mono hw.size)) ?_
        rintro v9 w9 ⟨p8, rfl, hp8, hs8, b⟩
        have l8 := Nat.le_trans hcur.size hs8
        try have hne : p7 ≠ p8 := by have := hp7.lt; omega
        try replace hx := hx.keep b
        try replace hxo := hxo.keep b
        try replace hy := hy.keep b
        try replace hyo := hyo.keep b
        try replace hi := hi.keep b
        try replace hp7 := hp7.keep b
        refine vh_two 1 6 (by kernel_rfl) ?_ ?_
        · refine vhn_hold fun hcur => ?_
          refine vhn_call rfl (kit_LentHead d _ (hd4.keep hcur) (by omega)) rfl (fun hw v w' h => by obtain ⟨g, C, _, _, _, b⟩ := h; exact hw.trans (b.mono hw.size)) ?_
          rintro v5 w5 ⟨g1, C1, rfl, hx, hxo, b⟩
          replace hx := hx.mono hcur.size
          try replace hp7 := hp7.keep b
          try replace hp8 := hp8.keep b
          refine vh_two 3 6 (by kernel_rfl) ?_ ?_
          · refine vhn_hold fun hcur => ?_
            refine vhn_call rfl (kit_LentHead e _ (he4.keep hcur) (by omega)) rfl (fun hw v w' h => by obtain ⟨g, C, _, _, _, b⟩ := h; exact hw.trans (b.mono hw.size)) ?_
            rintro v6 w6 ⟨g2, C2, rfl, hy, hyo, b⟩
            replace hy := hy.mono hcur.size
            replace hx := hx.keep b
            replace hxo := hxo.keep b
            try replace hp7 := hp7.keep b
            try replace hp8 := hp8.keep b
            refine vh_two 5 6 (by kernel_rfl) ?_ ?_
            · refine vhn_hold fun hcur => ?_
              refine vhn_call rfl (kit_LentBytes A n c zs _ (ha4.keep hcur) hn (by omega)) rfl (fun hw v w' h => hw.trans (h.2.mono hw.size)) ?_
              rintro v7 w7 ⟨hi, b⟩
              replace hi := hi.monoQ hcur.size
              obtain ⟨g3, C3, rfl, -, -, -, -, -⟩ := hi.form
              replace hx := hx.keep b
              replace hxo := hxo.keep b
              replace hy := hy.keep b
              replace hyo := hyo.keep b
              try replace hp7 := hp7.keep b
              try replace hp8 := hp8.keep b
              refine vh_one 6 (by kernel_rfl) ?_
              refine vhn_hold fun hcur => ?_
              refine vhn_some rfl (ot_allocB Try.zeroValue65 (cs := zH) rfl) (fun hw v w' h => by obtain ⟨p, _, _, _, b⟩ := h; exact hw.trans (b.mono hw.size)) ?_
              rintro v8 w8 ⟨p7, rfl, hp7, hs7, b⟩
              have l7 := Nat.le_trans hcur.size hs7
              try have hne : p7 ≠ p8 := by have := hp8.lt; omega
              try replace hx := hx.keep b
              try replace hxo := hxo.keep b
              try replace hy := hy.keep b
              try replace hyo := hyo.keep b
              try replace hi := hi.keep b
              try replace hp8 := hp8.keep b
              refine vh_one 8 (by kernel_rfl) ?_
              refine vhn_hold fun hcur => ?_
              refine vhn_unit rfl (ou_storeB (by kernel_rfl) rfl rfl hp7 rfl rfl) (fun hw => below_setRow hw l7 _) ?_
              have bE := hcur
              refine vh_one 9 (by kernel_rfl) ?_
              refine vhn_unit rfl (ou_storeB (by kernel_rfl) rfl rfl (hp8.rowOther hne _) rfl rfl) (fun hw => below_setRow hw l8 _) ?_
              refine vh_pure 10 rfl (by kernel_rfl) (by kernel_rfl) (by kernel_rfl) (fun w hw => (os_assign rfl)) ?_
              refine vh_done (by kernel_rfl) (fun hS => ?_)
              exact ⟨⟨p7, p8, _⟩, ⟨rfl, rfl, rfl, trivial⟩, ⟨rfl, rfl, rfl, trivial⟩, ⟨g1, C1, g2, C2, g3, C3, rfl, HpS.of hp7 hp8 hne l7 l8 hx hy hxo hyo hi bE⟩⟩
            · refine vhn_hold fun hcur => ?_
              refine vhn_some rfl (ot_allocB Try.zeroValue65 (cs := zH) rfl) (fun hw v w' h => by obtain ⟨p, _, _, _, b⟩ := h; exact hw.trans (b.mono hw.size)) ?_
              rintro v8 w8 ⟨p7, rfl, hp7, hs7, b⟩
              have l7 := Nat.le_trans hcur.size hs7
              try have hne : p7 ≠ p8 := by have := hp8.lt; omega
              try replace hx := hx.keep b
              try replace hxo := hxo.keep b
              try replace hy := hy.keep b
              try replace hyo := hyo.keep b
              try replace hi := hi.keep b
              try replace hp8 := hp8.keep b
              refine vh_one 5 (by kernel_rfl) ?_
              refine vhn_hold fun hcur => ?_
              refine vhn_call rfl (kit_LentBytes A n c zs _ (ha4.keep hcur) hn (by omega)) rfl (fun hw v w' h => hw.trans (h.2.mono hw.size)) ?_
              rintro v7 w7 ⟨hi, b⟩
              replace hi := hi.monoQ hcur.size
              obtain ⟨g3, C3, rfl, -, -, -, -, -⟩ := hi.form
              replace hx := hx.keep b
              replace hxo := hxo.keep b
              replace hy := hy.keep b
              replace hyo := hyo.keep b
              try replace hp7 := hp7.keep b
              try replace hp8 := hp8.keep b
              refine vh_one 8 (by kernel_rfl) ?_
              refine vhn_hold fun hcur => ?_
              refine vhn_unit rfl (ou_storeB (by kernel_rfl) rfl rfl hp7 rfl rfl) (fun hw => below_setRow hw l7 _) ?_
              have bE := hcur
              refine vh_one 9 (by kernel_rfl) ?_
              refine vhn_unit rfl (ou_storeB (by kernel_rfl) rfl rfl (hp8.rowOther hne _) rfl rfl) (fun hw => below_setRow hw l8 _) ?_
              refine vh_pure 10 rfl (by kernel_rfl) (by kernel_rfl) (by kernel_rfl) (fun w hw => (os_assign rfl)) ?_
              refine vh_done (by kernel_rfl) (fun hS => ?_)
              exact ⟨⟨p7, p8, _⟩, ⟨rfl, rfl, rfl, trivial⟩, ⟨rfl, rfl, rfl, trivial⟩, ⟨g1, C1, g2, C2, g3, C3, rfl, HpS.of hp7 hp8 hne l7 l8 hx hy hxo hyo hi bE⟩⟩
          · refine vhn_hold fun hcur => ?_
            refine vhn_some rfl (ot_allocB Try.zeroValue65 (cs := zH) rfl) (fun hw v w' h => by obtain ⟨p, _, _, _, b⟩ := h; exact hw.trans (b.mono hw.size)) ?_
            rintro v8 w8 ⟨p7, rfl, hp7, hs7, b⟩
            have l7 := Nat.le_trans hcur.size hs7
            try have hne : p7 ≠ p8 := by have := hp8.lt; omega
            try replace hx := hx.keep b
            try replace hxo := hxo.keep b
            try replace hy := hy.keep b
            try replace hyo := hyo.keep b
            try replace hi := hi.keep b
            try replace hp8 := hp8.keep b
            refine vh_one 3 (by kernel_rfl) ?_
            refine vhn_hold fun hcur => ?_
            refine vhn_call rfl (kit_LentHead e _ (he4.keep hcur) (by omega)) rfl (fun hw v w' h => by obtain ⟨g, C, _, _, _, b⟩ := h; exact hw.trans (b.mono hw.size)) ?_
            rintro v6 w6 ⟨g2, C2, rfl, hy, hyo, b⟩
            replace hy := hy.mono hcur.size
            replace hx := hx.keep b
            replace hxo := hxo.keep b
            try replace hp7 := hp7.keep b
            try replace hp8 := hp8.keep b
            refine vh_one 5 (by kernel_rfl) ?_
            refine vhn_hold fun hcur => ?_
            refine vhn_call rfl (kit_LentBytes A n c zs _ (ha4.keep hcur) hn (by omega)) rfl (fun hw v w' h => hw.trans (h.2.mono hw.size)) ?_
            rintro v7 w7 ⟨hi, b⟩
            replace hi := hi.monoQ hcur.size
            obtain ⟨g3, C3, rfl, -, -, -, -, -⟩ := hi.form
            replace hx := hx.keep b
            replace hxo := hxo.keep b
            replace hy := hy.keep b
            replace hyo := hyo.keep b
            try replace hp7 := hp7.keep b
            try replace hp8 := hp8.keep b
            refine vh_one 8 (by kernel_rfl) ?_
            refine vhn_hold fun hcur => ?_
            refine vhn_unit rfl (ou_storeB (by kernel_rfl) rfl rfl hp7 rfl rfl) (fun hw => below_setRow hw l7 _) ?_
            have bE := hcur
            refine vh_one 9 (by kernel_rfl) ?_
            refine vhn_unit rfl (ou_storeB (by kernel_rfl) rfl rfl (hp8.rowOther hne _) rfl rfl) (fun hw => below_setRow hw l8 _) ?_
            refine vh_pure 10 rfl (by kernel_rfl) (by kernel_rfl) (by kernel_rfl) (fun w hw => (os_assign rfl)) ?_
            refine vh_done (by kernel_rfl) (fun hS => ?_)
            exact ⟨⟨p7, p8, _⟩, ⟨rfl, rfl, rfl, trivial⟩, ⟨rfl, rfl, rfl, trivial⟩, ⟨g1, C1, g2, C2, g3, C3, rfl, HpS.of hp7 hp8 hne l7 l8 hx hy hxo hyo hi bE⟩⟩
        · refine vhn_hold fun hcur => ?_
          refine vhn_some rfl (ot_allocB Try.zeroValue65 (cs := zH) rfl) (fun hw v w' h => by obtain ⟨p, _, _, _, b⟩ := h; exact hw.trans (b.mono hw.size)) ?_
          rintro v8 w8 ⟨p7, rfl, hp7, hs7, b⟩
          have l7 := Nat.le_trans hcur.size hs7
          try have hne : p7 ≠ p8 := by have := hp8.lt; omega
          try replace hx := hx.keep b
          try replace hxo := hxo.keep b
          try replace hy := hy.keep b
          try replace hyo := hyo.keep b
          try replace hi := hi.keep b
          try replace hp8 := hp8.keep b
          refine vh_one 1 (by kernel_rfl) ?_
          refine vhn_hold fun hcur => ?_
          refine vhn_call rfl (kit_LentHead d _ (hd4.keep hcur) (by omega)) rfl (fun hw v w' h => by obtain ⟨g, C, _, _, _, b⟩ := h; exact hw.trans (b.mono hw.size)) ?_
          rintro v5 w5 ⟨g1, C1, rfl, hx, hxo, b⟩
          replace hx := hx.mono hcur.size
          try replace hp7 := hp7.keep b
          try replace hp8 := hp8.keep b
          refine vh_one 3 (by kernel_rfl) ?_
          refine vhn_hold fun hcur => ?_
          refine vhn_call rfl (kit_LentHead e _ (he4.keep hcur) (by omega)) rfl (fun hw v w' h => by obtain ⟨g, C, _, _, _, b⟩ := h; exact hw.trans (b.mono hw.size)) ?_
          rintro v6 w6 ⟨g2, C2, rfl, hy, hyo, b⟩
          replace hy := hy.mono hcur.size
          replace hx := hx.keep b
          replace hxo := hxo.keep b
          try replace hp7 := hp7.keep b
          try replace hp8 := hp8.keep b
          refine vh_one 5 (by kernel_rfl) ?_
          refine vhn_hold fun hcur => ?_
          refine vhn_call rfl (kit_LentBytes A n c zs _ (ha4.keep hcur) hn (by omega)) rfl (fun hw v w' h => hw.trans (h.2.mono hw.size)) ?_
          rintro v7 w7 ⟨hi, b⟩
          replace hi := hi.monoQ hcur.size
          obtain ⟨g3, C3, rfl, -, -, -, -, -⟩ := hi.form
          replace hx := hx.keep b
          replace hxo := hxo.keep b
          replace hy := hy.keep b
          replace hyo := hyo.keep b
          try replace hp7 := hp7.keep b
          try replace hp8 := hp8.keep b
          refine vh_one 8 (by kernel_rfl) ?_
          refine vhn_hold fun hcur => ?_
          refine vhn_unit rfl (ou_storeB (by kernel_rfl) rfl rfl hp7 rfl rfl) (fun hw => below_setRow hw l7 _) ?_
          have bE := hcur
          refine vh_one 9 (by kernel_rfl) ?_
          refine vhn_unit rfl (ou_storeB (by kernel_rfl) rfl rfl (hp8.rowOther hne _) rfl rfl) (fun hw => below_setRow hw l8 _) ?_
          refine vh_pure 10 rfl (by kernel_rfl) (by kernel_rfl) (by kernel_rfl) (fun w hw => (os_assign rfl)) ?_
          refine vh_done (by kernel_rfl) (fun hS => ?_)
          exact ⟨⟨p7, p8, _⟩, ⟨rfl, rfl, rfl, trivial⟩, ⟨rfl, rfl, rfl, trivial⟩, ⟨g1, C1, g2, C2, g3, C3, rfl, HpS.of hp7 hp8 hne l7 l8 hx hy hxo hyo hi bE⟩⟩
    · rintro p7 p8 vi w5 ⟨g1, C1, g2, C2, g3, C3, rfl, H⟩
      obtain ⟨g3', C3', e3, hC3, hCm3, hg3w, hg31, r3⟩ := H.l3.form
      cases e3
      have b5w := hb1.trans (H.b.mono hb1.size)
      have hA5 := hA.keep H.b
      have hB5 := hB.keep H.b
      have hs5 := H.b.size
      have hs45 := hb1.size
      have hvl := hpV_len d.q zs
      refine v_seq ?_
      refine v_region ?_
      refine vl_val (os_loadB Try.underlying65 rfl (by kernel_rfl) rfl (H.m7)) ?_
      refine vl_val (os_move rfl) ?_
      refine vl_call (hd_Put (lentH d g1 C1) (some ⟨g3, 0, none⟩) zs.length C3 zs w5 H.o1 r3 rfl hz) rfl ?_
      rintro v6 w6 ⟨s6, rfl, o6, b6⟩
      change OwnK w6 w5.heap.size 5 .u8 s6 (hpV d.q zs) at o6
      have b6w := b5w.trans (b6.mono b5w.size)
      refine vl_val (os_move rfl) ?_
      refine vl_val (os_extract rfl rfl) ?_
      refine vl_val (os_extract rfl rfl) ?_
      refine vl_val (os_assign rfl) ?_
      refine vl_val (os_assign rfl) ?_
      refine vl_nil ?_
      refine v_seq ?_
      refine v_region ?_
      refine vl_val (os_loadB Try.underlying65 rfl (by kernel_rfl) rfl (hA5.keep b6)) ?_
      refine vl_val (os_move rfl) ?_
      refine vl_call (ref14_Put d A n c zs w6 (hd.keep b6w) (ha.keep b6w) hn (by omega) hz hc) rfl ?_
      rintro v7 w7 ⟨s7, rfl, o7, b7⟩
      have b7w := b6w.trans (b7.mono b6w.size)
      have o67 := Own.keepAll o6 b7
      obtain ⟨A6, c6, rfl, -, -, r6, -⟩ := OwnK.form o67
      obtain ⟨A7, c7, rfl, -, -, r7, -⟩ := OwnK.form o7
      have b57 := b6.trans (b7.mono b6.size)
      have hA7 := hA5.keep b57
      have hB7 := hB5.keep b57
      have m7 := H.m7.keep b57
      have m8 := H.m8.keep b57
      have o17 := H.o1.keep b57
      have o27 := H.o2.keep b57
      have hd7 := hd.keep b7w
      have he7 := he.keep b7w
      have b70 : Below w7.heap.size w7 { w7 with drawn := w7.drawn + 1 } := (Below.refl _ _).drew
      refine vl_val (os_move rfl) ?_
      refine vl_val (os_extract rfl rfl) ?_
      refine vl_val (os_extract rfl rfl) ?_
      refine vl_val (os_assign rfl) ?_
      refine vl_val (os_assign rfl) ?_
      refine vl_nil ?_
      refine v_mid [(2, _), (3, _), (4, _), (7, _), (8, _), (9, _), (10, _)] (fun (x : Nat) => [(14, .bool true)]) (fun x w' => Below w7.heap.size w7 w') ⟨rfl, rfl, rfl, rfl, rfl, rfl, rfl, trivial⟩ ?_ ?_
      · refine v_region_h (fun w' => Below w7.heap.size w7 w') mixed (b70) ?_
        refine vh_pure 0 rfl (by kernel_rfl) (by kernel_rfl) (by kernel_rfl) (fun w hw => (os_move rfl)) ?_
        refine vh_pure 1 rfl (by kernel_rfl) (by kernel_rfl) (by kernel_rfl) (fun w hw => (os_move rfl)) ?_
        refine vh_pure 2 rfl (by kernel_rfl) (by kernel_rfl) (by kernel_rfl) (fun w hw => (os_t (os_eql rfl rfl) (rfl))) ?_
        refine vh_pure 3 rfl (by kernel_rfl) (by kernel_rfl) (by kernel_rfl) (fun w hw => (os_move rfl)) ?_
        refine vh_pure 4 rfl (by kernel_rfl) (by kernel_rfl) (by kernel_rfl) (fun w hw => (os_move rfl)) ?_
        refine vh_pure 5 rfl (by kernel_rfl) (by kernel_rfl) (by kernel_rfl) (fun w hw => (os_move rfl)) ?_
        refine vh_one 6 (by kernel_rfl) ?_
        refine vhn_hold fun hcur => ?_
        refine vhn_call rfl (gives_boolb (kit_SameBytes A6 A7 _ _ c6 c7 (hpV d.q zs) (hpV d.q zs) _ (r6.keep hcur) (r7.keep hcur) rfl rfl (by omega) (by omega)) (decide_eq_true rfl)) rfl (fun hw v w' h => hw.trans ((led_below h.2).mono hw.size)) ?_
        rintro v8 w8 ⟨rfl, b8⟩
        refine vh_pure 7 rfl (by kernel_rfl) (by kernel_rfl) (by kernel_rfl) (fun w hw => (os_pick_t rfl rfl)) ?_
        refine vh_pure 8 rfl (by kernel_rfl) (by kernel_rfl) (by kernel_rfl) (fun w hw => (os_move rfl)) ?_
        refine vh_pure 9 rfl (by kernel_rfl) (by kernel_rfl) (by kernel_rfl) (fun w hw => (os_loadB Try.underlying65 rfl (by kernel_rfl) rfl (m7.keep hw))) ?_
        refine vh_pure 11 rfl (by kernel_rfl) (by kernel_rfl) (by kernel_rfl) (fun w hw => (os_loadB Try.underlying65 rfl (by kernel_rfl) rfl (hA7.keep hw))) ?_
        refine vh_one 10 (by kernel_rfl) ?_
        refine vhn_hold fun hcur => ?_
        refine vhn_call rfl (hd_Right (lentH d g1 C1) _ (o17.keep hcur)) rfl (fun hw v w' h => hw.trans (h.2.mono hw.size)) ?_
        rintro v9 w9 ⟨rfl, b9⟩
        refine vh_one 12 (by kernel_rfl) ?_
        refine vhn_hold fun hcur => ?_
        refine vhn_call rfl (ref14_Right d _ (hd7.keep hcur)) rfl (fun hw v w' h => hw.trans (h.2.mono hw.size)) ?_
        rintro v10 w10 ⟨rfl, b10⟩
        refine vh_pure 13 rfl (by kernel_rfl) (by kernel_rfl) (by kernel_rfl) (fun w hw => (os_is (os_eqlb Try.underlying4 rfl rfl) ((show (rightH (lentH d g1 C1).q == rightH d.q) = true from beq_self_eq_true _)))) ?_
        refine vh_pure 14 rfl (by kernel_rfl) (by kernel_rfl) (by kernel_rfl) (fun w hw => (os_pick_t rfl rfl)) ?_
        refine vh_pure 15 rfl (by kernel_rfl) (by kernel_rfl) (by kernel_rfl) (fun w hw => (os_move rfl)) ?_
        refine vh_pure 16 rfl (by kernel_rfl) (by kernel_rfl) (by kernel_rfl) (fun w hw => (os_loadB Try.underlying65 rfl (by kernel_rfl) rfl (m7.keep hw))) ?_
        refine vh_pure 17 rfl (by kernel_rfl) (by kernel_rfl) (by kernel_rfl) (fun w hw => (os_loadB Try.underlying65 rfl (by kernel_rfl) rfl (m8.keep hw))) ?_
        refine vh_pure 19 rfl (by kernel_rfl) (by kernel_rfl) (by kernel_rfl) (fun w hw => (os_loadB Try.underlying65 rfl (by kernel_rfl) rfl (hA7.keep hw))) ?_
        refine vh_pure 20 rfl (by kernel_rfl) (by kernel_rfl) (by kernel_rfl) (fun w hw => (os_loadB Try.underlying65 rfl (by kernel_rfl) rfl (hB7.keep hw))) ?_
        refine vh_one 18 (by kernel_rfl) ?_
        refine vhn_hold fun hcur => ?_
        refine vhn_call rfl (hd_Like (lentH d g1 C1) (lentH e g2 C2) _ (o17.keep hcur) (o27.keep hcur)) rfl (fun hw v w' h => hw.trans (h.2.mono hw.size)) ?_
        rintro v11 w11 ⟨rfl, b11⟩
        refine vh_one 21 (by kernel_rfl) ?_
        refine vhn_hold fun hcur => ?_
        refine vhn_call rfl (ref14_Like d e _ (hd7.keep hcur) (he7.keep hcur)) rfl (fun hw v w' h => hw.trans (h.2.mono hw.size)) ?_
        rintro v12 w12 ⟨rfl, b12⟩
        refine vh_pure 22 rfl (by kernel_rfl) (by kernel_rfl) (by kernel_rfl) (fun w hw => (os_is (os_eqlb Try.underlying4 rfl rfl) ((show (likeB (lentH d g1 C1).q (lentH e g2 C2).q == likeB d.q e.q) = true from beq_self_eq_true _)))) ?_
        refine vh_pure 23 rfl (by kernel_rfl) (by kernel_rfl) (by kernel_rfl) (fun w hw => (os_pick_t rfl rfl)) ?_
        refine vh_pure 24 rfl (by kernel_rfl) (by kernel_rfl) (by kernel_rfl) (fun w hw => (os_assign rfl)) ?_
        refine vh_done (by kernel_rfl) (fun hS => ?_)
        exact ⟨0, ⟨rfl, rfl, rfl, rfl, rfl, rfl, rfl, trivial⟩, ⟨rfl, trivial⟩, hS⟩
      · rintro x w8 b8
        have b8w := b7w.trans (b8.mono b7w.size)
        have b58 := b57.trans (b8.mono b57.size)
        refine v_seq ?_
        refine v_region ?_
        refine vl_val (os_move rfl) ?_
        refine vl_val (os_move rfl) ?_
        refine vl_valg rfl (os_loadB Try.underlying65 rfl (by kernel_rfl) rfl (m7.keep b8)) ?_
        refine vl_valg rfl (os_loadB Try.underlying65 rfl (by kernel_rfl) rfl (hA7.keep b8)) ?_
        refine vl_callg rfl (kit_KeptHead (lentH d g1 C1) d w4.heap.size w8 (H.x1.keep b58) (o17.keep b8) (hd7.keep b8) rfl (by show d.q.rows.length ≤ _; omega)) rfl ?_
        rintro v9 w9 ⟨rfl, b9⟩
        have b9w := b8w.trans (b9.mono b8w.size)
        have b59 := b58.trans (b9.mono b58.size)
        refine vl_val (os_pick_t rfl rfl) ?_
        refine vl_val (os_move rfl) ?_
        refine vl_valg rfl (os_loadB Try.underlying65 rfl (by kernel_rfl) rfl ((m8.keep b8).keep b9)) ?_
        refine vl_valg rfl (os_loadB Try.underlying65 rfl (by kernel_rfl) rfl ((hB7.keep b8).keep b9)) ?_
        refine vl_callg rfl (kit_KeptHead (lentH e g2 C2) e w4.heap.size w9 (H.x2.keep b59) (H.o2.keep b59) (he.keep b9w) rfl (by show e.q.rows.length ≤ _; omega)) rfl ?_
        rintro v10 w10 ⟨rfl, b10⟩
        have b10w := b9w.trans (b10.mono b9w.size)
        have b510 := b59.trans (b10.mono b59.size)
        have hL10 := H.l3.keep b510
        refine vl_val (os_pick_t rfl rfl) ?_
        refine vl_val (os_move rfl) ?_
        refine vl_valg rfl (os_move rfl) ?_
        refine vl_valg rfl (os_move rfl) ?_
        refine vl_callg rfl (kit_KeptBytes (.slice (some ⟨g3, 0, none⟩) zs.length C3) w4.heap.size A n c zs w10 hL10 (ha.keep b10w) hn (by omega)) rfl ?_
        rintro v11 w11 ⟨rfl, d11⟩
        have b11w := b10w.trans ((led_below d11).mono b10w.size)
        have o611 := Own.led (Own.keepAll (Own.keepAll (Own.keepAll o67 b8) b9) b10) d11
        have hs511 := b510.size
        have hL11 := hL10.led d11
        refine vl_val (os_pick_t rfl rfl) ?_
        refine vl_val (os_move rfl) ?_
        refine vl_valg rfl (os_move rfl) ?_
        refine vl_valg rfl (os_move rfl) ?_
        refine vl_valg rfl (os_lit Try.underlying23 Try.sizeOf22 Try.zeroValue22 rfl rfl rfl rfl (by decide)) ?_
        refine vl_callg rfl (kit_Apart2 g3 C3 w4.heap.size _ c6 w5.heap.size A6 zs (hpV d.q zs) w11 hL11 o611 hg31 (by omega) (by omega) (by omega) (by have := (led_below (B := w10.heap.size) d11).size; omega)) rfl ?_
        rintro v12 w12 ⟨rfl, b12⟩
        have b12w := b11w.trans (b12.mono hs45)
        refine vl_val (os_pick_t rfl rfl) ?_
        refine vl_val (os_move rfl) ?_
        refine vl_callg rfl (law14_awake w12) rfl ?_
        rintro v13 w13 ⟨rfl, b13⟩
        refine vl_val (os_pick_t rfl rfl) ?_
        refine vl_val (os_assign rfl) ?_
        refine vl_nil ?_
        refine v_ret ?_
        exact post_ret rfl rfl (⟨rfl, b12w.trans (b13.mono b12w.size)⟩)
end Go.Proofs.Ytpojijnjdlnokaa
