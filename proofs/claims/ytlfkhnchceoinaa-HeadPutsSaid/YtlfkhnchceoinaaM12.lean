/- Texts joined: HdT SzF SzQ SzM Rep V5 SzG. -/
import Derived.Test.YtlfkhnchceoinaaM11
/- Layer 14: the program's datagram of a header and its body. -/
namespace Go.Proofs.Ytlfkhnchceoinaa
open Go.RowKit
set_option linter.unusedVariables false

theorem hd_fits {z size : Int} {s : Nat} (hs : size = (s : Int) ∧ 1 ≤ s ∧ s ≤ 4) (h : 0 ≤ z ∧ z < 256 ^ s) : nfitB z size = true := by
  unfold nfitB
  rw [hs.1, Int.toNat_natCast]
  simp; omega
theorem cntB_suc {cs : List (Int × Int)} {i : Nat} (hi : i < cs.length) : cntB (cs.take (i + 1)) = cntB (cs.take i) ++ (numBytes (cs.getD i (0, 0)).1 1 ++ numBytes (cs.getD i (0, 0)).2 2) := by
  have e : cs.getD i (0, 0) = cs[i] := by simp [hi]
  unfold cntB
  rw [List.take_succ_eq_append_getElem hi, List.flatMap_append, e]; simp
theorem hd_allL (B g : Nat) (v : Value) (bs : List Int) (fs : List (Int × Int)) (w : World) (hw : WrS w B 102 g v bs 0) (hB : B ≤ w.heap.size) (hl : bs.length + 4 * fs.length ≤ 10000000) (hf : ∀ x ∈ fs, nfitB x.1 x.2 = true ∧ x.2 ≤ 4) :
    Gives Try.prog 35 #[.agg #[.pointer (some ⟨g, 0, none⟩)], .slice (some ⟨w.heap.size, 0, none⟩) fs.length fs.length] (w.alloc (.cells (fs.map rowC).flatten.toArray 61)) fun u w' => ∃ v', WrS w' B 102 g v' (bs ++ fldB fs) 0 ∧ Kb (WrS.blocks g v) w w' := by
  have ba : Below w.heap.size w (w.alloc (.cells (fs.map rowC).flatten.toArray 61)) := (Below.refl _ w).alloc (Nat.le_refl _) _
  have hw2 := hw.keep ba
  refine (hd_all B g v bs w.heap.size fs.length fs.length fs _ hw2 (rdp_alloc w (fs.map rowC) 61 (s := 2) (rowC_len _)) rfl (fun hm => by have := (hw.low' _ hm).2; omega) (by simp) (by simp; omega) hl hf).mono fun u w' ⟨v', h1, h2⟩ => ?_
  exact ⟨v', h1, (Kb.of_below (S := WrS.blocks g v) ba).trans h2 (fun k hk => .inl hk)⟩
def hpE (q : HeadP) (zs : List Int) : Int := if putH q zs then 0 else 2
def hpV (q : HeadP) (zs : List Int) : List Int := if putH q zs then sealL (headB q ++ zs) else []
def fldH (q : HeadP) : List (Int × Int) := [(1, 1), (q.st, 2), (q.fr, 4), (q.ix, 1), (q.n, 1), ((q.rows.length : Int), 1), (q.dl, 4)]
theorem fldH_B (q : HeadP) : fldB (fldH q) ++ cntB q.rows = headB q := by
  unfold fldB fldH headB
  simp only [List.flatMap_cons, List.flatMap_nil, List.append_assoc, List.append_nil, List.nil_append]
  rfl
theorem fldH_fit {q : HeadP} (h : rightH q = true) : ∀ x ∈ fldH q, nfitB x.1 x.2 = true ∧ x.2 ≤ 4 := by
  have hr := rightH_iff.1 h
  obtain ⟨l1, l2, l3, -, -⟩ := layOk_parts hr.lay
  have h1 := hr.ix
  have h2 := hr.st
  have h3 := hr.fr
  have h4 := hr.dl
  intro x hx
  simp only [fldH, List.mem_cons, List.not_mem_nil, or_false] at hx
  rcases hx with rfl | rfl | rfl | rfl | rfl | rfl | rfl
  · exact ⟨hd_fits (s := 1) ⟨rfl, by omega, by omega⟩ ⟨by omega, by decide⟩, by decide⟩
  · exact ⟨hd_fits (s := 2) ⟨rfl, by omega, by omega⟩ ⟨by omega, by simp; omega⟩, by simp⟩
  · exact ⟨hd_fits (s := 4) ⟨rfl, by omega, by omega⟩ ⟨by omega, by simp; omega⟩, by simp⟩
  · exact ⟨hd_fits (s := 1) ⟨rfl, by omega, by omega⟩ ⟨by omega, by simp; omega⟩, by simp⟩
  · exact ⟨hd_fits (s := 1) ⟨rfl, by omega, by omega⟩ ⟨by omega, by simp; omega⟩, by simp⟩
  · exact ⟨hd_fits (s := 1) ⟨rfl, by omega, by omega⟩ ⟨by omega, by simp; omega⟩, by simp⟩
  · exact ⟨hd_fits (s := 4) ⟨rfl, by omega, by omega⟩ ⟨by omega, by simp; omega⟩, by simp⟩
theorem fldH_len (q : HeadP) : (fldB (fldH q)).length = 14 := by
  unfold fldB fldH
  simp only [List.flatMap_cons, List.flatMap_nil, List.length_append, numBytes_len]
  rfl
set_option maxHeartbeats 4000000 in
theorem hd_Put (d : HeadV) (A : Option Addr) (n c : Nat) (zs : List Int) (w : World) (hd : HeadOk w d) (ha : Rd w .u8 A zs) (hn : n = zs.length) (hz : AllB zs) :
    Gives Try.prog 13 #[.agg d.cells.toArray, .slice A n c] w fun v w' => ∃ s, v = .tuple #[s, .int .i64 (hpE d.q zs)] ∧ OwnK w' w.heap.size 5 .u8 s (hpV d.q zs) ∧ Below w.heap.size w w' := by
  have hl := hd.2.1
  have hl9 := hd.2.2.1
  have hB0 := bk_new w d.cells 28
  have hb0 : Below w.heap.size w (w.alloc (.cells d.cells.toArray 28)) := (Below.refl _ w).alloc (Nat.le_refl _) _
  have hd0 := hd.keep hb0
  refine gives_enter Try.call13 Try.func13 rfl rfl rfl (by kernel_rfl) ?_
  refine v_seq ?_
  refine v_region ?_
  refine vl_val (os_box rfl) ?_
  refine vl_val (os_assign rfl) ?_
  refine vl_val (os_assign rfl) ?_
  refine vl_nil ?_
  refine v_seq ?_
  refine v_seq ?_
  refine v_region ?_
  refine vl_val (os_fa (o := 3) (k := 0) (by kernel_rfl) rfl) ?_
  refine vl_val (os_load Try.isAgg3 rfl (hB0.cell (i := 3) rfl)) ?_
  refine vl_val (os_fa (o := 5) (k := 0) (by kernel_rfl) rfl) ?_
  refine vl_val (os_load Try.isAgg26 rfl (hB0.cell (i := 5) rfl)) ?_
  refine vl_call (lay_Long d.q.n d.A d.l d.c d.q.rows _ hd0.1 hl (by omega)) rfl ?_
  rintro v1 w1 ⟨rfl, b1⟩
  have hB1 := hB0.keep b1
  have hd1 := hd0.keep b1
  have b1w := hb0.trans (b1.mono hb0.size)
  refine vl_val (os_move rfl) ?_
  refine vl_val (os_extract rfl rfl) ?_
  refine vl_val (os_extract rfl rfl) ?_
  refine vl_val (os_assign rfl) ?_
  refine vl_val (os_assign rfl) ?_
  refine vl_nil ?_
  cases hr : rightH d.q
  · refine v_seq ?_
    refine v_region ?_
    refine vl_val (os_loadB Try.underlying28 rfl (by kernel_rfl) rfl (hB1)) ?_
    refine vl_call (gives_boolb (hd_Right d _ hd1) hr) rfl ?_
    rintro v2 w2 ⟨rfl, b2⟩
    have hp : putH d.q zs = false := by unfold putH; rw [hr]; rfl
    refine vl_val (os_not rfl) ?_
    refine vl_val (os_move rfl) ?_
    refine vl_skip rfl rfl ?_
    refine vl_skip rfl rfl ?_
    refine vl_skip rfl rfl ?_
    refine vl_skip rfl rfl ?_
    refine vl_val (os_pick_t rfl rfl) ?_
    refine vl_nil ?_
    refine v_cond_t rfl ?_
    refine v_seq ?_
    refine v_region ?_
    refine vl_val (os_assign rfl) ?_
    refine vl_val (os_assign rfl) ?_
    refine vl_nil ?_
    refine v_ret ?_
    exact post_ret2 rfl rfl rfl (⟨.slice none 0 0, by simp [hpE, hp], by simp only [hpV, hp]; exact Own.nil _ _ _, b1w.trans (b2.mono b1w.size)⟩)
  · by_cases hlg : (n : Int) = longV d.q.n d.q.rows
    · have hp : putH d.q zs = true := by unfold putH; rw [hr, ← hn, hlg]; simp
      refine v_seq ?_
      refine v_region ?_
      refine vl_val (os_loadB Try.underlying28 rfl (by kernel_rfl) rfl (hB1)) ?_
      refine vl_call (gives_boolb (hd_Right d _ hd1) hr) rfl ?_
      rintro v2 w2 ⟨rfl, b2⟩
      refine vl_val (os_not rfl) ?_
      refine vl_val (os_move rfl) ?_
      refine vl_valg rfl (os_move rfl) ?_
      refine vl_valg rfl (os_len Try.underlying22 rfl) ?_
      refine vl_valg rfl (os_move rfl) ?_
      refine vl_valg rfl (os_neq rfl rfl) ?_
      refine vl_val (os_pick_f rfl rfl) ?_
      refine vl_nil ?_
      refine v_cond_no rfl (fun h => h hlg) ?_
      have hrr := rightH_iff.1 hr
      obtain ⟨l1, l2, l3, l4, l5⟩ := layOk_parts hrr.lay
      have hn7 : n ≤ 600000 := by have h1 := (offS_bd (rows := d.q.rows) d.q.rows.length).2; unfold longV at hlg; rw [if_pos hrr.lay] at hlg; omega
      have hB2 := hB1.keep b2
      have b2w := b1w.trans (b2.mono b1w.size)
      have hR0 := hB2.lt
      refine v_skip ?_
      refine v_seq ?_
      refine v_region ?_
      refine vl_call (pk_New w2) rfl ?_
      rintro v3 w3 ⟨g, rfl, hW3, b3⟩
      obtain ⟨B, hBB⟩ : ∃ B, B = w2.heap.size := ⟨_, rfl⟩
      rw [← hBB] at hW3 hR0 b3
      have hB3 := hB2.below b3 hR0
      have b3w := b2w.trans (b3.mono (by have := b2w.size; omega))
      have sB3 : B ≤ w3.heap.size := by rw [hBB]; exact b3.size
      refine vl_val (os_build (cs := [.pointer (some ⟨g, 0, none⟩)]) rfl (by kernel_rfl)) ?_
      refine vl_val (os_allocB Try.zeroValue58 (zc := _) (cs := [.pointer none]) rfl) ?_
      have hP3 := bk_new w3 [.pointer none] 58
      have b4a : Below w3.heap.size w3 (w3.alloc (.cells [Value.pointer none].toArray 58)) := (Below.refl _ _).alloc (Nat.le_refl _) _
      refine vl_unit (ou_storeB (by kernel_rfl) rfl rfl hP3 rfl rfl) ?_
      have hP4 := setRow_bk hP3 [.pointer (some ⟨g, 0, none⟩)]
      have b4 := below_setRow b4a (Nat.le_refl _) [Value.pointer (some ⟨g, 0, none⟩)].toArray
      obtain ⟨P, hP⟩ : ∃ P, P = w3.heap.size := ⟨_, rfl⟩
      obtain ⟨w4, hw4⟩ : ∃ w4, w4 = (w3.alloc (.cells [Value.pointer none].toArray 58)).setRow w3.heap.size [Value.pointer (some ⟨g, 0, none⟩)].toArray := ⟨_, rfl⟩
      rw [← hw4] at hP4 b4
      rw [← hw4, ← hP]
      rw [← hP] at hP4
      have hW4 := hW3.keep b4
      have hB4 := hB3.keep b4
      have b4w := b3w.trans (b4.mono b3w.size)
      have sB4 : B ≤ w4.heap.size := by have := b4.size; omega
      refine vl_nil ?_
      refine v_seq ?_
      refine v_region ?_
      refine vl_val (os_loadB Try.underlying58 rfl (by kernel_rfl) rfl (hP4)) ?_
      refine vl_val (os_build (cs := [.int .i64 1, .int .i64 1]) rfl (by kernel_rfl)) ?_
      refine vl_val (os_fa (o := 0) (k := 0) (by kernel_rfl) rfl) ?_
      refine vl_val (os_load Try.isAgg3 rfl (hB4.cell (i := 0) rfl)) ?_
      refine vl_val (os_build (cs := [.int .i64 d.q.st, .int .i64 2]) rfl (by kernel_rfl)) ?_
      refine vl_val (os_fa (o := 1) (k := 0) (by kernel_rfl) rfl) ?_
      refine vl_val (os_load Try.isAgg3 rfl (hB4.cell (i := 1) rfl)) ?_
      refine vl_val (os_build (cs := [.int .i64 d.q.fr, .int .i64 4]) rfl (by kernel_rfl)) ?_
      refine vl_val (os_fa (o := 2) (k := 0) (by kernel_rfl) rfl) ?_
      refine vl_val (os_load Try.isAgg3 rfl (hB4.cell (i := 2) rfl)) ?_
      refine vl_val (os_build (cs := [.int .i64 d.q.ix, .int .i64 1]) rfl (by kernel_rfl)) ?_
      refine vl_val (os_fa (o := 3) (k := 0) (by kernel_rfl) rfl) ?_
      refine vl_val (os_load Try.isAgg3 rfl (hB4.cell (i := 3) rfl)) ?_
      refine vl_val (os_build (cs := [.int .i64 d.q.n, .int .i64 1]) rfl (by kernel_rfl)) ?_
      refine vl_val (os_fa (o := 5) (k := 0) (by kernel_rfl) rfl) ?_
      refine vl_val (os_load Try.isAgg26 rfl (hB4.cell (i := 5) rfl)) ?_
      refine vl_val (os_len Try.underlying26 rfl) ?_
      refine vl_val (os_build (cs := [.int .i64 (d.l : Int), .int .i64 1]) rfl (by kernel_rfl)) ?_
      refine vl_val (os_fa (o := 4) (k := 0) (by kernel_rfl) rfl) ?_
      refine vl_val (os_load Try.isAgg3 rfl (hB4.cell (i := 4) rfl)) ?_
      refine vl_val (os_build (cs := [.int .i64 d.q.dl, .int .i64 4]) rfl (by kernel_rfl)) ?_
      refine vl_val (os_litS (css := (fldH d.q).map rowC) Try.underlying103 Try.sizeOf61 Try.zeroValue61 (by rw [hl]; rfl) rfl (rowC_len _) (by decide) (by decide) (by decide)) ?_
      refine vl_call (hd_allL B g _ [] (fldH d.q) w4 hW4 sB4 (by simp [fldH]) (fldH_fit hr)) rfl ?_
      rintro v5 w5 ⟨u5, hW5, k5⟩
      have b5 := hW4.below' k5
      have hB5 := hB4.below b5 hR0
      have hP5 := hP4.kb k5 (hW4.other hP4 (by decide) (by decide))
      have b5w := b4w.trans (b5.mono (by have := b2w.size; omega))
      have sB5 : B ≤ w5.heap.size := by have := k5.size; omega
      refine vl_nil ?_
      refine v_seq ?_
      refine v_seq ?_
      refine v_region ?_
      refine vl_val (os_fa (o := 5) (k := 0) (by kernel_rfl) rfl) ?_
      refine vl_val (os_load Try.isAgg26 rfl (hB5.cell (i := 5) rfl)) ?_
      refine vl_val (os_len Try.underlying26 rfl) ?_
      refine vl_val (os_move rfl) ?_
      refine vl_nil ?_
      refine v_block ?_
      refine v_loop [(1, _), (8, _), (56, _), (57, _)] (fun (i : Nat) => [(58, .int .i64 i)]) (fun i w' => i ≤ d.l ∧ (∃ v, WrS w' B 102 g v (fldB (fldH d.q) ++ cntB (d.q.rows.take i)) 0) ∧ Bk w' P [.pointer (some ⟨g, 0, none⟩)] 58 ∧ Below w.heap.size w w' ∧ B ≤ w'.heap.size) (fun i => d.l - i) (0) ⟨rfl, rfl, rfl, rfl, trivial⟩ ⟨rfl, trivial⟩ (⟨by omega, ⟨u5, by have h := hW5; simp only [List.nil_append] at h; simpa [cntB] using h⟩, hP5, b5w, sB5⟩) ?_
      rintro i w6 ⟨hi, ⟨v6, hW6⟩, hP6, b6w, sB6⟩
      refine v_seq ?_
      refine v_region ?_
      refine vl_val (os_lss rfl rfl) ?_
      refine vl_nil ?_
      refine v_seq ?_
      refine v_cond_d rfl (fun h => ?_) (fun h => ?_)
      · obtain ⟨b, o, eA, q1, q2, q3⟩ := (hd.keep b6w).1.at2 (i := i) (by omega)
        have hbd := rows_bd hrr.lay (d.q.rows.getD i (0, 0)) (by rw [List.getD_eq_getElem?_getD, List.getElem?_eq_getElem (by omega)]; exact List.getElem_mem _)
        have hsu := cntB_suc (cs := d.q.rows) (i := i) (by omega)
        have hlk : (fldB (fldH d.q) ++ cntB (d.q.rows.take i)).length ≤ 1000 := by rw [List.length_append, fldH_len, cntB_len, List.length_take]; omega
        obtain ⟨X, hX⟩ : ∃ X, (d.q.rows.getD i (0, 0)).1 = X := ⟨_, rfl⟩
        obtain ⟨Y, hY⟩ : ∃ Y, (d.q.rows.getD i (0, 0)).2 = Y := ⟨_, rfl⟩
        unfold rowC at q3
        rw [hX, hY] at q3 hbd hsu
        rw [eA]
        refine v_skip ?_
        refine v_seq ?_
        refine v_block ?_
        refine v_seq ?_
        refine v_region ?_
        refine vl_val (os_ixs Try.underlying26 Try.sizeOf41 rfl rfl (i := i) (by omega) (by omega)) ?_
        refine vl_val (os_loadP Try.underlying41 rfl (by kernel_rfl) rfl q3) ?_
        refine vl_val (os_allocB Try.zeroValue41 (zc := _) (cs := [.int .i64 0, .int .i64 0]) rfl) ?_
        have hC0 := bk_new w6 [.int .i64 0, .int .i64 0] 41
        have c1 : Below w6.heap.size w6 (w6.alloc (.cells [Value.int .i64 0, .int .i64 0].toArray 41)) := (Below.refl _ _).alloc (Nat.le_refl _) _
        refine vl_unit (ou_storeB (by kernel_rfl) rfl rfl hC0 rfl rfl) ?_
        have hC2 := setRow_bk hC0 [.int .i64 X, .int .i64 Y]
        have c2 := below_setRow c1 (Nat.le_refl _) [Value.int .i64 X, .int .i64 Y].toArray
        have hW7 := hW6.keep c2
        have hP7 := hP6.keep c2
        have b7w := b6w.trans (c2.mono b6w.size)
        have sB7 := Nat.le_trans sB6 c2.size
        generalize hw7 : (w6.alloc (.cells [Value.int .i64 0, .int .i64 0].toArray 41)).setRow w6.heap.size [Value.int .i64 X, .int .i64 Y].toArray = w7 at hW7 hP7 b7w sB7 hC2
        have hw7' : (w6.alloc (.cells [Value.int .i64 0, .int .i64 0].toArray 41)).setRow w6.heap.size [Value.int .i64 X, .int .i64 Y].toArray = w7 := hw7
        skip
        refine vl_nil ?_
        refine v_region ?_
        refine vl_val (os_loadB Try.underlying58 rfl (by kernel_rfl) rfl (hP7)) ?_
        refine vl_val (os_fa (o := 0) (k := 0) (by kernel_rfl) rfl) ?_
        refine vl_val (os_load Try.isAgg3 rfl (hC2.cell (i := 0) rfl)) ?_
        refine vl_val (os_build (cs := [.int .i64 X, .int .i64 1]) rfl (by kernel_rfl)) ?_
        refine vl_val (os_fa (o := 1) (k := 0) (by kernel_rfl) rfl) ?_
        refine vl_val (os_load Try.isAgg3 rfl (hC2.cell (i := 1) rfl)) ?_
        refine vl_val (os_build (cs := [.int .i64 Y, .int .i64 2]) rfl (by kernel_rfl)) ?_
        refine vl_val (os_litS (css := [(X, 1), (Y, 2)].map rowC) Try.underlying103 Try.sizeOf61 Try.zeroValue61 rfl rfl (rowC_len _) (by decide) (by decide) (by decide)) ?_
        refine vl_call (hd_allL B g _ _ [(X, 1), (Y, 2)] w7 hW7 sB7 (by simp only [List.length_cons, List.length_nil]; omega) (by intro x hx; simp only [List.mem_cons, List.not_mem_nil, or_false] at hx; rcases hx with rfl | rfl; (exact ⟨hd_fits (s := 1) ⟨rfl, by omega, by omega⟩ ⟨by omega, by simp; omega⟩, by simp⟩); (exact ⟨hd_fits (s := 2) ⟨rfl, by omega, by omega⟩ ⟨by omega, by simp; omega⟩, by simp⟩))) rfl ?_
        rintro v8 w8 ⟨u8, hW8, k8⟩
        have b8 := hW7.below' k8
        have hP8 := hP7.kb k8 (hW7.other hP7 (by decide) (by decide))
        have b8w := b7w.trans (b8.mono (by have := b2w.size; omega))
        refine vl_nil ?_
        refine v_region ?_
        refine vl_val (os_addi rfl rfl (by omega)) ?_
        refine vl_val (os_move rfl) ?_
        refine vl_nil ?_
        exact ⟨i + 1, ⟨rfl, rfl, rfl, rfl, trivial⟩, ⟨rfl, trivial⟩, ⟨by omega, ⟨u8, by rw [hsu, ← List.append_assoc]; exact (show fldB [(X, 1), (Y, 2)] = numBytes X 1 ++ numBytes Y 2 by simp [fldB]) ▸ hW8⟩, hP8, b8w, Nat.le_trans sB7 k8.size⟩, by dsimp only; omega⟩
      · obtain rfl : i = d.l := by omega
        rw [List.take_of_length_le (by omega), fldH_B] at hW6
        refine v_exit ?_
        refine v_seq ?_
        refine v_region ?_
        refine vl_val (os_fa (o := 0) (k := 0) (by kernel_rfl) rfl) ?_
        refine vl_val (os_load Try.isAgg55 rfl (hP6.cell (i := 0) rfl)) ?_
        have hhl := headB_len d.q
        refine vl_val (os_move rfl) ?_
        refine vl_call (pk_Put g v6 (headB d.q) 0 B A n c zs w6 hW6 (ha.keep b6w) hn sB6 (by omega)) rfl ?_
        rintro v7 w7 ⟨u7, hW7, k7, -⟩
        simp only [if_true] at hW7
        have b7 := hW6.below' k7
        have b7w := b6w.trans (b7.mono (by have := b2w.size; omega))
        have hP7 := hP6.kb k7 (hW6.other hP6 (by decide) (by decide))
        refine vl_nil ?_
        refine v_seq ?_
        refine v_region ?_
        refine vl_val (os_fa (o := 0) (k := 0) (by kernel_rfl) rfl) ?_
        refine vl_val (os_load Try.isAgg55 rfl (hP7.cell (i := 0) rfl)) ?_
        have hal : (headB d.q ++ zs).length = 14 + 3 * d.q.rows.length + n := by rw [List.length_append, hhl, hn]
        refine vl_call (pk_Bytes g u7 _ 0 B w7 hW7 (by omega)) rfl ?_
        rintro v8 w8 ⟨s8, rfl, o8, b8⟩
        simp only [if_true] at o8
        obtain ⟨A9, c9, rfl, hc9, hm9, r9, -⟩ := OwnK.form o8
        have b8w := b7w.trans (b8.mono b7w.size)
        refine vl_val (os_move rfl) ?_
        refine vl_val (os_extract rfl rfl) ?_
        refine vl_val (os_extract rfl rfl) ?_
        refine vl_val (os_assign rfl) ?_
        refine vl_val (os_assign rfl) ?_
        refine vl_nil ?_
        refine v_seq ?_
        refine v_region ?_
        refine vl_val (os_move rfl) ?_
        refine vl_call (sum_Seal A9 _ c9 (headB d.q ++ zs) w8 r9 rfl hc9 (by omega) (fun z hm => by rcases List.mem_append.1 hm with hm | hm; (exact headB_Y z hm); (exact hz z hm))) rfl ?_
        rintro v9 w9 ⟨o9, b9⟩
        refine vl_val (os_move rfl) ?_
        refine vl_val (os_assign rfl) ?_
        refine vl_val (os_assign rfl) ?_
        refine vl_nil ?_
        refine v_ret ?_
        exact post_ret2 rfl rfl rfl (⟨_, by unfold hpE; rw [hp]; rfl, by unfold hpV; rw [hp]; exact Own.mono o9 b8w.size, b8w.trans (b9.mono b8w.size)⟩)
    · have hp : putH d.q zs = false := by unfold putH; rw [← hn, decide_eq_false hlg, Bool.and_false]
      refine v_seq ?_
      refine v_region ?_
      refine vl_val (os_loadB Try.underlying28 rfl (by kernel_rfl) rfl (hB1)) ?_
      refine vl_call (gives_boolb (hd_Right d _ hd1) hr) rfl ?_
      rintro v2 w2 ⟨rfl, b2⟩
      refine vl_val (os_not rfl) ?_
      refine vl_val (os_move rfl) ?_
      refine vl_valg rfl (os_move rfl) ?_
      refine vl_valg rfl (os_len Try.underlying22 rfl) ?_
      refine vl_valg rfl (os_move rfl) ?_
      refine vl_valg rfl (os_neq rfl rfl) ?_
      refine vl_val (os_pick_f rfl rfl) ?_
      refine vl_nil ?_
      refine v_cond_yes rfl (hlg) ?_
      refine v_seq ?_
      refine v_region ?_
      refine vl_val (os_assign rfl) ?_
      refine vl_val (os_assign rfl) ?_
      refine vl_nil ?_
      refine v_ret ?_
      exact post_ret2 rfl rfl rfl (⟨.slice none 0 0, by simp [hpE, hp], by simp only [hpV, hp]; exact Own.nil _ _ _, b1w.trans (b2.mono b1w.size)⟩)
end Go.Proofs.Ytlfkhnchceoinaa

/- Layer 11: the contract of size.Fits. -/
namespace Go.Proofs.Ytlfkhnchceoinaa
open Go.RowKit
set_option linter.unusedVariables false

theorem errE_ne {b : Bool} : errE b ≠ 0 ↔ b = false := by cases b <;> simp [errE]
theorem lens_bd {ls : List Int} (h : lensB ls = true) : 1 ≤ ls.length ∧ ls.length ≤ 8 ∧ ∀ k, k < ls.length → 0 ≤ ls.getD k 0 ∧ ls.getD k 0 ≤ 65535 := by
  simp only [lensB, Bool.and_eq_true, Bool.not_eq_true', List.any_eq_false, betw, decide_eq_true_eq] at h
  refine ⟨by omega, by omega, fun k hk => ?_⟩
  have := h.2 ls[k] (List.getElem_mem _)
  simpa [hk] using this

end Go.Proofs.Ytlfkhnchceoinaa

/- Layer 11, plain law: what fits, fits with more room, with less in a layer, with a greater last threshold. No program in sight. -/
namespace Go.Proofs.Ytlfkhnchceoinaa

theorem sumW_le : ∀ (zs ys : List (Int × Int)), ys.length = zs.length → (∀ i, i < zs.length → widthW (ys.getD i (0, 0)).1 (ys.getD i (0, 0)).2 ≤ widthW (zs.getD i (0, 0)).1 (zs.getD i (0, 0)).2) → sumW ys ≤ sumW zs
  | [], [], _, _ => by simp [sumW]
  | [], _ :: _, h, _ => by simp at h
  | _ :: _, [], h, _ => by simp at h
  | z :: zs, y :: ys, h, hi => by
    have h0 := hi 0 (by simp)
    have := sumW_le zs ys (by simpa using h) fun i hl => by have := hi (i + 1) (by simpa using hl); simpa using this
    simp only [sumW]
    simp at h0
    omega

theorem zip_getD {a b : List Int} {i : Nat} (ha : i < a.length) (hb : i < b.length) : (a.zip b).getD i (0, 0) = (a.getD i 0, b.getD i 0) := by
  rw [List.getD_eq_getElem?_getD, List.getElem?_eq_getElem (by rw [List.length_zip]; omega)]
  simp [ha, hb]

theorem fits_iff {n m b : Int} {lens ks : List Int} : fitsB n m b lens ks = true ↔ roomOk n m b lens.length = true ∧ lensB lens = true ∧ ks.length = lens.length ∧ sortedB ks = true ∧
    (∀ i, i < lens.length → 1 ≤ ks.getD i 0 ∧ ks.getD i 0 ≤ n) ∧ sumW (lens.zip ks) ≤ roomW n m b lens.length := by
  unfold fitsB
  simp only [Bool.and_eq_true, decide_eq_true_eq, fitGo_iff]
  constructor
  · rintro ⟨⟨⟨⟨h1, h2⟩, h3⟩, h4⟩, h5, h6⟩
    refine ⟨h1, h2, h3, h4, fun i hi => ?_, ?_⟩
    · have := h5 (lens.getD i 0, ks.getD i 0) (by
        rw [← zip_getD hi (by omega)]
        rw [List.getD_eq_getElem?_getD, List.getElem?_eq_getElem (by rw [List.length_zip]; omega)]
        exact List.getElem_mem _)
      simp only [widthOk, decide_eq_true_eq] at this
      omega
    · rcases h6 with h6 | h6
      · have : lens.length = 0 := by
          have := congrArg List.length h6
          rw [List.length_zip, h3] at this
          simpa using this
        simp [lensB, betw, this] at h2
      · exact h6
  · rintro ⟨h1, h2, h3, h4, h5, h6⟩
    refine ⟨⟨⟨⟨h1, h2⟩, h3⟩, h4⟩, fun p hp => ?_, .inr h6⟩
    obtain ⟨i, hi, rfl⟩ := List.mem_iff_getElem.1 hp
    rw [List.length_zip] at hi
    have h7 := h5 i (by omega)
    have h8 : rightB n m b = true := by simp only [roomOk, Bool.and_eq_true] at h1; exact h1.1
    simp only [rightB, decide_eq_true_eq] at h8
    simp only [lensB, Bool.and_eq_true, Bool.not_eq_true', List.any_eq_false, betw, decide_eq_true_eq] at h2
    have h9 := h2.2 lens[i] (List.getElem_mem _)
    have e1 : ks.getD i 0 = ks[i] := by simp [show i < ks.length by omega]
    rw [e1] at h7
    simp only [List.getElem_zip, widthOk, decide_eq_true_eq]
    simp at h9
    omega

theorem getD_set_eq (l : List Int) (k : Nat) (v : Int) (i : Nat) (hi : i < l.length) : (l.set k v).getD i 0 = if k = i then v else l.getD i 0 := by
  simp [List.getElem?_set, hi]
  split <;> simp_all

theorem fits_room {n m b m' b' : Int} {lens ks : List Int} (h : fitsB n m b lens ks = true) (hm : m ≤ m') (hm' : m' ≤ 1500) (hb : b ≤ b') (hb' : b' ≤ 524288) :
    fitsB n m' b' lens ks = true ∧ roomOk n m' b' lens.length = true ∧ roomW n m b lens.length ≤ roomW n m' b' lens.length := by
  rw [fits_iff] at h
  obtain ⟨h1, h2, h3, h4, h5, h6⟩ := h
  have h7 : roomOk n m' b' lens.length = true := by
    simp only [roomOk, rightB, Bool.and_eq_true, decide_eq_true_eq] at h1 ⊢
    exact ⟨by omega, h1.2⟩
  have h8 : 1 ≤ n := by simp only [roomOk, rightB, Bool.and_eq_true, decide_eq_true_eq] at h1; omega
  have h9 := room_mono (l := lens.length) h8 hm hb
  exact ⟨fits_iff.2 ⟨h7, h2, h3, h4, h5, by omega⟩, h7, h9⟩

theorem fits_nonneg {n m b : Int} {lens ks : List Int} (h : fitsB n m b lens ks = true) : 0 ≤ roomW n m b lens.length := by
  have h0 := h
  unfold fitsB at h0
  simp only [Bool.and_eq_true, decide_eq_true_eq] at h0
  have hz := (fitGo_iff _ _).1 h0.2
  have : 0 ≤ sumW (lens.zip ks) := by
    have h2 := hz.1
    generalize lens.zip ks = zs at h2
    induction zs with
    | nil => simp [sumW]
    | cons q s ih => simp only [sumW]; have := (width_bd (h2 q (by simp)).2).1; have := ih (fun p hp => h2 p (by simp [hp])); omega
  rw [fits_iff] at h
  omega

theorem fits_short {n m b : Int} {lens ks : List Int} (h : fitsB n m b lens ks = true) {k : Nat} {v : Int} (hk : k < lens.length) (h0 : 0 ≤ v) (hv : v ≤ lens.getD k 0) : fitsB n m b (lens.set k v) ks = true := by
  rw [fits_iff] at h ⊢
  obtain ⟨h1, h2, h3, h4, h5, h6⟩ := h
  rw [List.length_set]
  have hl2 : lensB (lens.set k v) = true := by
    simp only [lensB, Bool.and_eq_true, Bool.not_eq_true', List.any_eq_false, List.length_set] at h2 ⊢
    refine ⟨h2.1, fun z hz => ?_⟩
    obtain ⟨i, hi, rfl⟩ := List.mem_iff_getElem.1 hz
    rw [List.length_set] at hi
    rw [List.getElem_set]
    have h7 := h2.2 lens[k] (List.getElem_mem _)
    have h8 := h2.2 lens[i] (List.getElem_mem _)
    simp [hk] at hv
    split
    · simp [betw] at h7 ⊢; omega
    · exact h8
  refine ⟨h1, hl2, h3, h4, h5, ?_⟩
  refine Int.le_trans (sumW_le _ _ (by simp) fun i hi => ?_) h6
  rw [List.length_zip] at hi
  rw [zip_getD (by simp; omega) (by omega), zip_getD (by omega) (by omega), getD_set_eq _ _ _ _ (by omega)]
  simp only []
  split
  · rename_i he; subst he; exact width_mono hv (h5 k hk).1
  · exact Int.le_refl _

theorem fits_more {n m b : Int} {lens ks : List Int} (h : fitsB n m b lens ks = true) : fitsB n m b lens (ks.set (ks.length - 1) n) = true := by
  rw [fits_iff] at h ⊢
  obtain ⟨h1, h2, h3, h4, h5, h6⟩ := h
  have hlen : 1 ≤ lens.length := by simp only [lensB, Bool.and_eq_true, betw, decide_eq_true_eq] at h2; omega
  have hlast := h5 (ks.length - 1) (by omega)
  have hnn : ∀ i, i < lens.length → 0 ≤ lens.getD i 0 := fun i hi => by
    simp only [lensB, Bool.and_eq_true, Bool.not_eq_true', List.any_eq_false, betw, decide_eq_true_eq] at h2
    have := h2.2 lens[i] (List.getElem_mem _)
    simp at this
    simp [hi]; omega
  refine ⟨h1, h2, by rw [List.length_set, h3], ?_, fun i hi => ?_, ?_⟩
  · simp only [sortedB, decide_eq_true_eq, List.length_set] at h4 ⊢
    intro i hi hi2
    rw [getD_set_eq _ _ _ _ hi, getD_set_eq _ _ _ _ hi2, if_neg (show ¬ ks.length - 1 = i by omega)]
    split
    · exact (h5 i (by omega)).2
    · exact h4 i hi hi2
  · rw [getD_set_eq _ _ _ _ (by omega)]
    split
    · omega
    · exact h5 i hi
  · refine Int.le_trans (sumW_le _ _ (by simp) fun i hi => ?_) h6
    rw [List.length_zip] at hi
    rw [zip_getD (by omega) (by simp; omega), zip_getD (by omega) (by omega), getD_set_eq _ _ _ _ (by omega)]
    simp only []
    split
    · rename_i he; exact width_anti (hnn i (by omega)) (h5 i (by omega)).1 (h5 i (by omega)).2
    · exact Int.le_refl _
end Go.Proofs.Ytlfkhnchceoinaa

/- Layer 11: awake, and the walk of SizeMore. -/
namespace Go.Proofs.Ytlfkhnchceoinaa
open Go.RowKit
set_option linter.unusedVariables false

theorem gives_eq {P : Program} {f : FuncId} {args : Array Value} {w : World} {u v : Value} {R : World → Prop} (h : Gives P f args w fun x w' => x = u ∧ R w') (e : u = v) : Gives P f args w fun x w' => x = v ∧ R w' := by subst e; exact h

theorem pick_bd (x : Int) {n : Int} (h : 1 ≤ n) : 0 ≤ pickV x n ∧ pickV x n < n := by
  unfold pickV
  rw [if_neg (by omega)]
  exact ⟨Int.emod_nonneg x (by omega), Int.emod_lt_of_pos x (by omega)⟩

end Go.Proofs.Ytlfkhnchceoinaa

/- slices.Repeat of one number; even weights. -/
namespace Go.Proofs.Ytlfkhnchceoinaa
open Go.RowKit
set_option linter.unusedVariables false

theorem u64_in {n : Int} (h : 0 ≤ n ∧ n < 18446744073709551616) : IntKind.u64.wrap n = n := by
  simp [IntKind.wrap, IntKind.signed, IntKind.bits]; omega
theorem u64_mask {y : Int} (h : 0 ≤ y ∧ y < 4294967296) : IntKind.u64.wrap ((BitVec.ofInt 64 y &&& BitVec.ofInt 64 4294967295).toNat : Nat) = y := by
  have e : (BitVec.ofInt 64 y &&& BitVec.ofInt 64 4294967295).toNat = y.toNat := by
    rw [BitVec.toNat_and]
    have h1 : (BitVec.ofInt 64 y).toNat = y.toNat := by rw [BitVec.toNat_ofInt]; omega
    have h2 : (BitVec.ofInt 64 4294967295).toNat = 2 ^ 32 - 1 := by decide
    rw [h1, h2, Nat.and_two_pow_sub_one_eq_mod]
    omega
  rw [e, u64_in (by omega)]
  omega
theorem fdiv32 {y : Int} (h : 0 ≤ y ∧ y < 4294967296) : y.fdiv (2 ^ min (32 : Int).toNat IntKind.u64.bits) = 0 := by
  show y.fdiv (2 ^ 32) = 0
  rw [Int.fdiv_eq_ediv_of_nonneg _ (by decide)]
  omega
def repCells (n k : Nat) (z : Int) : List Value := (List.replicate n z ++ List.replicate (k - n) 0).map (Value.int .i64)
theorem repCells_len {n k : Nat} (h : n ≤ k) (z : Int) : (repCells n k z).length = k := by simp [repCells]; omega
theorem repCells_step {n k m : Nat} (h : n + m ≤ k) (z : Int) : (repCells n k z).take (0 + n) ++ (List.replicate m z).map (Value.int .i64) ++ (repCells n k z).drop (0 + n + m) = repCells (n + m) k z := by
  unfold repCells
  rw [Nat.zero_add, ← List.map_take, ← List.map_drop, ← List.map_append, ← List.map_append]
  congr 1
  have h1 : (List.replicate n z ++ List.replicate (k - n) 0).take n = List.replicate n z := by simp
  have h2 : (List.replicate n z ++ List.replicate (k - n) 0).drop (n + m) = List.replicate (k - (n + m)) 0 := by
    rw [List.drop_append]
    simp
    omega
  rw [h1, h2, List.replicate_append_replicate]
theorem repCells_rd {n k : Nat} (z : Int) {w : World} {g : Nat} {t : TypeId} (h : Bk w g (repCells n k z) t) {m : Nat} (hm : m ≤ n) : RdC w (some ⟨g, 0, none⟩) ((List.replicate m z).map (Value.int .i64)) := by
  have := (Bk.rdc h).take m
  rwa [show (repCells n k z).take m = (List.replicate m z).map (Value.int .i64) by
    unfold repCells
    rw [← List.map_take]
    congr 1
    rw [List.take_append_of_le_length (by simpa using hm), List.take_replicate, Nat.min_eq_left hm]] at this
theorem ints_one' (zs : List Int) : ∀ u ∈ zs.map (Value.int .i64), u.oneCell' = true := by
  intro u hu
  obtain ⟨z, _, rfl⟩ := List.mem_map.1 hu
  rfl

end Go.Proofs.Ytlfkhnchceoinaa

/- In a region that draws: a call of which several arguments bear facts. No program in sight. -/
namespace Go.Proofs.Ytlfkhnchceoinaa
open Go.RowKit
set_option linter.unusedVariables false

def FactsIn (ts : Ts) (look : List Nat) : List (Nat × Fact) → Prop
  | [] => True
  | (t, T) :: r => (Ts.get ts t = some T ∧ look.contains t = true) ∧ FactsIn ts look r
def AllU (K : Fr → Prop) (w : World) : List (Nat × Fact) → Fr → Prop
  | [], fr => K fr
  | (t, T) :: r, fr => ∀ u, T u w → AllU K w r ((t, u) :: fr)
theorem allU_ag {K : Fr → Prop} {n : Cx} {w : World} {a : Act} {ts : Ts} {look : List Nat} (hfs : ∀ t ∈ look, ∀ T, Ts.get ts t = some T → ∃ u, a.tmps[t]? = some u ∧ T u w) : ∀ (sl : List (Nat × Fact)) (fr : Fr), FactsIn ts look sl → AllU K w sl fr → Ag n fr a → ∃ fr', Ag n fr' a ∧ K fr'
  | [], fr, _, h, ha => ⟨fr, ha, h⟩
  | (t, T) :: r, fr, hs, h, ha => by
    obtain ⟨⟨h1, h2⟩, h3⟩ := hs
    obtain ⟨u, hu, hTu⟩ := hfs t (by simpa using h2) T h1
    refine allU_ag hfs r ((t, u) :: fr) h3 (h u hTu) ⟨ha.defers, ha.size, fun s x hs => ?_⟩
    simp only [Fr.get] at hs
    cases hb : Nat.beq t s with
    | true =>
      rw [hb] at hs
      have hts : t = s := Nat.eq_of_beq_eq_true hb
      subst hts
      rw [← hs]; exact hu
    | false => rw [hb] at hs; exact ha.at_ s x hs

section
variable {P : Program} {n : Cx} {all rest : List Oper} {le : World → World → Prop} {w0 w : World} {fr : Fr} {ts : Ts} {Q : Exit → Fr → World → Prop} {d : Nat} {op : Op} {ty : TypeId} {pos : String} {aft : Array Edge} {gw : World → Prop}
theorem vt_calls {g : Option (Nat × Bool)} {f : FuncId} {xs : List Operand} {tt : Array TypeId} (sl : List (Nat × Fact)) (v : Value)
    (hs : FactsIn ts (Oper.looksAt all.toArray ⟨some d, .call ⟨.value (.func f), xs.toArray, tt⟩, ty, pos, aft, g⟩) sl)
    (h : ∀ w, le w0 w → AllU (fun fr' => ∃ args, evL fr' xs = some args ∧ Gives P f args.toArray w (fun v' w' => v' = v ∧ le w w')) w sl fr) (k : VT P n all le w0 rest ((d, v) :: fr) ts Q gw) (hg : GOk all fr g := by first | exact True.intro | rfl)
    (hcl : clean fr ts all ⟨some d, .call ⟨.value (.func f), xs.toArray, tt⟩, ty, pos, aft, g⟩ = true := by rfl) (hts : Ts.get ts d = none := by rfl) :
    VT P n all le w0 (⟨some d, .call ⟨.value (.func f), xs.toArray, tt⟩, ty, pos, aft, g⟩ :: rest) fr ts Q gw := by
  unfold VT at k ⊢
  intro hle hok hlt htn
  obtain ⟨h1, h2⟩ := dst_lt hok rfl
  refine vt_gen (stable_eq le v) hcl htn (fun a w ha hlw hfs => ?_) (by show VTL _ _ _ _ _ _ _ (ext (lf fr ts) (some d) _) gw; rw [lf_cons hts]; exact k hle h2 (hlt.cons h1 v) htn) hlt
  rw [hg.wanted ha, if_pos rfl]
  obtain ⟨fr', ha2, args, hx, hgv⟩ := allU_ag hfs sl fr hs (h w hlw) ha
  unfold Oper.wp
  unfold Gives at hgv
  rw [execOp_bare, run_callee (first := #[]) (cap := #[]) hgv.1 rfl hx ha2]
  simp only [Array.append_empty, Array.empty_append]
  refine hgv.2.mono ?_
  rintro e w' ⟨v', rfl, h1, h2⟩
  exact ⟨v', rfl, h2, h1⟩
/-- a call, whatever its guard, of whose value a fact is known -/
theorem vt_callfg {g : Option (Nat × Bool)} {f : FuncId} {xs : List Operand} {tt : Array TypeId} {args : List Value} (U : Fact) (hU : Stable le U) (h : ∀ w, le w0 w → Gives P f args.toArray w (fun v w' => le w w' ∧ U v w')) (hx : evL fr xs = some args) (k : VT P n all le w0 rest fr ((d, U) :: ts) Q gw)
    (hg : GOk all fr g := by first | exact True.intro | rfl) (hcl : clean fr ts all ⟨some d, .call ⟨.value (.func f), xs.toArray, tt⟩, ty, pos, aft, g⟩ = true := by rfl) : VT P n all le w0 (⟨some d, .call ⟨.value (.func f), xs.toArray, tt⟩, ty, pos, aft, g⟩ :: rest) fr ts Q gw := by
  unfold VT at k ⊢
  intro hle hok hlt htn
  obtain ⟨h1, h2⟩ := dst_lt hok rfl
  refine vt_callx (first := #[]) (cap := #[]) hU rfl hx (fun w hw => ?_) hcl (fun a ha => hg.wanted ha) hlt htn (by rw [lf_fact]; exact k hle h2 hlt (ts_keep htn h1 U))
  simp only [Array.append_empty, Array.empty_append]
  exact h w hw
/-- a call of which several arguments bear facts, of whose value a fact is known -/
theorem vt_callsg {g : Option (Nat × Bool)} {f : FuncId} {xs : List Operand} {tt : Array TypeId} (sl : List (Nat × Fact)) (U : Fact) (hU : Stable le U)
    (hs : FactsIn ts (Oper.looksAt all.toArray ⟨some d, .call ⟨.value (.func f), xs.toArray, tt⟩, ty, pos, aft, g⟩) sl)
    (h : ∀ w, le w0 w → AllU (fun fr' => ∃ args, evL fr' xs = some args ∧ Gives P f args.toArray w (fun v' w' => le w w' ∧ U v' w')) w sl fr) (k : VT P n all le w0 rest fr ((d, U) :: ts) Q gw) (hg : GOk all fr g := by first | exact True.intro | rfl)
    (hcl : clean fr ts all ⟨some d, .call ⟨.value (.func f), xs.toArray, tt⟩, ty, pos, aft, g⟩ = true := by rfl) :
    VT P n all le w0 (⟨some d, .call ⟨.value (.func f), xs.toArray, tt⟩, ty, pos, aft, g⟩ :: rest) fr ts Q gw := by
  unfold VT at k ⊢
  intro hle hok hlt htn
  obtain ⟨h1, h2⟩ := dst_lt hok rfl
  refine vt_gen hU hcl htn (fun a w ha hlw hfs => ?_) (by show VTL _ _ _ _ _ _ _ (ext (lf fr ts) (some d) _) gw; rw [lf_fact]; exact k hle h2 hlt (ts_keep htn h1 U)) hlt
  rw [hg.wanted ha, if_pos rfl]
  obtain ⟨fr', ha2, args, hx, hgv⟩ := allU_ag hfs sl fr hs (h w hlw) ha
  unfold Oper.wp
  unfold Gives at hgv
  rw [execOp_bare, run_callee (first := #[]) (cap := #[]) hgv.1 rfl hx ha2]
  simp only [Array.append_empty, Array.empty_append]
  refine hgv.2.mono ?_
  rintro e w' ⟨v', rfl, h1, h2⟩
  exact ⟨v', rfl, h1, h2⟩
/-- an operation, whatever its guard, that looks at a slot of which a fact is known -/
theorem vt_useg {g : Option (Nat × Bool)} (t : Nat) {T : Fact} (hT : Ts.get ts t = some T) (U : Fact) (hU : Stable le U) (h : ∀ u w, le w0 w → T u w → OT P n op ty ((t, u) :: fr) w (fun v w' => le w w' ∧ U v w')) (k : VT P n all le w0 rest fr ((d, U) :: ts) Q gw)
    (hg : GOk all fr g := by first | exact True.intro | rfl) (ht : (Oper.looksAt all.toArray ⟨some d, op, ty, pos, aft, g⟩).contains t = true := by rfl) (hcl : clean fr ts all ⟨some d, op, ty, pos, aft, g⟩ = true := by rfl) : VT P n all le w0 (⟨some d, op, ty, pos, aft, g⟩ :: rest) fr ts Q gw := by
  unfold VT at k ⊢
  intro hle hok hlt htn
  obtain ⟨h1, h2⟩ := dst_lt hok rfl
  refine vt_run hU hcl hlt htn (fun a ha => hg.wanted ha) (fun a w ha hlw hfs => ?_) (by rw [lf_fact]; exact k hle h2 hlt (ts_keep htn h1 U))
  obtain ⟨u, hu, hTu⟩ := hfs t (by simpa using ht) T hT
  have := h u w hlw hTu
  unfold OT at this
  refine this a ⟨ha.defers, ha.size, fun s x hs => ?_⟩
  simp only [Fr.get] at hs
  cases hb : Nat.beq t s with
  | true =>
    rw [hb] at hs
    have hts : t = s := Nat.eq_of_beq_eq_true hb
    subst hts
    rw [← hs]; exact hu
  | false => rw [hb] at hs; exact ha.at_ s x hs
end
/-- a list of numbers that a region lays -/
def IsRow (k : IntKind) (zs : List Int) : Fact := fun v w => ∃ A c, v = .slice A zs.length c ∧ Rd w k A zs
theorem isRow_stable (k : IntKind) (zs : List Int) : Stable LeG (IsRow k zs) := fun v w w' h ⟨A, c, e, r⟩ => ⟨A, c, e, r.keep h⟩
theorem isRow_lit (k : IntKind) (w : World) (zs : List Int) (e : TypeId) : LeG w (w.alloc (.cells (zs.map (Value.int k)).toArray e)) ∧ IsRow k zs (.slice (some ⟨w.heap.size, 0, none⟩) zs.length zs.length) (w.alloc (.cells (zs.map (Value.int k)).toArray e)) :=
  ⟨(Below.refl _ _).alloc (Nat.le_refl _) _, _, _, rfl, rd_alloc w k zs e⟩
end Go.Proofs.Ytlfkhnchceoinaa

/- Layer 11: what can fit at all; the walk of SizeGreatest. -/
namespace Go.Proofs.Ytlfkhnchceoinaa
open Go.RowKit
set_option linter.unusedVariables false

def canB (n m b : Int) (lens : List Int) : Bool := rightB n m b && fitsB n m b lens (List.replicate lens.length n)
theorem sumW_mono : ∀ (lens ks js : List Int), ks.length = lens.length → js.length = lens.length → (∀ i, i < lens.length → 0 ≤ lens.getD i 0 ∧ 1 ≤ ks.getD i 0 ∧ ks.getD i 0 ≤ js.getD i 0) → sumW (lens.zip js) ≤ sumW (lens.zip ks)
  | [], _, _, _, _, _ => by simp [sumW]
  | x :: lens, k :: ks, j :: js, h1, h2, h => by
    have h0 := h 0 (by simp)
    simp at h0
    have ih := sumW_mono lens ks js (by simpa using h1) (by simpa using h2) (fun i hi => by have := h (i + 1) (by simpa using hi); simpa using this)
    have := width_anti h0.1 h0.2.1 h0.2.2
    simp only [List.zip_cons_cons, sumW]
    omega
  | x :: lens, [], _, h1, _, _ => by simp at h1
  | x :: lens, _ :: _, [], _, h2, _ => by simp at h2
theorem lens_at {ls : List Int} (h : lensB ls = true) : ∀ i, i < ls.length → 0 ≤ ls.getD i 0 ∧ ls.getD i 0 ≤ 65535 := (lens_bd h).2.2
/-- if any thresholds fit, those do that are all n -/
theorem fits_can {n m b : Int} {lens ks : List Int} (h : fitsB n m b lens ks = true) : canB n m b lens = true := by
  obtain ⟨h1, h2, h3, h4, h5, h6⟩ := fits_iff.1 h
  have hr : rightB n m b = true := by simp only [roomOk, Bool.and_eq_true] at h1; exact h1.1
  have hn := right_bd hr
  have hrep : ∀ i, i < lens.length → (List.replicate lens.length n).getD i 0 = n := fun i hi => by simp [hi]
  refine Bool.and_eq_true_iff.2 ⟨hr, fits_iff.2 ⟨h1, h2, by simp, ?_, fun i hi => by rw [hrep i hi]; omega, ?_⟩⟩
  · simp only [sortedB, decide_eq_true_eq, List.length_replicate]
    intro i hi hi2
    rw [hrep i hi, hrep _ hi2]; omega
  · exact Int.le_trans (sumW_mono lens ks _ h3 (by simp) (fun i hi => ⟨(lens_at h2 i hi).1, (h5 i hi).1, by rw [hrep i hi]; exact (h5 i hi).2⟩)) h6
def rowsZ (ks lens : List Int) : List (Int × Int) := ks.zip lens
theorem rowsZ_at {ks lens : List Int} (h : ks.length = lens.length) {i : Nat} (hi : i < ks.length) : (rowsZ ks lens).getD i (0, 0) = (ks.getD i 0, lens.getD i 0) := zip_getD hi (by omega)
theorem offS_sum {rows : List (Int × Int)} (h : ∀ i, i < rows.length → widthOk (rows.getD i (0, 0)).2 (rows.getD i (0, 0)).1 = true) : ∀ k, k ≤ rows.length → offS rows k = sumW ((rows.take k).map fun x => (x.2, x.1))
  | 0, _ => by simp [offS, sumW]
  | k + 1, hk => by
    have ih := offS_sum h k (by omega)
    have hh := h k (by omega)
    have e : rows.getD k (0, 0) = rows[k] := by simp [show k < rows.length by omega]
    rw [List.take_succ_eq_append_getElem (by omega), List.map_append]
    have hs : ∀ (a b : List (Int × Int)), sumW (a ++ b) = sumW a + sumW b := fun a b => by
      induction a with
      | nil => simp [sumW]
      | cons x r ihh => simp only [List.cons_append, sumW]; omega
    rw [hs, ← ih]
    simp only [offS, List.map_cons, List.map_nil, sumW, Int.add_zero]
    rw [e] at hh ⊢
    simp [widthV, hh]
theorem zip_swap : ∀ (a b : List Int), (a.zip b).map (fun x => (x.2, x.1)) = b.zip a
  | [], b => by cases b <;> simp
  | x :: a, [] => by simp
  | x :: a, y :: b => by simp [zip_swap a b]
/-- a table's law, in rows of thresholds and of lengths -/
theorem layGo_sorted {n : Int} : ∀ (ks lens : List Int) (least : Int), ks.length = lens.length → (layGo n least (rowsZ ks lens) = true ↔ ((∀ i, i < ks.length → ks.getD i 0 ≤ n ∧ 0 ≤ lens.getD i 0 ∧ lens.getD i 0 ≤ 65535) ∧ (0 < ks.length → least ≤ ks.getD 0 0) ∧ sortedB ks = true))
  | [], [], _, _ => by simp [rowsZ, layGo, sortedB]
  | k :: ks, l :: lens, least, h => by
    have ih := layGo_sorted (n := n) ks lens k (by simpa using h)
    have e : rowsZ (k :: ks) (l :: lens) = (k, l) :: rowsZ ks lens := rfl
    rw [e, layGo, Bool.and_eq_true, decide_eq_true_eq, ih]
    unfold rowGood
    simp only [sortedB, decide_eq_true_eq, List.length_cons]
    constructor
    · rintro ⟨⟨a1, a2, a3, a4⟩, b1, b2, b3⟩
      refine ⟨fun i hi => ?_, fun _ => by simpa using a1, fun i hi hi2 => ?_⟩
      · cases i with
        | zero => simp; omega
        | succ i => simpa using b1 i (by omega)
      · cases i with
        | zero => have := b2 (by omega); simpa using this
        | succ i => simpa using b3 i (by omega) (by omega)
    · rintro ⟨a, b, c⟩
      have a0 := a 0 (by omega)
      have b0 := b (by omega)
      simp at a0 b0
      refine ⟨⟨b0, a0.1, a0.2.1, a0.2.2⟩, fun i hi => ?_, fun h0 => ?_, fun i hi hi2 => ?_⟩
      · have := a (i + 1) (by omega); simpa using this
      · have := c 0 (by omega) (by omega); simpa using this
      · have := c (i + 1) (by omega) (by omega); simpa using this
  | [], _ :: _, _, h => by simp at h
  | _ :: _, [], _, h => by simp at h
theorem sorted_ge {ks : List Int} (h : sortedB ks = true) : ∀ i, i < ks.length → ks.getD 0 0 ≤ ks.getD i 0
  | 0, _ => Int.le_refl _
  | i + 1, hi => by
    have h1 := sorted_ge h i (by omega)
    have h2 := of_decide_eq_true h i (by omega) hi
    omega
theorem fits_lay {n m b : Int} {lens ks : List Int} (h : fitsB n m b lens ks = true) : layOk n (rowsZ ks lens) = true := by
  obtain ⟨h1, h2, h3, h4, h5, h6⟩ := fits_iff.1 h
  have hr : rightB n m b = true := by simp only [roomOk, Bool.and_eq_true] at h1; exact h1.1
  have hn := right_bd hr
  have hb := lens_bd h2
  have hlen : (rowsZ ks lens).length = lens.length := by simp [rowsZ, h3]
  simp only [layOk, Bool.and_eq_true, decide_eq_true_eq, hlen]
  refine ⟨⟨hn.1, hn.2.1, hb.1, hb.2.1⟩, (layGo_sorted ks lens 1 h3).2 ⟨fun i hi => ?_, fun h0 => (h5 0 (by omega)).1, h4⟩⟩
  have := h5 i (by omega)
  have := hb.2.2 i (by omega)
  omega
theorem lay_fits {n m b : Int} {lens ks : List Int} (h3 : ks.length = lens.length) (h1 : roomOk n m b lens.length = true) (hL : layOk n (rowsZ ks lens) = true) : fitsB n m b lens ks = decide (offS (rowsZ ks lens) ks.length ≤ roomW n m b lens.length) := by
  obtain ⟨p1, p2, p3, p4, p5⟩ := layOk_parts hL
  have hlen : (rowsZ ks lens).length = lens.length := by simp [rowsZ, h3]
  rw [hlen] at p2 p3 p5
  obtain ⟨q1, q2, q3⟩ := (layGo_sorted ks lens 1 h3).1 p4
  have hl : lensB lens = true := by
    simp only [lensB, Bool.and_eq_true, Bool.not_eq_true', List.any_eq_false, betw, decide_eq_true_eq]
    refine ⟨by omega, fun z hz => ?_⟩
    obtain ⟨i, hi, rfl⟩ := List.getElem_of_mem hz
    have := (q1 i (by omega)).2
    have e : lens.getD i 0 = lens[i] := by simp [hi]
    rw [e] at this
    simpa using this
  have hsum : offS (rowsZ ks lens) ks.length = sumW (lens.zip ks) := by
    rw [offS_sum (by rw [hlen]; exact p5) ks.length (by rw [hlen, h3]; exact Nat.le_refl _), List.take_of_length_le (by rw [hlen, h3]; exact Nat.le_refl _)]
    exact congrArg sumW (zip_swap ks lens)
  rw [hsum, Bool.eq_iff_iff, fits_iff, decide_eq_true_eq]
  refine ⟨fun h => h.2.2.2.2.2, fun h => ⟨h1, hl, h3, q3, fun i hi => ?_, h⟩⟩
  have := sorted_ge q3 i (by omega)
  have := q2 (by omega)
  exact ⟨by omega, (q1 i (by omega)).1⟩
theorem room_iff {n m b l long : Int} (h : roomOk n m b l = true) (h0 : 0 ≤ long) : (long ≤ roomW n m b l) ↔ (18 + 3 * l + long ≤ m ∧ (18 + 3 * l + long) * n ≤ b) := by
  have hr : rightB n m b = true := by simp only [roomOk, Bool.and_eq_true] at h; exact h.1
  have hn := right_bd hr
  have h1 := Int.le_ediv_iff_mul_le (a := 18 + 3 * l + long) (b := b) (c := n) (by omega)
  unfold roomW
  rw [← h1]
  omega

theorem ti_row : TyInfo Try.prog 41 (.agg #[.int .i64 0, .int .i64 0]) 2 16 := by unfold TyInfo; kernel_rfl
theorem rows_take {ks lens : List Int} {i : Nat} (h1 : i < ks.length) (h2 : ks.length = lens.length) : ((rowsZ ks lens).take (i + 1)).map rowC = ((rowsZ ks lens).take i).map rowC ++ [[.int .i64 (ks.getD i 0), .int .i64 (lens.getD i 0)]] := by
  have hi : i < (rowsZ ks lens).length := by simp [rowsZ]; omega
  rw [List.take_succ_eq_append_getElem hi, List.map_append]
  have e := rowsZ_at h2 h1
  have e2 : (rowsZ ks lens).getD i (0, 0) = (rowsZ ks lens)[i] := by simp [hi]
  rw [e2] at e
  rw [e]
  rfl
theorem fit_mul {n m b X : Int} (h : rightB n m b = true) (h0 : 0 ≤ X) (h1 : X ≤ 100000000) : I64 (X * n) := by
  have := right_bd h
  have h2 : 0 ≤ X * n := Int.mul_nonneg h0 (by omega)
  have h3 : X * n ≤ 100000000 * 255 := Int.mul_le_mul h1 (by omega) (by omega) (by omega)
  exact ⟨by omega, by omega⟩
theorem all_rep {n : Int} (h : I64 n) (l : Nat) : AllI (List.replicate l n) := by
  intro z hz
  obtain ⟨-, rfl⟩ := List.mem_replicate.1 hz
  exact h
end Go.Proofs.Ytlfkhnchceoinaa
