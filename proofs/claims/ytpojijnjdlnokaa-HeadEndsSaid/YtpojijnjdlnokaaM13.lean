/- Texts joined: HdT SzF SzQ SzM. -/
import Derived.Test.YtpojijnjdlnokaaM12
/- Layer 14: the program's datagram of a header and its body. -/
namespace Go.Proofs.Ytpojijnjdlnokaa
open Go.RowKit
set_option linter.unusedVariables false

theorem hd_fits {z size : Int} {s : Nat} (hs : size = (s : Int) ∧ 1 ≤ s ∧ s ≤ 4) (h : 0 ≤ z ∧ z < 256 ^ s) : nfitB z size = true := by
  unfold nfitB
  rw [hs.1, Int.toNat_natCast]
  simp; omega
theorem cntB_suc {cs : List (Int × Int)} {i : Nat} (hi : i < cs.length) : cntB (cs.take (i + 1)) = cntB (cs.take i) ++ (numBytes (cs.getD i (0, 0)).1 1 ++ numBytes (cs.getD i (0, 0)).2 2) := by
  have e : cs.getD i (0, 0) = cs[i] := by simp [hi]
  unfold cntB
  rw [List.take_succ_eq_append_getElem hi, List.flatMap_append, e]; simp
theorem hd_allL (B g : Nat) (v : Value) (bs : List Int) (fs : List (Int × Int)) (w : World) (hw : WrS w B 216 g v bs 0) (hB : B ≤ w.heap.size) (hl : bs.length + 4 * fs.length ≤ 10000000) (hf : ∀ x ∈ fs, nfitB x.1 x.2 = true ∧ x.2 ≤ 4) :
    Gives Try.prog 122 #[.agg #[.pointer (some ⟨g, 0, none⟩)], .slice (some ⟨w.heap.size, 0, none⟩) fs.length fs.length] (w.alloc (.cells (fs.map rowC).flatten.toArray 166)) fun u w' => ∃ v', WrS w' B 216 g v' (bs ++ fldB fs) 0 ∧ Kb (WrS.blocks g v) w w' := by
  have ba : Below w.heap.size w (w.alloc (.cells (fs.map rowC).flatten.toArray 166)) := (Below.refl _ w).alloc (Nat.le_refl _) _
  have hw2 := hw.keep ba
  refine (hd_all B g v bs w.heap.size fs.length fs.length fs _ hw2 (rdp_alloc w (fs.map rowC) 166 (s := 2) (rowC_len _)) rfl (fun hm => by have := (hw.low' _ hm).2; omega) (by simp) (by simp; omega) hl hf).mono fun u w' ⟨v', h1, h2⟩ => ?_
  exact ⟨v', h1, (Kb.of_below (S := WrS.blocks g v) ba).trans h2 (fun k hk => .inl hk)⟩
def hpE (q : HeadP) (zs : List Int) : Int := if putH q zs then 0 else 2
def hpV (q : HeadP) (zs : List Int) : List Int := if putH q zs then sealL (headB q ++ zs) else []
def fldH (q : HeadP) : List (Int × Int) := [(1, 1), (q.st, 2), (q.fr, 4), (q.ix, 1), (q.n, 1), ((q.rows.length : Int), 1), (q.dl, 4)]
theorem fldH_B (q : HeadP) : fldB (fldH q) ++ cntB q.rows = headB q := by
  unfold fldB fldH headB
  simp only [List.flatMap_cons, List.flatMap_nil, List.append_assoc, List.append_nil, List.nil_append]
  rfl
theorem fldH_fit {q : HeadP} (h : rightH q = true) : ∀ x ∈ fldH q, nfitB x.1 x.2 = true ∧ x.2 ≤ 4 := by
  have hr := rightH_iff.1 h
  obtain ⟨l1, l2, l3, -, -⟩ := layOk_parts hr.lay
  have h1 := hr.ix
  have h2 := hr.st
  have h3 := hr.fr
  have h4 := hr.dl
  intro x hx
  simp only [fldH, List.mem_cons, List.not_mem_nil, or_false] at hx
  rcases hx with rfl | rfl | rfl | rfl | rfl | rfl | rfl
  · exact ⟨hd_fits (s := 1) ⟨rfl, by omega, by omega⟩ ⟨by omega, by decide⟩, by decide⟩
  · exact ⟨hd_fits (s := 2) ⟨rfl, by omega, by omega⟩ ⟨by omega, by simp; omega⟩, by simp⟩
  · exact ⟨hd_fits (s := 4) ⟨rfl, by omega, by omega⟩ ⟨by omega, by simp; omega⟩, by simp⟩
  · exact ⟨hd_fits (s := 1) ⟨rfl, by omega, by omega⟩ ⟨by omega, by simp; omega⟩, by simp⟩
  · exact ⟨hd_fits (s := 1) ⟨rfl, by omega, by omega⟩ ⟨by omega, by simp; omega⟩, by simp⟩
  · exact ⟨hd_fits (s := 1) ⟨rfl, by omega, by omega⟩ ⟨by omega, by simp; omega⟩, by simp⟩
  · exact ⟨hd_fits (s := 4) ⟨rfl, by omega, by omega⟩ ⟨by omega, by simp; omega⟩, by simp⟩
theorem fldH_len (q : HeadP) : (fldB (fldH q)).length = 14 := by
  unfold fldB fldH
  simp only [List.flatMap_cons, List.flatMap_nil, List.length_append, numBytes_len]
  rfl
set_option maxHeartbeats 4000000 in
theorem hd_Put (d : HeadV) (A : Option Addr) (n c : Nat) (zs : List Int) (w : World) (hd : HeadOk w d) (ha : Rd w .u8 A zs) (hn : n = zs.length) (hz : AllB zs) :
    Gives Try.prog 77 #[.agg d.cells.toArray, .slice A n c] w fun v w' => ∃ s, v = .tuple #[s, .int .i64 (hpE d.q zs)] ∧ OwnK w' w.heap.size 5 .u8 s (hpV d.q zs) ∧ Below w.heap.size w w' := by
  have hl := hd.2.1
  have hl9 := hd.2.2.1
  have hB0 := bk_new w d.cells 65
  have hb0 : Below w.heap.size w (w.alloc (.cells d.cells.toArray 65)) := (Below.refl _ w).alloc (Nat.le_refl _) _
  have hd0 := hd.keep hb0
  refine gives_enter Try.call77 Try.func77 rfl rfl rfl (by kernel_rfl) ?_
  refine v_seq ?_
  refine v_region ?_
  refine vl_val (os_box rfl) ?_
  refine vl_val (os_assign rfl) ?_
  refine vl_val (os_assign rfl) ?_
  refine vl_nil ?_
  refine v_seq ?_
  refine v_seq ?_
  refine v_region ?_
  refine vl_val (os_fa (o := 3) (k := 0) (by kernel_rfl) rfl) ?_
  refine vl_val (os_load Try.isAgg3 rfl (hB0.cell (i := 3) rfl)) ?_
  refine vl_val (os_fa (o := 5) (k := 0) (by kernel_rfl) rfl) ?_
  refine vl_val (os_load Try.isAgg63 rfl (hB0.cell (i := 5) rfl)) ?_
  refine vl_call (lay_Long d.q.n d.A d.l d.c d.q.rows _ hd0.1 hl (by omega)) rfl ?_
  rintro v1 w1 ⟨rfl, b1⟩
  have hB1 := hB0.keep b1
  have hd1 := hd0.keep b1
  have b1w := hb0.trans (b1.mono hb0.size)
  refine vl_val (os_move rfl) ?_
  refine vl_val (os_extract rfl rfl) ?_
  refine vl_val (os_extract rfl rfl) ?_
  refine vl_val (os_assign rfl) ?_
  refine vl_val (os_assign rfl) ?_
  refine vl_nil ?_
  cases hr : rightH d.q
  · refine v_seq ?_
    refine v_region ?_
    refine vl_val (os_loadB Try.underlying65 rfl (by kernel_rfl) rfl (hB1)) ?_
    refine vl_call (gives_boolb (hd_Right d _ hd1) hr) rfl ?_
    rintro v2 w2 ⟨rfl, b2⟩
    have hp : putH d.q zs = false := by unfold putH; rw [hr]; rfl
    refine vl_val (os_not rfl) ?_
    refine vl_val (os_move rfl) ?_
    refine vl_skip rfl rfl ?_
    refine vl_skip rfl rfl ?_
    refine vl_skip rfl rfl ?_
    refine vl_skip rfl rfl ?_
    refine vl_val (os_pick_t rfl rfl) ?_
    refine vl_nil ?_
    refine v_cond_t rfl ?_
    refine v_seq ?_
    refine v_region ?_
    refine vl_val (os_assign rfl) ?_
    refine vl_val (os_assign rfl) ?_
    refine vl_nil ?_
    refine v_ret ?_
    exact post_ret2 rfl rfl rfl (⟨.slice none 0 0, by simp [hpE, hp], by simp only [hpV, hp]; exact Own.nil _ _ _, b1w.trans (b2.mono b1w.size)⟩)
  · by_cases hlg : (n : Int) = longV d.q.n d.q.rows
    · have hp : putH d.q zs = true := by unfold putH; rw [hr, ← hn, hlg]; simp
      refine v_seq ?_
      refine v_region ?_
      refine vl_val (os_loadB Try.underlying65 rfl (by kernel_rfl) rfl (hB1)) ?_
      refine vl_call (gives_boolb (hd_Right d _ hd1) hr) rfl ?_
      rintro v2 w2 ⟨rfl, b2⟩
      refine vl_val (os_not rfl) ?_
      refine vl_val (os_move rfl) ?_
      refine vl_valg rfl (os_move rfl) ?_
      refine vl_valg rfl (os_len Try.underlying22 rfl) ?_
      refine vl_valg rfl (os_move rfl) ?_
      refine vl_valg rfl (os_neq rfl rfl) ?_
      refine vl_val (os_pick_f rfl rfl) ?_
      refine vl_nil ?_
      refine v_cond_no rfl (fun h => h hlg) ?_
      have hrr := rightH_iff.1 hr
      obtain ⟨l1, l2, l3, l4, l5⟩ := layOk_parts hrr.lay
      have hn7 : n ≤ 600000 := by have h1 := (offS_bd (rows := d.q.rows) d.q.rows.length).2; unfold longV at hlg; rw [if_pos hrr.lay] at hlg; omega
      have hB2 := hB1.keep b2
      have b2w := b1w.trans (b2.mono b1w.size)
      have hR0 := hB2.lt
      refine v_skip ?_
      refine v_seq ?_
      refine v_region ?_
      refine vl_call (pk_New w2) rfl ?_
      rintro v3 w3 ⟨g, rfl, hW3, b3⟩
      obtain ⟨B, hBB⟩ : ∃ B, B = w2.heap.size := ⟨_, rfl⟩
      rw [← hBB] at hW3 hR0 b3
      have hB3 := hB2.below b3 hR0
      have b3w := b2w.trans (b3.mono (by have := b2w.size; omega))
      have sB3 : B ≤ w3.heap.size := by rw [hBB]; exact b3.size
      refine vl_val (os_build (cs := [.pointer (some ⟨g, 0, none⟩)]) rfl (by kernel_rfl)) ?_
      refine vl_val (os_allocB Try.zeroValue163 (zc := _) (cs := [.pointer none]) rfl) ?_
      have hP3 := bk_new w3 [.pointer none] 163
      have b4a : Below w3.heap.size w3 (w3.alloc (.cells [Value.pointer none].toArray 163)) := (Below.refl _ _).alloc (Nat.le_refl _) _
      refine vl_unit (ou_storeB (by kernel_rfl) rfl rfl hP3 rfl rfl) ?_
      have hP4 := setRow_bk hP3 [.pointer (some ⟨g, 0, none⟩)]
      have b4 := below_setRow b4a (Nat.le_refl _) [Value.pointer (some ⟨g, 0, none⟩)].toArray
      obtain ⟨P, hP⟩ : ∃ P, P = w3.heap.size := ⟨_, rfl⟩
      obtain ⟨w4, hw4⟩ : ∃ w4, w4 = (w3.alloc (.cells [Value.pointer none].toArray 163)).setRow w3.heap.size [Value.pointer (some ⟨g, 0, none⟩)].toArray := ⟨_, rfl⟩
      rw [← hw4] at hP4 b4
      rw [← hw4, ← hP]
      rw [← hP] at hP4
      have hW4 := hW3.keep b4
      have hB4 := hB3.keep b4
      have b4w := b3w.trans (b4.mono b3w.size)
      have sB4 : B ≤ w4.heap.size := by have := b4.size; omega
      refine vl_nil ?_
      refine v_seq ?_
      refine v_region ?_
      refine vl_val (os_loadB Try.underlying163 rfl (by kernel_rfl) rfl (hP4)) ?_
      refine vl_val (os_build (cs := [.int .i64 1, .int .i64 1]) rfl (by kernel_rfl)) ?_
      refine vl_val (os_fa (o := 0) (k := 0) (by kernel_rfl) rfl) ?_
      refine vl_val (os_load Try.isAgg3 rfl (hB4.cell (i := 0) rfl)) ?_
      refine vl_val (os_build (cs := [.int .i64 d.q.st, .int .i64 2]) rfl (by kernel_rfl)) ?_
      refine vl_val (os_fa (o := 1) (k := 0) (by kernel_rfl) rfl) ?_
      refine vl_val (os_load Try.isAgg3 rfl (hB4.cell (i := 1) rfl)) ?_
      refine vl_val (os_build (cs := [.int .i64 d.q.fr, .int .i64 4]) rfl (by kernel_rfl)) ?_
      refine vl_val (os_fa (o := 2) (k := 0) (by kernel_rfl) rfl) ?_
      refine vl_val (os_load Try.isAgg3 rfl (hB4.cell (i := 2) rfl)) ?_
      refine vl_val (os_build (cs := [.int .i64 d.q.ix, .int .i64 1]) rfl (by kernel_rfl)) ?_
      refine vl_val (os_fa (o := 3) (k := 0) (by kernel_rfl) rfl) ?_
      refine vl_val (os_load Try.isAgg3 rfl (hB4.cell (i := 3) rfl)) ?_
      refine vl_val (os_build (cs := [.int .i64 d.q.n, .int .i64 1]) rfl (by kernel_rfl)) ?_
      refine vl_val (os_fa (o := 5) (k := 0) (by kernel_rfl) rfl) ?_
      refine vl_val (os_load Try.isAgg63 rfl (hB4.cell (i := 5) rfl)) ?_
      refine vl_val (os_len Try.underlying63 rfl) ?_
      refine vl_val (os_build (cs := [.int .i64 (d.l : Int), .int .i64 1]) rfl (by kernel_rfl)) ?_
      refine vl_val (os_fa (o := 4) (k := 0) (by kernel_rfl) rfl) ?_
      refine vl_val (os_load Try.isAgg3 rfl (hB4.cell (i := 4) rfl)) ?_
      refine vl_val (os_build (cs := [.int .i64 d.q.dl, .int .i64 4]) rfl (by kernel_rfl)) ?_
      refine vl_val (os_litS (css := (fldH d.q).map rowC) Try.underlying217 Try.sizeOf166 Try.zeroValue166 (by rw [hl]; rfl) rfl (rowC_len _) (by decide) (by decide) (by decide)) ?_
      refine vl_call (hd_allL B g _ [] (fldH d.q) w4 hW4 sB4 (by simp [fldH]) (fldH_fit hr)) rfl ?_
      rintro v5 w5 ⟨u5, hW5, k5⟩
      have b5 := hW4.below' k5
      have hB5 := hB4.below b5 hR0
      have hP5 := hP4.kb k5 (hW4.other hP4 (by decide) (by decide))
      have b5w := b4w.trans (b5.mono (by have := b2w.size; omega))
      have sB5 : B ≤ w5.heap.size := by have := k5.size; omega
      refine vl_nil ?_
      refine v_seq ?_
      refine v_seq ?_
      refine v_region ?_
      refine vl_val (os_fa (o := 5) (k := 0) (by kernel_rfl) rfl) ?_
      refine vl_val (os_load Try.isAgg63 rfl (hB5.cell (i := 5) rfl)) ?_
      refine vl_val (os_len Try.underlying63 rfl) ?_
      refine vl_val (os_move rfl) ?_
      refine vl_nil ?_
      refine v_block ?_
      refine v_loop [(1, _), (8, _), (56, _), (57, _)] (fun (i : Nat) => [(58, .int .i64 i)]) (fun i w' => i ≤ d.l ∧ (∃ v, WrS w' B 216 g v (fldB (fldH d.q) ++ cntB (d.q.rows.take i)) 0) ∧ Bk w' P [.pointer (some ⟨g, 0, none⟩)] 163 ∧ Below w.heap.size w w' ∧ B ≤ w'.heap.size) (fun i => d.l - i) (0) ⟨rfl, rfl, rfl, rfl, trivial⟩ ⟨rfl, trivial⟩ (⟨by omega, ⟨u5, by have h := hW5; simp only [List.nil_append] at h; simpa [cntB] using h⟩, hP5, b5w, sB5⟩) ?_
      rintro i w6 ⟨hi, ⟨v6, hW6⟩, hP6, b6w, sB6⟩
      refine v_seq ?_
      refine v_region ?_
      refine vl_val (os_lss rfl rfl) ?_
      refine vl_nil ?_
      refine v_seq ?_
      refine v_cond_d rfl (fun h => ?_) (fun h => ?_)
      · obtain ⟨b, o, eA, q1, q2, q3⟩ := (hd.keep b6w).1.at2 (i := i) (by omega)
        have hbd := rows_bd hrr.lay (d.q.rows.getD i (0, 0)) (by rw [List.getD_eq_getElem?_getD, List.getElem?_eq_getElem (by omega)]; exact List.getElem_mem _)
        have hsu := cntB_suc (cs := d.q.rows) (i := i) (by omega)
        have hlk : (fldB (fldH d.q) ++ cntB (d.q.rows.take i)).length ≤ 1000 := by rw [List.length_append, fldH_len, cntB_len, List.length_take]; omega
        obtain ⟨X, hX⟩ : ∃ X, (d.q.rows.getD i (0, 0)).1 = X := ⟨_, rfl⟩
        obtain ⟨Y, hY⟩ : ∃ Y, (d.q.rows.getD i (0, 0)).2 = Y := ⟨_, rfl⟩
        unfold rowC at q3
        rw [hX, hY] at q3 hbd hsu
        rw [eA]
        refine v_skip ?_
        refine v_seq ?_
        refine v_block ?_
        refine v_seq ?_
        refine v_region ?_
        refine vl_val (os_ixs Try.underlying63 Try.sizeOf62 rfl rfl (i := i) (by omega) (by omega)) ?_
        refine vl_val (os_loadP Try.underlying62 rfl (by kernel_rfl) rfl q3) ?_
        refine vl_val (os_allocB Try.zeroValue62 (zc := _) (cs := [.int .i64 0, .int .i64 0]) rfl) ?_
        have hC0 := bk_new w6 [.int .i64 0, .int .i64 0] 62
        have c1 : Below w6.heap.size w6 (w6.alloc (.cells [Value.int .i64 0, .int .i64 0].toArray 62)) := (Below.refl _ _).alloc (Nat.le_refl _) _
        refine vl_unit (ou_storeB (by kernel_rfl) rfl rfl hC0 rfl rfl) ?_
        have hC2 := setRow_bk hC0 [.int .i64 X, .int .i64 Y]
        have c2 := below_setRow c1 (Nat.le_refl _) [Value.int .i64 X, .int .i64 Y].toArray
        have hW7 := hW6.keep c2
        have hP7 := hP6.keep c2
        have b7w := b6w.trans (c2.mono b6w.size)
        have sB7 := Nat.le_trans sB6 c2.size
        generalize hw7 : (w6.alloc (.cells [Value.int .i64 0, .int .i64 0].toArray 62)).setRow w6.heap.size [Value.int .i64 X, .int .i64 Y].toArray = w7 at hW7 hP7 b7w sB7 hC2
        have hw7' : (w6.alloc (.cells [Value.int .i64 0, .int .i64 0].toArray 62)).setRow w6.heap.size [Value.int .i64 X, .int .i64 Y].toArray = w7 := hw7
        skip
        refine vl_nil ?_
        refine v_region ?_
        refine vl_val (os_loadB Try.underlying163 rfl (by kernel_rfl) rfl (hP7)) ?_
        refine vl_val (os_fa (o := 0) (k := 0) (by kernel_rfl) rfl) ?_
        refine vl_val (os_load Try.isAgg3 rfl (hC2.cell (i := 0) rfl)) ?_
        refine vl_val (os_build (cs := [.int .i64 X, .int .i64 1]) rfl (by kernel_rfl)) ?_
        refine vl_val (os_fa (o := 1) (k := 0) (by kernel_rfl) rfl) ?_
        refine vl_val (os_load Try.isAgg3 rfl (hC2.cell (i := 1) rfl)) ?_
        refine vl_val (os_build (cs := [.int .i64 Y, .int .i64 2]) rfl (by kernel_rfl)) ?_
        refine vl_val (os_litS (css := [(X, 1), (Y, 2)].map rowC) Try.underlying217 Try.sizeOf166 Try.zeroValue166 rfl rfl (rowC_len _) (by decide) (by decide) (by decide)) ?_
        refine vl_call (hd_allL B g _ _ [(X, 1), (Y, 2)] w7 hW7 sB7 (by simp only [List.length_cons, List.length_nil]; omega) (by intro x hx; simp only [List.mem_cons, List.not_mem_nil, or_false] at hx; rcases hx with rfl | rfl; (exact ⟨hd_fits (s := 1) ⟨rfl, by omega, by omega⟩ ⟨by omega, by simp; omega⟩, by simp⟩); (exact ⟨hd_fits (s := 2) ⟨rfl, by omega, by omega⟩ ⟨by omega, by simp; omega⟩, by simp⟩))) rfl ?_
        rintro v8 w8 ⟨u8, hW8, k8⟩
        have b8 := hW7.below' k8
        have hP8 := hP7.kb k8 (hW7.other hP7 (by decide) (by decide))
        have b8w := b7w.trans (b8.mono (by have := b2w.size; omega))
        refine vl_nil ?_
        refine v_region ?_
        refine vl_val (os_addi rfl rfl (by omega)) ?_
        refine vl_val (os_move rfl) ?_
        refine vl_nil ?_
        exact ⟨i + 1, ⟨rfl, rfl, rfl, rfl, trivial⟩, ⟨rfl, trivial⟩, ⟨by omega, ⟨u8, by rw [hsu, ← List.append_assoc]; exact (show fldB [(X, 1), (Y, 2)] = numBytes X 1 ++ numBytes Y 2 by simp [fldB]) ▸ hW8⟩, hP8, b8w, Nat.le_trans sB7 k8.size⟩, by dsimp only; omega⟩
      · obtain rfl : i = d.l := by omega
        rw [List.take_of_length_le (by omega), fldH_B] at hW6
        refine v_exit ?_
        refine v_seq ?_
        refine v_region ?_
        refine vl_val (os_fa (o := 0) (k := 0) (by kernel_rfl) rfl) ?_
        refine vl_val (os_load Try.isAgg160 rfl (hP6.cell (i := 0) rfl)) ?_
        have hhl := headB_len d.q
        refine vl_val (os_move rfl) ?_
        refine vl_call (pk_Put g v6 (headB d.q) 0 B A n c zs w6 hW6 (ha.keep b6w) hn sB6 (by omega)) rfl ?_
        rintro v7 w7 ⟨u7, hW7, k7, -⟩
        simp only [if_true] at hW7
        have b7 := hW6.below' k7
        have b7w := b6w.trans (b7.mono (by have := b2w.size; omega))
        have hP7 := hP6.kb k7 (hW6.other hP6 (by decide) (by decide))
        refine vl_nil ?_
        refine v_seq ?_
        refine v_region ?_
        refine vl_val (os_fa (o := 0) (k := 0) (by kernel_rfl) rfl) ?_
        refine vl_val (os_load Try.isAgg160 rfl (hP7.cell (i := 0) rfl)) ?_
        have hal : (headB d.q ++ zs).length = 14 + 3 * d.q.rows.length + n := by rw [List.length_append, hhl, hn]
        refine vl_call (pk_Bytes g u7 _ 0 B w7 hW7 (by omega)) rfl ?_
        rintro v8 w8 ⟨s8, rfl, o8, b8⟩
        simp only [if_true] at o8
        obtain ⟨A9, c9, rfl, hc9, hm9, r9, -⟩ := OwnK.form o8
        have b8w := b7w.trans (b8.mono b7w.size)
        refine vl_val (os_move rfl) ?_
        refine vl_val (os_extract rfl rfl) ?_
        refine vl_val (os_extract rfl rfl) ?_
        refine vl_val (os_assign rfl) ?_
        refine vl_val (os_assign rfl) ?_
        refine vl_nil ?_
        refine v_seq ?_
        refine v_region ?_
        refine vl_val (os_move rfl) ?_
        refine vl_call (sum_Seal A9 _ c9 (headB d.q ++ zs) w8 r9 rfl hc9 (by omega) (fun z hm => by rcases List.mem_append.1 hm with hm | hm; (exact headB_Y z hm); (exact hz z hm))) rfl ?_
        rintro v9 w9 ⟨o9, b9⟩
        refine vl_val (os_move rfl) ?_
        refine vl_val (os_assign rfl) ?_
        refine vl_val (os_assign rfl) ?_
        refine vl_nil ?_
        refine v_ret ?_
        exact post_ret2 rfl rfl rfl (⟨_, by unfold hpE; rw [hp]; rfl, by unfold hpV; rw [hp]; exact Own.mono o9 b8w.size, b8w.trans (b9.mono b8w.size)⟩)
    · have hp : putH d.q zs = false := by unfold putH; rw [← hn, decide_eq_false hlg, Bool.and_false]
      refine v_seq ?_
      refine v_region ?_
      refine vl_val (os_loadB Try.underlying65 rfl (by kernel_rfl) rfl (hB1)) ?_
      refine vl_call (gives_boolb (hd_Right d _ hd1) hr) rfl ?_
      rintro v2 w2 ⟨rfl, b2⟩
      refine vl_val (os_not rfl) ?_
      refine vl_val (os_move rfl) ?_
      refine vl_valg rfl (os_move rfl) ?_
      refine vl_valg rfl (os_len Try.underlying22 rfl) ?_
      refine vl_valg rfl (os_move rfl) ?_
      refine vl_valg rfl (os_neq rfl rfl) ?_
      refine vl_val (os_pick_f rfl rfl) ?_
      refine vl_nil ?_
      refine v_cond_yes rfl (hlg) ?_
      refine v_seq ?_
      refine v_region ?_
      refine vl_val (os_assign rfl) ?_
      refine vl_val (os_assign rfl) ?_
      refine vl_nil ?_
      refine v_ret ?_
      exact post_ret2 rfl rfl rfl (⟨.slice none 0 0, by simp [hpE, hp], by simp only [hpV, hp]; exact Own.nil _ _ _, b1w.trans (b2.mono b1w.size)⟩)
end Go.Proofs.Ytpojijnjdlnokaa

/- Layer 11: the contract of size.Fits. -/
namespace Go.Proofs.Ytpojijnjdlnokaa
open Go.RowKit
set_option linter.unusedVariables false

theorem errE_ne {b : Bool} : errE b ≠ 0 ↔ b = false := by cases b <;> simp [errE]
theorem lens_bd {ls : List Int} (h : lensB ls = true) : 1 ≤ ls.length ∧ ls.length ≤ 8 ∧ ∀ k, k < ls.length → 0 ≤ ls.getD k 0 ∧ ls.getD k 0 ≤ 65535 := by
  simp only [lensB, Bool.and_eq_true, Bool.not_eq_true', List.any_eq_false, betw, decide_eq_true_eq] at h
  refine ⟨by omega, by omega, fun k hk => ?_⟩
  have := h.2 ls[k] (List.getElem_mem _)
  simpa [hk] using this

set_option maxHeartbeats 1000000 in
theorem size_Fits (n m b : Int) (A K : Option Addr) (l c lk ck : Nat) (lens ks : List Int) (w : World) (ha : Rd w .i64 A lens) (hk : Rd w .i64 K ks) (hl : l = lens.length) (hlk : lk = ks.length)
    (hl' : l ≤ 9223372036854775807) (hlk' : lk ≤ 9223372036854775807) (hks : AllI ks) :
    Gives Try.prog 45 #[.agg #[.int .i64 n, .int .i64 m, .int .i64 b], .slice A l c, .slice K lk ck] w fun v w' => v = .bool (fitsB n m b lens ks) ∧ Below w.heap.size w w' := by
  have hbel : Below w.heap.size w (w.alloc (.cells #[.int .i64 n, .int .i64 m, .int .i64 b] 42)) := (Below.refl _ w).alloc (Nat.le_refl _) _
  have hB := bk_new w [.int .i64 n, .int .i64 m, .int .i64 b] 42
  refine gives_enter Try.call45 Try.func45 rfl rfl rfl (by kernel_rfl) ?_
  cases c1 : roomOk n m b l
  · refine v_seq ?_
    refine v_region ?_
    refine vl_val (os_box rfl) ?_
    refine vl_val (os_assign rfl) ?_
    refine vl_nil ?_
    refine v_seq ?_
    refine v_region ?_
    refine vl_val (os_loadB Try.underlying42 rfl (by kernel_rfl) rfl (hB)) ?_
    refine vl_val (os_move rfl) ?_
    refine vl_val (os_len Try.underlying40 rfl) ?_
    refine vl_call (size_Room n m b l _) rfl ?_
    rintro v w1 ⟨rfl, hb1⟩
    have hbel1 := hbel.trans (hb1.mono (by simp))
    refine vl_val (os_move rfl) ?_
    refine vl_val (os_extract rfl rfl) ?_
    refine vl_val (os_extract rfl rfl) ?_
    refine vl_val (os_assign rfl) ?_
    refine vl_val (os_assign rfl) ?_
    refine vl_nil ?_
    refine v_seq ?_
    refine v_seq ?_
    refine v_region ?_
    refine vl_val (os_move rfl) ?_
    refine vl_val (os_t (os_neq rfl rfl) (by simp [c1, errE])) ?_
    refine vl_val (os_move rfl) ?_
    refine vl_skip rfl rfl ?_
    refine vl_skip rfl rfl ?_
    refine vl_skip rfl rfl ?_
    refine vl_val (os_pick_t rfl rfl) ?_
    refine vl_val (os_move rfl) ?_
    refine vl_skip rfl rfl ?_
    refine vl_skip rfl rfl ?_
    refine vl_skip rfl rfl ?_
    refine vl_skip rfl rfl ?_
    refine vl_skip rfl rfl ?_
    refine vl_val (os_pick_t rfl rfl) ?_
    refine vl_val (os_move rfl) ?_
    refine vl_skip rfl rfl ?_
    refine vl_skip rfl rfl ?_
    refine vl_skip rfl rfl ?_
    refine vl_val (os_pick_t rfl rfl) ?_
    refine vl_nil ?_
    refine v_cond_t rfl ?_
    refine v_seq ?_
    refine v_region ?_
    refine vl_val (os_assign rfl) ?_
    refine vl_nil ?_
    refine v_ret ?_
    exact post_ret rfl rfl (⟨by simp [fitsB, ← hl, c1], hbel1⟩)
  · cases c2 : lensB lens
    · refine v_seq ?_
      refine v_region ?_
      refine vl_val (os_box rfl) ?_
      refine vl_val (os_assign rfl) ?_
      refine vl_nil ?_
      refine v_seq ?_
      refine v_region ?_
      refine vl_val (os_loadB Try.underlying42 rfl (by kernel_rfl) rfl (hB)) ?_
      refine vl_val (os_move rfl) ?_
      refine vl_val (os_len Try.underlying40 rfl) ?_
      refine vl_call (size_Room n m b l _) rfl ?_
      rintro v w1 ⟨rfl, hb1⟩
      have hbel1 := hbel.trans (hb1.mono (by simp))
      refine vl_val (os_move rfl) ?_
      refine vl_val (os_extract rfl rfl) ?_
      refine vl_val (os_extract rfl rfl) ?_
      refine vl_val (os_assign rfl) ?_
      refine vl_val (os_assign rfl) ?_
      refine vl_nil ?_
      refine v_seq ?_
      refine v_seq ?_
      refine v_region ?_
      refine vl_val (os_move rfl) ?_
      refine vl_val (os_f (os_neq rfl rfl) (by simp [c1, errE])) ?_
      refine vl_val (os_move rfl) ?_
      refine vl_valg rfl (os_move rfl) ?_
      refine vl_callg rfl (gives_boolb (size_lengths A l c lens _ ((ha.keep hbel1)) hl hl') c2) rfl ?_
      rintro v w2 ⟨rfl, q, rfl⟩
      refine vl_valg rfl (os_not rfl) ?_
      refine vl_val (os_pick_f rfl rfl) ?_
      refine vl_val (os_move rfl) ?_
      refine vl_skip rfl rfl ?_
      refine vl_skip rfl rfl ?_
      refine vl_skip rfl rfl ?_
      refine vl_skip rfl rfl ?_
      refine vl_skip rfl rfl ?_
      refine vl_val (os_pick_t rfl rfl) ?_
      refine vl_val (os_move rfl) ?_
      refine vl_skip rfl rfl ?_
      refine vl_skip rfl rfl ?_
      refine vl_skip rfl rfl ?_
      refine vl_val (os_pick_t rfl rfl) ?_
      refine vl_nil ?_
      refine v_cond_t rfl ?_
      refine v_seq ?_
      refine v_region ?_
      refine vl_val (os_assign rfl) ?_
      refine vl_nil ?_
      refine v_ret ?_
      exact post_ret rfl rfl (⟨by simp [fitsB, c2], below_drewN_ hbel1 q⟩)
    · by_cases c3 : lk = l
      · cases c4 : sortedB ks
        · refine v_seq ?_
          refine v_region ?_
          refine vl_val (os_box rfl) ?_
          refine vl_val (os_assign rfl) ?_
          refine vl_nil ?_
          refine v_seq ?_
          refine v_region ?_
          refine vl_val (os_loadB Try.underlying42 rfl (by kernel_rfl) rfl (hB)) ?_
          refine vl_val (os_move rfl) ?_
          refine vl_val (os_len Try.underlying40 rfl) ?_
          refine vl_call (size_Room n m b l _) rfl ?_
          rintro v w1 ⟨rfl, hb1⟩
          have hbel1 := hbel.trans (hb1.mono (by simp))
          refine vl_val (os_move rfl) ?_
          refine vl_val (os_extract rfl rfl) ?_
          refine vl_val (os_extract rfl rfl) ?_
          refine vl_val (os_assign rfl) ?_
          refine vl_val (os_assign rfl) ?_
          refine vl_nil ?_
          refine v_seq ?_
          refine v_seq ?_
          refine v_region ?_
          refine vl_val (os_move rfl) ?_
          refine vl_val (os_f (os_neq rfl rfl) (by simp [c1, errE])) ?_
          refine vl_val (os_move rfl) ?_
          refine vl_valg rfl (os_move rfl) ?_
          refine vl_callg rfl (gives_boolb (size_lengths A l c lens _ ((ha.keep hbel1)) hl hl') c2) rfl ?_
          rintro v w2 ⟨rfl, q, rfl⟩
          refine vl_valg rfl (os_not rfl) ?_
          refine vl_val (os_pick_f rfl rfl) ?_
          refine vl_val (os_move rfl) ?_
          refine vl_valg rfl (os_move rfl) ?_
          refine vl_valg rfl (os_len Try.underlying40 rfl) ?_
          refine vl_valg rfl (os_move rfl) ?_
          refine vl_valg rfl (os_len Try.underlying40 rfl) ?_
          refine vl_valg rfl (os_f (os_neq rfl rfl) (by simp [c3])) ?_
          refine vl_val (os_pick_f rfl rfl) ?_
          refine vl_val (os_move rfl) ?_
          refine vl_valg rfl (os_move rfl) ?_
          refine vl_callg rfl (gives_boolb (slices_IsSorted K lk ck ks _ ((hk.keep hbel1).drewN q) hlk hlk') c4) rfl ?_
          rintro v w2 ⟨rfl, q2, rfl⟩
          refine vl_valg rfl (os_not rfl) ?_
          refine vl_val (os_pick_f rfl rfl) ?_
          refine vl_nil ?_
          refine v_cond_t rfl ?_
          refine v_seq ?_
          refine v_region ?_
          refine vl_val (os_assign rfl) ?_
          refine vl_nil ?_
          refine v_ret ?_
          exact post_ret rfl rfl (⟨by simp [fitsB, c4], below_drewN_ (below_drewN_ hbel1 q) q2⟩)
        · refine v_seq ?_
          refine v_region ?_
          refine vl_val (os_box rfl) ?_
          refine vl_val (os_assign rfl) ?_
          refine vl_nil ?_
          refine v_seq ?_
          refine v_region ?_
          refine vl_val (os_loadB Try.underlying42 rfl (by kernel_rfl) rfl (hB)) ?_
          refine vl_val (os_move rfl) ?_
          refine vl_val (os_len Try.underlying40 rfl) ?_
          refine vl_call (size_Room n m b l _) rfl ?_
          rintro v w1 ⟨rfl, hb1⟩
          have hbel1 := hbel.trans (hb1.mono (by simp))
          refine vl_val (os_move rfl) ?_
          refine vl_val (os_extract rfl rfl) ?_
          refine vl_val (os_extract rfl rfl) ?_
          refine vl_val (os_assign rfl) ?_
          refine vl_val (os_assign rfl) ?_
          refine vl_nil ?_
          refine v_seq ?_
          refine v_seq ?_
          refine v_region ?_
          refine vl_val (os_move rfl) ?_
          refine vl_val (os_f (os_neq rfl rfl) (by simp [c1, errE])) ?_
          refine vl_val (os_move rfl) ?_
          refine vl_valg rfl (os_move rfl) ?_
          refine vl_callg rfl (gives_boolb (size_lengths A l c lens _ ((ha.keep hbel1)) hl hl') c2) rfl ?_
          rintro v w2 ⟨rfl, q, rfl⟩
          refine vl_valg rfl (os_not rfl) ?_
          refine vl_val (os_pick_f rfl rfl) ?_
          refine vl_val (os_move rfl) ?_
          refine vl_valg rfl (os_move rfl) ?_
          refine vl_valg rfl (os_len Try.underlying40 rfl) ?_
          refine vl_valg rfl (os_move rfl) ?_
          refine vl_valg rfl (os_len Try.underlying40 rfl) ?_
          refine vl_valg rfl (os_f (os_neq rfl rfl) (by simp [c3])) ?_
          refine vl_val (os_pick_f rfl rfl) ?_
          refine vl_val (os_move rfl) ?_
          refine vl_valg rfl (os_move rfl) ?_
          refine vl_callg rfl (gives_boolb (slices_IsSorted K lk ck ks _ ((hk.keep hbel1).drewN q) hlk hlk') c4) rfl ?_
          rintro v w2 ⟨rfl, q2, rfl⟩
          obtain ⟨w2, hw2⟩ : ∃ w2, w2 = (w1.drewN q).drewN q2 := ⟨_, rfl⟩
          have hbel2 : Below w.heap.size w w2 := by rw [hw2]; exact below_drewN_ (below_drewN_ hbel1 q) q2
          have hB2 : Bk w2 w.heap.size [.int .i64 n, .int .i64 m, .int .i64 b] 42 := by have h1 := hB.keep hb1; rw [hw2]; exact h1
          have ha2 : Rd w2 .i64 A lens := by have h1 := ha.keep hbel1; rw [hw2]; exact h1
          have hk2 : Rd w2 .i64 K ks := by have h1 := hk.keep hbel1; rw [hw2]; exact h1
          have hrv : roomV n m b l = roomW n m b l := by simp [roomV, c1]
          have hrb := room_bd c1
          have hlb := lens_bd c2
          have hfit : fitsB n m b lens ks = fitGo n (roomW n m b l) (lens.zip ks) := by simp [fitsB, ← hl, ← hlk, c1, c2, c3, c4]
          rw [hfit, ← hw2, hrv]
          refine vl_valg rfl (os_not rfl) ?_
          refine vl_val (os_pick_f rfl rfl) ?_
          refine vl_nil ?_
          refine v_cond_f rfl ?_
          refine v_skip ?_
          refine v_seq ?_
          refine v_seq ?_
          refine v_region ?_
          refine vl_val (os_move rfl) ?_
          refine vl_val (os_len Try.underlying40 rfl) ?_
          refine vl_val (os_move rfl) ?_
          refine vl_nil ?_
          refine v_block ?_
          refine v_loop2 [(1, _), (2, _), (3, _), (39, _)] (fun (k : Nat) (r : Int) => [(7, .int .i64 r), (40, .int .i64 k)]) (fun k r w' => k ≤ l ∧ (k = 0 ∨ 0 ≤ r) ∧ -1 ≤ r ∧ r ≤ 1500 ∧ fitGo n (roomW n m b l) (lens.zip ks) = fitGo n r ((lens.zip ks).drop k) ∧ LeD w2 w') (fun k r => l - k) (0) (roomW n m b l) ⟨rfl, rfl, rfl, rfl, trivial⟩ ⟨rfl, rfl, trivial⟩ (⟨by omega, .inl rfl, hrb.1, hrb.2, rfl, lee_d.refl _⟩) ?_
          rintro k r w' ⟨hkl, hr0, hr1, hr2, hgo, q3, rfl⟩
          refine v_seq ?_
          refine v_region ?_
          refine vl_val (os_lss rfl rfl) ?_
          refine vl_nil ?_
          refine v_seq ?_
          refine v_cond_d rfl (fun hlt => ?_) (fun hlt => ?_)
          · have hzl : k < (lens.zip ks).length := by rw [List.length_zip]; omega
            have hcons := List.drop_eq_getElem_cons hzl
            have hz : (lens.zip ks)[k] = (lens.getD k 0, ks.getD k 0) := by simp [show k < lens.length by omega, show k < ks.length by omega]
            rw [hz] at hcons
            obtain ⟨b1, o1, rfl, d1⟩ := (hk2.drewN q3).at_ (i := k) (by omega)
            obtain ⟨b2, o2, rfl, d2⟩ := (ha2.drewN q3).at_ (i := k) (by omega)
            have hlk2 := hlb.2.2 k (by omega)
            refine v_skip ?_
            refine v_seq ?_
            refine v_block ?_
            refine v_seq ?_
            refine v_region ?_
            refine vl_val (os_move rfl) ?_
            refine vl_val (os_assign rfl) ?_
            refine vl_nil ?_
            refine v_seq ?_
            refine v_seq ?_
            refine v_region_t LeD _ mixed (by kernel_rfl) lee_d (led_start _) ?_
            refine vt_val (fun w hw => os_move rfl) ?_
            refine vt_val (fun w hw => os_move rfl) ?_
            refine vt_val (fun w hw => os_ix Try.underlying40 Try.sizeOf3 rfl rfl (i := k) (by omega) (by omega)) ?_
            refine vt_val (fun w hw => os_load Try.isAgg3 rfl (led_cell hw (d1))) ?_
            refine vt_val (fun w hw => os_fa (o := 0) (k := 0) (by kernel_rfl) rfl) ?_
            refine vt_val (fun w hw => os_load Try.isAgg3 rfl (led_cell hw ((hB2.led ⟨q3, rfl⟩).cell rfl))) ?_
            refine vt_val (fun w hw => os_gtr rfl rfl) ?_
            refine vt_nil (fun w hw => ?_)
            obtain ⟨q4, rfl⟩ := hw
            refine v_cond_d rfl (fun hbig => ?_) (fun hbig => ?_)
            · refine v_seq ?_
              refine v_region ?_
              refine vl_val (os_assign rfl) ?_
              refine vl_nil ?_
              refine v_ret ?_
              exact post_ret rfl rfl (⟨by rw [hgo, fitGo_drop_false hcons (by simp only []; omega)], below_drewN_ (below_drewN_ hbel2 q3) q4⟩)
            · cases c5 : widthOk (lens.getD k 0) (ks.getD k 0)
              · refine v_skip ?_
                refine v_seq ?_
                refine v_region_t LeD _ mixed (by kernel_rfl) lee_d (led_start _) ?_
                refine vt_val (fun w hw => os_move rfl) ?_
                refine vt_val (fun w hw => os_move rfl) ?_
                refine vt_val (fun w hw => os_ix Try.underlying40 Try.sizeOf3 rfl rfl (i := k) (by omega) (by omega)) ?_
                refine vt_val (fun w hw => os_load Try.isAgg3 rfl (led_cell hw (d2))) ?_
                refine vt_val (fun w hw => os_move rfl) ?_
                refine vt_val (fun w hw => os_move rfl) ?_
                refine vt_val (fun w hw => os_ix Try.underlying40 Try.sizeOf3 rfl rfl (i := k) (by omega) (by omega)) ?_
                refine vt_val (fun w hw => os_load Try.isAgg3 rfl (led_cell hw (d1))) ?_
                refine vt_call (v := _) (fun w hw => (strip_Width (lens.getD k 0) (ks.getD k 0) _ ⟨by omega, by omega⟩ (hks.at_ k)).mono fun v w' h => ⟨h.1, by rw [h.2]; exact lee_d.refl _⟩) rfl ?_
                refine vt_val (fun w hw => os_move rfl) ?_
                refine vt_val (fun w hw => os_extract rfl rfl) ?_
                refine vt_val (fun w hw => os_extract rfl rfl) ?_
                refine vt_val (fun w hw => os_assign rfl) ?_
                refine vt_val (fun w hw => os_assign rfl) ?_
                refine vt_nil (fun w hw => ?_)
                obtain ⟨q5, rfl⟩ := hw
                have hwv : widthV (lens.getD k 0) (ks.getD k 0) = 0 := by unfold widthV; rw [c5]; rfl
                refine v_seq ?_
                refine v_region ?_
                refine vl_val (os_move rfl) ?_
                refine vl_val (os_move rfl) ?_
                refine vl_val (os_subi rfl rfl (by omega)) ?_
                refine vl_val (os_assign rfl) ?_
                refine vl_nil ?_
                refine v_seq ?_
                refine v_region ?_
                refine vl_val (os_move rfl) ?_
                refine vl_val (os_t (os_neq rfl rfl) (by rw [c5]; decide)) ?_
                refine vl_val (os_move rfl) ?_
                refine vl_skip rfl rfl ?_
                refine vl_skip rfl rfl ?_
                refine vl_val (os_pick_t rfl rfl) ?_
                refine vl_nil ?_
                refine v_cond_t rfl ?_
                refine v_seq ?_
                refine v_region ?_
                refine vl_val (os_assign rfl) ?_
                refine vl_nil ?_
                refine v_ret ?_
                exact post_ret rfl rfl (⟨by rw [hgo, fitGo_drop_false hcons (by simp only []; rw [c5]; simp)], below_drewN_ (below_drewN_ (below_drewN_ hbel2 q3) q4) q5⟩)
              · have hwv : widthV (lens.getD k 0) (ks.getD k 0) = widthW (lens.getD k 0) (ks.getD k 0) := by unfold widthV; rw [c5]; rfl
                have hwb := width_bd c5
                refine v_skip ?_
                refine v_seq ?_
                refine v_region_t LeD _ mixed (by kernel_rfl) lee_d (led_start _) ?_
                refine vt_val (fun w hw => os_move rfl) ?_
                refine vt_val (fun w hw => os_move rfl) ?_
                refine vt_val (fun w hw => os_ix Try.underlying40 Try.sizeOf3 rfl rfl (i := k) (by omega) (by omega)) ?_
                refine vt_val (fun w hw => os_load Try.isAgg3 rfl (led_cell hw (d2))) ?_
                refine vt_val (fun w hw => os_move rfl) ?_
                refine vt_val (fun w hw => os_move rfl) ?_
                refine vt_val (fun w hw => os_ix Try.underlying40 Try.sizeOf3 rfl rfl (i := k) (by omega) (by omega)) ?_
                refine vt_val (fun w hw => os_load Try.isAgg3 rfl (led_cell hw (d1))) ?_
                refine vt_call (v := _) (fun w hw => (strip_Width (lens.getD k 0) (ks.getD k 0) _ ⟨by omega, by omega⟩ (hks.at_ k)).mono fun v w' h => ⟨h.1, by rw [h.2]; exact lee_d.refl _⟩) rfl ?_
                refine vt_val (fun w hw => os_move rfl) ?_
                refine vt_val (fun w hw => os_extract rfl rfl) ?_
                refine vt_val (fun w hw => os_extract rfl rfl) ?_
                refine vt_val (fun w hw => os_assign rfl) ?_
                refine vt_val (fun w hw => os_assign rfl) ?_
                refine vt_nil (fun w hw => ?_)
                obtain ⟨q5, rfl⟩ := hw
                refine v_seq ?_
                refine v_region ?_
                refine vl_val (os_move rfl) ?_
                refine vl_val (os_move rfl) ?_
                refine vl_val (os_subi rfl rfl (by omega)) ?_
                refine vl_val (os_assign rfl) ?_
                refine vl_nil ?_
                refine v_seq ?_
                refine v_region ?_
                refine vl_val (os_move rfl) ?_
                refine vl_val (os_f (os_neq rfl rfl) (by rw [c5]; decide)) ?_
                refine vl_val (os_move rfl) ?_
                refine vl_valg rfl (os_move rfl) ?_
                refine vl_valg rfl (os_lss rfl rfl) ?_
                refine vl_val (os_pick_f rfl rfl) ?_
                refine vl_nil ?_
                refine v_cond_d rfl (fun hneg => ?_) (fun hneg => ?_)
                · refine v_seq ?_
                  refine v_region ?_
                  refine vl_val (os_assign rfl) ?_
                  refine vl_nil ?_
                  refine v_ret ?_
                  exact post_ret rfl rfl (⟨by rw [hgo, fitGo_drop_false hcons (by simp only []; omega)], below_drewN_ (below_drewN_ (below_drewN_ hbel2 q3) q4) q5⟩)
                · have hstep : fitGo n r ((lens.zip ks).drop k) = fitGo n (r - widthW (lens.getD k 0) (ks.getD k 0)) ((lens.zip ks).drop (k + 1)) := by
                    rw [hcons]; simp only [fitGo, c5, Bool.and_true]; rw [decide_eq_true (by omega), decide_eq_true (by omega)]; simp
                  refine v_skip ?_
                  refine v_region ?_
                  refine vl_val (os_addi rfl rfl (by omega)) ?_
                  refine vl_val (os_move rfl) ?_
                  refine vl_nil ?_
                  exact ⟨(k + 1, r - widthV (lens.getD k 0) (ks.getD k 0)), ⟨rfl, rfl, rfl, rfl, trivial⟩, ⟨rfl, rfl, trivial⟩, ⟨by dsimp only; omega, .inr (by dsimp only; omega), by dsimp only; omega, by dsimp only; omega, by rw [hgo, hstep, hwv], _, by rw [World.drewN_drewN, World.drewN_drewN]⟩, by dsimp only; omega⟩
          · obtain rfl : k = l := by omega
            refine v_exit ?_
            refine v_seq ?_
            refine v_region ?_
            refine vl_val (os_assign rfl) ?_
            refine vl_nil ?_
            refine v_ret ?_
            exact post_ret rfl rfl (⟨by rw [hgo, List.drop_eq_nil_of_le (by rw [List.length_zip]; omega)]; rfl, below_drewN_ hbel2 q3⟩)
      · refine v_seq ?_
        refine v_region ?_
        refine vl_val (os_box rfl) ?_
        refine vl_val (os_assign rfl) ?_
        refine vl_nil ?_
        refine v_seq ?_
        refine v_region ?_
        refine vl_val (os_loadB Try.underlying42 rfl (by kernel_rfl) rfl (hB)) ?_
        refine vl_val (os_move rfl) ?_
        refine vl_val (os_len Try.underlying40 rfl) ?_
        refine vl_call (size_Room n m b l _) rfl ?_
        rintro v w1 ⟨rfl, hb1⟩
        have hbel1 := hbel.trans (hb1.mono (by simp))
        refine vl_val (os_move rfl) ?_
        refine vl_val (os_extract rfl rfl) ?_
        refine vl_val (os_extract rfl rfl) ?_
        refine vl_val (os_assign rfl) ?_
        refine vl_val (os_assign rfl) ?_
        refine vl_nil ?_
        refine v_seq ?_
        refine v_seq ?_
        refine v_region ?_
        refine vl_val (os_move rfl) ?_
        refine vl_val (os_f (os_neq rfl rfl) (by simp [c1, errE])) ?_
        refine vl_val (os_move rfl) ?_
        refine vl_valg rfl (os_move rfl) ?_
        refine vl_callg rfl (gives_boolb (size_lengths A l c lens _ ((ha.keep hbel1)) hl hl') c2) rfl ?_
        rintro v w2 ⟨rfl, q, rfl⟩
        refine vl_valg rfl (os_not rfl) ?_
        refine vl_val (os_pick_f rfl rfl) ?_
        refine vl_val (os_move rfl) ?_
        refine vl_valg rfl (os_move rfl) ?_
        refine vl_valg rfl (os_len Try.underlying40 rfl) ?_
        refine vl_valg rfl (os_move rfl) ?_
        refine vl_valg rfl (os_len Try.underlying40 rfl) ?_
        refine vl_valg rfl (os_t (os_neq rfl rfl) (by omega)) ?_
        refine vl_val (os_pick_f rfl rfl) ?_
        refine vl_val (os_move rfl) ?_
        refine vl_skip rfl rfl ?_
        refine vl_skip rfl rfl ?_
        refine vl_skip rfl rfl ?_
        refine vl_val (os_pick_t rfl rfl) ?_
        refine vl_nil ?_
        refine v_cond_t rfl ?_
        refine v_seq ?_
        refine v_region ?_
        refine vl_val (os_assign rfl) ?_
        refine vl_nil ?_
        refine v_ret ?_
        exact post_ret rfl rfl (⟨by simp [fitsB, ← hl, ← hlk, c3], below_drewN_ hbel1 q⟩)
end Go.Proofs.Ytpojijnjdlnokaa

/- Layer 11, plain law: what fits, fits with more room, with less in a layer, with a greater last threshold. No program in sight. -/
namespace Go.Proofs.Ytpojijnjdlnokaa

theorem sumW_le : ∀ (zs ys : List (Int × Int)), ys.length = zs.length → (∀ i, i < zs.length → widthW (ys.getD i (0, 0)).1 (ys.getD i (0, 0)).2 ≤ widthW (zs.getD i (0, 0)).1 (zs.getD i (0, 0)).2) → sumW ys ≤ sumW zs
  | [], [], _, _ => by simp [sumW]
  | [], _ :: _, h, _ => by simp at h
  | _ :: _, [], h, _ => by simp at h
  | z :: zs, y :: ys, h, hi => by
    have h0 := hi 0 (by simp)
    have := sumW_le zs ys (by simpa using h) fun i hl => by have := hi (i + 1) (by simpa using hl); simpa using this
    simp only [sumW]
    simp at h0
    omega

theorem zip_getD {a b : List Int} {i : Nat} (ha : i < a.length) (hb : i < b.length) : (a.zip b).getD i (0, 0) = (a.getD i 0, b.getD i 0) := by
  rw [List.getD_eq_getElem?_getD, List.getElem?_eq_getElem (by rw [List.length_zip]; omega)]
  simp [ha, hb]

theorem fits_iff {n m b : Int} {lens ks : List Int} : fitsB n m b lens ks = true ↔ roomOk n m b lens.length = true ∧ lensB lens = true ∧ ks.length = lens.length ∧ sortedB ks = true ∧
    (∀ i, i < lens.length → 1 ≤ ks.getD i 0 ∧ ks.getD i 0 ≤ n) ∧ sumW (lens.zip ks) ≤ roomW n m b lens.length := by
  unfold fitsB
  simp only [Bool.and_eq_true, decide_eq_true_eq, fitGo_iff]
  constructor
  · rintro ⟨⟨⟨⟨h1, h2⟩, h3⟩, h4⟩, h5, h6⟩
    refine ⟨h1, h2, h3, h4, fun i hi => ?_, ?_⟩
    · have := h5 (lens.getD i 0, ks.getD i 0) (by
        rw [← zip_getD hi (by omega)]
        rw [List.getD_eq_getElem?_getD, List.getElem?_eq_getElem (by rw [List.length_zip]; omega)]
        exact List.getElem_mem _)
      simp only [widthOk, decide_eq_true_eq] at this
      omega
    · rcases h6 with h6 | h6
      · have : lens.length = 0 := by
          have := congrArg List.length h6
          rw [List.length_zip, h3] at this
          simpa using this
        simp [lensB, betw, this] at h2
      · exact h6
  · rintro ⟨h1, h2, h3, h4, h5, h6⟩
    refine ⟨⟨⟨⟨h1, h2⟩, h3⟩, h4⟩, fun p hp => ?_, .inr h6⟩
    obtain ⟨i, hi, rfl⟩ := List.mem_iff_getElem.1 hp
    rw [List.length_zip] at hi
    have h7 := h5 i (by omega)
    have h8 : rightB n m b = true := by simp only [roomOk, Bool.and_eq_true] at h1; exact h1.1
    simp only [rightB, decide_eq_true_eq] at h8
    simp only [lensB, Bool.and_eq_true, Bool.not_eq_true', List.any_eq_false, betw, decide_eq_true_eq] at h2
    have h9 := h2.2 lens[i] (List.getElem_mem _)
    have e1 : ks.getD i 0 = ks[i] := by simp [show i < ks.length by omega]
    rw [e1] at h7
    simp only [List.getElem_zip, widthOk, decide_eq_true_eq]
    simp at h9
    omega

theorem getD_set_eq (l : List Int) (k : Nat) (v : Int) (i : Nat) (hi : i < l.length) : (l.set k v).getD i 0 = if k = i then v else l.getD i 0 := by
  simp [List.getElem?_set, hi]
  split <;> simp_all

theorem fits_room {n m b m' b' : Int} {lens ks : List Int} (h : fitsB n m b lens ks = true) (hm : m ≤ m') (hm' : m' ≤ 1500) (hb : b ≤ b') (hb' : b' ≤ 524288) :
    fitsB n m' b' lens ks = true ∧ roomOk n m' b' lens.length = true ∧ roomW n m b lens.length ≤ roomW n m' b' lens.length := by
  rw [fits_iff] at h
  obtain ⟨h1, h2, h3, h4, h5, h6⟩ := h
  have h7 : roomOk n m' b' lens.length = true := by
    simp only [roomOk, rightB, Bool.and_eq_true, decide_eq_true_eq] at h1 ⊢
    exact ⟨by omega, h1.2⟩
  have h8 : 1 ≤ n := by simp only [roomOk, rightB, Bool.and_eq_true, decide_eq_true_eq] at h1; omega
  have h9 := room_mono (l := lens.length) h8 hm hb
  exact ⟨fits_iff.2 ⟨h7, h2, h3, h4, h5, by omega⟩, h7, h9⟩

theorem fits_nonneg {n m b : Int} {lens ks : List Int} (h : fitsB n m b lens ks = true) : 0 ≤ roomW n m b lens.length := by
  have h0 := h
  unfold fitsB at h0
  simp only [Bool.and_eq_true, decide_eq_true_eq] at h0
  have hz := (fitGo_iff _ _).1 h0.2
  have : 0 ≤ sumW (lens.zip ks) := by
    have h2 := hz.1
    generalize lens.zip ks = zs at h2
    induction zs with
    | nil => simp [sumW]
    | cons q s ih => simp only [sumW]; have := (width_bd (h2 q (by simp)).2).1; have := ih (fun p hp => h2 p (by simp [hp])); omega
  rw [fits_iff] at h
  omega

theorem fits_short {n m b : Int} {lens ks : List Int} (h : fitsB n m b lens ks = true) {k : Nat} {v : Int} (hk : k < lens.length) (h0 : 0 ≤ v) (hv : v ≤ lens.getD k 0) : fitsB n m b (lens.set k v) ks = true := by
  rw [fits_iff] at h ⊢
  obtain ⟨h1, h2, h3, h4, h5, h6⟩ := h
  rw [List.length_set]
  have hl2 : lensB (lens.set k v) = true := by
    simp only [lensB, Bool.and_eq_true, Bool.not_eq_true', List.any_eq_false, List.length_set] at h2 ⊢
    refine ⟨h2.1, fun z hz => ?_⟩
    obtain ⟨i, hi, rfl⟩ := List.mem_iff_getElem.1 hz
    rw [List.length_set] at hi
    rw [List.getElem_set]
    have h7 := h2.2 lens[k] (List.getElem_mem _)
    have h8 := h2.2 lens[i] (List.getElem_mem _)
    simp [hk] at hv
    split
    · simp [betw] at h7 ⊢; omega
    · exact h8
  refine ⟨h1, hl2, h3, h4, h5, ?_⟩
  refine Int.le_trans (sumW_le _ _ (by simp) fun i hi => ?_) h6
  rw [List.length_zip] at hi
  rw [zip_getD (by simp; omega) (by omega), zip_getD (by omega) (by omega), getD_set_eq _ _ _ _ (by omega)]
  simp only []
  split
  · rename_i he; subst he; exact width_mono hv (h5 k hk).1
  · exact Int.le_refl _

theorem fits_more {n m b : Int} {lens ks : List Int} (h : fitsB n m b lens ks = true) : fitsB n m b lens (ks.set (ks.length - 1) n) = true := by
  rw [fits_iff] at h ⊢
  obtain ⟨h1, h2, h3, h4, h5, h6⟩ := h
  have hlen : 1 ≤ lens.length := by simp only [lensB, Bool.and_eq_true, betw, decide_eq_true_eq] at h2; omega
  have hlast := h5 (ks.length - 1) (by omega)
  have hnn : ∀ i, i < lens.length → 0 ≤ lens.getD i 0 := fun i hi => by
    simp only [lensB, Bool.and_eq_true, Bool.not_eq_true', List.any_eq_false, betw, decide_eq_true_eq] at h2
    have := h2.2 lens[i] (List.getElem_mem _)
    simp at this
    simp [hi]; omega
  refine ⟨h1, h2, by rw [List.length_set, h3], ?_, fun i hi => ?_, ?_⟩
  · simp only [sortedB, decide_eq_true_eq, List.length_set] at h4 ⊢
    intro i hi hi2
    rw [getD_set_eq _ _ _ _ hi, getD_set_eq _ _ _ _ hi2, if_neg (show ¬ ks.length - 1 = i by omega)]
    split
    · exact (h5 i (by omega)).2
    · exact h4 i hi hi2
  · rw [getD_set_eq _ _ _ _ (by omega)]
    split
    · omega
    · exact h5 i hi
  · refine Int.le_trans (sumW_le _ _ (by simp) fun i hi => ?_) h6
    rw [List.length_zip] at hi
    rw [zip_getD (by omega) (by simp; omega), zip_getD (by omega) (by omega), getD_set_eq _ _ _ _ (by omega)]
    simp only []
    split
    · rename_i he; exact width_anti (hnn i (by omega)) (h5 i (by omega)).1 (h5 i (by omega)).2
    · exact Int.le_refl _
end Go.Proofs.Ytpojijnjdlnokaa

/- Layer 11: awake, and the walk of SizeMore. -/
namespace Go.Proofs.Ytpojijnjdlnokaa
open Go.RowKit
set_option linter.unusedVariables false

theorem gives_eq {P : Program} {f : FuncId} {args : Array Value} {w : World} {u v : Value} {R : World → Prop} (h : Gives P f args w fun x w' => x = u ∧ R w') (e : u = v) : Gives P f args w fun x w' => x = v ∧ R w' := by subst e; exact h

theorem pick_bd (x : Int) {n : Int} (h : 1 ≤ n) : 0 ≤ pickV x n ∧ pickV x n < n := by
  unfold pickV
  rw [if_neg (by omega)]
  exact ⟨Int.emod_nonneg x (by omega), Int.emod_lt_of_pos x (by omega)⟩

end Go.Proofs.Ytpojijnjdlnokaa
