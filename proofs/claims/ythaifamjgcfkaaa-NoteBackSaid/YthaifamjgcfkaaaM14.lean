/- Texts joined: NtY NtO NtT. -/
import Derived.Test.YthaifamjgcfkaaaM13
/- Layer 15: what bytes are as a report, by the document. -/
namespace Go.Proofs.Ythaifamjgcfkaaa
open Go.RowKit
set_option linter.unusedVariables false

theorem shl24 {a : Int} (h : 0 ≤ a ∧ a ≤ 255) : IntKind.i64.wrap (a * 2 ^ min (24 : Int).toNat IntKind.i64.bits) = a * 16777216 := by
  have e : (2 : Int) ^ min (24 : Int).toNat IntKind.i64.bits = 16777216 := by decide
  rw [e, i64_fit (by omega)]
theorem shl16 {a : Int} (h : 0 ≤ a ∧ a ≤ 255) : IntKind.i64.wrap (a * 2 ^ min (16 : Int).toNat IntKind.i64.bits) = a * 65536 := by
  have e : (2 : Int) ^ min (16 : Int).toNat IntKind.i64.bits = 65536 := by decide
  rw [e, i64_fit (by omega)]
theorem shl8' {a : Int} (h : 0 ≤ a ∧ a ≤ 255) : IntKind.i64.wrap (a * 2 ^ min (8 : Int).toNat IntKind.i64.bits) = a * 256 := by
  have e : (2 : Int) ^ min (8 : Int).toNat IntKind.i64.bits = 256 := by decide
  rw [e, i64_fit (by omega)]
theorem i64_at {p : List Int} (h : AllY p) (i s : Nat) (hs : s ≤ 4) : I64 (numAt p i s) := by
  have h1 := numAt_bd h i s
  have h2 := pow256 hs
  have h3 : (256 : Int) ^ 4 = 4294967296 := by decide
  exact ⟨by omega, by omega⟩
theorem cntsAt_succ (p : List Int) (i k : Nat) : cntsAt p i (k + 1) = cntsAt p i k ++ [(numAt p (i + 3 * k) 1, numAt p (i + 1 + 3 * k) 2)] := by simp [cntsAt, List.range_succ]
theorem Rd.y {w : World} {g o : Nat} {p : List Int} (h : Rd w .u8 (some ⟨g, o, none⟩) p) {i : Nat} (hi : i < p.length) : w.cell? ⟨g, o + i, none⟩ = some (.int .u8 (p.getD i 0)) := by
  obtain ⟨_, _, e, hc⟩ := h.at_ hi
  cases e
  exact hc
set_option maxHeartbeats 4000000 in
theorem ref15_Parse (A : Option Addr) (n c : Nat) (zs : List Int) (w : World) (ha : Rd w .u8 A zs) (hn : n = zs.length) (hc : n ≤ c) (hn' : n ≤ 10000000) (hz : AllB zs) :
    Gives Try.prog 41 #[.slice A n c] w fun v w' => ∃ d : NoteV, v = .tuple #[.agg d.cells.toArray, .int .i64 (ntE zs)] ∧ d.p = ntP zs ∧ NoteOk w' d ∧ Below w.heap.size w w' := by
  have hQ0 := bk_new w zN 28
  have bQ : Below w.heap.size w (w.alloc (.cells zN.toArray 28)) := (Below.refl _ w).alloc (Nat.le_refl _) _
  have hsQ : (w.alloc (.cells zN.toArray 28)).heap.size = w.heap.size + 1 := by simp
  obtain ⟨w0, hw0⟩ : ∃ w0, w0 = w.alloc (.cells zN.toArray 28) := ⟨_, rfl⟩
  rw [← hw0] at hQ0 bQ hsQ
  have hy := openV_Y hz
  have hpl := openV_len zs
  refine gives_enter Try.call41 Try.func41 rfl rfl rfl (by kernel_rfl) ?_
  refine v_seq ?_
  refine v_region ?_
  refine vl_val (os_allocB Try.zeroValue28 (zc := _) (cs := zN) rfl) ?_
  rw [← hw0]
  refine vl_val (os_assign rfl) ?_
  refine vl_nil ?_
  refine v_seq ?_
  refine v_region ?_
  refine vl_val (os_move rfl) ?_
  refine vl_call (r7_Open A n c zs w0 (ha.keep bQ) hn hc (by omega) hz) rfl ?_
  rintro v1 w1 ⟨s1, rfl, o1, b1⟩
  have hQ1 := hQ0.keep b1
  have b1w := bQ.trans (b1.mono bQ.size)
  have s1' := b1.size
  have fin : ∀ (w9 : World) (x : Int), x ≠ 0 → ntE zs = x → Below w.heap.size w w9 → ∃ d : NoteV, (.tuple #[.agg zN.toArray, .int .i64 x] : Value) = .tuple #[.agg d.cells.toArray, .int .i64 (ntE zs)] ∧ d.p = ntP zs ∧ NoteOk (w9.setRow w.heap.size zN.toArray) d ∧ Below w.heap.size w (w9.setRow w.heap.size zN.toArray) := fun w9 x hx hE hb => ⟨nN, by rw [hE]; rfl, by unfold ntP; rw [hE, if_neg hx]; rfl, nN_ok _, below_setRow hb (Nat.le_refl _) _⟩
  refine vl_val (os_move rfl) ?_
  refine vl_val (os_extract rfl rfl) ?_
  refine vl_val (os_extract rfl rfl) ?_
  refine vl_val (os_assign rfl) ?_
  refine vl_val (os_assign rfl) ?_
  refine vl_nil ?_
  by_cases he : openE zs = 0
  · have hEp : ntE zs = parseE (openV zs) := by unfold ntE; rw [if_neg (fun h => h he)]
    refine v_seq ?_
    refine v_seq ?_
    refine v_region ?_
    refine vl_val (os_move rfl) ?_
    refine vl_val (os_neq rfl rfl) ?_
    refine vl_nil ?_
    refine v_cond_no rfl (fun h => h he) ?_
    generalize hp : openV zs = p at *
    by_cases hp0 : p.length = 0
    · obtain ⟨A1, c1, rfl, hc1, hm1, r1, -⟩ := OwnK.form o1
      refine v_skip ?_
      refine v_seq ?_
      refine v_seq ?_
      refine v_region ?_
      refine vl_val (os_move rfl) ?_
      refine vl_val (os_len Try.underlying22 rfl) ?_
      refine vl_val (os_eql rfl rfl) ?_
      refine vl_nil ?_
      refine v_cond_yes rfl (by omega) ?_
      refine v_seq ?_
      refine v_region ?_
      refine vl_val (os_build (cs := zN) rfl (by kernel_rfl)) ?_
      refine vl_unit (ou_storeB (by kernel_rfl) rfl rfl hQ1 rfl rfl) ?_
      refine vl_val (os_assign rfl) ?_
      refine vl_nil ?_
      refine v_ret ?_
      exact post_cellt rfl rfl rfl Try.underlying28 rfl (by kernel_rfl) (setRow_bk hQ1 zN) (fin w1 4 (by decide) (by rw [hEp]; unfold parseE; rw [if_pos hp0]) b1w)
    · obtain ⟨G, c1, rfl, hg1, hg2, -, -⟩ := OwnK.row o1 (by omega)
      have r1 := OwnK.rd o1
      have hGl := World.ownsRow.lt o1 G rfl
      have ha0 := hy.at_ 0
      refine v_skip ?_
      refine v_seq ?_
      refine v_seq ?_
      refine v_region ?_
      refine vl_val (os_move rfl) ?_
      refine vl_val (os_len Try.underlying22 rfl) ?_
      refine vl_val (os_eql rfl rfl) ?_
      refine vl_nil ?_
      refine v_cond_no rfl (by omega) ?_
      refine v_skip ?_
      refine v_seq ?_
      refine v_seq ?_
      refine v_region ?_
      refine vl_val (os_move rfl) ?_
      refine vl_val (os_ix Try.underlying22 Try.sizeOf5 rfl rfl (i := 0) (by omega) (by omega)) ?_
      refine vl_val (os_load Try.isAgg5 rfl (r1.y (i := 0) (by omega))) ?_
      refine vl_val (os_neq rfl rfl) ?_
      refine vl_nil ?_
      by_cases hv : numAt p 0 1 = 2
      · rw [numAt_one (by omega)] at hv
        refine v_cond_no rfl (fun h => h hv) ?_
        rw [← numAt_one (by omega)] at hv
        by_cases h9 : p.length < 9
        · refine v_skip ?_
          refine v_seq ?_
          refine v_seq ?_
          refine v_region ?_
          refine vl_val (os_move rfl) ?_
          refine vl_val (os_len Try.underlying22 rfl) ?_
          refine vl_val (os_t (os_lss rfl rfl) (by omega)) ?_
          refine vl_val (os_move rfl) ?_
          refine vl_skip rfl rfl ?_
          refine vl_skip rfl rfl ?_
          refine vl_skip rfl rfl ?_
          refine vl_skip rfl rfl ?_
          refine vl_skip rfl rfl ?_
          refine vl_skip rfl rfl ?_
          refine vl_skip rfl rfl ?_
          refine vl_skip rfl rfl ?_
          refine vl_skip rfl rfl ?_
          refine vl_val (os_pick_t rfl rfl) ?_
          refine vl_nil ?_
          refine v_cond_t rfl ?_
          refine v_seq ?_
          refine v_region ?_
          refine vl_val (os_build (cs := zN) rfl (by kernel_rfl)) ?_
          refine vl_unit (ou_storeB (by kernel_rfl) rfl rfl hQ1 rfl rfl) ?_
          refine vl_val (os_assign rfl) ?_
          refine vl_nil ?_
          refine v_ret ?_
          exact post_cellt rfl rfl rfl Try.underlying28 rfl (by kernel_rfl) (setRow_bk hQ1 zN) (fin w1 4 (by decide) (by rw [hEp]; unfold parseE; rw [if_neg hp0, if_neg (fun h => h hv), show goodP p = false by unfold goodP; simp; omega]; rfl) b1w)
        · have ha8 := hy.at_ 8
          have h8 := numAt_one (p := p) (i := 8) (by omega)
          by_cases hg : goodP p = true
          · have hgl := good_len hg
            rw [h8] at hgl
            refine v_skip ?_
            refine v_seq ?_
            refine v_seq ?_
            refine v_region ?_
            refine vl_val (os_move rfl) ?_
            refine vl_val (os_len Try.underlying22 rfl) ?_
            refine vl_val (os_f (os_lss rfl rfl) (by omega)) ?_
            refine vl_val (os_move rfl) ?_
            refine vl_valg rfl (os_move rfl) ?_
            refine vl_valg rfl (os_len Try.underlying22 rfl) ?_
            refine vl_valg rfl (os_move rfl) ?_
            refine vl_valg rfl (os_ix Try.underlying22 Try.sizeOf5 rfl rfl (i := 8) (by omega) (by omega)) ?_
            refine vl_valg rfl (os_load Try.isAgg5 rfl (r1.y (i := 8) (by omega))) ?_
            refine vl_valg rfl (os_conv Try.underlying5 Try.underlying3 rfl (i64_fit (by omega))) ?_
            refine vl_valg rfl (os_muli rfl rfl (by omega)) ?_
            refine vl_valg rfl (os_addi rfl rfl (by omega)) ?_
            refine vl_valg rfl (os_neq rfl rfl) ?_
            refine vl_val (os_pick_f rfl rfl) ?_
            refine vl_nil ?_
            refine v_cond_no rfl (by omega) ?_
            have a1 := hy.at_ 1
            have a2 := hy.at_ 2
            have a3 := hy.at_ 3
            have a4 := hy.at_ 4
            have a5 := hy.at_ 5
            have a6 := hy.at_ 6
            have a7 := hy.at_ 7
            have b0 : Below w1.heap.size w1 { w1 with drawn := w1.drawn + 1 } := (Below.refl _ _).drew
            have e1 : 256 * p.getD 1 0 + p.getD 2 0 = numAt p 1 2 := by rw [numAt_two (by omega)]; simp only [Nat.reduceAdd]; omega
            have e2 : p.getD 3 0 * 16777216 + p.getD 4 0 * 65536 + p.getD 5 0 * 256 + p.getD 6 0 = numAt p 3 4 := by rw [numAt_four (by omega)]; simp only [Nat.reduceAdd]; omega
            have e3 : p.getD 7 0 = numAt p 7 1 := by rw [numAt_one (by omega)]
            refine v_skip ?_
            refine v_mid [(2, _), (4, _)] (fun (x : Nat) => [(6, .pointer (some ⟨w1.heap.size, 0, none⟩))]) (fun x w' => Bk w' w1.heap.size [.int .i64 (numAt p 1 2), .int .i64 (numAt p 3 4), .int .i64 (numAt p 7 1), .slice none 0 0] 28 ∧ Below w1.heap.size w1 w') ⟨rfl, rfl, trivial⟩ ?_ ?_
            · refine v_region_h (fun w' => Below w1.heap.size w1 w') mixed (b0) ?_
              refine vh_pure 0 rfl (by kernel_rfl) (by kernel_rfl) (by kernel_rfl) (fun w hw => (os_move rfl)) ?_
              refine vh_pure 1 rfl (by kernel_rfl) (by kernel_rfl) (by kernel_rfl) (fun w hw => (os_ix Try.underlying22 Try.sizeOf5 rfl rfl (i := 1) (by omega) (by omega))) ?_
              refine vh_pure 2 rfl (by kernel_rfl) (by kernel_rfl) (by kernel_rfl) (fun w hw => (os_load Try.isAgg5 rfl ((r1.keep hw).y (i := 1) (by omega)))) ?_
              refine vh_pure 3 rfl (by kernel_rfl) (by kernel_rfl) (by kernel_rfl) (fun w hw => (os_conv Try.underlying5 Try.underlying3 rfl (i64_fit (by omega)))) ?_
              refine vh_pure 4 rfl (by kernel_rfl) (by kernel_rfl) (by kernel_rfl) (fun w hw => (os_muli rfl rfl (by omega))) ?_
              refine vh_pure 5 rfl (by kernel_rfl) (by kernel_rfl) (by kernel_rfl) (fun w hw => (os_move rfl)) ?_
              refine vh_pure 6 rfl (by kernel_rfl) (by kernel_rfl) (by kernel_rfl) (fun w hw => (os_ix Try.underlying22 Try.sizeOf5 rfl rfl (i := 2) (by omega) (by omega))) ?_
              refine vh_pure 7 rfl (by kernel_rfl) (by kernel_rfl) (by kernel_rfl) (fun w hw => (os_load Try.isAgg5 rfl ((r1.keep hw).y (i := 2) (by omega)))) ?_
              refine vh_pure 8 rfl (by kernel_rfl) (by kernel_rfl) (by kernel_rfl) (fun w hw => (os_conv Try.underlying5 Try.underlying3 rfl (i64_fit (by omega)))) ?_
              refine vh_pure 9 rfl (by kernel_rfl) (by kernel_rfl) (by kernel_rfl) (fun w hw => (os_addi rfl rfl (by omega))) ?_
              refine vh_pure 10 rfl (by kernel_rfl) (by kernel_rfl) (by kernel_rfl) (fun w hw => (os_move rfl)) ?_
              refine vh_pure 11 rfl (by kernel_rfl) (by kernel_rfl) (by kernel_rfl) (fun w hw => (os_ix Try.underlying22 Try.sizeOf5 rfl rfl (i := 3) (by omega) (by omega))) ?_
              refine vh_pure 12 rfl (by kernel_rfl) (by kernel_rfl) (by kernel_rfl) (fun w hw => (os_load Try.isAgg5 rfl ((r1.keep hw).y (i := 3) (by omega)))) ?_
              refine vh_pure 13 rfl (by kernel_rfl) (by kernel_rfl) (by kernel_rfl) (fun w hw => (os_conv Try.underlying5 Try.underlying3 rfl (i64_fit (by omega)))) ?_
              refine vh_pure 14 rfl (by kernel_rfl) (by kernel_rfl) (by kernel_rfl) (fun w hw => (os_shl rfl rfl (by omega) (shl24 a3))) ?_
              refine vh_pure 15 rfl (by kernel_rfl) (by kernel_rfl) (by kernel_rfl) (fun w hw => (os_move rfl)) ?_
              refine vh_pure 16 rfl (by kernel_rfl) (by kernel_rfl) (by kernel_rfl) (fun w hw => (os_ix Try.underlying22 Try.sizeOf5 rfl rfl (i := 4) (by omega) (by omega))) ?_
              refine vh_pure 17 rfl (by kernel_rfl) (by kernel_rfl) (by kernel_rfl) (fun w hw => (os_load Try.isAgg5 rfl ((r1.keep hw).y (i := 4) (by omega)))) ?_
              refine vh_pure 18 rfl (by kernel_rfl) (by kernel_rfl) (by kernel_rfl) (fun w hw => (os_conv Try.underlying5 Try.underlying3 rfl (i64_fit (by omega)))) ?_
              refine vh_pure 19 rfl (by kernel_rfl) (by kernel_rfl) (by kernel_rfl) (fun w hw => (os_shl rfl rfl (by omega) (shl16 a4))) ?_
              refine vh_pure 20 rfl (by kernel_rfl) (by kernel_rfl) (by kernel_rfl) (fun w hw => (os_addi rfl rfl (by omega))) ?_
              refine vh_pure 21 rfl (by kernel_rfl) (by kernel_rfl) (by kernel_rfl) (fun w hw => (os_move rfl)) ?_
              refine vh_pure 22 rfl (by kernel_rfl) (by kernel_rfl) (by kernel_rfl) (fun w hw => (os_ix Try.underlying22 Try.sizeOf5 rfl rfl (i := 5) (by omega) (by omega))) ?_
              refine vh_pure 23 rfl (by kernel_rfl) (by kernel_rfl) (by kernel_rfl) (fun w hw => (os_load Try.isAgg5 rfl ((r1.keep hw).y (i := 5) (by omega)))) ?_
              refine vh_pure 24 rfl (by kernel_rfl) (by kernel_rfl) (by kernel_rfl) (fun w hw => (os_conv Try.underlying5 Try.underlying3 rfl (i64_fit (by omega)))) ?_
              refine vh_pure 25 rfl (by kernel_rfl) (by kernel_rfl) (by kernel_rfl) (fun w hw => (os_shl rfl rfl (by omega) (shl8' a5))) ?_
              refine vh_pure 26 rfl (by kernel_rfl) (by kernel_rfl) (by kernel_rfl) (fun w hw => (os_addi rfl rfl (by omega))) ?_
              refine vh_pure 27 rfl (by kernel_rfl) (by kernel_rfl) (by kernel_rfl) (fun w hw => (os_move rfl)) ?_
              refine vh_pure 28 rfl (by kernel_rfl) (by kernel_rfl) (by kernel_rfl) (fun w hw => (os_ix Try.underlying22 Try.sizeOf5 rfl rfl (i := 6) (by omega) (by omega))) ?_
              refine vh_pure 29 rfl (by kernel_rfl) (by kernel_rfl) (by kernel_rfl) (fun w hw => (os_load Try.isAgg5 rfl ((r1.keep hw).y (i := 6) (by omega)))) ?_
              refine vh_pure 30 rfl (by kernel_rfl) (by kernel_rfl) (by kernel_rfl) (fun w hw => (os_conv Try.underlying5 Try.underlying3 rfl (i64_fit (by omega)))) ?_
              refine vh_pure 31 rfl (by kernel_rfl) (by kernel_rfl) (by kernel_rfl) (fun w hw => (os_addi rfl rfl (by omega))) ?_
              refine vh_pure 32 rfl (by kernel_rfl) (by kernel_rfl) (by kernel_rfl) (fun w hw => (os_move rfl)) ?_
              refine vh_pure 33 rfl (by kernel_rfl) (by kernel_rfl) (by kernel_rfl) (fun w hw => (os_ix Try.underlying22 Try.sizeOf5 rfl rfl (i := 7) (by omega) (by omega))) ?_
              refine vh_pure 34 rfl (by kernel_rfl) (by kernel_rfl) (by kernel_rfl) (fun w hw => (os_load Try.isAgg5 rfl ((r1.keep hw).y (i := 7) (by omega)))) ?_
              refine vh_pure 35 rfl (by kernel_rfl) (by kernel_rfl) (by kernel_rfl) (fun w hw => (os_conv Try.underlying5 Try.underlying3 rfl (i64_fit (by omega)))) ?_
              refine vh_pure 36 rfl (by kernel_rfl) (by kernel_rfl) (by kernel_rfl) (fun w hw => (os_build (cs := [.int .i64 (256 * p.getD 1 0 + p.getD 2 0), .int .i64 (p.getD 3 0 * 16777216 + p.getD 4 0 * 65536 + p.getD 5 0 * 256 + p.getD 6 0), .int .i64 (p.getD 7 0), .slice none 0 0]) rfl (by kernel_rfl))) ?_
              refine vh_one 37 (by kernel_rfl) ?_
              refine vhn_val rfl (os_allocB Try.zeroValue28 (zc := _) (cs := zN) rfl) (fun hw => hw.alloc (Nat.le_refl _) _) ?_
              refine vh_one 38 (by kernel_rfl) ?_
              refine vhn_unit rfl (ou_storeB (by kernel_rfl) rfl rfl (bk_new _ zN _) rfl rfl) (fun hw => below_setRow hw (Nat.le_refl _) _) ?_
              refine vh_done (by kernel_rfl) (fun hS => ?_)
              exact ⟨0, ⟨rfl, rfl, trivial⟩, ⟨rfl, trivial⟩, ⟨by rw [← e1, ← e2, ← e3]; exact setRow_bk (bk_new _ zN _) _, hS⟩⟩
            · rintro x w2 ⟨hM2, b2⟩
              have hM2l := hM2.lt
              obtain ⟨M, hM⟩ : ∃ M, M = w1.heap.size := ⟨_, rfl⟩
              rw [← hM] at hM2 hM2l
              rw [← hM]
              obtain ⟨K, hK⟩ : ∃ K : Nat, p.getD 8 0 = (K : Int) := ⟨(p.getD 8 0).toNat, by omega⟩
              have hKl : p.length = 9 + 3 * K := by omega
              refine v_seq ?_
              refine v_seq ?_
              refine v_region ?_
              refine vl_val (os_assign rfl) ?_
              refine vl_nil ?_
              refine v_block ?_
              refine v_loop [(2, _), (4, _), (6, _)] (fun (i : Nat) => [(7, .int .i64 i)]) (fun i w' => i ≤ K ∧ Below w1.heap.size w1 w' ∧ M < w'.heap.size ∧ ∃ v, Bk w' M [.int .i64 (numAt p 1 2), .int .i64 (numAt p 3 4), .int .i64 (numAt p 7 1), v] 28 ∧ OwnP w' (M + 1) 42 2 v ((cntsAt p 9 i).map rowC)) (fun i => K - i) (0) ⟨rfl, rfl, rfl, trivial⟩ ⟨rfl, trivial⟩ (⟨by omega, b2, hM2l, _, hM2, OwnP.nil⟩) ?_
              rintro i w5 ⟨hi, b5, hMl, v, hM5, hv5⟩
              have r5 := r1.keep b5
              refine v_seq ?_
              refine v_seq ?_
              refine v_region ?_
              refine vl_val (os_move rfl) ?_
              refine vl_val (os_move rfl) ?_
              refine vl_val (os_ix Try.underlying22 Try.sizeOf5 rfl rfl (i := 8) (by omega) (by omega)) ?_
              refine vl_val (os_load Try.isAgg5 rfl (r5.y (i := 8) (by omega))) ?_
              refine vl_val (os_conv Try.underlying5 Try.underlying3 rfl (i64_fit (by omega))) ?_
              refine vl_val (os_lss rfl rfl) ?_
              refine vl_nil ?_
              by_cases hik : i < K
              · refine v_cond_yes rfl (by omega) ?_
                have c0 : Below w5.heap.size w5 { w5 with drawn := w5.drawn + 1 } := (Below.refl _ _).drew
                have ax := hy.at_ (9 + 3 * i)
                have ay := hy.at_ (10 + 3 * i)
                have az := hy.at_ (11 + 3 * i)
                have f1 : p.getD (9 + 3 * i) 0 = numAt p (9 + 3 * i) 1 := by rw [numAt_one (by omega)]
                have f2 : 256 * p.getD (10 + 3 * i) 0 + p.getD (11 + 3 * i) 0 = numAt p (9 + 1 + 3 * i) 2 := by rw [numAt_two (by omega), show 9 + 1 + 3 * i = 10 + 3 * i by omega, show 10 + 3 * i + 1 = 11 + 3 * i by omega]; omega
                have hrl : ((cntsAt p 9 i).map rowC).length = i := by simp [cntsAt_len]
                have hvl5 := hv5.lt
                refine v_skip ?_
                refine v_mid [(2, _), (4, _), (7, _)] (fun (x : Nat) => [(6, .pointer (some ⟨M, 0, none⟩))]) (fun x w' => Below w1.heap.size w1 w' ∧ M < w'.heap.size ∧ ∃ v, Bk w' M [.int .i64 (numAt p 1 2), .int .i64 (numAt p 3 4), .int .i64 (numAt p 7 1), v] 28 ∧ OwnP w' (M + 1) 42 2 v ((cntsAt p 9 (i + 1)).map rowC)) ⟨rfl, rfl, rfl, trivial⟩ ?_ ?_
                · refine v_block ?_
                  refine v_region_h (fun w' => Below w1.heap.size w1 w') mixed (b5.trans (c0.mono (by omega))) ?_
                  refine vh_pure 0 rfl (by kernel_rfl) (by kernel_rfl) (by kernel_rfl) (fun w hw => (os_fa (o := 3) (k := 0) (by kernel_rfl) rfl)) ?_
                  refine vh_pure 2 rfl (by kernel_rfl) (by kernel_rfl) (by kernel_rfl) (fun w hw => (os_move rfl)) ?_
                  refine vh_pure 3 rfl (by kernel_rfl) (by kernel_rfl) (by kernel_rfl) (fun w hw => (os_move rfl)) ?_
                  refine vh_pure 4 rfl (by kernel_rfl) (by kernel_rfl) (by kernel_rfl) (fun w hw => (os_muli rfl rfl (by omega))) ?_
                  refine vh_pure 5 rfl (by kernel_rfl) (by kernel_rfl) (by kernel_rfl) (fun w hw => (os_addi rfl rfl (by omega))) ?_
                  refine vh_pure 6 rfl (by kernel_rfl) (by kernel_rfl) (by kernel_rfl) (fun w hw => (os_ix Try.underlying22 Try.sizeOf5 rfl rfl (i := 9 + 3 * i) (by omega) (by omega))) ?_
                  refine vh_pure 7 rfl (by kernel_rfl) (by kernel_rfl) (by kernel_rfl) (fun w hw => (os_load Try.isAgg5 rfl ((r1.keep hw).y (i := 9 + 3 * i) (by omega)))) ?_
                  refine vh_pure 8 rfl (by kernel_rfl) (by kernel_rfl) (by kernel_rfl) (fun w hw => (os_conv Try.underlying5 Try.underlying3 rfl (i64_fit (by omega)))) ?_
                  refine vh_pure 9 rfl (by kernel_rfl) (by kernel_rfl) (by kernel_rfl) (fun w hw => (os_move rfl)) ?_
                  refine vh_pure 10 rfl (by kernel_rfl) (by kernel_rfl) (by kernel_rfl) (fun w hw => (os_move rfl)) ?_
                  refine vh_pure 11 rfl (by kernel_rfl) (by kernel_rfl) (by kernel_rfl) (fun w hw => (os_muli rfl rfl (by omega))) ?_
                  refine vh_pure 12 rfl (by kernel_rfl) (by kernel_rfl) (by kernel_rfl) (fun w hw => (os_addi rfl rfl (by omega))) ?_
                  refine vh_pure 13 rfl (by kernel_rfl) (by kernel_rfl) (by kernel_rfl) (fun w hw => (os_ix Try.underlying22 Try.sizeOf5 rfl rfl (i := 10 + 3 * i) (by omega) (by omega))) ?_
                  refine vh_pure 14 rfl (by kernel_rfl) (by kernel_rfl) (by kernel_rfl) (fun w hw => (os_load Try.isAgg5 rfl ((r1.keep hw).y (i := 10 + 3 * i) (by omega)))) ?_
                  refine vh_pure 15 rfl (by kernel_rfl) (by kernel_rfl) (by kernel_rfl) (fun w hw => (os_conv Try.underlying5 Try.underlying3 rfl (i64_fit (by omega)))) ?_
                  refine vh_pure 16 rfl (by kernel_rfl) (by kernel_rfl) (by kernel_rfl) (fun w hw => (os_muli rfl rfl (by omega))) ?_
                  refine vh_pure 17 rfl (by kernel_rfl) (by kernel_rfl) (by kernel_rfl) (fun w hw => (os_move rfl)) ?_
                  refine vh_pure 18 rfl (by kernel_rfl) (by kernel_rfl) (by kernel_rfl) (fun w hw => (os_move rfl)) ?_
                  refine vh_pure 19 rfl (by kernel_rfl) (by kernel_rfl) (by kernel_rfl) (fun w hw => (os_muli rfl rfl (by omega))) ?_
                  refine vh_pure 20 rfl (by kernel_rfl) (by kernel_rfl) (by kernel_rfl) (fun w hw => (os_addi rfl rfl (by omega))) ?_
                  refine vh_pure 21 rfl (by kernel_rfl) (by kernel_rfl) (by kernel_rfl) (fun w hw => (os_ix Try.underlying22 Try.sizeOf5 rfl rfl (i := 11 + 3 * i) (by omega) (by omega))) ?_
                  refine vh_pure 22 rfl (by kernel_rfl) (by kernel_rfl) (by kernel_rfl) (fun w hw => (os_load Try.isAgg5 rfl ((r1.keep hw).y (i := 11 + 3 * i) (by omega)))) ?_
                  refine vh_pure 23 rfl (by kernel_rfl) (by kernel_rfl) (by kernel_rfl) (fun w hw => (os_conv Try.underlying5 Try.underlying3 rfl (i64_fit (by omega)))) ?_
                  refine vh_pure 24 rfl (by kernel_rfl) (by kernel_rfl) (by kernel_rfl) (fun w hw => (os_addi rfl rfl (by omega))) ?_
                  refine vh_pure 25 rfl (by kernel_rfl) (by kernel_rfl) (by kernel_rfl) (fun w hw => (os_build (cs := [.int .i64 (p.getD (9 + 3 * i) 0), .int .i64 (256 * p.getD (10 + 3 * i) 0 + p.getD (11 + 3 * i) 0)]) rfl (by kernel_rfl))) ?_
                  refine vh_two 1 26 (by kernel_rfl) ?_ ?_
                  · refine vhn_val rfl (os_load Try.isAgg26 rfl ((by first | exact hM29.cell (i := 3) rfl | exact (hM5.keep c0).cell (i := 3) rfl))) (fun hw => hw) ?_
                    refine vh_one 26 (by kernel_rfl) ?_
                    refine vhn_some rfl (ot_litS (css := [[.int .i64 (p.getD (9 + 3 * i) 0), .int .i64 (256 * p.getD (10 + 3 * i) 0 + p.getD (11 + 3 * i) 0)]]) Try.underlying26 Try.sizeOf42 Try.zeroValue42 rfl rfl (by intro c hc; simp at hc; subst hc; rfl) (by decide) (by decide) (by decide)) (fun hw v1 w1' h => hw.trans (Below.mono h.2.2.2 hw.size)) ?_
                    rintro v29 w29 ⟨rfl, r29, s29, c29⟩
                    have b29 : Below w5.heap.size w5 w29 := c0.trans c29
                    have hM29 := hM5.keep b29
                    have hv29 := hv5.keepAll b29
                    have s29' := b29.size
                    refine vh_one 27 (by kernel_rfl) ?_
                    refine vhn_some rfl (ot_append_pn Try.underlying26 ti_wCounts rfl (by decide) rfl rfl hv29 r29 (by intro c hc; simp at hc; subst hc; rfl) rfl (by intro c hc u hu; simp at hc; subst hc; simp at hu; rcases hu with rfl | rfl <;> rfl) (by rw [hrl]; omega) (by rw [hrl]; simp only [maxLen]; omega) (by omega)) (fun hw v1 w1' h => hw.grown h.2 (by omega) (fun k hk => by have := (hvl5 k hk).1; omega)) ?_
                    rintro v30 w30 ⟨ho30, hg30⟩
                    have hM30 := hM29.grown hg30 (fun e => by have := (hvl5 M e.symm).1; omega)
                    have hv30 := ho30.lt
                    have hMl30 := hM30.lt
                    refine vh_pure 28 rfl (by kernel_rfl) (by kernel_rfl) (by kernel_rfl) (fun w hw => (os_fa (o := 3) (k := 0) (by kernel_rfl) rfl)) ?_
                    refine vh_one 29 (by kernel_rfl) ?_
                    refine vhn_unit rfl (ou_store Try.sizeOf26 rfl rfl (OwnP.one' ho30) (hM30.cell (i := 3) rfl) (hM30.free _)) (fun hw => below_set hw (by omega) _ _) ?_
                    refine vh_done (by kernel_rfl) (fun hS => ?_)
                    exact ⟨0, ⟨rfl, rfl, rfl, trivial⟩, ⟨rfl, trivial⟩, ⟨hS, by simpa [World.setCell] using hMl30, v30, hM30.set 3 v30, by rw [cntsAt_succ, List.map_append, ← f1, ← f2]; exact ho30.blk fun k hk => Below.heap_setCell _ _ _ _ (fun e => by have := (hv30 k hk).1; simp at e; omega)⟩⟩
                  · refine vhn_some rfl (ot_litS (css := [[.int .i64 (p.getD (9 + 3 * i) 0), .int .i64 (256 * p.getD (10 + 3 * i) 0 + p.getD (11 + 3 * i) 0)]]) Try.underlying26 Try.sizeOf42 Try.zeroValue42 rfl rfl (by intro c hc; simp at hc; subst hc; rfl) (by decide) (by decide) (by decide)) (fun hw v1 w1' h => hw.trans (Below.mono h.2.2.2 hw.size)) ?_
                    rintro v29 w29 ⟨rfl, r29, s29, c29⟩
                    have b29 : Below w5.heap.size w5 w29 := c0.trans c29
                    have hM29 := hM5.keep b29
                    have hv29 := hv5.keepAll b29
                    have s29' := b29.size
                    refine vh_one 1 (by kernel_rfl) ?_
                    refine vhn_val rfl (os_load Try.isAgg26 rfl ((by first | exact hM29.cell (i := 3) rfl | exact (hM5.keep c0).cell (i := 3) rfl))) (fun hw => hw) ?_
                    refine vh_one 27 (by kernel_rfl) ?_
                    refine vhn_some rfl (ot_append_pn Try.underlying26 ti_wCounts rfl (by decide) rfl rfl hv29 r29 (by intro c hc; simp at hc; subst hc; rfl) rfl (by intro c hc u hu; simp at hc; subst hc; simp at hu; rcases hu with rfl | rfl <;> rfl) (by rw [hrl]; omega) (by rw [hrl]; simp only [maxLen]; omega) (by omega)) (fun hw v1 w1' h => hw.grown h.2 (by omega) (fun k hk => by have := (hvl5 k hk).1; omega)) ?_
                    rintro v30 w30 ⟨ho30, hg30⟩
                    have hM30 := hM29.grown hg30 (fun e => by have := (hvl5 M e.symm).1; omega)
                    have hv30 := ho30.lt
                    have hMl30 := hM30.lt
                    refine vh_pure 28 rfl (by kernel_rfl) (by kernel_rfl) (by kernel_rfl) (fun w hw => (os_fa (o := 3) (k := 0) (by kernel_rfl) rfl)) ?_
                    refine vh_one 29 (by kernel_rfl) ?_
                    refine vhn_unit rfl (ou_store Try.sizeOf26 rfl rfl (OwnP.one' ho30) (hM30.cell (i := 3) rfl) (hM30.free _)) (fun hw => below_set hw (by omega) _ _) ?_
                    refine vh_done (by kernel_rfl) (fun hS => ?_)
                    exact ⟨0, ⟨rfl, rfl, rfl, trivial⟩, ⟨rfl, trivial⟩, ⟨hS, by simpa [World.setCell] using hMl30, v30, hM30.set 3 v30, by rw [cntsAt_succ, List.map_append, ← f1, ← f2]; exact ho30.blk fun k hk => Below.heap_setCell _ _ _ _ (fun e => by have := (hv30 k hk).1; simp at e; omega)⟩⟩
                · rintro x w31 ⟨a1', a2', v31, a3', a4'⟩
                  refine v_region ?_
                  refine vl_val (os_move rfl) ?_
                  refine vl_val (os_addi rfl rfl (by omega)) ?_
                  refine vl_val (os_assign rfl) ?_
                  refine vl_nil ?_
                  exact ⟨i + 1, ⟨rfl, rfl, rfl, trivial⟩, ⟨rfl, trivial⟩, ⟨by omega, a1', a2', v31, a3', a4'⟩, by dsimp only; omega⟩
              · refine v_cond_no rfl (by omega) ?_
                obtain rfl : K = i := by omega
                obtain ⟨AC, cC, rfl, -, -, hr⟩ := hv5.form
                have hrl : ((cntsAt p 9 K).map rowC).length = K := by simp [cntsAt_len]
                have hQ5 := hQ1.below b5 (by omega)
                have b5w := b1w.trans (b5.mono b1w.size)
                have hbd := fun i s (hs : s ≤ 4) => i64_at hy i s hs
                have hdd : NoteOk w5 ⟨numAt p 1 2, numAt p 3 4, numAt p 7 1, AC, ((cntsAt p 9 K).map rowC).length, cC, cntsAt p 9 K⟩ := ⟨hr, by simp, by simp only [hrl]; omega, ⟨hbd 1 2 (by omega), hbd 3 4 (by omega), hbd 7 1 (by omega)⟩, fun e he => by obtain ⟨j, _, rfl⟩ := List.mem_map.1 he; exact ⟨hbd _ 1 (by omega), hbd _ 2 (by omega)⟩⟩
                have hlow : ∀ a, AC = some a → M < a.block := fun a ha => by have := (hv5.lt a.block (by subst ha; rfl)).1; omega
                have hdp : NoteV.p ⟨numAt p 1 2, numAt p 3 4, numAt p 7 1, AC, ((cntsAt p 9 K).map rowC).length, cC, cntsAt p 9 K⟩ = noteP p := by unfold noteP; rw [h8, hK, Int.toNat_natCast]; rfl
                have hM5' : Bk w5 M (NoteV.cells ⟨numAt p 1 2, numAt p 3 4, numAt p 7 1, AC, ((cntsAt p 9 K).map rowC).length, cC, cntsAt p 9 K⟩) 28 := hM5
                generalize hdn : (⟨numAt p 1 2, numAt p 3 4, numAt p 7 1, AC, ((cntsAt p 9 K).map rowC).length, cC, cntsAt p 9 K⟩ : NoteV) = d at *
                have hAd : d.A = AC := by rw [← hdn]
                have hE2 : ntE zs = if rightP (noteP p) then 0 else 4 := by rw [hEp]; unfold parseE; rw [if_neg hp0, if_neg (fun h => h hv), hg, Bool.true_and]
                cases hrt : rightN d
                · refine v_exit ?_
                  refine v_seq ?_
                  refine v_seq ?_
                  refine v_region ?_
                  refine vl_val (os_loadB Try.underlying28 rfl (by kernel_rfl) rfl (hM5')) ?_
                  refine vl_call (gives_boolb (ref15_Right d w5 hdd) hrt) rfl ?_
                  rintro v8 w8 ⟨rfl, b8⟩
                  have b8w := b5w.trans (b8.mono b5w.size)
                  have hQ8 := hQ5.keep b8
                  refine vl_val (os_not rfl) ?_
                  refine vl_nil ?_
                  refine v_cond_t rfl ?_
                  refine v_seq ?_
                  refine v_region ?_
                  refine vl_val (os_build (cs := zN) rfl (by kernel_rfl)) ?_
                  refine vl_unit (ou_storeB (by kernel_rfl) rfl rfl hQ8 rfl rfl) ?_
                  refine vl_val (os_assign rfl) ?_
                  refine vl_nil ?_
                  refine v_ret ?_
                  exact post_cellt rfl rfl rfl Try.underlying28 rfl (by kernel_rfl) (setRow_bk hQ8 zN) (fin w8 4 (by decide) (by rw [hE2, ← hdp, ← rightN_p, hrt]; rfl) b8w)
                · refine v_exit ?_
                  refine v_seq ?_
                  refine v_seq ?_
                  refine v_region ?_
                  refine vl_val (os_loadB Try.underlying28 rfl (by kernel_rfl) rfl (hM5')) ?_
                  refine vl_call (gives_boolb (ref15_Right d w5 hdd) hrt) rfl ?_
                  rintro v8 w8 ⟨rfl, b8⟩
                  have b8w := b5w.trans (b8.mono b5w.size)
                  have hQ8 := hQ5.keep b8
                  have hM8 := hM5'.keep b8
                  have hd8 := hdd.keep b8
                  refine vl_val (os_not rfl) ?_
                  refine vl_nil ?_
                  refine v_cond_f rfl ?_
                  refine v_skip ?_
                  refine v_seq ?_
                  refine v_region ?_
                  refine vl_val (os_loadB Try.underlying28 rfl (by kernel_rfl) rfl (hM8)) ?_
                  refine vl_unit (ou_storeB (by kernel_rfl) rfl rfl hQ8 rfl rfl) ?_
                  have hE3 : ntE zs = 0 := by rw [hE2, ← hdp, ← rightN_p, hrt]; rfl
                  have hd9 : NoteOk (w8.setRow w.heap.size d.cells.toArray) d := hd8.blk fun a ha => setRow_heap (by have := hlow a (hAd.symm.trans ha); omega)
                  refine vl_val (os_assign rfl) ?_
                  refine vl_nil ?_
                  refine v_ret ?_
                  exact post_cellt rfl rfl rfl Try.underlying28 rfl (by kernel_rfl) (setRow_bk hQ8 d.cells) ⟨d, by rw [hE3], by unfold ntP; rw [hE3, if_pos rfl, hp]; exact hdp, hd9, below_setRow b8w (Nat.le_refl _) _⟩
          · refine v_skip ?_
            refine v_seq ?_
            refine v_seq ?_
            refine v_region ?_
            refine vl_val (os_move rfl) ?_
            refine vl_val (os_len Try.underlying22 rfl) ?_
            refine vl_val (os_f (os_lss rfl rfl) (by omega)) ?_
            refine vl_val (os_move rfl) ?_
            refine vl_valg rfl (os_move rfl) ?_
            refine vl_valg rfl (os_len Try.underlying22 rfl) ?_
            refine vl_valg rfl (os_move rfl) ?_
            refine vl_valg rfl (os_ix Try.underlying22 Try.sizeOf5 rfl rfl (i := 8) (by omega) (by omega)) ?_
            refine vl_valg rfl (os_load Try.isAgg5 rfl (r1.y (i := 8) (by omega))) ?_
            refine vl_valg rfl (os_conv Try.underlying5 Try.underlying3 rfl (i64_fit (by omega))) ?_
            refine vl_valg rfl (os_muli rfl rfl (by omega)) ?_
            refine vl_valg rfl (os_addi rfl rfl (by omega)) ?_
            refine vl_valg rfl (os_neq rfl rfl) ?_
            refine vl_val (os_pick_f rfl rfl) ?_
            refine vl_nil ?_
            refine v_cond_yes rfl (fun h => hg (by unfold goodP; rw [h8]; exact decide_eq_true ⟨by omega, by omega⟩)) ?_
            refine v_seq ?_
            refine v_region ?_
            refine vl_val (os_build (cs := zN) rfl (by kernel_rfl)) ?_
            refine vl_unit (ou_storeB (by kernel_rfl) rfl rfl hQ1 rfl rfl) ?_
            refine vl_val (os_assign rfl) ?_
            refine vl_nil ?_
            refine v_ret ?_
            exact post_cellt rfl rfl rfl Try.underlying28 rfl (by kernel_rfl) (setRow_bk hQ1 zN) (fin w1 4 (by decide) (by rw [hEp]; unfold parseE; rw [if_neg hp0, if_neg (fun h => h hv), show goodP p = false by simpa using hg]; rfl) b1w)
      · rw [numAt_one (by omega)] at hv
        refine v_cond_yes rfl (hv) ?_
        rw [← numAt_one (by omega)] at hv
        refine v_seq ?_
        refine v_region ?_
        refine vl_val (os_build (cs := zN) rfl (by kernel_rfl)) ?_
        refine vl_unit (ou_storeB (by kernel_rfl) rfl rfl hQ1 rfl rfl) ?_
        refine vl_val (os_assign rfl) ?_
        refine vl_nil ?_
        refine v_ret ?_
        exact post_cellt rfl rfl rfl Try.underlying28 rfl (by kernel_rfl) (setRow_bk hQ1 zN) (fin w1 11 (by decide) (by rw [hEp]; unfold parseE; rw [if_neg hp0, if_pos hv]) b1w)
  · refine v_seq ?_
    refine v_seq ?_
    refine v_region ?_
    refine vl_val (os_move rfl) ?_
    refine vl_val (os_neq rfl rfl) ?_
    refine vl_nil ?_
    refine v_cond_yes rfl (he) ?_
    refine v_seq ?_
    refine v_region ?_
    refine vl_val (os_build (cs := zN) rfl (by kernel_rfl)) ?_
    refine vl_val (os_move rfl) ?_
    refine vl_unit (ou_storeB (by kernel_rfl) rfl rfl hQ1 rfl rfl) ?_
    refine vl_val (os_assign rfl) ?_
    refine vl_nil ?_
    refine v_ret ?_
    exact post_cellt rfl rfl rfl Try.underlying28 rfl (by kernel_rfl) (setRow_bk hQ1 zN) (fin w1 (openE zs) he (by unfold ntE; rw [if_pos he]) b1w)
end Go.Proofs.Ythaifamjgcfkaaa

/- Layer 15: a report's datagram. -/
namespace Go.Proofs.Ythaifamjgcfkaaa
open Go.RowKit
set_option linter.unusedVariables false

theorem Kn.of_kb {B : Nat} {S : List Nat} {W W' : World} (h : Kb S W W') (hS : ∀ k ∈ S, ∃ o : Obj, W.heap[k]? = some o ∧ o.isCells = true) : Kn B W W' :=
  ⟨h.size, fun k o _ hk ho => (h.block k (Array.getElem?_eq_some_iff.1 hk).1 fun hkS => by
    obtain ⟨o', h1, h2⟩ := hS k hkS
    rw [hk] at h1
    cases h1
    rw [ho] at h2; cases h2).trans hk⟩
def manyB (s : Nat) (zs : List Int) : List Int := zs.flatMap fun z => numBytes z s
theorem manyB_len (s : Nat) (zs : List Int) : (manyB s zs).length = s * zs.length := by
  induction zs with
  | nil => rfl
  | cons z r ih =>
    show (numBytes z s ++ manyB s r).length = _
    rw [List.length_append, numBytes_len, ih, List.length_cons, Nat.mul_add]; omega
theorem manyB_succ {s : Nat} {zs : List Int} {i : Nat} (hi : i < zs.length) : manyB s (zs.take (i + 1)) = manyB s (zs.take i) ++ numBytes (zs.getD i 0) s := by
  have e : zs.getD i 0 = zs[i] := by simp [hi]
  unfold manyB
  rw [List.take_succ_eq_append_getElem hi, List.flatMap_append, e]; simp
/-- a writer, told in a variable -/
structure NtW (w : World) (B g P : Nat) (v : Value) (bs : List Int) : Prop where
  wr : WrS w B 153 g v bs 0
  cell : Bk w P [.pointer (some ⟨g, 0, none⟩)] 92
  gP : g < P
  vP : ∀ k, v.ownBlock = some k → P < k ∧ k < w.heap.size
theorem NtW.keep {w w' B g P v bs} (h : NtW w B g P v bs) (hb : Below w.heap.size w w') : NtW w' B g P v bs :=
  ⟨h.wr.keep hb, h.cell.keep hb, h.gP, fun k hk => by have := h.vP k hk; have := hb.size; omega⟩
theorem NtW.nc {Z : Nat} {w w' B g P v bs} (h : NtW w B g P v bs) (hn : Nc Z w w') : NtW w' B g P v bs :=
  ⟨⟨hn.bk h.wr.bk, hn.own h.wr.own, h.wr.low, h.wr.ne⟩, hn.bk h.cell, h.gP, fun k hk => by have := h.vP k hk; have := hn.size; omega⟩
theorem NtW.cells {w B g P v bs} (h : NtW w B g P v bs) : ∀ k ∈ WrS.blocks g v, ∃ o : Obj, w.heap[k]? = some o ∧ o.isCells = true := by
  intro k hk
  rcases List.mem_cons.1 hk with rfl | hk
  · exact ⟨_, h.wr.bk, rfl⟩
  · exact Own.row_cells h.wr.own k (by simpa using hk)
theorem NtW.fresh {w B g P v bs} (h : NtW w B g P v bs) {L : Nat} (hL : P < L) (hv : ∀ k, v.ownBlock = some k → k ≠ L) : L ∉ WrS.blocks g v := by
  have := h.gP
  simp only [WrS.blocks, List.mem_cons, Option.mem_toList, not_or]
  exact ⟨by omega, fun e => hv L e rfl⟩
set_option maxHeartbeats 1000000 in
theorem nt_sized (B g P : Nat) (v : Value) (bs : List Int) (size : Int) (s : Nat) (L : Nat) (n c : Nat) (zs : List Int) (w : World) (hw : NtW w B g P v bs) (ha : Rd w .i64 (some ⟨L, 0, none⟩) zs) (hn : n = zs.length) (hL : P < L) (hL2 : L < w.heap.size) (hv : ∀ k, v.ownBlock = some k → k ≠ L)
    (hB : B ≤ w.heap.size) (hl : bs.length + 4 * n ≤ 1000000) (hf : ∀ z ∈ zs, fitsB z size = true) (hs : size = (s : Int) ∧ 1 ≤ s ∧ s ≤ 4) :
    Gives Try.prog 53 #[.pointer (some ⟨g, 0, none⟩), .int .i64 size, .slice (some ⟨L, 0, none⟩) n c] w fun u w' => ∃ v', NtW w' B g P v' (bs ++ manyB s zs) ∧ Kb (WrS.blocks g v) w w' := by
  have hLn := hw.fresh hL hv
  have hlow := hw.wr.low
  have hgP := hw.gP
  have hPl := hw.cell.lt
  refine gives_enter Try.call53 Try.func53 rfl rfl rfl (by kernel_rfl) ?_
  refine v_seq ?_
  refine v_region ?_
  refine vl_val (os_move rfl) ?_
  refine vl_val (os_len Try.underlying47 rfl) ?_
  refine vl_val (os_move rfl) ?_
  refine vl_nil ?_
  refine v_block ?_
  refine v_loop [(0, _), (1, _), (8, _), (9, _)] (fun (i : Nat) => [(10, .int .i64 i)]) (fun i w' => i ≤ n ∧ ∃ v', NtW w' B g P v' (bs ++ manyB s (zs.take i)) ∧ Kb (WrS.blocks g v) w w' ∧ (v'.ownBlock = v.ownBlock ∨ ∃ h, v'.ownBlock = some h ∧ w.heap.size ≤ h)) (fun i => n - i) (0) ⟨rfl, rfl, rfl, rfl, trivial⟩ ⟨rfl, trivial⟩ (⟨by omega, v, by simpa [manyB] using hw, Kb.refl _ _, .inl rfl⟩) ?_
  rintro i w' ⟨hi, v1, hw1, k1, r1⟩
  refine v_seq ?_
  refine v_region ?_
  refine vl_val (os_lss rfl rfl) ?_
  refine vl_nil ?_
  refine v_seq ?_
  refine v_cond_d rfl (fun h => ?_) (fun h => ?_)
  · obtain ⟨b1, o1, e1, c1⟩ := (ha.kb k1 (fun b o e => by cases e; exact hLn)).at_ (i := i) (by omega)
    cases e1
    have hz : fitsB (zs.getD i 0) size = true := hf _ (by rw [List.getD_eq_getElem?_getD, List.getElem?_eq_getElem (by omega)]; exact List.getElem_mem _)
    have hlen : (bs ++ manyB s (zs.take i)).length ≤ 1000000 := by rw [List.length_append, manyB_len, List.length_take]; have : s * min i zs.length ≤ 4 * n := Nat.mul_le_mul hs.2.2 (by omega); omega
    refine v_skip ?_
    refine v_seq ?_
    refine v_block ?_
    refine v_seq ?_
    refine v_region ?_
    refine vl_val (os_ix Try.underlying47 Try.sizeOf3 rfl rfl (i := i) (by omega) (by omega)) ?_
    refine vl_val (os_load Try.isAgg3 rfl (c1)) ?_
    refine vl_val (os_assign rfl) ?_
    refine vl_nil ?_
    refine v_region ?_
    refine vl_val (os_move rfl) ?_
    refine vl_val (os_move rfl) ?_
    refine vl_val (os_move rfl) ?_
    refine vl_call (pk_Number g v1 _ 0 (zs.getD i 0) size B w' hw1.wr (by have := k1.size; omega) (by omega)) rfl ?_
    rintro u2 w2 ⟨v2, hw2, k2, r2⟩
    have e2 : wrErr 0 (zs.getD i 0) size = 0 := by unfold wrErr; rw [hz]; rfl
    have e3 : wrBytes (bs ++ manyB s (zs.take i)) 0 (zs.getD i 0) size = bs ++ manyB s (zs.take (i + 1)) := by unfold wrBytes; rw [if_pos ⟨rfl, hz⟩, manyB_succ (by omega), List.append_assoc, hs.1, Int.toNat_natCast]
    rw [e2, e3] at hw2
    have s1 := k1.size
    have s2 := k2.size
    have hbo := blocks_ok (g := g) r1
    have hPn : P ∉ WrS.blocks g v1 := by simp only [WrS.blocks, List.mem_cons, Option.mem_toList, not_or]; exact ⟨by omega, fun e => by have := (hw1.vP P e).1; omega⟩
    have hlt2 := World.ownsRow.lt hw2.own
    refine vl_nil ?_
    refine v_region ?_
    refine vl_val (os_addi rfl rfl (by omega)) ?_
    refine vl_val (os_move rfl) ?_
    refine vl_nil ?_
    exact ⟨i + 1, ⟨rfl, rfl, rfl, rfl, trivial⟩, ⟨rfl, trivial⟩, ⟨by omega, v2, ⟨hw2, hw1.cell.kb k2 hPn, hgP, fun k hk => by have hh := (hlt2 k hk).2; rcases r2 with e | ⟨x, e, hx⟩; (rw [e] at hk; exact ⟨(hw1.vP k hk).1, hh⟩); (rw [e] at hk; cases hk; exact ⟨by omega, hh⟩)⟩, k1.trans k2 hbo, by rcases r2 with e | ⟨x, e, hx⟩; (rw [e]; exact r1); (exact .inr ⟨x, e, by omega⟩)⟩, by dsimp only; omega⟩
  · obtain rfl : n = i := by omega
    rw [List.take_of_length_le (by omega)] at hw1
    refine v_exit ?_
    exact post_end0 rfl (⟨v1, hw1, k1⟩)
theorem NtW.low {w B g P v bs} (h : NtW w B g P v bs) : ∀ k ∈ WrS.blocks g v, B ≤ k := by
  intro k hk
  rcases List.mem_cons.1 hk with rfl | hk
  · exact h.wr.low
  · exact (World.ownsRow.lt h.wr.own k (by simpa using hk)).1
theorem NtW.lt {w B g P v bs} (h : NtW w B g P v bs) : ∀ k ∈ WrS.blocks g v, k < w.heap.size := by
  intro k hk
  rcases List.mem_cons.1 hk with rfl | hk
  · exact h.wr.bk.lt
  · exact (World.ownsRow.lt h.wr.own k (by simpa using hk)).2
theorem NtW.below {w w' B g P v bs} (h : NtW w B g P v bs) (hk : Kb (WrS.blocks g v) w w') : Below B w w' :=
  ⟨hk.os, hk.tape, hk.output, hk.size, fun k hk2 => by
    have h1 := h.wr.bk.lt
    have h2 := h.wr.low
    exact hk.block k (by omega) fun hm => by have := h.low k hm; omega⟩
theorem NtW.note {w B g P v bs} (h : NtW w B g P v bs) {p : Nat} {cs : List Value} (hp : Bk w p cs 28) : p ∉ WrS.blocks g v := by
  intro hm
  rcases List.mem_cons.1 hm with rfl | hk
  · have h1 := h.wr.bk
    unfold Bk at h1 hp
    rw [h1] at hp
    injection hp with hp
    injection hp with _ hp
    exact absurd hp (by decide)
  · have hk : v.ownBlock = some p := by simpa using hk
    rcases h.wr.own.2 with ⟨h1, _⟩ | ⟨g', cap, cur, h1, _, hg', _⟩
    · rw [h1] at hk; cases hk
    · rw [h1] at hk
      injection hk with hk
      simp only [] at hk
      subst hk
      unfold Bk at hp
      rw [hg'] at hp
      injection hp with hp
      injection hp with _ hp
      exact absurd hp (by decide)
theorem nt_sizedL (B g P : Nat) (v : Value) (bs : List Int) (size : Int) (s : Nat) (zs : List Int) (w : World) (hw : NtW w B g P v bs) (hB : B ≤ w.heap.size) (hl : bs.length + 4 * zs.length ≤ 1000000) (hf : ∀ z ∈ zs, fitsB z size = true) (hs : size = (s : Int) ∧ 1 ≤ s ∧ s ≤ 4) :
    Gives Try.prog 53 #[.pointer (some ⟨g, 0, none⟩), .int .i64 size, .slice (some ⟨w.heap.size, 0, none⟩) zs.length zs.length] (w.alloc (.cells (zs.map (Value.int .i64)).toArray 3)) fun u w' => ∃ v', NtW w' B g P v' (bs ++ manyB s zs) ∧ Kb (WrS.blocks g v) w w' ∧ Kn 0 w w' := by
  have ba : Below w.heap.size w (w.alloc (.cells (zs.map (Value.int .i64)).toArray 3)) := (Below.refl _ w).alloc (Nat.le_refl _) _
  have hw2 := hw.keep ba
  have hPl := hw.cell.lt
  refine (nt_sized B g P v bs size s w.heap.size zs.length zs.length zs _ hw2 (rd_alloc w .i64 zs 3) rfl hPl (by simp) (fun k hk e => by have := (hw.vP k hk).2; omega) (by simp; omega) hl hf hs).mono fun u w' ⟨v', h1, h2⟩ => ?_
  refine ⟨v', h1, (Kb.of_below (S := WrS.blocks g v) ba).trans h2 (fun k hk => .inl hk), (Kn.alloc w _).trans (Kn.of_kb h2 hw2.cells)⟩
end Go.Proofs.Ythaifamjgcfkaaa

/- Layer 15: the program's datagram of a report. -/
namespace Go.Proofs.Ythaifamjgcfkaaa
open Go.RowKit
set_option linter.unusedVariables false

theorem Kn.any {B : Nat} {a b : World} (h : Kn 0 a b) : Kn B a b := ⟨h.size, fun k o _ hk ho => h.block k o (Nat.zero_le _) hk ho⟩
def putE (d : NoteV) : Int := if rightN d then 0 else 2
def putV (d : NoteV) : List Int := if rightN d then sealL (noteB d.p) else []
theorem fits_of {z size : Int} {s : Nat} (hs : size = (s : Int) ∧ 1 ≤ s ∧ s ≤ 4) (h : 0 ≤ z ∧ z < 256 ^ s) : fitsB z size = true := by
  unfold fitsB
  rw [hs.1, Int.toNat_natCast]
  simp; omega
theorem cntB_succ {cs : List (Int × Int)} {i : Nat} (hi : i < cs.length) : cntB (cs.take (i + 1)) = cntB (cs.take i) ++ (numBytes (cs.getD i (0, 0)).1 1 ++ numBytes (cs.getD i (0, 0)).2 2) := by
  have e : cs.getD i (0, 0) = cs[i] := by simp [hi]
  unfold cntB
  rw [List.take_succ_eq_append_getElem hi, List.flatMap_append, e]; simp
theorem many1 (s : Nat) (z : Int) : manyB s [z] = numBytes z s := by simp [manyB]
theorem many2 (s : Nat) (z y : Int) : manyB s [z, y] = numBytes z s ++ numBytes y s := by simp [manyB]
/-- all but the counts -/
def hdB (q : NoteP) : List Int := (((numBytes 2 1 ++ numBytes q.st 2) ++ numBytes q.sq 4) ++ (numBytes q.n 1 ++ numBytes (q.cs.length : Int) 1))
theorem hdB_all (q : NoteP) : hdB q ++ cntB q.cs = noteB q := by
  unfold hdB noteB
  simp only [List.append_assoc]
theorem hdB_len (q : NoteP) : (hdB q).length = 9 := by
  unfold hdB
  simp only [List.length_append, numBytes_len]
set_option maxHeartbeats 4000000 in
theorem nt_Put (d : NoteV) (w : World) (hd : NoteOk w d) : Gives Try.prog 15 #[.agg d.cells.toArray] w fun v w' => ∃ s, v = .tuple #[s, .int .i64 (putE d)] ∧ OwnK w' w.heap.size 5 .u8 s (putV d) ∧ Below w.heap.size w w' := by
  have hl := hd.2.1
  have hB0 := bk_new w d.cells 28
  have hb0 : Below w.heap.size w (w.alloc (.cells d.cells.toArray 28)) := (Below.refl _ w).alloc (Nat.le_refl _) _
  refine gives_enter Try.call15 Try.func15 rfl rfl rfl (by kernel_rfl) ?_
  cases hr : rightN d
  · refine v_seq ?_
    refine v_region ?_
    refine vl_val (os_box rfl) ?_
    refine vl_val (os_assign rfl) ?_
    refine vl_val (os_assign rfl) ?_
    refine vl_nil ?_
    refine v_seq ?_
    refine v_seq ?_
    refine v_region ?_
    refine vl_val (os_loadB Try.underlying28 rfl (by kernel_rfl) rfl (hB0)) ?_
    refine vl_call (gives_boolb (nt_Right d _ (hd.keep hb0)) hr) rfl ?_
    rintro v1 w1 ⟨rfl, b1⟩
    refine vl_val (os_not rfl) ?_
    refine vl_nil ?_
    refine v_cond_t rfl ?_
    refine v_seq ?_
    refine v_region ?_
    refine vl_val (os_assign rfl) ?_
    refine vl_val (os_assign rfl) ?_
    refine vl_nil ?_
    refine v_ret ?_
    exact post_ret2 rfl rfl rfl (⟨.slice none 0 0, by simp [putE, hr], by simp only [putV, hr]; exact Own.nil _ _ _, hb0.trans (b1.mono hb0.size)⟩)
  · have hrd := right_iff.1 hr
    have hlen := (cnt_all hrd.cnt).2 (by have := hrd.n; omega)
    have hst := hrd.st
    have hsq := hrd.sq
    have hnn := hrd.n
    refine v_seq ?_
    refine v_region ?_
    refine vl_val (os_box rfl) ?_
    refine vl_val (os_assign rfl) ?_
    refine vl_val (os_assign rfl) ?_
    refine vl_nil ?_
    refine v_seq ?_
    refine v_seq ?_
    refine v_region ?_
    refine vl_val (os_loadB Try.underlying28 rfl (by kernel_rfl) rfl (hB0)) ?_
    refine vl_call (gives_boolb (nt_Right d _ (hd.keep hb0)) hr) rfl ?_
    rintro v1 w1 ⟨rfl, b1⟩
    have hB1 := hB0.keep b1
    have b1w := hb0.trans (b1.mono hb0.size)
    have hR0 := hB1.lt
    refine vl_val (os_not rfl) ?_
    refine vl_nil ?_
    refine v_cond_f rfl ?_
    refine v_skip ?_
    refine v_seq ?_
    refine v_region ?_
    refine vl_call (pk_New w1) rfl ?_
    rintro v2 w2 ⟨g, rfl, hW2, b2⟩
    have hg2 := hW2.bk.lt
    refine vl_val (os_alloc1 Try.zeroValue92 rfl) ?_
    have hP0 := bk_new w2 [.pointer none] 92
    have b3a : Below w2.heap.size w2 (w2.alloc (.cells [Value.pointer none].toArray 92)) := (Below.refl _ _).alloc (Nat.le_refl _) _
    refine vl_unit (ou_store Try.sizeOf92 rfl rfl rfl (hP0.cell (i := 0) rfl) (hP0.free _)) ?_
    have hP3 := hP0.set 0 (.pointer (some ⟨g, 0, none⟩))
    have b3 := below_set b3a (Nat.le_refl _) (0 + 0) (.pointer (some ⟨g, 0, none⟩))
    obtain ⟨P, hP⟩ : ∃ P, P = w2.heap.size := ⟨_, rfl⟩
    generalize hw3 : (w2.alloc (.cells [Value.pointer none].toArray 92)).setCell ⟨w2.heap.size, 0 + 0, none⟩ (.pointer (some ⟨g, 0, none⟩)) = w3 at *
    have hN3 : NtW w3 w1.heap.size g w2.heap.size (.slice none 0 0) [] := ⟨hW2.keep b3, hP3, hg2, fun k hk => by cases hk⟩
    rw [← hP] at hN3
    rw [← hP]
    have b13 : Below w1.heap.size w1 w3 := b2.trans (b3.mono b2.size)
    have hB3 := hB1.keep b13
    have b3w := b1w.trans (b13.mono b1w.size)
    refine vl_nil ?_
    refine v_seq ?_
    refine v_region ?_
    refine vl_val (os_load Try.isAgg92 rfl (hN3.cell.cell (i := 0) rfl)) ?_
    refine vl_val (os_lit Try.underlying47 Try.sizeOf3 Try.zeroValue3 rfl rfl rfl rfl (by decide)) ?_
    refine vl_call (nt_sizedL w1.heap.size g P _ _ 1 1 [2] w3 hN3 b13.size (by simp) (by intro z hz; simp at hz; subst hz; exact fits_of (s := 1) ⟨rfl, by omega, by omega⟩ ⟨by omega, by decide⟩) ⟨rfl, by omega, by omega⟩) rfl ?_
    rintro u4 w4 ⟨v4, hN4, k4, -⟩
    have b4 := hN3.below k4
    have hB4 := hB3.below b4 hR0
    have b4w := b3w.trans (b4.mono b1w.size)
    refine vl_nil ?_
    refine v_seq ?_
    refine v_region ?_
    refine vl_val (os_load Try.isAgg92 rfl (hN4.cell.cell (i := 0) rfl)) ?_
    refine vl_val (os_fa (o := 0) (k := 0) (by kernel_rfl) rfl) ?_
    refine vl_val (os_load Try.isAgg3 rfl (hB4.cell (i := 0) rfl)) ?_
    refine vl_val (os_lit Try.underlying47 Try.sizeOf3 Try.zeroValue3 rfl rfl rfl rfl (by decide)) ?_
    refine vl_call (nt_sizedL w1.heap.size g P _ _ 2 2 [d.st] w4 hN4 (by have := b13.size; have := b4.size; omega) (by simp [manyB_len]) (by intro z hz; simp at hz; subst hz; exact fits_of (s := 2) ⟨rfl, by omega, by omega⟩ ⟨by omega, by simp; omega⟩) ⟨rfl, by omega, by omega⟩) rfl ?_
    rintro u5 w5 ⟨v5, hN5, k5, -⟩
    have b5 := hN4.below k5
    have hB5 := hB4.below b5 hR0
    have b5w := b4w.trans (b5.mono b1w.size)
    refine vl_nil ?_
    refine v_seq ?_
    refine v_region ?_
    refine vl_val (os_load Try.isAgg92 rfl (hN5.cell.cell (i := 0) rfl)) ?_
    refine vl_val (os_fa (o := 1) (k := 0) (by kernel_rfl) rfl) ?_
    refine vl_val (os_load Try.isAgg3 rfl (hB5.cell (i := 1) rfl)) ?_
    refine vl_val (os_lit Try.underlying47 Try.sizeOf3 Try.zeroValue3 rfl rfl rfl rfl (by decide)) ?_
    refine vl_call (nt_sizedL w1.heap.size g P _ _ 4 4 [d.sq] w5 hN5 (by have := b13.size; have := b4.size; have := b5.size; omega) (by simp [manyB_len]) (by intro z hz; simp at hz; subst hz; exact fits_of (s := 4) ⟨rfl, by omega, by omega⟩ ⟨by omega, by simp; omega⟩) ⟨rfl, by omega, by omega⟩) rfl ?_
    rintro u6 w6 ⟨v6, hN6, k6, -⟩
    have b6 := hN5.below k6
    have hB6 := hB5.below b6 hR0
    have b6w := b5w.trans (b6.mono b1w.size)
    refine vl_nil ?_
    refine v_seq ?_
    refine v_region ?_
    refine vl_val (os_load Try.isAgg92 rfl (hN6.cell.cell (i := 0) rfl)) ?_
    refine vl_val (os_fa (o := 2) (k := 0) (by kernel_rfl) rfl) ?_
    refine vl_val (os_load Try.isAgg3 rfl (hB6.cell (i := 2) rfl)) ?_
    refine vl_val (os_fa (o := 3) (k := 0) (by kernel_rfl) rfl) ?_
    refine vl_val (os_load Try.isAgg26 rfl (hB6.cell (i := 3) rfl)) ?_
    refine vl_val (os_len Try.underlying26 rfl) ?_
    refine vl_val (os_lit Try.underlying47 Try.sizeOf3 Try.zeroValue3 rfl rfl rfl rfl (by decide)) ?_
    refine vl_call (nt_sizedL w1.heap.size g P _ _ 1 1 [d.n, (d.l : Int)] w6 hN6 (by have := b13.size; have := b4.size; have := b5.size; have := b6.size; omega) (by simp [manyB_len]) (by intro z hz; simp at hz; rcases hz with rfl | rfl <;> exact fits_of (s := 1) ⟨rfl, by omega, by omega⟩ ⟨by omega, by simp; omega⟩) ⟨rfl, by omega, by omega⟩) rfl ?_
    rintro u7 w7 ⟨v7, hN7, k7, -⟩
    have b7 := hN6.below k7
    have hB7 := hB6.below b7 hR0
    have b7w := b6w.trans (b7.mono b1w.size)
    have s17 : w1.heap.size ≤ w7.heap.size := by have := b13.size; have := b4.size; have := b5.size; have := b6.size; have := b7.size; omega
    rw [many1, many1, many1, many2, List.nil_append, hl, show numBytes 2 1 ++ numBytes d.st 2 ++ numBytes d.sq 4 ++ (numBytes d.n 1 ++ numBytes (d.cs.length : Int) 1) = hdB d.p from rfl] at hN7
    refine vl_nil ?_
    refine v_range_seq ?_
    refine v_region ?_
    refine vl_val (os_loadB Try.underlying28 rfl (by kernel_rfl) rfl (hB7)) ?_
    refine vl_call (nt_each d w7) rfl ?_
    rintro v8 w8 ⟨rfl, e8⟩
    have hp8 : Bk w8 w7.heap.size d.cells 28 := by rw [e8]; exact bk_new w7 _ _
    have b78 : Below w7.heap.size w7 w8 := by rw [e8]; exact (Below.refl _ _).alloc (Nat.le_refl _) _
    have hN8 := hN7.keep b78
    have b8w := b7w.trans (b78.mono b7w.size)
    have s8 := b78.size
    refine vl_nil ?_
    refine v_range (ntN d) (fun k => [.int .i64 (d.cs.getD k (0, 0)).1, .int .i64 (d.cs.getD k (0, 0)).2]) (fun k w' => (∃ v, NtW w' w1.heap.size g P v (hdB d.p ++ cntB (d.cs.take k))) ∧ Bk w' w7.heap.size d.cells 28 ∧ Below w.heap.size w w' ∧ w1.heap.size ≤ w'.heap.size) (fun e w' => False) (fun k => [(5, .int .i64 (d.cs.getD k (0, 0)).1), (6, .int .i64 (d.cs.getD k (0, 0)).2), (4, .pointer (some ⟨P, 0, none⟩))]) Try.call96 rfl (fun _ => rfl) (fun k W W' ⟨⟨v, h1⟩, h2, h3, h4⟩ hn => ⟨⟨v, h1.nc hn⟩, hn.bk h2, hn.below h3 b8w.size (Nat.le_refl _), by have := hn.size; omega⟩) (fun _ => Abd.no) (⟨⟨v7, by simpa [cntB] using hN8⟩, hp8, b8w, by omega⟩) (fun l J Jx W hW hJI hJ hJx hR hJ0 => nt_each_fn l w7.heap.size d J Jx W (fun k W h => by obtain ⟨-, h2, h3, -⟩ := hJI k W h; exact ⟨h2, hd.keep h3⟩) hJ hR hJ0) ?_ ?_ ?_ (fun _ _ _ _ h => h.elim) (fun _ _ _ _ _ h => h.elim)
    · intro l k w'
      refine v_seq ?_
      refine v_region ?_
      refine vl_val (os_assign rfl) ?_
      refine vl_nil ?_
      refine v_region ?_
      refine vl_val (os_assign rfl) ?_
      refine vl_nil ?_
      exact ⟨rfl, rfl, ⟨rfl, rfl, rfl, trivial⟩⟩
    · rintro l k w' hk ⟨⟨v, h1⟩, h2, h3, h4⟩
      have hr2 := ntN_right hk
      have hc := (cnt_all hrd.cnt).1 (d.cs.getD k (0, 0)) (by rw [List.getD_eq_getElem?_getD, List.getElem?_eq_getElem (by omega)]; exact List.getElem_mem _)
      have hlk : (hdB d.p ++ cntB (d.cs.take k)).length ≤ 1000 := by rw [List.length_append, hdB_len, cntB_len, List.length_take]; omega
      obtain ⟨X, hX⟩ : ∃ X, (d.cs.getD k (0, 0)).1 = X := ⟨_, rfl⟩
      obtain ⟨Y, hY⟩ : ∃ Y, (d.cs.getD k (0, 0)).2 = Y := ⟨_, rfl⟩
      have hsucc := cntB_succ (cs := d.cs) (i := k) (by omega)
      rw [hX, hY] at hc hsucc
      rw [hX, hY]
      refine v_block ?_
      refine v_seq ?_
      refine v_region ?_
      refine vl_val (os_load Try.isAgg92 rfl (h1.cell.cell (i := 0) rfl)) ?_
      refine vl_val (os_move rfl) ?_
      refine vl_val (os_lit Try.underlying47 Try.sizeOf3 Try.zeroValue3 rfl rfl rfl rfl (by decide)) ?_
      refine vl_call (nt_sizedL w1.heap.size g P _ _ 1 1 [X] _ h1 h4 (by simp only [List.length_singleton]; omega) (by intro z hz; rw [List.mem_singleton.1 hz]; exact fits_of (s := 1) ⟨rfl, by omega, by omega⟩ ⟨by omega, by simp; omega⟩) ⟨rfl, by omega, by omega⟩) rfl ?_
      rintro u10 w10 ⟨v10, hN10, k10, kn10⟩
      have b10 := h1.below k10
      have hp10 := h2.kb k10 (h1.note h2)
      have b10w := h3.trans (b10.mono b1w.size)
      have s10 := b10.size
      refine vl_nil ?_
      refine v_region ?_
      refine vl_val (os_load Try.isAgg92 rfl (hN10.cell.cell (i := 0) rfl)) ?_
      refine vl_val (os_move rfl) ?_
      refine vl_val (os_lit Try.underlying47 Try.sizeOf3 Try.zeroValue3 rfl rfl rfl rfl (by decide)) ?_
      refine vl_call (nt_sizedL w1.heap.size g P _ _ 2 2 [Y] w10 hN10 (by omega) (by rw [List.length_append, manyB_len]; simp only [List.length_singleton]; omega) (by intro z hz; rw [List.mem_singleton.1 hz]; exact fits_of (s := 2) ⟨rfl, by omega, by omega⟩ ⟨by omega, by simp; omega⟩) ⟨rfl, by omega, by omega⟩) rfl ?_
      rintro u11 w11 ⟨v11, hN11, k11, kn11⟩
      have b11 := hN10.below k11
      have hp11 := hp10.kb k11 (hN10.note hp10)
      rw [many1, many1, List.append_assoc, List.append_assoc, ← hsucc] at hN11
      refine vl_nil ?_
      exact ⟨Kn.any (Kn.trans kn10 kn11), ⟨v11, hN11⟩, hp11, b10w.trans (b11.mono b1w.size), by have := b11.size; omega⟩
    · rintro D w' hD hK ⟨⟨v, h1⟩, h2, h3, h4⟩
      have hNN : ntN d = d.l := by unfold ntN; rw [hr]; rfl
      have hall : hdB d.p ++ cntB (d.cs.take (ntN d)) = noteB d.p := by rw [hNN, List.take_of_length_le (by omega)]; exact hdB_all d.p
      rw [hall] at h1
      have hnl : (noteB d.p).length ≤ 1000 := by rw [noteB_len]; show 9 + 3 * d.cs.length ≤ 1000; omega
      refine v_seq ?_
      refine v_region ?_
      refine vl_val (os_load Try.isAgg92 rfl (h1.cell.cell (i := 0) rfl)) ?_
      refine vl_call (pk_Bytes g v _ 0 w1.heap.size _ h1.wr (by omega)) rfl ?_
      rintro u12 w12 ⟨s12, rfl, o12, b12⟩
      obtain ⟨A12, c12, rfl, hc12, hm12, r12, -⟩ := OwnK.form o12
      refine vl_val (os_move rfl) ?_
      refine vl_val (os_extract rfl rfl) ?_
      refine vl_val (os_extract rfl rfl) ?_
      refine vl_val (os_assign rfl) ?_
      refine vl_val (os_assign rfl) ?_
      refine vl_nil ?_
      refine v_seq ?_
      refine v_region ?_
      refine vl_val (os_move rfl) ?_
      refine vl_call (sum_Seal A12 _ c12 (noteB d.p) w12 r12 rfl hc12 (by omega) noteB_Y) rfl ?_
      rintro u13 w13 ⟨o13, b13'⟩
      have b12w := h3.trans (b12.mono h3.size)
      have b13w := b12w.trans (b13'.mono b12w.size)
      have hK' := (Kn.of_leg (B := 0) (Below.trans b12 (b13'.mono b12.size))).block D _ (Nat.zero_le _) hK rfl
      have hN' := Nc.put (B := w8.heap.size) (.deferred none) hD hK' rfl
      refine vl_val (os_move rfl) ?_
      refine vl_val (os_assign rfl) ?_
      refine vl_val (os_assign rfl) ?_
      refine vl_nil ?_
      refine v_ret ?_
      exact post_m (fn := Try.f15) (hK') (fun a ha => res_tt (t := 2) (t2 := 3) rfl rfl rfl  ha) (⟨_, by unfold putE; rw [hr]; rfl, by unfold putV; rw [hr]; exact hN'.own (Own.mono o13 b12w.size), hN'.below b13w b8w.size (Nat.le_refl _)⟩)
end Go.Proofs.Ythaifamjgcfkaaa
