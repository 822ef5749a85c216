/- Texts joined: HdY SlP SlQ. -/
import Derived.Test.YtpojijnjdlnokaaM18
/- Layer 14: what bytes are as a header and a body, by the document. -/
namespace Go.Proofs.Ytpojijnjdlnokaa
open Go.RowKit
set_option linter.unusedVariables false

theorem hi64_at {p : List Int} (h : AllY p) (i s : Nat) (hs : s ≤ 4) : I64 (numAt p i s) := by
  have h1 := numAt_bd h i s
  have h2 := pow256 hs
  have h3 : (256 : Int) ^ 4 = 4294967296 := by decide
  exact ⟨by omega, by omega⟩
theorem hcntsAt_succ (p : List Int) (i k : Nat) : cntsAt p i (k + 1) = cntsAt p i k ++ [(numAt p (i + 3 * k) 1, numAt p (i + 1 + 3 * k) 2)] := by simp [cntsAt, List.range_succ]
theorem Rd.y' {w : World} {g o : Nat} {p : List Int} (h : Rd w .u8 (some ⟨g, o, none⟩) p) {i : Nat} (hi : i < p.length) : w.cell? ⟨g, o + i, none⟩ = some (.int .u8 (p.getD i 0)) := by
  obtain ⟨_, _, e, hc⟩ := h.at_ hi
  cases e
  exact hc
set_option maxHeartbeats 4000000 in
theorem ref14_Parse (A : Option Addr) (n c : Nat) (zs : List Int) (w : World) (ha : Rd w .u8 A zs) (hn : n = zs.length) (hc : n ≤ c) (hn' : n ≤ 10000000) (hz : AllB zs) :
    Gives Try.prog 87 #[.slice A n c] w fun v w' => ∃ A' l' c' s, v = .tuple #[.agg (HeadV.cells ⟨hdP zs, A', l', c'⟩).toArray, s, .int .i64 (hdE zs)] ∧ HeadOk w' ⟨hdP zs, A', l', c'⟩ ∧ OwnK w' w.heap.size 5 .u8 s (hdB zs) ∧ Below w.heap.size w w' := by
  have hQ0 := bk_new w zH 65
  have bQ : Below w.heap.size w (w.alloc (.cells zH.toArray 65)) := (Below.refl _ w).alloc (Nat.le_refl _) _
  have hsQ : (w.alloc (.cells zH.toArray 65)).heap.size = w.heap.size + 1 := by simp
  obtain ⟨w0, hw0⟩ : ∃ w0, w0 = w.alloc (.cells zH.toArray 65) := ⟨_, rfl⟩
  rw [← hw0] at hQ0 bQ hsQ
  have hy := hd_openV_Y hz
  have hpl := hd_openV_len zs
  refine gives_enter Try.call87 Try.func87 rfl rfl rfl (by kernel_rfl) ?_
  refine v_seq ?_
  refine v_region ?_
  refine vl_val (os_allocB Try.zeroValue65 (zc := _) (cs := zH) rfl) ?_
  rw [← hw0]
  refine vl_val (os_assign rfl) ?_
  refine vl_val (os_assign rfl) ?_
  refine vl_nil ?_
  refine v_seq ?_
  refine v_region ?_
  refine vl_val (os_move rfl) ?_
  refine vl_call (r7_Open A n c zs w0 (ha.keep bQ) hn hc (by omega) hz) rfl ?_
  rintro v1 w1 ⟨s1, rfl, o1, b1⟩
  have hQ1 := hQ0.keep b1
  have b1w := bQ.trans (b1.mono bQ.size)
  have s1' := b1.size
  have fin : ∀ (w9 : World) (x : Int), x ≠ 0 → hdE zs = x → Below w.heap.size w w9 → ∃ A' l' c' s, (.tuple #[.agg zH.toArray, .slice none 0 0, .int .i64 x] : Value) = .tuple #[.agg (HeadV.cells ⟨hdP zs, A', l', c'⟩).toArray, s, .int .i64 (hdE zs)] ∧ HeadOk (w9.setRow w.heap.size zH.toArray) ⟨hdP zs, A', l', c'⟩ ∧ OwnK (w9.setRow w.heap.size zH.toArray) w.heap.size 5 .u8 s (hdB zs) ∧ Below w.heap.size w (w9.setRow w.heap.size zH.toArray) := fun w9 x hx hE hb => ⟨none, 0, 0, .slice none 0 0, by unfold hdP; rw [hE, if_neg hx]; rfl, by unfold hdP; rw [hE, if_neg hx]; exact hN_ok _, by unfold hdB; rw [hE, if_neg hx]; exact Own.nil _ _ _, below_setRow hb (Nat.le_refl _) _⟩
  refine vl_val (os_move rfl) ?_
  refine vl_val (os_extract rfl rfl) ?_
  refine vl_val (os_extract rfl rfl) ?_
  refine vl_val (os_assign rfl) ?_
  refine vl_val (os_assign rfl) ?_
  refine vl_nil ?_
  by_cases he : openE zs = 0
  · have hEp : hdE zs = parseHE (openV zs) := by unfold hdE; rw [if_neg (fun h => h he)]
    refine v_seq ?_
    refine v_seq ?_
    refine v_region ?_
    refine vl_val (os_move rfl) ?_
    refine vl_val (os_neq rfl rfl) ?_
    refine vl_nil ?_
    refine v_cond_no rfl (fun h => h he) ?_
    generalize hp : openV zs = p at *
    by_cases hp0 : p.length = 0
    · obtain ⟨A1, c1, rfl, hc1, hm1, r1, -⟩ := OwnK.form o1
      refine v_skip ?_
      refine v_seq ?_
      refine v_seq ?_
      refine v_region ?_
      refine vl_val (os_move rfl) ?_
      refine vl_val (os_len Try.underlying22 rfl) ?_
      refine vl_val (os_eql rfl rfl) ?_
      refine vl_nil ?_
      refine v_cond_yes rfl (by omega) ?_
      refine v_seq ?_
      refine v_region ?_
      refine vl_val (os_build (cs := zH) rfl (by kernel_rfl)) ?_
      refine vl_unit (ou_storeB (by kernel_rfl) rfl rfl hQ1 rfl rfl) ?_
      refine vl_val (os_assign rfl) ?_
      refine vl_val (os_assign rfl) ?_
      refine vl_nil ?_
      refine v_ret ?_
      exact post_cellt3 rfl rfl rfl rfl Try.underlying65 rfl (by kernel_rfl) (setRow_bk hQ1 zH) (fin w1 4 (by decide) (by rw [hEp]; unfold parseHE; rw [if_pos hp0]) b1w)
    · obtain ⟨G, c1, rfl, hg1, hg2, hc1, -⟩ := OwnK.row o1 (by omega)
      have r1 := OwnK.rd o1
      have hGl := World.ownsRow.lt o1 G rfl
      have ha0 := hy.at_ 0
      refine v_skip ?_
      refine v_seq ?_
      refine v_seq ?_
      refine v_region ?_
      refine vl_val (os_move rfl) ?_
      refine vl_val (os_len Try.underlying22 rfl) ?_
      refine vl_val (os_eql rfl rfl) ?_
      refine vl_nil ?_
      refine v_cond_no rfl (by omega) ?_
      refine v_skip ?_
      refine v_seq ?_
      refine v_seq ?_
      refine v_region ?_
      refine vl_val (os_move rfl) ?_
      refine vl_val (os_ix Try.underlying22 Try.sizeOf5 rfl rfl (i := 0) (by omega) (by omega)) ?_
      refine vl_val (os_load Try.isAgg5 rfl (r1.y' (i := 0) (by omega))) ?_
      refine vl_val (os_neq rfl rfl) ?_
      refine vl_nil ?_
      by_cases hv : numAt p 0 1 = 1
      · rw [numAt_one (by omega)] at hv
        refine v_cond_no rfl (fun h => h hv) ?_
        rw [← numAt_one (by omega)] at hv
        by_cases h9 : p.length < 14
        · refine v_skip ?_
          refine v_seq ?_
          refine v_seq ?_
          refine v_region ?_
          refine vl_val (os_move rfl) ?_
          refine vl_val (os_len Try.underlying22 rfl) ?_
          refine vl_val (os_t (os_lss rfl rfl) (by omega)) ?_
          refine vl_val (os_move rfl) ?_
          refine vl_skip rfl rfl ?_
          refine vl_skip rfl rfl ?_
          refine vl_skip rfl rfl ?_
          refine vl_skip rfl rfl ?_
          refine vl_skip rfl rfl ?_
          refine vl_skip rfl rfl ?_
          refine vl_skip rfl rfl ?_
          refine vl_skip rfl rfl ?_
          refine vl_skip rfl rfl ?_
          refine vl_val (os_pick_t rfl rfl) ?_
          refine vl_nil ?_
          refine v_cond_t rfl ?_
          refine v_seq ?_
          refine v_region ?_
          refine vl_val (os_build (cs := zH) rfl (by kernel_rfl)) ?_
          refine vl_unit (ou_storeB (by kernel_rfl) rfl rfl hQ1 rfl rfl) ?_
          refine vl_val (os_assign rfl) ?_
          refine vl_val (os_assign rfl) ?_
          refine vl_nil ?_
          refine v_ret ?_
          exact post_cellt3 rfl rfl rfl rfl Try.underlying65 rfl (by kernel_rfl) (setRow_bk hQ1 zH) (fin w1 4 (by decide) (by rw [hEp]; unfold parseHE; rw [if_neg hp0, if_neg (fun h => h hv), show shapeH p = false by unfold shapeH; simp; omega]; rfl) b1w)
        · have ha9 := hy.at_ 9
          have h8 := numAt_one (p := p) (i := 9) (by omega)
          by_cases hg : shapeH p = true
          · have hgl : 14 ≤ p.length ∧ 14 + 3 * (numAt p 9 1).toNat ≤ p.length := by simpa [shapeH] using hg
            rw [h8] at hgl
            refine v_skip ?_
            refine v_seq ?_
            refine v_seq ?_
            refine v_region ?_
            refine vl_val (os_move rfl) ?_
            refine vl_val (os_len Try.underlying22 rfl) ?_
            refine vl_val (os_f (os_lss rfl rfl) (by omega)) ?_
            refine vl_val (os_move rfl) ?_
            refine vl_valg rfl (os_move rfl) ?_
            refine vl_valg rfl (os_len Try.underlying22 rfl) ?_
            refine vl_valg rfl (os_move rfl) ?_
            refine vl_valg rfl (os_ix Try.underlying22 Try.sizeOf5 rfl rfl (i := 9) (by omega) (by omega)) ?_
            refine vl_valg rfl (os_load Try.isAgg5 rfl (r1.y' (i := 9) (by omega))) ?_
            refine vl_valg rfl (os_conv Try.underlying5 Try.underlying3 rfl (i64_fit (by omega))) ?_
            refine vl_valg rfl (os_muli rfl rfl (by omega)) ?_
            refine vl_valg rfl (os_addi rfl rfl (by omega)) ?_
            refine vl_valg rfl (os_lss rfl rfl) ?_
            refine vl_val (os_pick_f rfl rfl) ?_
            refine vl_nil ?_
            refine v_cond_no rfl (by omega) ?_
            have a7 := hy.at_ 7
            have a8 := hy.at_ 8
            have b0 : Below w1.heap.size w1 { w1 with drawn := w1.drawn + 1 } := (Below.refl _ _).drew
            have e3 : p.getD 7 0 = numAt p 7 1 := by rw [numAt_one (by omega)]
            have e4 : p.getD 8 0 = numAt p 8 1 := by rw [numAt_one (by omega)]
            refine v_skip ?_
            refine v_mid [(2, _), (5, _)] (fun (x : Nat) => [(7, .pointer (some ⟨w1.heap.size, 0, none⟩))]) (fun x w' => Bk w' w1.heap.size [.int .i64 (numAt p 1 2), .int .i64 (numAt p 3 4), .int .i64 (numAt p 7 1), .int .i64 (numAt p 8 1), .int .i64 (numAt p 10 4), .slice none 0 0] 65 ∧ Below w1.heap.size w1 w') ⟨rfl, rfl, trivial⟩ ?_ ?_
            · refine v_region_h (fun w' => Below w1.heap.size w1 w') mixed (b0) ?_
              refine vh_pure 0 rfl (by kernel_rfl) (by kernel_rfl) (by kernel_rfl) (fun w hw => (os_move rfl)) ?_
              refine vh_pure 2 rfl (by kernel_rfl) (by kernel_rfl) (by kernel_rfl) (fun w hw => (os_move rfl)) ?_
              refine vh_pure 4 rfl (by kernel_rfl) (by kernel_rfl) (by kernel_rfl) (fun w hw => (os_move rfl)) ?_
              refine vh_pure 5 rfl (by kernel_rfl) (by kernel_rfl) (by kernel_rfl) (fun w hw => (os_ix Try.underlying22 Try.sizeOf5 rfl rfl (i := 7) (by omega) (by omega))) ?_
              refine vh_pure 6 rfl (by kernel_rfl) (by kernel_rfl) (by kernel_rfl) (fun w hw => (os_load Try.isAgg5 rfl ((r1.keep hw).y' (i := 7) (by omega)))) ?_
              refine vh_pure 7 rfl (by kernel_rfl) (by kernel_rfl) (by kernel_rfl) (fun w hw => (os_conv Try.underlying5 Try.underlying3 rfl (i64_fit (by omega)))) ?_
              refine vh_pure 8 rfl (by kernel_rfl) (by kernel_rfl) (by kernel_rfl) (fun w hw => (os_move rfl)) ?_
              refine vh_pure 9 rfl (by kernel_rfl) (by kernel_rfl) (by kernel_rfl) (fun w hw => (os_ix Try.underlying22 Try.sizeOf5 rfl rfl (i := 8) (by omega) (by omega))) ?_
              refine vh_pure 10 rfl (by kernel_rfl) (by kernel_rfl) (by kernel_rfl) (fun w hw => (os_load Try.isAgg5 rfl ((r1.keep hw).y' (i := 8) (by omega)))) ?_
              refine vh_pure 11 rfl (by kernel_rfl) (by kernel_rfl) (by kernel_rfl) (fun w hw => (os_conv Try.underlying5 Try.underlying3 rfl (i64_fit (by omega)))) ?_
              refine vh_pure 12 rfl (by kernel_rfl) (by kernel_rfl) (by kernel_rfl) (fun w hw => (os_move rfl)) ?_
              refine vh_two 1 15 (by kernel_rfl) ?_ ?_
              · refine vhn_call rfl (ref14_at (some ⟨G, 0, none⟩) p.length c1 p 1 2 1 2 _ (by first | exact r1.keep b0 | exact r1.keep (b0.alloc (Nat.le_refl _) _)) rfl hy rfl ⟨rfl, by omega⟩ (by omega) (by omega)) rfl (fun hw v w' h => by rw [h.2]; exact hw) ?_
                rintro v3 w3 ⟨rfl, rfl⟩
                refine vh_two 3 15 (by kernel_rfl) ?_ ?_
                · refine vhn_call rfl (ref14_at (some ⟨G, 0, none⟩) p.length c1 p 3 4 3 4 _ (by first | exact r1.keep b0 | exact r1.keep (b0.alloc (Nat.le_refl _) _)) rfl hy rfl ⟨rfl, by omega⟩ (by omega) (by omega)) rfl (fun hw v w' h => by rw [h.2]; exact hw) ?_
                  rintro v4 w4 ⟨rfl, rfl⟩
                  refine vh_two 13 15 (by kernel_rfl) ?_ ?_
                  · refine vhn_call rfl (ref14_at (some ⟨G, 0, none⟩) p.length c1 p 10 4 10 4 _ (by first | exact r1.keep b0 | exact r1.keep (b0.alloc (Nat.le_refl _) _)) rfl hy rfl ⟨rfl, by omega⟩ (by omega) (by omega)) rfl (fun hw v w' h => by rw [h.2]; exact hw) ?_
                    rintro v5 w5 ⟨rfl, rfl⟩
                    refine vh_pure 14 rfl (by kernel_rfl) (by kernel_rfl) (by kernel_rfl) (fun w hw => (os_build (cs := [.int .i64 (numAt p 1 2), .int .i64 (numAt p 3 4), .int .i64 (p.getD 7 0), .int .i64 (p.getD 8 0), .int .i64 (numAt p 10 4), .slice none 0 0]) rfl (by kernel_rfl))) ?_
                    refine vh_one 15 (by kernel_rfl) ?_
                    refine vhn_val rfl (os_allocB Try.zeroValue65 (zc := _) (cs := zH) rfl) (fun hw => hw.alloc (Nat.le_refl _) _) ?_
                    refine vh_one 16 (by kernel_rfl) ?_
                    refine vhn_unit rfl (ou_storeB (by kernel_rfl) rfl rfl (bk_new _ zH _) rfl rfl) (fun hw => below_setRow hw (Nat.le_refl _) _) ?_
                    refine vh_done (by kernel_rfl) (fun hS => ?_)
                    exact ⟨0, ⟨rfl, rfl, trivial⟩, ⟨rfl, trivial⟩, ⟨by rw [← e3, ← e4]; exact setRow_bk (bk_new _ zH _) _, hS⟩⟩
                  · refine vhn_val rfl (os_allocB Try.zeroValue65 (zc := _) (cs := zH) rfl) (fun hw => hw.alloc (Nat.le_refl _) _) ?_
                    refine vh_one 13 (by kernel_rfl) ?_
                    refine vhn_call rfl (ref14_at (some ⟨G, 0, none⟩) p.length c1 p 10 4 10 4 _ (by first | exact r1.keep b0 | exact r1.keep (b0.alloc (Nat.le_refl _) _)) rfl hy rfl ⟨rfl, by omega⟩ (by omega) (by omega)) rfl (fun hw v w' h => by rw [h.2]; exact hw) ?_
                    rintro v5 w5 ⟨rfl, rfl⟩
                    refine vh_pure 14 rfl (by kernel_rfl) (by kernel_rfl) (by kernel_rfl) (fun w hw => (os_build (cs := [.int .i64 (numAt p 1 2), .int .i64 (numAt p 3 4), .int .i64 (p.getD 7 0), .int .i64 (p.getD 8 0), .int .i64 (numAt p 10 4), .slice none 0 0]) rfl (by kernel_rfl))) ?_
                    refine vh_one 16 (by kernel_rfl) ?_
                    refine vhn_unit rfl (ou_storeB (by kernel_rfl) rfl rfl (bk_new _ zH _) rfl rfl) (fun hw => below_setRow hw (Nat.le_refl _) _) ?_
                    refine vh_done (by kernel_rfl) (fun hS => ?_)
                    exact ⟨0, ⟨rfl, rfl, trivial⟩, ⟨rfl, trivial⟩, ⟨by rw [← e3, ← e4]; exact setRow_bk (bk_new _ zH _) _, hS⟩⟩
                · refine vhn_val rfl (os_allocB Try.zeroValue65 (zc := _) (cs := zH) rfl) (fun hw => hw.alloc (Nat.le_refl _) _) ?_
                  refine vh_one 3 (by kernel_rfl) ?_
                  refine vhn_call rfl (ref14_at (some ⟨G, 0, none⟩) p.length c1 p 3 4 3 4 _ (by first | exact r1.keep b0 | exact r1.keep (b0.alloc (Nat.le_refl _) _)) rfl hy rfl ⟨rfl, by omega⟩ (by omega) (by omega)) rfl (fun hw v w' h => by rw [h.2]; exact hw) ?_
                  rintro v4 w4 ⟨rfl, rfl⟩
                  refine vh_one 13 (by kernel_rfl) ?_
                  refine vhn_call rfl (ref14_at (some ⟨G, 0, none⟩) p.length c1 p 10 4 10 4 _ (by first | exact r1.keep b0 | exact r1.keep (b0.alloc (Nat.le_refl _) _)) rfl hy rfl ⟨rfl, by omega⟩ (by omega) (by omega)) rfl (fun hw v w' h => by rw [h.2]; exact hw) ?_
                  rintro v5 w5 ⟨rfl, rfl⟩
                  refine vh_pure 14 rfl (by kernel_rfl) (by kernel_rfl) (by kernel_rfl) (fun w hw => (os_build (cs := [.int .i64 (numAt p 1 2), .int .i64 (numAt p 3 4), .int .i64 (p.getD 7 0), .int .i64 (p.getD 8 0), .int .i64 (numAt p 10 4), .slice none 0 0]) rfl (by kernel_rfl))) ?_
                  refine vh_one 16 (by kernel_rfl) ?_
                  refine vhn_unit rfl (ou_storeB (by kernel_rfl) rfl rfl (bk_new _ zH _) rfl rfl) (fun hw => below_setRow hw (Nat.le_refl _) _) ?_
                  refine vh_done (by kernel_rfl) (fun hS => ?_)
                  exact ⟨0, ⟨rfl, rfl, trivial⟩, ⟨rfl, trivial⟩, ⟨by rw [← e3, ← e4]; exact setRow_bk (bk_new _ zH _) _, hS⟩⟩
              · refine vhn_val rfl (os_allocB Try.zeroValue65 (zc := _) (cs := zH) rfl) (fun hw => hw.alloc (Nat.le_refl _) _) ?_
                refine vh_one 1 (by kernel_rfl) ?_
                refine vhn_call rfl (ref14_at (some ⟨G, 0, none⟩) p.length c1 p 1 2 1 2 _ (by first | exact r1.keep b0 | exact r1.keep (b0.alloc (Nat.le_refl _) _)) rfl hy rfl ⟨rfl, by omega⟩ (by omega) (by omega)) rfl (fun hw v w' h => by rw [h.2]; exact hw) ?_
                rintro v3 w3 ⟨rfl, rfl⟩
                refine vh_one 3 (by kernel_rfl) ?_
                refine vhn_call rfl (ref14_at (some ⟨G, 0, none⟩) p.length c1 p 3 4 3 4 _ (by first | exact r1.keep b0 | exact r1.keep (b0.alloc (Nat.le_refl _) _)) rfl hy rfl ⟨rfl, by omega⟩ (by omega) (by omega)) rfl (fun hw v w' h => by rw [h.2]; exact hw) ?_
                rintro v4 w4 ⟨rfl, rfl⟩
                refine vh_one 13 (by kernel_rfl) ?_
                refine vhn_call rfl (ref14_at (some ⟨G, 0, none⟩) p.length c1 p 10 4 10 4 _ (by first | exact r1.keep b0 | exact r1.keep (b0.alloc (Nat.le_refl _) _)) rfl hy rfl ⟨rfl, by omega⟩ (by omega) (by omega)) rfl (fun hw v w' h => by rw [h.2]; exact hw) ?_
                rintro v5 w5 ⟨rfl, rfl⟩
                refine vh_pure 14 rfl (by kernel_rfl) (by kernel_rfl) (by kernel_rfl) (fun w hw => (os_build (cs := [.int .i64 (numAt p 1 2), .int .i64 (numAt p 3 4), .int .i64 (p.getD 7 0), .int .i64 (p.getD 8 0), .int .i64 (numAt p 10 4), .slice none 0 0]) rfl (by kernel_rfl))) ?_
                refine vh_one 16 (by kernel_rfl) ?_
                refine vhn_unit rfl (ou_storeB (by kernel_rfl) rfl rfl (bk_new _ zH _) rfl rfl) (fun hw => below_setRow hw (Nat.le_refl _) _) ?_
                refine vh_done (by kernel_rfl) (fun hS => ?_)
                exact ⟨0, ⟨rfl, rfl, trivial⟩, ⟨rfl, trivial⟩, ⟨by rw [← e3, ← e4]; exact setRow_bk (bk_new _ zH _) _, hS⟩⟩
            · rintro x w2 ⟨hM2, b2⟩
              have hM2l := hM2.lt
              obtain ⟨M, hM⟩ : ∃ M, M = w1.heap.size := ⟨_, rfl⟩
              rw [← hM] at hM2 hM2l
              rw [← hM]
              obtain ⟨K, hK⟩ : ∃ K : Nat, p.getD 9 0 = (K : Int) := ⟨(p.getD 9 0).toNat, by omega⟩
              have hKl : 14 + 3 * K ≤ p.length := by omega
              refine v_seq ?_
              refine v_seq ?_
              refine v_region ?_
              refine vl_val (os_assign rfl) ?_
              refine vl_nil ?_
              refine v_block ?_
              refine v_loop [(2, _), (5, _), (7, _)] (fun (i : Nat) => [(8, .int .i64 i)]) (fun i w' => i ≤ K ∧ Below w1.heap.size w1 w' ∧ M < w'.heap.size ∧ ∃ v, Bk w' M [.int .i64 (numAt p 1 2), .int .i64 (numAt p 3 4), .int .i64 (numAt p 7 1), .int .i64 (numAt p 8 1), .int .i64 (numAt p 10 4), v] 65 ∧ OwnP w' (M + 1) 62 2 v ((cntsAt p 14 i).map rowC)) (fun i => K - i) (0) ⟨rfl, rfl, rfl, trivial⟩ ⟨rfl, trivial⟩ (⟨by omega, b2, hM2l, _, hM2, OwnP.nil⟩) ?_
              rintro i w5 ⟨hi, b5, hMl, v, hM5, hv5⟩
              have r5 := r1.keep b5
              refine v_seq ?_
              refine v_seq ?_
              refine v_region ?_
              refine vl_val (os_move rfl) ?_
              refine vl_val (os_move rfl) ?_
              refine vl_val (os_ix Try.underlying22 Try.sizeOf5 rfl rfl (i := 9) (by omega) (by omega)) ?_
              refine vl_val (os_load Try.isAgg5 rfl (r5.y' (i := 9) (by omega))) ?_
              refine vl_val (os_conv Try.underlying5 Try.underlying3 rfl (i64_fit (by omega))) ?_
              refine vl_val (os_lss rfl rfl) ?_
              refine vl_nil ?_
              by_cases hik : i < K
              · refine v_cond_yes rfl (by omega) ?_
                have c0 : Below w5.heap.size w5 { w5 with drawn := w5.drawn + 1 } := (Below.refl _ _).drew
                have ax := hy.at_ (14 + 3 * i)
                have f1 : p.getD (14 + 3 * i) 0 = numAt p (14 + 3 * i) 1 := by rw [numAt_one (by omega)]
                have hrl : ((cntsAt p 14 i).map rowC).length = i := by simp [cntsAt_len]
                have hvl5 := hv5.lt
                refine v_skip ?_
                refine v_mid [(2, _), (5, _), (8, _)] (fun (x : Nat) => [(7, .pointer (some ⟨M, 0, none⟩))]) (fun x w' => Below w1.heap.size w1 w' ∧ M < w'.heap.size ∧ ∃ v, Bk w' M [.int .i64 (numAt p 1 2), .int .i64 (numAt p 3 4), .int .i64 (numAt p 7 1), .int .i64 (numAt p 8 1), .int .i64 (numAt p 10 4), v] 65 ∧ OwnP w' (M + 1) 62 2 v ((cntsAt p 14 (i + 1)).map rowC)) ⟨rfl, rfl, rfl, trivial⟩ ?_ ?_
                · refine v_block ?_
                  refine v_region_h (fun w' => Below w1.heap.size w1 w') mixed (b5.trans (c0.mono (by omega))) ?_
                  refine vh_pure 0 rfl (by kernel_rfl) (by kernel_rfl) (by kernel_rfl) (fun w hw => (os_fa (o := 5) (k := 0) (by kernel_rfl) rfl)) ?_
                  refine vh_pure 2 rfl (by kernel_rfl) (by kernel_rfl) (by kernel_rfl) (fun w hw => (os_move rfl)) ?_
                  refine vh_pure 3 rfl (by kernel_rfl) (by kernel_rfl) (by kernel_rfl) (fun w hw => (os_move rfl)) ?_
                  refine vh_pure 4 rfl (by kernel_rfl) (by kernel_rfl) (by kernel_rfl) (fun w hw => (os_muli rfl rfl (by omega))) ?_
                  refine vh_pure 5 rfl (by kernel_rfl) (by kernel_rfl) (by kernel_rfl) (fun w hw => (os_addi rfl rfl (by omega))) ?_
                  refine vh_pure 6 rfl (by kernel_rfl) (by kernel_rfl) (by kernel_rfl) (fun w hw => (os_ix Try.underlying22 Try.sizeOf5 rfl rfl (i := 14 + 3 * i) (by omega) (by omega))) ?_
                  refine vh_pure 7 rfl (by kernel_rfl) (by kernel_rfl) (by kernel_rfl) (fun w hw => (os_load Try.isAgg5 rfl ((r1.keep hw).y' (i := 14 + 3 * i) (by omega)))) ?_
                  refine vh_pure 8 rfl (by kernel_rfl) (by kernel_rfl) (by kernel_rfl) (fun w hw => (os_conv Try.underlying5 Try.underlying3 rfl (i64_fit (by omega)))) ?_
                  refine vh_pure 9 rfl (by kernel_rfl) (by kernel_rfl) (by kernel_rfl) (fun w hw => (os_move rfl)) ?_
                  refine vh_pure 10 rfl (by kernel_rfl) (by kernel_rfl) (by kernel_rfl) (fun w hw => (os_move rfl)) ?_
                  refine vh_pure 11 rfl (by kernel_rfl) (by kernel_rfl) (by kernel_rfl) (fun w hw => (os_muli rfl rfl (by omega))) ?_
                  refine vh_pure 12 rfl (by kernel_rfl) (by kernel_rfl) (by kernel_rfl) (fun w hw => (os_addi rfl rfl (by omega))) ?_
                  refine vh_two 1 13 (by kernel_rfl) ?_ ?_
                  · refine vhn_val rfl (os_load Try.isAgg63 rfl ((by first | exact hM29.cell (i := 5) rfl | exact (hM5.keep c0).cell (i := 5) rfl))) (fun hw => hw) ?_
                    refine vh_one 13 (by kernel_rfl) ?_
                    refine vhn_call rfl (ref14_at (some ⟨G, 0, none⟩) p.length c1 p (15 + 3 * i) 2 (15 + 3 * (i : Int)) 2 _ (r5.keep c0) rfl hy (by omega) ⟨rfl, by omega⟩ (by omega) (by omega)) rfl (fun hw v w' h => by rw [h.2]; exact hw) ?_
                    rintro v3 w3 ⟨rfl, rfl⟩
                    refine vh_pure 14 rfl (by kernel_rfl) (by kernel_rfl) (by kernel_rfl) (fun w hw => (os_build (cs := [.int .i64 (p.getD (14 + 3 * i) 0), .int .i64 (numAt p (15 + 3 * i) 2)]) rfl (by kernel_rfl))) ?_
                    refine vh_one 15 (by kernel_rfl) ?_
                    refine vhn_some rfl (ot_litS (css := [[.int .i64 (p.getD (14 + 3 * i) 0), .int .i64 (numAt p (15 + 3 * i) 2)]]) Try.underlying63 Try.sizeOf62 Try.zeroValue62 rfl rfl (by intro c hc; simp at hc; subst hc; rfl) (by decide) (by decide) (by decide)) (fun hw v1 w1' h => hw.trans (Below.mono h.2.2.2 hw.size)) ?_
                    rintro v29 w29 ⟨rfl, r29, s29, c29⟩
                    have b29 : Below w5.heap.size w5 w29 := c0.trans c29
                    have hM29 := hM5.keep b29
                    have hv29 := hv5.keepAll b29
                    have s29' := b29.size
                    refine vh_one 16 (by kernel_rfl) ?_
                    refine vhn_some rfl (ot_append_pn Try.underlying63 ti_wTable rfl (by decide) rfl rfl hv29 r29 (by intro c hc; simp at hc; subst hc; rfl) rfl (by intro c hc u hu; simp at hc; subst hc; simp at hu; rcases hu with rfl | rfl <;> rfl) (by rw [hrl]; omega) (by rw [hrl]; simp only [maxLen]; omega) (by omega)) (fun hw v1 w1' h => hw.grown h.2 (by omega) (fun k hk => by have := (hvl5 k hk).1; omega)) ?_
                    rintro v30 w30 ⟨ho30, hg30⟩
                    have hM30 := hM29.grown hg30 (fun e => by have := (hvl5 M e.symm).1; omega)
                    have hv30 := ho30.lt
                    have hMl30 := hM30.lt
                    refine vh_pure 17 rfl (by kernel_rfl) (by kernel_rfl) (by kernel_rfl) (fun w hw => (os_fa (o := 5) (k := 0) (by kernel_rfl) rfl)) ?_
                    refine vh_one 18 (by kernel_rfl) ?_
                    refine vhn_unit rfl (ou_store Try.sizeOf63 rfl rfl (OwnP.one' ho30) (hM30.cell (i := 5) rfl) (hM30.free _)) (fun hw => below_set hw (by omega) _ _) ?_
                    refine vh_done (by kernel_rfl) (fun hS => ?_)
                    exact ⟨0, ⟨rfl, rfl, rfl, trivial⟩, ⟨rfl, trivial⟩, ⟨hS, by simpa [World.setCell] using hMl30, v30, hM30.set 5 v30, by rw [hcntsAt_succ, List.map_append, ← f1]; exact ho30.blk fun k hk => Below.heap_setCell _ _ _ _ (fun e => by have := (hv30 k hk).1; simp at e; omega)⟩⟩
                  · refine vhn_call rfl (ref14_at (some ⟨G, 0, none⟩) p.length c1 p (15 + 3 * i) 2 (15 + 3 * (i : Int)) 2 _ (r5.keep c0) rfl hy (by omega) ⟨rfl, by omega⟩ (by omega) (by omega)) rfl (fun hw v w' h => by rw [h.2]; exact hw) ?_
                    rintro v3 w3 ⟨rfl, rfl⟩
                    refine vh_pure 14 rfl (by kernel_rfl) (by kernel_rfl) (by kernel_rfl) (fun w hw => (os_build (cs := [.int .i64 (p.getD (14 + 3 * i) 0), .int .i64 (numAt p (15 + 3 * i) 2)]) rfl (by kernel_rfl))) ?_
                    refine vh_two 1 15 (by kernel_rfl) ?_ ?_
                    · refine vhn_val rfl (os_load Try.isAgg63 rfl ((by first | exact hM29.cell (i := 5) rfl | exact (hM5.keep c0).cell (i := 5) rfl))) (fun hw => hw) ?_
                      refine vh_one 15 (by kernel_rfl) ?_
                      refine vhn_some rfl (ot_litS (css := [[.int .i64 (p.getD (14 + 3 * i) 0), .int .i64 (numAt p (15 + 3 * i) 2)]]) Try.underlying63 Try.sizeOf62 Try.zeroValue62 rfl rfl (by intro c hc; simp at hc; subst hc; rfl) (by decide) (by decide) (by decide)) (fun hw v1 w1' h => hw.trans (Below.mono h.2.2.2 hw.size)) ?_
                      rintro v29 w29 ⟨rfl, r29, s29, c29⟩
                      have b29 : Below w5.heap.size w5 w29 := c0.trans c29
                      have hM29 := hM5.keep b29
                      have hv29 := hv5.keepAll b29
                      have s29' := b29.size
                      refine vh_one 16 (by kernel_rfl) ?_
                      refine vhn_some rfl (ot_append_pn Try.underlying63 ti_wTable rfl (by decide) rfl rfl hv29 r29 (by intro c hc; simp at hc; subst hc; rfl) rfl (by intro c hc u hu; simp at hc; subst hc; simp at hu; rcases hu with rfl | rfl <;> rfl) (by rw [hrl]; omega) (by rw [hrl]; simp only [maxLen]; omega) (by omega)) (fun hw v1 w1' h => hw.grown h.2 (by omega) (fun k hk => by have := (hvl5 k hk).1; omega)) ?_
                      rintro v30 w30 ⟨ho30, hg30⟩
                      have hM30 := hM29.grown hg30 (fun e => by have := (hvl5 M e.symm).1; omega)
                      have hv30 := ho30.lt
                      have hMl30 := hM30.lt
                      refine vh_pure 17 rfl (by kernel_rfl) (by kernel_rfl) (by kernel_rfl) (fun w hw => (os_fa (o := 5) (k := 0) (by kernel_rfl) rfl)) ?_
                      refine vh_one 18 (by kernel_rfl) ?_
                      refine vhn_unit rfl (ou_store Try.sizeOf63 rfl rfl (OwnP.one' ho30) (hM30.cell (i := 5) rfl) (hM30.free _)) (fun hw => below_set hw (by omega) _ _) ?_
                      refine vh_done (by kernel_rfl) (fun hS => ?_)
                      exact ⟨0, ⟨rfl, rfl, rfl, trivial⟩, ⟨rfl, trivial⟩, ⟨hS, by simpa [World.setCell] using hMl30, v30, hM30.set 5 v30, by rw [hcntsAt_succ, List.map_append, ← f1]; exact ho30.blk fun k hk => Below.heap_setCell _ _ _ _ (fun e => by have := (hv30 k hk).1; simp at e; omega)⟩⟩
                    · refine vhn_some rfl (ot_litS (css := [[.int .i64 (p.getD (14 + 3 * i) 0), .int .i64 (numAt p (15 + 3 * i) 2)]]) Try.underlying63 Try.sizeOf62 Try.zeroValue62 rfl rfl (by intro c hc; simp at hc; subst hc; rfl) (by decide) (by decide) (by decide)) (fun hw v1 w1' h => hw.trans (Below.mono h.2.2.2 hw.size)) ?_
                      rintro v29 w29 ⟨rfl, r29, s29, c29⟩
                      have b29 : Below w5.heap.size w5 w29 := c0.trans c29
                      have hM29 := hM5.keep b29
                      have hv29 := hv5.keepAll b29
                      have s29' := b29.size
                      refine vh_one 1 (by kernel_rfl) ?_
                      refine vhn_val rfl (os_load Try.isAgg63 rfl ((by first | exact hM29.cell (i := 5) rfl | exact (hM5.keep c0).cell (i := 5) rfl))) (fun hw => hw) ?_
                      refine vh_one 16 (by kernel_rfl) ?_
                      refine vhn_some rfl (ot_append_pn Try.underlying63 ti_wTable rfl (by decide) rfl rfl hv29 r29 (by intro c hc; simp at hc; subst hc; rfl) rfl (by intro c hc u hu; simp at hc; subst hc; simp at hu; rcases hu with rfl | rfl <;> rfl) (by rw [hrl]; omega) (by rw [hrl]; simp only [maxLen]; omega) (by omega)) (fun hw v1 w1' h => hw.grown h.2 (by omega) (fun k hk => by have := (hvl5 k hk).1; omega)) ?_
                      rintro v30 w30 ⟨ho30, hg30⟩
                      have hM30 := hM29.grown hg30 (fun e => by have := (hvl5 M e.symm).1; omega)
                      have hv30 := ho30.lt
                      have hMl30 := hM30.lt
                      refine vh_pure 17 rfl (by kernel_rfl) (by kernel_rfl) (by kernel_rfl) (fun w hw => (os_fa (o := 5) (k := 0) (by kernel_rfl) rfl)) ?_
                      refine vh_one 18 (by kernel_rfl) ?_
                      refine vhn_unit rfl (ou_store Try.sizeOf63 rfl rfl (OwnP.one' ho30) (hM30.cell (i := 5) rfl) (hM30.free _)) (fun hw => below_set hw (by omega) _ _) ?_
                      refine vh_done (by kernel_rfl) (fun hS => ?_)
                      exact ⟨0, ⟨rfl, rfl, rfl, trivial⟩, ⟨rfl, trivial⟩, ⟨hS, by simpa [World.setCell] using hMl30, v30, hM30.set 5 v30, by rw [hcntsAt_succ, List.map_append, ← f1]; exact ho30.blk fun k hk => Below.heap_setCell _ _ _ _ (fun e => by have := (hv30 k hk).1; simp at e; omega)⟩⟩
                · rintro x w31 ⟨a1', a2', v31, a3', a4'⟩
                  refine v_region ?_
                  refine vl_val (os_move rfl) ?_
                  refine vl_val (os_addi rfl rfl (by omega)) ?_
                  refine vl_val (os_assign rfl) ?_
                  refine vl_nil ?_
                  exact ⟨i + 1, ⟨rfl, rfl, rfl, trivial⟩, ⟨rfl, trivial⟩, ⟨by omega, a1', a2', v31, a3', a4'⟩, by dsimp only; omega⟩
              · refine v_cond_no rfl (by omega) ?_
                obtain rfl : K = i := by omega
                obtain ⟨AC, cC, rfl, hcc, -, hr⟩ := hv5.form
                have hrl : ((cntsAt p 14 K).map rowC).length = K := by simp [cntsAt_len]
                have hQ5 := hQ1.below b5 (by omega)
                have b5w := b1w.trans (b5.mono b1w.size)
                have hbd := fun i s (hs : s ≤ 4) => hi64_at hy i s hs
                have hlow : ∀ a, AC = some a → M < a.block := fun a ha => by have := (hv5.lt a.block (by subst ha; rfl)).1; omega
                have hq : headP p = ⟨numAt p 1 2, numAt p 3 4, numAt p 7 1, numAt p 8 1, numAt p 10 4, cntsAt p 14 K⟩ := by unfold headP; rw [h8, hK, Int.toNat_natCast]
                have hdd : HeadOk w5 ⟨headP p, AC, ((cntsAt p 14 K).map rowC).length, cC⟩ := by rw [hq]; exact ⟨hr, by simp, by simp only [hrl]; omega, ⟨hbd 1 2 (by omega), hbd 3 4 (by omega), hbd 7 1 (by omega), hbd 8 1 (by omega), hbd 10 4 (by omega)⟩, fun e he => by obtain ⟨j, _, rfl⟩ := List.mem_map.1 he; exact ⟨hbd _ 1 (by omega), hbd _ 2 (by omega)⟩, hcc⟩
                have hM5' : Bk w5 M (HeadV.cells ⟨headP p, AC, ((cntsAt p 14 K).map rowC).length, cC⟩) 65 := by rw [hq]; exact hM5
                have hB : bodyP p = p.drop (14 + 3 * K) := by unfold bodyP; rw [h8, hK, Int.toNat_natCast]
                have s0 := own_alloc (B := w5.heap.size) w5 [] 5 (Nat.le_refl _) (by simp [maxLen])
                have s0' : OwnK _ w5.heap.size 5 .u8 _ [] := s0
                have s0b : Below w5.heap.size w5 (w5.alloc (.cells #[] 5)) := (Below.refl _ w5).alloc (Nat.le_refl _) _
                refine v_exit ?_
                refine v_seq ?_
                refine v_region ?_
                refine vl_val (os_lit Try.underlying22 Try.sizeOf5 Try.zeroValue5 rfl rfl rfl rfl (by decide)) ?_
                refine vl_val (os_move rfl) ?_
                refine vl_val (os_move rfl) ?_
                refine vl_val (os_ix Try.underlying22 Try.sizeOf5 rfl rfl (i := 9) (by omega) (by omega)) ?_
                refine vl_val (os_load Try.isAgg5 rfl ((r5.keep s0b).y' (i := 9) (by omega))) ?_
                refine vl_val (os_conv Try.underlying5 Try.underlying3 rfl (i64_fit (by omega))) ?_
                refine vl_val (os_muli rfl rfl (by omega)) ?_
                refine vl_val (os_addi rfl rfl (by omega)) ?_
                refine vl_val (os_slice_l Try.underlying22 Try.sizeOf5 rfl rfl (i := 14 + 3 * K) (by omega) (by omega)) ?_
                refine vl_some (ot_appB Try.underlying22 ti_u8 rfl rfl rfl s0' s0b ((r5.keep s0b).sliced (c := c1) (i := 14 + 3 * K) (by omega)) (by rw [List.length_drop]) (by simp; omega)) ?_
                rintro v6 w6 ⟨o6, b6⟩
                rw [List.nil_append, ← hB] at o6
                have hM6 := hM5'.keep b6
                have hd6 := hdd.keep b6
                have b6w := b5w.trans (b6.mono b5w.size)
                obtain ⟨A6, c6, rfl, hc6, -, r6, -⟩ := OwnK.form o6
                have hbl : (bodyP p).length ≤ 10000000 := by rw [hB, List.length_drop]; omega
                refine vl_val (os_assign rfl) ?_
                refine vl_nil ?_
                refine v_seq ?_
                refine v_region ?_
                refine vl_val (os_loadB Try.underlying65 rfl (by kernel_rfl) rfl (hM6)) ?_
                refine vl_val (os_move rfl) ?_
                refine vl_call (ref14_Put _ A6 _ c6 (bodyP p) w6 hd6 r6 rfl hbl (fun z hz => hy z (by rw [hB] at hz; exact List.mem_of_mem_drop hz)) hc6) rfl ?_
                rintro v7 w7 ⟨s7, rfl, o7, b7⟩
                have b7w := b6w.trans (b7.mono b6w.size)
                have hQ7 := (hQ5.keep b6).keep b7
                have hM7 := hM6.keep b7
                have hd7 := hd6.keep b7
                have o67 := Own.keepAll o6 b7
                refine vl_val (os_move rfl) ?_
                refine vl_val (os_extract rfl rfl) ?_
                refine vl_val (os_extract rfl rfl) ?_
                refine vl_val (os_assign rfl) ?_
                refine vl_val (os_assign rfl) ?_
                refine vl_nil ?_
                cases hpt : putH (headP p) (bodyP p)
                · have he7 : hpE (headP p) (bodyP p) = 2 := by unfold hpE; rw [hpt]; rfl
                  rw [he7]
                  refine v_seq ?_
                  refine v_seq ?_
                  refine v_region ?_
                  refine vl_val (os_move rfl) ?_
                  refine vl_val (os_neq rfl rfl) ?_
                  refine vl_nil ?_
                  refine v_cond_yes rfl (by decide) ?_
                  refine v_seq ?_
                  refine v_region ?_
                  refine vl_val (os_build (cs := zH) rfl (by kernel_rfl)) ?_
                  refine vl_unit (ou_storeB (by kernel_rfl) rfl rfl hQ7 rfl rfl) ?_
                  refine vl_val (os_assign rfl) ?_
                  refine vl_val (os_assign rfl) ?_
                  refine vl_nil ?_
                  refine v_ret ?_
                  exact post_cellt3 rfl rfl rfl rfl Try.underlying65 rfl (by kernel_rfl) (setRow_bk hQ7 zH) (fin w7 4 (by decide) (by rw [hEp]; unfold parseHE; rw [if_neg hp0, if_neg (fun h => h hv), hpt, Bool.and_false]; rfl) b7w)
                · have he7 : hpE (headP p) (bodyP p) = 0 := by unfold hpE; rw [hpt]; rfl
                  rw [he7]
                  refine v_seq ?_
                  refine v_seq ?_
                  refine v_region ?_
                  refine vl_val (os_move rfl) ?_
                  refine vl_val (os_neq rfl rfl) ?_
                  refine vl_nil ?_
                  refine v_cond_no rfl (by decide) ?_
                  refine v_skip ?_
                  refine v_seq ?_
                  refine v_region ?_
                  refine vl_val (os_loadB Try.underlying65 rfl (by kernel_rfl) rfl (hM7)) ?_
                  refine vl_val (os_move rfl) ?_
                  refine vl_unit (ou_storeB (by kernel_rfl) rfl rfl hQ7 rfl rfl) ?_
                  have hE3 : hdE zs = 0 := by rw [hEp]; unfold parseHE; rw [if_neg hp0, if_neg (fun h => h hv), hg, hpt]; rfl
                  have eP : hdP zs = headP p := by unfold hdP; rw [hE3, if_pos rfl, hp]
                  have eBd : hdB zs = bodyP p := by unfold hdB; rw [hE3, if_pos rfl, hp]
                  have s5 := b5.size
                  have hd8 : HeadOk (w7.setRow w.heap.size (HeadV.cells ⟨headP p, AC, ((cntsAt p 14 K).map rowC).length, cC⟩).toArray) ⟨headP p, AC, ((cntsAt p 14 K).map rowC).length, cC⟩ := ⟨RdP.kbS hd7.1 (Kb.setRow (S := [w.heap.size]) (by simp) _) fun a ha => by have := hlow a ha; simp; omega, hd7.2⟩
                  refine vl_val (os_assign rfl) ?_
                  refine vl_val (os_assign rfl) ?_
                  refine vl_nil ?_
                  refine v_ret ?_
                  exact post_cellt3 rfl rfl rfl rfl Try.underlying65 rfl (by kernel_rfl) (setRow_bk hQ7 (HeadV.cells ⟨headP p, AC, ((cntsAt p 14 K).map rowC).length, cC⟩)) ⟨AC, _, cC, _, by rw [hE3, eP], by rw [eP]; exact hd8, by rw [eBd]; exact Own.mono (Own.kb o67 (Kb.setRow (S := [w.heap.size]) (by simp) _) (fun z e hz => by have := (World.ownsRow.lt o67 z e).1; simp at hz; omega)) (by omega), below_setRow b7w (Nat.le_refl _) _⟩
          · refine v_skip ?_
            refine v_seq ?_
            refine v_seq ?_
            refine v_region ?_
            refine vl_val (os_move rfl) ?_
            refine vl_val (os_len Try.underlying22 rfl) ?_
            refine vl_val (os_f (os_lss rfl rfl) (by omega)) ?_
            refine vl_val (os_move rfl) ?_
            refine vl_valg rfl (os_move rfl) ?_
            refine vl_valg rfl (os_len Try.underlying22 rfl) ?_
            refine vl_valg rfl (os_move rfl) ?_
            refine vl_valg rfl (os_ix Try.underlying22 Try.sizeOf5 rfl rfl (i := 9) (by omega) (by omega)) ?_
            refine vl_valg rfl (os_load Try.isAgg5 rfl (r1.y' (i := 9) (by omega))) ?_
            refine vl_valg rfl (os_conv Try.underlying5 Try.underlying3 rfl (i64_fit (by omega))) ?_
            refine vl_valg rfl (os_muli rfl rfl (by omega)) ?_
            refine vl_valg rfl (os_addi rfl rfl (by omega)) ?_
            refine vl_valg rfl (os_lss rfl rfl) ?_
            refine vl_val (os_pick_f rfl rfl) ?_
            refine vl_nil ?_
            refine v_cond_yes rfl (Decidable.byContradiction fun hh => hg (by unfold shapeH; rw [h8]; exact decide_eq_true ⟨by omega, by omega⟩)) ?_
            refine v_seq ?_
            refine v_region ?_
            refine vl_val (os_build (cs := zH) rfl (by kernel_rfl)) ?_
            refine vl_unit (ou_storeB (by kernel_rfl) rfl rfl hQ1 rfl rfl) ?_
            refine vl_val (os_assign rfl) ?_
            refine vl_val (os_assign rfl) ?_
            refine vl_nil ?_
            refine v_ret ?_
            exact post_cellt3 rfl rfl rfl rfl Try.underlying65 rfl (by kernel_rfl) (setRow_bk hQ1 zH) (fin w1 4 (by decide) (by rw [hEp]; unfold parseHE; rw [if_neg hp0, if_neg (fun h => h hv), show shapeH p = false by simpa using hg]; rfl) b1w)
      · rw [numAt_one (by omega)] at hv
        refine v_cond_yes rfl (hv) ?_
        rw [← numAt_one (by omega)] at hv
        refine v_seq ?_
        refine v_region ?_
        refine vl_val (os_build (cs := zH) rfl (by kernel_rfl)) ?_
        refine vl_unit (ou_storeB (by kernel_rfl) rfl rfl hQ1 rfl rfl) ?_
        refine vl_val (os_assign rfl) ?_
        refine vl_val (os_assign rfl) ?_
        refine vl_nil ?_
        refine v_ret ?_
        exact post_cellt3 rfl rfl rfl rfl Try.underlying65 rfl (by kernel_rfl) (setRow_bk hQ1 zH) (fin w1 11 (by decide) (by rw [hEp]; unfold parseHE; rw [if_neg hp0, if_pos hv]) b1w)
  · refine v_seq ?_
    refine v_seq ?_
    refine v_region ?_
    refine vl_val (os_move rfl) ?_
    refine vl_val (os_neq rfl rfl) ?_
    refine vl_nil ?_
    refine v_cond_yes rfl (he) ?_
    refine v_seq ?_
    refine v_region ?_
    refine vl_val (os_build (cs := zH) rfl (by kernel_rfl)) ?_
    refine vl_val (os_move rfl) ?_
    refine vl_unit (ou_storeB (by kernel_rfl) rfl rfl hQ1 rfl rfl) ?_
    refine vl_val (os_assign rfl) ?_
    refine vl_val (os_assign rfl) ?_
    refine vl_nil ?_
    refine v_ret ?_
    exact post_cellt3 rfl rfl rfl rfl Try.underlying65 rfl (by kernel_rfl) (setRow_bk hQ1 zH) (fin w1 (openE zs) he (by unfold hdE; rw [if_pos he]) b1w)
end Go.Proofs.Ytpojijnjdlnokaa

/- Layer 7, plain: of what is sealed, of which bits are turned within 32 of them, it is told so. No program in sight. -/
namespace Go.Proofs.Ytpojijnjdlnokaa
open Go.RowKit
set_option linter.unusedVariables false

def rN (x : Nat) : Nat := (x / 2) ^^^ (if x % 2 = 1 then 0xEDB88320 else 0)
def rNs : Nat → Nat → Nat
  | 0, x => x
  | k + 1, x => rNs k (rN x)
def natOf : List Int → Nat
  | [] => 0
  | z :: zs => z.toNat ^^^ (natOf zs <<< 8)
theorem rNs_add (a b x : Nat) : rNs (a + b) x = rNs b (rNs a x) := by
  induction a generalizing x with
  | zero => rw [Nat.zero_add]; rfl
  | succ a ih => rw [show a + 1 + b = (a + b) + 1 by omega]; exact ih (rN x)
theorem rNs_succ (k x : Nat) : rNs (k + 1) x = rN (rNs k x) := rNs_add k 1 x
theorem crcRnd_nat (s : BitVec 32) : (crcRnd s).toNat = rN s.toNat := by
  rw [crcRnd_eq, BitVec.toNat_xor, BitVec.toNat_ushiftRight, Nat.shiftRight_eq_div_pow, Nat.pow_one]
  unfold rN
  congr 1
  have : s.getLsbD 0 = decide (s.toNat % 2 = 1) := by simp [BitVec.getLsbD]
  rw [this]
  by_cases h : s.toNat % 2 = 1 <;> simp [h, crcPoly]
theorem crcRnds_nat (k : Nat) (s : BitVec 32) : (crcRnds k s).toNat = rNs k s.toNat := by
  induction k with
  | zero => rfl
  | succ k ih => rw [rNs_succ, ← ih]; exact crcRnd_nat _
theorem nxor_lc (a b c : Nat) : a ^^^ (b ^^^ c) = b ^^^ (a ^^^ c) := by rw [← Nat.xor_assoc, Nat.xor_comm a b, Nat.xor_assoc]
theorem nxor_cc (a b : Nat) : a ^^^ (a ^^^ b) = b := by rw [← Nat.xor_assoc, Nat.xor_self, Nat.zero_xor]
theorem rN_xor (a b : Nat) : rN (a ^^^ b) = rN a ^^^ rN b := by
  unfold rN
  rw [Nat.xor_div_two]
  have h : (a ^^^ b) % 2 = (a + b) % 2 := by have := @Nat.xor_mod_two_eq_one a b; omega
  generalize a / 2 = x
  generalize b / 2 = y
  rcases Nat.mod_two_eq_zero_or_one a with ha | ha <;> rcases Nat.mod_two_eq_zero_or_one b with hb | hb
  · rw [if_neg (by omega), if_neg (by omega), if_neg (by omega)]; simp
  · rw [if_pos (by omega), if_neg (by omega), if_pos (by omega)]; simp [Nat.xor_assoc]
  · rw [if_pos (by omega), if_pos (by omega), if_neg (by omega), Nat.xor_zero, Nat.xor_assoc, Nat.xor_assoc, Nat.xor_comm y]
  · rw [if_neg (by omega), if_pos (by omega), if_pos (by omega), Nat.xor_zero]
    generalize 0xEDB88320 = p
    rw [Nat.xor_assoc, nxor_lc p y p, Nat.xor_self, Nat.xor_zero]
theorem rNs_xor (k a b : Nat) : rNs k (a ^^^ b) = rNs k a ^^^ rNs k b := by
  induction k generalizing a b with
  | zero => rfl
  | succ k ih => simp only [rNs, rN_xor, ih]
theorem rNs_shift (k x : Nat) : rNs k (x <<< k) = x := by
  induction k with
  | zero => simp [rNs]
  | succ k ih =>
    have h : x <<< (k + 1) = 2 * (x <<< k) := by simp [Nat.shiftLeft_eq, Nat.pow_succ]; rw [← Nat.mul_assoc, Nat.mul_comm]
    have : rN (x <<< (k + 1)) = x <<< k := by
      unfold rN
      rw [h, if_neg (by omega), Nat.mul_div_cancel_left _ (by omega), Nat.xor_zero]
    simp only [rNs, this, ih]
theorem rN_ne {x : Nat} (h : x ≠ 0) (hl : x < 2 ^ 32) : rN x ≠ 0 ∧ rN x < 2 ^ 32 := by
  unfold rN
  refine ⟨fun h0 => ?_, Nat.xor_lt_two_pow (by omega) (by split <;> decide)⟩
  by_cases hx : x % 2 = 1
  · rw [if_pos hx] at h0
    have h1 : (x / 2 ^^^ 0xEDB88320).testBit 31 = false := by rw [h0]; simp
    rw [Nat.testBit_xor, Nat.testBit_lt_two_pow (show x / 2 < 2 ^ 31 by omega)] at h1
    exact absurd h1 (by decide)
  · rw [if_neg hx, Nat.xor_zero] at h0
    omega
theorem rNs_ne (k : Nat) {x : Nat} (h : x ≠ 0) (hl : x < 2 ^ 32) : rNs k x ≠ 0 := by
  induction k generalizing x with
  | zero => exact h
  | succ k ih => exact ih (rN_ne h hl).1 (rN_ne h hl).2
theorem crcRun_nat : ∀ (zs : List Int) (s : BitVec 32), AllB zs → (crcRun s zs).toNat = rNs (8 * zs.length) (s.toNat ^^^ natOf zs)
  | [], s, _ => by simp [crcRun, natOf, rNs]
  | z :: zs, s, h => by
    have hz := h z (by simp)
    have hb : (BitVec.setWidth 32 (BitVec.ofInt 8 z)).toNat = z.toNat := by
      simp [BitVec.toNat_ofInt]; omega
    show (crcRun (crcStep s z) zs).toNat = _
    rw [crcRun_nat zs _ (fun y hy => h y (by simp [hy])), crcStep_rnds, crcRnds_nat, BitVec.toNat_xor, hb]
    rw [show 8 * (z :: zs).length = 8 + 8 * zs.length by simp; omega, rNs_add, natOf, ← Nat.xor_assoc, rNs_xor 8 (s.toNat ^^^ z.toNat), rNs_shift]
theorem cons_add {z M : Nat} (h : z < 256) : z ^^^ (M <<< 8) = z + 256 * M := by
  apply Nat.eq_of_testBit_eq
  intro i
  rw [Nat.add_comm, show 256 * M + z = 2 ^ 8 * M + z from rfl, Nat.testBit_two_pow_mul_add M (show z < 2 ^ 8 from h), Nat.testBit_xor, Nat.testBit_shiftLeft]
  by_cases h8 : i < 8
  · simp [h8, show ¬ 8 ≤ i by omega]
  · have : z.testBit i = false := Nat.testBit_lt_two_pow (Nat.lt_of_lt_of_le h (Nat.pow_le_pow_right (n := 2) (by omega) (show 8 ≤ i by omega)))
    simp [h8, this, show 8 ≤ i by omega]
theorem natOf_le4 (x : BitVec 32) : natOf (le4 x) = x.toNat := by
  have hx := x.isLt
  simp only [le4, natOf, BitVec.toNat_setWidth, BitVec.toNat_ushiftRight, Int.toNat_natCast, Nat.shiftRight_eq_div_pow]
  rw [cons_add (by omega), cons_add (by omega), cons_add (by omega), cons_add (by omega)]
  omega
theorem seal_res (c : List Int) (hc : AllB c) : (crcRun (~~~ 0#32) (sealL c)).toNat = rNs 32 (2 ^ 32 - 1) := by
  unfold sealL
  rw [crcRun_app, crcRun_nat _ _ (le4_B _), natOf_le4, ← BitVec.toNat_xor]
  show rNs (8 * 4) _ = _
  congr 1
  have : crcOf [c] = ~~~ crcRun (~~~ 0#32) c := rfl
  rw [this]
  generalize crcRun (~~~ 0#32) c = x
  have : x ^^^ ~~~ x = BitVec.allOnes 32 := by
    apply BitVec.eq_of_getLsbD_eq
    intro i hi
    rw [BitVec.getLsbD_allOnes, BitVec.getLsbD_xor, BitVec.getLsbD_not]
    cases x.getLsbD i <;> simp [hi]
  rw [this]; decide
theorem seal_burst {b ts : List Int} {W k : Nat} (hb : AllB b) (ht : AllB ts) (hl : ts.length = (sealL b).length) (hn : natOf ts = natOf (sealL b) ^^^ (W <<< k)) (h0 : W ≠ 0) (hW : W < 2 ^ 32) (hk : k ≤ 8 * ts.length) : openE ts = 10 := by
  have h4 : 4 ≤ ts.length := by rw [hl]; simp [sealL, le4]
  unfold openE
  rw [if_neg (by omega), if_neg]
  intro hs
  have e1 := seal_res _ (ht.take (ts.length - 4))
  have e2 := seal_res _ hb
  rw [hs, crcRun_nat _ _ ht, hn, ← Nat.xor_assoc, rNs_xor, hl, ← crcRun_nat _ _ (sealL_B hb), e2] at e1
  have e3 : rNs (8 * (sealL b).length) (W <<< k) = 0 := by
    have := congrArg (fun z => rNs 32 (2 ^ 32 - 1) ^^^ z) e1
    simp only [nxor_cc, Nat.xor_self] at this
    exact this
  rw [show 8 * (sealL b).length = k + (8 * (sealL b).length - k) by omega, rNs_add, rNs_shift] at e3
  exact rNs_ne _ h0 hW e3
theorem natOf_set : ∀ (ts : List Int) (q : Nat) (z' : Int) (r : Nat), q < ts.length → z'.toNat = (ts.getD q 0).toNat ^^^ (1 <<< r) → natOf (ts.set q z') = natOf ts ^^^ (1 <<< (8 * q + r))
  | [], q, z', r, h, _ => by simp at h
  | z :: ts, 0, z', r, h, e => by
    simp only [List.set_cons_zero, natOf, List.getD_cons_zero] at e ⊢
    rw [e, Nat.mul_zero, Nat.zero_add, Nat.xor_assoc, Nat.xor_assoc, Nat.xor_comm (1 <<< r)]
  | z :: ts, q + 1, z', r, h, e => by
    simp only [List.set_cons_succ, natOf, List.getD_cons_succ] at e ⊢
    rw [natOf_set ts q z' r (by simpa using h) e, Nat.shiftLeft_xor_distrib, Nat.xor_assoc, ← Nat.shiftLeft_add, show 8 * q + r + 8 = 8 * (q + 1) + r by omega]
theorem bits_succ (t i : Nat) : t % 2 ^ (i + 1) = if t.testBit i then (t % 2 ^ i) ^^^ (1 <<< i) else t % 2 ^ i := by
  apply Nat.eq_of_testBit_eq
  intro j
  rw [Nat.testBit_mod_two_pow]
  split
  · rename_i h
    rw [Nat.testBit_xor, Nat.testBit_mod_two_pow, Nat.testBit_shiftLeft]
    rcases Nat.lt_trichotomy j i with hj | rfl | hj
    · simp [hj, show j < i + 1 by omega, show ¬ i ≤ j by omega]
    · simp [h]
    · have h1 : (1 : Nat).testBit (j - i) = false := Nat.testBit_lt_two_pow (Nat.one_lt_two_pow (by omega))
      simp [show ¬ j < i by omega, show ¬ j < i + 1 by omega, show i ≤ j by omega, h1]
  · rename_i h
    rw [Nat.testBit_mod_two_pow]
    rcases Nat.lt_trichotomy j i with hj | rfl | hj
    · simp [hj, show j < i + 1 by omega]
    · simp at h; simp [h]
    · simp [show ¬ j < i by omega, show ¬ j < i + 1 by omega]
theorem bits_step {M t i k : Nat} (h : t.testBit i = true) : M ^^^ ((t % 2 ^ (i + 1)) <<< k) = (M ^^^ ((t % 2 ^ i) <<< k)) ^^^ (1 <<< (k + i)) := by
  rw [bits_succ, if_pos h, Nat.shiftLeft_xor_distrib, ← Nat.xor_assoc, ← Nat.shiftLeft_add, Nat.add_comm i k]
theorem bits_ne {t i : Nat} (h : t.testBit i = true) : t % 2 ^ (i + 1) ≠ 0 := fun h0 => by
  have : (t % 2 ^ (i + 1)).testBit i = true := by rw [Nat.testBit_mod_two_pow]; simp [h]
  rw [h0] at this; simp at this
end Go.Proofs.Ytpojijnjdlnokaa

/- Layer 7: the walk of SumSeals. -/
namespace Go.Proofs.Ytpojijnjdlnokaa
open Go.RowKit
set_option linter.unusedVariables false

theorem bit8 (r : Nat) (hr : r < 8) (p : Int) (hp : p = (r : Int)) : IntKind.u8.wrap (1 * 2 ^ min p.toNat IntKind.u8.bits) = (((1#8 <<< r).toNat : Nat) : Int) := by
  subst hp
  rcases (by omega : r = 0 ∨ r = 1 ∨ r = 2 ∨ r = 3 ∨ r = 4 ∨ r = 5 ∨ r = 6 ∨ r = 7) with rfl | rfl | rfl | rfl | rfl | rfl | rfl | rfl <;> decide
/-- a byte, one bit of it turned -/
def flipZ (z : Int) (r : Nat) : Int := ((BitVec.ofInt 8 z ^^^ (1#8 <<< r)).toNat : Int)
theorem flipZ_nat {z : Int} (h : 0 ≤ z ∧ z ≤ 255) {r : Nat} (hr : r < 8) : (flipZ z r).toNat = z.toNat ^^^ (1 <<< r) := by
  have e1 : (BitVec.ofInt 8 z).toNat = z.toNat := by simp [BitVec.toNat_ofInt]; omega
  have e2 : (1#8 <<< r).toNat = 1 <<< r := by
    rcases (by omega : r = 0 ∨ r = 1 ∨ r = 2 ∨ r = 3 ∨ r = 4 ∨ r = 5 ∨ r = 6 ∨ r = 7) with rfl | rfl | rfl | rfl | rfl | rfl | rfl | rfl <;> decide
  show ((((BitVec.ofInt 8 z ^^^ (1#8 <<< r)).toNat : Nat) : Int)).toNat = _
  rw [Int.toNat_natCast, BitVec.toNat_xor, e1, e2]
theorem flipZ_bd (z : Int) (r : Nat) : 0 ≤ flipZ z r ∧ flipZ z r ≤ 255 := by
  unfold flipZ
  have := (BitVec.ofInt 8 z ^^^ (1#8 <<< r)).isLt
  omega
theorem AllB.set {zs : List Int} (h : AllB zs) (i : Nat) {z : Int} (hz : 0 ≤ z ∧ z ≤ 255) : AllB (zs.set i z) := fun y hy => by
  rcases List.mem_or_eq_of_mem_set hy with h1 | rfl
  · exact h y h1
  · exact hz
/-- the bytes t, behind i rounds -/
structure Bent (s : List Int) (T k i : Nat) (ts : List Int) : Prop where
  all : AllB ts
  len : ts.length = s.length
  nat : natOf ts = natOf s ^^^ ((T % 2 ^ i) <<< k)
theorem Bent.zero {s : List Int} (h : AllB s) (T k : Nat) : Bent s T k 0 s := ⟨h, rfl, by simp [Nat.mod_one]⟩
theorem Bent.skip {s ts : List Int} {T k i : Nat} (h : Bent s T k i ts) (hb : T.testBit i = false) : Bent s T k (i + 1) ts := ⟨h.all, h.len, by rw [bits_succ, hb]; exact h.nat⟩
theorem Bent.flip {s ts : List Int} {T k i q r : Nat} (h : Bent s T k i ts) (hb : T.testBit i = true) (hq : q < ts.length) (hr : r < 8) (hk : k + i = 8 * q + r) : Bent s T k (i + 1) (ts.set q (flipZ (ts.getD q 0) r)) :=
  ⟨h.all.set q (flipZ_bd _ _), by rw [List.length_set, h.len], by rw [natOf_set ts q _ r hq (flipZ_nat (h.all.at_ q) hr), h.nat, bits_step hb, hk]⟩
theorem Bent.told {b ts : List Int} {T k i : Nat} (hb : AllB b) (h : Bent (sealL b) T k i ts) (hi : i ≤ 32) (hk : k ≤ 8 * ts.length) (h0 : T % 2 ^ i ≠ 0) : openE ts = 10 :=
  seal_burst hb h.all h.len h.nat h0 (Nat.lt_of_lt_of_le (Nat.mod_lt _ (Nat.two_pow_pos i)) (Nat.pow_le_pow_right (by omega) hi)) hk
theorem bent_t {T i : Nat} (h : T.testBit i = true) : decide (T % 2 ^ (i + 1) ≠ 0) = true := decide_eq_true (bits_ne h)
theorem bent_f {T i : Nat} (h : T.testBit i = false) : decide (T % 2 ^ (i + 1) ≠ 0) = decide (T % 2 ^ i ≠ 0) := by rw [bits_succ, h]; rfl
theorem bit_of (T : BitVec 32) (i : Nat) : (((T >>> i &&& 1#32).toNat : Int) = 1) ↔ T.toNat.testBit i = true := by
  rw [low1]; simp [BitVec.getLsbD_ushiftRight, BitVec.getLsbD]
theorem seal_open {bs : List Int} : openE (sealL bs) = 0 ∧ openV (sealL bs) = bs := by
  have h1 := sealL_len bs
  have h2 : (sealL bs).take ((sealL bs).length - 4) = bs := by rw [h1]; simp [sealL]
  have h3 : openE (sealL bs) = 0 := by unfold openE; rw [if_neg (by omega), h2, if_pos rfl]
  exact ⟨h3, by unfold openV; rw [if_pos h3, h2]⟩

end Go.Proofs.Ytpojijnjdlnokaa
