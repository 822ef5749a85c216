/- Layer 8: the walk of PackReads. -/
import Derived.Test.YtpcfifheegfjiaaPkW
namespace Go.Proofs.Ytpcfifheegfjiaa
open Go.RowKit
set_option linter.unusedVariables false

theorem RrS.kb {w w' : World} {B g : Nat} {v : Value} {bs : List Int} {e : Int} {S : List Nat} (h : RrS w B g v bs e) (hb : Kb S w w') (hg : g ∉ S) (hr : ∀ b, v.ownBlock = some b → b ∉ S) : RrS w' B g v bs e :=
  ⟨h.bk.kb hb hg, let ⟨A, c, e1, h1, h2, r⟩ := h.form; ⟨A, c, e1, h1, h2, r.kb hb (fun b o e => hr b (by rw [e1, e]; rfl))⟩, h.low, fun b hv => ⟨(h.row b hv).1, Nat.lt_of_lt_of_le (h.row b hv).2.1 hb.size, (h.row b hv).2.2⟩⟩
theorem RfS.kb {w w' : World} {B g : Nat} {v : Value} {bs : List Int} {e : Int} {S : List Nat} (h : RfS w B g v bs e) (hb : Kb S w w') (hg : g ∉ S) (hr : ∀ b, v.ownBlock = some b → b ∉ S) : RfS w' B g v bs e :=
  ⟨h.bk.kb hb hg, let ⟨A, c, e1, h1, h2, r⟩ := h.form; ⟨A, c, e1, h1, h2, r.kb hb (fun b o e => hr b (by rw [e1, e]; rfl))⟩, h.low, fun b hv => ⟨(h.row b hv).1, Nat.lt_of_lt_of_le (h.row b hv).2.1 hb.size, (h.row b hv).2.2⟩⟩
theorem AllY.ite {p : Prop} [Decidable p] {bs : List Int} (h : AllY bs) (n : Nat) : AllY (if p then bs.drop n else bs) := by split; exact h.drop n; exact h
theorem len_ite {p : Prop} [Decidable p] (bs : List Int) (n : Nat) : (if p then bs.drop n else bs).length ≤ bs.length := by
  split
  · rw [List.length_drop]; omega
  · exact Nat.le_refl _
theorem ne_of_lt_some {v : Value} {g Z : Nat} (h : ∀ b, v.ownBlock = some b → Z ≤ b) (hg : g < Z) : v.ownBlock ≠ some g := fun e => by have := h g e; omega
set_option maxHeartbeats 4000000 in
theorem law08_PackReads (A : Option Addr) (n c : Nat) (bs : List Int) (A2 : Option Addr) (m c2 : Nat) (ds : List DoV) (w : World) (hb : Rd w .u8 A bs) (hbn : n = bs.length) (hbm : n ≤ 140737488351232) (hY : AllY bs) (ha : RdDo w A2 ds) (hn : m = ds.length) (hm : m ≤ 140737488351232) :
    Gives Try.prog 10 #[.slice A n c, .slice A2 m c2] w fun v w' => v = .bool true ∧ Below w.heap.size w w' := by
  refine gives_enter Try.call10 Try.func10 rfl rfl rfl (by kernel_rfl) ?_
  refine v_seq ?_
  refine v_region ?_
  refine vl_val (os_assign rfl) ?_
  refine vl_nil ?_
  refine v_seq ?_
  refine v_seq ?_
  refine v_region ?_
  refine vl_val (os_move rfl) ?_
  refine vl_val (os_len Try.underlying22 rfl) ?_
  refine vl_val (os_move rfl) ?_
  refine vl_val (os_len Try.underlying49 rfl) ?_
  refine vl_val (os_addi rfl rfl (by omega)) ?_
  refine vl_val (os_gtr rfl rfl) ?_
  refine vl_nil ?_
  refine v_cond_d rfl (fun hbig => ?_) (fun hbig => ?_)
  · refine v_seq ?_
    refine v_region ?_
    refine vl_call (law08_awake w) rfl ?_
    rintro v1 w1 ⟨rfl, b1⟩
    refine vl_val (os_assign rfl) ?_
    refine vl_nil ?_
    refine v_ret ?_
    exact post_ret rfl rfl (⟨rfl, b1⟩)
  · refine v_skip ?_
    refine v_seq ?_
    refine v_region ?_
    refine vl_val (os_move rfl) ?_
    refine vl_call (kit_LentBytes A n c bs w hb hbn (by omega)) rfl ?_
    rintro u1 w1 ⟨hL, b1⟩
    obtain ⟨gi, Ci, rfl, hCi, hMi, hgi, hgi', rdi⟩ := hL.form
    refine vl_val (os_assign rfl) ?_
    refine vl_nil ?_
    refine v_seq ?_
    refine v_region ?_
    refine vl_val (os_move rfl) ?_
    refine vl_call (pk_Over (some ⟨gi, 0, none⟩) _ Ci bs w1 rdi rfl (by omega)) rfl ?_
    rintro u2 w2 ⟨g, v2, rfl, h2, b2⟩
    have b12 := b1.trans (b2.mono b1.size)
    refine vl_val (os_move rfl) ?_
    refine vl_call (rf_Over A n c bs w2 (hb.keep b12) hbn hbm) rfl ?_
    rintro u3 w3 ⟨g2, v3, rfl, h3, b3⟩
    have b13 := b12.trans (b3.mono b12.size)
    have hL3 := (hL.keep b2).keep b3
    have h23 := h2.keep b3
    refine vl_val (os_assign rfl) ?_
    refine vl_val (os_assign rfl) ?_
    refine vl_nil ?_
    refine v_seq ?_
    refine v_seq ?_
    refine v_region ?_
    refine vl_val (os_move rfl) ?_
    refine vl_val (os_move rfl) ?_
    refine vl_call (kit_KeptBytes _ _ A n c bs w3 hL3 (hb.keep b13) hbn (by omega)) rfl ?_
    rintro v4 w4 ⟨rfl, d4⟩
    have b14 := b13.trans ((led_below d4).mono b13.size)
    refine vl_val (os_not rfl) ?_
    refine vl_nil ?_
    refine v_cond_f rfl ?_
    refine v_skip ?_
    refine v_seq ?_
    refine v_region ?_
    refine vl_val (os_move rfl) ?_
    refine vl_call (kit_OverBytes _ _ _ w4 (hL3.keep (led_below d4)).own (by rw [List.length_map]; omega)) rfl ?_
    rintro v5 w5 k5
    have k5' : Kb [gi] w4 w5 := k5
    have hgl := h2.low
    have hg2l := h3.low
    have hglt := h2.bk.lt
    have hb2s := b2.size
    have h25 := (h23.keep (led_below d4)).kb k5' (by simp; omega) (fun b hbb => by have := (h2.row b hbb).1; simp; omega)
    have h35 := (h3.keep (led_below d4)).kb k5' (by simp; omega) (fun b hbb => by have := (h3.row b hbb).1; simp; omega)
    have b15 := k5'.below b14 (by simp; omega) b14.size
    have h35 : RfS w5 w1.heap.size g2 v3 bs 0 := ⟨h35.bk, h35.form, by omega, fun b hbb => ⟨by have := (h35.row b hbb).1; omega, (h35.row b hbb).2⟩⟩
    have hne : g ≠ g2 := by omega
    have hv2 : v2.ownBlock ≠ some g2 := fun e => by have := (h2.row g2 e).2.1; omega
    have hv3 : v3.ownBlock ≠ some g := fun e => by have := (h3.row g e).1; omega
    refine vl_nil ?_
    refine v_seq ?_
    refine v_seq ?_
    refine v_region ?_
    refine vl_val (os_assign rfl) ?_
    refine vl_nil ?_
    refine v_block ?_
    refine v_loop [(1, _), (6, _), (7, _)] (fun (i : Nat) => [(8, .int .i64 i)]) (fun i w' => i ≤ m ∧ Below w.heap.size w w' ∧ ∃ v' u' bs' e', RrS w' w1.heap.size g v' bs' e' ∧ RfS w' w1.heap.size g2 u' bs' e' ∧ AllY bs' ∧ bs'.length ≤ 2000 ∧ v'.ownBlock ≠ some g2 ∧ u'.ownBlock ≠ some g) (fun i => m - i) (0) ⟨rfl, rfl, rfl, trivial⟩ ⟨rfl, trivial⟩ (⟨by omega, b15, v2, v3, bs, 0, h25, h35, hY, by omega, hv2, hv3⟩) ?_
    rintro i w' ⟨hi, bw, v', u', bs', e', hr, hf, hy, hl, hv, hu⟩
    refine v_seq ?_
    refine v_seq ?_
    refine v_region ?_
    refine vl_val (os_move rfl) ?_
    refine vl_val (os_move rfl) ?_
    refine vl_val (os_len Try.underlying49 rfl) ?_
    refine vl_val (os_lss rfl rfl) ?_
    refine vl_nil ?_
    refine v_cond_d rfl (fun hlt => ?_) (fun hlt => ?_)
    · have hd : ds[i]? = some ds[i] := List.getElem?_eq_getElem (by omega)
      obtain ⟨b, o, rfl, hc, hk⟩ := (ha.keep bw).at_ hd
      refine v_skip ?_
      refine v_seq ?_
      refine v_block ?_
      refine v_seq ?_
      refine v_seq ?_
      refine v_region ?_
      refine vl_val (os_move rfl) ?_
      refine vl_val (os_move rfl) ?_
      refine vl_val (os_ixs Try.underlying49 Try.sizeOf58 rfl rfl (i := i) (by omega) (by omega)) ?_
      refine vl_val (os_fa (o := 0) (k := 0) (by kernel_rfl) rfl) ?_
      refine vl_val (os_load Try.isAgg3 rfl (hc.c4.1)) ?_
      refine vl_call (kit_Pick ds[i].what 2 _ (by omega)) rfl ?_
      rintro v6 w' ⟨rfl, rfl⟩
      refine vl_val (os_eql rfl rfl) ?_
      refine vl_nil ?_
      refine v_cond_d rfl (fun hpk => ?_) (fun hpk => ?_)
      · refine v_seq ?_
        refine v_region_a mixed ?_
        refine va_pure 0 rfl (by kernel_rfl) (by kernel_rfl) (by kernel_rfl) (fun w => (os_move rfl)) ?_
        refine va_pure 1 rfl (by kernel_rfl) (by kernel_rfl) (by kernel_rfl) (fun w => (os_move rfl)) ?_
        refine va_pure 2 rfl (by kernel_rfl) (by kernel_rfl) (by kernel_rfl) (fun w => (os_move rfl)) ?_
        refine va_pure 3 rfl (by kernel_rfl) (by kernel_rfl) (by kernel_rfl) (fun w => (os_ixs Try.underlying49 Try.sizeOf58 rfl rfl (i := i) (by omega) (by omega))) ?_
        refine va_pure 4 rfl (by kernel_rfl) (by kernel_rfl) (by kernel_rfl) (fun w => (os_fa (o := 2) (k := 0) (by kernel_rfl) rfl)) ?_
        refine va_pure 7 rfl (by kernel_rfl) (by kernel_rfl) (by kernel_rfl) (fun w => (os_move rfl)) ?_
        refine va_pure 8 rfl (by kernel_rfl) (by kernel_rfl) (by kernel_rfl) (fun w => (os_move rfl)) ?_
        refine va_pure 9 rfl (by kernel_rfl) (by kernel_rfl) (by kernel_rfl) (fun w => (os_move rfl)) ?_
        refine va_pure 10 rfl (by kernel_rfl) (by kernel_rfl) (by kernel_rfl) (fun w => (os_ixs Try.underlying49 Try.sizeOf58 rfl rfl (i := i) (by omega) (by omega))) ?_
        refine va_pure 11 rfl (by kernel_rfl) (by kernel_rfl) (by kernel_rfl) (fun w => (os_fa (o := 2) (k := 0) (by kernel_rfl) rfl)) ?_
        refine va_two 5 12 (by kernel_rfl) ?_ ?_
        · refine vn_val rfl (os_load Try.isAgg3 rfl ((hc.led ⟨1, rfl⟩).c4.2.2.1)) ?_
          refine va_two 6 12 (by kernel_rfl) ?_ ?_
          · refine vn_call rfl (pk_RNumber g v' bs' e' ds[i].size w1.heap.size _ (hr.keep (led_below ⟨1, rfl⟩)) (by have := bw.size; have := b1.size; have := hr.low; have := hr.bk.lt; simp; omega) (by omega) hy) rfl ?_
            rintro u7 w7 ⟨v7, rfl, h7, k7, e7⟩
            have kk7 : Kb [g] w' w7 := (Kb.led ⟨1, rfl⟩).trans k7 (fun k hk => .inl hk)
            have hf7 := hf.kb kk7 (by simp; omega) (fun b hbb hb2 => hu (by rw [hbb, List.mem_singleton.1 hb2]))
            have bw7 : Below w.heap.size w w7 := kk7.below bw (fun k hk => by have := hr.low; have := b1.size; simp at hk; omega) bw.size
            obtain ⟨_, _, e8, hc7, hk7⟩ := (ha.keep bw7).at_ hd
            cases e8
            refine va_one 12 (by kernel_rfl) ?_
            refine vn_val rfl (os_load Try.isAgg3 rfl (by first | exact hc7.c4.2.2.1 | exact (hc.led ⟨1, rfl⟩).c4.2.2.1)) ?_
            refine va_one 13 (by kernel_rfl) ?_
            refine vn_call rfl (rf_RNumber g2 u' bs' e' ds[i].size w1.heap.size w7 hf7 (by have := hf7.low; have := hf7.bk.lt; omega) (by omega) hy) rfl ?_
            rintro u8 w8 ⟨v8, rfl, h8, k8, e8⟩
            have h78 := h7.kb k8 (by simp; omega) (fun b hbb hb2 => hv (by rw [← e7, hbb, List.mem_singleton.1 hb2]))
            have bw8 : Below w.heap.size w w8 := k8.below bw7 (fun k hk => by have := hf.low; have := b1.size; simp at hk; omega) bw7.size
            refine va_pure 14 rfl (by kernel_rfl) (by kernel_rfl) (by kernel_rfl) (fun w => (os_neq rfl rfl)) ?_
            refine va_done (by kernel_rfl) ?_
            refine v_cond_no rfl (by simp) ?_
            refine v_skip ?_
            refine v_seq ?_
            refine v_region ?_
            refine vl_val (os_move rfl) ?_
            refine vl_call (pk_Left g v7 _ _ _ w8 h78) rfl ?_
            rintro u9 w8 ⟨rfl, rfl⟩
            refine vl_val (os_move rfl) ?_
            refine vl_call (rf_Left g2 v8 _ _ _ w8 h8) rfl ?_
            rintro u10 w8 ⟨rfl, rfl⟩
            refine vl_val (os_f (os_neq rfl rfl) (by simp)) ?_
            refine vl_val (os_move rfl) ?_
            refine vl_valg rfl (os_move rfl) ?_
            refine vl_callg rfl (pk_End g v7 _ _ _ w8 h78) rfl ?_
            rintro u9 w8 ⟨rfl, rfl⟩
            refine vl_valg rfl (os_move rfl) ?_
            refine vl_callg rfl (rf_End g2 v8 _ _ _ w8 h8) rfl ?_
            rintro u10 w8 ⟨rfl, rfl⟩
            refine vl_valg rfl (os_neq rfl rfl) ?_
            refine vl_val (os_pick_f rfl rfl) ?_
            refine vl_nil ?_
            refine v_cond_no rfl (by simp) ?_
            refine v_skip ?_
            refine v_region ?_
            refine vl_val (os_move rfl) ?_
            refine vl_val (os_addi rfl rfl (by omega)) ?_
            refine vl_val (os_assign rfl) ?_
            refine vl_nil ?_
            exact ⟨i + 1, ⟨rfl, rfl, rfl, trivial⟩, ⟨rfl, trivial⟩, ⟨by omega, bw8, v7, v8, _, _, h78, h8, hy.ite _, Nat.le_trans (len_ite _ _) hl, by rw [e7]; exact hv, by rw [e8]; exact hu⟩, by dsimp only; omega⟩
          · refine vn_val rfl (os_load Try.isAgg3 rfl (by first | exact hc7.c4.2.2.1 | exact (hc.led ⟨1, rfl⟩).c4.2.2.1)) ?_
            refine va_one 6 (by kernel_rfl) ?_
            refine vn_call rfl (pk_RNumber g v' bs' e' ds[i].size w1.heap.size _ (hr.keep (led_below ⟨1, rfl⟩)) (by have := bw.size; have := b1.size; have := hr.low; have := hr.bk.lt; simp; omega) (by omega) hy) rfl ?_
            rintro u7 w7 ⟨v7, rfl, h7, k7, e7⟩
            have kk7 : Kb [g] w' w7 := (Kb.led ⟨1, rfl⟩).trans k7 (fun k hk => .inl hk)
            have hf7 := hf.kb kk7 (by simp; omega) (fun b hbb hb2 => hu (by rw [hbb, List.mem_singleton.1 hb2]))
            have bw7 : Below w.heap.size w w7 := kk7.below bw (fun k hk => by have := hr.low; have := b1.size; simp at hk; omega) bw.size
            obtain ⟨_, _, e8, hc7, hk7⟩ := (ha.keep bw7).at_ hd
            cases e8
            refine va_one 13 (by kernel_rfl) ?_
            refine vn_call rfl (rf_RNumber g2 u' bs' e' ds[i].size w1.heap.size w7 hf7 (by have := hf7.low; have := hf7.bk.lt; omega) (by omega) hy) rfl ?_
            rintro u8 w8 ⟨v8, rfl, h8, k8, e8⟩
            have h78 := h7.kb k8 (by simp; omega) (fun b hbb hb2 => hv (by rw [← e7, hbb, List.mem_singleton.1 hb2]))
            have bw8 : Below w.heap.size w w8 := k8.below bw7 (fun k hk => by have := hf.low; have := b1.size; simp at hk; omega) bw7.size
            refine va_pure 14 rfl (by kernel_rfl) (by kernel_rfl) (by kernel_rfl) (fun w => (os_neq rfl rfl)) ?_
            refine va_done (by kernel_rfl) ?_
            refine v_cond_no rfl (by simp) ?_
            refine v_skip ?_
            refine v_seq ?_
            refine v_region ?_
            refine vl_val (os_move rfl) ?_
            refine vl_call (pk_Left g v7 _ _ _ w8 h78) rfl ?_
            rintro u9 w8 ⟨rfl, rfl⟩
            refine vl_val (os_move rfl) ?_
            refine vl_call (rf_Left g2 v8 _ _ _ w8 h8) rfl ?_
            rintro u10 w8 ⟨rfl, rfl⟩
            refine vl_val (os_f (os_neq rfl rfl) (by simp)) ?_
            refine vl_val (os_move rfl) ?_
            refine vl_valg rfl (os_move rfl) ?_
            refine vl_callg rfl (pk_End g v7 _ _ _ w8 h78) rfl ?_
            rintro u9 w8 ⟨rfl, rfl⟩
            refine vl_valg rfl (os_move rfl) ?_
            refine vl_callg rfl (rf_End g2 v8 _ _ _ w8 h8) rfl ?_
            rintro u10 w8 ⟨rfl, rfl⟩
            refine vl_valg rfl (os_neq rfl rfl) ?_
            refine vl_val (os_pick_f rfl rfl) ?_
            refine vl_nil ?_
            refine v_cond_no rfl (by simp) ?_
            refine v_skip ?_
            refine v_region ?_
            refine vl_val (os_move rfl) ?_
            refine vl_val (os_addi rfl rfl (by omega)) ?_
            refine vl_val (os_assign rfl) ?_
            refine vl_nil ?_
            exact ⟨i + 1, ⟨rfl, rfl, rfl, trivial⟩, ⟨rfl, trivial⟩, ⟨by omega, bw8, v7, v8, _, _, h78, h8, hy.ite _, Nat.le_trans (len_ite _ _) hl, by rw [e7]; exact hv, by rw [e8]; exact hu⟩, by dsimp only; omega⟩
        · refine vn_val rfl (os_load Try.isAgg3 rfl (by first | exact hc7.c4.2.2.1 | exact (hc.led ⟨1, rfl⟩).c4.2.2.1)) ?_
          refine va_one 5 (by kernel_rfl) ?_
          refine vn_val rfl (os_load Try.isAgg3 rfl ((hc.led ⟨1, rfl⟩).c4.2.2.1)) ?_
          refine va_one 6 (by kernel_rfl) ?_
          refine vn_call rfl (pk_RNumber g v' bs' e' ds[i].size w1.heap.size _ (hr.keep (led_below ⟨1, rfl⟩)) (by have := bw.size; have := b1.size; have := hr.low; have := hr.bk.lt; simp; omega) (by omega) hy) rfl ?_
          rintro u7 w7 ⟨v7, rfl, h7, k7, e7⟩
          have kk7 : Kb [g] w' w7 := (Kb.led ⟨1, rfl⟩).trans k7 (fun k hk => .inl hk)
          have hf7 := hf.kb kk7 (by simp; omega) (fun b hbb hb2 => hu (by rw [hbb, List.mem_singleton.1 hb2]))
          have bw7 : Below w.heap.size w w7 := kk7.below bw (fun k hk => by have := hr.low; have := b1.size; simp at hk; omega) bw.size
          obtain ⟨_, _, e8, hc7, hk7⟩ := (ha.keep bw7).at_ hd
          cases e8
          refine va_one 13 (by kernel_rfl) ?_
          refine vn_call rfl (rf_RNumber g2 u' bs' e' ds[i].size w1.heap.size w7 hf7 (by have := hf7.low; have := hf7.bk.lt; omega) (by omega) hy) rfl ?_
          rintro u8 w8 ⟨v8, rfl, h8, k8, e8⟩
          have h78 := h7.kb k8 (by simp; omega) (fun b hbb hb2 => hv (by rw [← e7, hbb, List.mem_singleton.1 hb2]))
          have bw8 : Below w.heap.size w w8 := k8.below bw7 (fun k hk => by have := hf.low; have := b1.size; simp at hk; omega) bw7.size
          refine va_pure 14 rfl (by kernel_rfl) (by kernel_rfl) (by kernel_rfl) (fun w => (os_neq rfl rfl)) ?_
          refine va_done (by kernel_rfl) ?_
          refine v_cond_no rfl (by simp) ?_
          refine v_skip ?_
          refine v_seq ?_
          refine v_region ?_
          refine vl_val (os_move rfl) ?_
          refine vl_call (pk_Left g v7 _ _ _ w8 h78) rfl ?_
          rintro u9 w8 ⟨rfl, rfl⟩
          refine vl_val (os_move rfl) ?_
          refine vl_call (rf_Left g2 v8 _ _ _ w8 h8) rfl ?_
          rintro u10 w8 ⟨rfl, rfl⟩
          refine vl_val (os_f (os_neq rfl rfl) (by simp)) ?_
          refine vl_val (os_move rfl) ?_
          refine vl_valg rfl (os_move rfl) ?_
          refine vl_callg rfl (pk_End g v7 _ _ _ w8 h78) rfl ?_
          rintro u9 w8 ⟨rfl, rfl⟩
          refine vl_valg rfl (os_move rfl) ?_
          refine vl_callg rfl (rf_End g2 v8 _ _ _ w8 h8) rfl ?_
          rintro u10 w8 ⟨rfl, rfl⟩
          refine vl_valg rfl (os_neq rfl rfl) ?_
          refine vl_val (os_pick_f rfl rfl) ?_
          refine vl_nil ?_
          refine v_cond_no rfl (by simp) ?_
          refine v_skip ?_
          refine v_region ?_
          refine vl_val (os_move rfl) ?_
          refine vl_val (os_addi rfl rfl (by omega)) ?_
          refine vl_val (os_assign rfl) ?_
          refine vl_nil ?_
          exact ⟨i + 1, ⟨rfl, rfl, rfl, trivial⟩, ⟨rfl, trivial⟩, ⟨by omega, bw8, v7, v8, _, _, h78, h8, hy.ite _, Nat.le_trans (len_ite _ _) hl, by rw [e7]; exact hv, by rw [e8]; exact hu⟩, by dsimp only; omega⟩
      · refine v_seq ?_
        refine v_region_a mixed ?_
        refine va_pure 0 rfl (by kernel_rfl) (by kernel_rfl) (by kernel_rfl) (fun w => (os_move rfl)) ?_
        refine va_pure 1 rfl (by kernel_rfl) (by kernel_rfl) (by kernel_rfl) (fun w => (os_move rfl)) ?_
        refine va_pure 2 rfl (by kernel_rfl) (by kernel_rfl) (by kernel_rfl) (fun w => (os_move rfl)) ?_
        refine va_pure 3 rfl (by kernel_rfl) (by kernel_rfl) (by kernel_rfl) (fun w => (os_ixs Try.underlying49 Try.sizeOf58 rfl rfl (i := i) (by omega) (by omega))) ?_
        refine va_pure 4 rfl (by kernel_rfl) (by kernel_rfl) (by kernel_rfl) (fun w => (os_fa (o := 1) (k := 0) (by kernel_rfl) rfl)) ?_
        refine va_pure 7 rfl (by kernel_rfl) (by kernel_rfl) (by kernel_rfl) (fun w => (os_move rfl)) ?_
        refine va_pure 8 rfl (by kernel_rfl) (by kernel_rfl) (by kernel_rfl) (fun w => (os_move rfl)) ?_
        refine va_pure 9 rfl (by kernel_rfl) (by kernel_rfl) (by kernel_rfl) (fun w => (os_move rfl)) ?_
        refine va_pure 10 rfl (by kernel_rfl) (by kernel_rfl) (by kernel_rfl) (fun w => (os_ixs Try.underlying49 Try.sizeOf58 rfl rfl (i := i) (by omega) (by omega))) ?_
        refine va_pure 11 rfl (by kernel_rfl) (by kernel_rfl) (by kernel_rfl) (fun w => (os_fa (o := 1) (k := 0) (by kernel_rfl) rfl)) ?_
        refine va_two 5 12 (by kernel_rfl) ?_ ?_
        · refine vn_val rfl (os_load Try.isAgg3 rfl ((hc.led ⟨1, rfl⟩).c4.2.1)) ?_
          refine va_two 6 12 (by kernel_rfl) ?_ ?_
          · refine vn_call rfl (pk_Take g v' bs' e' ds[i].n w1.heap.size _ (hr.keep (led_below ⟨1, rfl⟩)) (by have := bw.size; have := b1.size; have := hr.low; have := hr.bk.lt; simp; omega) (by omega)) rfl ?_
            rintro u7 w7 ⟨v7, o7, h7, k7, e7⟩
            have kk7 : Kb [g] w' w7 := (Kb.led ⟨1, rfl⟩).trans k7 (fun k hk => .inl hk)
            have hf7 := hf.kb kk7 (by simp; omega) (fun b hbb hb2 => hu (by rw [hbb, List.mem_singleton.1 hb2]))
            have bw7 : Below w.heap.size w w7 := kk7.below bw (fun k hk => by have := hr.low; have := b1.size; simp at hk; omega) bw.size
            obtain ⟨_, _, e8, hc7, hk7⟩ := (ha.keep bw7).at_ hd
            cases e8
            refine va_one 12 (by kernel_rfl) ?_
            refine vn_val rfl (os_load Try.isAgg3 rfl (by first | exact hc7.c4.2.1 | exact (hc.led ⟨1, rfl⟩).c4.2.1)) ?_
            refine va_one 13 (by kernel_rfl) ?_
            refine vn_call rfl (rf_RTake g2 u' bs' e' ds[i].n w1.heap.size w7 hf7 (by have := hf7.low; have := hf7.bk.lt; omega) (by omega)) rfl ?_
            rintro u8 w8 ⟨v8, o8, h8, k8, e8⟩
            have h78 := h7.kb k8 (by simp; omega) (fun b hbb hb2 => hv (by rw [← e7, hbb, List.mem_singleton.1 hb2]))
            have bw8 : Below w.heap.size w w8 := k8.below bw7 (fun k hk => by have := hf.low; have := b1.size; simp at hk; omega) bw7.size
            have o78 := Own.kb o7 k8 (fun x hx hx2 => by have h1 := (World.ownsRow.lt o7 x hx).1; have h2 := hf.bk.lt; rw [List.mem_singleton.1 hx2] at h1; simp at h1; omega)
            obtain ⟨Aa, ca, rfl, _, _, ra, _⟩ := OwnK.form o78
            obtain ⟨Ab, cb, rfl, _, _, rb, _⟩ := OwnK.form o8
            have hle : (if takeOk e' ds[i].n bs' then bs'.take ds[i].n.toNat else []).length ≤ 2000 := by split; (rw [List.length_take]; omega); simp
            refine va_pure 14 rfl (by kernel_rfl) (by kernel_rfl) (by kernel_rfl) (fun w => (os_assign rfl)) ?_
            refine va_pure 15 rfl (by kernel_rfl) (by kernel_rfl) (by kernel_rfl) (fun w => (os_assign rfl)) ?_
            refine va_done (by kernel_rfl) ?_
            refine v_seq ?_
            refine v_seq ?_
            refine v_region ?_
            refine vl_val (os_move rfl) ?_
            refine vl_val (os_move rfl) ?_
            refine vl_call ((kit_SameBytes Aa Ab _ _ ca cb _ _ w8 ra rb rfl rfl (by omega) (by omega)).mono fun v w' hh => (⟨by rw [hh.1, decide_eq_true rfl], hh.2⟩ : v = .bool true ∧ LeD w8 w')) rfl ?_
            rintro v9 w9 ⟨rfl, d9⟩
            have o79 := Own.led o78 d9
            refine vl_val (os_not rfl) ?_
            refine vl_nil ?_
            refine v_cond_f rfl ?_
            refine v_skip ?_
            refine v_region ?_
            refine vl_val (os_move rfl) ?_
            refine vl_call (kit_OverBytes _ _ _ w9 o79 (by rw [List.length_map]; omega)) rfl ?_
            rintro v10 w10 k10
            have hS10 : ∀ k ∈ (Value.slice Aa (if takeOk e' ds[i].n bs' then bs'.take ds[i].n.toNat else []).length ca).ownBlock.toList, w'.heap.size ≤ k := fun k hk => by have := (World.ownsRow.lt o79 k (by simpa using hk)).1; simpa using this
            have bw9 := bw8.trans ((led_below d9).mono bw8.size)
            have h10 := (h78.keep (led_below d9)).kb k10 (fun hh => by have := hS10 _ hh; have := hr.bk.lt; omega) (fun b hbb hb2 => by have h1 := hS10 _ hb2; rw [e7] at hbb; have h2 := (hr.row b hbb).2.1; omega)
            have hf10 := (h8.keep (led_below d9)).kb k10 (fun hh => by have := hS10 _ hh; have := hf.bk.lt; omega) (fun b hbb hb2 => by have h1 := hS10 _ hb2; rw [e8] at hbb; have h2 := (hf.row b hbb).2.1; omega)
            have bw10 := k10.below bw9 (fun k hk => by have := hS10 _ hk; have := bw.size; omega) bw9.size
            refine vl_nil ?_
            refine v_seq ?_
            refine v_region ?_
            refine vl_val (os_move rfl) ?_
            refine vl_call (pk_Left g v7 _ _ _ w10 h10) rfl ?_
            rintro u9 w10 ⟨rfl, rfl⟩
            refine vl_val (os_move rfl) ?_
            refine vl_call (rf_Left g2 v8 _ _ _ w10 hf10) rfl ?_
            rintro u10 w10 ⟨rfl, rfl⟩
            refine vl_val (os_f (os_neq rfl rfl) (by simp)) ?_
            refine vl_val (os_move rfl) ?_
            refine vl_valg rfl (os_move rfl) ?_
            refine vl_callg rfl (pk_End g v7 _ _ _ w10 h10) rfl ?_
            rintro u9 w10 ⟨rfl, rfl⟩
            refine vl_valg rfl (os_move rfl) ?_
            refine vl_callg rfl (rf_End g2 v8 _ _ _ w10 hf10) rfl ?_
            rintro u10 w10 ⟨rfl, rfl⟩
            refine vl_valg rfl (os_neq rfl rfl) ?_
            refine vl_val (os_pick_f rfl rfl) ?_
            refine vl_nil ?_
            refine v_cond_no rfl (by simp) ?_
            refine v_skip ?_
            refine v_region ?_
            refine vl_val (os_move rfl) ?_
            refine vl_val (os_addi rfl rfl (by omega)) ?_
            refine vl_val (os_assign rfl) ?_
            refine vl_nil ?_
            exact ⟨i + 1, ⟨rfl, rfl, rfl, trivial⟩, ⟨rfl, trivial⟩, ⟨by omega, bw10, v7, v8, _, _, h10, hf10, hy.ite _, Nat.le_trans (len_ite _ _) hl, by rw [e7]; exact hv, by rw [e8]; exact hu⟩, by dsimp only; omega⟩
          · refine vn_val rfl (os_load Try.isAgg3 rfl (by first | exact hc7.c4.2.1 | exact (hc.led ⟨1, rfl⟩).c4.2.1)) ?_
            refine va_one 6 (by kernel_rfl) ?_
            refine vn_call rfl (pk_Take g v' bs' e' ds[i].n w1.heap.size _ (hr.keep (led_below ⟨1, rfl⟩)) (by have := bw.size; have := b1.size; have := hr.low; have := hr.bk.lt; simp; omega) (by omega)) rfl ?_
            rintro u7 w7 ⟨v7, o7, h7, k7, e7⟩
            have kk7 : Kb [g] w' w7 := (Kb.led ⟨1, rfl⟩).trans k7 (fun k hk => .inl hk)
            have hf7 := hf.kb kk7 (by simp; omega) (fun b hbb hb2 => hu (by rw [hbb, List.mem_singleton.1 hb2]))
            have bw7 : Below w.heap.size w w7 := kk7.below bw (fun k hk => by have := hr.low; have := b1.size; simp at hk; omega) bw.size
            obtain ⟨_, _, e8, hc7, hk7⟩ := (ha.keep bw7).at_ hd
            cases e8
            refine va_one 13 (by kernel_rfl) ?_
            refine vn_call rfl (rf_RTake g2 u' bs' e' ds[i].n w1.heap.size w7 hf7 (by have := hf7.low; have := hf7.bk.lt; omega) (by omega)) rfl ?_
            rintro u8 w8 ⟨v8, o8, h8, k8, e8⟩
            have h78 := h7.kb k8 (by simp; omega) (fun b hbb hb2 => hv (by rw [← e7, hbb, List.mem_singleton.1 hb2]))
            have bw8 : Below w.heap.size w w8 := k8.below bw7 (fun k hk => by have := hf.low; have := b1.size; simp at hk; omega) bw7.size
            have o78 := Own.kb o7 k8 (fun x hx hx2 => by have h1 := (World.ownsRow.lt o7 x hx).1; have h2 := hf.bk.lt; rw [List.mem_singleton.1 hx2] at h1; simp at h1; omega)
            obtain ⟨Aa, ca, rfl, _, _, ra, _⟩ := OwnK.form o78
            obtain ⟨Ab, cb, rfl, _, _, rb, _⟩ := OwnK.form o8
            have hle : (if takeOk e' ds[i].n bs' then bs'.take ds[i].n.toNat else []).length ≤ 2000 := by split; (rw [List.length_take]; omega); simp
            refine va_pure 14 rfl (by kernel_rfl) (by kernel_rfl) (by kernel_rfl) (fun w => (os_assign rfl)) ?_
            refine va_pure 15 rfl (by kernel_rfl) (by kernel_rfl) (by kernel_rfl) (fun w => (os_assign rfl)) ?_
            refine va_done (by kernel_rfl) ?_
            refine v_seq ?_
            refine v_seq ?_
            refine v_region ?_
            refine vl_val (os_move rfl) ?_
            refine vl_val (os_move rfl) ?_
            refine vl_call ((kit_SameBytes Aa Ab _ _ ca cb _ _ w8 ra rb rfl rfl (by omega) (by omega)).mono fun v w' hh => (⟨by rw [hh.1, decide_eq_true rfl], hh.2⟩ : v = .bool true ∧ LeD w8 w')) rfl ?_
            rintro v9 w9 ⟨rfl, d9⟩
            have o79 := Own.led o78 d9
            refine vl_val (os_not rfl) ?_
            refine vl_nil ?_
            refine v_cond_f rfl ?_
            refine v_skip ?_
            refine v_region ?_
            refine vl_val (os_move rfl) ?_
            refine vl_call (kit_OverBytes _ _ _ w9 o79 (by rw [List.length_map]; omega)) rfl ?_
            rintro v10 w10 k10
            have hS10 : ∀ k ∈ (Value.slice Aa (if takeOk e' ds[i].n bs' then bs'.take ds[i].n.toNat else []).length ca).ownBlock.toList, w'.heap.size ≤ k := fun k hk => by have := (World.ownsRow.lt o79 k (by simpa using hk)).1; simpa using this
            have bw9 := bw8.trans ((led_below d9).mono bw8.size)
            have h10 := (h78.keep (led_below d9)).kb k10 (fun hh => by have := hS10 _ hh; have := hr.bk.lt; omega) (fun b hbb hb2 => by have h1 := hS10 _ hb2; rw [e7] at hbb; have h2 := (hr.row b hbb).2.1; omega)
            have hf10 := (h8.keep (led_below d9)).kb k10 (fun hh => by have := hS10 _ hh; have := hf.bk.lt; omega) (fun b hbb hb2 => by have h1 := hS10 _ hb2; rw [e8] at hbb; have h2 := (hf.row b hbb).2.1; omega)
            have bw10 := k10.below bw9 (fun k hk => by have := hS10 _ hk; have := bw.size; omega) bw9.size
            refine vl_nil ?_
            refine v_seq ?_
            refine v_region ?_
            refine vl_val (os_move rfl) ?_
            refine vl_call (pk_Left g v7 _ _ _ w10 h10) rfl ?_
            rintro u9 w10 ⟨rfl, rfl⟩
            refine vl_val (os_move rfl) ?_
            refine vl_call (rf_Left g2 v8 _ _ _ w10 hf10) rfl ?_
            rintro u10 w10 ⟨rfl, rfl⟩
            refine vl_val (os_f (os_neq rfl rfl) (by simp)) ?_
            refine vl_val (os_move rfl) ?_
            refine vl_valg rfl (os_move rfl) ?_
            refine vl_callg rfl (pk_End g v7 _ _ _ w10 h10) rfl ?_
            rintro u9 w10 ⟨rfl, rfl⟩
            refine vl_valg rfl (os_move rfl) ?_
            refine vl_callg rfl (rf_End g2 v8 _ _ _ w10 hf10) rfl ?_
            rintro u10 w10 ⟨rfl, rfl⟩
            refine vl_valg rfl (os_neq rfl rfl) ?_
            refine vl_val (os_pick_f rfl rfl) ?_
            refine vl_nil ?_
            refine v_cond_no rfl (by simp) ?_
            refine v_skip ?_
            refine v_region ?_
            refine vl_val (os_move rfl) ?_
            refine vl_val (os_addi rfl rfl (by omega)) ?_
            refine vl_val (os_assign rfl) ?_
            refine vl_nil ?_
            exact ⟨i + 1, ⟨rfl, rfl, rfl, trivial⟩, ⟨rfl, trivial⟩, ⟨by omega, bw10, v7, v8, _, _, h10, hf10, hy.ite _, Nat.le_trans (len_ite _ _) hl, by rw [e7]; exact hv, by rw [e8]; exact hu⟩, by dsimp only; omega⟩
        · refine vn_val rfl (os_load Try.isAgg3 rfl (by first | exact hc7.c4.2.1 | exact (hc.led ⟨1, rfl⟩).c4.2.1)) ?_
          refine va_one 5 (by kernel_rfl) ?_
          refine vn_val rfl (os_load Try.isAgg3 rfl ((hc.led ⟨1, rfl⟩).c4.2.1)) ?_
          refine va_one 6 (by kernel_rfl) ?_
          refine vn_call rfl (pk_Take g v' bs' e' ds[i].n w1.heap.size _ (hr.keep (led_below ⟨1, rfl⟩)) (by have := bw.size; have := b1.size; have := hr.low; have := hr.bk.lt; simp; omega) (by omega)) rfl ?_
          rintro u7 w7 ⟨v7, o7, h7, k7, e7⟩
          have kk7 : Kb [g] w' w7 := (Kb.led ⟨1, rfl⟩).trans k7 (fun k hk => .inl hk)
          have hf7 := hf.kb kk7 (by simp; omega) (fun b hbb hb2 => hu (by rw [hbb, List.mem_singleton.1 hb2]))
          have bw7 : Below w.heap.size w w7 := kk7.below bw (fun k hk => by have := hr.low; have := b1.size; simp at hk; omega) bw.size
          obtain ⟨_, _, e8, hc7, hk7⟩ := (ha.keep bw7).at_ hd
          cases e8
          refine va_one 13 (by kernel_rfl) ?_
          refine vn_call rfl (rf_RTake g2 u' bs' e' ds[i].n w1.heap.size w7 hf7 (by have := hf7.low; have := hf7.bk.lt; omega) (by omega)) rfl ?_
          rintro u8 w8 ⟨v8, o8, h8, k8, e8⟩
          have h78 := h7.kb k8 (by simp; omega) (fun b hbb hb2 => hv (by rw [← e7, hbb, List.mem_singleton.1 hb2]))
          have bw8 : Below w.heap.size w w8 := k8.below bw7 (fun k hk => by have := hf.low; have := b1.size; simp at hk; omega) bw7.size
          have o78 := Own.kb o7 k8 (fun x hx hx2 => by have h1 := (World.ownsRow.lt o7 x hx).1; have h2 := hf.bk.lt; rw [List.mem_singleton.1 hx2] at h1; simp at h1; omega)
          obtain ⟨Aa, ca, rfl, _, _, ra, _⟩ := OwnK.form o78
          obtain ⟨Ab, cb, rfl, _, _, rb, _⟩ := OwnK.form o8
          have hle : (if takeOk e' ds[i].n bs' then bs'.take ds[i].n.toNat else []).length ≤ 2000 := by split; (rw [List.length_take]; omega); simp
          refine va_pure 14 rfl (by kernel_rfl) (by kernel_rfl) (by kernel_rfl) (fun w => (os_assign rfl)) ?_
          refine va_pure 15 rfl (by kernel_rfl) (by kernel_rfl) (by kernel_rfl) (fun w => (os_assign rfl)) ?_
          refine va_done (by kernel_rfl) ?_
          refine v_seq ?_
          refine v_seq ?_
          refine v_region ?_
          refine vl_val (os_move rfl) ?_
          refine vl_val (os_move rfl) ?_
          refine vl_call ((kit_SameBytes Aa Ab _ _ ca cb _ _ w8 ra rb rfl rfl (by omega) (by omega)).mono fun v w' hh => (⟨by rw [hh.1, decide_eq_true rfl], hh.2⟩ : v = .bool true ∧ LeD w8 w')) rfl ?_
          rintro v9 w9 ⟨rfl, d9⟩
          have o79 := Own.led o78 d9
          refine vl_val (os_not rfl) ?_
          refine vl_nil ?_
          refine v_cond_f rfl ?_
          refine v_skip ?_
          refine v_region ?_
          refine vl_val (os_move rfl) ?_
          refine vl_call (kit_OverBytes _ _ _ w9 o79 (by rw [List.length_map]; omega)) rfl ?_
          rintro v10 w10 k10
          have hS10 : ∀ k ∈ (Value.slice Aa (if takeOk e' ds[i].n bs' then bs'.take ds[i].n.toNat else []).length ca).ownBlock.toList, w'.heap.size ≤ k := fun k hk => by have := (World.ownsRow.lt o79 k (by simpa using hk)).1; simpa using this
          have bw9 := bw8.trans ((led_below d9).mono bw8.size)
          have h10 := (h78.keep (led_below d9)).kb k10 (fun hh => by have := hS10 _ hh; have := hr.bk.lt; omega) (fun b hbb hb2 => by have h1 := hS10 _ hb2; rw [e7] at hbb; have h2 := (hr.row b hbb).2.1; omega)
          have hf10 := (h8.keep (led_below d9)).kb k10 (fun hh => by have := hS10 _ hh; have := hf.bk.lt; omega) (fun b hbb hb2 => by have h1 := hS10 _ hb2; rw [e8] at hbb; have h2 := (hf.row b hbb).2.1; omega)
          have bw10 := k10.below bw9 (fun k hk => by have := hS10 _ hk; have := bw.size; omega) bw9.size
          refine vl_nil ?_
          refine v_seq ?_
          refine v_region ?_
          refine vl_val (os_move rfl) ?_
          refine vl_call (pk_Left g v7 _ _ _ w10 h10) rfl ?_
          rintro u9 w10 ⟨rfl, rfl⟩
          refine vl_val (os_move rfl) ?_
          refine vl_call (rf_Left g2 v8 _ _ _ w10 hf10) rfl ?_
          rintro u10 w10 ⟨rfl, rfl⟩
          refine vl_val (os_f (os_neq rfl rfl) (by simp)) ?_
          refine vl_val (os_move rfl) ?_
          refine vl_valg rfl (os_move rfl) ?_
          refine vl_callg rfl (pk_End g v7 _ _ _ w10 h10) rfl ?_
          rintro u9 w10 ⟨rfl, rfl⟩
          refine vl_valg rfl (os_move rfl) ?_
          refine vl_callg rfl (rf_End g2 v8 _ _ _ w10 hf10) rfl ?_
          rintro u10 w10 ⟨rfl, rfl⟩
          refine vl_valg rfl (os_neq rfl rfl) ?_
          refine vl_val (os_pick_f rfl rfl) ?_
          refine vl_nil ?_
          refine v_cond_no rfl (by simp) ?_
          refine v_skip ?_
          refine v_region ?_
          refine vl_val (os_move rfl) ?_
          refine vl_val (os_addi rfl rfl (by omega)) ?_
          refine vl_val (os_assign rfl) ?_
          refine vl_nil ?_
          exact ⟨i + 1, ⟨rfl, rfl, rfl, trivial⟩, ⟨rfl, trivial⟩, ⟨by omega, bw10, v7, v8, _, _, h10, hf10, hy.ite _, Nat.le_trans (len_ite _ _) hl, by rw [e7]; exact hv, by rw [e8]; exact hu⟩, by dsimp only; omega⟩
    · refine v_exit ?_
      refine v_seq ?_
      refine v_region ?_
      refine vl_call (law08_awake w') rfl ?_
      rintro v1 w1 ⟨rfl, b1⟩
      refine vl_val (os_assign rfl) ?_
      refine vl_nil ?_
      refine v_ret ?_
      exact post_ret rfl rfl (⟨rfl, bw.trans (b1.mono bw.size)⟩)
end Go.Proofs.Ytpcfifheegfjiaa
