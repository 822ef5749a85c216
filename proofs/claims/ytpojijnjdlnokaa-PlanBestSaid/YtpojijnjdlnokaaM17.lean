/- Texts joined: PlT PlB PlX Vs PlS. -/
import Derived.Test.YtpojijnjdlnokaaM16
/- Layer 13: what the solver tells. -/
namespace Go.Proofs.Ytpojijnjdlnokaa
open Go.RowKit
set_option linter.unusedVariables false

/-- the tables that tell what was taken, from layer a0 on -/
def Tabs (w : World) (H : Nat) (q : TaskP) (n r : Nat) (ts : List Value) (a0 : Nat) : Prop := ∀ a, a0 ≤ a → a < q.lens.length → ∃ T2 ub cb, ts[a]? = some (.slice (some ⟨T2, 0, none⟩) (n + 2) (n + 2)) ∧ Tb w H 146 4 (.slice (some ⟨T2, 0, none⟩) (n + 2) (n + 2)) ub (n + 2) cb ∧ ∀ k, 1 ≤ k → k ≤ n → cb k = rowV (fun x => .bool (takP (FQ q n (q.lens.length - (a + 1)) a x) n k)) r
theorem Tabs.kb {w w' H q n r ts a0} (h : Tabs w H q n r ts a0) {S : List Nat} (hb : Kb S w w') (hS : ∀ b ∈ S, b < H) : Tabs w' H q n r ts a0 := fun a h1 h2 => by
  obtain ⟨T2, ub, cb, e, hT, hc⟩ := h a h1 h2
  exact ⟨T2, ub, cb, e, hT.kb hb (fun b hb hx => by have := (hT.lt hx).1; have := hS b hb; omega), hc⟩
theorem Tabs.keep {w w' H q n r ts a0} (h : Tabs w H q n r ts a0) (hb : Below w.heap.size w w') : Tabs w' H q n r ts a0 := h.kb (S := []) (Kb.of_below hb) (fun b hb => by cases hb)
theorem lysF_cons {q : TaskP} {L i : Nat} (h : i < L) : lysF q (L - i) i = lyQ q i :: lysF q (L - (i + 1)) (i + 1) := by
  rw [show L - i = (L - (i + 1)) + 1 by omega]; rfl
theorem lysF_o {q : TaskP} {n : Nat} (h : TaskR q n) : ∀ {m i : Nat}, m + i ≤ q.lens.length → ∀ l ∈ lysF q m i, ∀ k, k ≤ n → 0 ≤ l.o k
  | 0, i, _, l, hl, _, _ => by cases hl
  | m + 1, i, hm, l, hl, k, hk => by
    rcases List.mem_cons.1 hl with rfl | hl
    · exact (lyQ_o h (by omega) hk).1
    · exact lysF_o h (by omega) l hl k hk

set_option maxHeartbeats 4000000 in
theorem pn_told (d : TaskV) (q : TaskP) (n r g tg H : Nat) (sv : Value) (ts : List Value) (w : World) (hd : TaskOk w d q) (hR : TaskR q n) (hr : r ≤ 2000)
    (hb : Bk w g (solC d r sv (.slice (some ⟨tg, 0, none⟩) d.ll d.ll)) 142) (hto : RdC w (some ⟨tg, 0, none⟩) ts) (hTs : Tabs w H q n r ts 0) (hf : scP n (lysF q q.lens.length 0) 1 r ≠ -1) :
    Gives Try.prog 63 #[.pointer (some ⟨g, 0, none⟩)] w fun v w' => OwnK w' w.heap.size 3 .i64 v ((toldP n (lysF q q.lens.length 0) 1 r).map fun (x : Nat) => (x : Int)) ∧ Below w.heap.size w w' := by
  have hn1 := hR.n1
  have hn2 := hR.n2
  have hl8 := hR.l2
  have hll := hd.ll
  obtain ⟨L, hL⟩ : ∃ L, L = q.lens.length := ⟨_, rfl⟩
  obtain ⟨bL, oL, eL, -⟩ := hd.L.at_ (i := 0) (by have := hR.l1; omega)
  rw [← hL] at hf
  refine gives_enter Try.call63 Try.func63 rfl rfl rfl (by kernel_rfl) ?_
  refine v_seq ?_
  refine v_region ?_
  refine vl_val (os_assign rfl) ?_
  refine vl_nil ?_
  refine v_seq ?_
  refine v_region_t LeD _ mixed (by kernel_rfl) lee_d (led_start _) ?_
  refine vt_val (fun w hw => os_move rfl) ?_
  refine vt_val (fun w hw => os_nilCheck rfl) ?_
  refine vt_val (fun w hw => os_fa (o := 6) (k := 0) (by kernel_rfl) rfl) ?_
  refine vt_val (fun w hw => os_load Try.isAgg3 rfl (led_cell hw (hb.cell (i := 6) rfl))) ?_
  refine vt_val (fun w hw => os_assign rfl) ?_
  refine vt_val (fun w hw => os_assign rfl) ?_
  refine vt_nil (fun w hw => ?_)
  obtain ⟨q1, rfl⟩ := hw
  refine v_seq ?_
  refine v_seq ?_
  refine v_region ?_
  refine vl_val (os_move rfl) ?_
  refine vl_val (os_nilCheck rfl) ?_
  refine vl_val (os_fa (o := 0) (k := 5) (by kernel_rfl) rfl) ?_
  refine vl_val (os_fa (o := 3) (k := 0) (by kernel_rfl) rfl) ?_
  refine vl_val (os_load Try.isAgg40 rfl ((hb.cell (i := 3) (v := .slice (some ⟨bL, oL, none⟩) d.ll d.lc) (by rw [← eL]; rfl)))) ?_
  refine vl_val (os_len Try.underlying40 rfl) ?_
  refine vl_val (os_move rfl) ?_
  refine vl_nil ?_
  refine v_block ?_
  refine v_loop4 [(0, _), (17, _), (18, _)] (fun (v : Value) (k : Nat) (x : Nat) (i : Nat) => [(2, v), (3, .int .i64 k), (4, .int .i64 x), (19, .int .i64 i)]) (fun v k x i w' => i ≤ L ∧ 1 ≤ k ∧ x ≤ r ∧ scP n (lysF q (L - i) i) k x ≠ -1 ∧ (∃ out : List Nat, out.length = i ∧ OwnK w' w.heap.size 3 .i64 v (out.map fun (x : Nat) => (x : Int)) ∧ out ++ toldP n (lysF q (L - i) i) k x = toldP n (lysF q L 0) 1 r) ∧ Below w.heap.size w w') (fun v k x i => L - i) (.slice none 0 0) (1) (r) (0) ⟨rfl, rfl, rfl, trivial⟩ ⟨rfl, rfl, rfl, rfl, trivial⟩ (⟨by omega, by omega, by omega, hf, ⟨[], rfl, Own.nil _ _ _, rfl⟩, below_drewN_ (Below.refl _ _) q1⟩) ?_
  rintro v k x i w2 ⟨hi, hk, hx, hsc, ⟨out, hol, ho, htl⟩, hb2⟩
  refine v_seq ?_
  refine v_region ?_
  refine vl_val (os_lss rfl rfl) ?_
  refine vl_nil ?_
  refine v_seq ?_
  refine v_cond_d rfl (fun h => ?_) (fun h => ?_)
  · have hd2 := hd.keep hb2
    obtain ⟨bL2, oL2, eL2, cL⟩ := hd2.L.at_ (i := i) (by omega)
    rw [eL2] at eL
    cases eL
    refine v_skip ?_
    refine v_seq ?_
    refine v_block ?_
    refine v_seq ?_
    refine v_region ?_
    refine vl_val (os_move rfl) ?_
    refine vl_val (os_ix Try.underlying40 Try.sizeOf3 rfl rfl (i := i) (by omega) (by omega)) ?_
    refine vl_val (os_load Try.isAgg3 rfl (cL)) ?_
    rw [lysF_cons (by omega), scP] at hsc
    obtain ⟨a1, a2, a3, a4⟩ := argP_spec hk hsc
    obtain ⟨t1, t2⟩ := takP_arg hk hsc
    have htl2 : out ++ (argP (valP (lyQ q i) (scP n (lysF q (L - (i + 1)) (i + 1))) x) n k :: toldP n (lysF q (L - (i + 1)) (i + 1)) (argP (valP (lyQ q i) (scP n (lysF q (L - (i + 1)) (i + 1))) x) n k) (x - (lyQ q i).wd (argP (valP (lyQ q i) (scP n (lysF q (L - (i + 1)) (i + 1))) x) n k))) = toldP n (lysF q L 0) 1 r := by rw [← htl, lysF_cons (q := q) (L := L) (i := i) (by omega)]; rfl
    obtain ⟨J, hJ⟩ : ∃ J, J = argP (valP (lyQ q i) (scP n (lysF q (L - (i + 1)) (i + 1))) x) n k := ⟨_, rfl⟩
    rw [← hJ] at a1 a2 a3 a4 t1 t2 htl2
    have hval : (lyQ q i).wd J ≤ x ∧ scP n (lysF q (L - (i + 1)) (i + 1)) J (x - (lyQ q i).wd J) ≠ -1 := by
      apply Classical.byContradiction
      intro hh
      have : valP (lyQ q i) (scP n (lysF q (L - (i + 1)) (i + 1))) x J = -1 := by unfold valP; rw [if_neg hh]
      omega
    obtain ⟨T2, ub, cb, hts, hT, hcb⟩ := hTs i (by omega) (by omega)
    have hT2 := hT.keep hb2
    have hto2 := hto.keep hb2
    have hbb2 := hb.keep hb2
    refine vl_val (os_assign rfl) ?_
    refine vl_val (os_assign rfl) ?_
    refine vl_nil ?_
    refine v_seq ?_
    refine v_block ?_
    refine v_loop [(0, _), (2, _), (4, _), (5, _), (6, _), (17, _), (18, _), (19, _)] (fun (j : Nat) => [(3, .int .i64 j)]) (fun j w' => k ≤ j ∧ j ≤ J ∧ w' = w2) (fun j => J - j) (k) ⟨rfl, rfl, rfl, rfl, rfl, rfl, rfl, rfl, trivial⟩ ⟨rfl, trivial⟩ (⟨Nat.le_refl _, a1, rfl⟩) ?_
    rintro j w2 ⟨hj1, hj2, rfl⟩
    have hcj := hcb j (by omega) (by omega)
    obtain ⟨gj, cj, huj, -⟩ := hT2.row_at (k := j) (by omega) (by rw [hcj, rowV_len]; omega)
    rw [hcj, rowV_len] at huj
    have ctk := Own.get (hT2.each j _ (by omega) huj) (show (cb j)[x]? = _ by rw [hcj]; exact rowV_at hx)
    rcases (by omega : j < J ∨ J = j) with hlt | heq
    · have htf : takP (FQ q n (q.lens.length - (i + 1)) i x) n j = false := by rw [← hL]; exact t2 j hj1 hlt
      rw [htf] at ctk
      refine v_seq ?_
      refine v_seq ?_
      refine v_region ?_
      refine vl_val (os_move rfl) ?_
      refine vl_val (os_nilCheck rfl) ?_
      refine vl_val (os_fa (o := 8) (k := 0) (by kernel_rfl) rfl) ?_
      refine vl_val (os_load Try.isAgg140 rfl (hbb2.cell (i := 8) rfl)) ?_
      refine vl_val (os_move rfl) ?_
      refine vl_val (os_ix Try.underlying140 Try.sizeOf144 rfl rfl (i := i) (by omega) (by omega)) ?_
      refine vl_val (os_load Try.isAgg144 rfl (hto2.get hts)) ?_
      refine vl_val (os_move rfl) ?_
      refine vl_val (os_ix Try.underlying144 Try.sizeOf146 rfl rfl (i := j) (by omega) (by omega)) ?_
      refine vl_val (os_load Try.isAgg146 rfl (Own.get hT2.own huj)) ?_
      refine vl_val (os_move rfl) ?_
      refine vl_val (os_ix Try.underlying146 Try.sizeOf4 rfl rfl (i := x) (by omega) (by omega)) ?_
      refine vl_val (os_load Try.isAgg4 rfl (ctk)) ?_
      refine vl_val (os_not rfl) ?_
      refine vl_nil ?_
      refine v_cond_t rfl ?_
      refine v_skip ?_
      refine v_block ?_
      refine v_region ?_
      refine vl_val (os_move rfl) ?_
      refine vl_val (os_addi rfl rfl (by omega)) ?_
      refine vl_val (os_assign rfl) ?_
      refine vl_nil ?_
      exact ⟨j + 1, ⟨rfl, rfl, rfl, rfl, rfl, rfl, rfl, rfl, trivial⟩, ⟨rfl, trivial⟩, ⟨by omega, by omega, rfl⟩, by dsimp only; omega⟩
    · subst heq
      have htt : takP (FQ q n (q.lens.length - (i + 1)) i x) n J = true := by rw [← hL]; exact t1
      rw [htt] at ctk
      refine v_seq ?_
      refine v_seq ?_
      refine v_region ?_
      refine vl_val (os_move rfl) ?_
      refine vl_val (os_nilCheck rfl) ?_
      refine vl_val (os_fa (o := 8) (k := 0) (by kernel_rfl) rfl) ?_
      refine vl_val (os_load Try.isAgg140 rfl (hbb2.cell (i := 8) rfl)) ?_
      refine vl_val (os_move rfl) ?_
      refine vl_val (os_ix Try.underlying140 Try.sizeOf144 rfl rfl (i := i) (by omega) (by omega)) ?_
      refine vl_val (os_load Try.isAgg144 rfl (hto2.get hts)) ?_
      refine vl_val (os_move rfl) ?_
      refine vl_val (os_ix Try.underlying144 Try.sizeOf146 rfl rfl (i := J) (by omega) (by omega)) ?_
      refine vl_val (os_load Try.isAgg146 rfl (Own.get hT2.own huj)) ?_
      refine vl_val (os_move rfl) ?_
      refine vl_val (os_ix Try.underlying146 Try.sizeOf4 rfl rfl (i := x) (by omega) (by omega)) ?_
      refine vl_val (os_load Try.isAgg4 rfl (ctk)) ?_
      have hol2 : (out.map fun (x : Nat) => (x : Int)).length = i := by rw [List.length_map, hol]
      have hlenq := hR.len i (by omega)
      have hok : widthOk (q.lens.getD i 0) J = true := by simp only [widthOk, decide_eq_true_eq]; omega
      have hwb := width_bd hok
      obtain ⟨wd, hwd⟩ : ∃ wd : Nat, wd = (lyQ q i).wd J := ⟨_, rfl⟩
      have hwd' : (wd : Int) = widthW (q.lens.getD i 0) J := by rw [hwd]; show ((widthW (q.lens.getD i 0) J).toNat : Int) = _; omega
      have hwv : widthV (q.lens.getD i 0) J = (wd : Int) := by unfold widthV; rw [if_pos hok]; exact hwd'.symm
      rw [← hwd] at hval htl2
      refine vl_val (os_not rfl) ?_
      refine vl_nil ?_
      refine v_cond_f rfl ?_
      refine v_exit ?_
      refine v_seq ?_
      refine v_region ?_
      refine vl_val (os_move rfl) ?_
      refine vl_val (os_move rfl) ?_
      refine vl_val (os_lit Try.underlying40 Try.sizeOf3 Try.zeroValue3 rfl rfl rfl rfl (by decide)) ?_
      refine vl_some (ot_append Try.underlying40 ti_int rfl rfl rfl (Own.alloc ho (.cells [Value.int .i64 J].toArray 3)) (rdc_alloc w2 [Value.int .i64 J] _) rfl (by intro u hu; rw [List.mem_singleton.1 hu]; rfl) (by simp; omega) (by simp [maxLen]; omega) (by have := hb2.size; simp; omega)) ?_
      rintro v5 w5 ⟨ho5, hg5⟩
      have b5 := Own.below (hb2.alloc hb2.size (.cells [Value.int .i64 J].toArray 3)) (Own.alloc ho _) hg5 (Nat.le_refl _) (by have := hb2.size; simp; omega)
      refine vl_val (os_assign rfl) ?_
      refine vl_nil ?_
      refine v_seq ?_
      refine v_region ?_
      refine vl_val (os_move rfl) ?_
      refine vl_val (os_move rfl) ?_
      refine vl_call (strip_Width (q.lens.getD i 0) J w5 ⟨by omega, by omega⟩ ⟨by omega, by omega⟩) rfl ?_
      rintro v6 w5 ⟨rfl, rfl⟩
      rw [hwv]
      refine vl_val (os_move rfl) ?_
      refine vl_val (os_extract rfl rfl) ?_
      refine vl_val (os_extract rfl rfl) ?_
      refine vl_val (os_assign rfl) ?_
      refine vl_val (os_assign rfl) ?_
      refine vl_nil ?_
      refine v_region ?_
      refine vl_val (os_move rfl) ?_
      refine vl_val (os_move rfl) ?_
      refine vl_val (os_subi rfl rfl (by omega)) ?_
      refine vl_val (os_assign rfl) ?_
      refine vl_nil ?_
      refine v_region ?_
      refine vl_val (os_addi rfl rfl (by omega)) ?_
      refine vl_val (os_move rfl) ?_
      refine vl_nil ?_
      exact ⟨⟨v5, J, x - wd, i + 1⟩, ⟨rfl, rfl, rfl, trivial⟩, ⟨rfl, rfl, get_int rfl (by (try dsimp only); omega), rfl, trivial⟩, ⟨by (try dsimp only); omega, by (try dsimp only); omega, by (try dsimp only); omega, hval.2, ⟨out ++ [J], by simp [hol], by simpa [OwnK] using ho5, by rw [← htl2, List.append_assoc]; rfl⟩, b5⟩, by dsimp only; omega⟩
  · obtain rfl : L = i := by omega
    rw [Nat.sub_self] at htl
    have e : out = toldP n (lysF q L 0) 1 r := by rw [← htl]; simp [lysF, toldP]
    refine v_exit ?_
    refine v_seq ?_
    refine v_region ?_
    refine vl_val (os_move rfl) ?_
    refine vl_val (os_assign rfl) ?_
    refine vl_nil ?_
    refine v_ret ?_
    exact post_ret rfl rfl (⟨by rw [← hL, ← e]; exact ho, hb2⟩)
end Go.Proofs.Ytpojijnjdlnokaa

/- Layer 13: plan.Best. -/
namespace Go.Proofs.Ytpojijnjdlnokaa
open Go.RowKit
set_option linter.unusedVariables false

theorem sl_Backward (A : Option Addr) (n c : Nat) (w : World) : Gives Try.prog 61 #[.slice A n c] w fun v w' => v = .func (.func 100) #[] #[.pointer (some ⟨w.heap.size, 0, none⟩)] ∧ w' = w.alloc (.cells #[.slice A n c] 40) := by
  refine gives_enter Try.call61 Try.func61 rfl rfl rfl (by kernel_rfl) ?_
  refine v_seq ?_
  refine v_region ?_
  refine vl_val (os_box rfl) ?_
  refine vl_val (os_assign rfl) ?_
  refine vl_nil ?_
  refine v_seq ?_
  refine v_region ?_
  refine vl_val (os_makeFunc rfl) ?_
  refine vl_val (os_assign rfl) ?_
  refine vl_nil ?_
  refine v_ret ?_
  exact post_ret rfl rfl (⟨rfl, rfl⟩)
theorem sl_Backward_fn (l p : Nat) (A : Option Addr) (n c : Nat) (zs : List Int) (J Jx : Nat → World → Prop) (W : World) (hJI : ∀ k W, J k W → W.cell? ⟨p, 0, none⟩ = some (.slice A n c) ∧ Rd W .i64 A zs) (hn : n = zs.length) (hn' : n ≤ 1000000)
    (hR : Rounds Try.prog l (fun r => [.int .i64 ((n - 1 - r : Nat) : Int), .int .i64 (zs.getD (n - 1 - r) 0)]) n J Jx) (hJ0 : J 0 W) :
    Gives Try.prog 100 #[.func (.yield l) #[] #[], .pointer (some ⟨p, 0, none⟩)] W fun _ W' => J n W' ∨ ∃ k, Jx k W' := by
  refine gives_enter Try.call100 Try.func100 rfl rfl rfl (by kernel_rfl) ?_
  refine v_seq ?_
  refine v_region ?_
  refine vl_val (os_load Try.isAgg40 rfl ((hJI 0 W hJ0).1)) ?_
  refine vl_val (os_len Try.underlying40 rfl) ?_
  refine vl_val (os_subi rfl rfl (by omega)) ?_
  refine vl_val (os_assign rfl) ?_
  refine vl_nil ?_
  refine v_block ?_
  refine v_loop [(0, _), (1, _)] (fun (j : Nat) => [(3, .int .i64 ((j : Int) - 1))]) (fun j w' => j ≤ n ∧ J (n - j) w') (fun j => j) (n) ⟨rfl, rfl, trivial⟩ ⟨rfl, trivial⟩ (⟨Nat.le_refl _, by rw [Nat.sub_self]; exact hJ0⟩) ?_
  rintro j w' ⟨hj, hJj⟩
  refine v_seq ?_
  refine v_seq ?_
  refine v_region ?_
  refine vl_val (os_move rfl) ?_
  refine vl_val (os_geq rfl rfl) ?_
  refine vl_nil ?_
  refine v_cond_d rfl (fun h => ?_) (fun h => ?_)
  · obtain ⟨r, hr⟩ : ∃ r, r = n - j := ⟨_, rfl⟩
    have ej : (j : Int) - 1 = ((n - 1 - r : Nat) : Int) := by omega
    rw [ej]
    rw [← hr] at hJj
    obtain ⟨b, o, rfl, hc⟩ := (hJI r w' hJj).2.at_ (i := n - 1 - r) (by omega)
    refine v_skip ?_
    refine v_seq ?_
    refine v_block ?_
    refine v_seq ?_
    refine v_region ?_
    refine vl_val (os_move rfl) ?_
    refine vl_val (os_move rfl) ?_
    refine vl_val (os_load Try.isAgg40 rfl ((hJI r w' hJj).1)) ?_
    refine vl_val (os_move rfl) ?_
    refine vl_val (os_ix Try.underlying40 Try.sizeOf3 rfl rfl (i := n - 1 - r) (by omega) (by omega)) ?_
    refine vl_val (os_load Try.isAgg3 rfl (hc)) ?_
    refine vl_yield rfl rfl (hR r w' hJj (by omega)) ?_
    rintro b w2 ⟨hy, hn2⟩
    refine vl_val (os_not rfl) ?_
    refine vl_nil ?_
    refine v_cond rfl (fun hbv => ?_) (fun hbv => ?_)
    · refine v_ret ?_
      exact post_ret0 rfl (.inr ⟨r, hn2 (by simpa using hbv)⟩)
    · refine v_skip ?_
      refine v_region ?_
      refine vl_val (os_move rfl) ?_
      refine vl_val (os_subi rfl rfl (by omega)) ?_
      refine vl_val (os_assign rfl) ?_
      refine vl_nil ?_
      exact ⟨j - 1, ⟨rfl, rfl, trivial⟩, ⟨get_int rfl (by omega), trivial⟩, ⟨by omega, by rw [show n - (j - 1) = r + 1 by omega]; exact hy (by simpa using hbv)⟩, by dsimp only; omega⟩
  · obtain rfl : j = 0 := by omega
    refine v_exit ?_
    exact post_end0 rfl (.inl (by simpa using hJj))
theorem Nc.tb {B B' : Nat} {W W' : World} (h : Nc B W W') {tt e : TypeId} {v : Value} {us : List Value} {N : Nat} {cc : Nat → List Value} (ht : Tb W B' tt e v us N cc) : Tb W' B' tt e v us N cc := ⟨h.own ht.own, ht.len, fun i u hi hu => h.own (ht.each i u hi hu), ht.ne, ht.pair⟩
theorem Nc.tabs {B : Nat} {W W' : World} (h : Nc B W W') {H q n r ts a0} (ht : Tabs W H q n r ts a0) : Tabs W' H q n r ts a0 := fun a h1 h2 => by
  obtain ⟨T2, ub, cb, e, hT, hc⟩ := ht a h1 h2
  exact ⟨T2, ub, cb, e, h.tb hT, hc⟩
theorem Kn.kb {B : Nat} {S : List Nat} {W W' : World} (h : Kb S W W') (hS : ∀ b ∈ S, ∃ o : Obj, W.heap[b]? = some o ∧ o.isCells = true) : Kn B W W' :=
  ⟨h.size, fun k o _ hk ho => (h.block k (Array.getElem?_eq_some_iff.1 hk).1 (fun hm => by
    obtain ⟨o', h1, h2⟩ := hS k hm
    rw [hk] at h1; cases h1; rw [ho] at h2; cases h2)).trans hk⟩
end Go.Proofs.Ytpojijnjdlnokaa

/- Layer 13: the walk of plan.Best, plan.Score. -/
namespace Go.Proofs.Ytpojijnjdlnokaa
open Go.RowKit
set_option linter.unusedVariables false

/-- the solver between two layers: k layers are done -/
structure Sol (w W : World) (d : TaskV) (q : TaskP) (n r g tg H k : Nat) (S2 : Nat) (us ts : List Value) (cc : Nat → List Value) : Prop where
  bk : Bk W g (solC d r (.slice (some ⟨S2, 0, none⟩) (n + 2) (n + 2)) (.slice (some ⟨tg, 0, none⟩) d.ll d.ll)) 142
  tb : Tb W w.heap.size 40 3 (.slice (some ⟨S2, 0, none⟩) (n + 2) (n + 2)) us (n + 2) cc
  cc : ∀ j, 1 ≤ j → j ≤ n → cc j = rowV (fun x => .int .i64 (scP n (lysF q k (q.lens.length - k)) j x)) r
  own : Own W w.heap.size 144 (.slice (some ⟨tg, 0, none⟩) d.ll d.ll) ts
  tabs : Tabs W H q n r ts (q.lens.length - k)
  bel : Below w.heap.size w W
  hs : H ≤ W.heap.size
theorem Sol.nc {w W W' : World} {d q n r g tg H k S2 us ts cc} {B : Nat} (h : Sol w W d q n r g tg H k S2 us ts cc) (hn : Nc B W W') (hB : w.heap.size ≤ B) : Sol w W' d q n r g tg H k S2 us ts cc :=
  ⟨hn.bk h.bk, hn.tb h.tb, h.cc, hn.own h.own, hn.tabs h.tabs, hn.below h.bel hB (Nat.le_refl _), Nat.le_trans h.hs hn.size⟩
theorem Sol.keep {w W W' : World} {d q n r g tg H k S2 us ts cc} (h : Sol w W d q n r g tg H k S2 us ts cc) (hb : Below W.heap.size W W') : Sol w W' d q n r g tg H k S2 us ts cc :=
  ⟨h.bk.keep hb, h.tb.keep hb, h.cc, h.own.keepAll hb, h.tabs.keep hb, h.bel.trans (hb.mono h.bel.size), Nat.le_trans h.hs hb.size⟩
theorem Tabs.set {W W' : World} {H q n r ts a0 a T2} {ub : List Value} {cb : Nat → List Value} (h : Tabs W H q n r ts (a + 1)) {S : List Nat} (hb : Kb S W W') (hS : ∀ b ∈ S, b < H) (ha : a < ts.length) (hT : Tb W' H 146 4 (.slice (some ⟨T2, 0, none⟩) (n + 2) (n + 2)) ub (n + 2) cb)
    (hc : ∀ k, 1 ≤ k → k ≤ n → cb k = rowV (fun x => .bool (takP (FQ q n (q.lens.length - (a + 1)) a x) n k)) r) (e : a0 = a) : Tabs W' H q n r (ts.set a (.slice (some ⟨T2, 0, none⟩) (n + 2) (n + 2))) a0 := fun i h1 h2 => by
  subst e
  by_cases hi : i = a0
  · subst hi
    exact ⟨T2, ub, cb, List.getElem?_set_self ha, hT, hc⟩
  · obtain ⟨T3, ub3, cb3, e3, hT3, hc3⟩ := (h.kb hb hS) i (by omega) h2
    exact ⟨T3, ub3, cb3, by rw [List.getElem?_set_ne (fun h => hi h.symm)]; exact e3, hT3, hc3⟩
theorem Sol.next {w W W' : World} {d : TaskV} {q : TaskP} {n r g tg H k a m S2 S3 T3 : Nat} {us ts us3 ub : List Value} {cc c3 cb : Nat → List Value} (h : Sol w W d q n r g tg H k S2 us ts cc) (hL : LayR W W' d q n r g tg a m w.heap.size ts S3 us3 c3 T3 ub cb) (hm : m = k) (ha : a + 1 + k = q.lens.length) (hg : g < H ∧ tg < H) (hg2 : w.heap.size ≤ g ∧ w.heap.size ≤ tg) (hll : d.ll = q.lens.length) :
    Sol w W' d q n r g tg H (k + 1) S3 us3 (ts.set a (.slice (some ⟨T3, 0, none⟩) (n + 2) (n + 2))) c3 := by
  subst hm
  have e : q.lens.length - (m + 1) = a := by omega
  have e2 : q.lens.length - m = a + 1 := by omega
  have hl := Own.len h.own
  have hsz := hL.kb.size
  have hbs := h.bel.size
  refine ⟨hL.bk, hL.tS.mono hbs, fun j h1 h2 => by rw [e]; exact hL.cS j h1 h2, hL.own, ?_, hL.kb.below h.bel (fun b hb => by simp at hb; rcases hb with rfl | rfl <;> omega) hbs, Nat.le_trans h.hs hsz⟩
  have h3 := h.tabs
  rw [e2] at h3
  exact h3.set hL.kb (fun b hb => by simp at hb; rcases hb with rfl | rfl <;> omega) (by omega) (hL.tT.mono h.hs) (fun k h1 h2 => by rw [show q.lens.length - (a + 1) = m by omega]; exact hL.cT k h1 h2) e

set_option maxHeartbeats 8000000 in
theorem pn_Best (d : TaskV) (q : TaskP) (w : World) (hd : TaskOk w d q) : Gives Try.prog 29 #[.agg d.cells.toArray] w fun v w' => ∃ s, v = .tuple #[s, .int .i64 (bestE q)] ∧ OwnK w' w.heap.size 3 .i64 s (bestL q) ∧ Below w.heap.size w w' := by
  have hB := bk_new w d.cells 44
  have hb0 : Below w.heap.size w (w.alloc (.cells d.cells.toArray 44)) := (Below.refl _ w).alloc (Nat.le_refl _) _
  cases hT : taskB q
  · have hE : bestE q = 2 := by simp [bestE, hT]
    refine gives_enter Try.call29 Try.func29 rfl rfl rfl (by kernel_rfl) ?_
    refine v_seq ?_
    refine v_region ?_
    refine vl_val (os_box rfl) ?_
    refine vl_val (os_assign rfl) ?_
    refine vl_val (os_assign rfl) ?_
    refine vl_nil ?_
    refine v_seq ?_
    refine v_seq ?_
    refine v_region ?_
    refine vl_val (os_loadB Try.underlying44 rfl (by kernel_rfl) rfl hB) ?_
    refine vl_call (gives_boolb (pn_Right d q _ (hd.keep hb0)) hT) rfl ?_
    rintro v1 w1 ⟨rfl, b1⟩
    refine vl_val (os_not rfl) ?_
    refine vl_nil ?_
    refine v_cond_t rfl ?_
    refine v_seq ?_
    refine v_region ?_
    refine vl_val (os_assign rfl) ?_
    refine vl_val (os_assign rfl) ?_
    refine vl_nil ?_
    refine v_ret ?_
    exact post_ret2 rfl rfl rfl (⟨_, by rw [hE], by rw [bestL, if_neg (by rw [hE]; decide)]; exact Own.nil _ _ _, hb0.trans (b1.mono hb0.size)⟩)
  have hR := taskR hT
  obtain ⟨n, hn⟩ : ∃ n, n = q.n.toNat := ⟨_, rfl⟩
  rw [← hn] at hR
  have hdn : d.n = (n : Int) := hd.n.trans hR.n_
  have hn1 := hR.n1
  have hn2 := hR.n2
  have hl1 := hR.l1
  have hl8 := hR.l2
  have hll := hd.ll
  have hro : roomOk q.n q.m q.b d.ll = true := by
    have := hR.n_; have := hR.m1; have := hR.b1
    simp only [roomOk, rightB, betw, Bool.and_eq_true, decide_eq_true_eq]; omega
  have hrv : roomV d.n d.m d.b d.ll = roomQ q := by rw [hd.n, hd.m, hd.b]; unfold roomV; rw [if_pos hro]; unfold roomQ; rw [hll]
  have hci := can_iff hR
  cases hC : canB q.n q.m q.b q.lens
  · have hE : bestE q = 12 := by simp [bestE, hT, hC]
    refine gives_enter Try.call29 Try.func29 rfl rfl rfl (by kernel_rfl) ?_
    refine v_seq ?_
    refine v_region ?_
    refine vl_val (os_box rfl) ?_
    refine vl_val (os_assign rfl) ?_
    refine vl_val (os_assign rfl) ?_
    refine vl_nil ?_
    refine v_seq ?_
    refine v_seq ?_
    refine v_region ?_
    refine vl_val (os_loadB Try.underlying44 rfl (by kernel_rfl) rfl hB) ?_
    refine vl_call (gives_boolb (pn_Right d q _ (hd.keep hb0)) hT) rfl ?_
    rintro v1 w1 ⟨rfl, b1⟩
    have hb1 := hb0.trans (b1.mono hb0.size)
    have hB1 := hB.keep b1
    refine vl_val (os_not rfl) ?_
    refine vl_nil ?_
    refine v_cond_f rfl ?_
    refine v_skip ?_
    refine v_seq ?_
    refine v_region ?_
    refine vl_val (os_fa (o := 0) (k := 2) (by kernel_rfl) rfl) ?_
    refine vl_val (os_loadP (cs := [.int .i64 d.n, .int .i64 d.m, .int .i64 d.b]) Try.underlying42 rfl (by kernel_rfl) rfl ((Bk.rdc hB1).take 3)) ?_
    refine vl_val (os_fa (o := 3) (k := 0) (by kernel_rfl) rfl) ?_
    refine vl_val (os_load Try.isAgg40 rfl (hB1.cell (i := 3) rfl)) ?_
    refine vl_val (os_len Try.underlying40 rfl) ?_
    refine vl_call (size_Room d.n d.m d.b d.ll w1) rfl ?_
    rintro v2 w2 ⟨rfl, b2⟩
    have hb2 := hb1.trans (b2.mono hb1.size)
    have hB2 := hB1.keep b2
    refine vl_val (os_move rfl) ?_
    refine vl_val (os_extract rfl rfl) ?_
    refine vl_val (os_extract rfl rfl) ?_
    refine vl_val (os_assign rfl) ?_
    refine vl_val (os_assign rfl) ?_
    refine vl_nil ?_
    refine v_seq ?_
    refine v_seq ?_
    refine v_region ?_
    refine vl_val (os_fa (o := 0) (k := 2) (by kernel_rfl) rfl) ?_
    refine vl_val (os_loadP (cs := [.int .i64 d.n, .int .i64 d.m, .int .i64 d.b]) Try.underlying42 rfl (by kernel_rfl) rfl ((Bk.rdc hB2).take 3)) ?_
    refine vl_val (os_fa (o := 3) (k := 0) (by kernel_rfl) rfl) ?_
    refine vl_val (os_load Try.isAgg40 rfl (hB2.cell (i := 3) rfl)) ?_
    refine vl_call (gives_boolb (size_Can d.n d.m d.b d.AL d.ll d.lc q.lens w2 (hd.L.keep hb2) hll (by omega) (by rw [hd.n]; exact hd.iN.1)) (show canB d.n d.m d.b q.lens = false by rw [hd.n, hd.m, hd.b]; exact hC)) rfl ?_
    rintro v3 w3 ⟨rfl, b3⟩
    refine vl_val (os_not rfl) ?_
    refine vl_nil ?_
    refine v_cond_t rfl ?_
    refine v_seq ?_
    refine v_region ?_
    refine vl_val (os_assign rfl) ?_
    refine vl_val (os_assign rfl) ?_
    refine vl_nil ?_
    refine v_ret ?_
    exact post_ret2 rfl rfl rfl (⟨_, by rw [hE], by rw [bestL, if_neg (by rw [hE]; decide)]; exact Own.nil _ _ _, hb2.trans (b3.mono hb2.size)⟩)
  obtain ⟨hr0, hsc⟩ := hci.1 hC
  have hE : bestE q = 0 := by simp [bestE, hT, hC]
  obtain ⟨r, hr⟩ : ∃ r : Nat, roomQ q = r := ⟨(roomQ q).toNat, by omega⟩
  have hr2 : r ≤ 2000 := by
    have : roomQ q ≤ 1500 := by unfold roomQ roomW; have := hR.m1; omega
    omega
  have hrn : (roomQ q).toNat = r := by omega
  rw [hrn] at hsc
  have hbl : bestL q = (toldP n (lysF q q.lens.length 0) 1 r).map fun (x : Nat) => (x : Int) := by unfold bestL bestN; rw [if_pos hE, ← hn, hrn]
  refine gives_enter Try.call29 Try.func29 rfl rfl rfl (by kernel_rfl) ?_
  refine v_seq ?_
  refine v_region ?_
  refine vl_val (os_box rfl) ?_
  refine vl_val (os_assign rfl) ?_
  refine vl_val (os_assign rfl) ?_
  refine vl_nil ?_
  refine v_seq ?_
  refine v_seq ?_
  refine v_region ?_
  refine vl_val (os_loadB Try.underlying44 rfl (by kernel_rfl) rfl hB) ?_
  refine vl_call (gives_boolb (pn_Right d q _ (hd.keep hb0)) hT) rfl ?_
  rintro v1 w1 ⟨rfl, b1⟩
  have hb1 := hb0.trans (b1.mono hb0.size)
  have hB1 := hB.keep b1
  refine vl_val (os_not rfl) ?_
  refine vl_nil ?_
  refine v_cond_f rfl ?_
  refine v_skip ?_
  refine v_seq ?_
  refine v_region ?_
  refine vl_val (os_fa (o := 0) (k := 2) (by kernel_rfl) rfl) ?_
  refine vl_val (os_loadP (cs := [.int .i64 d.n, .int .i64 d.m, .int .i64 d.b]) Try.underlying42 rfl (by kernel_rfl) rfl ((Bk.rdc hB1).take 3)) ?_
  refine vl_val (os_fa (o := 3) (k := 0) (by kernel_rfl) rfl) ?_
  refine vl_val (os_load Try.isAgg40 rfl (hB1.cell (i := 3) rfl)) ?_
  refine vl_val (os_len Try.underlying40 rfl) ?_
  refine vl_call (size_Room d.n d.m d.b d.ll w1) rfl ?_
  rintro v2 w2 ⟨rfl, b2⟩
  have hb2 := hb1.trans (b2.mono hb1.size)
  have hB2 := hB1.keep b2
  rw [hrv, hr]
  refine vl_val (os_move rfl) ?_
  refine vl_val (os_extract rfl rfl) ?_
  refine vl_val (os_extract rfl rfl) ?_
  refine vl_val (os_assign rfl) ?_
  refine vl_val (os_assign rfl) ?_
  refine vl_nil ?_
  refine v_seq ?_
  refine v_seq ?_
  refine v_region ?_
  refine vl_val (os_fa (o := 0) (k := 2) (by kernel_rfl) rfl) ?_
  refine vl_val (os_loadP (cs := [.int .i64 d.n, .int .i64 d.m, .int .i64 d.b]) Try.underlying42 rfl (by kernel_rfl) rfl ((Bk.rdc hB2).take 3)) ?_
  refine vl_val (os_fa (o := 3) (k := 0) (by kernel_rfl) rfl) ?_
  refine vl_val (os_load Try.isAgg40 rfl (hB2.cell (i := 3) rfl)) ?_
  refine vl_call (gives_boolb (size_Can d.n d.m d.b d.AL d.ll d.lc q.lens w2 (hd.L.keep hb2) hll (by omega) (by rw [hd.n]; exact hd.iN.1)) (show canB d.n d.m d.b q.lens = true by rw [hd.n, hd.m, hd.b]; exact hC)) rfl ?_
  rintro v3 w3 ⟨rfl, b3⟩
  have hb3 := hb2.trans (b3.mono hb2.size)
  have hB3 := hB2.keep b3
  refine vl_val (os_not rfl) ?_
  refine vl_nil ?_
  refine v_cond_f rfl ?_
  refine v_skip ?_
  refine v_seq ?_
  refine v_region ?_
  refine vl_val (os_loadB Try.underlying44 rfl (by kernel_rfl) rfl hB3) ?_
  refine vl_val (os_move rfl) ?_
  refine vl_call (pn_over d n r w3 hdn hn2 hr2 (by omega)) rfl ?_
  rintro v4 w4 ⟨g, sg, tg, us, rfl, hO, b4⟩
  have hb4 := hb3.trans (b4.mono hb3.size)
  refine vl_val (os_alloc1 Try.zeroValue89 rfl) ?_
  have hP0 := bk_new w4 [.pointer none] 89
  have hb5a := hb4.alloc hb4.size (.cells [Value.pointer none].toArray 89)
  refine vl_unit (ou_store Try.sizeOf89 rfl rfl rfl (hP0.cell (i := 0) rfl) (hP0.free _)) ?_
  have hP1 := hP0.set 0 (.pointer (some ⟨g, 0, none⟩))
  have b5 : Below w4.heap.size w4 ((w4.alloc (.cells [Value.pointer none].toArray 89)).setCell ⟨w4.heap.size, 0 + 0, none⟩ (.pointer (some ⟨g, 0, none⟩))) := below_set ((Below.refl _ _).alloc (Nat.le_refl _) _) (Nat.le_refl _) _ _
  obtain ⟨p5, hp5⟩ : ∃ p5, p5 = w4.heap.size := ⟨_, rfl⟩
  rw [← hp5] at hP1 b5 ⊢
  rw [Nat.zero_add] at hP1 b5
  obtain ⟨w5, hw5⟩ : ∃ w5, w5 = (w4.alloc (.cells [Value.pointer none].toArray 89)).setCell ⟨p5, 0, none⟩ (.pointer (some ⟨g, 0, none⟩)) := ⟨_, rfl⟩
  rw [← hw5] at hP1 b5
  have hs5 : w5.heap.size = p5 + 1 := by rw [hw5, hp5]; simp [World.setCell]
  rw [← hw5]
  have hb5 := hb4.trans ((hp5 ▸ b5 : Below w4.heap.size w4 w5).mono hb4.size)
  have b35 := b4.trans ((hp5 ▸ b5 : Below w4.heap.size w4 w5).mono b4.size)
  have hB5 := hB3.keep b35
  refine vl_nil ?_
  refine v_range_seq ?_
  refine v_region ?_
  refine vl_val (os_fa (o := 3) (k := 0) (by kernel_rfl) rfl) ?_
  refine vl_val (os_load Try.isAgg40 rfl (hB5.cell (i := 3) rfl)) ?_
  refine vl_call (sl_Backward d.AL d.ll d.lc w5) rfl ?_
  rintro v6 w6 ⟨rfl, hw6⟩
  have P6 : Bk w6 (p5 + 1) [.slice d.AL d.ll d.lc] 40 := by rw [hw6, ← hs5]; exact bk_new w5 [.slice d.AL d.ll d.lc] 40
  have b6 : Below w5.heap.size w5 w6 := by rw [hw6]; exact (Below.refl _ _).alloc (Nat.le_refl _) _
  have hs6 : w6.heap.size = p5 + 2 := by rw [hw6]; simp [hs5]
  have P5 := hP1.keep b6
  have b46 : Below w4.heap.size w4 w6 := (hp5 ▸ b5 : Below w4.heap.size w4 w5).trans (b6.mono (hp5 ▸ b5 : Below w4.heap.size w4 w5).size)
  have hb6 := hb4.trans (b46.mono hb4.size)
  have hgl := hO.bk.lt
  have htl := (World.ownsRow.lt hO.own tg rfl)
  have hS0 : Sol w w6 d q n r g tg w4.heap.size 0 sg us (List.replicate d.ll (.slice none 0 0)) (fun _ => List.replicate (r + 1) (.int .i64 0)) := ⟨hO.bk.keep b46, (hO.tb.keep b46).mono hb3.size, fun j _ _ => by rw [rowV_rep]; rfl, (hO.own.keepAll b46).mono hb3.size, fun a h1 h2 => absurd h1 (by omega), hb6, b46.size⟩
  rw [hs5]
  refine vl_nil ?_
  refine v_range (d.ll) (fun k => [.int .i64 ((d.ll - 1 - k : Nat) : Int), .int .i64 (q.lens.getD (d.ll - 1 - k) 0)]) (fun k w' => (∃ S2 us ts cc, Sol w w' d q n r g tg w4.heap.size k S2 us ts cc) ∧ Bk w' p5 [.pointer (some ⟨g, 0, none⟩)] 89 ∧ Bk w' (p5 + 1) [.slice d.AL d.ll d.lc] 40) (fun e w' => False) (fun k => [(7, .int .i64 ((d.ll - 1 - k : Nat) : Int)), (6, .pointer (some ⟨p5, 0, none⟩))]) Try.call100 rfl (fun _ => rfl) (fun k W W' ⟨⟨S2, us, ts, cc, h1⟩, h2, h3⟩ hn => ⟨⟨S2, us, ts, cc, h1.nc hn hb6.size⟩, hn.bk h2, hn.bk h3⟩) (fun _ => Abd.no) (⟨⟨_, _, _, _, hS0⟩, P5, P6⟩) (fun l J Jx W hW hJI hJ hJx hR hJ0 => sl_Backward_fn l (p5 + 1) d.AL d.ll d.lc q.lens J Jx W (fun k W h => by obtain ⟨⟨S2, us, ts, cc, h1⟩, h2, h3⟩ := hJI k W h; exact ⟨h3.cell (i := 0) rfl, hd.L.keep h1.bel⟩) hll (by omega) hR hJ0) ?_ ?_ ?_ (fun _ _ _ _ h => h.elim) (fun _ _ _ _ _ h => h.elim)
  · intro l k w'
    refine v_region ?_
    refine vl_val (os_assign rfl) ?_
    refine vl_nil ?_
    exact ⟨rfl, rfl, ⟨rfl, rfl, trivial⟩⟩
  · rintro l k w' hk ⟨⟨S2, us2, ts, cc, h1⟩, h2, h3⟩
    refine v_block ?_
    refine v_region ?_
    refine vl_val (os_load Try.isAgg89 rfl (h2.cell (i := 0) rfl)) ?_
    have gn : tg ≠ g := hO.ne3
    have glo : w3.heap.size ≤ g := hO.lo
    have wlo := hb3.size
    refine vl_val (os_move rfl) ?_
    refine vl_call (pn_layer d q n r g S2 tg (d.ll - 1 - k) k w.heap.size us2 ts cc _ (hd.keep h1.bel) hR (by omega) hr2 h1.bk h1.tb (by have h9 := h1.cc; rw [show q.lens.length - k = (d.ll - 1 - k) + 1 by omega] at h9; exact h9) h1.own gn (by omega)) rfl ?_
    rintro v9 w9 ⟨S3, us3, c3, T3, ub, cb, hLy⟩
    refine vl_nil ?_
    exact ⟨Kn.kb hLy.kb (fun b hb => by simp at hb; rcases hb with rfl | rfl; exact ⟨_, h1.bk, rfl⟩; exact Own.row_cells h1.own _ rfl), ⟨S3, us3, _, c3, h1.next hLy rfl (by omega) ⟨by omega, by omega⟩ ⟨by omega, by omega⟩ hll⟩, Bk.kb h2 hLy.kb (by simp; omega), Bk.kb h3 hLy.kb (by simp; omega)⟩
  · rintro D w' hD hK ⟨⟨S2, us2, ts, cc, h1⟩, h2, h3⟩
    refine v_seq ?_
    refine v_region ?_
    refine vl_val (os_load Try.isAgg89 rfl (h2.cell (i := 0) rfl)) ?_
    have htab := h1.tabs
    rw [show q.lens.length - d.ll = 0 by omega] at htab
    refine vl_call (pn_told d q n r g tg w4.heap.size _ ts _ (hd.keep h1.bel) hR hr2 h1.bk h1.own.rdc' htab hsc) rfl ?_
    rintro v9 w9 ⟨ho9, b9⟩
    have hK' := (Kn.of_leg (B := 0) b9).block D _ (Nat.zero_le _) hK rfl
    have hN := Nc.put (B := w6.heap.size) (.deferred none) hD hK' rfl
    have hb9 := h1.bel.trans (b9.mono h1.bel.size)
    refine vl_val (os_assign rfl) ?_
    refine vl_val (os_assign rfl) ?_
    refine vl_nil ?_
    refine v_ret ?_
    exact post_m (fn := Try.f29) (hK') (fun a ha => res_tt (t := 2) (t2 := 3) rfl rfl rfl  ha) (⟨_, by rw [hE], by rw [hbl]; exact hN.own (Own.mono ho9 h1.bel.size), hN.below hb9 hb6.size (Nat.le_refl _)⟩)
end Go.Proofs.Ytpojijnjdlnokaa

/- A guarded operation of which a fact is told; literals of which a fact is told. No program in sight. -/
namespace Go.Proofs.Ytpojijnjdlnokaa
open Go.RowKit
set_option linter.unusedVariables false

section
variable {P : Program} {n : Cx} {all rest : List Oper} {fr : Fr} {w : World} {Q : Exit → Fr → World → Prop} {d : Nat} {op : Op} {ty : TypeId} {pos : String} {aft : Array Edge}
theorem vl_someg {T : Value → World → Prop} {j : Nat} {b : Bool} (hg : guardF all fr j = some (.bool b)) (h : OT P n op ty fr w T) (k : ∀ v w', T v w' → VL P n all rest ((d, v) :: fr) w' Q) : VL P n all (⟨some d, op, ty, pos, aft, some (j, b)⟩ :: rest) fr w Q := by
  unfold VL
  intro hok a ha
  obtain ⟨h1, h2⟩ := dst_lt hok rfl
  unfold OT at h
  obtain ⟨v, w', hr, ht⟩ := h a ha
  have k' := k v w' ht
  unfold VL at k'
  unfold wpListIn
  simp only [Region.wanted, guardF_yields ha hg, BEq.rfl, if_true]
  exact in_value (by rw [execOp_bare, hr]) (k' h2 _ (ha.put h1 v))
end
section
variable {P : Program} {n : Cx} {fr : Fr} {w : World} {ty T e : TypeId}
/-- a list of integers, written out -/
theorem ot_litZ {k : IntKind} (zs : List Int) {l : Nat} {ps : List (Nat × Operand)} {z0 : Value} (hT : P.underlying T = some (.slice e)) (hs : ∀ w, (sizeOf e).run P w = .ok 1 w) (hz : ∀ w, (zeroValue e).run P w = .ok z0 w) (hz1 : z0.cells.size = 1) (hx : evP fr ps 0 = some (zs.map (Value.int k))) (hone : oneCells (zs.map (Value.int k)) = true) (hl : l = zs.length) (h2 : l ≤ 16777216) :
    OT P n (.buildSlice T l ps.toArray) ty fr w fun v w' => ∃ g, v = .slice (some ⟨g, 0, none⟩) l l ∧ Rd w' k (some ⟨g, 0, none⟩) zs ∧ Below w.heap.size w w' := by
  subst hl
  exact (os_lit hT hs hz hz1 hx (by simp) hone h2).ot ⟨_, rfl, rd_alloc w k zs e, (Below.refl _ _).alloc (Nat.le_refl _) _⟩
/-- the same: it is one's own -/
theorem ot_litO {k : IntKind} (zs : List Int) {l : Nat} {ps : List (Nat × Operand)} {z0 : Value} (hT : P.underlying T = some (.slice e)) (hs : ∀ w, (sizeOf e).run P w = .ok 1 w) (hz : ∀ w, (zeroValue e).run P w = .ok z0 w) (hz1 : z0.cells.size = 1) (hx : evP fr ps 0 = some (zs.map (Value.int k))) (hone : oneCells (zs.map (Value.int k)) = true) (hl : l = zs.length) (h2 : l ≤ 16777216) :
    OT P n (.buildSlice T l ps.toArray) ty fr w fun v w' => ∃ g, v = .slice (some ⟨g, 0, none⟩) l l ∧ OwnK w' w.heap.size e k (.slice (some ⟨g, 0, none⟩) l l) zs ∧ Below w.heap.size w w' := by
  subst hl
  have := own_alloc (B := w.heap.size) w (zs.map (Value.int k)) e (Nat.le_refl _) (by simp [maxLen]; omega)
  rw [List.length_map] at this
  exact (os_lit hT hs hz hz1 hx (by simp) hone h2).ot ⟨_, rfl, this, (Below.refl _ _).alloc (Nat.le_refl _) _⟩
/-- a list of one-cell values, written out: a new row of one's own -/
theorem ot_litU (vs : List Value) {l : Nat} {ps : List (Nat × Operand)} {z0 : Value} (hT : P.underlying T = some (.slice e)) (hs : ∀ w, (sizeOf e).run P w = .ok 1 w) (hz : ∀ w, (zeroValue e).run P w = .ok z0 w) (hz1 : z0.cells.size = 1) (hx : evP fr ps 0 = some vs) (hone : oneCells vs = true) (hl : l = vs.length) (h2 : l ≤ 16777216) :
    OT P n (.buildSlice T l ps.toArray) ty fr w fun v w' => v = .slice (some ⟨w.heap.size, 0, none⟩) l l ∧ Own w' w.heap.size e v vs ∧ w'.heap.size = w.heap.size + 1 ∧ Below w.heap.size w w' := by
  subst hl
  exact (os_lit hT hs hz hz1 hx (by simp) hone h2).ot ⟨rfl, own_alloc (B := w.heap.size) w vs e (Nat.le_refl _) (by simp [maxLen]; omega), by simp, (Below.refl _ _).alloc (Nat.le_refl _) _⟩
end
end Go.Proofs.Ytpojijnjdlnokaa

/- Layer 13: plan.Score; what the best thresholds are worth; awake. -/
namespace Go.Proofs.Ytpojijnjdlnokaa
open Go.RowKit
set_option linter.unusedVariables false

/-! ### what the best are -/
theorem okP_mem {n : Nat} : ∀ {ls : List Ly} {k R : Nat} {ks : List Nat}, OkP n ls k R ks → ks.length = ls.length ∧ ∀ x ∈ ks, k ≤ x ∧ x ≤ n
  | [], k, R, ks, h => by
    have : ks = [] := h
    subst this; exact ⟨rfl, fun x hx => by cases hx⟩
  | l :: r, k, R, ks, h => by
    obtain ⟨x, xs, rfl, h1, h2, h3, h4⟩ := h
    obtain ⟨g1, g2⟩ := okP_mem h4
    refine ⟨by simp [g1], fun y hy => ?_⟩
    rcases List.mem_cons.1 hy with rfl | hy
    · exact ⟨h1, h2⟩
    · have := g2 y hy; omega
def natL (ks : List Nat) : List Int := ks.map fun (x : Nat) => (x : Int)
theorem natL_at {ks : List Nat} {i : Nat} (hi : i < ks.length) : (natL ks).getD i 0 = (ks[i] : Int) := by simp [natL, hi]
theorem natL_len {ks : List Nat} : (natL ks).length = ks.length := by simp [natL]
theorem ok_scOk {q : TaskP} {n : Nat} (hT : taskB q = true) (hR : TaskR q n) {ks : List Nat} (hl : ks.length = q.lens.length) (hk : ∀ x ∈ ks, 1 ≤ x ∧ x ≤ n) : scOk q.worths (natL ks) q.ws = true := by
  have hw : wrightB q.n q.ws = true := by
    simp only [taskB, Bool.and_eq_true] at hT
    exact hT.2.2.2.2.2
  have h1 := hR.n_
  have h2 := hR.lv
  have h3 := hR.lw
  have h4 := hR.l2
  simp only [scOk, Bool.and_eq_true, decide_eq_true_eq]
  refine ⟨by rw [show (q.ws.length : Int) - 1 = q.n by omega]; exact hw, by rw [natL_len]; omega, by rw [natL_len]; omega, fun i hi => ?_⟩
  rw [natL_len] at hi
  have h5 := hk ks[i] (List.getElem_mem _)
  have h6 := hR.wor i (by omega)
  unfold scGood
  rw [natL_at hi]
  omega
theorem sumP_sc {q : TaskP} {ks : List Nat} (hl : ks.length = q.lens.length) : ∀ {m i : Nat}, m + i = q.lens.length → sumP (lysF q m i) (ks.drop i) + scSum q.worths (natL ks) q.ws i = scSum q.worths (natL ks) q.ws ks.length
  | 0, i, h => by
    rw [List.drop_eq_nil_of_le (by omega), show i = ks.length by omega]
    simp [lysF, sumP]
  | m + 1, i, h => by
    have hi : i < ks.length := by omega
    have ih := sumP_sc hl (m := m) (i := i + 1) (by omega)
    rw [List.drop_eq_getElem_cons hi, lysF, sumP]
    have e : (lyQ q i).o ks[i] = scT q.worths (natL ks) q.ws i := by
      unfold scT
      rw [natL_at hi]
      simp [lyQ]
    rw [scSum] at ih
    omega
theorem sumP_scV {q : TaskP} {ks : List Nat} (hl : ks.length = q.lens.length) (hs : scOk q.worths (natL ks) q.ws = true) : scV q.worths (natL ks) q.ws = sumP (lysF q q.lens.length 0) ks := by
  have := sumP_sc hl (m := q.lens.length) (i := 0) (by omega)
  rw [List.drop_zero] at this
  unfold scV
  rw [if_pos hs, natL_len, ← this]
  simp [scSum]
/-- all that is known of the best -/
structure BestR (q : TaskP) (n R : Nat) : Prop where
  task : taskB q = true
  R_ : TaskR q n
  room : roomQ q = R
  can : canB q.n q.m q.b q.lens = true
  l : bestL q = natL (bestN q)
  ok : OkP n (lysF q q.lens.length 0) 1 R (bestN q)
  sum : sumP (lysF q q.lens.length 0) (bestN q) = scP n (lysF q q.lens.length 0) 1 R
  len : (bestN q).length = q.lens.length
  mem : ∀ x ∈ bestN q, 1 ≤ x ∧ x ≤ n
  sc : scOk q.worths (bestL q) q.ws = true
theorem bestR {q : TaskP} (h : bestE q = 0) : BestR q q.n.toNat (roomQ q).toNat := by
  have hT : taskB q = true := by
    cases hh : taskB q
    · simp [bestE, hh] at h
    · rfl
  have hC : canB q.n q.m q.b q.lens = true := by
    cases hh : canB q.n q.m q.b q.lens
    · simp [bestE, hT, hh] at h
    · rfl
  have hR := taskR hT
  obtain ⟨h0, hsc⟩ := (can_iff hR).1 hC
  have hl : bestL q = natL (bestN q) := by unfold bestL natL; rw [if_pos h]
  have hok := toldP_ok (lysF_o' hR (m := q.lens.length) (i := 0) (by omega)) (by omega) hsc
  have hmem := okP_mem hok.1
  rw [lysF_len] at hmem
  exact ⟨hT, hR, by omega, hC, hl, hok.1, hok.2, hmem.1, fun x hx => hmem.2 x hx, by rw [hl]; exact ok_scOk hT hR hmem.1 (fun x hx => hmem.2 x hx)⟩
def scoreV (q : TaskP) : Int := if bestE q = 0 then scV q.worths (bestL q) q.ws else 0
theorem bestL_len {q : TaskP} : (bestL q).length ≤ 8 := by
  by_cases h : bestE q = 0
  · have hb := bestR h
    rw [hb.l, natL_len, hb.len]; exact hb.R_.l2
  · unfold bestL; rw [if_neg h]; simp
theorem bestE_cases (q : TaskP) : bestE q = 0 ∨ bestE q = 2 ∨ bestE q = 12 := by
  unfold bestE; split
  · split
    · exact .inl rfl
    · exact .inr (.inr rfl)
  · exact .inr (.inl rfl)

theorem pn_Score (d : TaskV) (q : TaskP) (w : World) (hd : TaskOk w d q) : Gives Try.prog 32 #[.agg d.cells.toArray] w fun v w' => v = .tuple #[.int .i64 (scoreV q), .int .i64 (bestE q)] ∧ Below w.heap.size w w' := by
  have hB := bk_new w d.cells 44
  have hb0 : Below w.heap.size w (w.alloc (.cells d.cells.toArray 44)) := (Below.refl _ w).alloc (Nat.le_refl _) _
  refine gives_enter Try.call32 Try.func32 rfl rfl rfl (by kernel_rfl) ?_
  refine v_seq ?_
  refine v_region ?_
  refine vl_val (os_box rfl) ?_
  refine vl_val (os_assign rfl) ?_
  refine vl_val (os_assign rfl) ?_
  refine vl_nil ?_
  refine v_seq ?_
  refine v_region ?_
  refine vl_val (os_loadB Try.underlying44 rfl (by kernel_rfl) rfl hB) ?_
  refine vl_call (pn_Best d q _ (hd.keep hb0)) rfl ?_
  rintro v1 w1 ⟨s, rfl, ho, b1⟩
  have hb1 := hb0.trans (b1.mono hb0.size)
  have hB1 := hB.keep b1
  have hd1 := hd.keep hb1
  refine vl_val (os_move rfl) ?_
  refine vl_val (os_extract rfl rfl) ?_
  refine vl_val (os_extract rfl rfl) ?_
  refine vl_val (os_assign rfl) ?_
  refine vl_val (os_assign rfl) ?_
  refine vl_nil ?_
  refine v_seq ?_
  refine v_seq ?_
  refine v_region ?_
  refine vl_val (os_move rfl) ?_
  refine vl_val (os_neq rfl rfl) ?_
  refine vl_nil ?_
  refine v_cond_d rfl (fun hE => ?_) (fun hE => ?_)
  · refine v_seq ?_
    refine v_region ?_
    refine vl_val (os_move rfl) ?_
    refine vl_val (os_assign rfl) ?_
    refine vl_val (os_assign rfl) ?_
    refine vl_nil ?_
    refine v_ret ?_
    exact post_ret2 rfl rfl rfl (⟨by rw [scoreV, if_neg hE], hb1⟩)
  · have hE0 : bestE q = 0 := by omega
    have hb := bestR hE0
    have hll := bestL_len (q := q)
    obtain ⟨A1, c1, rfl, -, -, hr1, -⟩ := OwnK.form ho
    refine v_skip ?_
    refine v_seq ?_
    refine v_region ?_
    refine vl_val (os_fa (o := 4) (k := 0) (by kernel_rfl) rfl) ?_
    refine vl_val (os_load Try.isAgg40 rfl (hB1.cell (i := 4) rfl)) ?_
    refine vl_val (os_move rfl) ?_
    refine vl_val (os_fa (o := 5) (k := 0) (by kernel_rfl) rfl) ?_
    refine vl_val (os_load Try.isAgg40 rfl (hB1.cell (i := 5) rfl)) ?_
    refine vl_call (wg_Score d.AW A1 d.AV d.wl _ d.vl d.wc c1 d.vc q.worths (bestL q) q.ws w1 hd1.W hr1 hd1.V hd1.wl rfl hd1.vl (by have := hd1.bw; omega) (by omega) (by have := hd1.bv; omega)) rfl ?_
    rintro v2 w2 ⟨rfl, d2⟩
    refine vl_val (os_extract rfl rfl) ?_
    refine vl_val (os_extract rfl rfl) ?_
    refine vl_val (os_assign rfl) ?_
    refine vl_val (os_assign rfl) ?_
    refine vl_nil ?_
    refine v_ret ?_
    exact post_ret2 rfl rfl rfl (⟨by rw [scoreV, if_pos hE0, hb.sc, hE0]; rfl, hb1.trans ((led_below d2).mono hb1.size)⟩)

/-! ### awake -/
def awT (a b : Int) : TaskP := ⟨4, 64, 200, [a, b], [1, 1], [9, 9, 9, 9, 9]⟩
theorem aw1 : bestE (awT 40 60) = 0 ∧ bestL (awT 40 60) = [4, 4] := by decide +kernel
theorem aw2 : bestE (awT 5 20) = 0 ∧ bestL (awT 5 20) = [1, 1] := by decide +kernel
theorem aw3 : bestE (awT 45 60) = 12 := by decide +kernel
end Go.Proofs.Ytpojijnjdlnokaa
