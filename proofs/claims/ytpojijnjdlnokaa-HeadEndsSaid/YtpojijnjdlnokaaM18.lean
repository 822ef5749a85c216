/- Texts joined: HdV. -/
import Derived.Test.YtpojijnjdlnokaaM17
/- Layer 14: what bytes are as a header and a body. -/
namespace Go.Proofs.Ytpojijnjdlnokaa
open Go.RowKit
set_option linter.unusedVariables false

section
variable {P : Program} {n : Cx} {fr : Fr} {w : World} {fn : Func} {U : Value → World → Prop} {t t2 t3 g : Nat} {T e : TypeId} {cs : List Value} {d : TypeDesc} {v2 v3 : Value}
/-- three results, of which the first one lies in memory, a struct -/
theorem post_cellt3 (hf : fn.results = #[.cell t T, .tmp t2, .tmp t3]) (hg : Fr.get fr t = some (.pointer (some ⟨g, 0, none⟩))) (hg2 : Fr.get fr t2 = some v2) (hg3 : Fr.get fr t3 = some v3) (hu : P.underlying T = some d) (hd : (match d with | .struct _ | .array _ _ => true | _ => false) = true) (hs : (P.info? T).map (·.size) = some cs.length) (hB : Bk w g cs e) (h : U (.tuple #[.agg cs.toArray, v2, v3]) w) : Post P n fn U .ret fr w := by
  unfold Post
  refine ⟨_, fun a ha => ?_, h⟩
  have := run_loadVar_row (P := P) w g e T cs.toArray (0, 0) d hB hu hd (by simpa using hs)
  have h1 : a.tmps.getD t undef = .pointer (some ⟨g, 0, none⟩) := by simp [Array.getD_eq_getD_getElem?, ha.at_ t _ hg]
  have h2 : a.tmps.getD t2 undef = v2 := by simp [Array.getD_eq_getD_getElem?, ha.at_ t2 _ hg2]
  have h3 : a.tmps.getD t3 undef = v3 := by simp [Array.getD_eq_getD_getElem?, ha.at_ t3 _ hg3]
  simp only [Array.getD_eq_getD_getElem?] at h1 h2 h3
  simp [results, hf, h1, h2, h3, asAddr, this]
end
def hdE (zs : List Int) : Int := if openE zs ≠ 0 then openE zs else parseHE (openV zs)
def hdP (zs : List Int) : HeadP := if hdE zs = 0 then headP (openV zs) else ⟨0, 0, 0, 0, 0, []⟩
def hdB (zs : List Int) : List Int := if hdE zs = 0 then bodyP (openV zs) else []
def hN (A : Option Addr) (l c : Nat) : HeadV := ⟨⟨0, 0, 0, 0, 0, []⟩, A, l, c⟩
theorem i64_0 : I64 0 := ⟨by decide, by decide⟩
theorem hN_ok (w : World) : HeadOk w (hN none 0 0) := ⟨fun i c hc => by simp [hN] at hc, rfl, by decide, ⟨i64_0, i64_0, i64_0, i64_0, i64_0⟩, fun p hp => by simp [hN] at hp, by decide⟩
theorem hd_openV_len (zs : List Int) : (openV zs).length ≤ zs.length := by
  unfold openV
  split
  · rw [List.length_take]; omega
  · simp
theorem hd_openV_Y {zs : List Int} (h : AllB zs) : AllY (openV zs) := by
  unfold openV
  split
  · exact fun z hz => h z (List.mem_of_mem_take hz)
  · intro z hz; cases hz
theorem longV_bd (n : Int) (rows : List (Int × Int)) : 0 ≤ longV n rows := by
  unfold longV
  split
  · exact (offS_bd _).1
  · exact Int.le_refl _
theorem take_end {p : List Int} (hy : AllY p) (pos' : Nat) (bs : List Int) (m : Int) (hm : m = longV (headR p).n (headR p).rows)
    (h1 : 0 ≤ m ∧ 14 + 3 * (rdV p 9 1).toNat + m.toNat ≤ p.length → bs = (p.drop (14 + 3 * (rdV p 9 1).toNat)).take m.toNat ∧ pos' = 14 + 3 * (rdV p 9 1).toNat + m.toNat)
    (h2 : ¬ (0 ≤ m ∧ 14 + 3 * (rdV p 9 1).toNat + m.toNat ≤ p.length) → p.length < pos') :
    ((shapeH p && putH (headP p) (bodyP p)) = true ↔ pos' = p.length ∧ rightH (headR p) = true) ∧ ((shapeH p && putH (headP p) (bodyP p)) = true → headR p = headP p ∧ bs = bodyP p) := by
  have hm0 : 0 ≤ m := by rw [hm]; exact longV_bd _ _
  have key : shapeH p = true → headR p = headP p ∧ bodyP p = p.drop (14 + 3 * (rdV p 9 1).toNat) ∧ (bodyP p).length = p.length - (14 + 3 * (rdV p 9 1).toNat) ∧ 14 + 3 * (rdV p 9 1).toNat ≤ p.length := fun hs => by
    obtain ⟨e1, e2⟩ := headR_shape hy hs
    obtain ⟨g1, g2⟩ : 14 ≤ p.length ∧ 14 + 3 * (numAt p 9 1).toNat ≤ p.length := by simpa [shapeH] using hs
    have e3 : bodyP p = p.drop (14 + 3 * (rdV p 9 1).toNat) := by unfold bodyP; rw [e2]
    exact ⟨e1, e3, by rw [e3, List.length_drop], by rw [e2]; exact g2⟩
  have go : (shapeH p && putH (headP p) (bodyP p)) = true → (pos' = p.length ∧ rightH (headR p) = true) ∧ headR p = headP p ∧ bs = bodyP p := fun h => by
    rw [Bool.and_eq_true] at h
    obtain ⟨e1, e3, e4, e5⟩ := key h.1
    have h3 := h.2
    unfold putH at h3
    rw [Bool.and_eq_true, decide_eq_true_iff, ← e1, ← hm] at h3
    obtain ⟨a1, a2⟩ := h1 ⟨hm0, by omega⟩
    exact ⟨⟨by omega, h3.1⟩, e1, by rw [a1, e3, List.take_of_length_le (by rw [List.length_drop]; omega)]⟩
  refine ⟨⟨fun h => (go h).1, fun ⟨hp, hr⟩ => ?_⟩, fun h => (go h).2⟩
  by_cases hc : 0 ≤ m ∧ 14 + 3 * (rdV p 9 1).toNat + m.toNat ≤ p.length
  · obtain ⟨a1, a2⟩ := h1 hc
    have hs : shapeH p = true := by
      cases hs : shapeH p
      · have := shape_no hy hs; omega
      · rfl
    obtain ⟨e1, e3, e4, e5⟩ := key hs
    rw [hs, Bool.true_and]
    unfold putH
    rw [← e1, hr, ← hm, Bool.true_and]
    exact decide_eq_true (by omega)
  · have := h2 hc; omega
theorem RdP.kbS {S : List Nat} {w w' : World} {s : Nat} {A : Option Addr} {ps : List (List Value)} (h : RdP w s A ps) (hb : Kb S w w') (hA : ∀ a, A = some a → a.block ∉ S) : RdP w' s A ps := fun i c hc => by
  obtain ⟨b, o, e, hcell⟩ := h i c hc
  refine ⟨b, o, e, fun j v hv => ?_⟩
  have h1 := hcell j v hv
  have hlt := World.block_lt_of_cell? w _ h1
  rw [← h1]
  unfold World.cell?
  simp only [hb.block b hlt (hA _ e)]
set_option maxHeartbeats 4000000 in
theorem hd_Parse (A : Option Addr) (n c : Nat) (zs : List Int) (w : World) (ha : Rd w .u8 A zs) (hn : n = zs.length) (hc : n ≤ c) (hn' : n ≤ 10000000) (hz : AllB zs) :
    Gives Try.prog 86 #[.slice A n c] w fun v w' => ∃ A' l' c' s, v = .tuple #[.agg (HeadV.cells ⟨hdP zs, A', l', c'⟩).toArray, s, .int .i64 (hdE zs)] ∧ HeadOk w' ⟨hdP zs, A', l', c'⟩ ∧ OwnK w' w.heap.size 5 .u8 s (hdB zs) ∧ Below w.heap.size w w' := by
  have hQ0 := bk_new w zH 65
  have bQ : Below w.heap.size w (w.alloc (.cells zH.toArray 65)) := (Below.refl _ w).alloc (Nat.le_refl _) _
  have hsQ : (w.alloc (.cells zH.toArray 65)).heap.size = w.heap.size + 1 := by simp
  obtain ⟨w0, hw0⟩ : ∃ w0, w0 = w.alloc (.cells zH.toArray 65) := ⟨_, rfl⟩
  rw [← hw0] at hQ0 bQ hsQ
  have hy := hd_openV_Y hz
  have hpl := hd_openV_len zs
  refine gives_enter Try.call86 Try.func86 rfl rfl rfl (by kernel_rfl) ?_
  refine v_seq ?_
  refine v_region ?_
  refine vl_val (os_allocB Try.zeroValue65 (zc := _) (cs := zH) rfl) ?_
  rw [← hw0]
  refine vl_val (os_assign rfl) ?_
  refine vl_val (os_assign rfl) ?_
  refine vl_nil ?_
  refine v_seq ?_
  refine v_region ?_
  refine vl_val (os_move rfl) ?_
  refine vl_call (sum_Open A n c zs w0 (ha.keep bQ) hn hc hn' hz) rfl ?_
  rintro v1 w1 ⟨s1, rfl, o1, b1⟩
  have hQ1 := hQ0.keep b1
  have b1w := bQ.trans (b1.mono bQ.size)
  have s1' := b1.size
  have fin : ∀ (w9 : World) (x : Int), x ≠ 0 → hdE zs = x → Below w.heap.size w w9 → ∃ A' l' c' s, (.tuple #[.agg zH.toArray, .slice none 0 0, .int .i64 x] : Value) = .tuple #[.agg (HeadV.cells ⟨hdP zs, A', l', c'⟩).toArray, s, .int .i64 (hdE zs)] ∧ HeadOk (w9.setRow w.heap.size zH.toArray) ⟨hdP zs, A', l', c'⟩ ∧ OwnK (w9.setRow w.heap.size zH.toArray) w.heap.size 5 .u8 s (hdB zs) ∧ Below w.heap.size w (w9.setRow w.heap.size zH.toArray) := fun w9 x hx hE hb => ⟨none, 0, 0, .slice none 0 0, by unfold hdP; rw [hE, if_neg hx]; rfl, by unfold hdP; rw [hE, if_neg hx]; exact hN_ok _, by unfold hdB; rw [hE, if_neg hx]; exact Own.nil _ _ _, below_setRow hb (Nat.le_refl _) _⟩
  refine vl_val (os_move rfl) ?_
  refine vl_val (os_extract rfl rfl) ?_
  refine vl_val (os_extract rfl rfl) ?_
  refine vl_val (os_assign rfl) ?_
  refine vl_val (os_assign rfl) ?_
  refine vl_nil ?_
  by_cases he : openE zs = 0
  · have hEp : hdE zs = parseHE (openV zs) := by unfold hdE; rw [if_neg (fun h => h he)]
    refine v_seq ?_
    refine v_seq ?_
    refine v_region ?_
    refine vl_val (os_move rfl) ?_
    refine vl_val (os_neq rfl rfl) ?_
    refine vl_nil ?_
    refine v_cond_no rfl (fun h => h he) ?_
    generalize hp : openV zs = p at *
    obtain ⟨A1, c1, rfl, hc1, hm1, r1, -⟩ := OwnK.form o1
    refine v_skip ?_
    refine v_seq ?_
    refine v_region ?_
    refine vl_val (os_move rfl) ?_
    refine vl_call (pk_Over A1 p.length c1 p w1 r1 rfl (by omega)) rfl ?_
    rintro v2 w2 ⟨g, v, rfl, hr2, b2⟩
    have hP2 : RP w2 w1.heap.size g v.ownBlock p 0 := ⟨v, p, 0, hr2, ⟨.inl ⟨rfl, Nat.zero_le _, by simp⟩, hy, Nat.le_refl _⟩, rfl⟩
    have hQ2 := hQ1.keep b2
    have b2w := b1w.trans (b2.mono b1w.size)
    have hg2 := hP2.lt
    have s2 := b2.size
    refine vl_val (os_assign rfl) ?_
    refine vl_nil ?_
    refine v_seq ?_
    refine v_seq ?_
    refine v_region ?_
    refine vl_val (os_move rfl) ?_
    refine vl_call (nt_num w1.heap.size g v.ownBlock p 0 1 1 w2 hP2 (by omega) (by omega) ⟨rfl, by omega, by omega⟩) rfl ?_
    rintro u4 w4 ⟨rfl, hP4, k4⟩
    have hQg : w.heap.size ∉ [g] := by simp; omega
    have hQ4 := hQ2.kb k4 hQg
    have b4w := k4.below b2w (fun k hk => by simp at hk; omega) b2w.size
    have s4 := k4.size
    refine vl_val (os_assign rfl) ?_
    refine vl_nil ?_
    by_cases hp0 : p.length = 0
    · refine v_block ?_
      refine v_seq ?_
      refine v_region ?_
      refine vl_val (os_move rfl) ?_
      refine vl_val (os_len Try.underlying22 rfl) ?_
      refine vl_val (os_eql rfl rfl) ?_
      refine vl_val (os_assign rfl) ?_
      refine vl_nil ?_
      refine v_cond_yes rfl (by omega) ?_
      refine v_seq ?_
      refine v_region ?_
      refine vl_val (os_loadB Try.underlying65 rfl (by kernel_rfl) rfl (hQ4)) ?_
      refine vl_unit (ou_storeB (by kernel_rfl) rfl rfl hQ4 rfl rfl) ?_
      refine vl_val (os_assign rfl) ?_
      refine vl_val (os_assign rfl) ?_
      refine vl_nil ?_
      refine v_ret ?_
      exact post_cellt3 rfl rfl rfl rfl Try.underlying65 rfl (by kernel_rfl) (setRow_bk hQ4 zH) (fin w4 4 (by decide) (by rw [hEp]; unfold parseHE; rw [if_pos hp0]) b4w)
    · refine v_block ?_
      refine v_seq ?_
      refine v_region ?_
      refine vl_val (os_move rfl) ?_
      refine vl_val (os_len Try.underlying22 rfl) ?_
      refine vl_val (os_eql rfl rfl) ?_
      refine vl_val (os_assign rfl) ?_
      refine vl_nil ?_
      refine v_cond_no rfl (by omega) ?_
      have h0 : rdV p 0 1 = numAt p 0 1 := by unfold rdV; rw [if_pos (by omega)]
      rw [h0]
      by_cases hv : numAt p 0 1 = 1
      · refine v_seq ?_
        refine v_region ?_
        refine vl_val (os_move rfl) ?_
        refine vl_val (os_neq rfl rfl) ?_
        refine vl_val (os_assign rfl) ?_
        refine vl_nil ?_
        refine v_cond_no rfl (fun h => h hv) ?_
        refine v_skip ?_
        refine v_seq ?_
        refine v_region ?_
        refine vl_val (os_move rfl) ?_
        refine vl_call (hd_read w1.heap.size g v.ownBlock p w4 hP4 (by omega) (by omega) hy) rfl ?_
        rintro u5 w5 ⟨A5, l5, c5, rfl, hd5, hP5, k5, hlow⟩
        have hQ5 := hQ4.kb k5 hQg
        have b5w := k5.below b4w (fun k hk => by simp at hk; omega) b4w.size
        have s5 := k5.size
        refine vl_val (os_allocB Try.zeroValue65 (zc := _) (cs := zH) rfl) ?_
        have hM5 := bk_new w5 zH 65
        have b6a : Below w5.heap.size w5 (w5.alloc (.cells zH.toArray 65)) := (Below.refl _ _).alloc (Nat.le_refl _) _
        refine vl_unit (ou_storeB (by kernel_rfl) rfl rfl hM5 rfl rfl) ?_
        have hM6 := setRow_bk hM5 (HeadV.cells ⟨headR p, A5, l5, c5⟩)
        have b6 := below_setRow b6a (Nat.le_refl _) (HeadV.cells ⟨headR p, A5, l5, c5⟩).toArray
        obtain ⟨M, hM⟩ : ∃ M, M = w5.heap.size := ⟨_, rfl⟩
        obtain ⟨w6, hw6⟩ : ∃ w6, w6 = (w5.alloc (.cells zH.toArray 65)).setRow w5.heap.size (HeadV.cells ⟨headR p, A5, l5, c5⟩).toArray := ⟨_, rfl⟩
        rw [← hw6] at hM6 b6
        rw [← hw6, ← hM]
        rw [← hM] at hM6
        have hP6 := hP5.keep b6
        have hQ6 := hQ5.keep b6
        have hd6 := hd5.keep b6
        have b6w := b5w.trans (b6.mono b5w.size)
        have s6 := b6.size
        refine vl_nil ?_
        refine v_seq ?_
        refine v_region ?_
        refine vl_val (os_fa (o := 3) (k := 0) (by kernel_rfl) rfl) ?_
        refine vl_val (os_load Try.isAgg3 rfl (hM6.cell (i := 3) rfl)) ?_
        refine vl_val (os_fa (o := 5) (k := 0) (by kernel_rfl) rfl) ?_
        refine vl_val (os_load Try.isAgg63 rfl (hM6.cell (i := 5) rfl)) ?_
        refine vl_call (lay_Long (headR p).n A5 l5 c5 (headR p).rows w6 hd6.1 hd6.2.1 (by have := hd6.2.2.1; simp only [] at this; omega)) rfl ?_
        rintro v7 w7 ⟨rfl, b7⟩
        have hP7 := hP6.keep b7
        have hQ7 := hQ6.keep b7
        have hM7 := hM6.keep b7
        have hd7 := hd6.keep b7
        have b7w := b6w.trans (b7.mono b6w.size)
        have s7 := b7.size
        obtain ⟨m, hm⟩ : ∃ m, m = longV (headR p).n (headR p).rows := ⟨_, rfl⟩
        rw [← hm]
        refine vl_val (os_move rfl) ?_
        refine vl_val (os_extract rfl rfl) ?_
        refine vl_val (os_extract rfl rfl) ?_
        refine vl_val (os_assign rfl) ?_
        refine vl_val (os_assign rfl) ?_
        refine vl_nil ?_
        refine v_seq ?_
        refine v_region ?_
        refine vl_val (os_move rfl) ?_
        refine vl_val (os_move rfl) ?_
        refine vl_call (hd_take w1.heap.size g v.ownBlock p (14 + 3 * (rdV p 9 1).toNat) m w7 hP7 (by omega) (by omega)) rfl ?_
        rintro v8 w8 ⟨bs, pos', o8, hP8, k8, t1, t2, t3⟩
        have hQ8 := hQ7.kb k8 hQg
        have hM8 := hM7.kb k8 (by simp; omega)
        have hd8 : HeadOk w8 ⟨headR p, A5, l5, c5⟩ := ⟨RdP.kbS hd7.1 k8 fun a ha => by have := hlow a ha; simp; omega, hd7.2⟩
        have b8w := k8.below b7w (fun k hk => by simp at hk; omega) b7w.size
        obtain ⟨TE, TB⟩ := take_end hy pos' bs m hm t1 t2
        obtain ⟨v9, bs9, e9, hr9, hst9, -⟩ := hP8.ex
        have hend := end_pos hst9
        refine vl_val (os_assign rfl) ?_
        refine vl_nil ?_
        by_cases hE : pos' = p.length
        · cases hrt : rightH (headR p)
          · refine v_seq ?_
            refine v_seq ?_
            refine v_region ?_
            refine vl_val (os_move rfl) ?_
            refine vl_call (pk_End g v9 bs9 e9 w1.heap.size w8 hr9) rfl ?_
            rintro v10 w8 ⟨rfl, rfl⟩
            refine vl_val (os_f (os_neq rfl rfl) (fun h => h (hend.2 hE))) ?_
            refine vl_val (os_move rfl) ?_
            refine vl_valg rfl (os_loadB Try.underlying65 rfl (by kernel_rfl) rfl (hM8)) ?_
            refine vl_callg rfl (gives_boolb (hd_Right ⟨headR p, A5, l5, c5⟩ w8 hd8) hrt) rfl ?_
            rintro v11 w11 ⟨rfl, b11⟩
            have b11w := b8w.trans (b11.mono b8w.size)
            have hQ11 := hQ8.keep b11
            refine vl_valg rfl (os_not rfl) ?_
            refine vl_val (os_pick_f rfl rfl) ?_
            refine vl_nil ?_
            refine v_cond_t rfl ?_
            refine v_seq ?_
            refine v_region ?_
            refine vl_val (os_loadB Try.underlying65 rfl (by kernel_rfl) rfl (hQ11)) ?_
            refine vl_unit (ou_storeB (by kernel_rfl) rfl rfl hQ11 rfl rfl) ?_
            refine vl_val (os_assign rfl) ?_
            refine vl_val (os_assign rfl) ?_
            refine vl_nil ?_
            refine v_ret ?_
            exact post_cellt3 rfl rfl rfl rfl Try.underlying65 rfl (by kernel_rfl) (setRow_bk hQ11 zH) (fin w11 4 (by decide) (by rw [hEp]; unfold parseHE; rw [if_neg hp0, if_neg (fun h => h hv), if_neg (fun h => by have := (TE.1 h).2; rw [hrt] at this; cases this)]) b11w)
          · refine v_seq ?_
            refine v_seq ?_
            refine v_region ?_
            refine vl_val (os_move rfl) ?_
            refine vl_call (pk_End g v9 bs9 e9 w1.heap.size w8 hr9) rfl ?_
            rintro v10 w8 ⟨rfl, rfl⟩
            refine vl_val (os_f (os_neq rfl rfl) (fun h => h (hend.2 hE))) ?_
            refine vl_val (os_move rfl) ?_
            refine vl_valg rfl (os_loadB Try.underlying65 rfl (by kernel_rfl) rfl (hM8)) ?_
            refine vl_callg rfl (gives_boolb (hd_Right ⟨headR p, A5, l5, c5⟩ w8 hd8) hrt) rfl ?_
            rintro v11 w11 ⟨rfl, b11⟩
            have b11w := b8w.trans (b11.mono b8w.size)
            have hQ11 := hQ8.keep b11
            have hM11 := hM8.keep b11
            have hd11 := hd8.keep b11
            have o11 := Own.keepAll o8 b11
            refine vl_valg rfl (os_not rfl) ?_
            refine vl_val (os_pick_f rfl rfl) ?_
            refine vl_nil ?_
            refine v_cond_f rfl ?_
            refine v_skip ?_
            refine v_seq ?_
            refine v_region ?_
            refine vl_val (os_loadB Try.underlying65 rfl (by kernel_rfl) rfl (hM11)) ?_
            refine vl_val (os_move rfl) ?_
            refine vl_unit (ou_storeB (by kernel_rfl) rfl rfl hQ11 rfl rfl) ?_
            have hok := TE.2 ⟨hE, hrt⟩
            have hE3 : hdE zs = 0 := by rw [hEp]; unfold parseHE; rw [if_neg hp0, if_neg (fun h => h hv), if_pos hok]
            obtain ⟨eR, eB⟩ := TB hok
            have eP : hdP zs = headR p := by unfold hdP; rw [hE3, if_pos rfl, hp, eR]
            have eBd : hdB zs = bs := by unfold hdB; rw [hE3, if_pos rfl, hp, eB]
            have hd12 : HeadOk (w11.setRow w.heap.size (HeadV.cells ⟨headR p, A5, l5, c5⟩).toArray) ⟨headR p, A5, l5, c5⟩ := ⟨RdP.kbS hd11.1 (Kb.setRow (S := [w.heap.size]) (by simp) _) fun a ha => by have := hlow a ha; simp; omega, hd11.2⟩
            refine vl_val (os_assign rfl) ?_
            refine vl_val (os_assign rfl) ?_
            refine vl_nil ?_
            refine v_ret ?_
            exact post_cellt3 rfl rfl rfl rfl Try.underlying65 rfl (by kernel_rfl) (setRow_bk hQ11 (HeadV.cells ⟨headR p, A5, l5, c5⟩)) ⟨A5, l5, c5, _, by rw [hE3, eP], by rw [eP]; exact hd12, by rw [eBd]; exact Own.mono (Own.kb o11 (Kb.setRow (S := [w.heap.size]) (by simp) _) (fun z e hz => by have := (World.ownsRow.lt o11 z e).1; simp at hz; omega)) (by omega), below_setRow b11w (Nat.le_refl _) _⟩
        · refine v_seq ?_
          refine v_seq ?_
          refine v_region ?_
          refine vl_val (os_move rfl) ?_
          refine vl_call (pk_End g v9 bs9 e9 w1.heap.size w8 hr9) rfl ?_
          rintro v10 w8 ⟨rfl, rfl⟩
          refine vl_val (os_t (os_neq rfl rfl) (fun h => hE (hend.1 h))) ?_
          refine vl_val (os_move rfl) ?_
          refine vl_skip rfl rfl ?_
          refine vl_skip rfl rfl ?_
          refine vl_skip rfl rfl ?_
          refine vl_val (os_pick_t rfl rfl) ?_
          refine vl_nil ?_
          refine v_cond_t rfl ?_
          refine v_seq ?_
          refine v_region ?_
          refine vl_val (os_loadB Try.underlying65 rfl (by kernel_rfl) rfl (hQ8)) ?_
          refine vl_unit (ou_storeB (by kernel_rfl) rfl rfl hQ8 rfl rfl) ?_
          refine vl_val (os_assign rfl) ?_
          refine vl_val (os_assign rfl) ?_
          refine vl_nil ?_
          refine v_ret ?_
          exact post_cellt3 rfl rfl rfl rfl Try.underlying65 rfl (by kernel_rfl) (setRow_bk hQ8 zH) (fin w8 4 (by decide) (by rw [hEp]; unfold parseHE; rw [if_neg hp0, if_neg (fun h => h hv), if_neg (fun h => hE (TE.1 h).1)]) b8w)
      · refine v_seq ?_
        refine v_region ?_
        refine vl_val (os_move rfl) ?_
        refine vl_val (os_neq rfl rfl) ?_
        refine vl_val (os_assign rfl) ?_
        refine vl_nil ?_
        refine v_cond_yes rfl (hv) ?_
        refine v_seq ?_
        refine v_region ?_
        refine vl_val (os_loadB Try.underlying65 rfl (by kernel_rfl) rfl (hQ4)) ?_
        refine vl_unit (ou_storeB (by kernel_rfl) rfl rfl hQ4 rfl rfl) ?_
        refine vl_val (os_assign rfl) ?_
        refine vl_val (os_assign rfl) ?_
        refine vl_nil ?_
        refine v_ret ?_
        exact post_cellt3 rfl rfl rfl rfl Try.underlying65 rfl (by kernel_rfl) (setRow_bk hQ4 zH) (fin w4 11 (by decide) (by rw [hEp]; unfold parseHE; rw [if_neg hp0, if_pos hv]) b4w)
  · refine v_seq ?_
    refine v_seq ?_
    refine v_region ?_
    refine vl_val (os_move rfl) ?_
    refine vl_val (os_neq rfl rfl) ?_
    refine vl_nil ?_
    refine v_cond_yes rfl (he) ?_
    refine v_seq ?_
    refine v_region ?_
    refine vl_val (os_loadB Try.underlying65 rfl (by kernel_rfl) rfl (hQ1)) ?_
    refine vl_val (os_move rfl) ?_
    refine vl_unit (ou_storeB (by kernel_rfl) rfl rfl hQ1 rfl rfl) ?_
    refine vl_val (os_assign rfl) ?_
    refine vl_val (os_assign rfl) ?_
    refine vl_nil ?_
    refine v_ret ?_
    exact post_cellt3 rfl rfl rfl rfl Try.underlying65 rfl (by kernel_rfl) (setRow_bk hQ1 zH) (fin w1 (openE zs) he (by unfold hdE; rw [if_pos he]) b1w)
end Go.Proofs.Ytpojijnjdlnokaa
