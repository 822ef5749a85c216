/- Texts joined: SmP NtV. -/
import Derived.Test.YthaifamjgcfkaaaM11
/- Layer 7: the program's Seal and Open. -/
namespace Go.Proofs.Ythaifamjgcfkaaa
open Go.RowKit
set_option linter.unusedVariables false

set_option maxHeartbeats 1000000 in
theorem sum_Seal (A : Option Addr) (n c : Nat) (zs : List Int) (w : World) (ha : Rd w .u8 A zs) (hn : n = zs.length) (hc : n ≤ c) (hn' : n ≤ 10000000) (hz : AllB zs) :
    Gives Try.prog 14 #[.slice A n c] w fun v w' => OwnK w' w.heap.size 5 .u8 v (sealL zs) ∧ Below w.heap.size w w' := by
  refine gives_enter Try.call14 Try.func14 rfl rfl rfl (by kernel_rfl) ?_
  refine v_seq ?_
  refine v_region ?_
  refine vl_val (os_assign rfl) ?_
  refine vl_nil ?_
  refine v_seq ?_
  refine v_region ?_
  refine vl_val (os_move rfl) ?_
  refine vl_val (os_move rfl) ?_
  refine vl_val (os_lit Try.underlying128 Try.sizeOf22 Try.zeroValue22 rfl rfl rfl rfl (by decide)) ?_
  refine vl_call (sum_Of _ _ _ [zs] _ (rds_lit' _ .u8 _ [(A, n, c, zs)] (by intro x hx; simp only [List.mem_cons, List.not_mem_nil, or_false] at hx; subst hx; exact ⟨ha, hn, hc, by dsimp only; omega⟩)) rfl (by simp) (by intro l hl; simp only [List.mem_cons, List.not_mem_nil, or_false] at hl; subst hl; exact hz)) rfl ?_
  rintro v1 w1 ⟨rfl, b1⟩
  have ba : Below w.heap.size w (w.alloc (.cells [Value.slice A n c].toArray 22)) := (Below.refl _ _).alloc (Nat.le_refl _) _
  have b01 : Below w.heap.size w w1 := ba.trans (b1.mono ba.size)
  refine vl_call (sum_put (crcOf [zs]) w1) rfl ?_
  rintro v2 w2 ⟨⟨g2, rfl⟩, o2, b2⟩
  have b02 : Below w.heap.size w w2 := b01.trans (b2.mono b01.size)
  have bb : Below w2.heap.size w2 (w2.alloc (.cells [Value.slice A n c, .slice (some ⟨g2, 0, none⟩) 4 4].toArray 22)) := (Below.refl _ _).alloc (Nat.le_refl _) _
  refine vl_val (os_lit Try.underlying128 Try.sizeOf22 Try.zeroValue22 rfl rfl rfl rfl (by decide)) ?_
  refine vl_call (sl_Concat _ _ _ [zs, le4 (crcOf [zs])] _ (rds_lit' _ .u8 _ [(A, n, c, zs), (some ⟨g2, 0, none⟩, 4, 4, le4 (crcOf [zs]))] (by intro x hx; simp only [List.mem_cons, List.not_mem_nil, or_false] at hx; rcases hx with rfl | rfl; exact ⟨ha.keep b02, hn, hc, by dsimp only; omega⟩; exact ⟨OwnK.rd o2, rfl, Nat.le_refl _, by simp⟩)) rfl (by simp) (by simp [le4]; omega)) rfl ?_
  rintro v3 w3 ⟨o3, b3⟩
  refine vl_val (os_assign rfl) ?_
  refine vl_nil ?_
  refine v_ret ?_
  exact post_ret rfl rfl (⟨by rw [show sealL zs = [zs, le4 (crcOf [zs])].flatten by simp [sealL]]; exact Own.mono o3 (by have := b02.size; simp; omega), b02.trans ((bb.trans (b3.mono bb.size)).mono b02.size)⟩)
set_option maxHeartbeats 1000000 in
theorem sum_Open (A : Option Addr) (n c : Nat) (zs : List Int) (w : World) (ha : Rd w .u8 A zs) (hn : n = zs.length) (hc : n ≤ c) (hn' : n ≤ 10000000) (hz : AllB zs) :
    Gives Try.prog 44 #[.slice A n c] w fun v w' => ∃ s, v = .tuple #[s, .int .i64 (openE zs)] ∧ OwnK w' w.heap.size 5 .u8 s (openV zs) ∧ Below w.heap.size w w' := by
  refine gives_enter Try.call44 Try.func44 rfl rfl rfl (by kernel_rfl) ?_
  rcases Nat.lt_or_ge n 4 with h | h
  · refine v_seq ?_
    refine v_region ?_
    refine vl_val (os_assign rfl) ?_
    refine vl_val (os_assign rfl) ?_
    refine vl_nil ?_
    refine v_seq ?_
    refine v_region ?_
    refine vl_val (os_move rfl) ?_
    refine vl_val (os_len Try.underlying22 rfl) ?_
    refine vl_val (os_subi rfl rfl (by omega)) ?_
    refine vl_val (os_assign rfl) ?_
    refine vl_nil ?_
    refine v_seq ?_
    refine v_block ?_
    refine v_seq ?_
    refine v_region ?_
    refine vl_val (os_move rfl) ?_
    refine vl_val (os_lss rfl rfl) ?_
    refine vl_val (os_assign rfl) ?_
    refine vl_nil ?_
    refine v_cond_yes rfl (by omega) ?_
    have e1 : openE zs = 4 := by unfold openE; rw [if_pos (by omega)]
    refine v_seq ?_
    refine v_region ?_
    refine vl_val (os_assign rfl) ?_
    refine vl_val (os_assign rfl) ?_
    refine vl_nil ?_
    refine v_ret ?_
    exact post_ret2 rfl rfl rfl (⟨_, by rw [e1], by unfold openV; rw [e1]; exact Own.nil _ _ _, Below.refl _ _⟩)
  · refine v_seq ?_
    refine v_region ?_
    refine vl_val (os_assign rfl) ?_
    refine vl_val (os_assign rfl) ?_
    refine vl_nil ?_
    refine v_seq ?_
    refine v_region ?_
    refine vl_val (os_move rfl) ?_
    refine vl_val (os_len Try.underlying22 rfl) ?_
    refine vl_val (os_subi rfl rfl (by omega)) ?_
    refine vl_val (os_assign rfl) ?_
    refine vl_nil ?_
    refine v_seq ?_
    refine v_block ?_
    refine v_seq ?_
    refine v_region ?_
    refine vl_val (os_move rfl) ?_
    refine vl_val (os_lss rfl rfl) ?_
    refine vl_val (os_assign rfl) ?_
    refine vl_nil ?_
    refine v_cond_no rfl (by omega) ?_
    obtain ⟨m, hm⟩ : ∃ m, n = m + 4 := ⟨n - 4, by omega⟩
    have e0 : openE zs = if sealL (zs.take m) = zs then 0 else 10 := by unfold openE; rw [if_neg (by omega), show zs.length - 4 = m by omega]
    have hml : (zs.take m).length = m := by rw [List.length_take]; omega
    have hA0 := ha.led (w' := w.drewN 1) ⟨1, rfl⟩
    have ba : Below w.heap.size w ((w.drewN 1).alloc (.cells [Value.slice A m c].toArray 22)) := (led_below (w := w) ⟨1, rfl⟩).alloc (by simp) _
    refine v_seq ?_
    refine v_region_a mixed ?_
    refine va_pure 0 rfl (by kernel_rfl) (by kernel_rfl) (by kernel_rfl) (fun w => (os_move rfl)) ?_
    refine va_pure 1 rfl (by kernel_rfl) (by kernel_rfl) (by kernel_rfl) (fun w => (os_move rfl)) ?_
    refine va_pure 2 rfl (by kernel_rfl) (by kernel_rfl) (by kernel_rfl) (fun w => (os_slice_h Try.underlying22 Try.sizeOf5 rfl rfl (h := m) (by omega) (by omega))) ?_
    refine va_pure 6 rfl (by kernel_rfl) (by kernel_rfl) (by kernel_rfl) (fun w => (os_move rfl)) ?_
    refine va_pure 7 rfl (by kernel_rfl) (by kernel_rfl) (by kernel_rfl) (fun w => (os_move rfl)) ?_
    refine va_pure 8 rfl (by kernel_rfl) (by kernel_rfl) (by kernel_rfl) (fun w => (os_slice_l Try.underlying22 Try.sizeOf5 rfl rfl (i := m) (by omega) (by omega))) ?_
    refine va_one 3 (by kernel_rfl) ?_
    refine vn_val rfl (os_lit Try.underlying128 Try.sizeOf22 Try.zeroValue22 rfl rfl rfl rfl (by decide)) ?_
    refine va_one 4 (by kernel_rfl) ?_
    refine vn_call rfl (sum_Of _ _ _ [zs.take m] _ (rds_lit' _ .u8 _ [(A, m, c, zs.take m)] (by intro x hx; simp only [List.mem_cons, List.not_mem_nil, or_false] at hx; subst hx; exact ⟨hA0.take m, hml.symm, (by dsimp only; omega), by dsimp only; omega⟩)) rfl (by simp) (by intro l hl; simp only [List.mem_cons, List.not_mem_nil, or_false] at hl; subst hl; exact hz.take m)) rfl ?_
    rintro v1 w1 ⟨rfl, b1⟩
    have b01 : Below w.heap.size w w1 := ba.trans (b1.mono ba.size)
    refine va_one 5 (by kernel_rfl) ?_
    refine vn_call rfl (sum_put (crcOf [zs.take m]) w1) rfl ?_
    rintro v2 w2 ⟨⟨g2, rfl⟩, o2, b2⟩
    have b02 : Below w.heap.size w w2 := b01.trans (b2.mono b01.size)
    refine va_one 9 (by kernel_rfl) ?_
    refine vn_call rfl (sl_Equal _ _ _ _ _ _ (le4 (crcOf [zs.take m])) (zs.drop m) w2 (OwnK.rd o2) ((ha.keep b02).sliced (by omega)) rfl (by rw [List.length_drop]; omega) (by simp [le4]) (by omega)) rfl ?_
    rintro v3 w3 ⟨rfl, d3⟩
    have b03 : Below w.heap.size w w3 := b02.trans ((led_below d3).mono b02.size)
    refine va_pure 10 rfl (by kernel_rfl) (by kernel_rfl) (by kernel_rfl) (fun w => (os_not rfl)) ?_
    refine va_pure 11 rfl (by kernel_rfl) (by kernel_rfl) (by kernel_rfl) (fun w => (os_assign rfl)) ?_
    refine va_done (by kernel_rfl) ?_
    refine v_cond rfl (fun hs => ?_) (fun hs => ?_)
    · have hs' : ¬ le4 (crcOf [zs.take m]) = zs.drop m := by simpa using hs
      have e1 : openE zs = 10 := by rw [e0, if_neg (fun h => hs' ((seal_iff zs m).2 h))]
      refine v_seq ?_
      refine v_region ?_
      refine vl_val (os_assign rfl) ?_
      refine vl_val (os_assign rfl) ?_
      refine vl_nil ?_
      refine v_ret ?_
      exact post_ret2 rfl rfl rfl (⟨_, by rw [e1], by unfold openV; rw [e1]; exact Own.nil _ _ _, b03⟩)
    · have hs' : le4 (crcOf [zs.take m]) = zs.drop m := by simpa using hs
      have e1 : openE zs = 0 := by rw [e0, if_pos ((seal_iff zs m).1 hs')]
      have e2 : openV zs = zs.take m := by unfold openV; rw [if_pos e1, show zs.length - 4 = m by omega]
      refine v_skip ?_
      refine v_seq ?_
      refine v_region ?_
      refine vl_val (os_move rfl) ?_
      refine vl_val (os_move rfl) ?_
      refine vl_val (os_slice_h Try.underlying22 Try.sizeOf5 rfl rfl (h := m) (by omega) (by omega)) ?_
      refine vl_call (sl_Clone A m c (zs.take m) w3 ((ha.keep b03).take m) hml.symm (by omega)) rfl ?_
      rintro v4 w4 ⟨o4, b4⟩
      refine vl_val (os_assign rfl) ?_
      refine vl_val (os_assign rfl) ?_
      refine vl_nil ?_
      refine v_ret ?_
      exact post_ret2 rfl rfl rfl (⟨_, by rw [e1], by rw [e2]; exact Own.mono o4 b03.size, b03.trans (b4.mono b03.size)⟩)
end Go.Proofs.Ythaifamjgcfkaaa

/- Layer 15: what bytes are as a report. -/
namespace Go.Proofs.Ythaifamjgcfkaaa
open Go.RowKit
set_option linter.unusedVariables false

section
variable {P : Program} {n : Cx} {fr : Fr} {w : World} {fn : Func} {U : Value → World → Prop} {t t2 g : Nat} {T e : TypeId} {cs : List Value} {d : TypeDesc} {v2 : Value}
/-- two results, of which the first one lies in memory, a struct -/
theorem post_cellt (hf : fn.results = #[.cell t T, .tmp t2]) (hg : Fr.get fr t = some (.pointer (some ⟨g, 0, none⟩))) (hg2 : Fr.get fr t2 = some v2) (hu : P.underlying T = some d) (hd : (match d with | .struct _ | .array _ _ => true | _ => false) = true) (hs : (P.info? T).map (·.size) = some cs.length) (hB : Bk w g cs e) (h : U (.tuple #[.agg cs.toArray, v2]) w) : Post P n fn U .ret fr w := by
  unfold Post
  refine ⟨_, fun a ha => ?_, h⟩
  have := run_loadVar_row (P := P) w g e T cs.toArray (0, 0) d hB hu hd (by simpa using hs)
  have h1 : a.tmps.getD t undef = .pointer (some ⟨g, 0, none⟩) := by simp [Array.getD_eq_getD_getElem?, ha.at_ t _ hg]
  have h2 : a.tmps.getD t2 undef = v2 := by simp [Array.getD_eq_getD_getElem?, ha.at_ t2 _ hg2]
  simp only [Array.getD_eq_getD_getElem?] at h1 h2
  simp [results, hf, h1, h2, asAddr, this]
end
/-- what is told of bytes: an error, a report -/
def ntE (zs : List Int) : Int := if openE zs ≠ 0 then openE zs else parseE (openV zs)
def ntP (zs : List Int) : NoteP := if ntE zs = 0 then noteP (openV zs) else ⟨0, 0, 0, []⟩
def nN : NoteV := ⟨0, 0, 0, none, 0, 0, []⟩
theorem nN_ok (w : World) : NoteOk w nN := ⟨fun i c hc => by simp [nN] at hc, rfl, by decide, ⟨⟨by decide, by decide⟩, ⟨by decide, by decide⟩, by decide, by decide⟩, fun p hp => by cases hp⟩
theorem openV_len (zs : List Int) : (openV zs).length ≤ zs.length := by
  unfold openV
  split
  · rw [List.length_take]; omega
  · simp
theorem openV_Y {zs : List Int} (h : AllB zs) : AllY (openV zs) := by
  unfold openV
  split
  · exact fun z hz => h z (List.mem_of_mem_take hz)
  · intro z hz; cases hz
theorem rd_good {p : List Int} (hg : goodP p = true) : rdV p 1 2 = numAt p 1 2 ∧ rdV p 3 4 = numAt p 3 4 ∧ rdV p 7 1 = numAt p 7 1 ∧ rdV p 8 1 = numAt p 8 1 := by
  have h := (good_len hg).1
  unfold rdV
  rw [if_pos (by omega), if_pos (by omega), if_pos (by omega), if_pos (by omega)]
  exact ⟨rfl, rfl, rfl, rfl⟩
theorem cnts_good {p : List Int} {k : Nat} (h : p.length = 9 + 3 * k) : cntsR p k = cntsAt p 9 k := by
  unfold cntsR cntsAt
  refine List.map_congr_left fun j hj => ?_
  have hj := List.mem_range.1 hj
  unfold rdV
  rw [if_pos (by omega), if_pos (by omega)]
theorem note_good {p : List Int} (hy : AllY p) (hg : goodP p = true) : (⟨rdV p 1 2, rdV p 3 4, rdV p 7 1, cntsR p (rdV p 8 1).toNat⟩ : NoteP) = noteP p := by
  obtain ⟨h1, h2, h3, h4⟩ := rd_good hg
  have hb := numAt_bd hy 8 1
  have hl := good_len hg
  rw [h1, h2, h3, h4, cnts_good (by omega)]
  rfl
theorem end_good {p bs : List Int} {e : Int} (hy : AllY p) (h : RSt p (9 + 3 * (rdV p 8 1).toNat) bs e) : (if 0 < (if e = 0 then (bs.length : Int) else 0) then (4 : Int) else e) = 0 ↔ goodP p = true := by
  have hb := numAt_bd hy 8 1
  rcases h.1 with ⟨rfl, hp, rfl⟩ | ⟨he, hp⟩
  · have h8 : rdV p 8 1 = numAt p 8 1 := by unfold rdV; rw [if_pos (by omega)]
    have hdl : (p.drop (9 + 3 * (rdV p 8 1).toNat)).length = p.length - (9 + 3 * (rdV p 8 1).toNat) := List.length_drop
    rw [hdl]
    rw [h8] at hp ⊢
    unfold goodP
    simp only [if_true, decide_eq_true_eq]
    constructor
    · intro hh
      split at hh
      · cases hh
      · omega
    · intro hh
      rw [if_neg (by omega)]
  · have hne : ¬ goodP p = true := by
      intro hg
      have hl := good_len hg
      have h8 := (rd_good hg).2.2.2
      rw [h8] at hp
      omega
    rw [if_neg he, if_neg (by omega)]
    exact ⟨fun h => absurd h he, fun h => absurd h hne⟩
theorem NoteV.p_eq {d : NoteV} {q : NoteP} (h : d.p = q) : d.st = q.st ∧ d.sq = q.sq ∧ d.n = q.n ∧ d.cs = q.cs := by subst h; exact ⟨rfl, rfl, rfl, rfl⟩
theorem setRow_heap {w : World} {g k : Nat} {cs : Array Value} (h : g ≠ k) : (w.setRow g cs).heap[k]? = w.heap[k]? := by
  unfold World.setRow
  simp [Array.getElem?_modify, h]
def zN : List Value := [.int .i64 0, .int .i64 0, .int .i64 0, .slice none 0 0]
set_option maxHeartbeats 4000000 in
theorem nt_Parse (A : Option Addr) (n c : Nat) (zs : List Int) (w : World) (ha : Rd w .u8 A zs) (hn : n = zs.length) (hc : n ≤ c) (hn' : n ≤ 10000000) (hz : AllB zs) :
    Gives Try.prog 13 #[.slice A n c] w fun v w' => ∃ d : NoteV, v = .tuple #[.agg d.cells.toArray, .int .i64 (ntE zs)] ∧ d.p = ntP zs ∧ NoteOk w' d ∧ Below w.heap.size w w' := by
  have hQ0 := bk_new w zN 28
  have bQ : Below w.heap.size w (w.alloc (.cells zN.toArray 28)) := (Below.refl _ w).alloc (Nat.le_refl _) _
  have hsQ : (w.alloc (.cells zN.toArray 28)).heap.size = w.heap.size + 1 := by simp
  obtain ⟨w0, hw0⟩ : ∃ w0, w0 = w.alloc (.cells zN.toArray 28) := ⟨_, rfl⟩
  rw [← hw0] at hQ0 bQ hsQ
  have hy := openV_Y hz
  have hpl := openV_len zs
  refine gives_enter Try.call13 Try.func13 rfl rfl rfl (by kernel_rfl) ?_
  refine v_seq ?_
  refine v_region ?_
  refine vl_val (os_allocB Try.zeroValue28 (zc := _) (cs := zN) rfl) ?_
  rw [← hw0]
  refine vl_val (os_assign rfl) ?_
  refine vl_nil ?_
  refine v_seq ?_
  refine v_region ?_
  refine vl_val (os_move rfl) ?_
  refine vl_call (sum_Open A n c zs w0 (ha.keep bQ) hn hc hn' hz) rfl ?_
  rintro v1 w1 ⟨s1, rfl, o1, b1⟩
  have hQ1 := hQ0.keep b1
  have b1w := bQ.trans (b1.mono bQ.size)
  have s1' := b1.size
  have fin : ∀ (w9 : World) (x : Int), x ≠ 0 → ntE zs = x → Below w.heap.size w w9 → ∃ d : NoteV, (.tuple #[.agg zN.toArray, .int .i64 x] : Value) = .tuple #[.agg d.cells.toArray, .int .i64 (ntE zs)] ∧ d.p = ntP zs ∧ NoteOk (w9.setRow w.heap.size zN.toArray) d ∧ Below w.heap.size w (w9.setRow w.heap.size zN.toArray) := fun w9 x hx hE hb => ⟨nN, by rw [hE]; rfl, by unfold ntP; rw [hE, if_neg hx]; rfl, nN_ok _, below_setRow hb (Nat.le_refl _) _⟩
  refine vl_val (os_move rfl) ?_
  refine vl_val (os_extract rfl rfl) ?_
  refine vl_val (os_extract rfl rfl) ?_
  refine vl_val (os_assign rfl) ?_
  refine vl_val (os_assign rfl) ?_
  refine vl_nil ?_
  by_cases he : openE zs = 0
  · have hEp : ntE zs = parseE (openV zs) := by unfold ntE; rw [if_neg (fun h => h he)]
    refine v_seq ?_
    refine v_seq ?_
    refine v_region ?_
    refine vl_val (os_move rfl) ?_
    refine vl_val (os_neq rfl rfl) ?_
    refine vl_nil ?_
    refine v_cond_no rfl (fun h => h he) ?_
    generalize hp : openV zs = p at *
    obtain ⟨A1, c1, rfl, hc1, hm1, r1, -⟩ := OwnK.form o1
    by_cases hp0 : p.length = 0
    · refine v_skip ?_
      refine v_seq ?_
      refine v_seq ?_
      refine v_region ?_
      refine vl_val (os_move rfl) ?_
      refine vl_val (os_len Try.underlying22 rfl) ?_
      refine vl_val (os_eql rfl rfl) ?_
      refine vl_nil ?_
      refine v_cond_yes rfl (by omega) ?_
      refine v_seq ?_
      refine v_region ?_
      refine vl_val (os_build (cs := zN) rfl (by kernel_rfl)) ?_
      refine vl_unit (ou_storeB (by kernel_rfl) rfl rfl hQ1 rfl rfl) ?_
      refine vl_val (os_assign rfl) ?_
      refine vl_nil ?_
      refine v_ret ?_
      exact post_cellt rfl rfl rfl Try.underlying28 rfl (by kernel_rfl) (setRow_bk hQ1 zN) (fin w1 4 (by decide) (by rw [hEp]; unfold parseE; rw [if_pos hp0]) b1w)
    · refine v_skip ?_
      refine v_seq ?_
      refine v_seq ?_
      refine v_region ?_
      refine vl_val (os_move rfl) ?_
      refine vl_val (os_len Try.underlying22 rfl) ?_
      refine vl_val (os_eql rfl rfl) ?_
      refine vl_nil ?_
      refine v_cond_no rfl (by omega) ?_
      refine v_skip ?_
      refine v_seq ?_
      refine v_region ?_
      refine vl_val (os_move rfl) ?_
      refine vl_call (pk_Over A1 p.length c1 p w1 r1 rfl (by omega)) rfl ?_
      rintro v2 w2 ⟨g, v, rfl, hr2, b2⟩
      have hP2 : RP w2 w1.heap.size g v.ownBlock p 0 := ⟨v, p, 0, hr2, ⟨.inl ⟨rfl, Nat.zero_le _, by simp⟩, hy, Nat.le_refl _⟩, rfl⟩
      have hQ2 := hQ1.keep b2
      have b2w := b1w.trans (b2.mono b1w.size)
      have hg2 := hP2.lt
      refine vl_val (os_build (cs := [.pointer (some ⟨g, 0, none⟩)]) rfl (by kernel_rfl)) ?_
      refine vl_val (os_allocB Try.zeroValue85 (zc := _) (cs := [.pointer none]) rfl) ?_
      have hR2 := bk_new w2 [.pointer none] 85
      have b3a : Below w2.heap.size w2 (w2.alloc (.cells [Value.pointer none].toArray 85)) := (Below.refl _ _).alloc (Nat.le_refl _) _
      refine vl_unit (ou_storeB (by kernel_rfl) rfl rfl hR2 rfl rfl) ?_
      have hR3 := setRow_bk hR2 [.pointer (some ⟨g, 0, none⟩)]
      have b3 := below_setRow b3a (Nat.le_refl _) [Value.pointer (some ⟨g, 0, none⟩)].toArray
      obtain ⟨R, hR⟩ : ∃ R, R = w2.heap.size := ⟨_, rfl⟩
      generalize hw3 : (w2.alloc (.cells [Value.pointer none].toArray 85)).setRow w2.heap.size [Value.pointer (some ⟨g, 0, none⟩)].toArray = w3 at *
      rw [← hR] at hR3
      rw [← hR]
      have hP3 := hP2.keep b3
      have hQ3 := hQ2.keep b3
      have b3w := b2w.trans (b3.mono b2w.size)
      have s2 := b2.size
      have s3 := b3.size
      refine vl_nil ?_
      refine v_seq ?_
      refine v_seq ?_
      refine v_region ?_
      refine vl_val (os_fa (o := 0) (k := 0) (by kernel_rfl) rfl) ?_
      refine vl_val (os_load Try.isAgg82 rfl (hR3.cell (i := 0) rfl)) ?_
      refine vl_call (nt_num w1.heap.size g v.ownBlock p 0 1 1 w3 hP3 (by omega) (by omega) ⟨rfl, by omega, by omega⟩) rfl ?_
      rintro u4 w4 ⟨rfl, hP4, k4⟩
      have hQg : w.heap.size ∉ [g] := by simp; omega
      have hRg : R ∉ [g] := by simp; omega
      have hQ4 := hQ3.kb k4 hQg
      have hR4 := hR3.kb k4 hRg
      have b4w := k4.below b3w (fun k hk => by simp at hk; omega) b3w.size
      have s4 := k4.size
      have h0 : rdV p 0 1 = numAt p 0 1 := by unfold rdV; rw [if_pos (by omega)]
      rw [h0]
      refine vl_val (os_neq rfl rfl) ?_
      refine vl_nil ?_
      by_cases hv : numAt p 0 1 = 2
      · refine v_cond_no rfl (fun h => h hv) ?_
        refine v_skip ?_
        refine v_seq ?_
        refine v_seq ?_
        refine v_region ?_
        refine vl_val (os_loadB Try.underlying85 rfl (by kernel_rfl) rfl (hR4)) ?_
        refine vl_call (nt_note w1.heap.size g v.ownBlock p w4 hP4 (by omega) (by omega) hy) rfl ?_
        rintro u5 w5 ⟨d, rfl, f1, f2, f3, f4, hd, hP5, k5, hlow⟩
        have hQ5 := hQ4.kb k5 hQg
        have hR5 := hR4.kb k5 hRg
        have b5w := k5.below b4w (fun k hk => by simp at hk; omega) b4w.size
        have s5 := k5.size
        refine vl_val (os_allocB Try.zeroValue28 (zc := _) (cs := zN) rfl) ?_
        have hM5 := bk_new w5 zN 28
        have b6a : Below w5.heap.size w5 (w5.alloc (.cells zN.toArray 28)) := (Below.refl _ _).alloc (Nat.le_refl _) _
        refine vl_unit (ou_storeB (by kernel_rfl) rfl rfl hM5 rfl rfl) ?_
        have hM6 := setRow_bk hM5 d.cells
        have b6 := below_setRow b6a (Nat.le_refl _) d.cells.toArray
        obtain ⟨M, hM⟩ : ∃ M, M = w5.heap.size := ⟨_, rfl⟩
        generalize hw6 : (w5.alloc (.cells zN.toArray 28)).setRow w5.heap.size d.cells.toArray = w6 at *
        rw [← hM] at hM6
        rw [← hM]
        have hP6 := hP5.keep b6
        have hQ6 := hQ5.keep b6
        have hR6 := hR5.keep b6
        have hd6 := hd.keep b6
        have b6w := b5w.trans (b6.mono b5w.size)
        obtain ⟨v6, bs6, e6, hr6, hst6, -⟩ := hP6.ex
        have hend := end_good hy hst6
        refine vl_nil ?_
        by_cases hg : goodP p = true
        · have hdp : d.p = noteP p := by rw [← note_good hy hg]; show (⟨d.st, d.sq, d.n, d.cs⟩ : NoteP) = _; rw [f1, f2, f3, f4]
          have hE2 : ntE zs = if rightP (noteP p) then 0 else 4 := by rw [hEp]; unfold parseE; rw [if_neg hp0, if_neg (fun h => h hv), hg, Bool.true_and]
          cases hrt : rightN d
          · refine v_seq ?_
            refine v_region ?_
            refine vl_val (os_fa (o := 0) (k := 0) (by kernel_rfl) rfl) ?_
            refine vl_val (os_load Try.isAgg82 rfl (hR6.cell (i := 0) rfl)) ?_
            refine vl_call (pk_End g v6 bs6 e6 w1.heap.size w6 hr6) rfl ?_
            rintro v7 w6 ⟨rfl, rfl⟩
            refine vl_val (os_t (os_eql rfl rfl) (hend.2 hg)) ?_
            refine vl_val (os_move rfl) ?_
            refine vl_valg rfl (os_loadB Try.underlying28 rfl (by kernel_rfl) rfl (hM6)) ?_
            refine vl_callg rfl (gives_boolb (nt_Right d w6 hd6) hrt) rfl ?_
            rintro v8 w8 ⟨rfl, b8⟩
            have b8w := b6w.trans (b8.mono b6w.size)
            have hQ8 := hQ6.keep b8
            refine vl_val (os_pick_t rfl rfl) ?_
            refine vl_nil ?_
            refine v_cond_f rfl ?_
            refine v_skip ?_
            refine v_seq ?_
            refine v_region ?_
            refine vl_val (os_build (cs := zN) rfl (by kernel_rfl)) ?_
            refine vl_unit (ou_storeB (by kernel_rfl) rfl rfl hQ8 rfl rfl) ?_
            refine vl_val (os_assign rfl) ?_
            refine vl_nil ?_
            refine v_ret ?_
            exact post_cellt rfl rfl rfl Try.underlying28 rfl (by kernel_rfl) (setRow_bk hQ8 zN) (fin w8 4 (by decide) (by rw [hE2, ← hdp, ← rightN_p, hrt]; rfl) b8w)
          · refine v_seq ?_
            refine v_region ?_
            refine vl_val (os_fa (o := 0) (k := 0) (by kernel_rfl) rfl) ?_
            refine vl_val (os_load Try.isAgg82 rfl (hR6.cell (i := 0) rfl)) ?_
            refine vl_call (pk_End g v6 bs6 e6 w1.heap.size w6 hr6) rfl ?_
            rintro v7 w6 ⟨rfl, rfl⟩
            refine vl_val (os_t (os_eql rfl rfl) (hend.2 hg)) ?_
            refine vl_val (os_move rfl) ?_
            refine vl_valg rfl (os_loadB Try.underlying28 rfl (by kernel_rfl) rfl (hM6)) ?_
            refine vl_callg rfl (gives_boolb (nt_Right d w6 hd6) hrt) rfl ?_
            rintro v8 w8 ⟨rfl, b8⟩
            have b8w := b6w.trans (b8.mono b6w.size)
            have hQ8 := hQ6.keep b8
            have hM8 := hM6.keep b8
            have hd8 := hd6.keep b8
            refine vl_val (os_pick_t rfl rfl) ?_
            refine vl_nil ?_
            refine v_cond_t rfl ?_
            refine v_seq ?_
            refine v_region ?_
            refine vl_val (os_loadB Try.underlying28 rfl (by kernel_rfl) rfl (hM8)) ?_
            refine vl_unit (ou_storeB (by kernel_rfl) rfl rfl hQ8 rfl rfl) ?_
            have hE3 : ntE zs = 0 := by rw [hE2, ← hdp, ← rightN_p, hrt]; rfl
            have hd9 : NoteOk (w8.setRow w.heap.size d.cells.toArray) d := hd8.blk fun a ha => setRow_heap (by have := hlow a ha; omega)
            refine vl_val (os_assign rfl) ?_
            refine vl_nil ?_
            refine v_ret ?_
            exact post_cellt rfl rfl rfl Try.underlying28 rfl (by kernel_rfl) (setRow_bk hQ8 d.cells) ⟨d, by rw [hE3], by unfold ntP; rw [hE3, if_pos rfl, hp]; exact hdp, hd9, below_setRow b8w (Nat.le_refl _) _⟩
        · refine v_seq ?_
          refine v_region ?_
          refine vl_val (os_fa (o := 0) (k := 0) (by kernel_rfl) rfl) ?_
          refine vl_val (os_load Try.isAgg82 rfl (hR6.cell (i := 0) rfl)) ?_
          refine vl_call (pk_End g v6 bs6 e6 w1.heap.size w6 hr6) rfl ?_
          rintro v7 w6 ⟨rfl, rfl⟩
          refine vl_val (os_f (os_eql rfl rfl) (fun h => hg (hend.1 h))) ?_
          refine vl_val (os_move rfl) ?_
          refine vl_skip rfl rfl ?_
          refine vl_skip rfl rfl ?_
          refine vl_val (os_pick_f rfl rfl) ?_
          refine vl_nil ?_
          refine v_cond_f rfl ?_
          refine v_skip ?_
          refine v_seq ?_
          refine v_region ?_
          refine vl_val (os_build (cs := zN) rfl (by kernel_rfl)) ?_
          refine vl_unit (ou_storeB (by kernel_rfl) rfl rfl hQ6 rfl rfl) ?_
          refine vl_val (os_assign rfl) ?_
          refine vl_nil ?_
          refine v_ret ?_
          exact post_cellt rfl rfl rfl Try.underlying28 rfl (by kernel_rfl) (setRow_bk hQ6 zN) (fin w6 4 (by decide) (by rw [hEp]; unfold parseE; rw [if_neg hp0, if_neg (fun h => h hv), show goodP p = false by simpa using hg]; rfl) b6w)
      · refine v_cond_yes rfl (hv) ?_
        refine v_seq ?_
        refine v_region ?_
        refine vl_val (os_build (cs := zN) rfl (by kernel_rfl)) ?_
        refine vl_unit (ou_storeB (by kernel_rfl) rfl rfl hQ4 rfl rfl) ?_
        refine vl_val (os_assign rfl) ?_
        refine vl_nil ?_
        refine v_ret ?_
        exact post_cellt rfl rfl rfl Try.underlying28 rfl (by kernel_rfl) (setRow_bk hQ4 zN) (fin w4 11 (by decide) (by rw [hEp]; unfold parseE; rw [if_neg hp0, if_pos hv]) b4w)
  · refine v_seq ?_
    refine v_seq ?_
    refine v_region ?_
    refine vl_val (os_move rfl) ?_
    refine vl_val (os_neq rfl rfl) ?_
    refine vl_nil ?_
    refine v_cond_yes rfl (he) ?_
    refine v_seq ?_
    refine v_region ?_
    refine vl_val (os_build (cs := zN) rfl (by kernel_rfl)) ?_
    refine vl_val (os_move rfl) ?_
    refine vl_unit (ou_storeB (by kernel_rfl) rfl rfl hQ1 rfl rfl) ?_
    refine vl_val (os_assign rfl) ?_
    refine vl_nil ?_
    refine v_ret ?_
    exact post_cellt rfl rfl rfl Try.underlying28 rfl (by kernel_rfl) (setRow_bk hQ1 zN) (fin w1 (openE zs) he (by unfold ntE; rw [if_pos he]) b1w)
end Go.Proofs.Ythaifamjgcfkaaa
