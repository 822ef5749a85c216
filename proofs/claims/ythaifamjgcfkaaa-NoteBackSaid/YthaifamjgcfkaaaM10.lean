/- Texts joined: NtR. -/
import Derived.Test.YthaifamjgcfkaaaM9
/- Layer 15: a report is read. -/
namespace Go.Proofs.Ythaifamjgcfkaaa
open Go.RowKit
set_option linter.unusedVariables false

/-- behind so many bytes that were asked for -/
def RSt (p : List Int) (pos : Nat) (bs : List Int) (e : Int) : Prop := ((e = 0 ∧ pos ≤ p.length ∧ bs = p.drop pos) ∨ (e ≠ 0 ∧ p.length < pos)) ∧ AllY bs ∧ bs.length ≤ p.length
def rdV (p : List Int) (pos s : Nat) : Int := if pos + s ≤ p.length then numAt p pos s else 0
theorem rst_step {p : List Int} {pos : Nat} {bs : List Int} {e : Int} {s : Nat} (h : RSt p pos bs e) (hs : 1 ≤ s ∧ s ≤ 4) :
    RSt p (pos + s) (if rnOk e s bs then bs.drop s else bs) (rnErr e s bs) ∧ (if rnOk e s bs then numOf (bs.take s) else 0) = rdV p pos s := by
  obtain ⟨h1, h2, h3⟩ := h
  rcases h1 with ⟨rfl, hp, rfl⟩ | ⟨he, hp⟩
  · have hdl : (p.drop pos).length = p.length - pos := List.length_drop
    by_cases hc : pos + s ≤ p.length
    · have ho : rnOk 0 s (p.drop pos) = true := by unfold rnOk; rw [hdl]; simp; omega
      have hee : rnErr 0 s (p.drop pos) = 0 := by unfold rnErr; rw [if_pos rfl, if_pos (by omega), if_pos (by rw [hdl]; omega)]
      rw [ho, hee]
      simp only [if_true]
      refine ⟨⟨.inl ⟨rfl, hc, by rw [List.drop_drop]⟩, h2.drop s, by rw [List.length_drop]; omega⟩, ?_⟩
      unfold rdV numAt
      rw [if_pos hc]
    · have ho : rnOk 0 s (p.drop pos) = false := by unfold rnOk; rw [hdl]; simp; omega
      have hee : rnErr 0 s (p.drop pos) = 4 := by unfold rnErr; rw [if_pos rfl, if_pos (by omega), if_neg (by rw [hdl]; omega)]
      rw [ho, hee]
      refine ⟨⟨.inr ⟨by decide, by omega⟩, h2, h3⟩, ?_⟩
      unfold rdV
      rw [if_neg hc]; rfl
  · have ho : rnOk e s bs = false := by unfold rnOk; simp [he]
    have hee : rnErr e s bs = e := by unfold rnErr; rw [if_neg he]
    rw [ho, hee]
    refine ⟨⟨.inr ⟨he, by omega⟩, h2, h3⟩, ?_⟩
    have hn : ¬ pos + s ≤ p.length := by omega
    unfold rdV
    rw [if_neg hn]; rfl
theorem rdV_bd {p : List Int} (h : AllY p) (pos s : Nat) : 0 ≤ rdV p pos s ∧ rdV p pos s < 256 ^ s := by
  unfold rdV
  split
  · exact numAt_bd h pos s
  · exact ⟨by omega, Int.pow_pos (by decide)⟩
/-- a reader over p, behind so many bytes that were asked for -/
structure RP (w : World) (B g : Nat) (V : Option Nat) (p : List Int) (pos : Nat) : Prop where
  ex : ∃ v bs e, RrS w B g v bs e ∧ RSt p pos bs e ∧ v.ownBlock = V
theorem RP.lt {w B g V p pos} (h : RP w B g V p pos) : g < w.heap.size ∧ B ≤ g ∧ ∀ k, V = some k → k < w.heap.size ∧ B ≤ k ∧ k ≠ g := by
  obtain ⟨v, bs, e, h1, h2, rfl⟩ := h.ex
  exact ⟨h1.bk.lt, h1.low, fun k hk => ⟨(h1.row k hk).2.1, (h1.row k hk).1, (h1.row k hk).2.2⟩⟩
theorem RP.kb {w w' B g V p pos S} (h : RP w B g V p pos) (hb : Kb S w w') (hg : g ∉ S) (hV : ∀ k, V = some k → k ∉ S) : RP w' B g V p pos := by
  obtain ⟨v, bs, e, h1, h2, h3⟩ := h.ex
  obtain ⟨A, c, rfl, f1, f2, f3⟩ := h1.form
  refine ⟨_, bs, e, ⟨h1.bk.kb hb hg, ⟨A, c, rfl, f1, f2, f3.kb hb fun b o ea => by subst ea; exact hV b h3.symm⟩, h1.low, fun b hb2 => ⟨(h1.row b hb2).1, Nat.lt_of_lt_of_le (h1.row b hb2).2.1 hb.size, (h1.row b hb2).2.2⟩⟩, h2, h3⟩
theorem RP.keep {w w' B g V p pos} (h : RP w B g V p pos) (hb : Below w.heap.size w w') : RP w' B g V p pos := h.kb (S := []) (Kb.of_below hb) (by simp) (fun _ _ => by simp)
theorem nt_num (B g : Nat) (V : Option Nat) (p : List Int) (pos : Nat) (size : Int) (s : Nat) (w : World) (h : RP w B g V p pos) (hB : B ≤ w.heap.size) (hl : p.length ≤ 10000000) (hs : size = (s : Int) ∧ 1 ≤ s ∧ s ≤ 4) :
    Gives Try.prog 46 #[.pointer (some ⟨g, 0, none⟩), .int .i64 size] w fun u w' => u = .int .i64 (rdV p pos s) ∧ RP w' B g V p (pos + s) ∧ Kb [g] w w' := by
  obtain ⟨rfl, hs⟩ := hs
  obtain ⟨v, bs, e, h1, h2, h3⟩ := h.ex
  obtain ⟨h4, h5⟩ := rst_step h2 hs
  refine (pk_RNumber g v bs e s B w h1 hB (by have := h2.2.2; omega) h2.2.1).mono fun u w' ⟨v', e1, r1, k1, o1⟩ => ?_
  rw [Int.toNat_natCast] at e1 r1
  exact ⟨by rw [e1, h5], ⟨v', _, _, r1, h4, o1.trans h3⟩, k1⟩

def cntsR (p : List Int) (k : Nat) : List (Int × Int) := (List.range k).map fun j => (rdV p (9 + 3 * j) 1, rdV p (10 + 3 * j) 2)
theorem cntsR_succ (p : List Int) (k : Nat) : cntsR p (k + 1) = cntsR p k ++ [(rdV p (9 + 3 * k) 1, rdV p (10 + 3 * k) 2)] := by simp [cntsR, List.range_succ]
theorem cntsR_len (p : List Int) (k : Nat) : (cntsR p k).length = k := by simp [cntsR]
theorem i64_rd {p : List Int} (h : AllY p) (pos s : Nat) (hs : s ≤ 4) : I64 (rdV p pos s) := by
  have h1 := rdV_bd h pos s
  have h2 := pow256 hs
  have h3 : (256 : Int) ^ 4 = 4294967296 := by decide
  exact ⟨by omega, by omega⟩
theorem one4' {a b c : Int} {v : Value} (h : v.oneCell' = true) : oneCells [.int .i64 a, .int .i64 b, .int .i64 c, v] = true := by
  show (true && (true && (true && (v.oneCell' && true)))) = true
  rw [h]; rfl
theorem OwnP.one' {w B t s v ps} (h : OwnP w B t s v ps) : v.oneCell' = true := by
  obtain ⟨A, c, rfl, _⟩ := h.form
  rfl
set_option maxHeartbeats 4000000 in
theorem nt_note (B g : Nat) (V : Option Nat) (p : List Int) (w : World) (h : RP w B g V p 1) (hB : B ≤ w.heap.size) (hl : p.length ≤ 10000000) (hy : AllY p) :
    Gives Try.prog 47 #[.agg #[.pointer (some ⟨g, 0, none⟩)]] w fun u w' => ∃ d : NoteV, u = .agg d.cells.toArray ∧ d.st = rdV p 1 2 ∧ d.sq = rdV p 3 4 ∧ d.n = rdV p 7 1 ∧ d.cs = cntsR p (rdV p 8 1).toNat ∧ NoteOk w' d ∧ RP w' B g V p (9 + 3 * (rdV p 8 1).toNat) ∧ Kb [g] w w' ∧ ∀ a, d.A = some a → w.heap.size ≤ a.block := by
  obtain ⟨hg, hgB, hV⟩ := h.lt
  obtain ⟨R, hR⟩ : ∃ R, R = w.heap.size := ⟨_, rfl⟩
  obtain ⟨N, hN⟩ : ∃ N, N = w.heap.size + 1 := ⟨_, rfl⟩
  obtain ⟨w1, hw1⟩ : ∃ w1, w1 = (w.alloc (.cells [Value.pointer (some ⟨g, 0, none⟩)].toArray 85)).alloc (.cells [Value.int .i64 0, .int .i64 0, .int .i64 0, .slice none 0 0].toArray 28) := ⟨_, rfl⟩
  have hR1 : Bk w1 R [.pointer (some ⟨g, 0, none⟩)] 85 := by rw [hw1, hR]; exact (bk_new w _ _).alloc _
  have hN1 : Bk w1 N [.int .i64 0, .int .i64 0, .int .i64 0, .slice none 0 0] 28 := by
    rw [hw1, hN]
    have := bk_new (w.alloc (.cells [Value.pointer (some ⟨g, 0, none⟩)].toArray 85)) [.int .i64 0, .int .i64 0, .int .i64 0, .slice none 0 0] 28
    rwa [World.size_alloc] at this
  have hb1 : Below w.heap.size w w1 := by rw [hw1]; exact ((Below.refl _ w).alloc (Nat.le_refl _) _).alloc (by simp) _
  have hs1 : w1.heap.size = w.heap.size + 2 := by rw [hw1]; simp
  have hP1 := h.keep hb1
  have b0 : Below w1.heap.size w1 { w1 with drawn := w1.drawn + 1 } := (Below.refl _ _).drew
  have hRg : R ∉ [g] := by simp; omega
  have hNg : N ∉ [g] := by simp; omega
  have hK := rdV_bd hy 8 1
  have hK2 : (256 : Int) ^ 1 = 256 := by decide
  refine gives_enter Try.call47 Try.func47 rfl rfl rfl (by kernel_rfl) ?_
  refine v_seq ?_
  refine v_region ?_
  refine vl_val (os_box rfl) ?_
  refine vl_val (os_allocB Try.zeroValue28 (zc := _) (cs := [.int .i64 0, .int .i64 0, .int .i64 0, .slice none 0 0]) rfl) ?_
  have hw1' : w1 = (w.alloc (.cells (Value.agg #[.pointer (some ⟨g, 0, none⟩)]).cells 85)).alloc (.cells [Value.int .i64 0, .int .i64 0, .int .i64 0, .slice none 0 0].toArray 28) := hw1
  rw [← hw1']
  simp only [World.size_alloc]
  rw [← hN, ← hR]
  refine vl_nil ?_
  refine v_mid [(2, _)] (fun (x : Nat) => [(1, .pointer (some ⟨R, 0, none⟩))]) (fun x w' => Bk w' N [.int .i64 (rdV p 1 2), .int .i64 (rdV p 3 4), .int .i64 (rdV p 7 1), .slice none 0 0] 28 ∧ Bk w' R [.pointer (some ⟨g, 0, none⟩)] 85 ∧ RP w' B g V p 8 ∧ Kb [g] w w') ⟨rfl, trivial⟩ ?_ ?_
  · refine v_region_a mixed ?_
    refine va_pure 0 rfl (by kernel_rfl) (by kernel_rfl) (by kernel_rfl) (fun w => (os_fa (o := 0) (k := 0) (by kernel_rfl) rfl)) ?_
    refine va_pure 3 rfl (by kernel_rfl) (by kernel_rfl) (by kernel_rfl) (fun w => (os_fa (o := 0) (k := 0) (by kernel_rfl) rfl)) ?_
    refine va_pure 6 rfl (by kernel_rfl) (by kernel_rfl) (by kernel_rfl) (fun w => (os_fa (o := 0) (k := 0) (by kernel_rfl) rfl)) ?_
    refine va_three 1 4 7 (by kernel_rfl) ?_ ?_ ?_
    · refine vn_val rfl (os_load Try.isAgg82 rfl ((by exact (hR1.keep b0).cell (i := 0) rfl))) ?_
      refine va_three 2 4 7 (by kernel_rfl) ?_ ?_ ?_
      · refine vn_call rfl (nt_num B g V p 1 2 2 _ (hP1.keep b0) (by have := b0.size; omega) hl ⟨rfl, by omega, by omega⟩) rfl ?_
        rintro u5 w5 ⟨rfl, hP5, k5⟩
        have hR5 := (hR1.keep b0).kb k5 hRg
        have hN5 := (hN1.keep b0).kb k5 hNg
        have s5 := k5.size
        refine va_pure 9 rfl (by kernel_rfl) (by kernel_rfl) (by kernel_rfl) (fun w => (os_fa (o := 0) (k := 0) (by kernel_rfl) rfl)) ?_
        refine va_two 4 7 (by kernel_rfl) ?_ ?_
        · refine vn_val rfl (os_load Try.isAgg82 rfl ((by first | exact hR5.cell (i := 0) rfl | exact (hR1.keep b0).cell (i := 0) rfl))) ?_
          refine va_two 5 7 (by kernel_rfl) ?_ ?_
          · refine vn_call rfl (nt_num B g V p 3 4 4 w5 hP5 (by have := b0.size; omega) hl ⟨rfl, by omega, by omega⟩) rfl ?_
            rintro u8 w8 ⟨rfl, hP8, k8⟩
            have hR8 := hR5.kb k8 hRg
            have hN8 := hN5.kb k8 hNg
            have s8 := k8.size
            refine va_one 7 (by kernel_rfl) ?_
            refine vn_val rfl (os_load Try.isAgg82 rfl ((by first | exact hR8.cell (i := 0) rfl | exact hR5.cell (i := 0) rfl | exact (hR1.keep b0).cell (i := 0) rfl))) ?_
            refine va_one 8 (by kernel_rfl) ?_
            refine vn_call rfl (nt_num B g V p 7 1 1 w8 hP8 (by have := b0.size; omega) hl ⟨rfl, by omega, by omega⟩) rfl ?_
            rintro u11 w11 ⟨rfl, hP11, k11⟩
            have hR11 := hR8.kb k11 hRg
            have hN11 := hN8.kb k11 hNg
            refine va_one 10 (by kernel_rfl) ?_
            refine vn_unit rfl (ou_store Try.sizeOf3 rfl rfl rfl (hN11.cell (i := 0) rfl) (hN11.free _)) ?_
            have hN12 := hN11.set 0 (.int .i64 (rdV p 1 2))
            refine va_pure 11 rfl (by kernel_rfl) (by kernel_rfl) (by kernel_rfl) (fun w => (os_fa (o := 1) (k := 0) (by kernel_rfl) rfl)) ?_
            refine va_one 12 (by kernel_rfl) ?_
            refine vn_unit rfl (ou_store Try.sizeOf3 rfl rfl rfl (hN12.cell (i := 1) rfl) (hN12.free _)) ?_
            have hN13 := hN12.set 1 (.int .i64 (rdV p 3 4))
            refine va_pure 13 rfl (by kernel_rfl) (by kernel_rfl) (by kernel_rfl) (fun w => (os_fa (o := 2) (k := 0) (by kernel_rfl) rfl)) ?_
            refine va_one 14 (by kernel_rfl) ?_
            refine vn_unit rfl (ou_store Try.sizeOf3 rfl rfl rfl (hN13.cell (i := 2) rfl) (hN13.free _)) ?_
            have kS : Kb [N] w11 (((w11.setCell ⟨N, 0 + 0, none⟩ (.int .i64 (rdV p 1 2))).setCell ⟨N, 0 + 1, none⟩ (.int .i64 (rdV p 3 4))).setCell ⟨N, 0 + 2, none⟩ (.int .i64 (rdV p 7 1))) := (Kb.set (S := [N]) (by simp) _ _).trans ((Kb.set (S := [N]) (by simp) _ _).trans (Kb.set (S := [N]) (by simp) _ _) (fun k hk => .inl hk)) (fun k hk => .inl hk)
            have k11w : Kb [g] w w11 := (Kb.of_below (S := [g]) (hb1.trans (b0.mono hb1.size))).trans ((k5.trans k8 (fun k hk => .inl hk)).trans k11 (fun k hk => .inl hk)) (fun k hk => .inl hk)
            refine va_done (by kernel_rfl) ?_
            exact ⟨0, ⟨rfl, trivial⟩, ⟨rfl, trivial⟩, ⟨hN13.set 2 _, hR11.kb kS (by simp; omega), hP11.kb kS (by simp; omega) (fun k hk => by have := hV k hk; simp; omega), k11w.trans kS (fun k hk => .inr (by simp at hk; omega))⟩⟩
          · refine vn_val rfl (os_load Try.isAgg82 rfl ((by first | exact hR8.cell (i := 0) rfl | exact hR5.cell (i := 0) rfl | exact (hR1.keep b0).cell (i := 0) rfl))) ?_
            refine va_one 5 (by kernel_rfl) ?_
            refine vn_call rfl (nt_num B g V p 3 4 4 w5 hP5 (by have := b0.size; omega) hl ⟨rfl, by omega, by omega⟩) rfl ?_
            rintro u8 w8 ⟨rfl, hP8, k8⟩
            have hR8 := hR5.kb k8 hRg
            have hN8 := hN5.kb k8 hNg
            have s8 := k8.size
            refine va_one 8 (by kernel_rfl) ?_
            refine vn_call rfl (nt_num B g V p 7 1 1 w8 hP8 (by have := b0.size; omega) hl ⟨rfl, by omega, by omega⟩) rfl ?_
            rintro u11 w11 ⟨rfl, hP11, k11⟩
            have hR11 := hR8.kb k11 hRg
            have hN11 := hN8.kb k11 hNg
            refine va_one 10 (by kernel_rfl) ?_
            refine vn_unit rfl (ou_store Try.sizeOf3 rfl rfl rfl (hN11.cell (i := 0) rfl) (hN11.free _)) ?_
            have hN12 := hN11.set 0 (.int .i64 (rdV p 1 2))
            refine va_pure 11 rfl (by kernel_rfl) (by kernel_rfl) (by kernel_rfl) (fun w => (os_fa (o := 1) (k := 0) (by kernel_rfl) rfl)) ?_
            refine va_one 12 (by kernel_rfl) ?_
            refine vn_unit rfl (ou_store Try.sizeOf3 rfl rfl rfl (hN12.cell (i := 1) rfl) (hN12.free _)) ?_
            have hN13 := hN12.set 1 (.int .i64 (rdV p 3 4))
            refine va_pure 13 rfl (by kernel_rfl) (by kernel_rfl) (by kernel_rfl) (fun w => (os_fa (o := 2) (k := 0) (by kernel_rfl) rfl)) ?_
            refine va_one 14 (by kernel_rfl) ?_
            refine vn_unit rfl (ou_store Try.sizeOf3 rfl rfl rfl (hN13.cell (i := 2) rfl) (hN13.free _)) ?_
            have kS : Kb [N] w11 (((w11.setCell ⟨N, 0 + 0, none⟩ (.int .i64 (rdV p 1 2))).setCell ⟨N, 0 + 1, none⟩ (.int .i64 (rdV p 3 4))).setCell ⟨N, 0 + 2, none⟩ (.int .i64 (rdV p 7 1))) := (Kb.set (S := [N]) (by simp) _ _).trans ((Kb.set (S := [N]) (by simp) _ _).trans (Kb.set (S := [N]) (by simp) _ _) (fun k hk => .inl hk)) (fun k hk => .inl hk)
            have k11w : Kb [g] w w11 := (Kb.of_below (S := [g]) (hb1.trans (b0.mono hb1.size))).trans ((k5.trans k8 (fun k hk => .inl hk)).trans k11 (fun k hk => .inl hk)) (fun k hk => .inl hk)
            refine va_done (by kernel_rfl) ?_
            exact ⟨0, ⟨rfl, trivial⟩, ⟨rfl, trivial⟩, ⟨hN13.set 2 _, hR11.kb kS (by simp; omega), hP11.kb kS (by simp; omega) (fun k hk => by have := hV k hk; simp; omega), k11w.trans kS (fun k hk => .inr (by simp at hk; omega))⟩⟩
        · refine vn_val rfl (os_load Try.isAgg82 rfl ((by first | exact hR8.cell (i := 0) rfl | exact hR5.cell (i := 0) rfl | exact (hR1.keep b0).cell (i := 0) rfl))) ?_
          refine va_one 4 (by kernel_rfl) ?_
          refine vn_val rfl (os_load Try.isAgg82 rfl ((by first | exact hR5.cell (i := 0) rfl | exact (hR1.keep b0).cell (i := 0) rfl))) ?_
          refine va_one 5 (by kernel_rfl) ?_
          refine vn_call rfl (nt_num B g V p 3 4 4 w5 hP5 (by have := b0.size; omega) hl ⟨rfl, by omega, by omega⟩) rfl ?_
          rintro u8 w8 ⟨rfl, hP8, k8⟩
          have hR8 := hR5.kb k8 hRg
          have hN8 := hN5.kb k8 hNg
          have s8 := k8.size
          refine va_one 8 (by kernel_rfl) ?_
          refine vn_call rfl (nt_num B g V p 7 1 1 w8 hP8 (by have := b0.size; omega) hl ⟨rfl, by omega, by omega⟩) rfl ?_
          rintro u11 w11 ⟨rfl, hP11, k11⟩
          have hR11 := hR8.kb k11 hRg
          have hN11 := hN8.kb k11 hNg
          refine va_one 10 (by kernel_rfl) ?_
          refine vn_unit rfl (ou_store Try.sizeOf3 rfl rfl rfl (hN11.cell (i := 0) rfl) (hN11.free _)) ?_
          have hN12 := hN11.set 0 (.int .i64 (rdV p 1 2))
          refine va_pure 11 rfl (by kernel_rfl) (by kernel_rfl) (by kernel_rfl) (fun w => (os_fa (o := 1) (k := 0) (by kernel_rfl) rfl)) ?_
          refine va_one 12 (by kernel_rfl) ?_
          refine vn_unit rfl (ou_store Try.sizeOf3 rfl rfl rfl (hN12.cell (i := 1) rfl) (hN12.free _)) ?_
          have hN13 := hN12.set 1 (.int .i64 (rdV p 3 4))
          refine va_pure 13 rfl (by kernel_rfl) (by kernel_rfl) (by kernel_rfl) (fun w => (os_fa (o := 2) (k := 0) (by kernel_rfl) rfl)) ?_
          refine va_one 14 (by kernel_rfl) ?_
          refine vn_unit rfl (ou_store Try.sizeOf3 rfl rfl rfl (hN13.cell (i := 2) rfl) (hN13.free _)) ?_
          have kS : Kb [N] w11 (((w11.setCell ⟨N, 0 + 0, none⟩ (.int .i64 (rdV p 1 2))).setCell ⟨N, 0 + 1, none⟩ (.int .i64 (rdV p 3 4))).setCell ⟨N, 0 + 2, none⟩ (.int .i64 (rdV p 7 1))) := (Kb.set (S := [N]) (by simp) _ _).trans ((Kb.set (S := [N]) (by simp) _ _).trans (Kb.set (S := [N]) (by simp) _ _) (fun k hk => .inl hk)) (fun k hk => .inl hk)
          have k11w : Kb [g] w w11 := (Kb.of_below (S := [g]) (hb1.trans (b0.mono hb1.size))).trans ((k5.trans k8 (fun k hk => .inl hk)).trans k11 (fun k hk => .inl hk)) (fun k hk => .inl hk)
          refine va_done (by kernel_rfl) ?_
          exact ⟨0, ⟨rfl, trivial⟩, ⟨rfl, trivial⟩, ⟨hN13.set 2 _, hR11.kb kS (by simp; omega), hP11.kb kS (by simp; omega) (fun k hk => by have := hV k hk; simp; omega), k11w.trans kS (fun k hk => .inr (by simp at hk; omega))⟩⟩
      · refine vn_val rfl (os_load Try.isAgg82 rfl ((by first | exact hR5.cell (i := 0) rfl | exact (hR1.keep b0).cell (i := 0) rfl))) ?_
        refine va_two 2 7 (by kernel_rfl) ?_ ?_
        · refine vn_call rfl (nt_num B g V p 1 2 2 _ (hP1.keep b0) (by have := b0.size; omega) hl ⟨rfl, by omega, by omega⟩) rfl ?_
          rintro u5 w5 ⟨rfl, hP5, k5⟩
          have hR5 := (hR1.keep b0).kb k5 hRg
          have hN5 := (hN1.keep b0).kb k5 hNg
          have s5 := k5.size
          refine va_pure 9 rfl (by kernel_rfl) (by kernel_rfl) (by kernel_rfl) (fun w => (os_fa (o := 0) (k := 0) (by kernel_rfl) rfl)) ?_
          refine va_two 5 7 (by kernel_rfl) ?_ ?_
          · refine vn_call rfl (nt_num B g V p 3 4 4 w5 hP5 (by have := b0.size; omega) hl ⟨rfl, by omega, by omega⟩) rfl ?_
            rintro u8 w8 ⟨rfl, hP8, k8⟩
            have hR8 := hR5.kb k8 hRg
            have hN8 := hN5.kb k8 hNg
            have s8 := k8.size
            refine va_one 7 (by kernel_rfl) ?_
            refine vn_val rfl (os_load Try.isAgg82 rfl ((by first | exact hR8.cell (i := 0) rfl | exact hR5.cell (i := 0) rfl | exact (hR1.keep b0).cell (i := 0) rfl))) ?_
            refine va_one 8 (by kernel_rfl) ?_
            refine vn_call rfl (nt_num B g V p 7 1 1 w8 hP8 (by have := b0.size; omega) hl ⟨rfl, by omega, by omega⟩) rfl ?_
            rintro u11 w11 ⟨rfl, hP11, k11⟩
            have hR11 := hR8.kb k11 hRg
            have hN11 := hN8.kb k11 hNg
            refine va_one 10 (by kernel_rfl) ?_
            refine vn_unit rfl (ou_store Try.sizeOf3 rfl rfl rfl (hN11.cell (i := 0) rfl) (hN11.free _)) ?_
            have hN12 := hN11.set 0 (.int .i64 (rdV p 1 2))
            refine va_pure 11 rfl (by kernel_rfl) (by kernel_rfl) (by kernel_rfl) (fun w => (os_fa (o := 1) (k := 0) (by kernel_rfl) rfl)) ?_
            refine va_one 12 (by kernel_rfl) ?_
            refine vn_unit rfl (ou_store Try.sizeOf3 rfl rfl rfl (hN12.cell (i := 1) rfl) (hN12.free _)) ?_
            have hN13 := hN12.set 1 (.int .i64 (rdV p 3 4))
            refine va_pure 13 rfl (by kernel_rfl) (by kernel_rfl) (by kernel_rfl) (fun w => (os_fa (o := 2) (k := 0) (by kernel_rfl) rfl)) ?_
            refine va_one 14 (by kernel_rfl) ?_
            refine vn_unit rfl (ou_store Try.sizeOf3 rfl rfl rfl (hN13.cell (i := 2) rfl) (hN13.free _)) ?_
            have kS : Kb [N] w11 (((w11.setCell ⟨N, 0 + 0, none⟩ (.int .i64 (rdV p 1 2))).setCell ⟨N, 0 + 1, none⟩ (.int .i64 (rdV p 3 4))).setCell ⟨N, 0 + 2, none⟩ (.int .i64 (rdV p 7 1))) := (Kb.set (S := [N]) (by simp) _ _).trans ((Kb.set (S := [N]) (by simp) _ _).trans (Kb.set (S := [N]) (by simp) _ _) (fun k hk => .inl hk)) (fun k hk => .inl hk)
            have k11w : Kb [g] w w11 := (Kb.of_below (S := [g]) (hb1.trans (b0.mono hb1.size))).trans ((k5.trans k8 (fun k hk => .inl hk)).trans k11 (fun k hk => .inl hk)) (fun k hk => .inl hk)
            refine va_done (by kernel_rfl) ?_
            exact ⟨0, ⟨rfl, trivial⟩, ⟨rfl, trivial⟩, ⟨hN13.set 2 _, hR11.kb kS (by simp; omega), hP11.kb kS (by simp; omega) (fun k hk => by have := hV k hk; simp; omega), k11w.trans kS (fun k hk => .inr (by simp at hk; omega))⟩⟩
          · refine vn_val rfl (os_load Try.isAgg82 rfl ((by first | exact hR8.cell (i := 0) rfl | exact hR5.cell (i := 0) rfl | exact (hR1.keep b0).cell (i := 0) rfl))) ?_
            refine va_one 5 (by kernel_rfl) ?_
            refine vn_call rfl (nt_num B g V p 3 4 4 w5 hP5 (by have := b0.size; omega) hl ⟨rfl, by omega, by omega⟩) rfl ?_
            rintro u8 w8 ⟨rfl, hP8, k8⟩
            have hR8 := hR5.kb k8 hRg
            have hN8 := hN5.kb k8 hNg
            have s8 := k8.size
            refine va_one 8 (by kernel_rfl) ?_
            refine vn_call rfl (nt_num B g V p 7 1 1 w8 hP8 (by have := b0.size; omega) hl ⟨rfl, by omega, by omega⟩) rfl ?_
            rintro u11 w11 ⟨rfl, hP11, k11⟩
            have hR11 := hR8.kb k11 hRg
            have hN11 := hN8.kb k11 hNg
            refine va_one 10 (by kernel_rfl) ?_
            refine vn_unit rfl (ou_store Try.sizeOf3 rfl rfl rfl (hN11.cell (i := 0) rfl) (hN11.free _)) ?_
            have hN12 := hN11.set 0 (.int .i64 (rdV p 1 2))
            refine va_pure 11 rfl (by kernel_rfl) (by kernel_rfl) (by kernel_rfl) (fun w => (os_fa (o := 1) (k := 0) (by kernel_rfl) rfl)) ?_
            refine va_one 12 (by kernel_rfl) ?_
            refine vn_unit rfl (ou_store Try.sizeOf3 rfl rfl rfl (hN12.cell (i := 1) rfl) (hN12.free _)) ?_
            have hN13 := hN12.set 1 (.int .i64 (rdV p 3 4))
            refine va_pure 13 rfl (by kernel_rfl) (by kernel_rfl) (by kernel_rfl) (fun w => (os_fa (o := 2) (k := 0) (by kernel_rfl) rfl)) ?_
            refine va_one 14 (by kernel_rfl) ?_
            refine vn_unit rfl (ou_store Try.sizeOf3 rfl rfl rfl (hN13.cell (i := 2) rfl) (hN13.free _)) ?_
            have kS : Kb [N] w11 (((w11.setCell ⟨N, 0 + 0, none⟩ (.int .i64 (rdV p 1 2))).setCell ⟨N, 0 + 1, none⟩ (.int .i64 (rdV p 3 4))).setCell ⟨N, 0 + 2, none⟩ (.int .i64 (rdV p 7 1))) := (Kb.set (S := [N]) (by simp) _ _).trans ((Kb.set (S := [N]) (by simp) _ _).trans (Kb.set (S := [N]) (by simp) _ _) (fun k hk => .inl hk)) (fun k hk => .inl hk)
            have k11w : Kb [g] w w11 := (Kb.of_below (S := [g]) (hb1.trans (b0.mono hb1.size))).trans ((k5.trans k8 (fun k hk => .inl hk)).trans k11 (fun k hk => .inl hk)) (fun k hk => .inl hk)
            refine va_done (by kernel_rfl) ?_
            exact ⟨0, ⟨rfl, trivial⟩, ⟨rfl, trivial⟩, ⟨hN13.set 2 _, hR11.kb kS (by simp; omega), hP11.kb kS (by simp; omega) (fun k hk => by have := hV k hk; simp; omega), k11w.trans kS (fun k hk => .inr (by simp at hk; omega))⟩⟩
        · refine vn_val rfl (os_load Try.isAgg82 rfl ((by first | exact hR8.cell (i := 0) rfl | exact hR5.cell (i := 0) rfl | exact (hR1.keep b0).cell (i := 0) rfl))) ?_
          refine va_one 2 (by kernel_rfl) ?_
          refine vn_call rfl (nt_num B g V p 1 2 2 _ (hP1.keep b0) (by have := b0.size; omega) hl ⟨rfl, by omega, by omega⟩) rfl ?_
          rintro u5 w5 ⟨rfl, hP5, k5⟩
          have hR5 := (hR1.keep b0).kb k5 hRg
          have hN5 := (hN1.keep b0).kb k5 hNg
          have s5 := k5.size
          refine va_pure 9 rfl (by kernel_rfl) (by kernel_rfl) (by kernel_rfl) (fun w => (os_fa (o := 0) (k := 0) (by kernel_rfl) rfl)) ?_
          refine va_one 5 (by kernel_rfl) ?_
          refine vn_call rfl (nt_num B g V p 3 4 4 w5 hP5 (by have := b0.size; omega) hl ⟨rfl, by omega, by omega⟩) rfl ?_
          rintro u8 w8 ⟨rfl, hP8, k8⟩
          have hR8 := hR5.kb k8 hRg
          have hN8 := hN5.kb k8 hNg
          have s8 := k8.size
          refine va_one 8 (by kernel_rfl) ?_
          refine vn_call rfl (nt_num B g V p 7 1 1 w8 hP8 (by have := b0.size; omega) hl ⟨rfl, by omega, by omega⟩) rfl ?_
          rintro u11 w11 ⟨rfl, hP11, k11⟩
          have hR11 := hR8.kb k11 hRg
          have hN11 := hN8.kb k11 hNg
          refine va_one 10 (by kernel_rfl) ?_
          refine vn_unit rfl (ou_store Try.sizeOf3 rfl rfl rfl (hN11.cell (i := 0) rfl) (hN11.free _)) ?_
          have hN12 := hN11.set 0 (.int .i64 (rdV p 1 2))
          refine va_pure 11 rfl (by kernel_rfl) (by kernel_rfl) (by kernel_rfl) (fun w => (os_fa (o := 1) (k := 0) (by kernel_rfl) rfl)) ?_
          refine va_one 12 (by kernel_rfl) ?_
          refine vn_unit rfl (ou_store Try.sizeOf3 rfl rfl rfl (hN12.cell (i := 1) rfl) (hN12.free _)) ?_
          have hN13 := hN12.set 1 (.int .i64 (rdV p 3 4))
          refine va_pure 13 rfl (by kernel_rfl) (by kernel_rfl) (by kernel_rfl) (fun w => (os_fa (o := 2) (k := 0) (by kernel_rfl) rfl)) ?_
          refine va_one 14 (by kernel_rfl) ?_
          refine vn_unit rfl (ou_store Try.sizeOf3 rfl rfl rfl (hN13.cell (i := 2) rfl) (hN13.free _)) ?_
          have kS : Kb [N] w11 (((w11.setCell ⟨N, 0 + 0, none⟩ (.int .i64 (rdV p 1 2))).setCell ⟨N, 0 + 1, none⟩ (.int .i64 (rdV p 3 4))).setCell ⟨N, 0 + 2, none⟩ (.int .i64 (rdV p 7 1))) := (Kb.set (S := [N]) (by simp) _ _).trans ((Kb.set (S := [N]) (by simp) _ _).trans (Kb.set (S := [N]) (by simp) _ _) (fun k hk => .inl hk)) (fun k hk => .inl hk)
          have k11w : Kb [g] w w11 := (Kb.of_below (S := [g]) (hb1.trans (b0.mono hb1.size))).trans ((k5.trans k8 (fun k hk => .inl hk)).trans k11 (fun k hk => .inl hk)) (fun k hk => .inl hk)
          refine va_done (by kernel_rfl) ?_
          exact ⟨0, ⟨rfl, trivial⟩, ⟨rfl, trivial⟩, ⟨hN13.set 2 _, hR11.kb kS (by simp; omega), hP11.kb kS (by simp; omega) (fun k hk => by have := hV k hk; simp; omega), k11w.trans kS (fun k hk => .inr (by simp at hk; omega))⟩⟩
      · refine vn_val rfl (os_load Try.isAgg82 rfl ((by first | exact hR8.cell (i := 0) rfl | exact hR5.cell (i := 0) rfl | exact (hR1.keep b0).cell (i := 0) rfl))) ?_
        refine va_two 2 4 (by kernel_rfl) ?_ ?_
        · refine vn_call rfl (nt_num B g V p 1 2 2 _ (hP1.keep b0) (by have := b0.size; omega) hl ⟨rfl, by omega, by omega⟩) rfl ?_
          rintro u5 w5 ⟨rfl, hP5, k5⟩
          have hR5 := (hR1.keep b0).kb k5 hRg
          have hN5 := (hN1.keep b0).kb k5 hNg
          have s5 := k5.size
          refine va_pure 9 rfl (by kernel_rfl) (by kernel_rfl) (by kernel_rfl) (fun w => (os_fa (o := 0) (k := 0) (by kernel_rfl) rfl)) ?_
          refine va_one 4 (by kernel_rfl) ?_
          refine vn_val rfl (os_load Try.isAgg82 rfl ((by first | exact hR5.cell (i := 0) rfl | exact (hR1.keep b0).cell (i := 0) rfl))) ?_
          refine va_one 5 (by kernel_rfl) ?_
          refine vn_call rfl (nt_num B g V p 3 4 4 w5 hP5 (by have := b0.size; omega) hl ⟨rfl, by omega, by omega⟩) rfl ?_
          rintro u8 w8 ⟨rfl, hP8, k8⟩
          have hR8 := hR5.kb k8 hRg
          have hN8 := hN5.kb k8 hNg
          have s8 := k8.size
          refine va_one 8 (by kernel_rfl) ?_
          refine vn_call rfl (nt_num B g V p 7 1 1 w8 hP8 (by have := b0.size; omega) hl ⟨rfl, by omega, by omega⟩) rfl ?_
          rintro u11 w11 ⟨rfl, hP11, k11⟩
          have hR11 := hR8.kb k11 hRg
          have hN11 := hN8.kb k11 hNg
          refine va_one 10 (by kernel_rfl) ?_
          refine vn_unit rfl (ou_store Try.sizeOf3 rfl rfl rfl (hN11.cell (i := 0) rfl) (hN11.free _)) ?_
          have hN12 := hN11.set 0 (.int .i64 (rdV p 1 2))
          refine va_pure 11 rfl (by kernel_rfl) (by kernel_rfl) (by kernel_rfl) (fun w => (os_fa (o := 1) (k := 0) (by kernel_rfl) rfl)) ?_
          refine va_one 12 (by kernel_rfl) ?_
          refine vn_unit rfl (ou_store Try.sizeOf3 rfl rfl rfl (hN12.cell (i := 1) rfl) (hN12.free _)) ?_
          have hN13 := hN12.set 1 (.int .i64 (rdV p 3 4))
          refine va_pure 13 rfl (by kernel_rfl) (by kernel_rfl) (by kernel_rfl) (fun w => (os_fa (o := 2) (k := 0) (by kernel_rfl) rfl)) ?_
          refine va_one 14 (by kernel_rfl) ?_
          refine vn_unit rfl (ou_store Try.sizeOf3 rfl rfl rfl (hN13.cell (i := 2) rfl) (hN13.free _)) ?_
          have kS : Kb [N] w11 (((w11.setCell ⟨N, 0 + 0, none⟩ (.int .i64 (rdV p 1 2))).setCell ⟨N, 0 + 1, none⟩ (.int .i64 (rdV p 3 4))).setCell ⟨N, 0 + 2, none⟩ (.int .i64 (rdV p 7 1))) := (Kb.set (S := [N]) (by simp) _ _).trans ((Kb.set (S := [N]) (by simp) _ _).trans (Kb.set (S := [N]) (by simp) _ _) (fun k hk => .inl hk)) (fun k hk => .inl hk)
          have k11w : Kb [g] w w11 := (Kb.of_below (S := [g]) (hb1.trans (b0.mono hb1.size))).trans ((k5.trans k8 (fun k hk => .inl hk)).trans k11 (fun k hk => .inl hk)) (fun k hk => .inl hk)
          refine va_done (by kernel_rfl) ?_
          exact ⟨0, ⟨rfl, trivial⟩, ⟨rfl, trivial⟩, ⟨hN13.set 2 _, hR11.kb kS (by simp; omega), hP11.kb kS (by simp; omega) (fun k hk => by have := hV k hk; simp; omega), k11w.trans kS (fun k hk => .inr (by simp at hk; omega))⟩⟩
        · refine vn_val rfl (os_load Try.isAgg82 rfl ((by first | exact hR5.cell (i := 0) rfl | exact (hR1.keep b0).cell (i := 0) rfl))) ?_
          refine va_one 2 (by kernel_rfl) ?_
          refine vn_call rfl (nt_num B g V p 1 2 2 _ (hP1.keep b0) (by have := b0.size; omega) hl ⟨rfl, by omega, by omega⟩) rfl ?_
          rintro u5 w5 ⟨rfl, hP5, k5⟩
          have hR5 := (hR1.keep b0).kb k5 hRg
          have hN5 := (hN1.keep b0).kb k5 hNg
          have s5 := k5.size
          refine va_pure 9 rfl (by kernel_rfl) (by kernel_rfl) (by kernel_rfl) (fun w => (os_fa (o := 0) (k := 0) (by kernel_rfl) rfl)) ?_
          refine va_one 5 (by kernel_rfl) ?_
          refine vn_call rfl (nt_num B g V p 3 4 4 w5 hP5 (by have := b0.size; omega) hl ⟨rfl, by omega, by omega⟩) rfl ?_
          rintro u8 w8 ⟨rfl, hP8, k8⟩
          have hR8 := hR5.kb k8 hRg
          have hN8 := hN5.kb k8 hNg
          have s8 := k8.size
          refine va_one 8 (by kernel_rfl) ?_
          refine vn_call rfl (nt_num B g V p 7 1 1 w8 hP8 (by have := b0.size; omega) hl ⟨rfl, by omega, by omega⟩) rfl ?_
          rintro u11 w11 ⟨rfl, hP11, k11⟩
          have hR11 := hR8.kb k11 hRg
          have hN11 := hN8.kb k11 hNg
          refine va_one 10 (by kernel_rfl) ?_
          refine vn_unit rfl (ou_store Try.sizeOf3 rfl rfl rfl (hN11.cell (i := 0) rfl) (hN11.free _)) ?_
          have hN12 := hN11.set 0 (.int .i64 (rdV p 1 2))
          refine va_pure 11 rfl (by kernel_rfl) (by kernel_rfl) (by kernel_rfl) (fun w => (os_fa (o := 1) (k := 0) (by kernel_rfl) rfl)) ?_
          refine va_one 12 (by kernel_rfl) ?_
          refine vn_unit rfl (ou_store Try.sizeOf3 rfl rfl rfl (hN12.cell (i := 1) rfl) (hN12.free _)) ?_
          have hN13 := hN12.set 1 (.int .i64 (rdV p 3 4))
          refine va_pure 13 rfl (by kernel_rfl) (by kernel_rfl) (by kernel_rfl) (fun w => (os_fa (o := 2) (k := 0) (by kernel_rfl) rfl)) ?_
          refine va_one 14 (by kernel_rfl) ?_
          refine vn_unit rfl (ou_store Try.sizeOf3 rfl rfl rfl (hN13.cell (i := 2) rfl) (hN13.free _)) ?_
          have kS : Kb [N] w11 (((w11.setCell ⟨N, 0 + 0, none⟩ (.int .i64 (rdV p 1 2))).setCell ⟨N, 0 + 1, none⟩ (.int .i64 (rdV p 3 4))).setCell ⟨N, 0 + 2, none⟩ (.int .i64 (rdV p 7 1))) := (Kb.set (S := [N]) (by simp) _ _).trans ((Kb.set (S := [N]) (by simp) _ _).trans (Kb.set (S := [N]) (by simp) _ _) (fun k hk => .inl hk)) (fun k hk => .inl hk)
          have k11w : Kb [g] w w11 := (Kb.of_below (S := [g]) (hb1.trans (b0.mono hb1.size))).trans ((k5.trans k8 (fun k hk => .inl hk)).trans k11 (fun k hk => .inl hk)) (fun k hk => .inl hk)
          refine va_done (by kernel_rfl) ?_
          exact ⟨0, ⟨rfl, trivial⟩, ⟨rfl, trivial⟩, ⟨hN13.set 2 _, hR11.kb kS (by simp; omega), hP11.kb kS (by simp; omega) (fun k hk => by have := hV k hk; simp; omega), k11w.trans kS (fun k hk => .inr (by simp at hk; omega))⟩⟩
    · refine vn_val rfl (os_load Try.isAgg82 rfl ((by first | exact hR5.cell (i := 0) rfl | exact (hR1.keep b0).cell (i := 0) rfl))) ?_
      refine va_two 1 7 (by kernel_rfl) ?_ ?_
      · refine vn_val rfl (os_load Try.isAgg82 rfl ((by exact (hR1.keep b0).cell (i := 0) rfl))) ?_
        refine va_two 2 7 (by kernel_rfl) ?_ ?_
        · refine vn_call rfl (nt_num B g V p 1 2 2 _ (hP1.keep b0) (by have := b0.size; omega) hl ⟨rfl, by omega, by omega⟩) rfl ?_
          rintro u5 w5 ⟨rfl, hP5, k5⟩
          have hR5 := (hR1.keep b0).kb k5 hRg
          have hN5 := (hN1.keep b0).kb k5 hNg
          have s5 := k5.size
          refine va_pure 9 rfl (by kernel_rfl) (by kernel_rfl) (by kernel_rfl) (fun w => (os_fa (o := 0) (k := 0) (by kernel_rfl) rfl)) ?_
          refine va_two 5 7 (by kernel_rfl) ?_ ?_
          · refine vn_call rfl (nt_num B g V p 3 4 4 w5 hP5 (by have := b0.size; omega) hl ⟨rfl, by omega, by omega⟩) rfl ?_
            rintro u8 w8 ⟨rfl, hP8, k8⟩
            have hR8 := hR5.kb k8 hRg
            have hN8 := hN5.kb k8 hNg
            have s8 := k8.size
            refine va_one 7 (by kernel_rfl) ?_
            refine vn_val rfl (os_load Try.isAgg82 rfl ((by first | exact hR8.cell (i := 0) rfl | exact hR5.cell (i := 0) rfl | exact (hR1.keep b0).cell (i := 0) rfl))) ?_
            refine va_one 8 (by kernel_rfl) ?_
            refine vn_call rfl (nt_num B g V p 7 1 1 w8 hP8 (by have := b0.size; omega) hl ⟨rfl, by omega, by omega⟩) rfl ?_
            rintro u11 w11 ⟨rfl, hP11, k11⟩
            have hR11 := hR8.kb k11 hRg
            have hN11 := hN8.kb k11 hNg
            refine va_one 10 (by kernel_rfl) ?_
            refine vn_unit rfl (ou_store Try.sizeOf3 rfl rfl rfl (hN11.cell (i := 0) rfl) (hN11.free _)) ?_
            have hN12 := hN11.set 0 (.int .i64 (rdV p 1 2))
            refine va_pure 11 rfl (by kernel_rfl) (by kernel_rfl) (by kernel_rfl) (fun w => (os_fa (o := 1) (k := 0) (by kernel_rfl) rfl)) ?_
            refine va_one 12 (by kernel_rfl) ?_
            refine vn_unit rfl (ou_store Try.sizeOf3 rfl rfl rfl (hN12.cell (i := 1) rfl) (hN12.free _)) ?_
            have hN13 := hN12.set 1 (.int .i64 (rdV p 3 4))
            refine va_pure 13 rfl (by kernel_rfl) (by kernel_rfl) (by kernel_rfl) (fun w => (os_fa (o := 2) (k := 0) (by kernel_rfl) rfl)) ?_
            refine va_one 14 (by kernel_rfl) ?_
            refine vn_unit rfl (ou_store Try.sizeOf3 rfl rfl rfl (hN13.cell (i := 2) rfl) (hN13.free _)) ?_
            have kS : Kb [N] w11 (((w11.setCell ⟨N, 0 + 0, none⟩ (.int .i64 (rdV p 1 2))).setCell ⟨N, 0 + 1, none⟩ (.int .i64 (rdV p 3 4))).setCell ⟨N, 0 + 2, none⟩ (.int .i64 (rdV p 7 1))) := (Kb.set (S := [N]) (by simp) _ _).trans ((Kb.set (S := [N]) (by simp) _ _).trans (Kb.set (S := [N]) (by simp) _ _) (fun k hk => .inl hk)) (fun k hk => .inl hk)
            have k11w : Kb [g] w w11 := (Kb.of_below (S := [g]) (hb1.trans (b0.mono hb1.size))).trans ((k5.trans k8 (fun k hk => .inl hk)).trans k11 (fun k hk => .inl hk)) (fun k hk => .inl hk)
            refine va_done (by kernel_rfl) ?_
            exact ⟨0, ⟨rfl, trivial⟩, ⟨rfl, trivial⟩, ⟨hN13.set 2 _, hR11.kb kS (by simp; omega), hP11.kb kS (by simp; omega) (fun k hk => by have := hV k hk; simp; omega), k11w.trans kS (fun k hk => .inr (by simp at hk; omega))⟩⟩
          · refine vn_val rfl (os_load Try.isAgg82 rfl ((by first | exact hR8.cell (i := 0) rfl | exact hR5.cell (i := 0) rfl | exact (hR1.keep b0).cell (i := 0) rfl))) ?_
            refine va_one 5 (by kernel_rfl) ?_
            refine vn_call rfl (nt_num B g V p 3 4 4 w5 hP5 (by have := b0.size; omega) hl ⟨rfl, by omega, by omega⟩) rfl ?_
            rintro u8 w8 ⟨rfl, hP8, k8⟩
            have hR8 := hR5.kb k8 hRg
            have hN8 := hN5.kb k8 hNg
            have s8 := k8.size
            refine va_one 8 (by kernel_rfl) ?_
            refine vn_call rfl (nt_num B g V p 7 1 1 w8 hP8 (by have := b0.size; omega) hl ⟨rfl, by omega, by omega⟩) rfl ?_
            rintro u11 w11 ⟨rfl, hP11, k11⟩
            have hR11 := hR8.kb k11 hRg
            have hN11 := hN8.kb k11 hNg
            refine va_one 10 (by kernel_rfl) ?_
            refine vn_unit rfl (ou_store Try.sizeOf3 rfl rfl rfl (hN11.cell (i := 0) rfl) (hN11.free _)) ?_
            have hN12 := hN11.set 0 (.int .i64 (rdV p 1 2))
            refine va_pure 11 rfl (by kernel_rfl) (by kernel_rfl) (by kernel_rfl) (fun w => (os_fa (o := 1) (k := 0) (by kernel_rfl) rfl)) ?_
            refine va_one 12 (by kernel_rfl) ?_
            refine vn_unit rfl (ou_store Try.sizeOf3 rfl rfl rfl (hN12.cell (i := 1) rfl) (hN12.free _)) ?_
            have hN13 := hN12.set 1 (.int .i64 (rdV p 3 4))
            refine va_pure 13 rfl (by kernel_rfl) (by kernel_rfl) (by kernel_rfl) (fun w => (os_fa (o := 2) (k := 0) (by kernel_rfl) rfl)) ?_
            refine va_one 14 (by kernel_rfl) ?_
            refine vn_unit rfl (ou_store Try.sizeOf3 rfl rfl rfl (hN13.cell (i := 2) rfl) (hN13.free _)) ?_
            have kS : Kb [N] w11 (((w11.setCell ⟨N, 0 + 0, none⟩ (.int .i64 (rdV p 1 2))).setCell ⟨N, 0 + 1, none⟩ (.int .i64 (rdV p 3 4))).setCell ⟨N, 0 + 2, none⟩ (.int .i64 (rdV p 7 1))) := (Kb.set (S := [N]) (by simp) _ _).trans ((Kb.set (S := [N]) (by simp) _ _).trans (Kb.set (S := [N]) (by simp) _ _) (fun k hk => .inl hk)) (fun k hk => .inl hk)
            have k11w : Kb [g] w w11 := (Kb.of_below (S := [g]) (hb1.trans (b0.mono hb1.size))).trans ((k5.trans k8 (fun k hk => .inl hk)).trans k11 (fun k hk => .inl hk)) (fun k hk => .inl hk)
            refine va_done (by kernel_rfl) ?_
            exact ⟨0, ⟨rfl, trivial⟩, ⟨rfl, trivial⟩, ⟨hN13.set 2 _, hR11.kb kS (by simp; omega), hP11.kb kS (by simp; omega) (fun k hk => by have := hV k hk; simp; omega), k11w.trans kS (fun k hk => .inr (by simp at hk; omega))⟩⟩
        · refine vn_val rfl (os_load Try.isAgg82 rfl ((by first | exact hR8.cell (i := 0) rfl | exact hR5.cell (i := 0) rfl | exact (hR1.keep b0).cell (i := 0) rfl))) ?_
          refine va_one 2 (by kernel_rfl) ?_
          refine vn_call rfl (nt_num B g V p 1 2 2 _ (hP1.keep b0) (by have := b0.size; omega) hl ⟨rfl, by omega, by omega⟩) rfl ?_
          rintro u5 w5 ⟨rfl, hP5, k5⟩
          have hR5 := (hR1.keep b0).kb k5 hRg
          have hN5 := (hN1.keep b0).kb k5 hNg
          have s5 := k5.size
          refine va_pure 9 rfl (by kernel_rfl) (by kernel_rfl) (by kernel_rfl) (fun w => (os_fa (o := 0) (k := 0) (by kernel_rfl) rfl)) ?_
          refine va_one 5 (by kernel_rfl) ?_
          refine vn_call rfl (nt_num B g V p 3 4 4 w5 hP5 (by have := b0.size; omega) hl ⟨rfl, by omega, by omega⟩) rfl ?_
          rintro u8 w8 ⟨rfl, hP8, k8⟩
          have hR8 := hR5.kb k8 hRg
          have hN8 := hN5.kb k8 hNg
          have s8 := k8.size
          refine va_one 8 (by kernel_rfl) ?_
          refine vn_call rfl (nt_num B g V p 7 1 1 w8 hP8 (by have := b0.size; omega) hl ⟨rfl, by omega, by omega⟩) rfl ?_
          rintro u11 w11 ⟨rfl, hP11, k11⟩
          have hR11 := hR8.kb k11 hRg
          have hN11 := hN8.kb k11 hNg
          refine va_one 10 (by kernel_rfl) ?_
          refine vn_unit rfl (ou_store Try.sizeOf3 rfl rfl rfl (hN11.cell (i := 0) rfl) (hN11.free _)) ?_
          have hN12 := hN11.set 0 (.int .i64 (rdV p 1 2))
          refine va_pure 11 rfl (by kernel_rfl) (by kernel_rfl) (by kernel_rfl) (fun w => (os_fa (o := 1) (k := 0) (by kernel_rfl) rfl)) ?_
          refine va_one 12 (by kernel_rfl) ?_
          refine vn_unit rfl (ou_store Try.sizeOf3 rfl rfl rfl (hN12.cell (i := 1) rfl) (hN12.free _)) ?_
          have hN13 := hN12.set 1 (.int .i64 (rdV p 3 4))
          refine va_pure 13 rfl (by kernel_rfl) (by kernel_rfl) (by kernel_rfl) (fun w => (os_fa (o := 2) (k := 0) (by kernel_rfl) rfl)) ?_
          refine va_one 14 (by kernel_rfl) ?_
          refine vn_unit rfl (ou_store Try.sizeOf3 rfl rfl rfl (hN13.cell (i := 2) rfl) (hN13.free _)) ?_
          have kS : Kb [N] w11 (((w11.setCell ⟨N, 0 + 0, none⟩ (.int .i64 (rdV p 1 2))).setCell ⟨N, 0 + 1, none⟩ (.int .i64 (rdV p 3 4))).setCell ⟨N, 0 + 2, none⟩ (.int .i64 (rdV p 7 1))) := (Kb.set (S := [N]) (by simp) _ _).trans ((Kb.set (S := [N]) (by simp) _ _).trans (Kb.set (S := [N]) (by simp) _ _) (fun k hk => .inl hk)) (fun k hk => .inl hk)
          have k11w : Kb [g] w w11 := (Kb.of_below (S := [g]) (hb1.trans (b0.mono hb1.size))).trans ((k5.trans k8 (fun k hk => .inl hk)).trans k11 (fun k hk => .inl hk)) (fun k hk => .inl hk)
          refine va_done (by kernel_rfl) ?_
          exact ⟨0, ⟨rfl, trivial⟩, ⟨rfl, trivial⟩, ⟨hN13.set 2 _, hR11.kb kS (by simp; omega), hP11.kb kS (by simp; omega) (fun k hk => by have := hV k hk; simp; omega), k11w.trans kS (fun k hk => .inr (by simp at hk; omega))⟩⟩
      · refine vn_val rfl (os_load Try.isAgg82 rfl ((by first | exact hR8.cell (i := 0) rfl | exact hR5.cell (i := 0) rfl | exact (hR1.keep b0).cell (i := 0) rfl))) ?_
        refine va_one 1 (by kernel_rfl) ?_
        refine vn_val rfl (os_load Try.isAgg82 rfl ((by exact (hR1.keep b0).cell (i := 0) rfl))) ?_
        refine va_one 2 (by kernel_rfl) ?_
        refine vn_call rfl (nt_num B g V p 1 2 2 _ (hP1.keep b0) (by have := b0.size; omega) hl ⟨rfl, by omega, by omega⟩) rfl ?_
        rintro u5 w5 ⟨rfl, hP5, k5⟩
        have hR5 := (hR1.keep b0).kb k5 hRg
        have hN5 := (hN1.keep b0).kb k5 hNg
        have s5 := k5.size
        refine va_pure 9 rfl (by kernel_rfl) (by kernel_rfl) (by kernel_rfl) (fun w => (os_fa (o := 0) (k := 0) (by kernel_rfl) rfl)) ?_
        refine va_one 5 (by kernel_rfl) ?_
        refine vn_call rfl (nt_num B g V p 3 4 4 w5 hP5 (by have := b0.size; omega) hl ⟨rfl, by omega, by omega⟩) rfl ?_
        rintro u8 w8 ⟨rfl, hP8, k8⟩
        have hR8 := hR5.kb k8 hRg
        have hN8 := hN5.kb k8 hNg
        have s8 := k8.size
        refine va_one 8 (by kernel_rfl) ?_
        refine vn_call rfl (nt_num B g V p 7 1 1 w8 hP8 (by have := b0.size; omega) hl ⟨rfl, by omega, by omega⟩) rfl ?_
        rintro u11 w11 ⟨rfl, hP11, k11⟩
        have hR11 := hR8.kb k11 hRg
        have hN11 := hN8.kb k11 hNg
        refine va_one 10 (by kernel_rfl) ?_
        refine vn_unit rfl (ou_store Try.sizeOf3 rfl rfl rfl (hN11.cell (i := 0) rfl) (hN11.free _)) ?_
        have hN12 := hN11.set 0 (.int .i64 (rdV p 1 2))
        refine va_pure 11 rfl (by kernel_rfl) (by kernel_rfl) (by kernel_rfl) (fun w => (os_fa (o := 1) (k := 0) (by kernel_rfl) rfl)) ?_
        refine va_one 12 (by kernel_rfl) ?_
        refine vn_unit rfl (ou_store Try.sizeOf3 rfl rfl rfl (hN12.cell (i := 1) rfl) (hN12.free _)) ?_
        have hN13 := hN12.set 1 (.int .i64 (rdV p 3 4))
        refine va_pure 13 rfl (by kernel_rfl) (by kernel_rfl) (by kernel_rfl) (fun w => (os_fa (o := 2) (k := 0) (by kernel_rfl) rfl)) ?_
        refine va_one 14 (by kernel_rfl) ?_
        refine vn_unit rfl (ou_store Try.sizeOf3 rfl rfl rfl (hN13.cell (i := 2) rfl) (hN13.free _)) ?_
        have kS : Kb [N] w11 (((w11.setCell ⟨N, 0 + 0, none⟩ (.int .i64 (rdV p 1 2))).setCell ⟨N, 0 + 1, none⟩ (.int .i64 (rdV p 3 4))).setCell ⟨N, 0 + 2, none⟩ (.int .i64 (rdV p 7 1))) := (Kb.set (S := [N]) (by simp) _ _).trans ((Kb.set (S := [N]) (by simp) _ _).trans (Kb.set (S := [N]) (by simp) _ _) (fun k hk => .inl hk)) (fun k hk => .inl hk)
        have k11w : Kb [g] w w11 := (Kb.of_below (S := [g]) (hb1.trans (b0.mono hb1.size))).trans ((k5.trans k8 (fun k hk => .inl hk)).trans k11 (fun k hk => .inl hk)) (fun k hk => .inl hk)
        refine va_done (by kernel_rfl) ?_
        exact ⟨0, ⟨rfl, trivial⟩, ⟨rfl, trivial⟩, ⟨hN13.set 2 _, hR11.kb kS (by simp; omega), hP11.kb kS (by simp; omega) (fun k hk => by have := hV k hk; simp; omega), k11w.trans kS (fun k hk => .inr (by simp at hk; omega))⟩⟩
    · refine vn_val rfl (os_load Try.isAgg82 rfl ((by first | exact hR8.cell (i := 0) rfl | exact hR5.cell (i := 0) rfl | exact (hR1.keep b0).cell (i := 0) rfl))) ?_
      refine va_two 1 4 (by kernel_rfl) ?_ ?_
      · refine vn_val rfl (os_load Try.isAgg82 rfl ((by exact (hR1.keep b0).cell (i := 0) rfl))) ?_
        refine va_two 2 4 (by kernel_rfl) ?_ ?_
        · refine vn_call rfl (nt_num B g V p 1 2 2 _ (hP1.keep b0) (by have := b0.size; omega) hl ⟨rfl, by omega, by omega⟩) rfl ?_
          rintro u5 w5 ⟨rfl, hP5, k5⟩
          have hR5 := (hR1.keep b0).kb k5 hRg
          have hN5 := (hN1.keep b0).kb k5 hNg
          have s5 := k5.size
          refine va_pure 9 rfl (by kernel_rfl) (by kernel_rfl) (by kernel_rfl) (fun w => (os_fa (o := 0) (k := 0) (by kernel_rfl) rfl)) ?_
          refine va_one 4 (by kernel_rfl) ?_
          refine vn_val rfl (os_load Try.isAgg82 rfl ((by first | exact hR5.cell (i := 0) rfl | exact (hR1.keep b0).cell (i := 0) rfl))) ?_
          refine va_one 5 (by kernel_rfl) ?_
          refine vn_call rfl (nt_num B g V p 3 4 4 w5 hP5 (by have := b0.size; omega) hl ⟨rfl, by omega, by omega⟩) rfl ?_
          rintro u8 w8 ⟨rfl, hP8, k8⟩
          have hR8 := hR5.kb k8 hRg
          have hN8 := hN5.kb k8 hNg
          have s8 := k8.size
          refine va_one 8 (by kernel_rfl) ?_
          refine vn_call rfl (nt_num B g V p 7 1 1 w8 hP8 (by have := b0.size; omega) hl ⟨rfl, by omega, by omega⟩) rfl ?_
          rintro u11 w11 ⟨rfl, hP11, k11⟩
          have hR11 := hR8.kb k11 hRg
          have hN11 := hN8.kb k11 hNg
          refine va_one 10 (by kernel_rfl) ?_
          refine vn_unit rfl (ou_store Try.sizeOf3 rfl rfl rfl (hN11.cell (i := 0) rfl) (hN11.free _)) ?_
          have hN12 := hN11.set 0 (.int .i64 (rdV p 1 2))
          refine va_pure 11 rfl (by kernel_rfl) (by kernel_rfl) (by kernel_rfl) (fun w => (os_fa (o := 1) (k := 0) (by kernel_rfl) rfl)) ?_
          refine va_one 12 (by kernel_rfl) ?_
          refine vn_unit rfl (ou_store Try.sizeOf3 rfl rfl rfl (hN12.cell (i := 1) rfl) (hN12.free _)) ?_
          have hN13 := hN12.set 1 (.int .i64 (rdV p 3 4))
          refine va_pure 13 rfl (by kernel_rfl) (by kernel_rfl) (by kernel_rfl) (fun w => (os_fa (o := 2) (k := 0) (by kernel_rfl) rfl)) ?_
          refine va_one 14 (by kernel_rfl) ?_
          refine vn_unit rfl (ou_store Try.sizeOf3 rfl rfl rfl (hN13.cell (i := 2) rfl) (hN13.free _)) ?_
          have kS : Kb [N] w11 (((w11.setCell ⟨N, 0 + 0, none⟩ (.int .i64 (rdV p 1 2))).setCell ⟨N, 0 + 1, none⟩ (.int .i64 (rdV p 3 4))).setCell ⟨N, 0 + 2, none⟩ (.int .i64 (rdV p 7 1))) := (Kb.set (S := [N]) (by simp) _ _).trans ((Kb.set (S := [N]) (by simp) _ _).trans (Kb.set (S := [N]) (by simp) _ _) (fun k hk => .inl hk)) (fun k hk => .inl hk)
          have k11w : Kb [g] w w11 := (Kb.of_below (S := [g]) (hb1.trans (b0.mono hb1.size))).trans ((k5.trans k8 (fun k hk => .inl hk)).trans k11 (fun k hk => .inl hk)) (fun k hk => .inl hk)
          refine va_done (by kernel_rfl) ?_
          exact ⟨0, ⟨rfl, trivial⟩, ⟨rfl, trivial⟩, ⟨hN13.set 2 _, hR11.kb kS (by simp; omega), hP11.kb kS (by simp; omega) (fun k hk => by have := hV k hk; simp; omega), k11w.trans kS (fun k hk => .inr (by simp at hk; omega))⟩⟩
        · refine vn_val rfl (os_load Try.isAgg82 rfl ((by first | exact hR5.cell (i := 0) rfl | exact (hR1.keep b0).cell (i := 0) rfl))) ?_
          refine va_one 2 (by kernel_rfl) ?_
          refine vn_call rfl (nt_num B g V p 1 2 2 _ (hP1.keep b0) (by have := b0.size; omega) hl ⟨rfl, by omega, by omega⟩) rfl ?_
          rintro u5 w5 ⟨rfl, hP5, k5⟩
          have hR5 := (hR1.keep b0).kb k5 hRg
          have hN5 := (hN1.keep b0).kb k5 hNg
          have s5 := k5.size
          refine va_pure 9 rfl (by kernel_rfl) (by kernel_rfl) (by kernel_rfl) (fun w => (os_fa (o := 0) (k := 0) (by kernel_rfl) rfl)) ?_
          refine va_one 5 (by kernel_rfl) ?_
          refine vn_call rfl (nt_num B g V p 3 4 4 w5 hP5 (by have := b0.size; omega) hl ⟨rfl, by omega, by omega⟩) rfl ?_
          rintro u8 w8 ⟨rfl, hP8, k8⟩
          have hR8 := hR5.kb k8 hRg
          have hN8 := hN5.kb k8 hNg
          have s8 := k8.size
          refine va_one 8 (by kernel_rfl) ?_
          refine vn_call rfl (nt_num B g V p 7 1 1 w8 hP8 (by have := b0.size; omega) hl ⟨rfl, by omega, by omega⟩) rfl ?_
          rintro u11 w11 ⟨rfl, hP11, k11⟩
          have hR11 := hR8.kb k11 hRg
          have hN11 := hN8.kb k11 hNg
          refine va_one 10 (by kernel_rfl) ?_
          refine vn_unit rfl (ou_store Try.sizeOf3 rfl rfl rfl (hN11.cell (i := 0) rfl) (hN11.free _)) ?_
          have hN12 := hN11.set 0 (.int .i64 (rdV p 1 2))
          refine va_pure 11 rfl (by kernel_rfl) (by kernel_rfl) (by kernel_rfl) (fun w => (os_fa (o := 1) (k := 0) (by kernel_rfl) rfl)) ?_
          refine va_one 12 (by kernel_rfl) ?_
          refine vn_unit rfl (ou_store Try.sizeOf3 rfl rfl rfl (hN12.cell (i := 1) rfl) (hN12.free _)) ?_
          have hN13 := hN12.set 1 (.int .i64 (rdV p 3 4))
          refine va_pure 13 rfl (by kernel_rfl) (by kernel_rfl) (by kernel_rfl) (fun w => (os_fa (o := 2) (k := 0) (by kernel_rfl) rfl)) ?_
          refine va_one 14 (by kernel_rfl) ?_
          refine vn_unit rfl (ou_store Try.sizeOf3 rfl rfl rfl (hN13.cell (i := 2) rfl) (hN13.free _)) ?_
          have kS : Kb [N] w11 (((w11.setCell ⟨N, 0 + 0, none⟩ (.int .i64 (rdV p 1 2))).setCell ⟨N, 0 + 1, none⟩ (.int .i64 (rdV p 3 4))).setCell ⟨N, 0 + 2, none⟩ (.int .i64 (rdV p 7 1))) := (Kb.set (S := [N]) (by simp) _ _).trans ((Kb.set (S := [N]) (by simp) _ _).trans (Kb.set (S := [N]) (by simp) _ _) (fun k hk => .inl hk)) (fun k hk => .inl hk)
          have k11w : Kb [g] w w11 := (Kb.of_below (S := [g]) (hb1.trans (b0.mono hb1.size))).trans ((k5.trans k8 (fun k hk => .inl hk)).trans k11 (fun k hk => .inl hk)) (fun k hk => .inl hk)
          refine va_done (by kernel_rfl) ?_
          exact ⟨0, ⟨rfl, trivial⟩, ⟨rfl, trivial⟩, ⟨hN13.set 2 _, hR11.kb kS (by simp; omega), hP11.kb kS (by simp; omega) (fun k hk => by have := hV k hk; simp; omega), k11w.trans kS (fun k hk => .inr (by simp at hk; omega))⟩⟩
      · refine vn_val rfl (os_load Try.isAgg82 rfl ((by first | exact hR5.cell (i := 0) rfl | exact (hR1.keep b0).cell (i := 0) rfl))) ?_
        refine va_one 1 (by kernel_rfl) ?_
        refine vn_val rfl (os_load Try.isAgg82 rfl ((by exact (hR1.keep b0).cell (i := 0) rfl))) ?_
        refine va_one 2 (by kernel_rfl) ?_
        refine vn_call rfl (nt_num B g V p 1 2 2 _ (hP1.keep b0) (by have := b0.size; omega) hl ⟨rfl, by omega, by omega⟩) rfl ?_
        rintro u5 w5 ⟨rfl, hP5, k5⟩
        have hR5 := (hR1.keep b0).kb k5 hRg
        have hN5 := (hN1.keep b0).kb k5 hNg
        have s5 := k5.size
        refine va_pure 9 rfl (by kernel_rfl) (by kernel_rfl) (by kernel_rfl) (fun w => (os_fa (o := 0) (k := 0) (by kernel_rfl) rfl)) ?_
        refine va_one 5 (by kernel_rfl) ?_
        refine vn_call rfl (nt_num B g V p 3 4 4 w5 hP5 (by have := b0.size; omega) hl ⟨rfl, by omega, by omega⟩) rfl ?_
        rintro u8 w8 ⟨rfl, hP8, k8⟩
        have hR8 := hR5.kb k8 hRg
        have hN8 := hN5.kb k8 hNg
        have s8 := k8.size
        refine va_one 8 (by kernel_rfl) ?_
        refine vn_call rfl (nt_num B g V p 7 1 1 w8 hP8 (by have := b0.size; omega) hl ⟨rfl, by omega, by omega⟩) rfl ?_
        rintro u11 w11 ⟨rfl, hP11, k11⟩
        have hR11 := hR8.kb k11 hRg
        have hN11 := hN8.kb k11 hNg
        refine va_one 10 (by kernel_rfl) ?_
        refine vn_unit rfl (ou_store Try.sizeOf3 rfl rfl rfl (hN11.cell (i := 0) rfl) (hN11.free _)) ?_
        have hN12 := hN11.set 0 (.int .i64 (rdV p 1 2))
        refine va_pure 11 rfl (by kernel_rfl) (by kernel_rfl) (by kernel_rfl) (fun w => (os_fa (o := 1) (k := 0) (by kernel_rfl) rfl)) ?_
        refine va_one 12 (by kernel_rfl) ?_
        refine vn_unit rfl (ou_store Try.sizeOf3 rfl rfl rfl (hN12.cell (i := 1) rfl) (hN12.free _)) ?_
        have hN13 := hN12.set 1 (.int .i64 (rdV p 3 4))
        refine va_pure 13 rfl (by kernel_rfl) (by kernel_rfl) (by kernel_rfl) (fun w => (os_fa (o := 2) (k := 0) (by kernel_rfl) rfl)) ?_
        refine va_one 14 (by kernel_rfl) ?_
        refine vn_unit rfl (ou_store Try.sizeOf3 rfl rfl rfl (hN13.cell (i := 2) rfl) (hN13.free _)) ?_
        have kS : Kb [N] w11 (((w11.setCell ⟨N, 0 + 0, none⟩ (.int .i64 (rdV p 1 2))).setCell ⟨N, 0 + 1, none⟩ (.int .i64 (rdV p 3 4))).setCell ⟨N, 0 + 2, none⟩ (.int .i64 (rdV p 7 1))) := (Kb.set (S := [N]) (by simp) _ _).trans ((Kb.set (S := [N]) (by simp) _ _).trans (Kb.set (S := [N]) (by simp) _ _) (fun k hk => .inl hk)) (fun k hk => .inl hk)
        have k11w : Kb [g] w w11 := (Kb.of_below (S := [g]) (hb1.trans (b0.mono hb1.size))).trans ((k5.trans k8 (fun k hk => .inl hk)).trans k11 (fun k hk => .inl hk)) (fun k hk => .inl hk)
        refine va_done (by kernel_rfl) ?_
        exact ⟨0, ⟨rfl, trivial⟩, ⟨rfl, trivial⟩, ⟨hN13.set 2 _, hR11.kb kS (by simp; omega), hP11.kb kS (by simp; omega) (fun k hk => by have := hV k hk; simp; omega), k11w.trans kS (fun k hk => .inr (by simp at hk; omega))⟩⟩
  · rintro x w14 ⟨hN14, hR14, hP14, k14⟩
    have s14 := k14.size
    refine v_seq ?_
    refine v_seq ?_
    refine v_region ?_
    refine vl_val (os_fa (o := 0) (k := 0) (by kernel_rfl) rfl) ?_
    refine vl_val (os_load Try.isAgg82 rfl (hR14.cell (i := 0) rfl)) ?_
    refine vl_call (nt_num B g V p 8 1 1 w14 hP14 (by omega) hl ⟨rfl, by omega, by omega⟩) rfl ?_
    rintro u15 w15 ⟨rfl, hP15, k15⟩
    have hN15 := hN14.kb k15 hNg
    have hR15 := hR14.kb k15 hRg
    have k15w : Kb [g] w w15 := k14.trans k15 (fun k hk => .inl hk)
    have s15 := k15.size
    have hN15l := hN15.lt
    obtain ⟨K, hKK⟩ : ∃ K : Nat, rdV p 8 1 = (K : Int) := ⟨(rdV p 8 1).toNat, by omega⟩
    rw [hKK]
    rw [hKK] at hK
    have hb9 : ∀ j, I64 (rdV p j 1) := fun j => i64_rd hy j 1 (by omega)
    have hb10 : ∀ j, I64 (rdV p j 2) := fun j => i64_rd hy j 2 (by omega)
    refine vl_val (os_move rfl) ?_
    refine vl_nil ?_
    refine v_block ?_
    refine v_loop [(1, _), (2, _), (17, _)] (fun (i : Nat) => [(18, .int .i64 i)]) (fun i w' => i ≤ K ∧ Bk w' R [.pointer (some ⟨g, 0, none⟩)] 85 ∧ RP w' B g V p (9 + 3 * i) ∧ Kb [g] w w' ∧ w15.heap.size ≤ w'.heap.size ∧ ∃ v, Bk w' N [.int .i64 (rdV p 1 2), .int .i64 (rdV p 3 4), .int .i64 (rdV p 7 1), v] 28 ∧ OwnP w' (N + 1) 42 2 v ((cntsR p i).map rowC)) (fun i => K - i) (0) ⟨rfl, rfl, rfl, trivial⟩ ⟨rfl, trivial⟩ (⟨by omega, hR15, hP15, k15w, Nat.le_refl _, _, hN15, OwnP.nil⟩) ?_
    rintro i w16 ⟨hi, hR16, hP16, k16, s16, v, hN16, hv16⟩
    refine v_seq ?_
    refine v_region ?_
    refine vl_val (os_lss rfl rfl) ?_
    refine vl_nil ?_
    refine v_seq ?_
    refine v_cond_d rfl (fun hlt => ?_) (fun hlt => ?_)
    · have c0 : Below w16.heap.size w16 { w16 with drawn := w16.drawn + 1 } := (Below.refl _ _).drew
      have hrl : ((cntsR p i).map rowC).length = i := by simp [cntsR_len]
      refine v_skip ?_
      refine v_mid [(2, _), (17, _), (18, _)] (fun (x : Nat) => [(1, .pointer (some ⟨R, 0, none⟩))]) (fun x w' => Bk w' R [.pointer (some ⟨g, 0, none⟩)] 85 ∧ RP w' B g V p (9 + 3 * (i + 1)) ∧ Kb [g] w w' ∧ w15.heap.size ≤ w'.heap.size ∧ ∃ v, Bk w' N [.int .i64 (rdV p 1 2), .int .i64 (rdV p 3 4), .int .i64 (rdV p 7 1), v] 28 ∧ OwnP w' (N + 1) 42 2 v ((cntsR p (i + 1)).map rowC)) ⟨rfl, rfl, rfl, trivial⟩ ?_ ?_
      · refine v_block ?_
        refine v_region_a mixed ?_
        refine va_pure 0 rfl (by kernel_rfl) (by kernel_rfl) (by kernel_rfl) (fun w => (os_fa (o := 3) (k := 0) (by kernel_rfl) rfl)) ?_
        refine va_pure 2 rfl (by kernel_rfl) (by kernel_rfl) (by kernel_rfl) (fun w => (os_fa (o := 0) (k := 0) (by kernel_rfl) rfl)) ?_
        refine va_pure 5 rfl (by kernel_rfl) (by kernel_rfl) (by kernel_rfl) (fun w => (os_fa (o := 0) (k := 0) (by kernel_rfl) rfl)) ?_
        refine va_three 1 3 6 (by kernel_rfl) ?_ ?_ ?_
        · refine vn_val rfl (os_load Try.isAgg26 rfl ((by first | exact hN29.cell (i := 3) rfl | exact hN27.cell (i := 3) rfl | exact hN24.cell (i := 3) rfl | exact (hN16.keep c0).cell (i := 3) rfl))) ?_
          refine va_two 3 6 (by kernel_rfl) ?_ ?_
          · refine vn_val rfl (os_load Try.isAgg82 rfl ((hR16.keep c0).cell (i := 0) rfl)) ?_
            refine va_two 4 6 (by kernel_rfl) ?_ ?_
            · refine vn_call rfl (nt_num B g V p (9 + 3 * i) 1 1 _ (hP16.keep c0) (by have := c0.size; omega) hl ⟨rfl, by omega, by omega⟩) rfl ?_
              rintro u24 w24 ⟨rfl, hP24, k24⟩
              have hR24 := (hR16.keep c0).kb k24 hRg
              have hN24 := (hN16.keep c0).kb k24 hNg
              have s24 : w16.heap.size ≤ w24.heap.size := k24.size
              have hv24 := (hv16.keepAll c0).blk (w'' := w24) (fun k hk => k24.block k ((hv16.keepAll c0).lt k hk).2 (by have := (hv16.lt k hk).1; simp; omega))
              refine va_one 6 (by kernel_rfl) ?_
              refine vn_val rfl (os_load Try.isAgg82 rfl ((by first | exact hR24.cell (i := 0) rfl | exact (hR16.keep c0).cell (i := 0) rfl))) ?_
              refine va_one 7 (by kernel_rfl) ?_
              refine vn_call rfl (nt_num B g V p (9 + 3 * i + 1) 2 2 w24 hP24 (by omega) hl ⟨rfl, by omega, by omega⟩) rfl ?_
              rintro u27 w27 ⟨rfl, hP27, k27⟩
              have hR27 := hR24.kb k27 hRg
              have hN27 := hN24.kb k27 hNg
              have s27 := k27.size
              have hv27 := hv24.blk (w'' := w27) (fun k hk => k27.block k (hv24.lt k hk).2 (by have := (hv24.lt k hk).1; simp; omega))
              refine va_pure 8 rfl (by kernel_rfl) (by kernel_rfl) (by kernel_rfl) (fun w => (os_build (cs := [.int .i64 (rdV p (9 + 3 * i) 1), .int .i64 (rdV p (9 + 3 * i + 1) 2)]) rfl (by kernel_rfl))) ?_
              refine va_one 9 (by kernel_rfl) ?_
              refine vn_val rfl (os_litS (css := [[.int .i64 (rdV p (9 + 3 * i) 1), .int .i64 (rdV p (9 + 3 * i + 1) 2)]]) Try.underlying26 Try.sizeOf42 Try.zeroValue42 rfl rfl (by intro c hc; simp at hc; subst hc; rfl) (by decide) (by decide) (by decide)) ?_
              have r29 := rdp_alloc w27 [[Value.int .i64 (rdV p (9 + 3 * i) 1), .int .i64 (rdV p (9 + 3 * i + 1) 2)]] 42 (s := 2) (by intro c hc; simp at hc; subst hc; rfl)
              have c29 : Below w27.heap.size w27 (w27.alloc (.cells [[Value.int .i64 (rdV p (9 + 3 * i) 1), .int .i64 (rdV p (9 + 3 * i + 1) 2)]].flatten.toArray 42)) := (Below.refl _ _).alloc (Nat.le_refl _) _
              have hN29 := hN27.keep c29
              have hv29 := hv27.keepAll c29
              have hR29 := hR27.keep c29
              have hP29 := hP27.keep c29
              have s29 := c29.size
              refine va_one 10 (by kernel_rfl) ?_
              refine vn_some rfl (ot_append_pn Try.underlying26 ti_wCounts rfl (by decide) rfl rfl hv29 r29 (by intro c hc; simp at hc; subst hc; rfl) rfl (by intro c hc u hu; simp at hc; subst hc; simp at hu; rcases hu with rfl | rfl <;> rfl) (by rw [hrl]; omega) (by rw [hrl]; simp only [maxLen]; omega) (by omega)) ?_
              rintro v30 w30 ⟨ho30, hg30⟩
              have hvl := hv29.lt
              have hN30 := hN29.grown hg30 (fun e => by have := (hvl N e.symm).1; omega)
              have hR30 := hR29.grown hg30 (fun e => by have := (hvl R e.symm).1; omega)
              have k30 : Kb v.ownBlock.toList (w27.alloc (.cells [[Value.int .i64 (rdV p (9 + 3 * i) 1), .int .i64 (rdV p (9 + 3 * i + 1) 2)]].flatten.toArray 42)) w30 := Kb.grown hg30 (fun k hk => by simp [hk])
              have hgv : g ∉ v.ownBlock.toList := fun hh => by have := (hvl g (by simpa using hh)).1; omega
              have hP30 := hP29.kb k30 hgv (fun k hk hh => by have := (hvl k (by simpa using hh)).1; have := hV k hk; omega)
              have hv30 := ho30.lt
              have s30 := k30.size
              refine va_pure 11 rfl (by kernel_rfl) (by kernel_rfl) (by kernel_rfl) (fun w => (os_fa (o := 3) (k := 0) (by kernel_rfl) rfl)) ?_
              refine va_one 12 (by kernel_rfl) ?_
              refine vn_unit rfl (ou_store Try.sizeOf26 rfl rfl (OwnP.one' ho30) (hN30.cell (i := 3) rfl) (hN30.free _)) ?_
              have kS : Kb [N] w30 (w30.setCell ⟨N, 0 + 3, none⟩ v30) := Kb.set (S := [N]) (by simp) _ _
              have kall : Kb [g] w w30 := ((k16.trans ((Kb.of_below (S := [g]) c0).trans (k24.trans k27 (fun k hk => .inl hk)) (fun k hk => .inl hk)) (fun k hk => .inl hk)).trans (Kb.of_below (S := [g]) c29) (fun k hk => .inl hk)).trans k30 (fun k hk => .inr (by have := (hvl k (by simpa using hk)).1; omega))
              refine va_done (by kernel_rfl) ?_
              exact ⟨0, ⟨rfl, rfl, rfl, trivial⟩, ⟨rfl, trivial⟩, ⟨hR30.kb kS (by simp; omega), by have := hP30.kb kS (by simp; omega) (fun k hk => by have := hV k hk; simp; omega); rw [show 9 + 3 * (i + 1) = 9 + 3 * i + 1 + 2 by omega]; exact this, kall.trans kS (fun k hk => .inr (by simp at hk; omega)), by simp [World.setCell]; omega, v30, hN30.set 3 v30, by rw [cntsR_succ, List.map_append, show 10 + 3 * i = 9 + 3 * i + 1 by omega]; exact ho30.blk fun k hk => Below.heap_setCell _ _ _ _ (fun e => by have := (hv30 k hk).1; simp at e; omega)⟩⟩
            · refine vn_val rfl (os_load Try.isAgg82 rfl ((by first | exact hR24.cell (i := 0) rfl | exact (hR16.keep c0).cell (i := 0) rfl))) ?_
              refine va_one 4 (by kernel_rfl) ?_
              refine vn_call rfl (nt_num B g V p (9 + 3 * i) 1 1 _ (hP16.keep c0) (by have := c0.size; omega) hl ⟨rfl, by omega, by omega⟩) rfl ?_
              rintro u24 w24 ⟨rfl, hP24, k24⟩
              have hR24 := (hR16.keep c0).kb k24 hRg
              have hN24 := (hN16.keep c0).kb k24 hNg
              have s24 : w16.heap.size ≤ w24.heap.size := k24.size
              have hv24 := (hv16.keepAll c0).blk (w'' := w24) (fun k hk => k24.block k ((hv16.keepAll c0).lt k hk).2 (by have := (hv16.lt k hk).1; simp; omega))
              refine va_one 7 (by kernel_rfl) ?_
              refine vn_call rfl (nt_num B g V p (9 + 3 * i + 1) 2 2 w24 hP24 (by omega) hl ⟨rfl, by omega, by omega⟩) rfl ?_
              rintro u27 w27 ⟨rfl, hP27, k27⟩
              have hR27 := hR24.kb k27 hRg
              have hN27 := hN24.kb k27 hNg
              have s27 := k27.size
              have hv27 := hv24.blk (w'' := w27) (fun k hk => k27.block k (hv24.lt k hk).2 (by have := (hv24.lt k hk).1; simp; omega))
              refine va_pure 8 rfl (by kernel_rfl) (by kernel_rfl) (by kernel_rfl) (fun w => (os_build (cs := [.int .i64 (rdV p (9 + 3 * i) 1), .int .i64 (rdV p (9 + 3 * i + 1) 2)]) rfl (by kernel_rfl))) ?_
              refine va_one 9 (by kernel_rfl) ?_
              refine vn_val rfl (os_litS (css := [[.int .i64 (rdV p (9 + 3 * i) 1), .int .i64 (rdV p (9 + 3 * i + 1) 2)]]) Try.underlying26 Try.sizeOf42 Try.zeroValue42 rfl rfl (by intro c hc; simp at hc; subst hc; rfl) (by decide) (by decide) (by decide)) ?_
              have r29 := rdp_alloc w27 [[Value.int .i64 (rdV p (9 + 3 * i) 1), .int .i64 (rdV p (9 + 3 * i + 1) 2)]] 42 (s := 2) (by intro c hc; simp at hc; subst hc; rfl)
              have c29 : Below w27.heap.size w27 (w27.alloc (.cells [[Value.int .i64 (rdV p (9 + 3 * i) 1), .int .i64 (rdV p (9 + 3 * i + 1) 2)]].flatten.toArray 42)) := (Below.refl _ _).alloc (Nat.le_refl _) _
              have hN29 := hN27.keep c29
              have hv29 := hv27.keepAll c29
              have hR29 := hR27.keep c29
              have hP29 := hP27.keep c29
              have s29 := c29.size
              refine va_one 10 (by kernel_rfl) ?_
              refine vn_some rfl (ot_append_pn Try.underlying26 ti_wCounts rfl (by decide) rfl rfl hv29 r29 (by intro c hc; simp at hc; subst hc; rfl) rfl (by intro c hc u hu; simp at hc; subst hc; simp at hu; rcases hu with rfl | rfl <;> rfl) (by rw [hrl]; omega) (by rw [hrl]; simp only [maxLen]; omega) (by omega)) ?_
              rintro v30 w30 ⟨ho30, hg30⟩
              have hvl := hv29.lt
              have hN30 := hN29.grown hg30 (fun e => by have := (hvl N e.symm).1; omega)
              have hR30 := hR29.grown hg30 (fun e => by have := (hvl R e.symm).1; omega)
              have k30 : Kb v.ownBlock.toList (w27.alloc (.cells [[Value.int .i64 (rdV p (9 + 3 * i) 1), .int .i64 (rdV p (9 + 3 * i + 1) 2)]].flatten.toArray 42)) w30 := Kb.grown hg30 (fun k hk => by simp [hk])
              have hgv : g ∉ v.ownBlock.toList := fun hh => by have := (hvl g (by simpa using hh)).1; omega
              have hP30 := hP29.kb k30 hgv (fun k hk hh => by have := (hvl k (by simpa using hh)).1; have := hV k hk; omega)
              have hv30 := ho30.lt
              have s30 := k30.size
              refine va_pure 11 rfl (by kernel_rfl) (by kernel_rfl) (by kernel_rfl) (fun w => (os_fa (o := 3) (k := 0) (by kernel_rfl) rfl)) ?_
              refine va_one 12 (by kernel_rfl) ?_
              refine vn_unit rfl (ou_store Try.sizeOf26 rfl rfl (OwnP.one' ho30) (hN30.cell (i := 3) rfl) (hN30.free _)) ?_
              have kS : Kb [N] w30 (w30.setCell ⟨N, 0 + 3, none⟩ v30) := Kb.set (S := [N]) (by simp) _ _
              have kall : Kb [g] w w30 := ((k16.trans ((Kb.of_below (S := [g]) c0).trans (k24.trans k27 (fun k hk => .inl hk)) (fun k hk => .inl hk)) (fun k hk => .inl hk)).trans (Kb.of_below (S := [g]) c29) (fun k hk => .inl hk)).trans k30 (fun k hk => .inr (by have := (hvl k (by simpa using hk)).1; omega))
              refine va_done (by kernel_rfl) ?_
              exact ⟨0, ⟨rfl, rfl, rfl, trivial⟩, ⟨rfl, trivial⟩, ⟨hR30.kb kS (by simp; omega), by have := hP30.kb kS (by simp; omega) (fun k hk => by have := hV k hk; simp; omega); rw [show 9 + 3 * (i + 1) = 9 + 3 * i + 1 + 2 by omega]; exact this, kall.trans kS (fun k hk => .inr (by simp at hk; omega)), by simp [World.setCell]; omega, v30, hN30.set 3 v30, by rw [cntsR_succ, List.map_append, show 10 + 3 * i = 9 + 3 * i + 1 by omega]; exact ho30.blk fun k hk => Below.heap_setCell _ _ _ _ (fun e => by have := (hv30 k hk).1; simp at e; omega)⟩⟩
          · refine vn_val rfl (os_load Try.isAgg82 rfl ((by first | exact hR24.cell (i := 0) rfl | exact (hR16.keep c0).cell (i := 0) rfl))) ?_
            refine va_one 3 (by kernel_rfl) ?_
            refine vn_val rfl (os_load Try.isAgg82 rfl ((hR16.keep c0).cell (i := 0) rfl)) ?_
            refine va_one 4 (by kernel_rfl) ?_
            refine vn_call rfl (nt_num B g V p (9 + 3 * i) 1 1 _ (hP16.keep c0) (by have := c0.size; omega) hl ⟨rfl, by omega, by omega⟩) rfl ?_
            rintro u24 w24 ⟨rfl, hP24, k24⟩
            have hR24 := (hR16.keep c0).kb k24 hRg
            have hN24 := (hN16.keep c0).kb k24 hNg
            have s24 : w16.heap.size ≤ w24.heap.size := k24.size
            have hv24 := (hv16.keepAll c0).blk (w'' := w24) (fun k hk => k24.block k ((hv16.keepAll c0).lt k hk).2 (by have := (hv16.lt k hk).1; simp; omega))
            refine va_one 7 (by kernel_rfl) ?_
            refine vn_call rfl (nt_num B g V p (9 + 3 * i + 1) 2 2 w24 hP24 (by omega) hl ⟨rfl, by omega, by omega⟩) rfl ?_
            rintro u27 w27 ⟨rfl, hP27, k27⟩
            have hR27 := hR24.kb k27 hRg
            have hN27 := hN24.kb k27 hNg
            have s27 := k27.size
            have hv27 := hv24.blk (w'' := w27) (fun k hk => k27.block k (hv24.lt k hk).2 (by have := (hv24.lt k hk).1; simp; omega))
            refine va_pure 8 rfl (by kernel_rfl) (by kernel_rfl) (by kernel_rfl) (fun w => (os_build (cs := [.int .i64 (rdV p (9 + 3 * i) 1), .int .i64 (rdV p (9 + 3 * i + 1) 2)]) rfl (by kernel_rfl))) ?_
            refine va_one 9 (by kernel_rfl) ?_
            refine vn_val rfl (os_litS (css := [[.int .i64 (rdV p (9 + 3 * i) 1), .int .i64 (rdV p (9 + 3 * i + 1) 2)]]) Try.underlying26 Try.sizeOf42 Try.zeroValue42 rfl rfl (by intro c hc; simp at hc; subst hc; rfl) (by decide) (by decide) (by decide)) ?_
            have r29 := rdp_alloc w27 [[Value.int .i64 (rdV p (9 + 3 * i) 1), .int .i64 (rdV p (9 + 3 * i + 1) 2)]] 42 (s := 2) (by intro c hc; simp at hc; subst hc; rfl)
            have c29 : Below w27.heap.size w27 (w27.alloc (.cells [[Value.int .i64 (rdV p (9 + 3 * i) 1), .int .i64 (rdV p (9 + 3 * i + 1) 2)]].flatten.toArray 42)) := (Below.refl _ _).alloc (Nat.le_refl _) _
            have hN29 := hN27.keep c29
            have hv29 := hv27.keepAll c29
            have hR29 := hR27.keep c29
            have hP29 := hP27.keep c29
            have s29 := c29.size
            refine va_one 10 (by kernel_rfl) ?_
            refine vn_some rfl (ot_append_pn Try.underlying26 ti_wCounts rfl (by decide) rfl rfl hv29 r29 (by intro c hc; simp at hc; subst hc; rfl) rfl (by intro c hc u hu; simp at hc; subst hc; simp at hu; rcases hu with rfl | rfl <;> rfl) (by rw [hrl]; omega) (by rw [hrl]; simp only [maxLen]; omega) (by omega)) ?_
            rintro v30 w30 ⟨ho30, hg30⟩
            have hvl := hv29.lt
            have hN30 := hN29.grown hg30 (fun e => by have := (hvl N e.symm).1; omega)
            have hR30 := hR29.grown hg30 (fun e => by have := (hvl R e.symm).1; omega)
            have k30 : Kb v.ownBlock.toList (w27.alloc (.cells [[Value.int .i64 (rdV p (9 + 3 * i) 1), .int .i64 (rdV p (9 + 3 * i + 1) 2)]].flatten.toArray 42)) w30 := Kb.grown hg30 (fun k hk => by simp [hk])
            have hgv : g ∉ v.ownBlock.toList := fun hh => by have := (hvl g (by simpa using hh)).1; omega
            have hP30 := hP29.kb k30 hgv (fun k hk hh => by have := (hvl k (by simpa using hh)).1; have := hV k hk; omega)
            have hv30 := ho30.lt
            have s30 := k30.size
            refine va_pure 11 rfl (by kernel_rfl) (by kernel_rfl) (by kernel_rfl) (fun w => (os_fa (o := 3) (k := 0) (by kernel_rfl) rfl)) ?_
            refine va_one 12 (by kernel_rfl) ?_
            refine vn_unit rfl (ou_store Try.sizeOf26 rfl rfl (OwnP.one' ho30) (hN30.cell (i := 3) rfl) (hN30.free _)) ?_
            have kS : Kb [N] w30 (w30.setCell ⟨N, 0 + 3, none⟩ v30) := Kb.set (S := [N]) (by simp) _ _
            have kall : Kb [g] w w30 := ((k16.trans ((Kb.of_below (S := [g]) c0).trans (k24.trans k27 (fun k hk => .inl hk)) (fun k hk => .inl hk)) (fun k hk => .inl hk)).trans (Kb.of_below (S := [g]) c29) (fun k hk => .inl hk)).trans k30 (fun k hk => .inr (by have := (hvl k (by simpa using hk)).1; omega))
            refine va_done (by kernel_rfl) ?_
            exact ⟨0, ⟨rfl, rfl, rfl, trivial⟩, ⟨rfl, trivial⟩, ⟨hR30.kb kS (by simp; omega), by have := hP30.kb kS (by simp; omega) (fun k hk => by have := hV k hk; simp; omega); rw [show 9 + 3 * (i + 1) = 9 + 3 * i + 1 + 2 by omega]; exact this, kall.trans kS (fun k hk => .inr (by simp at hk; omega)), by simp [World.setCell]; omega, v30, hN30.set 3 v30, by rw [cntsR_succ, List.map_append, show 10 + 3 * i = 9 + 3 * i + 1 by omega]; exact ho30.blk fun k hk => Below.heap_setCell _ _ _ _ (fun e => by have := (hv30 k hk).1; simp at e; omega)⟩⟩
        · refine vn_val rfl (os_load Try.isAgg82 rfl ((hR16.keep c0).cell (i := 0) rfl)) ?_
          refine va_three 1 4 6 (by kernel_rfl) ?_ ?_ ?_
          · refine vn_val rfl (os_load Try.isAgg26 rfl ((by first | exact hN29.cell (i := 3) rfl | exact hN27.cell (i := 3) rfl | exact hN24.cell (i := 3) rfl | exact (hN16.keep c0).cell (i := 3) rfl))) ?_
            refine va_two 4 6 (by kernel_rfl) ?_ ?_
            · refine vn_call rfl (nt_num B g V p (9 + 3 * i) 1 1 _ (hP16.keep c0) (by have := c0.size; omega) hl ⟨rfl, by omega, by omega⟩) rfl ?_
              rintro u24 w24 ⟨rfl, hP24, k24⟩
              have hR24 := (hR16.keep c0).kb k24 hRg
              have hN24 := (hN16.keep c0).kb k24 hNg
              have s24 : w16.heap.size ≤ w24.heap.size := k24.size
              have hv24 := (hv16.keepAll c0).blk (w'' := w24) (fun k hk => k24.block k ((hv16.keepAll c0).lt k hk).2 (by have := (hv16.lt k hk).1; simp; omega))
              refine va_one 6 (by kernel_rfl) ?_
              refine vn_val rfl (os_load Try.isAgg82 rfl ((by first | exact hR24.cell (i := 0) rfl | exact (hR16.keep c0).cell (i := 0) rfl))) ?_
              refine va_one 7 (by kernel_rfl) ?_
              refine vn_call rfl (nt_num B g V p (9 + 3 * i + 1) 2 2 w24 hP24 (by omega) hl ⟨rfl, by omega, by omega⟩) rfl ?_
              rintro u27 w27 ⟨rfl, hP27, k27⟩
              have hR27 := hR24.kb k27 hRg
              have hN27 := hN24.kb k27 hNg
              have s27 := k27.size
              have hv27 := hv24.blk (w'' := w27) (fun k hk => k27.block k (hv24.lt k hk).2 (by have := (hv24.lt k hk).1; simp; omega))
              refine va_pure 8 rfl (by kernel_rfl) (by kernel_rfl) (by kernel_rfl) (fun w => (os_build (cs := [.int .i64 (rdV p (9 + 3 * i) 1), .int .i64 (rdV p (9 + 3 * i + 1) 2)]) rfl (by kernel_rfl))) ?_
              refine va_one 9 (by kernel_rfl) ?_
              refine vn_val rfl (os_litS (css := [[.int .i64 (rdV p (9 + 3 * i) 1), .int .i64 (rdV p (9 + 3 * i + 1) 2)]]) Try.underlying26 Try.sizeOf42 Try.zeroValue42 rfl rfl (by intro c hc; simp at hc; subst hc; rfl) (by decide) (by decide) (by decide)) ?_
              have r29 := rdp_alloc w27 [[Value.int .i64 (rdV p (9 + 3 * i) 1), .int .i64 (rdV p (9 + 3 * i + 1) 2)]] 42 (s := 2) (by intro c hc; simp at hc; subst hc; rfl)
              have c29 : Below w27.heap.size w27 (w27.alloc (.cells [[Value.int .i64 (rdV p (9 + 3 * i) 1), .int .i64 (rdV p (9 + 3 * i + 1) 2)]].flatten.toArray 42)) := (Below.refl _ _).alloc (Nat.le_refl _) _
              have hN29 := hN27.keep c29
              have hv29 := hv27.keepAll c29
              have hR29 := hR27.keep c29
              have hP29 := hP27.keep c29
              have s29 := c29.size
              refine va_one 10 (by kernel_rfl) ?_
              refine vn_some rfl (ot_append_pn Try.underlying26 ti_wCounts rfl (by decide) rfl rfl hv29 r29 (by intro c hc; simp at hc; subst hc; rfl) rfl (by intro c hc u hu; simp at hc; subst hc; simp at hu; rcases hu with rfl | rfl <;> rfl) (by rw [hrl]; omega) (by rw [hrl]; simp only [maxLen]; omega) (by omega)) ?_
              rintro v30 w30 ⟨ho30, hg30⟩
              have hvl := hv29.lt
              have hN30 := hN29.grown hg30 (fun e => by have := (hvl N e.symm).1; omega)
              have hR30 := hR29.grown hg30 (fun e => by have := (hvl R e.symm).1; omega)
              have k30 : Kb v.ownBlock.toList (w27.alloc (.cells [[Value.int .i64 (rdV p (9 + 3 * i) 1), .int .i64 (rdV p (9 + 3 * i + 1) 2)]].flatten.toArray 42)) w30 := Kb.grown hg30 (fun k hk => by simp [hk])
              have hgv : g ∉ v.ownBlock.toList := fun hh => by have := (hvl g (by simpa using hh)).1; omega
              have hP30 := hP29.kb k30 hgv (fun k hk hh => by have := (hvl k (by simpa using hh)).1; have := hV k hk; omega)
              have hv30 := ho30.lt
              have s30 := k30.size
              refine va_pure 11 rfl (by kernel_rfl) (by kernel_rfl) (by kernel_rfl) (fun w => (os_fa (o := 3) (k := 0) (by kernel_rfl) rfl)) ?_
              refine va_one 12 (by kernel_rfl) ?_
              refine vn_unit rfl (ou_store Try.sizeOf26 rfl rfl (OwnP.one' ho30) (hN30.cell (i := 3) rfl) (hN30.free _)) ?_
              have kS : Kb [N] w30 (w30.setCell ⟨N, 0 + 3, none⟩ v30) := Kb.set (S := [N]) (by simp) _ _
              have kall : Kb [g] w w30 := ((k16.trans ((Kb.of_below (S := [g]) c0).trans (k24.trans k27 (fun k hk => .inl hk)) (fun k hk => .inl hk)) (fun k hk => .inl hk)).trans (Kb.of_below (S := [g]) c29) (fun k hk => .inl hk)).trans k30 (fun k hk => .inr (by have := (hvl k (by simpa using hk)).1; omega))
              refine va_done (by kernel_rfl) ?_
              exact ⟨0, ⟨rfl, rfl, rfl, trivial⟩, ⟨rfl, trivial⟩, ⟨hR30.kb kS (by simp; omega), by have := hP30.kb kS (by simp; omega) (fun k hk => by have := hV k hk; simp; omega); rw [show 9 + 3 * (i + 1) = 9 + 3 * i + 1 + 2 by omega]; exact this, kall.trans kS (fun k hk => .inr (by simp at hk; omega)), by simp [World.setCell]; omega, v30, hN30.set 3 v30, by rw [cntsR_succ, List.map_append, show 10 + 3 * i = 9 + 3 * i + 1 by omega]; exact ho30.blk fun k hk => Below.heap_setCell _ _ _ _ (fun e => by have := (hv30 k hk).1; simp at e; omega)⟩⟩
            · refine vn_val rfl (os_load Try.isAgg82 rfl ((by first | exact hR24.cell (i := 0) rfl | exact (hR16.keep c0).cell (i := 0) rfl))) ?_
              refine va_one 4 (by kernel_rfl) ?_
              refine vn_call rfl (nt_num B g V p (9 + 3 * i) 1 1 _ (hP16.keep c0) (by have := c0.size; omega) hl ⟨rfl, by omega, by omega⟩) rfl ?_
              rintro u24 w24 ⟨rfl, hP24, k24⟩
              have hR24 := (hR16.keep c0).kb k24 hRg
              have hN24 := (hN16.keep c0).kb k24 hNg
              have s24 : w16.heap.size ≤ w24.heap.size := k24.size
              have hv24 := (hv16.keepAll c0).blk (w'' := w24) (fun k hk => k24.block k ((hv16.keepAll c0).lt k hk).2 (by have := (hv16.lt k hk).1; simp; omega))
              refine va_one 7 (by kernel_rfl) ?_
              refine vn_call rfl (nt_num B g V p (9 + 3 * i + 1) 2 2 w24 hP24 (by omega) hl ⟨rfl, by omega, by omega⟩) rfl ?_
              rintro u27 w27 ⟨rfl, hP27, k27⟩
              have hR27 := hR24.kb k27 hRg
              have hN27 := hN24.kb k27 hNg
              have s27 := k27.size
              have hv27 := hv24.blk (w'' := w27) (fun k hk => k27.block k (hv24.lt k hk).2 (by have := (hv24.lt k hk).1; simp; omega))
              refine va_pure 8 rfl (by kernel_rfl) (by kernel_rfl) (by kernel_rfl) (fun w => (os_build (cs := [.int .i64 (rdV p (9 + 3 * i) 1), .int .i64 (rdV p (9 + 3 * i + 1) 2)]) rfl (by kernel_rfl))) ?_
              refine va_one 9 (by kernel_rfl) ?_
              refine vn_val rfl (os_litS (css := [[.int .i64 (rdV p (9 + 3 * i) 1), .int .i64 (rdV p (9 + 3 * i + 1) 2)]]) Try.underlying26 Try.sizeOf42 Try.zeroValue42 rfl rfl (by intro c hc; simp at hc; subst hc; rfl) (by decide) (by decide) (by decide)) ?_
              have r29 := rdp_alloc w27 [[Value.int .i64 (rdV p (9 + 3 * i) 1), .int .i64 (rdV p (9 + 3 * i + 1) 2)]] 42 (s := 2) (by intro c hc; simp at hc; subst hc; rfl)
              have c29 : Below w27.heap.size w27 (w27.alloc (.cells [[Value.int .i64 (rdV p (9 + 3 * i) 1), .int .i64 (rdV p (9 + 3 * i + 1) 2)]].flatten.toArray 42)) := (Below.refl _ _).alloc (Nat.le_refl _) _
              have hN29 := hN27.keep c29
              have hv29 := hv27.keepAll c29
              have hR29 := hR27.keep c29
              have hP29 := hP27.keep c29
              have s29 := c29.size
              refine va_one 10 (by kernel_rfl) ?_
              refine vn_some rfl (ot_append_pn Try.underlying26 ti_wCounts rfl (by decide) rfl rfl hv29 r29 (by intro c hc; simp at hc; subst hc; rfl) rfl (by intro c hc u hu; simp at hc; subst hc; simp at hu; rcases hu with rfl | rfl <;> rfl) (by rw [hrl]; omega) (by rw [hrl]; simp only [maxLen]; omega) (by omega)) ?_
              rintro v30 w30 ⟨ho30, hg30⟩
              have hvl := hv29.lt
              have hN30 := hN29.grown hg30 (fun e => by have := (hvl N e.symm).1; omega)
              have hR30 := hR29.grown hg30 (fun e => by have := (hvl R e.symm).1; omega)
              have k30 : Kb v.ownBlock.toList (w27.alloc (.cells [[Value.int .i64 (rdV p (9 + 3 * i) 1), .int .i64 (rdV p (9 + 3 * i + 1) 2)]].flatten.toArray 42)) w30 := Kb.grown hg30 (fun k hk => by simp [hk])
              have hgv : g ∉ v.ownBlock.toList := fun hh => by have := (hvl g (by simpa using hh)).1; omega
              have hP30 := hP29.kb k30 hgv (fun k hk hh => by have := (hvl k (by simpa using hh)).1; have := hV k hk; omega)
              have hv30 := ho30.lt
              have s30 := k30.size
              refine va_pure 11 rfl (by kernel_rfl) (by kernel_rfl) (by kernel_rfl) (fun w => (os_fa (o := 3) (k := 0) (by kernel_rfl) rfl)) ?_
              refine va_one 12 (by kernel_rfl) ?_
              refine vn_unit rfl (ou_store Try.sizeOf26 rfl rfl (OwnP.one' ho30) (hN30.cell (i := 3) rfl) (hN30.free _)) ?_
              have kS : Kb [N] w30 (w30.setCell ⟨N, 0 + 3, none⟩ v30) := Kb.set (S := [N]) (by simp) _ _
              have kall : Kb [g] w w30 := ((k16.trans ((Kb.of_below (S := [g]) c0).trans (k24.trans k27 (fun k hk => .inl hk)) (fun k hk => .inl hk)) (fun k hk => .inl hk)).trans (Kb.of_below (S := [g]) c29) (fun k hk => .inl hk)).trans k30 (fun k hk => .inr (by have := (hvl k (by simpa using hk)).1; omega))
              refine va_done (by kernel_rfl) ?_
              exact ⟨0, ⟨rfl, rfl, rfl, trivial⟩, ⟨rfl, trivial⟩, ⟨hR30.kb kS (by simp; omega), by have := hP30.kb kS (by simp; omega) (fun k hk => by have := hV k hk; simp; omega); rw [show 9 + 3 * (i + 1) = 9 + 3 * i + 1 + 2 by omega]; exact this, kall.trans kS (fun k hk => .inr (by simp at hk; omega)), by simp [World.setCell]; omega, v30, hN30.set 3 v30, by rw [cntsR_succ, List.map_append, show 10 + 3 * i = 9 + 3 * i + 1 by omega]; exact ho30.blk fun k hk => Below.heap_setCell _ _ _ _ (fun e => by have := (hv30 k hk).1; simp at e; omega)⟩⟩
          · refine vn_call rfl (nt_num B g V p (9 + 3 * i) 1 1 _ (hP16.keep c0) (by have := c0.size; omega) hl ⟨rfl, by omega, by omega⟩) rfl ?_
            rintro u24 w24 ⟨rfl, hP24, k24⟩
            have hR24 := (hR16.keep c0).kb k24 hRg
            have hN24 := (hN16.keep c0).kb k24 hNg
            have s24 : w16.heap.size ≤ w24.heap.size := k24.size
            have hv24 := (hv16.keepAll c0).blk (w'' := w24) (fun k hk => k24.block k ((hv16.keepAll c0).lt k hk).2 (by have := (hv16.lt k hk).1; simp; omega))
            refine va_two 1 6 (by kernel_rfl) ?_ ?_
            · refine vn_val rfl (os_load Try.isAgg26 rfl ((by first | exact hN29.cell (i := 3) rfl | exact hN27.cell (i := 3) rfl | exact hN24.cell (i := 3) rfl | exact (hN16.keep c0).cell (i := 3) rfl))) ?_
              refine va_one 6 (by kernel_rfl) ?_
              refine vn_val rfl (os_load Try.isAgg82 rfl ((by first | exact hR24.cell (i := 0) rfl | exact (hR16.keep c0).cell (i := 0) rfl))) ?_
              refine va_one 7 (by kernel_rfl) ?_
              refine vn_call rfl (nt_num B g V p (9 + 3 * i + 1) 2 2 w24 hP24 (by omega) hl ⟨rfl, by omega, by omega⟩) rfl ?_
              rintro u27 w27 ⟨rfl, hP27, k27⟩
              have hR27 := hR24.kb k27 hRg
              have hN27 := hN24.kb k27 hNg
              have s27 := k27.size
              have hv27 := hv24.blk (w'' := w27) (fun k hk => k27.block k (hv24.lt k hk).2 (by have := (hv24.lt k hk).1; simp; omega))
              refine va_pure 8 rfl (by kernel_rfl) (by kernel_rfl) (by kernel_rfl) (fun w => (os_build (cs := [.int .i64 (rdV p (9 + 3 * i) 1), .int .i64 (rdV p (9 + 3 * i + 1) 2)]) rfl (by kernel_rfl))) ?_
              refine va_one 9 (by kernel_rfl) ?_
              refine vn_val rfl (os_litS (css := [[.int .i64 (rdV p (9 + 3 * i) 1), .int .i64 (rdV p (9 + 3 * i + 1) 2)]]) Try.underlying26 Try.sizeOf42 Try.zeroValue42 rfl rfl (by intro c hc; simp at hc; subst hc; rfl) (by decide) (by decide) (by decide)) ?_
              have r29 := rdp_alloc w27 [[Value.int .i64 (rdV p (9 + 3 * i) 1), .int .i64 (rdV p (9 + 3 * i + 1) 2)]] 42 (s := 2) (by intro c hc; simp at hc; subst hc; rfl)
              have c29 : Below w27.heap.size w27 (w27.alloc (.cells [[Value.int .i64 (rdV p (9 + 3 * i) 1), .int .i64 (rdV p (9 + 3 * i + 1) 2)]].flatten.toArray 42)) := (Below.refl _ _).alloc (Nat.le_refl _) _
              have hN29 := hN27.keep c29
              have hv29 := hv27.keepAll c29
              have hR29 := hR27.keep c29
              have hP29 := hP27.keep c29
              have s29 := c29.size
              refine va_one 10 (by kernel_rfl) ?_
              refine vn_some rfl (ot_append_pn Try.underlying26 ti_wCounts rfl (by decide) rfl rfl hv29 r29 (by intro c hc; simp at hc; subst hc; rfl) rfl (by intro c hc u hu; simp at hc; subst hc; simp at hu; rcases hu with rfl | rfl <;> rfl) (by rw [hrl]; omega) (by rw [hrl]; simp only [maxLen]; omega) (by omega)) ?_
              rintro v30 w30 ⟨ho30, hg30⟩
              have hvl := hv29.lt
              have hN30 := hN29.grown hg30 (fun e => by have := (hvl N e.symm).1; omega)
              have hR30 := hR29.grown hg30 (fun e => by have := (hvl R e.symm).1; omega)
              have k30 : Kb v.ownBlock.toList (w27.alloc (.cells [[Value.int .i64 (rdV p (9 + 3 * i) 1), .int .i64 (rdV p (9 + 3 * i + 1) 2)]].flatten.toArray 42)) w30 := Kb.grown hg30 (fun k hk => by simp [hk])
              have hgv : g ∉ v.ownBlock.toList := fun hh => by have := (hvl g (by simpa using hh)).1; omega
              have hP30 := hP29.kb k30 hgv (fun k hk hh => by have := (hvl k (by simpa using hh)).1; have := hV k hk; omega)
              have hv30 := ho30.lt
              have s30 := k30.size
              refine va_pure 11 rfl (by kernel_rfl) (by kernel_rfl) (by kernel_rfl) (fun w => (os_fa (o := 3) (k := 0) (by kernel_rfl) rfl)) ?_
              refine va_one 12 (by kernel_rfl) ?_
              refine vn_unit rfl (ou_store Try.sizeOf26 rfl rfl (OwnP.one' ho30) (hN30.cell (i := 3) rfl) (hN30.free _)) ?_
              have kS : Kb [N] w30 (w30.setCell ⟨N, 0 + 3, none⟩ v30) := Kb.set (S := [N]) (by simp) _ _
              have kall : Kb [g] w w30 := ((k16.trans ((Kb.of_below (S := [g]) c0).trans (k24.trans k27 (fun k hk => .inl hk)) (fun k hk => .inl hk)) (fun k hk => .inl hk)).trans (Kb.of_below (S := [g]) c29) (fun k hk => .inl hk)).trans k30 (fun k hk => .inr (by have := (hvl k (by simpa using hk)).1; omega))
              refine va_done (by kernel_rfl) ?_
              exact ⟨0, ⟨rfl, rfl, rfl, trivial⟩, ⟨rfl, trivial⟩, ⟨hR30.kb kS (by simp; omega), by have := hP30.kb kS (by simp; omega) (fun k hk => by have := hV k hk; simp; omega); rw [show 9 + 3 * (i + 1) = 9 + 3 * i + 1 + 2 by omega]; exact this, kall.trans kS (fun k hk => .inr (by simp at hk; omega)), by simp [World.setCell]; omega, v30, hN30.set 3 v30, by rw [cntsR_succ, List.map_append, show 10 + 3 * i = 9 + 3 * i + 1 by omega]; exact ho30.blk fun k hk => Below.heap_setCell _ _ _ _ (fun e => by have := (hv30 k hk).1; simp at e; omega)⟩⟩
            · refine vn_val rfl (os_load Try.isAgg82 rfl ((by first | exact hR24.cell (i := 0) rfl | exact (hR16.keep c0).cell (i := 0) rfl))) ?_
              refine va_two 1 7 (by kernel_rfl) ?_ ?_
              · refine vn_val rfl (os_load Try.isAgg26 rfl ((by first | exact hN29.cell (i := 3) rfl | exact hN27.cell (i := 3) rfl | exact hN24.cell (i := 3) rfl | exact (hN16.keep c0).cell (i := 3) rfl))) ?_
                refine va_one 7 (by kernel_rfl) ?_
                refine vn_call rfl (nt_num B g V p (9 + 3 * i + 1) 2 2 w24 hP24 (by omega) hl ⟨rfl, by omega, by omega⟩) rfl ?_
                rintro u27 w27 ⟨rfl, hP27, k27⟩
                have hR27 := hR24.kb k27 hRg
                have hN27 := hN24.kb k27 hNg
                have s27 := k27.size
                have hv27 := hv24.blk (w'' := w27) (fun k hk => k27.block k (hv24.lt k hk).2 (by have := (hv24.lt k hk).1; simp; omega))
                refine va_pure 8 rfl (by kernel_rfl) (by kernel_rfl) (by kernel_rfl) (fun w => (os_build (cs := [.int .i64 (rdV p (9 + 3 * i) 1), .int .i64 (rdV p (9 + 3 * i + 1) 2)]) rfl (by kernel_rfl))) ?_
                refine va_one 9 (by kernel_rfl) ?_
                refine vn_val rfl (os_litS (css := [[.int .i64 (rdV p (9 + 3 * i) 1), .int .i64 (rdV p (9 + 3 * i + 1) 2)]]) Try.underlying26 Try.sizeOf42 Try.zeroValue42 rfl rfl (by intro c hc; simp at hc; subst hc; rfl) (by decide) (by decide) (by decide)) ?_
                have r29 := rdp_alloc w27 [[Value.int .i64 (rdV p (9 + 3 * i) 1), .int .i64 (rdV p (9 + 3 * i + 1) 2)]] 42 (s := 2) (by intro c hc; simp at hc; subst hc; rfl)
                have c29 : Below w27.heap.size w27 (w27.alloc (.cells [[Value.int .i64 (rdV p (9 + 3 * i) 1), .int .i64 (rdV p (9 + 3 * i + 1) 2)]].flatten.toArray 42)) := (Below.refl _ _).alloc (Nat.le_refl _) _
                have hN29 := hN27.keep c29
                have hv29 := hv27.keepAll c29
                have hR29 := hR27.keep c29
                have hP29 := hP27.keep c29
                have s29 := c29.size
                refine va_one 10 (by kernel_rfl) ?_
                refine vn_some rfl (ot_append_pn Try.underlying26 ti_wCounts rfl (by decide) rfl rfl hv29 r29 (by intro c hc; simp at hc; subst hc; rfl) rfl (by intro c hc u hu; simp at hc; subst hc; simp at hu; rcases hu with rfl | rfl <;> rfl) (by rw [hrl]; omega) (by rw [hrl]; simp only [maxLen]; omega) (by omega)) ?_
                rintro v30 w30 ⟨ho30, hg30⟩
                have hvl := hv29.lt
                have hN30 := hN29.grown hg30 (fun e => by have := (hvl N e.symm).1; omega)
                have hR30 := hR29.grown hg30 (fun e => by have := (hvl R e.symm).1; omega)
                have k30 : Kb v.ownBlock.toList (w27.alloc (.cells [[Value.int .i64 (rdV p (9 + 3 * i) 1), .int .i64 (rdV p (9 + 3 * i + 1) 2)]].flatten.toArray 42)) w30 := Kb.grown hg30 (fun k hk => by simp [hk])
                have hgv : g ∉ v.ownBlock.toList := fun hh => by have := (hvl g (by simpa using hh)).1; omega
                have hP30 := hP29.kb k30 hgv (fun k hk hh => by have := (hvl k (by simpa using hh)).1; have := hV k hk; omega)
                have hv30 := ho30.lt
                have s30 := k30.size
                refine va_pure 11 rfl (by kernel_rfl) (by kernel_rfl) (by kernel_rfl) (fun w => (os_fa (o := 3) (k := 0) (by kernel_rfl) rfl)) ?_
                refine va_one 12 (by kernel_rfl) ?_
                refine vn_unit rfl (ou_store Try.sizeOf26 rfl rfl (OwnP.one' ho30) (hN30.cell (i := 3) rfl) (hN30.free _)) ?_
                have kS : Kb [N] w30 (w30.setCell ⟨N, 0 + 3, none⟩ v30) := Kb.set (S := [N]) (by simp) _ _
                have kall : Kb [g] w w30 := ((k16.trans ((Kb.of_below (S := [g]) c0).trans (k24.trans k27 (fun k hk => .inl hk)) (fun k hk => .inl hk)) (fun k hk => .inl hk)).trans (Kb.of_below (S := [g]) c29) (fun k hk => .inl hk)).trans k30 (fun k hk => .inr (by have := (hvl k (by simpa using hk)).1; omega))
                refine va_done (by kernel_rfl) ?_
                exact ⟨0, ⟨rfl, rfl, rfl, trivial⟩, ⟨rfl, trivial⟩, ⟨hR30.kb kS (by simp; omega), by have := hP30.kb kS (by simp; omega) (fun k hk => by have := hV k hk; simp; omega); rw [show 9 + 3 * (i + 1) = 9 + 3 * i + 1 + 2 by omega]; exact this, kall.trans kS (fun k hk => .inr (by simp at hk; omega)), by simp [World.setCell]; omega, v30, hN30.set 3 v30, by rw [cntsR_succ, List.map_append, show 10 + 3 * i = 9 + 3 * i + 1 by omega]; exact ho30.blk fun k hk => Below.heap_setCell _ _ _ _ (fun e => by have := (hv30 k hk).1; simp at e; omega)⟩⟩
              · refine vn_call rfl (nt_num B g V p (9 + 3 * i + 1) 2 2 w24 hP24 (by omega) hl ⟨rfl, by omega, by omega⟩) rfl ?_
                rintro u27 w27 ⟨rfl, hP27, k27⟩
                have hR27 := hR24.kb k27 hRg
                have hN27 := hN24.kb k27 hNg
                have s27 := k27.size
                have hv27 := hv24.blk (w'' := w27) (fun k hk => k27.block k (hv24.lt k hk).2 (by have := (hv24.lt k hk).1; simp; omega))
                refine va_pure 8 rfl (by kernel_rfl) (by kernel_rfl) (by kernel_rfl) (fun w => (os_build (cs := [.int .i64 (rdV p (9 + 3 * i) 1), .int .i64 (rdV p (9 + 3 * i + 1) 2)]) rfl (by kernel_rfl))) ?_
                refine va_two 1 9 (by kernel_rfl) ?_ ?_
                · refine vn_val rfl (os_load Try.isAgg26 rfl ((by first | exact hN29.cell (i := 3) rfl | exact hN27.cell (i := 3) rfl | exact hN24.cell (i := 3) rfl | exact (hN16.keep c0).cell (i := 3) rfl))) ?_
                  refine va_one 9 (by kernel_rfl) ?_
                  refine vn_val rfl (os_litS (css := [[.int .i64 (rdV p (9 + 3 * i) 1), .int .i64 (rdV p (9 + 3 * i + 1) 2)]]) Try.underlying26 Try.sizeOf42 Try.zeroValue42 rfl rfl (by intro c hc; simp at hc; subst hc; rfl) (by decide) (by decide) (by decide)) ?_
                  have r29 := rdp_alloc w27 [[Value.int .i64 (rdV p (9 + 3 * i) 1), .int .i64 (rdV p (9 + 3 * i + 1) 2)]] 42 (s := 2) (by intro c hc; simp at hc; subst hc; rfl)
                  have c29 : Below w27.heap.size w27 (w27.alloc (.cells [[Value.int .i64 (rdV p (9 + 3 * i) 1), .int .i64 (rdV p (9 + 3 * i + 1) 2)]].flatten.toArray 42)) := (Below.refl _ _).alloc (Nat.le_refl _) _
                  have hN29 := hN27.keep c29
                  have hv29 := hv27.keepAll c29
                  have hR29 := hR27.keep c29
                  have hP29 := hP27.keep c29
                  have s29 := c29.size
                  refine va_one 10 (by kernel_rfl) ?_
                  refine vn_some rfl (ot_append_pn Try.underlying26 ti_wCounts rfl (by decide) rfl rfl hv29 r29 (by intro c hc; simp at hc; subst hc; rfl) rfl (by intro c hc u hu; simp at hc; subst hc; simp at hu; rcases hu with rfl | rfl <;> rfl) (by rw [hrl]; omega) (by rw [hrl]; simp only [maxLen]; omega) (by omega)) ?_
                  rintro v30 w30 ⟨ho30, hg30⟩
                  have hvl := hv29.lt
                  have hN30 := hN29.grown hg30 (fun e => by have := (hvl N e.symm).1; omega)
                  have hR30 := hR29.grown hg30 (fun e => by have := (hvl R e.symm).1; omega)
                  have k30 : Kb v.ownBlock.toList (w27.alloc (.cells [[Value.int .i64 (rdV p (9 + 3 * i) 1), .int .i64 (rdV p (9 + 3 * i + 1) 2)]].flatten.toArray 42)) w30 := Kb.grown hg30 (fun k hk => by simp [hk])
                  have hgv : g ∉ v.ownBlock.toList := fun hh => by have := (hvl g (by simpa using hh)).1; omega
                  have hP30 := hP29.kb k30 hgv (fun k hk hh => by have := (hvl k (by simpa using hh)).1; have := hV k hk; omega)
                  have hv30 := ho30.lt
                  have s30 := k30.size
                  refine va_pure 11 rfl (by kernel_rfl) (by kernel_rfl) (by kernel_rfl) (fun w => (os_fa (o := 3) (k := 0) (by kernel_rfl) rfl)) ?_
                  refine va_one 12 (by kernel_rfl) ?_
                  refine vn_unit rfl (ou_store Try.sizeOf26 rfl rfl (OwnP.one' ho30) (hN30.cell (i := 3) rfl) (hN30.free _)) ?_
                  have kS : Kb [N] w30 (w30.setCell ⟨N, 0 + 3, none⟩ v30) := Kb.set (S := [N]) (by simp) _ _
                  have kall : Kb [g] w w30 := ((k16.trans ((Kb.of_below (S := [g]) c0).trans (k24.trans k27 (fun k hk => .inl hk)) (fun k hk => .inl hk)) (fun k hk => .inl hk)).trans (Kb.of_below (S := [g]) c29) (fun k hk => .inl hk)).trans k30 (fun k hk => .inr (by have := (hvl k (by simpa using hk)).1; omega))
                  refine va_done (by kernel_rfl) ?_
                  exact ⟨0, ⟨rfl, rfl, rfl, trivial⟩, ⟨rfl, trivial⟩, ⟨hR30.kb kS (by simp; omega), by have := hP30.kb kS (by simp; omega) (fun k hk => by have := hV k hk; simp; omega); rw [show 9 + 3 * (i + 1) = 9 + 3 * i + 1 + 2 by omega]; exact this, kall.trans kS (fun k hk => .inr (by simp at hk; omega)), by simp [World.setCell]; omega, v30, hN30.set 3 v30, by rw [cntsR_succ, List.map_append, show 10 + 3 * i = 9 + 3 * i + 1 by omega]; exact ho30.blk fun k hk => Below.heap_setCell _ _ _ _ (fun e => by have := (hv30 k hk).1; simp at e; omega)⟩⟩
                · refine vn_val rfl (os_litS (css := [[.int .i64 (rdV p (9 + 3 * i) 1), .int .i64 (rdV p (9 + 3 * i + 1) 2)]]) Try.underlying26 Try.sizeOf42 Try.zeroValue42 rfl rfl (by intro c hc; simp at hc; subst hc; rfl) (by decide) (by decide) (by decide)) ?_
                  have r29 := rdp_alloc w27 [[Value.int .i64 (rdV p (9 + 3 * i) 1), .int .i64 (rdV p (9 + 3 * i + 1) 2)]] 42 (s := 2) (by intro c hc; simp at hc; subst hc; rfl)
                  have c29 : Below w27.heap.size w27 (w27.alloc (.cells [[Value.int .i64 (rdV p (9 + 3 * i) 1), .int .i64 (rdV p (9 + 3 * i + 1) 2)]].flatten.toArray 42)) := (Below.refl _ _).alloc (Nat.le_refl _) _
                  have hN29 := hN27.keep c29
                  have hv29 := hv27.keepAll c29
                  have hR29 := hR27.keep c29
                  have hP29 := hP27.keep c29
                  have s29 := c29.size
                  refine va_one 1 (by kernel_rfl) ?_
                  refine vn_val rfl (os_load Try.isAgg26 rfl ((by first | exact hN29.cell (i := 3) rfl | exact hN27.cell (i := 3) rfl | exact hN24.cell (i := 3) rfl | exact (hN16.keep c0).cell (i := 3) rfl))) ?_
                  refine va_one 10 (by kernel_rfl) ?_
                  refine vn_some rfl (ot_append_pn Try.underlying26 ti_wCounts rfl (by decide) rfl rfl hv29 r29 (by intro c hc; simp at hc; subst hc; rfl) rfl (by intro c hc u hu; simp at hc; subst hc; simp at hu; rcases hu with rfl | rfl <;> rfl) (by rw [hrl]; omega) (by rw [hrl]; simp only [maxLen]; omega) (by omega)) ?_
                  rintro v30 w30 ⟨ho30, hg30⟩
                  have hvl := hv29.lt
                  have hN30 := hN29.grown hg30 (fun e => by have := (hvl N e.symm).1; omega)
                  have hR30 := hR29.grown hg30 (fun e => by have := (hvl R e.symm).1; omega)
                  have k30 : Kb v.ownBlock.toList (w27.alloc (.cells [[Value.int .i64 (rdV p (9 + 3 * i) 1), .int .i64 (rdV p (9 + 3 * i + 1) 2)]].flatten.toArray 42)) w30 := Kb.grown hg30 (fun k hk => by simp [hk])
                  have hgv : g ∉ v.ownBlock.toList := fun hh => by have := (hvl g (by simpa using hh)).1; omega
                  have hP30 := hP29.kb k30 hgv (fun k hk hh => by have := (hvl k (by simpa using hh)).1; have := hV k hk; omega)
                  have hv30 := ho30.lt
                  have s30 := k30.size
                  refine va_pure 11 rfl (by kernel_rfl) (by kernel_rfl) (by kernel_rfl) (fun w => (os_fa (o := 3) (k := 0) (by kernel_rfl) rfl)) ?_
                  refine va_one 12 (by kernel_rfl) ?_
                  refine vn_unit rfl (ou_store Try.sizeOf26 rfl rfl (OwnP.one' ho30) (hN30.cell (i := 3) rfl) (hN30.free _)) ?_
                  have kS : Kb [N] w30 (w30.setCell ⟨N, 0 + 3, none⟩ v30) := Kb.set (S := [N]) (by simp) _ _
                  have kall : Kb [g] w w30 := ((k16.trans ((Kb.of_below (S := [g]) c0).trans (k24.trans k27 (fun k hk => .inl hk)) (fun k hk => .inl hk)) (fun k hk => .inl hk)).trans (Kb.of_below (S := [g]) c29) (fun k hk => .inl hk)).trans k30 (fun k hk => .inr (by have := (hvl k (by simpa using hk)).1; omega))
                  refine va_done (by kernel_rfl) ?_
                  exact ⟨0, ⟨rfl, rfl, rfl, trivial⟩, ⟨rfl, trivial⟩, ⟨hR30.kb kS (by simp; omega), by have := hP30.kb kS (by simp; omega) (fun k hk => by have := hV k hk; simp; omega); rw [show 9 + 3 * (i + 1) = 9 + 3 * i + 1 + 2 by omega]; exact this, kall.trans kS (fun k hk => .inr (by simp at hk; omega)), by simp [World.setCell]; omega, v30, hN30.set 3 v30, by rw [cntsR_succ, List.map_append, show 10 + 3 * i = 9 + 3 * i + 1 by omega]; exact ho30.blk fun k hk => Below.heap_setCell _ _ _ _ (fun e => by have := (hv30 k hk).1; simp at e; omega)⟩⟩
          · refine vn_val rfl (os_load Try.isAgg82 rfl ((by first | exact hR24.cell (i := 0) rfl | exact (hR16.keep c0).cell (i := 0) rfl))) ?_
            refine va_two 1 4 (by kernel_rfl) ?_ ?_
            · refine vn_val rfl (os_load Try.isAgg26 rfl ((by first | exact hN29.cell (i := 3) rfl | exact hN27.cell (i := 3) rfl | exact hN24.cell (i := 3) rfl | exact (hN16.keep c0).cell (i := 3) rfl))) ?_
              refine va_one 4 (by kernel_rfl) ?_
              refine vn_call rfl (nt_num B g V p (9 + 3 * i) 1 1 _ (hP16.keep c0) (by have := c0.size; omega) hl ⟨rfl, by omega, by omega⟩) rfl ?_
              rintro u24 w24 ⟨rfl, hP24, k24⟩
              have hR24 := (hR16.keep c0).kb k24 hRg
              have hN24 := (hN16.keep c0).kb k24 hNg
              have s24 : w16.heap.size ≤ w24.heap.size := k24.size
              have hv24 := (hv16.keepAll c0).blk (w'' := w24) (fun k hk => k24.block k ((hv16.keepAll c0).lt k hk).2 (by have := (hv16.lt k hk).1; simp; omega))
              refine va_one 7 (by kernel_rfl) ?_
              refine vn_call rfl (nt_num B g V p (9 + 3 * i + 1) 2 2 w24 hP24 (by omega) hl ⟨rfl, by omega, by omega⟩) rfl ?_
              rintro u27 w27 ⟨rfl, hP27, k27⟩
              have hR27 := hR24.kb k27 hRg
              have hN27 := hN24.kb k27 hNg
              have s27 := k27.size
              have hv27 := hv24.blk (w'' := w27) (fun k hk => k27.block k (hv24.lt k hk).2 (by have := (hv24.lt k hk).1; simp; omega))
              refine va_pure 8 rfl (by kernel_rfl) (by kernel_rfl) (by kernel_rfl) (fun w => (os_build (cs := [.int .i64 (rdV p (9 + 3 * i) 1), .int .i64 (rdV p (9 + 3 * i + 1) 2)]) rfl (by kernel_rfl))) ?_
              refine va_one 9 (by kernel_rfl) ?_
              refine vn_val rfl (os_litS (css := [[.int .i64 (rdV p (9 + 3 * i) 1), .int .i64 (rdV p (9 + 3 * i + 1) 2)]]) Try.underlying26 Try.sizeOf42 Try.zeroValue42 rfl rfl (by intro c hc; simp at hc; subst hc; rfl) (by decide) (by decide) (by decide)) ?_
              have r29 := rdp_alloc w27 [[Value.int .i64 (rdV p (9 + 3 * i) 1), .int .i64 (rdV p (9 + 3 * i + 1) 2)]] 42 (s := 2) (by intro c hc; simp at hc; subst hc; rfl)
              have c29 : Below w27.heap.size w27 (w27.alloc (.cells [[Value.int .i64 (rdV p (9 + 3 * i) 1), .int .i64 (rdV p (9 + 3 * i + 1) 2)]].flatten.toArray 42)) := (Below.refl _ _).alloc (Nat.le_refl _) _
              have hN29 := hN27.keep c29
              have hv29 := hv27.keepAll c29
              have hR29 := hR27.keep c29
              have hP29 := hP27.keep c29
              have s29 := c29.size
              refine va_one 10 (by kernel_rfl) ?_
              refine vn_some rfl (ot_append_pn Try.underlying26 ti_wCounts rfl (by decide) rfl rfl hv29 r29 (by intro c hc; simp at hc; subst hc; rfl) rfl (by intro c hc u hu; simp at hc; subst hc; simp at hu; rcases hu with rfl | rfl <;> rfl) (by rw [hrl]; omega) (by rw [hrl]; simp only [maxLen]; omega) (by omega)) ?_
              rintro v30 w30 ⟨ho30, hg30⟩
              have hvl := hv29.lt
              have hN30 := hN29.grown hg30 (fun e => by have := (hvl N e.symm).1; omega)
              have hR30 := hR29.grown hg30 (fun e => by have := (hvl R e.symm).1; omega)
              have k30 : Kb v.ownBlock.toList (w27.alloc (.cells [[Value.int .i64 (rdV p (9 + 3 * i) 1), .int .i64 (rdV p (9 + 3 * i + 1) 2)]].flatten.toArray 42)) w30 := Kb.grown hg30 (fun k hk => by simp [hk])
              have hgv : g ∉ v.ownBlock.toList := fun hh => by have := (hvl g (by simpa using hh)).1; omega
              have hP30 := hP29.kb k30 hgv (fun k hk hh => by have := (hvl k (by simpa using hh)).1; have := hV k hk; omega)
              have hv30 := ho30.lt
              have s30 := k30.size
              refine va_pure 11 rfl (by kernel_rfl) (by kernel_rfl) (by kernel_rfl) (fun w => (os_fa (o := 3) (k := 0) (by kernel_rfl) rfl)) ?_
              refine va_one 12 (by kernel_rfl) ?_
              refine vn_unit rfl (ou_store Try.sizeOf26 rfl rfl (OwnP.one' ho30) (hN30.cell (i := 3) rfl) (hN30.free _)) ?_
              have kS : Kb [N] w30 (w30.setCell ⟨N, 0 + 3, none⟩ v30) := Kb.set (S := [N]) (by simp) _ _
              have kall : Kb [g] w w30 := ((k16.trans ((Kb.of_below (S := [g]) c0).trans (k24.trans k27 (fun k hk => .inl hk)) (fun k hk => .inl hk)) (fun k hk => .inl hk)).trans (Kb.of_below (S := [g]) c29) (fun k hk => .inl hk)).trans k30 (fun k hk => .inr (by have := (hvl k (by simpa using hk)).1; omega))
              refine va_done (by kernel_rfl) ?_
              exact ⟨0, ⟨rfl, rfl, rfl, trivial⟩, ⟨rfl, trivial⟩, ⟨hR30.kb kS (by simp; omega), by have := hP30.kb kS (by simp; omega) (fun k hk => by have := hV k hk; simp; omega); rw [show 9 + 3 * (i + 1) = 9 + 3 * i + 1 + 2 by omega]; exact this, kall.trans kS (fun k hk => .inr (by simp at hk; omega)), by simp [World.setCell]; omega, v30, hN30.set 3 v30, by rw [cntsR_succ, List.map_append, show 10 + 3 * i = 9 + 3 * i + 1 by omega]; exact ho30.blk fun k hk => Below.heap_setCell _ _ _ _ (fun e => by have := (hv30 k hk).1; simp at e; omega)⟩⟩
            · refine vn_call rfl (nt_num B g V p (9 + 3 * i) 1 1 _ (hP16.keep c0) (by have := c0.size; omega) hl ⟨rfl, by omega, by omega⟩) rfl ?_
              rintro u24 w24 ⟨rfl, hP24, k24⟩
              have hR24 := (hR16.keep c0).kb k24 hRg
              have hN24 := (hN16.keep c0).kb k24 hNg
              have s24 : w16.heap.size ≤ w24.heap.size := k24.size
              have hv24 := (hv16.keepAll c0).blk (w'' := w24) (fun k hk => k24.block k ((hv16.keepAll c0).lt k hk).2 (by have := (hv16.lt k hk).1; simp; omega))
              refine va_two 1 7 (by kernel_rfl) ?_ ?_
              · refine vn_val rfl (os_load Try.isAgg26 rfl ((by first | exact hN29.cell (i := 3) rfl | exact hN27.cell (i := 3) rfl | exact hN24.cell (i := 3) rfl | exact (hN16.keep c0).cell (i := 3) rfl))) ?_
                refine va_one 7 (by kernel_rfl) ?_
                refine vn_call rfl (nt_num B g V p (9 + 3 * i + 1) 2 2 w24 hP24 (by omega) hl ⟨rfl, by omega, by omega⟩) rfl ?_
                rintro u27 w27 ⟨rfl, hP27, k27⟩
                have hR27 := hR24.kb k27 hRg
                have hN27 := hN24.kb k27 hNg
                have s27 := k27.size
                have hv27 := hv24.blk (w'' := w27) (fun k hk => k27.block k (hv24.lt k hk).2 (by have := (hv24.lt k hk).1; simp; omega))
                refine va_pure 8 rfl (by kernel_rfl) (by kernel_rfl) (by kernel_rfl) (fun w => (os_build (cs := [.int .i64 (rdV p (9 + 3 * i) 1), .int .i64 (rdV p (9 + 3 * i + 1) 2)]) rfl (by kernel_rfl))) ?_
                refine va_one 9 (by kernel_rfl) ?_
                refine vn_val rfl (os_litS (css := [[.int .i64 (rdV p (9 + 3 * i) 1), .int .i64 (rdV p (9 + 3 * i + 1) 2)]]) Try.underlying26 Try.sizeOf42 Try.zeroValue42 rfl rfl (by intro c hc; simp at hc; subst hc; rfl) (by decide) (by decide) (by decide)) ?_
                have r29 := rdp_alloc w27 [[Value.int .i64 (rdV p (9 + 3 * i) 1), .int .i64 (rdV p (9 + 3 * i + 1) 2)]] 42 (s := 2) (by intro c hc; simp at hc; subst hc; rfl)
                have c29 : Below w27.heap.size w27 (w27.alloc (.cells [[Value.int .i64 (rdV p (9 + 3 * i) 1), .int .i64 (rdV p (9 + 3 * i + 1) 2)]].flatten.toArray 42)) := (Below.refl _ _).alloc (Nat.le_refl _) _
                have hN29 := hN27.keep c29
                have hv29 := hv27.keepAll c29
                have hR29 := hR27.keep c29
                have hP29 := hP27.keep c29
                have s29 := c29.size
                refine va_one 10 (by kernel_rfl) ?_
                refine vn_some rfl (ot_append_pn Try.underlying26 ti_wCounts rfl (by decide) rfl rfl hv29 r29 (by intro c hc; simp at hc; subst hc; rfl) rfl (by intro c hc u hu; simp at hc; subst hc; simp at hu; rcases hu with rfl | rfl <;> rfl) (by rw [hrl]; omega) (by rw [hrl]; simp only [maxLen]; omega) (by omega)) ?_
                rintro v30 w30 ⟨ho30, hg30⟩
                have hvl := hv29.lt
                have hN30 := hN29.grown hg30 (fun e => by have := (hvl N e.symm).1; omega)
                have hR30 := hR29.grown hg30 (fun e => by have := (hvl R e.symm).1; omega)
                have k30 : Kb v.ownBlock.toList (w27.alloc (.cells [[Value.int .i64 (rdV p (9 + 3 * i) 1), .int .i64 (rdV p (9 + 3 * i + 1) 2)]].flatten.toArray 42)) w30 := Kb.grown hg30 (fun k hk => by simp [hk])
                have hgv : g ∉ v.ownBlock.toList := fun hh => by have := (hvl g (by simpa using hh)).1; omega
                have hP30 := hP29.kb k30 hgv (fun k hk hh => by have := (hvl k (by simpa using hh)).1; have := hV k hk; omega)
                have hv30 := ho30.lt
                have s30 := k30.size
                refine va_pure 11 rfl (by kernel_rfl) (by kernel_rfl) (by kernel_rfl) (fun w => (os_fa (o := 3) (k := 0) (by kernel_rfl) rfl)) ?_
                refine va_one 12 (by kernel_rfl) ?_
                refine vn_unit rfl (ou_store Try.sizeOf26 rfl rfl (OwnP.one' ho30) (hN30.cell (i := 3) rfl) (hN30.free _)) ?_
                have kS : Kb [N] w30 (w30.setCell ⟨N, 0 + 3, none⟩ v30) := Kb.set (S := [N]) (by simp) _ _
                have kall : Kb [g] w w30 := ((k16.trans ((Kb.of_below (S := [g]) c0).trans (k24.trans k27 (fun k hk => .inl hk)) (fun k hk => .inl hk)) (fun k hk => .inl hk)).trans (Kb.of_below (S := [g]) c29) (fun k hk => .inl hk)).trans k30 (fun k hk => .inr (by have := (hvl k (by simpa using hk)).1; omega))
                refine va_done (by kernel_rfl) ?_
                exact ⟨0, ⟨rfl, rfl, rfl, trivial⟩, ⟨rfl, trivial⟩, ⟨hR30.kb kS (by simp; omega), by have := hP30.kb kS (by simp; omega) (fun k hk => by have := hV k hk; simp; omega); rw [show 9 + 3 * (i + 1) = 9 + 3 * i + 1 + 2 by omega]; exact this, kall.trans kS (fun k hk => .inr (by simp at hk; omega)), by simp [World.setCell]; omega, v30, hN30.set 3 v30, by rw [cntsR_succ, List.map_append, show 10 + 3 * i = 9 + 3 * i + 1 by omega]; exact ho30.blk fun k hk => Below.heap_setCell _ _ _ _ (fun e => by have := (hv30 k hk).1; simp at e; omega)⟩⟩
              · refine vn_call rfl (nt_num B g V p (9 + 3 * i + 1) 2 2 w24 hP24 (by omega) hl ⟨rfl, by omega, by omega⟩) rfl ?_
                rintro u27 w27 ⟨rfl, hP27, k27⟩
                have hR27 := hR24.kb k27 hRg
                have hN27 := hN24.kb k27 hNg
                have s27 := k27.size
                have hv27 := hv24.blk (w'' := w27) (fun k hk => k27.block k (hv24.lt k hk).2 (by have := (hv24.lt k hk).1; simp; omega))
                refine va_pure 8 rfl (by kernel_rfl) (by kernel_rfl) (by kernel_rfl) (fun w => (os_build (cs := [.int .i64 (rdV p (9 + 3 * i) 1), .int .i64 (rdV p (9 + 3 * i + 1) 2)]) rfl (by kernel_rfl))) ?_
                refine va_two 1 9 (by kernel_rfl) ?_ ?_
                · refine vn_val rfl (os_load Try.isAgg26 rfl ((by first | exact hN29.cell (i := 3) rfl | exact hN27.cell (i := 3) rfl | exact hN24.cell (i := 3) rfl | exact (hN16.keep c0).cell (i := 3) rfl))) ?_
                  refine va_one 9 (by kernel_rfl) ?_
                  refine vn_val rfl (os_litS (css := [[.int .i64 (rdV p (9 + 3 * i) 1), .int .i64 (rdV p (9 + 3 * i + 1) 2)]]) Try.underlying26 Try.sizeOf42 Try.zeroValue42 rfl rfl (by intro c hc; simp at hc; subst hc; rfl) (by decide) (by decide) (by decide)) ?_
                  have r29 := rdp_alloc w27 [[Value.int .i64 (rdV p (9 + 3 * i) 1), .int .i64 (rdV p (9 + 3 * i + 1) 2)]] 42 (s := 2) (by intro c hc; simp at hc; subst hc; rfl)
                  have c29 : Below w27.heap.size w27 (w27.alloc (.cells [[Value.int .i64 (rdV p (9 + 3 * i) 1), .int .i64 (rdV p (9 + 3 * i + 1) 2)]].flatten.toArray 42)) := (Below.refl _ _).alloc (Nat.le_refl _) _
                  have hN29 := hN27.keep c29
                  have hv29 := hv27.keepAll c29
                  have hR29 := hR27.keep c29
                  have hP29 := hP27.keep c29
                  have s29 := c29.size
                  refine va_one 10 (by kernel_rfl) ?_
                  refine vn_some rfl (ot_append_pn Try.underlying26 ti_wCounts rfl (by decide) rfl rfl hv29 r29 (by intro c hc; simp at hc; subst hc; rfl) rfl (by intro c hc u hu; simp at hc; subst hc; simp at hu; rcases hu with rfl | rfl <;> rfl) (by rw [hrl]; omega) (by rw [hrl]; simp only [maxLen]; omega) (by omega)) ?_
                  rintro v30 w30 ⟨ho30, hg30⟩
                  have hvl := hv29.lt
                  have hN30 := hN29.grown hg30 (fun e => by have := (hvl N e.symm).1; omega)
                  have hR30 := hR29.grown hg30 (fun e => by have := (hvl R e.symm).1; omega)
                  have k30 : Kb v.ownBlock.toList (w27.alloc (.cells [[Value.int .i64 (rdV p (9 + 3 * i) 1), .int .i64 (rdV p (9 + 3 * i + 1) 2)]].flatten.toArray 42)) w30 := Kb.grown hg30 (fun k hk => by simp [hk])
                  have hgv : g ∉ v.ownBlock.toList := fun hh => by have := (hvl g (by simpa using hh)).1; omega
                  have hP30 := hP29.kb k30 hgv (fun k hk hh => by have := (hvl k (by simpa using hh)).1; have := hV k hk; omega)
                  have hv30 := ho30.lt
                  have s30 := k30.size
                  refine va_pure 11 rfl (by kernel_rfl) (by kernel_rfl) (by kernel_rfl) (fun w => (os_fa (o := 3) (k := 0) (by kernel_rfl) rfl)) ?_
                  refine va_one 12 (by kernel_rfl) ?_
                  refine vn_unit rfl (ou_store Try.sizeOf26 rfl rfl (OwnP.one' ho30) (hN30.cell (i := 3) rfl) (hN30.free _)) ?_
                  have kS : Kb [N] w30 (w30.setCell ⟨N, 0 + 3, none⟩ v30) := Kb.set (S := [N]) (by simp) _ _
                  have kall : Kb [g] w w30 := ((k16.trans ((Kb.of_below (S := [g]) c0).trans (k24.trans k27 (fun k hk => .inl hk)) (fun k hk => .inl hk)) (fun k hk => .inl hk)).trans (Kb.of_below (S := [g]) c29) (fun k hk => .inl hk)).trans k30 (fun k hk => .inr (by have := (hvl k (by simpa using hk)).1; omega))
                  refine va_done (by kernel_rfl) ?_
                  exact ⟨0, ⟨rfl, rfl, rfl, trivial⟩, ⟨rfl, trivial⟩, ⟨hR30.kb kS (by simp; omega), by have := hP30.kb kS (by simp; omega) (fun k hk => by have := hV k hk; simp; omega); rw [show 9 + 3 * (i + 1) = 9 + 3 * i + 1 + 2 by omega]; exact this, kall.trans kS (fun k hk => .inr (by simp at hk; omega)), by simp [World.setCell]; omega, v30, hN30.set 3 v30, by rw [cntsR_succ, List.map_append, show 10 + 3 * i = 9 + 3 * i + 1 by omega]; exact ho30.blk fun k hk => Below.heap_setCell _ _ _ _ (fun e => by have := (hv30 k hk).1; simp at e; omega)⟩⟩
                · refine vn_val rfl (os_litS (css := [[.int .i64 (rdV p (9 + 3 * i) 1), .int .i64 (rdV p (9 + 3 * i + 1) 2)]]) Try.underlying26 Try.sizeOf42 Try.zeroValue42 rfl rfl (by intro c hc; simp at hc; subst hc; rfl) (by decide) (by decide) (by decide)) ?_
                  have r29 := rdp_alloc w27 [[Value.int .i64 (rdV p (9 + 3 * i) 1), .int .i64 (rdV p (9 + 3 * i + 1) 2)]] 42 (s := 2) (by intro c hc; simp at hc; subst hc; rfl)
                  have c29 : Below w27.heap.size w27 (w27.alloc (.cells [[Value.int .i64 (rdV p (9 + 3 * i) 1), .int .i64 (rdV p (9 + 3 * i + 1) 2)]].flatten.toArray 42)) := (Below.refl _ _).alloc (Nat.le_refl _) _
                  have hN29 := hN27.keep c29
                  have hv29 := hv27.keepAll c29
                  have hR29 := hR27.keep c29
                  have hP29 := hP27.keep c29
                  have s29 := c29.size
                  refine va_one 1 (by kernel_rfl) ?_
                  refine vn_val rfl (os_load Try.isAgg26 rfl ((by first | exact hN29.cell (i := 3) rfl | exact hN27.cell (i := 3) rfl | exact hN24.cell (i := 3) rfl | exact (hN16.keep c0).cell (i := 3) rfl))) ?_
                  refine va_one 10 (by kernel_rfl) ?_
                  refine vn_some rfl (ot_append_pn Try.underlying26 ti_wCounts rfl (by decide) rfl rfl hv29 r29 (by intro c hc; simp at hc; subst hc; rfl) rfl (by intro c hc u hu; simp at hc; subst hc; simp at hu; rcases hu with rfl | rfl <;> rfl) (by rw [hrl]; omega) (by rw [hrl]; simp only [maxLen]; omega) (by omega)) ?_
                  rintro v30 w30 ⟨ho30, hg30⟩
                  have hvl := hv29.lt
                  have hN30 := hN29.grown hg30 (fun e => by have := (hvl N e.symm).1; omega)
                  have hR30 := hR29.grown hg30 (fun e => by have := (hvl R e.symm).1; omega)
                  have k30 : Kb v.ownBlock.toList (w27.alloc (.cells [[Value.int .i64 (rdV p (9 + 3 * i) 1), .int .i64 (rdV p (9 + 3 * i + 1) 2)]].flatten.toArray 42)) w30 := Kb.grown hg30 (fun k hk => by simp [hk])
                  have hgv : g ∉ v.ownBlock.toList := fun hh => by have := (hvl g (by simpa using hh)).1; omega
                  have hP30 := hP29.kb k30 hgv (fun k hk hh => by have := (hvl k (by simpa using hh)).1; have := hV k hk; omega)
                  have hv30 := ho30.lt
                  have s30 := k30.size
                  refine va_pure 11 rfl (by kernel_rfl) (by kernel_rfl) (by kernel_rfl) (fun w => (os_fa (o := 3) (k := 0) (by kernel_rfl) rfl)) ?_
                  refine va_one 12 (by kernel_rfl) ?_
                  refine vn_unit rfl (ou_store Try.sizeOf26 rfl rfl (OwnP.one' ho30) (hN30.cell (i := 3) rfl) (hN30.free _)) ?_
                  have kS : Kb [N] w30 (w30.setCell ⟨N, 0 + 3, none⟩ v30) := Kb.set (S := [N]) (by simp) _ _
                  have kall : Kb [g] w w30 := ((k16.trans ((Kb.of_below (S := [g]) c0).trans (k24.trans k27 (fun k hk => .inl hk)) (fun k hk => .inl hk)) (fun k hk => .inl hk)).trans (Kb.of_below (S := [g]) c29) (fun k hk => .inl hk)).trans k30 (fun k hk => .inr (by have := (hvl k (by simpa using hk)).1; omega))
                  refine va_done (by kernel_rfl) ?_
                  exact ⟨0, ⟨rfl, rfl, rfl, trivial⟩, ⟨rfl, trivial⟩, ⟨hR30.kb kS (by simp; omega), by have := hP30.kb kS (by simp; omega) (fun k hk => by have := hV k hk; simp; omega); rw [show 9 + 3 * (i + 1) = 9 + 3 * i + 1 + 2 by omega]; exact this, kall.trans kS (fun k hk => .inr (by simp at hk; omega)), by simp [World.setCell]; omega, v30, hN30.set 3 v30, by rw [cntsR_succ, List.map_append, show 10 + 3 * i = 9 + 3 * i + 1 by omega]; exact ho30.blk fun k hk => Below.heap_setCell _ _ _ _ (fun e => by have := (hv30 k hk).1; simp at e; omega)⟩⟩
        · refine vn_val rfl (os_load Try.isAgg82 rfl ((by first | exact hR24.cell (i := 0) rfl | exact (hR16.keep c0).cell (i := 0) rfl))) ?_
          refine va_two 1 3 (by kernel_rfl) ?_ ?_
          · refine vn_val rfl (os_load Try.isAgg26 rfl ((by first | exact hN29.cell (i := 3) rfl | exact hN27.cell (i := 3) rfl | exact hN24.cell (i := 3) rfl | exact (hN16.keep c0).cell (i := 3) rfl))) ?_
            refine va_one 3 (by kernel_rfl) ?_
            refine vn_val rfl (os_load Try.isAgg82 rfl ((hR16.keep c0).cell (i := 0) rfl)) ?_
            refine va_one 4 (by kernel_rfl) ?_
            refine vn_call rfl (nt_num B g V p (9 + 3 * i) 1 1 _ (hP16.keep c0) (by have := c0.size; omega) hl ⟨rfl, by omega, by omega⟩) rfl ?_
            rintro u24 w24 ⟨rfl, hP24, k24⟩
            have hR24 := (hR16.keep c0).kb k24 hRg
            have hN24 := (hN16.keep c0).kb k24 hNg
            have s24 : w16.heap.size ≤ w24.heap.size := k24.size
            have hv24 := (hv16.keepAll c0).blk (w'' := w24) (fun k hk => k24.block k ((hv16.keepAll c0).lt k hk).2 (by have := (hv16.lt k hk).1; simp; omega))
            refine va_one 7 (by kernel_rfl) ?_
            refine vn_call rfl (nt_num B g V p (9 + 3 * i + 1) 2 2 w24 hP24 (by omega) hl ⟨rfl, by omega, by omega⟩) rfl ?_
            rintro u27 w27 ⟨rfl, hP27, k27⟩
            have hR27 := hR24.kb k27 hRg
            have hN27 := hN24.kb k27 hNg
            have s27 := k27.size
            have hv27 := hv24.blk (w'' := w27) (fun k hk => k27.block k (hv24.lt k hk).2 (by have := (hv24.lt k hk).1; simp; omega))
            refine va_pure 8 rfl (by kernel_rfl) (by kernel_rfl) (by kernel_rfl) (fun w => (os_build (cs := [.int .i64 (rdV p (9 + 3 * i) 1), .int .i64 (rdV p (9 + 3 * i + 1) 2)]) rfl (by kernel_rfl))) ?_
            refine va_one 9 (by kernel_rfl) ?_
            refine vn_val rfl (os_litS (css := [[.int .i64 (rdV p (9 + 3 * i) 1), .int .i64 (rdV p (9 + 3 * i + 1) 2)]]) Try.underlying26 Try.sizeOf42 Try.zeroValue42 rfl rfl (by intro c hc; simp at hc; subst hc; rfl) (by decide) (by decide) (by decide)) ?_
            have r29 := rdp_alloc w27 [[Value.int .i64 (rdV p (9 + 3 * i) 1), .int .i64 (rdV p (9 + 3 * i + 1) 2)]] 42 (s := 2) (by intro c hc; simp at hc; subst hc; rfl)
            have c29 : Below w27.heap.size w27 (w27.alloc (.cells [[Value.int .i64 (rdV p (9 + 3 * i) 1), .int .i64 (rdV p (9 + 3 * i + 1) 2)]].flatten.toArray 42)) := (Below.refl _ _).alloc (Nat.le_refl _) _
            have hN29 := hN27.keep c29
            have hv29 := hv27.keepAll c29
            have hR29 := hR27.keep c29
            have hP29 := hP27.keep c29
            have s29 := c29.size
            refine va_one 10 (by kernel_rfl) ?_
            refine vn_some rfl (ot_append_pn Try.underlying26 ti_wCounts rfl (by decide) rfl rfl hv29 r29 (by intro c hc; simp at hc; subst hc; rfl) rfl (by intro c hc u hu; simp at hc; subst hc; simp at hu; rcases hu with rfl | rfl <;> rfl) (by rw [hrl]; omega) (by rw [hrl]; simp only [maxLen]; omega) (by omega)) ?_
            rintro v30 w30 ⟨ho30, hg30⟩
            have hvl := hv29.lt
            have hN30 := hN29.grown hg30 (fun e => by have := (hvl N e.symm).1; omega)
            have hR30 := hR29.grown hg30 (fun e => by have := (hvl R e.symm).1; omega)
            have k30 : Kb v.ownBlock.toList (w27.alloc (.cells [[Value.int .i64 (rdV p (9 + 3 * i) 1), .int .i64 (rdV p (9 + 3 * i + 1) 2)]].flatten.toArray 42)) w30 := Kb.grown hg30 (fun k hk => by simp [hk])
            have hgv : g ∉ v.ownBlock.toList := fun hh => by have := (hvl g (by simpa using hh)).1; omega
            have hP30 := hP29.kb k30 hgv (fun k hk hh => by have := (hvl k (by simpa using hh)).1; have := hV k hk; omega)
            have hv30 := ho30.lt
            have s30 := k30.size
            refine va_pure 11 rfl (by kernel_rfl) (by kernel_rfl) (by kernel_rfl) (fun w => (os_fa (o := 3) (k := 0) (by kernel_rfl) rfl)) ?_
            refine va_one 12 (by kernel_rfl) ?_
            refine vn_unit rfl (ou_store Try.sizeOf26 rfl rfl (OwnP.one' ho30) (hN30.cell (i := 3) rfl) (hN30.free _)) ?_
            have kS : Kb [N] w30 (w30.setCell ⟨N, 0 + 3, none⟩ v30) := Kb.set (S := [N]) (by simp) _ _
            have kall : Kb [g] w w30 := ((k16.trans ((Kb.of_below (S := [g]) c0).trans (k24.trans k27 (fun k hk => .inl hk)) (fun k hk => .inl hk)) (fun k hk => .inl hk)).trans (Kb.of_below (S := [g]) c29) (fun k hk => .inl hk)).trans k30 (fun k hk => .inr (by have := (hvl k (by simpa using hk)).1; omega))
            refine va_done (by kernel_rfl) ?_
            exact ⟨0, ⟨rfl, rfl, rfl, trivial⟩, ⟨rfl, trivial⟩, ⟨hR30.kb kS (by simp; omega), by have := hP30.kb kS (by simp; omega) (fun k hk => by have := hV k hk; simp; omega); rw [show 9 + 3 * (i + 1) = 9 + 3 * i + 1 + 2 by omega]; exact this, kall.trans kS (fun k hk => .inr (by simp at hk; omega)), by simp [World.setCell]; omega, v30, hN30.set 3 v30, by rw [cntsR_succ, List.map_append, show 10 + 3 * i = 9 + 3 * i + 1 by omega]; exact ho30.blk fun k hk => Below.heap_setCell _ _ _ _ (fun e => by have := (hv30 k hk).1; simp at e; omega)⟩⟩
          · refine vn_val rfl (os_load Try.isAgg82 rfl ((hR16.keep c0).cell (i := 0) rfl)) ?_
            refine va_two 1 4 (by kernel_rfl) ?_ ?_
            · refine vn_val rfl (os_load Try.isAgg26 rfl ((by first | exact hN29.cell (i := 3) rfl | exact hN27.cell (i := 3) rfl | exact hN24.cell (i := 3) rfl | exact (hN16.keep c0).cell (i := 3) rfl))) ?_
              refine va_one 4 (by kernel_rfl) ?_
              refine vn_call rfl (nt_num B g V p (9 + 3 * i) 1 1 _ (hP16.keep c0) (by have := c0.size; omega) hl ⟨rfl, by omega, by omega⟩) rfl ?_
              rintro u24 w24 ⟨rfl, hP24, k24⟩
              have hR24 := (hR16.keep c0).kb k24 hRg
              have hN24 := (hN16.keep c0).kb k24 hNg
              have s24 : w16.heap.size ≤ w24.heap.size := k24.size
              have hv24 := (hv16.keepAll c0).blk (w'' := w24) (fun k hk => k24.block k ((hv16.keepAll c0).lt k hk).2 (by have := (hv16.lt k hk).1; simp; omega))
              refine va_one 7 (by kernel_rfl) ?_
              refine vn_call rfl (nt_num B g V p (9 + 3 * i + 1) 2 2 w24 hP24 (by omega) hl ⟨rfl, by omega, by omega⟩) rfl ?_
              rintro u27 w27 ⟨rfl, hP27, k27⟩
              have hR27 := hR24.kb k27 hRg
              have hN27 := hN24.kb k27 hNg
              have s27 := k27.size
              have hv27 := hv24.blk (w'' := w27) (fun k hk => k27.block k (hv24.lt k hk).2 (by have := (hv24.lt k hk).1; simp; omega))
              refine va_pure 8 rfl (by kernel_rfl) (by kernel_rfl) (by kernel_rfl) (fun w => (os_build (cs := [.int .i64 (rdV p (9 + 3 * i) 1), .int .i64 (rdV p (9 + 3 * i + 1) 2)]) rfl (by kernel_rfl))) ?_
              refine va_one 9 (by kernel_rfl) ?_
              refine vn_val rfl (os_litS (css := [[.int .i64 (rdV p (9 + 3 * i) 1), .int .i64 (rdV p (9 + 3 * i + 1) 2)]]) Try.underlying26 Try.sizeOf42 Try.zeroValue42 rfl rfl (by intro c hc; simp at hc; subst hc; rfl) (by decide) (by decide) (by decide)) ?_
              have r29 := rdp_alloc w27 [[Value.int .i64 (rdV p (9 + 3 * i) 1), .int .i64 (rdV p (9 + 3 * i + 1) 2)]] 42 (s := 2) (by intro c hc; simp at hc; subst hc; rfl)
              have c29 : Below w27.heap.size w27 (w27.alloc (.cells [[Value.int .i64 (rdV p (9 + 3 * i) 1), .int .i64 (rdV p (9 + 3 * i + 1) 2)]].flatten.toArray 42)) := (Below.refl _ _).alloc (Nat.le_refl _) _
              have hN29 := hN27.keep c29
              have hv29 := hv27.keepAll c29
              have hR29 := hR27.keep c29
              have hP29 := hP27.keep c29
              have s29 := c29.size
              refine va_one 10 (by kernel_rfl) ?_
              refine vn_some rfl (ot_append_pn Try.underlying26 ti_wCounts rfl (by decide) rfl rfl hv29 r29 (by intro c hc; simp at hc; subst hc; rfl) rfl (by intro c hc u hu; simp at hc; subst hc; simp at hu; rcases hu with rfl | rfl <;> rfl) (by rw [hrl]; omega) (by rw [hrl]; simp only [maxLen]; omega) (by omega)) ?_
              rintro v30 w30 ⟨ho30, hg30⟩
              have hvl := hv29.lt
              have hN30 := hN29.grown hg30 (fun e => by have := (hvl N e.symm).1; omega)
              have hR30 := hR29.grown hg30 (fun e => by have := (hvl R e.symm).1; omega)
              have k30 : Kb v.ownBlock.toList (w27.alloc (.cells [[Value.int .i64 (rdV p (9 + 3 * i) 1), .int .i64 (rdV p (9 + 3 * i + 1) 2)]].flatten.toArray 42)) w30 := Kb.grown hg30 (fun k hk => by simp [hk])
              have hgv : g ∉ v.ownBlock.toList := fun hh => by have := (hvl g (by simpa using hh)).1; omega
              have hP30 := hP29.kb k30 hgv (fun k hk hh => by have := (hvl k (by simpa using hh)).1; have := hV k hk; omega)
              have hv30 := ho30.lt
              have s30 := k30.size
              refine va_pure 11 rfl (by kernel_rfl) (by kernel_rfl) (by kernel_rfl) (fun w => (os_fa (o := 3) (k := 0) (by kernel_rfl) rfl)) ?_
              refine va_one 12 (by kernel_rfl) ?_
              refine vn_unit rfl (ou_store Try.sizeOf26 rfl rfl (OwnP.one' ho30) (hN30.cell (i := 3) rfl) (hN30.free _)) ?_
              have kS : Kb [N] w30 (w30.setCell ⟨N, 0 + 3, none⟩ v30) := Kb.set (S := [N]) (by simp) _ _
              have kall : Kb [g] w w30 := ((k16.trans ((Kb.of_below (S := [g]) c0).trans (k24.trans k27 (fun k hk => .inl hk)) (fun k hk => .inl hk)) (fun k hk => .inl hk)).trans (Kb.of_below (S := [g]) c29) (fun k hk => .inl hk)).trans k30 (fun k hk => .inr (by have := (hvl k (by simpa using hk)).1; omega))
              refine va_done (by kernel_rfl) ?_
              exact ⟨0, ⟨rfl, rfl, rfl, trivial⟩, ⟨rfl, trivial⟩, ⟨hR30.kb kS (by simp; omega), by have := hP30.kb kS (by simp; omega) (fun k hk => by have := hV k hk; simp; omega); rw [show 9 + 3 * (i + 1) = 9 + 3 * i + 1 + 2 by omega]; exact this, kall.trans kS (fun k hk => .inr (by simp at hk; omega)), by simp [World.setCell]; omega, v30, hN30.set 3 v30, by rw [cntsR_succ, List.map_append, show 10 + 3 * i = 9 + 3 * i + 1 by omega]; exact ho30.blk fun k hk => Below.heap_setCell _ _ _ _ (fun e => by have := (hv30 k hk).1; simp at e; omega)⟩⟩
            · refine vn_call rfl (nt_num B g V p (9 + 3 * i) 1 1 _ (hP16.keep c0) (by have := c0.size; omega) hl ⟨rfl, by omega, by omega⟩) rfl ?_
              rintro u24 w24 ⟨rfl, hP24, k24⟩
              have hR24 := (hR16.keep c0).kb k24 hRg
              have hN24 := (hN16.keep c0).kb k24 hNg
              have s24 : w16.heap.size ≤ w24.heap.size := k24.size
              have hv24 := (hv16.keepAll c0).blk (w'' := w24) (fun k hk => k24.block k ((hv16.keepAll c0).lt k hk).2 (by have := (hv16.lt k hk).1; simp; omega))
              refine va_two 1 7 (by kernel_rfl) ?_ ?_
              · refine vn_val rfl (os_load Try.isAgg26 rfl ((by first | exact hN29.cell (i := 3) rfl | exact hN27.cell (i := 3) rfl | exact hN24.cell (i := 3) rfl | exact (hN16.keep c0).cell (i := 3) rfl))) ?_
                refine va_one 7 (by kernel_rfl) ?_
                refine vn_call rfl (nt_num B g V p (9 + 3 * i + 1) 2 2 w24 hP24 (by omega) hl ⟨rfl, by omega, by omega⟩) rfl ?_
                rintro u27 w27 ⟨rfl, hP27, k27⟩
                have hR27 := hR24.kb k27 hRg
                have hN27 := hN24.kb k27 hNg
                have s27 := k27.size
                have hv27 := hv24.blk (w'' := w27) (fun k hk => k27.block k (hv24.lt k hk).2 (by have := (hv24.lt k hk).1; simp; omega))
                refine va_pure 8 rfl (by kernel_rfl) (by kernel_rfl) (by kernel_rfl) (fun w => (os_build (cs := [.int .i64 (rdV p (9 + 3 * i) 1), .int .i64 (rdV p (9 + 3 * i + 1) 2)]) rfl (by kernel_rfl))) ?_
                refine va_one 9 (by kernel_rfl) ?_
                refine vn_val rfl (os_litS (css := [[.int .i64 (rdV p (9 + 3 * i) 1), .int .i64 (rdV p (9 + 3 * i + 1) 2)]]) Try.underlying26 Try.sizeOf42 Try.zeroValue42 rfl rfl (by intro c hc; simp at hc; subst hc; rfl) (by decide) (by decide) (by decide)) ?_
                have r29 := rdp_alloc w27 [[Value.int .i64 (rdV p (9 + 3 * i) 1), .int .i64 (rdV p (9 + 3 * i + 1) 2)]] 42 (s := 2) (by intro c hc; simp at hc; subst hc; rfl)
                have c29 : Below w27.heap.size w27 (w27.alloc (.cells [[Value.int .i64 (rdV p (9 + 3 * i) 1), .int .i64 (rdV p (9 + 3 * i + 1) 2)]].flatten.toArray 42)) := (Below.refl _ _).alloc (Nat.le_refl _) _
                have hN29 := hN27.keep c29
                have hv29 := hv27.keepAll c29
                have hR29 := hR27.keep c29
                have hP29 := hP27.keep c29
                have s29 := c29.size
                refine va_one 10 (by kernel_rfl) ?_
                refine vn_some rfl (ot_append_pn Try.underlying26 ti_wCounts rfl (by decide) rfl rfl hv29 r29 (by intro c hc; simp at hc; subst hc; rfl) rfl (by intro c hc u hu; simp at hc; subst hc; simp at hu; rcases hu with rfl | rfl <;> rfl) (by rw [hrl]; omega) (by rw [hrl]; simp only [maxLen]; omega) (by omega)) ?_
                rintro v30 w30 ⟨ho30, hg30⟩
                have hvl := hv29.lt
                have hN30 := hN29.grown hg30 (fun e => by have := (hvl N e.symm).1; omega)
                have hR30 := hR29.grown hg30 (fun e => by have := (hvl R e.symm).1; omega)
                have k30 : Kb v.ownBlock.toList (w27.alloc (.cells [[Value.int .i64 (rdV p (9 + 3 * i) 1), .int .i64 (rdV p (9 + 3 * i + 1) 2)]].flatten.toArray 42)) w30 := Kb.grown hg30 (fun k hk => by simp [hk])
                have hgv : g ∉ v.ownBlock.toList := fun hh => by have := (hvl g (by simpa using hh)).1; omega
                have hP30 := hP29.kb k30 hgv (fun k hk hh => by have := (hvl k (by simpa using hh)).1; have := hV k hk; omega)
                have hv30 := ho30.lt
                have s30 := k30.size
                refine va_pure 11 rfl (by kernel_rfl) (by kernel_rfl) (by kernel_rfl) (fun w => (os_fa (o := 3) (k := 0) (by kernel_rfl) rfl)) ?_
                refine va_one 12 (by kernel_rfl) ?_
                refine vn_unit rfl (ou_store Try.sizeOf26 rfl rfl (OwnP.one' ho30) (hN30.cell (i := 3) rfl) (hN30.free _)) ?_
                have kS : Kb [N] w30 (w30.setCell ⟨N, 0 + 3, none⟩ v30) := Kb.set (S := [N]) (by simp) _ _
                have kall : Kb [g] w w30 := ((k16.trans ((Kb.of_below (S := [g]) c0).trans (k24.trans k27 (fun k hk => .inl hk)) (fun k hk => .inl hk)) (fun k hk => .inl hk)).trans (Kb.of_below (S := [g]) c29) (fun k hk => .inl hk)).trans k30 (fun k hk => .inr (by have := (hvl k (by simpa using hk)).1; omega))
                refine va_done (by kernel_rfl) ?_
                exact ⟨0, ⟨rfl, rfl, rfl, trivial⟩, ⟨rfl, trivial⟩, ⟨hR30.kb kS (by simp; omega), by have := hP30.kb kS (by simp; omega) (fun k hk => by have := hV k hk; simp; omega); rw [show 9 + 3 * (i + 1) = 9 + 3 * i + 1 + 2 by omega]; exact this, kall.trans kS (fun k hk => .inr (by simp at hk; omega)), by simp [World.setCell]; omega, v30, hN30.set 3 v30, by rw [cntsR_succ, List.map_append, show 10 + 3 * i = 9 + 3 * i + 1 by omega]; exact ho30.blk fun k hk => Below.heap_setCell _ _ _ _ (fun e => by have := (hv30 k hk).1; simp at e; omega)⟩⟩
              · refine vn_call rfl (nt_num B g V p (9 + 3 * i + 1) 2 2 w24 hP24 (by omega) hl ⟨rfl, by omega, by omega⟩) rfl ?_
                rintro u27 w27 ⟨rfl, hP27, k27⟩
                have hR27 := hR24.kb k27 hRg
                have hN27 := hN24.kb k27 hNg
                have s27 := k27.size
                have hv27 := hv24.blk (w'' := w27) (fun k hk => k27.block k (hv24.lt k hk).2 (by have := (hv24.lt k hk).1; simp; omega))
                refine va_pure 8 rfl (by kernel_rfl) (by kernel_rfl) (by kernel_rfl) (fun w => (os_build (cs := [.int .i64 (rdV p (9 + 3 * i) 1), .int .i64 (rdV p (9 + 3 * i + 1) 2)]) rfl (by kernel_rfl))) ?_
                refine va_two 1 9 (by kernel_rfl) ?_ ?_
                · refine vn_val rfl (os_load Try.isAgg26 rfl ((by first | exact hN29.cell (i := 3) rfl | exact hN27.cell (i := 3) rfl | exact hN24.cell (i := 3) rfl | exact (hN16.keep c0).cell (i := 3) rfl))) ?_
                  refine va_one 9 (by kernel_rfl) ?_
                  refine vn_val rfl (os_litS (css := [[.int .i64 (rdV p (9 + 3 * i) 1), .int .i64 (rdV p (9 + 3 * i + 1) 2)]]) Try.underlying26 Try.sizeOf42 Try.zeroValue42 rfl rfl (by intro c hc; simp at hc; subst hc; rfl) (by decide) (by decide) (by decide)) ?_
                  have r29 := rdp_alloc w27 [[Value.int .i64 (rdV p (9 + 3 * i) 1), .int .i64 (rdV p (9 + 3 * i + 1) 2)]] 42 (s := 2) (by intro c hc; simp at hc; subst hc; rfl)
                  have c29 : Below w27.heap.size w27 (w27.alloc (.cells [[Value.int .i64 (rdV p (9 + 3 * i) 1), .int .i64 (rdV p (9 + 3 * i + 1) 2)]].flatten.toArray 42)) := (Below.refl _ _).alloc (Nat.le_refl _) _
                  have hN29 := hN27.keep c29
                  have hv29 := hv27.keepAll c29
                  have hR29 := hR27.keep c29
                  have hP29 := hP27.keep c29
                  have s29 := c29.size
                  refine va_one 10 (by kernel_rfl) ?_
                  refine vn_some rfl (ot_append_pn Try.underlying26 ti_wCounts rfl (by decide) rfl rfl hv29 r29 (by intro c hc; simp at hc; subst hc; rfl) rfl (by intro c hc u hu; simp at hc; subst hc; simp at hu; rcases hu with rfl | rfl <;> rfl) (by rw [hrl]; omega) (by rw [hrl]; simp only [maxLen]; omega) (by omega)) ?_
                  rintro v30 w30 ⟨ho30, hg30⟩
                  have hvl := hv29.lt
                  have hN30 := hN29.grown hg30 (fun e => by have := (hvl N e.symm).1; omega)
                  have hR30 := hR29.grown hg30 (fun e => by have := (hvl R e.symm).1; omega)
                  have k30 : Kb v.ownBlock.toList (w27.alloc (.cells [[Value.int .i64 (rdV p (9 + 3 * i) 1), .int .i64 (rdV p (9 + 3 * i + 1) 2)]].flatten.toArray 42)) w30 := Kb.grown hg30 (fun k hk => by simp [hk])
                  have hgv : g ∉ v.ownBlock.toList := fun hh => by have := (hvl g (by simpa using hh)).1; omega
                  have hP30 := hP29.kb k30 hgv (fun k hk hh => by have := (hvl k (by simpa using hh)).1; have := hV k hk; omega)
                  have hv30 := ho30.lt
                  have s30 := k30.size
                  refine va_pure 11 rfl (by kernel_rfl) (by kernel_rfl) (by kernel_rfl) (fun w => (os_fa (o := 3) (k := 0) (by kernel_rfl) rfl)) ?_
                  refine va_one 12 (by kernel_rfl) ?_
                  refine vn_unit rfl (ou_store Try.sizeOf26 rfl rfl (OwnP.one' ho30) (hN30.cell (i := 3) rfl) (hN30.free _)) ?_
                  have kS : Kb [N] w30 (w30.setCell ⟨N, 0 + 3, none⟩ v30) := Kb.set (S := [N]) (by simp) _ _
                  have kall : Kb [g] w w30 := ((k16.trans ((Kb.of_below (S := [g]) c0).trans (k24.trans k27 (fun k hk => .inl hk)) (fun k hk => .inl hk)) (fun k hk => .inl hk)).trans (Kb.of_below (S := [g]) c29) (fun k hk => .inl hk)).trans k30 (fun k hk => .inr (by have := (hvl k (by simpa using hk)).1; omega))
                  refine va_done (by kernel_rfl) ?_
                  exact ⟨0, ⟨rfl, rfl, rfl, trivial⟩, ⟨rfl, trivial⟩, ⟨hR30.kb kS (by simp; omega), by have := hP30.kb kS (by simp; omega) (fun k hk => by have := hV k hk; simp; omega); rw [show 9 + 3 * (i + 1) = 9 + 3 * i + 1 + 2 by omega]; exact this, kall.trans kS (fun k hk => .inr (by simp at hk; omega)), by simp [World.setCell]; omega, v30, hN30.set 3 v30, by rw [cntsR_succ, List.map_append, show 10 + 3 * i = 9 + 3 * i + 1 by omega]; exact ho30.blk fun k hk => Below.heap_setCell _ _ _ _ (fun e => by have := (hv30 k hk).1; simp at e; omega)⟩⟩
                · refine vn_val rfl (os_litS (css := [[.int .i64 (rdV p (9 + 3 * i) 1), .int .i64 (rdV p (9 + 3 * i + 1) 2)]]) Try.underlying26 Try.sizeOf42 Try.zeroValue42 rfl rfl (by intro c hc; simp at hc; subst hc; rfl) (by decide) (by decide) (by decide)) ?_
                  have r29 := rdp_alloc w27 [[Value.int .i64 (rdV p (9 + 3 * i) 1), .int .i64 (rdV p (9 + 3 * i + 1) 2)]] 42 (s := 2) (by intro c hc; simp at hc; subst hc; rfl)
                  have c29 : Below w27.heap.size w27 (w27.alloc (.cells [[Value.int .i64 (rdV p (9 + 3 * i) 1), .int .i64 (rdV p (9 + 3 * i + 1) 2)]].flatten.toArray 42)) := (Below.refl _ _).alloc (Nat.le_refl _) _
                  have hN29 := hN27.keep c29
                  have hv29 := hv27.keepAll c29
                  have hR29 := hR27.keep c29
                  have hP29 := hP27.keep c29
                  have s29 := c29.size
                  refine va_one 1 (by kernel_rfl) ?_
                  refine vn_val rfl (os_load Try.isAgg26 rfl ((by first | exact hN29.cell (i := 3) rfl | exact hN27.cell (i := 3) rfl | exact hN24.cell (i := 3) rfl | exact (hN16.keep c0).cell (i := 3) rfl))) ?_
                  refine va_one 10 (by kernel_rfl) ?_
                  refine vn_some rfl (ot_append_pn Try.underlying26 ti_wCounts rfl (by decide) rfl rfl hv29 r29 (by intro c hc; simp at hc; subst hc; rfl) rfl (by intro c hc u hu; simp at hc; subst hc; simp at hu; rcases hu with rfl | rfl <;> rfl) (by rw [hrl]; omega) (by rw [hrl]; simp only [maxLen]; omega) (by omega)) ?_
                  rintro v30 w30 ⟨ho30, hg30⟩
                  have hvl := hv29.lt
                  have hN30 := hN29.grown hg30 (fun e => by have := (hvl N e.symm).1; omega)
                  have hR30 := hR29.grown hg30 (fun e => by have := (hvl R e.symm).1; omega)
                  have k30 : Kb v.ownBlock.toList (w27.alloc (.cells [[Value.int .i64 (rdV p (9 + 3 * i) 1), .int .i64 (rdV p (9 + 3 * i + 1) 2)]].flatten.toArray 42)) w30 := Kb.grown hg30 (fun k hk => by simp [hk])
                  have hgv : g ∉ v.ownBlock.toList := fun hh => by have := (hvl g (by simpa using hh)).1; omega
                  have hP30 := hP29.kb k30 hgv (fun k hk hh => by have := (hvl k (by simpa using hh)).1; have := hV k hk; omega)
                  have hv30 := ho30.lt
                  have s30 := k30.size
                  refine va_pure 11 rfl (by kernel_rfl) (by kernel_rfl) (by kernel_rfl) (fun w => (os_fa (o := 3) (k := 0) (by kernel_rfl) rfl)) ?_
                  refine va_one 12 (by kernel_rfl) ?_
                  refine vn_unit rfl (ou_store Try.sizeOf26 rfl rfl (OwnP.one' ho30) (hN30.cell (i := 3) rfl) (hN30.free _)) ?_
                  have kS : Kb [N] w30 (w30.setCell ⟨N, 0 + 3, none⟩ v30) := Kb.set (S := [N]) (by simp) _ _
                  have kall : Kb [g] w w30 := ((k16.trans ((Kb.of_below (S := [g]) c0).trans (k24.trans k27 (fun k hk => .inl hk)) (fun k hk => .inl hk)) (fun k hk => .inl hk)).trans (Kb.of_below (S := [g]) c29) (fun k hk => .inl hk)).trans k30 (fun k hk => .inr (by have := (hvl k (by simpa using hk)).1; omega))
                  refine va_done (by kernel_rfl) ?_
                  exact ⟨0, ⟨rfl, rfl, rfl, trivial⟩, ⟨rfl, trivial⟩, ⟨hR30.kb kS (by simp; omega), by have := hP30.kb kS (by simp; omega) (fun k hk => by have := hV k hk; simp; omega); rw [show 9 + 3 * (i + 1) = 9 + 3 * i + 1 + 2 by omega]; exact this, kall.trans kS (fun k hk => .inr (by simp at hk; omega)), by simp [World.setCell]; omega, v30, hN30.set 3 v30, by rw [cntsR_succ, List.map_append, show 10 + 3 * i = 9 + 3 * i + 1 by omega]; exact ho30.blk fun k hk => Below.heap_setCell _ _ _ _ (fun e => by have := (hv30 k hk).1; simp at e; omega)⟩⟩
      · rintro x w31 ⟨a1, a2, a3, a4, v31, a5, a6⟩
        refine v_region ?_
        refine vl_val (os_addi rfl rfl (by omega)) ?_
        refine vl_val (os_move rfl) ?_
        refine vl_nil ?_
        exact ⟨i + 1, ⟨rfl, rfl, rfl, trivial⟩, ⟨rfl, trivial⟩, ⟨by omega, a1, a2, a3, a4, v31, a5, a6⟩, by dsimp only; omega⟩
    · obtain rfl : K = i := by omega
      refine v_exit ?_
      refine v_seq ?_
      refine v_region ?_
      refine vl_val (os_loadB Try.underlying28 rfl (by kernel_rfl) rfl (hN16)) ?_
      refine vl_unit (ou_storeB (by kernel_rfl) rfl rfl hN16 rfl (one4' (OwnP.one' hv16))) ?_
      have hN17 := setRow_bk hN16 [.int .i64 (rdV p 1 2), .int .i64 (rdV p 3 4), .int .i64 (rdV p 7 1), v]
      have kS : Kb [N] w16 (w16.setRow N [Value.int .i64 (rdV p 1 2), .int .i64 (rdV p 3 4), .int .i64 (rdV p 7 1), v].toArray) := Kb.setRow (S := [N]) (by simp) _
      obtain ⟨A, c, rfl, -, -, hr⟩ := hv16.form
      have hrl : ((cntsR p K).map rowC).length = K := by simp [cntsR_len]
      have hr17 := OwnP.rdp (hv16.blk (w'' := w16.setRow N [Value.int .i64 (rdV p 1 2), .int .i64 (rdV p 3 4), .int .i64 (rdV p 7 1), .slice A ((cntsR p K).map rowC).length c].toArray) (fun k hk => kS.block k (hv16.lt k hk).2 (by have := (hv16.lt k hk).1; simp; omega)))
      refine vl_nil ?_
      refine v_ret ?_
      exact post_cell rfl rfl Try.underlying28 rfl (by kernel_rfl) hN17 ⟨⟨rdV p 1 2, rdV p 3 4, rdV p 7 1, A, ((cntsR p K).map rowC).length, c, cntsR p K⟩, rfl, rfl, rfl, rfl, by rw [Int.toNat_natCast], ⟨hr17, by simp, by simp only [hrl]; omega, ⟨hb10 1, i64_rd hy 3 4 (by omega), hb9 7⟩, fun e he => by obtain ⟨j, _, rfl⟩ := List.mem_map.1 he; exact ⟨hb9 _, hb10 _⟩⟩, by rw [Int.toNat_natCast]; exact hP16.kb kS (by simp; omega) (fun k hk => by have := hV k hk; simp; omega), k16.trans kS (fun k hk => .inr (by simp at hk; omega)), fun a ha => by have := (hv16.lt a.block (by simp only [] at ha; subst ha; rfl)).1; omega⟩
end Go.Proofs.Ythaifamjgcfkaaa
