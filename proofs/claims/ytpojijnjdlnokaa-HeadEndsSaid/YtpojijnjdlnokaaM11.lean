/- Texts joined: SmP Own FixP FixA FixB Sz. -/
import Derived.Test.YtpojijnjdlnokaaM10
import Derived.Test.YtpojijnjdlnokaaProg
import Derived.RangeFuncOwn
import Derived.Shelf.Abstract
/- Layer 7: the program's Seal and Open. -/
namespace Go.Proofs.Ytpojijnjdlnokaa
open Go.RowKit
set_option linter.unusedVariables false

set_option maxHeartbeats 1000000 in
theorem sum_Seal (A : Option Addr) (n c : Nat) (zs : List Int) (w : World) (ha : Rd w .u8 A zs) (hn : n = zs.length) (hc : n ≤ c) (hn' : n ≤ 10000000) (hz : AllB zs) :
    Gives Try.prog 125 #[.slice A n c] w fun v w' => OwnK w' w.heap.size 5 .u8 v (sealL zs) ∧ Below w.heap.size w w' := by
  refine gives_enter Try.call125 Try.func125 rfl rfl rfl (by kernel_rfl) ?_
  refine v_seq ?_
  refine v_region ?_
  refine vl_val (os_assign rfl) ?_
  refine vl_nil ?_
  refine v_seq ?_
  refine v_region ?_
  refine vl_val (os_move rfl) ?_
  refine vl_val (os_move rfl) ?_
  refine vl_val (os_lit Try.underlying23 Try.sizeOf22 Try.zeroValue22 rfl rfl rfl rfl (by decide)) ?_
  refine vl_call (sum_Of _ _ _ [zs] _ (rds_lit' _ .u8 _ [(A, n, c, zs)] (by intro x hx; simp only [List.mem_cons, List.not_mem_nil, or_false] at hx; subst hx; exact ⟨ha, hn, hc, by dsimp only; omega⟩)) rfl (by simp) (by intro l hl; simp only [List.mem_cons, List.not_mem_nil, or_false] at hl; subst hl; exact hz)) rfl ?_
  rintro v1 w1 ⟨rfl, b1⟩
  have ba : Below w.heap.size w (w.alloc (.cells [Value.slice A n c].toArray 22)) := (Below.refl _ _).alloc (Nat.le_refl _) _
  have b01 : Below w.heap.size w w1 := ba.trans (b1.mono ba.size)
  refine vl_call (sum_put (crcOf [zs]) w1) rfl ?_
  rintro v2 w2 ⟨⟨g2, rfl⟩, o2, b2⟩
  have b02 : Below w.heap.size w w2 := b01.trans (b2.mono b01.size)
  have bb : Below w2.heap.size w2 (w2.alloc (.cells [Value.slice A n c, .slice (some ⟨g2, 0, none⟩) 4 4].toArray 22)) := (Below.refl _ _).alloc (Nat.le_refl _) _
  refine vl_val (os_lit Try.underlying23 Try.sizeOf22 Try.zeroValue22 rfl rfl rfl rfl (by decide)) ?_
  refine vl_call (sl_Concat _ _ _ [zs, le4 (crcOf [zs])] _ (rds_lit' _ .u8 _ [(A, n, c, zs), (some ⟨g2, 0, none⟩, 4, 4, le4 (crcOf [zs]))] (by intro x hx; simp only [List.mem_cons, List.not_mem_nil, or_false] at hx; rcases hx with rfl | rfl; exact ⟨ha.keep b02, hn, hc, by dsimp only; omega⟩; exact ⟨OwnK.rd o2, rfl, Nat.le_refl _, by simp⟩)) rfl (by simp) (by simp [le4]; omega)) rfl ?_
  rintro v3 w3 ⟨o3, b3⟩
  refine vl_val (os_assign rfl) ?_
  refine vl_nil ?_
  refine v_ret ?_
  exact post_ret rfl rfl (⟨by rw [show sealL zs = [zs, le4 (crcOf [zs])].flatten by simp [sealL]]; exact Own.mono o3 (by have := b02.size; simp; omega), b02.trans ((bb.trans (b3.mono bb.size)).mono b02.size)⟩)
set_option maxHeartbeats 1000000 in
theorem sum_Open (A : Option Addr) (n c : Nat) (zs : List Int) (w : World) (ha : Rd w .u8 A zs) (hn : n = zs.length) (hc : n ≤ c) (hn' : n ≤ 10000000) (hz : AllB zs) :
    Gives Try.prog 134 #[.slice A n c] w fun v w' => ∃ s, v = .tuple #[s, .int .i64 (openE zs)] ∧ OwnK w' w.heap.size 5 .u8 s (openV zs) ∧ Below w.heap.size w w' := by
  refine gives_enter Try.call134 Try.func134 rfl rfl rfl (by kernel_rfl) ?_
  rcases Nat.lt_or_ge n 4 with h | h
  · refine v_seq ?_
    refine v_region ?_
    refine vl_val (os_assign rfl) ?_
    refine vl_val (os_assign rfl) ?_
    refine vl_nil ?_
    refine v_seq ?_
    refine v_region ?_
    refine vl_val (os_move rfl) ?_
    refine vl_val (os_len Try.underlying22 rfl) ?_
    refine vl_val (os_subi rfl rfl (by omega)) ?_
    refine vl_val (os_assign rfl) ?_
    refine vl_nil ?_
    refine v_seq ?_
    refine v_block ?_
    refine v_seq ?_
    refine v_region ?_
    refine vl_val (os_move rfl) ?_
    refine vl_val (os_lss rfl rfl) ?_
    refine vl_val (os_assign rfl) ?_
    refine vl_nil ?_
    refine v_cond_yes rfl (by omega) ?_
    have e1 : openE zs = 4 := by unfold openE; rw [if_pos (by omega)]
    refine v_seq ?_
    refine v_region ?_
    refine vl_val (os_assign rfl) ?_
    refine vl_val (os_assign rfl) ?_
    refine vl_nil ?_
    refine v_ret ?_
    exact post_ret2 rfl rfl rfl (⟨_, by rw [e1], by unfold openV; rw [e1]; exact Own.nil _ _ _, Below.refl _ _⟩)
  · refine v_seq ?_
    refine v_region ?_
    refine vl_val (os_assign rfl) ?_
    refine vl_val (os_assign rfl) ?_
    refine vl_nil ?_
    refine v_seq ?_
    refine v_region ?_
    refine vl_val (os_move rfl) ?_
    refine vl_val (os_len Try.underlying22 rfl) ?_
    refine vl_val (os_subi rfl rfl (by omega)) ?_
    refine vl_val (os_assign rfl) ?_
    refine vl_nil ?_
    refine v_seq ?_
    refine v_block ?_
    refine v_seq ?_
    refine v_region ?_
    refine vl_val (os_move rfl) ?_
    refine vl_val (os_lss rfl rfl) ?_
    refine vl_val (os_assign rfl) ?_
    refine vl_nil ?_
    refine v_cond_no rfl (by omega) ?_
    obtain ⟨m, hm⟩ : ∃ m, n = m + 4 := ⟨n - 4, by omega⟩
    have e0 : openE zs = if sealL (zs.take m) = zs then 0 else 10 := by unfold openE; rw [if_neg (by omega), show zs.length - 4 = m by omega]
    have hml : (zs.take m).length = m := by rw [List.length_take]; omega
    have hA0 := ha.led (w' := w.drewN 1) ⟨1, rfl⟩
    have ba : Below w.heap.size w ((w.drewN 1).alloc (.cells [Value.slice A m c].toArray 22)) := (led_below (w := w) ⟨1, rfl⟩).alloc (by simp) _
    refine v_seq ?_
    refine v_region_a mixed ?_
    refine va_pure 0 rfl (by kernel_rfl) (by kernel_rfl) (by kernel_rfl) (fun w => (os_move rfl)) ?_
    refine va_pure 1 rfl (by kernel_rfl) (by kernel_rfl) (by kernel_rfl) (fun w => (os_move rfl)) ?_
    refine va_pure 2 rfl (by kernel_rfl) (by kernel_rfl) (by kernel_rfl) (fun w => (os_slice_h Try.underlying22 Try.sizeOf5 rfl rfl (h := m) (by omega) (by omega))) ?_
    refine va_pure 6 rfl (by kernel_rfl) (by kernel_rfl) (by kernel_rfl) (fun w => (os_move rfl)) ?_
    refine va_pure 7 rfl (by kernel_rfl) (by kernel_rfl) (by kernel_rfl) (fun w => (os_move rfl)) ?_
    refine va_pure 8 rfl (by kernel_rfl) (by kernel_rfl) (by kernel_rfl) (fun w => (os_slice_l Try.underlying22 Try.sizeOf5 rfl rfl (i := m) (by omega) (by omega))) ?_
    refine va_one 3 (by kernel_rfl) ?_
    refine vn_val rfl (os_lit Try.underlying23 Try.sizeOf22 Try.zeroValue22 rfl rfl rfl rfl (by decide)) ?_
    refine va_one 4 (by kernel_rfl) ?_
    refine vn_call rfl (sum_Of _ _ _ [zs.take m] _ (rds_lit' _ .u8 _ [(A, m, c, zs.take m)] (by intro x hx; simp only [List.mem_cons, List.not_mem_nil, or_false] at hx; subst hx; exact ⟨hA0.take m, hml.symm, (by dsimp only; omega), by dsimp only; omega⟩)) rfl (by simp) (by intro l hl; simp only [List.mem_cons, List.not_mem_nil, or_false] at hl; subst hl; exact hz.take m)) rfl ?_
    rintro v1 w1 ⟨rfl, b1⟩
    have b01 : Below w.heap.size w w1 := ba.trans (b1.mono ba.size)
    refine va_one 5 (by kernel_rfl) ?_
    refine vn_call rfl (sum_put (crcOf [zs.take m]) w1) rfl ?_
    rintro v2 w2 ⟨⟨g2, rfl⟩, o2, b2⟩
    have b02 : Below w.heap.size w w2 := b01.trans (b2.mono b01.size)
    refine va_one 9 (by kernel_rfl) ?_
    refine vn_call rfl (sl_Equal _ _ _ _ _ _ (le4 (crcOf [zs.take m])) (zs.drop m) w2 (OwnK.rd o2) ((ha.keep b02).sliced (by omega)) rfl (by rw [List.length_drop]; omega) (by simp [le4]) (by omega)) rfl ?_
    rintro v3 w3 ⟨rfl, d3⟩
    have b03 : Below w.heap.size w w3 := b02.trans ((led_below d3).mono b02.size)
    refine va_pure 10 rfl (by kernel_rfl) (by kernel_rfl) (by kernel_rfl) (fun w => (os_not rfl)) ?_
    refine va_pure 11 rfl (by kernel_rfl) (by kernel_rfl) (by kernel_rfl) (fun w => (os_assign rfl)) ?_
    refine va_done (by kernel_rfl) ?_
    refine v_cond rfl (fun hs => ?_) (fun hs => ?_)
    · have hs' : ¬ le4 (crcOf [zs.take m]) = zs.drop m := by simpa using hs
      have e1 : openE zs = 10 := by rw [e0, if_neg (fun h => hs' ((seal_iff zs m).2 h))]
      refine v_seq ?_
      refine v_region ?_
      refine vl_val (os_assign rfl) ?_
      refine vl_val (os_assign rfl) ?_
      refine vl_nil ?_
      refine v_ret ?_
      exact post_ret2 rfl rfl rfl (⟨_, by rw [e1], by unfold openV; rw [e1]; exact Own.nil _ _ _, b03⟩)
    · have hs' : le4 (crcOf [zs.take m]) = zs.drop m := by simpa using hs
      have e1 : openE zs = 0 := by rw [e0, if_pos ((seal_iff zs m).1 hs')]
      have e2 : openV zs = zs.take m := by unfold openV; rw [if_pos e1, show zs.length - 4 = m by omega]
      refine v_skip ?_
      refine v_seq ?_
      refine v_region ?_
      refine vl_val (os_move rfl) ?_
      refine vl_val (os_move rfl) ?_
      refine vl_val (os_slice_h Try.underlying22 Try.sizeOf5 rfl rfl (h := m) (by omega) (by omega)) ?_
      refine vl_call (sl_Clone A m c (zs.take m) w3 ((ha.keep b03).take m) hml.symm (by omega)) rfl ?_
      rintro v4 w4 ⟨o4, b4⟩
      refine vl_val (os_assign rfl) ?_
      refine vl_val (os_assign rfl) ?_
      refine vl_nil ?_
      refine v_ret ?_
      exact post_ret2 rfl rfl rfl (⟨_, by rw [e1], by rw [e2]; exact Own.mono o4 b03.size, b03.trans (b4.mono b03.size)⟩)
end Go.Proofs.Ytpojijnjdlnokaa

/- Lists of integers that a call makes: what it owns, and how that reads. -/
namespace Go.Proofs.Ytpojijnjdlnokaa
open Go.RowKit

theorem info_int : (Try.prog.info? 3).map (fun i => (i.zero, i.size, i.bytes)) = some (some (.int .i64 0), 1, 8) := by kernel_rfl
theorem info_u8 : (Try.prog.info? 5).map (fun i => (i.zero, i.size, i.bytes)) = some (some (.int .u8 0), 1, 1) := by kernel_rfl

def OwnI (w : World) (B : Nat) (v : Value) (zs : List Int) : Prop := w.ownsRow B 3 1 v zs.length (zs.map (Value.int .i64))

theorem OwnI.nil (w : World) (B : Nat) : OwnI w B (.slice none 0 0) [] := World.ownsRow_nil w B _ 1

theorem OwnI.form {w B v zs} (h : OwnI w B v zs) : ∃ A c, v = .slice A zs.length c ∧ zs.length ≤ c ∧ c ≤ maxLen ∧ Rd w .i64 A zs ∧ (∀ b off, A = some ⟨b, off, none⟩ → B ≤ b ∧ off = 0 ∧ b < w.heap.size) := by
  rcases h.2 with ⟨rfl, h0⟩ | ⟨g, cap, cur, rfl, hB, hg, hn, hm, hs, ht⟩
  · rw [h0]
    exact ⟨none, 0, rfl, Nat.le_refl _, by simp [maxLen], fun hl => absurd hl (by omega), fun b off hh => by cases hh⟩
  · refine ⟨_, cap, rfl, hn, hm, fun _ => ⟨g, 0, rfl, fun i hi => ?_⟩, ?_⟩
    · have hc := World.ownsRow.cells (g := g) h rfl i (.int .i64 (zs.getD i 0)) (by simp [hi])
      have e : (⟨g, 0, none⟩ : Addr).add i = ⟨g, 0 + i, none⟩ := by unfold Addr.add; split <;> simp_all
      rw [← e]; exact hc
    · intro b off hh
      cases hh
      exact ⟨hB, rfl, (Array.getElem?_eq_some_iff.1 hg).1⟩

theorem OwnI.keep {w w' B v zs} (h : OwnI w B v zs) {B' : Nat} (hb : Below B' w w') (hB : ∀ g, v.ownBlock = some g → g < B') : OwnI w' B v zs := by
  refine ⟨h.1, ?_⟩
  rcases h.2 with hn | ⟨g, cap, cur, rfl, hB0, hg, rest⟩
  · exact .inl hn
  · refine .inr ⟨g, cap, cur, rfl, hB0, ?_, rest⟩
    rw [hb.block g (hB g rfl)]; exact hg

theorem OwnI.keepAll {w w' B v zs} (h : OwnI w B v zs) (hb : Below w.heap.size w w') : OwnI w' B v zs :=
  h.keep hb fun g hg => (World.ownsRow.lt h g hg).2

theorem OwnI.mono {w B B' v zs} (h : OwnI w B v zs) (hB : B' ≤ B) : OwnI w B' v zs := by
  refine ⟨h.1, ?_⟩
  rcases h.2 with hn | ⟨g, cap, cur, rfl, hB0, hg, rest⟩
  · exact .inl hn
  · exact .inr ⟨g, cap, cur, rfl, by omega, hg, rest⟩

/-- a list of the call's own that is not empty: its row -/
theorem OwnI.row {w B v zs} (h : OwnI w B v zs) {n : Nat} (hn : n = zs.length) (h0 : 0 < n) :
    ∃ g c1, v = .slice (some ⟨g, 0, none⟩) n c1 ∧ B ≤ g ∧ g < w.heap.size ∧ n ≤ c1 ∧ w.ownsRow B 3 1 (.slice (some ⟨g, 0, none⟩) n c1) n (zs.map (Value.int .i64)) := by
  subst hn
  rcases h.2 with ⟨rfl, h1⟩ | ⟨g, cap, cur, rfl, hB, hg, hn, hm, hs, ht⟩
  · omega
  · exact ⟨g, cap, rfl, hB, (Array.getElem?_eq_some_iff.1 hg).1, hn, h⟩

/-- an own row while another block is written -/
theorem ownsRow_setCell_other {w : World} {B : Nat} {e : TypeId} {g n c : Nat} {xs : List Value} (h : w.ownsRow B e 1 (.slice (some ⟨g, 0, none⟩) n c) n xs) {a : Addr} (ha : a.block ≠ g) (u : Value) :
    (w.setCell a u).ownsRow B e 1 (.slice (some ⟨g, 0, none⟩) n c) n xs := by
  refine ⟨h.1, ?_⟩
  rcases h.2 with ⟨h1, _⟩ | ⟨g', cap, cur, h1, hB, hg, r⟩
  · simp at h1
  · simp only [Value.slice.injEq, Option.some.injEq, Addr.mk.injEq, and_true, true_and] at h1
    obtain ⟨rfl, rfl⟩ := h1
    exact .inr ⟨g, c, cur, rfl, hB, by rw [Below.heap_setCell _ _ _ _ (fun e => ha e.symm)]; exact hg, r⟩

/-- an own row abides the turn of a block that is no cells -/
theorem own_turned {W W' : World} {B : Nat} {e : TypeId} {v : Value} {n : Nat} {xs : List Value} {row : Option Nat} (h : W.ownsRow B e 1 v n xs) (hg : W.grownBy W' row)
    (hr : ∀ r, row = some r → ∃ o : Obj, W.heap[r]? = some o ∧ o.isCells = false) : W'.ownsRow B e 1 v n xs := by
  refine h.kept hg ?_
  cases hv : v.ownBlock with
  | none => exact .inl rfl
  | some g =>
    refine .inr fun he => ?_
    obtain ⟨o, ho, hc⟩ := hr g he.symm
    rcases h.2 with ⟨rfl, _⟩ | ⟨g', cap, cur, rfl, _, hgg, _⟩
    · simp [Value.ownBlock] at hv
    · simp [Value.ownBlock] at hv
      subst hv
      rw [hgg] at ho; cases ho; simp [Obj.isCells] at hc
end Go.Proofs.Ytpojijnjdlnokaa

/- Layer 23, the plain laws: parts of 65536, shares, blends, rows, tails: what the document says, as functions on integers and lists. No program in sight. -/
namespace Go.Proofs.Ytpojijnjdlnokaa

def isB (n : Int) : Bool := decide (0 ≤ n ∧ n ≤ 65536)
def shareOk (a b : Int) : Bool := decide (0 < b ∧ b ≤ 2147483647 ∧ 0 ≤ a ∧ a ≤ b)
def shareV (a b : Int) : Int := if shareOk a b then a * 65536 / b else 0
def argE (ok : Bool) : Int := if ok then 0 else 2
def blendW (h x : Int) : Int := h + (x - h) / 8
def blendOk (h x : Int) : Bool := isB h && isB x
def blendV (h x : Int) : Int := if blendOk h x then blendW h x else 0

theorem isB_yes {n : Int} (h : 0 ≤ n) (h' : n ≤ 65536) : isB n = true := by simp [isB]; omega
theorem isB_no {n : Int} (h : n < 0 ∨ 65536 < n) : isB n = false := by simp [isB]; omega
theorem isB_iff {n : Int} : isB n = true ↔ 0 ≤ n ∧ n ≤ 65536 := by simp [isB]
theorem isB_iff' {n : Int} : isB n = false ↔ n < 0 ∨ 65536 < n := by simp [isB]; omega

theorem tdiv8 (n : Int) : n.tdiv 8 = if 0 ≤ n then n / 8 else -((-n) / 8) := by
  split
  · exact Int.tdiv_eq_ediv_of_nonneg (by omega)
  · have h : n = -(-n) := by omega
    rw [h, Int.neg_tdiv, Int.tdiv_eq_ediv_of_nonneg (by omega), ← h]
theorem tmod8 (n : Int) : n.tmod 8 = if 0 ≤ n then n % 8 else -((-n) % 8) := by
  split
  · exact Int.tmod_eq_emod_of_nonneg (by omega)
  · have h : n = -(-n) := by omega
    rw [h, Int.neg_tmod, Int.tmod_eq_emod_of_nonneg (by omega), ← h]
theorem down_lo {n : Int} (h1 : -65536 ≤ n) (h2 : n ≤ 65536) (h : n.tmod 8 < 0) : RowKit.wrap64 (n.tdiv 8 - 1) = n / 8 := by
  rw [tmod8] at h
  rw [tdiv8]
  have hb : (if 0 ≤ n then n / 8 else -((-n) / 8)) - 1 = n / 8 := by split at h <;> split <;> omega
  rw [hb]
  exact IntWalk.wrap64_in _ (by omega)
theorem down_hi {n : Int} (h : 0 ≤ n.tmod 8) : n.tdiv 8 = n / 8 := by
  rw [tmod8] at h
  rw [tdiv8]
  split at h <;> split <;> omega

theorem blendW_bd {h x : Int} (h1 : 0 ≤ h) (h2 : h ≤ 65536) (h3 : 0 ≤ x) (h4 : x ≤ 65536) : 0 ≤ blendW h x ∧ blendW h x ≤ 65536 := by unfold blendW; omega
end Go.Proofs.Ytpojijnjdlnokaa

/- Layer 23: the contracts of the program's functions on numbers, and of the document's. -/
namespace Go.Proofs.Ytpojijnjdlnokaa
open Go.RowKit

end Go.Proofs.Ytpojijnjdlnokaa

/- Layer 23: rows: the closures, slices.IndexFunc and ContainsFunc, row, made. -/
namespace Go.Proofs.Ytpojijnjdlnokaa
open Go.RowKit

/-- the place of the first number that p takes, else -1 -/
def idxF (p : Int → Bool) (zs : List Int) : Int := if zs.any p then ((zs.findIdx p : Nat) : Int) else -1

theorem idxF_ge {p : Int → Bool} {zs : List Int} : decide ((0 : Int) ≤ idxF p zs) = zs.any p := by
  unfold idxF; split <;> simp_all

theorem idxF_hit {p : Int → Bool} {zs : List Int} {k n : Nat} (hn : n = zs.length) (hk : k < n) (h : (zs.take k).any p = false) (hp : p (zs.getD k 0) = true) : idxF p zs = k := by
  have hk' : k < zs.length := by omega
  have hany : zs.any p = true := by
    rw [List.any_eq_true]
    exact ⟨zs[k], List.getElem_mem _, by simpa [hk'] using hp⟩
  unfold idxF
  rw [if_pos hany]
  congr 1
  rw [List.findIdx_eq hk']
  refine ⟨by simpa [hk'] using hp, fun j hj => ?_⟩
  rw [List.any_eq_false] at h
  have := h (zs[j]'(by omega)) (by rw [List.mem_take_iff_getElem]; exact ⟨j, by omega, rfl⟩)
  simpa using this

theorem any_take_succ {p : Int → Bool} {zs : List Int} {k n : Nat} (hn : n = zs.length) (hk : k < n) (h : (zs.take k).any p = false) (hp : p (zs.getD k 0) = false) : (zs.take (k + 1)).any p = false := by
  have hk' : k < zs.length := by omega
  rw [List.take_succ_eq_append_getElem hk', List.any_append, h]
  have : p zs[k] = false := by simpa [hk'] using hp
  simp [this]

theorem idxF_none {p : Int → Bool} {zs : List Int} {n : Nat} (hn : n = zs.length) (h : (zs.take n).any p = false) : idxF p zs = -1 := by
  rw [hn, List.take_length] at h
  unfold idxF
  rw [if_neg (by simp [h])]

set_option maxHeartbeats 400000 in
theorem indexFunc_ints (A : Option Addr) (n c : Nat) (zs : List Int) (f : FuncId) (cap : Array Value) (p : Int → Bool) (w : World) (hent : Enters Try.prog f) (ha : Rd w .i64 A zs) (hn : n = zs.length) (hn' : n ≤ 9223372036854775807)
    (hcall : ∀ k q, k < zs.length → Calls Try.prog f (#[.int .i64 (zs.getD k 0)] ++ cap) (w.drewN q) fun e w' => e = .returned (.bool (p (zs.getD k 0))) ∧ ∃ q', w' = w.drewN q') :
    Calls Try.prog 102 #[.slice A n c, .func (.func f) #[] cap] w fun e w' => e = .returned (.int .i64 (idxF p zs)) ∧ ∃ q, w' = w.drewN q := by
  have H1 := Lib.hid hn; have HC := Lib.hid hcall; clear hn hcall
  have hentr : ∀ (args : Array Value) (w : World), (callFunc f args).run Try.prog w = .ok (.enter f args) w := hent
  go_enter Try.func102, Try.ntmps102
  go_wp2_with (fail)
  go_loopw [8] (fun i wr => ∃ k : Nat, k ≤ n ∧ i = .int .i64 k ∧ (zs.take k).any p = false ∧ ∃ q, wr = w.drewN q) (fun i wr => n - (intOf i).toNat)
  case atStart => exact ⟨0, by omega, rfl, rfl, 0, rfl⟩
  case round =>
    obtain ⟨k, hk, rfl, htk, q, rfl⟩ := hrel
    have Htk := Lib.hid htk; clear htk
    by_cases hlt : k < n
    · obtain ⟨b1, o1, rfl, hc1⟩ := ha.at_ (i := k) (by rw [← H1.out]; exact hlt)
      cases hp : p (zs.getD k 0)
      · have HP := Lib.hid hp; clear hp
        go_wp2_with (fail)
        refine (HC.out k q (by rw [← H1.out]; exact hlt)).mono ?_
        rintro e w' ⟨rfl, q', rfl⟩
        rw [HP.out]
        go_wp2_with (fail)
        go_roundw
        case rel => exact ⟨k + 1, by omega, by go_num, any_take_succ H1.out hlt Htk.out HP.out, _, rfl⟩
        case measure => simp [intOf]; omega
      · have HP := Lib.hid hp; clear hp
        go_wp2_with (fail)
        refine (HC.out k q (by rw [← H1.out]; exact hlt)).mono ?_
        rintro e w' ⟨rfl, q', rfl⟩
        rw [HP.out]
        go_wp2_with (fail)
        go_ret
        exact ⟨ret_int (idxF_hit H1.out hlt Htk.out HP.out).symm, _, rfl⟩
    · obtain rfl : k = n := by omega
      go_wp2_with (fail)
      go_ret
      exact ⟨ret_int (idxF_none H1.out Htk.out).symm, _, rfl⟩

set_option maxHeartbeats 400000 in
theorem containsFunc_ints (A : Option Addr) (n c : Nat) (zs : List Int) (f : FuncId) (cap : Array Value) (p : Int → Bool) (w : World) (hent : Enters Try.prog f) (ha : Rd w .i64 A zs) (hn : n = zs.length) (hn' : n ≤ 9223372036854775807)
    (hcall : ∀ k q, k < zs.length → Calls Try.prog f (#[.int .i64 (zs.getD k 0)] ++ cap) (w.drewN q) fun e w' => e = .returned (.bool (p (zs.getD k 0))) ∧ ∃ q', w' = w.drewN q') :
    Calls Try.prog 68 #[.slice A n c, .func (.func f) #[] cap] w fun e w' => e = .returned (.bool (zs.any p)) ∧ ∃ q, w' = w.drewN q := by
  have H1 := Lib.hid hn; have HC := Lib.hid hcall; clear hn hcall
  rw [← idxF_ge]
  go_enter Try.func68, Try.ntmps68
  go_wp2_with (fail)
  refine (indexFunc_ints A n c zs f cap p _ hent ha H1.out hn' HC.out).mono ?_
  rintro e w' ⟨rfl, q, rfl⟩
  go_wp2_with (fail)
  go_ret
  exact ⟨rfl, _, rfl⟩

/-- every number of the list fits Go's int -/
def AllI (zs : List Int) : Prop := ∀ z ∈ zs, I64 z
theorem AllI.at_ {zs : List Int} (h : AllI zs) (k : Nat) : I64 (zs.getD k 0) := by
  by_cases hk : k < zs.length
  · simp [hk]; exact h _ (List.getElem_mem _)
  · simp [hk]; exact ⟨by decide, by decide⟩

def rowB (zs : List Int) : Bool := decide (0 < zs.length) && decide (zs.length ≤ 256) && !(zs.any fun n => !isB n)

end Go.Proofs.Ytpojijnjdlnokaa

/- Layers 9, 11: the contracts of strip.Width, size.Right, Room, Fits. -/
namespace Go.Proofs.Ytpojijnjdlnokaa
open Go.RowKit
set_option linter.unusedVariables false

theorem strip_Width (long k : Int) (w : World) (h1 : I64 long) (h2 : I64 k) : Gives Try.prog 18 #[.int .i64 long, .int .i64 k] w fun v w' => v = .tuple #[.int .i64 (widthV long k), .int .i64 (errE (widthOk long k))] ∧ w' = w := by
  obtain ⟨a1, a2⟩ := h1
  obtain ⟨a3, a4⟩ := h2
  refine gives_enter Try.call18 Try.func18 rfl rfl rfl (by kernel_rfl) ?_
  rcases (by omega : long < 0 ∨ (0 ≤ long ∧ 65535 < long) ∨ (0 ≤ long ∧ long ≤ 65535 ∧ k < 1) ∨ (0 ≤ long ∧ long ≤ 65535 ∧ 1 ≤ k)) with h | ⟨h, h3⟩ | ⟨h, h3, h4⟩ | ⟨h, h3, h4⟩
  · refine v_seq ?_
    refine v_region ?_
    refine vl_val (os_assign rfl) ?_
    refine vl_val (os_assign rfl) ?_
    refine vl_nil ?_
    refine v_seq ?_
    refine v_seq ?_
    refine v_region ?_
    refine vl_val (os_move rfl) ?_
    refine vl_val (os_t (os_lss rfl rfl) (by omega)) ?_
    refine vl_val (os_move rfl) ?_
    refine vl_skip rfl rfl ?_
    refine vl_skip rfl rfl ?_
    refine vl_val (os_pick_t rfl rfl) ?_
    refine vl_val (os_move rfl) ?_
    refine vl_skip rfl rfl ?_
    refine vl_skip rfl rfl ?_
    refine vl_val (os_pick_t rfl rfl) ?_
    refine vl_val (os_move rfl) ?_
    refine vl_skip rfl rfl ?_
    refine vl_skip rfl rfl ?_
    refine vl_val (os_pick_t rfl rfl) ?_
    refine vl_nil ?_
    refine v_cond_t rfl ?_
    refine v_seq ?_
    refine v_region ?_
    refine vl_val (os_assign rfl) ?_
    refine vl_val (os_assign rfl) ?_
    refine vl_nil ?_
    refine v_ret ?_
    exact post_ret2 rfl rfl rfl (⟨by simp [widthV, widthOk, errE]; omega, rfl⟩)
  · refine v_seq ?_
    refine v_region ?_
    refine vl_val (os_assign rfl) ?_
    refine vl_val (os_assign rfl) ?_
    refine vl_nil ?_
    refine v_seq ?_
    refine v_seq ?_
    refine v_region ?_
    refine vl_val (os_move rfl) ?_
    refine vl_val (os_f (os_lss rfl rfl) (by omega)) ?_
    refine vl_val (os_move rfl) ?_
    refine vl_valg rfl (os_move rfl) ?_
    refine vl_valg rfl (os_t (os_gtr rfl rfl) (by omega)) ?_
    refine vl_val (os_pick_f rfl rfl) ?_
    refine vl_val (os_move rfl) ?_
    refine vl_skip rfl rfl ?_
    refine vl_skip rfl rfl ?_
    refine vl_val (os_pick_t rfl rfl) ?_
    refine vl_val (os_move rfl) ?_
    refine vl_skip rfl rfl ?_
    refine vl_skip rfl rfl ?_
    refine vl_val (os_pick_t rfl rfl) ?_
    refine vl_nil ?_
    refine v_cond_t rfl ?_
    refine v_seq ?_
    refine v_region ?_
    refine vl_val (os_assign rfl) ?_
    refine vl_val (os_assign rfl) ?_
    refine vl_nil ?_
    refine v_ret ?_
    exact post_ret2 rfl rfl rfl (⟨by simp [widthV, widthOk, errE]; omega, rfl⟩)
  · refine v_seq ?_
    refine v_region ?_
    refine vl_val (os_assign rfl) ?_
    refine vl_val (os_assign rfl) ?_
    refine vl_nil ?_
    refine v_seq ?_
    refine v_seq ?_
    refine v_region ?_
    refine vl_val (os_move rfl) ?_
    refine vl_val (os_f (os_lss rfl rfl) (by omega)) ?_
    refine vl_val (os_move rfl) ?_
    refine vl_valg rfl (os_move rfl) ?_
    refine vl_valg rfl (os_f (os_gtr rfl rfl) (by omega)) ?_
    refine vl_val (os_pick_f rfl rfl) ?_
    refine vl_val (os_move rfl) ?_
    refine vl_valg rfl (os_move rfl) ?_
    refine vl_valg rfl (os_t (os_lss rfl rfl) (by omega)) ?_
    refine vl_val (os_pick_f rfl rfl) ?_
    refine vl_val (os_move rfl) ?_
    refine vl_skip rfl rfl ?_
    refine vl_skip rfl rfl ?_
    refine vl_val (os_pick_t rfl rfl) ?_
    refine vl_nil ?_
    refine v_cond_t rfl ?_
    refine v_seq ?_
    refine v_region ?_
    refine vl_val (os_assign rfl) ?_
    refine vl_val (os_assign rfl) ?_
    refine vl_nil ?_
    refine v_ret ?_
    exact post_ret2 rfl rfl rfl (⟨by simp [widthV, widthOk, errE]; omega, rfl⟩)
  · refine v_seq ?_
    refine v_region ?_
    refine vl_val (os_assign rfl) ?_
    refine vl_val (os_assign rfl) ?_
    refine vl_nil ?_
    refine v_seq ?_
    refine v_seq ?_
    refine v_region ?_
    refine vl_val (os_move rfl) ?_
    refine vl_val (os_f (os_lss rfl rfl) (by omega)) ?_
    refine vl_val (os_move rfl) ?_
    refine vl_valg rfl (os_move rfl) ?_
    refine vl_valg rfl (os_f (os_gtr rfl rfl) (by omega)) ?_
    refine vl_val (os_pick_f rfl rfl) ?_
    refine vl_val (os_move rfl) ?_
    refine vl_valg rfl (os_move rfl) ?_
    refine vl_valg rfl (os_f (os_lss rfl rfl) (by omega)) ?_
    refine vl_val (os_pick_f rfl rfl) ?_
    refine vl_val (os_move rfl) ?_
    refine vl_valg rfl (os_move rfl) ?_
    refine vl_valg rfl (os_gtr rfl rfl) ?_
    refine vl_val (os_pick_f rfl rfl) ?_
    refine vl_nil ?_
    refine v_cond_d rfl (fun hk => ?_) (fun hk => ?_)
    · have hw : widthOk long k = false := by simp [widthOk]; omega
      refine v_seq ?_
      refine v_region ?_
      refine vl_val (os_assign rfl) ?_
      refine vl_val (os_assign rfl) ?_
      refine vl_nil ?_
      refine v_ret ?_
      exact post_ret2 rfl rfl rfl (⟨by simp [widthV, hw, errE], rfl⟩)
    · have hw : widthOk long k = true := by simp [widthOk]; omega
      refine v_skip ?_
      refine v_seq ?_
      refine v_region ?_
      refine vl_val (os_move rfl) ?_
      refine vl_val (os_move rfl) ?_
      refine vl_val (os_addi rfl rfl (by omega)) ?_
      refine vl_val (os_subi rfl rfl (by omega)) ?_
      refine vl_val (os_move rfl) ?_
      refine vl_val (os_quoi rfl rfl (by omega)) ?_
      refine vl_val (os_assign rfl) ?_
      refine vl_val (os_assign rfl) ?_
      refine vl_nil ?_
      refine v_ret ?_
      exact post_ret2 rfl rfl rfl (⟨by simp [widthV, hw, errE, widthW], rfl⟩)

theorem size_between (a b c : Int) (w : World) : Gives Try.prog 98 #[.int .i64 a, .int .i64 b, .int .i64 c] w fun v w' => v = .bool (betw a b c) ∧ w' = w := by
  refine gives_enter Try.call98 Try.func98 rfl rfl rfl (by kernel_rfl) ?_
  by_cases h : b ≤ a
  · refine v_seq ?_
    refine v_region ?_
    refine vl_val (os_assign rfl) ?_
    refine vl_nil ?_
    refine v_seq ?_
    refine v_region ?_
    refine vl_val (os_move rfl) ?_
    refine vl_val (os_move rfl) ?_
    refine vl_val (os_t (os_geq rfl rfl) (by omega)) ?_
    refine vl_val (os_move rfl) ?_
    refine vl_valg rfl (os_move rfl) ?_
    refine vl_valg rfl (os_move rfl) ?_
    refine vl_valg rfl (os_leq rfl rfl) ?_
    refine vl_val (os_pick_t rfl rfl) ?_
    refine vl_val (os_assign rfl) ?_
    refine vl_nil ?_
    refine v_ret ?_
    exact post_ret rfl rfl (⟨by simp [betw, h], rfl⟩)
  · refine v_seq ?_
    refine v_region ?_
    refine vl_val (os_assign rfl) ?_
    refine vl_nil ?_
    refine v_seq ?_
    refine v_region ?_
    refine vl_val (os_move rfl) ?_
    refine vl_val (os_move rfl) ?_
    refine vl_val (os_f (os_geq rfl rfl) (by omega)) ?_
    refine vl_val (os_move rfl) ?_
    refine vl_skip rfl rfl ?_
    refine vl_skip rfl rfl ?_
    refine vl_skip rfl rfl ?_
    refine vl_val (os_pick_f rfl rfl) ?_
    refine vl_val (os_assign rfl) ?_
    refine vl_nil ?_
    refine v_ret ?_
    exact post_ret rfl rfl (⟨by simp [betw, h], rfl⟩)

theorem size_Right (n m b : Int) (w : World) : Gives Try.prog 67 #[.agg #[.int .i64 n, .int .i64 m, .int .i64 b]] w fun v w' => v = .bool (rightB n m b) ∧ Below w.heap.size w w' := by
  have hbel : Below w.heap.size w (w.alloc (.cells #[.int .i64 n, .int .i64 m, .int .i64 b] 42)) := (Below.refl _ w).alloc (Nat.le_refl _) _
  have hB := bk_new w [.int .i64 n, .int .i64 m, .int .i64 b] 42
  refine gives_enter Try.call67 Try.func67 rfl rfl rfl (by kernel_rfl) ?_
  cases c1 : betw n 1 255
  · refine v_seq ?_
    refine v_region ?_
    refine vl_val (os_box rfl) ?_
    refine vl_val (os_assign rfl) ?_
    refine vl_nil ?_
    refine v_seq ?_
    refine v_region ?_
    refine vl_val (os_fa (o := 0) (k := 0) (by kernel_rfl) rfl) ?_
    refine vl_val (os_load Try.isAgg3 rfl (hB.cell rfl)) ?_
    refine vl_call (gives_bool (size_between n 1 255 _) c1) rfl ?_
    rintro v w' ⟨rfl, rfl⟩
    refine vl_val (os_move rfl) ?_
    refine vl_skip rfl rfl ?_
    refine vl_skip rfl rfl ?_
    refine vl_skip rfl rfl ?_
    refine vl_val (os_pick_f rfl rfl) ?_
    refine vl_val (os_move rfl) ?_
    refine vl_skip rfl rfl ?_
    refine vl_skip rfl rfl ?_
    refine vl_skip rfl rfl ?_
    refine vl_val (os_pick_f rfl rfl) ?_
    refine vl_val (os_assign rfl) ?_
    refine vl_nil ?_
    refine v_ret ?_
    exact post_ret rfl rfl (⟨by simp [rightB]; simp [betw] at c1; omega, hbel⟩)
  · cases c2 : betw m 64 1500
    · refine v_seq ?_
      refine v_region ?_
      refine vl_val (os_box rfl) ?_
      refine vl_val (os_assign rfl) ?_
      refine vl_nil ?_
      refine v_seq ?_
      refine v_region ?_
      refine vl_val (os_fa (o := 0) (k := 0) (by kernel_rfl) rfl) ?_
      refine vl_val (os_load Try.isAgg3 rfl (hB.cell rfl)) ?_
      refine vl_call (gives_bool (size_between n 1 255 _) c1) rfl ?_
      rintro v w' ⟨rfl, rfl⟩
      refine vl_val (os_move rfl) ?_
      refine vl_valg rfl (os_fa (o := 1) (k := 0) (by kernel_rfl) rfl) ?_
      refine vl_valg rfl (os_load Try.isAgg3 rfl (hB.cell rfl)) ?_
      refine vl_callg rfl (gives_bool (size_between m 64 1500 _) c2) rfl ?_
      rintro v w' ⟨rfl, rfl⟩
      refine vl_val (os_pick_t rfl rfl) ?_
      refine vl_val (os_move rfl) ?_
      refine vl_skip rfl rfl ?_
      refine vl_skip rfl rfl ?_
      refine vl_skip rfl rfl ?_
      refine vl_val (os_pick_f rfl rfl) ?_
      refine vl_val (os_assign rfl) ?_
      refine vl_nil ?_
      refine v_ret ?_
      exact post_ret rfl rfl (⟨by simp [rightB]; simp [betw] at c2; omega, hbel⟩)
    · refine v_seq ?_
      refine v_region ?_
      refine vl_val (os_box rfl) ?_
      refine vl_val (os_assign rfl) ?_
      refine vl_nil ?_
      refine v_seq ?_
      refine v_region ?_
      refine vl_val (os_fa (o := 0) (k := 0) (by kernel_rfl) rfl) ?_
      refine vl_val (os_load Try.isAgg3 rfl (hB.cell rfl)) ?_
      refine vl_call (gives_bool (size_between n 1 255 _) c1) rfl ?_
      rintro v w' ⟨rfl, rfl⟩
      refine vl_val (os_move rfl) ?_
      refine vl_valg rfl (os_fa (o := 1) (k := 0) (by kernel_rfl) rfl) ?_
      refine vl_valg rfl (os_load Try.isAgg3 rfl (hB.cell rfl)) ?_
      refine vl_callg rfl (gives_bool (size_between m 64 1500 _) c2) rfl ?_
      rintro v w' ⟨rfl, rfl⟩
      refine vl_val (os_pick_t rfl rfl) ?_
      refine vl_val (os_move rfl) ?_
      refine vl_valg rfl (os_fa (o := 2) (k := 0) (by kernel_rfl) rfl) ?_
      refine vl_valg rfl (os_load Try.isAgg3 rfl (hB.cell rfl)) ?_
      refine vl_callg rfl (size_between b 1 524288 _) rfl ?_
      rintro v w' ⟨rfl, rfl⟩
      refine vl_val (os_pick_t rfl rfl) ?_
      refine vl_val (os_assign rfl) ?_
      refine vl_nil ?_
      refine v_ret ?_
      exact post_ret rfl rfl (⟨by simp [betw] at c1 c2; simp [rightB, betw, c1, c2], hbel⟩)

theorem right_bd {n m b : Int} (h : rightB n m b = true) : 1 ≤ n ∧ n ≤ 255 ∧ 64 ≤ m ∧ m ≤ 1500 ∧ 1 ≤ b ∧ b ≤ 524288 := by simpa [rightB] using h

theorem size_Room (n m b l : Int) (w : World) : Gives Try.prog 58 #[.agg #[.int .i64 n, .int .i64 m, .int .i64 b], .int .i64 l] w fun v w' => v = .tuple #[.int .i64 (roomV n m b l), .int .i64 (errE (roomOk n m b l))] ∧ Below w.heap.size w w' := by
  have hbel : Below w.heap.size w (w.alloc (.cells #[.int .i64 n, .int .i64 m, .int .i64 b] 42)) := (Below.refl _ w).alloc (Nat.le_refl _) _
  have hB := bk_new w [.int .i64 n, .int .i64 m, .int .i64 b] 42
  refine gives_enter Try.call58 Try.func58 rfl rfl rfl (by kernel_rfl) ?_
  cases c1 : rightB n m b
  · refine v_seq ?_
    refine v_region ?_
    refine vl_val (os_box rfl) ?_
    refine vl_val (os_assign rfl) ?_
    refine vl_val (os_assign rfl) ?_
    refine vl_nil ?_
    refine v_seq ?_
    refine v_seq ?_
    refine v_region ?_
    refine vl_val (os_loadB Try.underlying42 rfl (by kernel_rfl) rfl (hB)) ?_
    refine vl_call (gives_boolb (size_Right n m b _) c1) rfl ?_
    rintro v w1 ⟨rfl, hb1⟩
    have hbel1 := hbel.trans (hb1.mono (by simp))
    refine vl_val (os_not rfl) ?_
    refine vl_val (os_move rfl) ?_
    refine vl_skip rfl rfl ?_
    refine vl_skip rfl rfl ?_
    refine vl_skip rfl rfl ?_
    refine vl_val (os_pick_t rfl rfl) ?_
    refine vl_nil ?_
    refine v_cond_t rfl ?_
    refine v_seq ?_
    refine v_region ?_
    refine vl_val (os_assign rfl) ?_
    refine vl_val (os_assign rfl) ?_
    refine vl_nil ?_
    refine v_ret ?_
    exact post_ret2 rfl rfl rfl (⟨by simp [roomV, roomOk, c1, errE], hbel1⟩)
  · cases c2 : betw l 1 8
    · refine v_seq ?_
      refine v_region ?_
      refine vl_val (os_box rfl) ?_
      refine vl_val (os_assign rfl) ?_
      refine vl_val (os_assign rfl) ?_
      refine vl_nil ?_
      refine v_seq ?_
      refine v_seq ?_
      refine v_region ?_
      refine vl_val (os_loadB Try.underlying42 rfl (by kernel_rfl) rfl (hB)) ?_
      refine vl_call (gives_boolb (size_Right n m b _) c1) rfl ?_
      rintro v w1 ⟨rfl, hb1⟩
      have hbel1 := hbel.trans (hb1.mono (by simp))
      refine vl_val (os_not rfl) ?_
      refine vl_val (os_move rfl) ?_
      refine vl_valg rfl (os_move rfl) ?_
      refine vl_callg rfl (gives_bool (size_between l 1 8 _) c2) rfl ?_
      rintro v w' ⟨rfl, rfl⟩
      refine vl_valg rfl (os_not rfl) ?_
      refine vl_val (os_pick_f rfl rfl) ?_
      refine vl_nil ?_
      refine v_cond_t rfl ?_
      refine v_seq ?_
      refine v_region ?_
      refine vl_val (os_assign rfl) ?_
      refine vl_val (os_assign rfl) ?_
      refine vl_nil ?_
      refine v_ret ?_
      exact post_ret2 rfl rfl rfl (⟨by simp [roomV, roomOk, c1, c2, errE], hbel1⟩)
    · refine v_seq ?_
      refine v_region ?_
      refine vl_val (os_box rfl) ?_
      refine vl_val (os_assign rfl) ?_
      refine vl_val (os_assign rfl) ?_
      refine vl_nil ?_
      refine v_seq ?_
      refine v_seq ?_
      refine v_region ?_
      refine vl_val (os_loadB Try.underlying42 rfl (by kernel_rfl) rfl (hB)) ?_
      refine vl_call (gives_boolb (size_Right n m b _) c1) rfl ?_
      rintro v w1 ⟨rfl, hb1⟩
      have hbel1 := hbel.trans (hb1.mono (by simp))
      refine vl_val (os_not rfl) ?_
      refine vl_val (os_move rfl) ?_
      refine vl_valg rfl (os_move rfl) ?_
      refine vl_callg rfl (gives_bool (size_between l 1 8 _) c2) rfl ?_
      rintro v w' ⟨rfl, rfl⟩
      have hB1 := hB.keep hb1
      have hr := right_bd c1
      have hl : 1 ≤ l ∧ l ≤ 8 := by simpa [betw] using c2
      have hd := Int.ediv_nonneg (show 0 ≤ b by omega) (show 0 ≤ n by omega)
      have hd2 := Int.ediv_le_self n (show 0 ≤ b by omega)
      refine vl_valg rfl (os_not rfl) ?_
      refine vl_val (os_pick_f rfl rfl) ?_
      refine vl_nil ?_
      refine v_cond_f rfl ?_
      refine v_skip ?_
      refine v_seq ?_
      refine v_region_t LeD _ mixed (by kernel_rfl) lee_d (led_start _) ?_
      refine vt_val (fun w hw => os_fa (o := 1) (k := 0) (by kernel_rfl) rfl) ?_
      refine vt_val (fun w hw => os_load Try.isAgg3 rfl (led_cell hw (hB1.cell rfl))) ?_
      refine vt_val (fun w hw => os_fa (o := 2) (k := 0) (by kernel_rfl) rfl) ?_
      refine vt_val (fun w hw => os_load Try.isAgg3 rfl (led_cell hw (hB1.cell rfl))) ?_
      refine vt_val (fun w hw => os_fa (o := 0) (k := 0) (by kernel_rfl) rfl) ?_
      refine vt_val (fun w hw => os_load Try.isAgg3 rfl (led_cell hw (hB1.cell rfl))) ?_
      refine vt_val (fun w hw => os_quoi rfl rfl (by omega)) ?_
      refine vt_val (fun w hw => os_min rfl rfl) ?_
      refine vt_val (fun w hw => os_subi rfl rfl (by omega)) ?_
      refine vt_val (fun w hw => os_move rfl) ?_
      refine vt_val (fun w hw => os_muli rfl rfl (by omega)) ?_
      refine vt_val (fun w hw => os_subi rfl rfl (by omega)) ?_
      refine vt_val (fun w hw => os_max rfl rfl) ?_
      refine vt_val (fun w hw => os_assign rfl) ?_
      refine vt_val (fun w hw => os_assign rfl) ?_
      refine vt_nil (fun w hw => ?_)
      obtain ⟨q, rfl⟩ := hw
      refine v_ret ?_
      exact post_ret2 rfl rfl rfl (⟨by simp [roomV, roomOk, c1, c2, errE, roomW], below_drewN_ hbel1 q⟩)

theorem size_lengths_fn (z : Int) (w : World) : Gives Try.prog 143 #[.int .i64 z] w fun v w' => v = .bool (!betw z 0 65535) ∧ w' = w := by
  refine gives_enter Try.call143 Try.func143 rfl rfl rfl (by kernel_rfl) ?_
  refine v_seq ?_
  refine v_region ?_
  refine vl_val (os_assign rfl) ?_
  refine vl_nil ?_
  refine v_seq ?_
  refine v_region ?_
  refine vl_val (os_move rfl) ?_
  refine vl_call (size_between z 0 65535 _) rfl ?_
  rintro v w' ⟨rfl, rfl⟩
  refine vl_val (os_not rfl) ?_
  refine vl_val (os_assign rfl) ?_
  refine vl_nil ?_
  refine v_ret ?_
  exact post_ret rfl rfl (⟨rfl, rfl⟩)

theorem g_ContainsFunc (A : Option Addr) (n c : Nat) (zs : List Int) (f : FuncId) (p : Int → Bool) (w : World) (ha : Rd w .i64 A zs) (hn : n = zs.length) (hn' : n ≤ 9223372036854775807)
    (hcall : ∀ k q, k < zs.length → Gives Try.prog f #[.int .i64 (zs.getD k 0)] (w.drewN q) fun v w' => v = .bool (p (zs.getD k 0)) ∧ w' = w.drewN q) (hent : Enters Try.prog f) :
    Gives Try.prog 68 #[.slice A n c, .func (.func f) #[] #[]] w fun v w' => v = .bool (zs.any p) ∧ LeD w w' :=
  gives_of Try.call68 (containsFunc_ints A n c zs f #[] p w hent ha hn hn' fun k q hk => (hcall k q hk).calls fun v w' ⟨h1, h2⟩ => ⟨by rw [h1], q, h2⟩) fun e w' ⟨h1, h2⟩ => ⟨_, h1, rfl, h2⟩

theorem size_lengths (A : Option Addr) (n c : Nat) (zs : List Int) (w : World) (ha : Rd w .i64 A zs) (hn : n = zs.length) (hn' : n ≤ 9223372036854775807) :
    Gives Try.prog 89 #[.slice A n c] w fun v w' => v = .bool (lensB zs) ∧ LeD w w' := by
  refine gives_enter Try.call89 Try.func89 rfl rfl rfl (by kernel_rfl) ?_
  cases c1 : betw n 1 8
  · refine v_seq ?_
    refine v_region ?_
    refine vl_val (os_assign rfl) ?_
    refine vl_nil ?_
    refine v_seq ?_
    refine v_region ?_
    refine vl_val (os_assign rfl) ?_
    refine vl_nil ?_
    refine v_seq ?_
    refine v_region ?_
    refine vl_val (os_move rfl) ?_
    refine vl_val (os_len Try.underlying40 rfl) ?_
    refine vl_call (gives_bool (size_between n 1 8 _) c1) rfl ?_
    rintro v w' ⟨rfl, rfl⟩
    refine vl_val (os_move rfl) ?_
    refine vl_skip rfl rfl ?_
    refine vl_skip rfl rfl ?_
    refine vl_skip rfl rfl ?_
    refine vl_skip rfl rfl ?_
    refine vl_val (os_pick_f rfl rfl) ?_
    refine vl_val (os_assign rfl) ?_
    refine vl_nil ?_
    refine v_ret ?_
    exact post_ret rfl rfl (⟨by simp [lensB, ← hn, c1], lee_d.refl _⟩)
  · refine v_seq ?_
    refine v_region ?_
    refine vl_val (os_assign rfl) ?_
    refine vl_nil ?_
    refine v_seq ?_
    refine v_region ?_
    refine vl_val (os_assign rfl) ?_
    refine vl_nil ?_
    refine v_seq ?_
    refine v_region ?_
    refine vl_val (os_move rfl) ?_
    refine vl_val (os_len Try.underlying40 rfl) ?_
    refine vl_call (gives_bool (size_between n 1 8 _) c1) rfl ?_
    rintro v w' ⟨rfl, rfl⟩
    refine vl_val (os_move rfl) ?_
    refine vl_valg rfl (os_move rfl) ?_
    refine vl_valg rfl (os_move rfl) ?_
    refine vl_callg rfl (g_ContainsFunc A n c zs _ (fun z => !betw z 0 65535) _ ha hn hn' (fun k q _ => size_lengths_fn _ _) Try.call143) rfl ?_
    rintro v w' ⟨rfl, hw⟩
    refine vl_valg rfl (os_not rfl) ?_
    refine vl_val (os_pick_t rfl rfl) ?_
    refine vl_val (os_assign rfl) ?_
    refine vl_nil ?_
    refine v_ret ?_
    exact post_ret rfl rfl (⟨by simp [lensB, ← hn, c1], hw⟩)

theorem sz_isNaN (x : Int) (w : World) : Gives Try.prog 149 #[.int .i64 x] w fun v w' => v = .bool false ∧ w' = w := by
  refine gives_enter Try.call149 Try.func149 rfl rfl rfl (by kernel_rfl) ?_
  refine v_seq ?_
  refine v_region ?_
  refine vl_val (os_assign rfl) ?_
  refine vl_nil ?_
  refine v_seq ?_
  refine v_region ?_
  refine vl_val (os_move rfl) ?_
  refine vl_val (os_move rfl) ?_
  refine vl_val (os_f (os_neq rfl rfl) (by simp)) ?_
  refine vl_val (os_assign rfl) ?_
  refine vl_nil ?_
  refine v_ret ?_
  exact post_ret rfl rfl (⟨rfl, rfl⟩)
theorem cmp_Less (x y : Int) (w : World) : Gives Try.prog 144 #[.int .i64 x, .int .i64 y] w fun v w' => v = .bool (decide (x < y)) ∧ w' = w := by
  refine gives_enter Try.call144 Try.func144 rfl rfl rfl (by kernel_rfl) ?_
  refine v_seq ?_
  refine v_region ?_
  refine vl_val (os_assign rfl) ?_
  refine vl_nil ?_
  refine v_seq ?_
  refine v_region ?_
  refine vl_val (os_move rfl) ?_
  refine vl_call (sz_isNaN x _) rfl ?_
  rintro v w' ⟨rfl, rfl⟩
  refine vl_val (os_move rfl) ?_
  refine vl_skip rfl rfl ?_
  refine vl_skip rfl rfl ?_
  refine vl_skip rfl rfl ?_
  refine vl_val (os_pick_f rfl rfl) ?_
  refine vl_val (os_move rfl) ?_
  refine vl_valg rfl (os_move rfl) ?_
  refine vl_valg rfl (os_move rfl) ?_
  refine vl_valg rfl (os_lss rfl rfl) ?_
  refine vl_val (os_pick_f rfl rfl) ?_
  refine vl_val (os_assign rfl) ?_
  refine vl_nil ?_
  refine v_ret ?_
  exact post_ret rfl rfl (⟨rfl, rfl⟩)

theorem slices_IsSorted (A : Option Addr) (n c : Nat) (zs : List Int) (w : World) (ha : Rd w .i64 A zs) (hn : n = zs.length) (hn' : n ≤ 9223372036854775807) :
    Gives Try.prog 90 #[.slice A n c] w fun v w' => v = .bool (sortedB zs) ∧ LeD w w' := by
  refine gives_enter Try.call90 Try.func90 rfl rfl rfl (by kernel_rfl) ?_
  refine v_seq ?_
  refine v_region ?_
  refine vl_val (os_assign rfl) ?_
  refine vl_nil ?_
  refine v_seq ?_
  refine v_seq ?_
  refine v_region ?_
  refine vl_val (os_move rfl) ?_
  refine vl_val (os_len Try.underlying40 rfl) ?_
  refine vl_val (os_subi rfl rfl (by omega)) ?_
  refine vl_val (os_assign rfl) ?_
  refine vl_nil ?_
  refine v_block ?_
  refine v_loop [(0, _)] (fun (k : Nat) => [(3, .int .i64 ((k : Int) - 1))]) (fun k w' => k ≤ n ∧ (∀ i, k ≤ i + 1 → i + 1 < zs.length → zs.getD i 0 ≤ zs.getD (i + 1) 0) ∧ LeD w w') (fun k => k) (n) ⟨rfl, trivial⟩ ⟨rfl, trivial⟩ (⟨by omega, fun i h1 h2 => by omega, lee_d.refl _⟩) ?_
  rintro k w' ⟨hk, hs, q, rfl⟩
  refine v_seq ?_
  refine v_seq ?_
  refine v_region ?_
  refine vl_val (os_move rfl) ?_
  refine vl_val (os_gtr rfl rfl) ?_
  refine vl_nil ?_
  refine v_cond_d rfl (fun hlt => ?_) (fun hlt => ?_)
  · obtain ⟨j, rfl⟩ : ∃ j, k = j + 2 := ⟨k - 2, by omega⟩
    obtain ⟨b1, o1, hA, c1⟩ := (ha.drewN q).at_ (i := j + 1) (by omega)
    obtain ⟨b2, o2, hA2, c2⟩ := (ha.drewN q).at_ (i := j) (by omega)
    subst hA
    cases hA2
    refine v_skip ?_
    refine v_seq ?_
    refine v_block ?_
    refine v_seq ?_
    refine v_region_t LeD _ mixed (by kernel_rfl) lee_d (led_start _) ?_
    refine vt_val (fun w hw => os_move rfl) ?_
    refine vt_val (fun w hw => os_move rfl) ?_
    refine vt_val (fun w hw => os_ix Try.underlying40 Try.sizeOf3 rfl rfl (i := j + 1) (by omega) (by omega)) ?_
    refine vt_val (fun w hw => os_load Try.isAgg3 rfl (led_cell hw (c1))) ?_
    refine vt_val (fun w hw => os_move rfl) ?_
    refine vt_val (fun w hw => os_move rfl) ?_
    refine vt_val (fun w hw => os_subi rfl rfl (by omega)) ?_
    refine vt_val (fun w hw => os_ix Try.underlying40 Try.sizeOf3 rfl rfl (i := j) (by omega) (by omega)) ?_
    refine vt_val (fun w hw => os_load Try.isAgg3 rfl (led_cell hw (c2))) ?_
    refine vt_call (v := _) (fun w hw => (cmp_Less (zs.getD (j + 1) 0) (zs.getD j 0) w).mono fun v w' h => ⟨h.1, by rw [h.2]; exact lee_d.refl _⟩) rfl ?_
    refine vt_nil (fun w hw => ?_)
    obtain ⟨q2, rfl⟩ := hw
    refine v_cond_d rfl (fun hlt2 => ?_) (fun hlt2 => ?_)
    · refine v_seq ?_
      refine v_region ?_
      refine vl_val (os_assign rfl) ?_
      refine vl_nil ?_
      refine v_ret ?_
      exact post_ret rfl rfl (⟨by rw [sortedB, decide_eq_false]; intro h; have := h j (by omega) (by omega); omega, _, World.drewN_drewN ..⟩)
    · refine v_skip ?_
      refine v_region ?_
      refine vl_val (os_move rfl) ?_
      refine vl_val (os_subi rfl rfl (by omega)) ?_
      refine vl_val (os_assign rfl) ?_
      refine vl_nil ?_
      exact ⟨j + 1, ⟨rfl, trivial⟩, ⟨get_int rfl (by omega), trivial⟩, ⟨by omega, fun i h1 h2 => if hi : i = j then (by subst hi; omega) else hs i (by omega) h2, _, World.drewN_drewN ..⟩, by dsimp only; omega⟩
  · refine v_exit ?_
    refine v_seq ?_
    refine v_region ?_
    refine vl_val (os_assign rfl) ?_
    refine vl_nil ?_
    refine v_ret ?_
    exact post_ret rfl rfl (⟨by rw [sortedB, decide_eq_true]; intro i h1 h2; exact hs i (by omega) h2, _, rfl⟩)
end Go.Proofs.Ytpojijnjdlnokaa
