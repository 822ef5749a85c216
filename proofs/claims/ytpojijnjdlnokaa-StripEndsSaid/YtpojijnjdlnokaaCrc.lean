/- Layer 7: the contracts of the program's sums. -/
import Derived.Test.YtpojijnjdlnokaaTy
import Derived.Test.YtpojijnjdlnokaaCrcP
import Derived.Test.YtpojijnjdlnokaaV32
namespace Go.Proofs.Ytpojijnjdlnokaa
open Go.RowKit
set_option linter.unusedVariables false

section
variable {P : Program} {n : Cx} {fr : Fr} {w : World} {ty : TypeId} {x y : Operand} {m : Int} {T e : TypeId} {k : IntKind} {v : Value}
theorem os_ixa {g i l : Nat} (hT : P.underlying T = some (.array l e)) (hs : ∀ w, (sizeOf e).run P w = .ok 1 w) (hx : Fr.ev fr x = some (.pointer (some ⟨g, 0, none⟩))) (hy : Fr.ev fr y = some (.int k m)) (hm : m = (i : Int)) (h : i < l) : OS P n (.indexAddr T x y) ty fr w (.pointer (some ⟨g, 0 + i, none⟩)) w := by
  subst hm
  exact os_of fun a ha => by simp [execOp, ha.ev hx, ha.ev hy, Instr.indexAt, asIntOf, run_underlying hT, Instr.sureAddr, h, hs, addr_add]
theorem os_allocB {zc : Array Value} {cs : List Value} (hz : ∀ w, (zeroValue T).run P w = .ok (.agg zc) w) (he : zc = cs.toArray) : OS P n (.alloc T) ty fr w (.pointer (some ⟨w.heap.size, 0, none⟩)) (w.alloc (.cells cs.toArray T)) := by
  subst he
  exact os_alloc hz
end

section
variable {P : Program} {n : Cx} {fr : Fr} {w : World} {fn : Func} {U : Value → World → Prop} {t g : Nat} {T e : TypeId} {cs : List Value} {d : TypeDesc}
/-- a named result that lies in memory -/
theorem post_cell (hf : fn.results = #[.cell t T]) (hg : Fr.get fr t = some (.pointer (some ⟨g, 0, none⟩))) (hu : P.underlying T = some d) (hd : (match d with | .struct _ | .array _ _ => true | _ => false) = true) (hs : (P.info? T).map (·.size) = some cs.length) (hB : Bk w g cs e) (h : U (.agg cs.toArray) w) : Post P n fn U .ret fr w := by
  unfold Post
  refine ⟨_, fun a ha => ?_, h⟩
  have := run_loadVar_row (P := P) w g e T cs.toArray (0, 0) d hB hu hd (by simpa using hs)
  have h1 : a.tmps.getD t undef = .pointer (some ⟨g, 0, none⟩) := by simp [Array.getD_eq_getD_getElem?, ha.at_ t _ hg]
  simp only [Array.getD_eq_getD_getElem?] at h1
  simp [results, hf, h1, asAddr, this]
end

/-- lists of lists -/
def RdS (w : World) (k : IntKind) (A : Option Addr) (ls : List (List Int)) : Prop :=
  0 < ls.length → ∃ b off, A = some ⟨b, off, none⟩ ∧ ∀ i, i < ls.length → ∃ Ai ci, w.cell? ⟨b, off + i, none⟩ = some (.slice Ai (ls.getD i []).length ci) ∧ Rd w k Ai (ls.getD i []) ∧ (ls.getD i []).length ≤ ci ∧ (ls.getD i []).length ≤ 140737488351232
theorem RdS.nil {w k A} : RdS w k A [] := fun h => absurd h (by simp)
theorem RdS.at_ {w k A ls} (h : RdS w k A ls) {i : Nat} (hi : i < ls.length) : ∃ b off Ai ci, A = some ⟨b, off, none⟩ ∧ w.cell? ⟨b, off + i, none⟩ = some (.slice Ai (ls.getD i []).length ci) ∧ Rd w k Ai (ls.getD i []) ∧ (ls.getD i []).length ≤ ci ∧ (ls.getD i []).length ≤ 140737488351232 := by
  obtain ⟨b, off, e, hc⟩ := h (by omega)
  obtain ⟨Ai, ci, h1⟩ := hc i hi
  exact ⟨b, off, Ai, ci, e, h1⟩
theorem RdS.keep {w w' : World} {k A ls} (h : RdS w k A ls) (hb : Below w.heap.size w w') : RdS w' k A ls := by
  intro hl
  obtain ⟨b, off, e, hc⟩ := h hl
  refine ⟨b, off, e, fun i hi => ?_⟩
  obtain ⟨Ai, ci, h1, h2, h3, h4⟩ := hc i hi
  have := World.block_lt_of_cell? w ⟨b, off + i, none⟩ h1
  exact ⟨Ai, ci, (hb.cell (p := ⟨b, off + i, none⟩) this).trans h1, h2.keep hb, h3, h4⟩
theorem RdS.led {w w' : World} {k A ls} (h : RdS w k A ls) (hb : LeD w w') : RdS w' k A ls := by obtain ⟨q, rfl⟩ := hb; exact h

def crcCellsTo (k : Nat) : List Value := (List.range 256).map fun n => if n < k then .int .u32 ((crcTab n).toNat : Int) else .int .u32 0
def crcCells : List Value := crcCellsTo 256
theorem crcCellsTo_len (k : Nat) : (crcCellsTo k).length = 256 := by simp [crcCellsTo]
theorem crcCellsTo_set (k : Nat) (hk : k < 256) : (crcCellsTo k).set k (.int .u32 ((crcTab k).toNat : Int)) = crcCellsTo (k + 1) := by
  apply List.ext_getElem
  · simp [crcCellsTo]
  · intro i h1 h2
    rw [List.getElem_set]
    simp only [crcCellsTo, List.getElem_map, List.getElem_range]
    by_cases h : k = i
    · subst h; simp
    · rw [if_neg h]
      by_cases h3 : i < k
      · rw [if_pos h3, if_pos (by omega)]
      · rw [if_neg h3, if_neg (by omega)]
theorem crcCells_at {i : Nat} (hi : i < 256) : nthV crcCells i = some (.int .u32 ((crcTab i).toNat : Int)) := by
  rw [nthV_eq]
  simp [crcCells, crcCellsTo, hi]
theorem crcCellsTo_some (k : Nat) {i : Nat} (hi : i < 256) : ∃ v, nthV (crcCellsTo k) i = some v := by
  rw [nthV_eq]
  exact ⟨_, List.getElem?_eq_getElem (by rw [crcCellsTo_len]; exact hi)⟩
theorem crcCells_one : oneCells crcCells = true := by
  have : ∀ l : List Value, (∀ v ∈ l, v.oneCell' = true) → oneCells l = true := by
    intro l
    induction l with
    | nil => intro _; rfl
    | cons v r ih => intro h; simp only [oneCells, Bool.and_eq_true]; exact ⟨h v (by simp), ih fun u hu => h u (by simp [hu])⟩
  refine this _ fun v hv => ?_
  simp only [crcCells, crcCellsTo, List.mem_map] at hv
  obtain ⟨n, _, rfl⟩ := hv
  split <;> rfl
theorem zc_table : Try.zeroCells231 = (crcCellsTo 0).toArray := by kernel_rfl

set_option maxHeartbeats 1000000 in
theorem sum_filled (w : World) : Gives Try.prog 172 #[] w fun v w' => v = .agg crcCells.toArray ∧ Below w.heap.size w w' := by
  have hb0 : Below w.heap.size w (w.alloc (.cells (crcCellsTo 0).toArray 231)) := (Below.refl _ w).alloc (Nat.le_refl _) _
  have hB0 := bk_new w (crcCellsTo 0) 231
  refine gives_enter Try.call172 Try.func172 rfl rfl rfl (by kernel_rfl) ?_
  refine v_seq ?_
  refine v_region ?_
  refine vl_val (os_allocB Try.zeroValue231 zc_table) ?_
  refine vl_nil ?_
  refine v_seq ?_
  refine v_seq ?_
  refine v_region ?_
  refine vl_val (os_move rfl) ?_
  refine vl_nil ?_
  refine v_block ?_
  refine v_loop [(0, _)] (fun (k : Nat) => [(3, .int .i64 k)]) (fun k w' => k ≤ 256 ∧ Bk w' w.heap.size (crcCellsTo k) 231 ∧ Below w.heap.size w w') (fun k => 256 - k) (0) ⟨rfl, trivial⟩ ⟨rfl, trivial⟩ (⟨by omega, hB0, hb0⟩) ?_
  rintro k W ⟨hk, hB, hb⟩
  refine v_seq ?_
  refine v_region ?_
  refine vl_val (os_lss rfl rfl) ?_
  refine vl_nil ?_
  refine v_seq ?_
  refine v_cond_d rfl (fun hlt => ?_) (fun hlt => ?_)
  · refine v_skip ?_
    refine v_seq ?_
    refine v_block ?_
    refine v_seq ?_
    refine v_region ?_
    refine vl_val (os_move rfl) ?_
    refine vl_val (os_assign rfl) ?_
    refine vl_nil ?_
    refine v_seq ?_
    refine v_region ?_
    refine vl_val (os_move rfl) ?_
    refine vl_val (os_conv Try.underlying3 Try.underlying171 rfl (show IntKind.u32.wrap (k : Int) = ((crcRnds 0 (BitVec.ofNat 32 k)).toNat : Int) by rw [IntKind.wrap_u32]; simp [crcRnds])) ?_
    refine vl_val (os_assign rfl) ?_
    refine vl_nil ?_
    refine v_seq ?_
    refine v_seq ?_
    refine v_region ?_
    refine vl_val (os_move rfl) ?_
    refine vl_nil ?_
    refine v_block ?_
    refine v_loop [(0, _), (1, _), (3, _)] (fun (j : Nat) => [(2, .int .u32 ((crcRnds j (BitVec.ofNat 32 k)).toNat : Int)), (8, .int .i64 j)]) (fun j w' => j ≤ 8 ∧ w' = W) (fun j => 8 - j) (0) ⟨rfl, rfl, rfl, trivial⟩ ⟨rfl, rfl, trivial⟩ (⟨by omega, rfl⟩) ?_
    rintro j W ⟨hj, rfl⟩
    refine v_seq ?_
    refine v_region ?_
    refine vl_val (os_lss rfl rfl) ?_
    refine vl_nil ?_
    refine v_seq ?_
    refine v_cond_d rfl (fun hj8 => ?_) (fun hj8 => ?_)
    · have hn : crcRnds (j + 1) (BitVec.ofNat 32 k) = crcRnd (crcRnds j (BitVec.ofNat 32 k)) := rfl
      refine v_skip ?_
      refine v_seq ?_
      refine v_block ?_
      refine v_region ?_
      refine vl_val (os_move rfl) ?_
      refine vl_val (os_shr32 (crcRnds j (BitVec.ofNat 32 k)) 1 rfl rfl rfl rfl) ?_
      refine vl_val (os_move rfl) ?_
      refine vl_val (os_and32 (crcRnds j (BitVec.ofNat 32 k)) 1#32 rfl rfl rfl rfl) ?_
      refine vl_val (os_neg32 (crcRnds j (BitVec.ofNat 32 k) &&& 1#32) rfl rfl) ?_
      refine vl_val (os_and32 crcPoly (-(crcRnds j (BitVec.ofNat 32 k) &&& 1#32)) rfl rfl rfl rfl) ?_
      refine vl_val (os_xor32 (crcRnds j (BitVec.ofNat 32 k) >>> 1) (crcPoly &&& -(crcRnds j (BitVec.ofNat 32 k) &&& 1#32)) rfl rfl rfl rfl) ?_
      refine vl_val (os_assign rfl) ?_
      refine vl_nil ?_
      refine v_region ?_
      refine vl_val (os_addi rfl rfl (by omega)) ?_
      refine vl_val (os_move rfl) ?_
      refine vl_nil ?_
      exact ⟨j + 1, ⟨rfl, rfl, rfl, trivial⟩, ⟨rfl, rfl, trivial⟩, ⟨by omega, rfl⟩, by dsimp only; omega⟩
    · obtain rfl : j = 8 := by omega
      obtain ⟨u, hu⟩ := crcCellsTo_some k (i := k) (by omega)
      refine v_exit ?_
      refine v_region ?_
      refine vl_val (os_move rfl) ?_
      refine vl_val (os_move rfl) ?_
      refine vl_val (os_ixa Try.underlying231 Try.sizeOf171 rfl rfl (i := k) rfl (by omega)) ?_
      refine vl_unit (ou_store Try.sizeOf171 rfl rfl rfl (hB.cell hu) (hB.free _)) ?_
      have hs := hB.set k (.int .u32 ((crcTab k).toNat : Int))
      rw [crcCellsTo_set k (by omega)] at hs
      refine vl_nil ?_
      refine v_region ?_
      refine vl_val (os_addi rfl rfl (by omega)) ?_
      refine vl_val (os_move rfl) ?_
      refine vl_nil ?_
      exact ⟨k + 1, ⟨rfl, trivial⟩, ⟨rfl, trivial⟩, ⟨by omega, hs, below_set hb (Nat.le_refl _) _ _⟩, by dsimp only; omega⟩
  · obtain rfl : k = 256 := by omega
    refine v_exit ?_
    refine v_seq ?_
    refine v_region ?_
    refine vl_val (os_loadB Try.underlying231 rfl (by rw [crcCellsTo_len]; kernel_rfl) rfl hB) ?_
    refine vl_unit (ou_storeB (by rw [crcCellsTo_len]; kernel_rfl) rfl rfl hB rfl crcCells_one) ?_
    have hE := setRow_bk hB (crcCellsTo 256)
    refine vl_nil ?_
    refine v_ret ?_
    exact post_cell rfl rfl Try.underlying231 rfl (by rw [crcCellsTo_len]; kernel_rfl) hE ⟨rfl, below_setRow hb (Nat.le_refl _) _⟩

/-- each number is a byte -/
def AllB (zs : List Int) : Prop := ∀ z ∈ zs, 0 ≤ z ∧ z ≤ 255
theorem AllB.at_ {zs : List Int} (h : AllB zs) (k : Nat) : 0 ≤ zs.getD k 0 ∧ zs.getD k 0 ≤ 255 := by
  by_cases hk : k < zs.length
  · simp [hk]; exact h _ (List.getElem_mem _)
  · simp [hk]
theorem crcRun_take {s : BitVec 32} {zs : List Int} {k : Nat} (hk : k < zs.length) : crcRun s (zs.take (k + 1)) = crcStep (crcRun s (zs.take k)) (zs.getD k 0) := by
  rw [List.take_succ_eq_append_getElem hk, crcRun_app]
  simp [crcRun, hk]

theorem sum_run (g : Nat) (s : BitVec 32) (A : Option Addr) (n c : Nat) (zs : List Int) (w : World) (hB : Bk w g crcCells 231) (ha : Rd w .u8 A zs) (hn : n = zs.length) (hn' : n ≤ 9223372036854775807) (hz : AllB zs) :
    Gives Try.prog 173 #[.pointer (some ⟨g, 0, none⟩), .int .u32 (s.toNat : Int), .slice A n c] w fun v w' => v = .int .u32 ((crcRun s zs).toNat : Int) ∧ w' = w := by
  refine gives_enter Try.call173 Try.func173 rfl rfl rfl (by kernel_rfl) ?_
  refine v_seq ?_
  refine v_region ?_
  refine vl_val (os_assign rfl) ?_
  refine vl_nil ?_
  refine v_seq ?_
  refine v_seq ?_
  refine v_region ?_
  refine vl_val (os_move rfl) ?_
  refine vl_val (os_len Try.underlying22 rfl) ?_
  refine vl_val (os_move rfl) ?_
  refine vl_nil ?_
  refine v_block ?_
  refine v_loop [(0, _), (9, _), (10, _)] (fun (k : Nat) => [(1, .int .u32 ((crcRun s (zs.take k)).toNat : Int)), (11, .int .i64 k)]) (fun k w' => k ≤ n ∧ w' = w) (fun k => n - k) (0) ⟨rfl, rfl, rfl, trivial⟩ ⟨rfl, rfl, trivial⟩ (⟨by omega, rfl⟩) ?_
  rintro k w ⟨hk, rfl⟩
  refine v_seq ?_
  refine v_region ?_
  refine vl_val (os_lss rfl rfl) ?_
  refine vl_nil ?_
  refine v_seq ?_
  refine v_cond_d rfl (fun hlt => ?_) (fun hlt => ?_)
  · obtain ⟨b1, o1, rfl, c1⟩ := ha.at_ (i := k) (by omega)
    have hb := hz.at_ k
    have e1 : (zs.getD k 0) = ((BitVec.ofInt 8 (zs.getD k 0)).toNat : Int) := (u8_int hb.1 hb.2).symm
    have hst := crcRun_take (s := s) (zs := zs) (k := k) (by omega)
    generalize crcRun s (zs.take k) = S at *
    refine v_skip ?_
    refine v_seq ?_
    refine v_block ?_
    refine v_seq ?_
    refine v_region ?_
    refine vl_val (os_ix Try.underlying22 Try.sizeOf5 rfl rfl (i := k) (by omega) (by omega)) ?_
    refine vl_val (os_load Try.isAgg5 rfl (c1)) ?_
    refine vl_val (os_assign rfl) ?_
    refine vl_nil ?_
    refine v_region ?_
    refine vl_val (os_move rfl) ?_
    refine vl_val (os_shr32 S 8 rfl rfl rfl rfl) ?_
    refine vl_val (os_move rfl) ?_
    refine vl_val (os_move rfl) ?_
    refine vl_val (os_low8 S Try.underlying171 Try.underlying5 rfl rfl) ?_
    refine vl_val (os_move rfl) ?_
    refine vl_val (os_xor8 (S.setWidth 8) (BitVec.ofInt 8 (zs.getD k 0)) rfl rfl rfl e1) ?_
    refine vl_val (os_nilCheck rfl) ?_
    refine vl_val (os_ixa Try.underlying231 Try.sizeOf171 rfl rfl (i := (S.setWidth 8 ^^^ BitVec.ofInt 8 (zs.getD k 0)).toNat) rfl (BitVec.isLt _)) ?_
    refine vl_val (os_load Try.isAgg171 rfl (hB.cell (crcCells_at (BitVec.isLt _)))) ?_
    refine vl_val (os_xor32 (S >>> 8) (crcTab (S.setWidth 8 ^^^ BitVec.ofInt 8 (zs.getD k 0)).toNat) rfl rfl rfl rfl) ?_
    refine vl_val (os_assign rfl) ?_
    refine vl_nil ?_
    refine v_region ?_
    refine vl_val (os_addi rfl rfl (by omega)) ?_
    refine vl_val (os_move rfl) ?_
    refine vl_nil ?_
    exact ⟨k + 1, ⟨rfl, rfl, rfl, trivial⟩, ⟨by rw [hst]; rfl, rfl, trivial⟩, ⟨by omega, rfl⟩, by dsimp only; omega⟩
  · refine v_exit ?_
    refine v_seq ?_
    refine v_region ?_
    refine vl_val (os_move rfl) ?_
    refine vl_val (os_assign rfl) ?_
    refine vl_nil ?_
    refine v_ret ?_
    exact post_ret rfl rfl (⟨by rw [List.take_of_length_le (by omega)], rfl⟩)

theorem sum_Of (A : Option Addr) (n c : Nat) (ls : List (List Int)) (w : World) (ha : RdS w .u8 A ls) (hn : n = ls.length) (hn' : n ≤ 9223372036854775807) (hz : ∀ l ∈ ls, AllB l) :
    Gives Try.prog 163 #[.slice A n c] w fun v w' => v = .int .u32 ((crcOf ls).toNat : Int) ∧ Below w.heap.size w w' := by
  refine gives_enter Try.call163 Try.func163 rfl rfl rfl (by kernel_rfl) ?_
  refine v_seq ?_
  refine v_region ?_
  refine vl_val (os_assign rfl) ?_
  refine vl_nil ?_
  refine v_seq ?_
  refine v_region ?_
  refine vl_call (sum_filled w) rfl ?_
  rintro v w1 ⟨rfl, hb1⟩
  refine vl_val (os_allocB Try.zeroValue231 zc_table) ?_
  have hB0 := bk_new w1 (crcCellsTo 0) 231
  have hb2 : Below w.heap.size w (w1.alloc (.cells (crcCellsTo 0).toArray 231)) := hb1.alloc hb1.size _
  refine vl_unit (ou_storeB (by rw [show crcCells.length = 256 from crcCellsTo_len _]; kernel_rfl) rfl rfl hB0 ((crcCellsTo_len 0).trans (crcCellsTo_len 256).symm) crcCells_one) ?_
  have hB := setRow_bk hB0 crcCells
  have hb3 := below_setRow hb2 hb1.size crcCells.toArray
  have ha3 := ha.keep hb3
  generalize (w1.alloc (.cells (crcCellsTo 0).toArray 231)).setRow w1.heap.size crcCells.toArray = w3 at *
  refine vl_nil ?_
  refine v_seq ?_
  refine v_region ?_
  refine vl_val (os_assign rfl) ?_
  refine vl_nil ?_
  refine v_seq ?_
  refine v_seq ?_
  refine v_region ?_
  refine vl_val (os_move rfl) ?_
  refine vl_val (os_len Try.underlying23 rfl) ?_
  refine vl_val (os_move rfl) ?_
  refine vl_nil ?_
  refine v_block ?_
  refine v_loop [(3, _), (8, _), (9, _)] (fun (k : Nat) => [(4, .int .u32 (((ls.take k).foldl crcRun (~~~ 0#32)).toNat : Int)), (10, .int .i64 k)]) (fun k w' => k ≤ n ∧ w' = w3) (fun k => n - k) (0) ⟨rfl, rfl, rfl, trivial⟩ ⟨rfl, rfl, trivial⟩ (⟨by omega, rfl⟩) ?_
  rintro k w3 ⟨hk, rfl⟩
  refine v_seq ?_
  refine v_region ?_
  refine vl_val (os_lss rfl rfl) ?_
  refine vl_nil ?_
  refine v_seq ?_
  refine v_cond_d rfl (fun hlt => ?_) (fun hlt => ?_)
  · obtain ⟨b1, o1, Ai, ci, rfl, c1, r1, l1, l2⟩ := ha3.at_ (i := k) (by omega)
    have hst : (ls.take (k + 1)).foldl crcRun (~~~ 0#32) = crcRun ((ls.take k).foldl crcRun (~~~ 0#32)) (ls.getD k []) := by
      rw [List.take_succ_eq_append_getElem (by omega), List.foldl_append]; simp [show k < ls.length by omega]
    refine v_skip ?_
    refine v_seq ?_
    refine v_block ?_
    refine v_seq ?_
    refine v_region ?_
    refine vl_val (os_ix Try.underlying23 Try.sizeOf22 rfl rfl (i := k) (by omega) (by omega)) ?_
    refine vl_val (os_load Try.isAgg22 rfl (c1)) ?_
    refine vl_val (os_assign rfl) ?_
    refine vl_nil ?_
    refine v_region ?_
    refine vl_val (os_move rfl) ?_
    refine vl_val (os_move rfl) ?_
    refine vl_call (sum_run _ _ Ai _ ci (ls.getD k []) w3 hB r1 rfl (by omega) (by rw [List.getD_eq_getElem?_getD, List.getElem?_eq_getElem (by omega)]; exact hz _ (List.getElem_mem _))) rfl ?_
    rintro v w3 ⟨rfl, rfl⟩
    refine vl_val (os_assign rfl) ?_
    refine vl_nil ?_
    refine v_region ?_
    refine vl_val (os_addi rfl rfl (by omega)) ?_
    refine vl_val (os_move rfl) ?_
    refine vl_nil ?_
    exact ⟨k + 1, ⟨rfl, rfl, rfl, trivial⟩, ⟨by rw [hst]; rfl, rfl, trivial⟩, ⟨by omega, rfl⟩, by dsimp only; omega⟩
  · refine v_exit ?_
    refine v_seq ?_
    refine v_region ?_
    refine vl_val (os_move rfl) ?_
    refine vl_val (os_com32 ((ls.take k).foldl crcRun (~~~ 0#32)) rfl rfl) ?_
    refine vl_val (os_assign rfl) ?_
    refine vl_nil ?_
    refine v_ret ?_
    exact post_ret rfl rfl (⟨by rw [List.take_of_length_le (by omega)]; rfl, hb3⟩)
end Go.Proofs.Ytpojijnjdlnokaa
