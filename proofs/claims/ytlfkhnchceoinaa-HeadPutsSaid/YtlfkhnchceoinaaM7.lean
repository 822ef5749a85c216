/- Texts joined: Crc Tw KitO NtW KitC. -/
import Derived.Test.YtlfkhnchceoinaaM6
import Derived.Laws.StructEq
import Derived.Deep.MidRow
/- Layer 7: the contracts of the program's sums. -/
namespace Go.Proofs.Ytlfkhnchceoinaa
open Go.RowKit
set_option linter.unusedVariables false

section
variable {P : Program} {n : Cx} {fr : Fr} {w : World} {ty : TypeId} {x y : Operand} {m : Int} {T e : TypeId} {k : IntKind} {v : Value}
theorem os_ixa {g i l : Nat} (hT : P.underlying T = some (.array l e)) (hs : ∀ w, (sizeOf e).run P w = .ok 1 w) (hx : Fr.ev fr x = some (.pointer (some ⟨g, 0, none⟩))) (hy : Fr.ev fr y = some (.int k m)) (hm : m = (i : Int)) (h : i < l) : OS P n (.indexAddr T x y) ty fr w (.pointer (some ⟨g, 0 + i, none⟩)) w := by
  subst hm
  exact os_of fun a ha => by simp [execOp, ha.ev hx, ha.ev hy, Instr.indexAt, asIntOf, run_underlying hT, Instr.sureAddr, h, hs, addr_add]
theorem os_allocB {zc : Array Value} {cs : List Value} (hz : ∀ w, (zeroValue T).run P w = .ok (.agg zc) w) (he : zc = cs.toArray) : OS P n (.alloc T) ty fr w (.pointer (some ⟨w.heap.size, 0, none⟩)) (w.alloc (.cells cs.toArray T)) := by
  subst he
  exact os_alloc hz
end

section
variable {P : Program} {n : Cx} {fr : Fr} {w : World} {fn : Func} {U : Value → World → Prop} {t g : Nat} {T e : TypeId} {cs : List Value} {d : TypeDesc}
/-- a named result that lies in memory -/
theorem post_cell (hf : fn.results = #[.cell t T]) (hg : Fr.get fr t = some (.pointer (some ⟨g, 0, none⟩))) (hu : P.underlying T = some d) (hd : (match d with | .struct _ | .array _ _ => true | _ => false) = true) (hs : (P.info? T).map (·.size) = some cs.length) (hB : Bk w g cs e) (h : U (.agg cs.toArray) w) : Post P n fn U .ret fr w := by
  unfold Post
  refine ⟨_, fun a ha => ?_, h⟩
  have := run_loadVar_row (P := P) w g e T cs.toArray (0, 0) d hB hu hd (by simpa using hs)
  have h1 : a.tmps.getD t undef = .pointer (some ⟨g, 0, none⟩) := by simp [Array.getD_eq_getD_getElem?, ha.at_ t _ hg]
  simp only [Array.getD_eq_getD_getElem?] at h1
  simp [results, hf, h1, asAddr, this]
end

/-- lists of lists -/
def RdS (w : World) (k : IntKind) (A : Option Addr) (ls : List (List Int)) : Prop :=
  0 < ls.length → ∃ b off, A = some ⟨b, off, none⟩ ∧ ∀ i, i < ls.length → ∃ Ai ci, w.cell? ⟨b, off + i, none⟩ = some (.slice Ai (ls.getD i []).length ci) ∧ Rd w k Ai (ls.getD i []) ∧ (ls.getD i []).length ≤ ci ∧ (ls.getD i []).length ≤ 140737488351232
theorem RdS.nil {w k A} : RdS w k A [] := fun h => absurd h (by simp)
theorem RdS.at_ {w k A ls} (h : RdS w k A ls) {i : Nat} (hi : i < ls.length) : ∃ b off Ai ci, A = some ⟨b, off, none⟩ ∧ w.cell? ⟨b, off + i, none⟩ = some (.slice Ai (ls.getD i []).length ci) ∧ Rd w k Ai (ls.getD i []) ∧ (ls.getD i []).length ≤ ci ∧ (ls.getD i []).length ≤ 140737488351232 := by
  obtain ⟨b, off, e, hc⟩ := h (by omega)
  obtain ⟨Ai, ci, h1⟩ := hc i hi
  exact ⟨b, off, Ai, ci, e, h1⟩
theorem RdS.keep {w w' : World} {k A ls} (h : RdS w k A ls) (hb : Below w.heap.size w w') : RdS w' k A ls := by
  intro hl
  obtain ⟨b, off, e, hc⟩ := h hl
  refine ⟨b, off, e, fun i hi => ?_⟩
  obtain ⟨Ai, ci, h1, h2, h3, h4⟩ := hc i hi
  have := World.block_lt_of_cell? w ⟨b, off + i, none⟩ h1
  exact ⟨Ai, ci, (hb.cell (p := ⟨b, off + i, none⟩) this).trans h1, h2.keep hb, h3, h4⟩
theorem RdS.led {w w' : World} {k A ls} (h : RdS w k A ls) (hb : LeD w w') : RdS w' k A ls := by obtain ⟨q, rfl⟩ := hb; exact h

def crcCellsTo (k : Nat) : List Value := (List.range 256).map fun n => if n < k then .int .u32 ((crcTab n).toNat : Int) else .int .u32 0
def crcCells : List Value := crcCellsTo 256
theorem crcCellsTo_len (k : Nat) : (crcCellsTo k).length = 256 := by simp [crcCellsTo]
theorem crcCellsTo_set (k : Nat) (hk : k < 256) : (crcCellsTo k).set k (.int .u32 ((crcTab k).toNat : Int)) = crcCellsTo (k + 1) := by
  apply List.ext_getElem
  · simp [crcCellsTo]
  · intro i h1 h2
    rw [List.getElem_set]
    simp only [crcCellsTo, List.getElem_map, List.getElem_range]
    by_cases h : k = i
    · subst h; simp
    · rw [if_neg h]
      by_cases h3 : i < k
      · rw [if_pos h3, if_pos (by omega)]
      · rw [if_neg h3, if_neg (by omega)]
theorem crcCells_at {i : Nat} (hi : i < 256) : nthV crcCells i = some (.int .u32 ((crcTab i).toNat : Int)) := by
  rw [nthV_eq]
  simp [crcCells, crcCellsTo, hi]
theorem crcCellsTo_some (k : Nat) {i : Nat} (hi : i < 256) : ∃ v, nthV (crcCellsTo k) i = some v := by
  rw [nthV_eq]
  exact ⟨_, List.getElem?_eq_getElem (by rw [crcCellsTo_len]; exact hi)⟩
theorem crcCells_one : oneCells crcCells = true := by
  have : ∀ l : List Value, (∀ v ∈ l, v.oneCell' = true) → oneCells l = true := by
    intro l
    induction l with
    | nil => intro _; rfl
    | cons v r ih => intro h; simp only [oneCells, Bool.and_eq_true]; exact ⟨h v (by simp), ih fun u hu => h u (by simp [hu])⟩
  refine this _ fun v hv => ?_
  simp only [crcCells, crcCellsTo, List.mem_map] at hv
  obtain ⟨n, _, rfl⟩ := hv
  split <;> rfl
theorem zc_table : Try.zeroCells124 = (crcCellsTo 0).toArray := by kernel_rfl

set_option maxHeartbeats 1000000 in
theorem sum_filled (w : World) : Gives Try.prog 85 #[] w fun v w' => v = .agg crcCells.toArray ∧ Below w.heap.size w w' := by
  have hb0 : Below w.heap.size w (w.alloc (.cells (crcCellsTo 0).toArray 124)) := (Below.refl _ w).alloc (Nat.le_refl _) _
  have hB0 := bk_new w (crcCellsTo 0) 124
  refine gives_enter Try.call85 Try.func85 rfl rfl rfl (by kernel_rfl) ?_
  refine v_seq ?_
  refine v_region ?_
  refine vl_val (os_allocB Try.zeroValue124 zc_table) ?_
  refine vl_nil ?_
  refine v_seq ?_
  refine v_seq ?_
  refine v_region ?_
  refine vl_val (os_move rfl) ?_
  refine vl_nil ?_
  refine v_block ?_
  refine v_loop [(0, _)] (fun (k : Nat) => [(3, .int .i64 k)]) (fun k w' => k ≤ 256 ∧ Bk w' w.heap.size (crcCellsTo k) 124 ∧ Below w.heap.size w w') (fun k => 256 - k) (0) ⟨rfl, trivial⟩ ⟨rfl, trivial⟩ (⟨by omega, hB0, hb0⟩) ?_
  rintro k W ⟨hk, hB, hb⟩
  refine v_seq ?_
  refine v_region ?_
  refine vl_val (os_lss rfl rfl) ?_
  refine vl_nil ?_
  refine v_seq ?_
  refine v_cond_d rfl (fun hlt => ?_) (fun hlt => ?_)
  · refine v_skip ?_
    refine v_seq ?_
    refine v_block ?_
    refine v_seq ?_
    refine v_region ?_
    refine vl_val (os_move rfl) ?_
    refine vl_val (os_assign rfl) ?_
    refine vl_nil ?_
    refine v_seq ?_
    refine v_region ?_
    refine vl_val (os_move rfl) ?_
    refine vl_val (os_conv Try.underlying3 Try.underlying50 rfl (show IntKind.u32.wrap (k : Int) = ((crcRnds 0 (BitVec.ofNat 32 k)).toNat : Int) by rw [IntKind.wrap_u32]; simp [crcRnds])) ?_
    refine vl_val (os_assign rfl) ?_
    refine vl_nil ?_
    refine v_seq ?_
    refine v_seq ?_
    refine v_region ?_
    refine vl_val (os_move rfl) ?_
    refine vl_nil ?_
    refine v_block ?_
    refine v_loop [(0, _), (1, _), (3, _)] (fun (j : Nat) => [(2, .int .u32 ((crcRnds j (BitVec.ofNat 32 k)).toNat : Int)), (8, .int .i64 j)]) (fun j w' => j ≤ 8 ∧ w' = W) (fun j => 8 - j) (0) ⟨rfl, rfl, rfl, trivial⟩ ⟨rfl, rfl, trivial⟩ (⟨by omega, rfl⟩) ?_
    rintro j W ⟨hj, rfl⟩
    refine v_seq ?_
    refine v_region ?_
    refine vl_val (os_lss rfl rfl) ?_
    refine vl_nil ?_
    refine v_seq ?_
    refine v_cond_d rfl (fun hj8 => ?_) (fun hj8 => ?_)
    · have hn : crcRnds (j + 1) (BitVec.ofNat 32 k) = crcRnd (crcRnds j (BitVec.ofNat 32 k)) := rfl
      refine v_skip ?_
      refine v_seq ?_
      refine v_block ?_
      refine v_region ?_
      refine vl_val (os_move rfl) ?_
      refine vl_val (os_shr32 (crcRnds j (BitVec.ofNat 32 k)) 1 rfl rfl rfl rfl) ?_
      refine vl_val (os_move rfl) ?_
      refine vl_val (os_and32 (crcRnds j (BitVec.ofNat 32 k)) 1#32 rfl rfl rfl rfl) ?_
      refine vl_val (os_neg32 (crcRnds j (BitVec.ofNat 32 k) &&& 1#32) rfl rfl) ?_
      refine vl_val (os_and32 crcPoly (-(crcRnds j (BitVec.ofNat 32 k) &&& 1#32)) rfl rfl rfl rfl) ?_
      refine vl_val (os_xor32 (crcRnds j (BitVec.ofNat 32 k) >>> 1) (crcPoly &&& -(crcRnds j (BitVec.ofNat 32 k) &&& 1#32)) rfl rfl rfl rfl) ?_
      refine vl_val (os_assign rfl) ?_
      refine vl_nil ?_
      refine v_region ?_
      refine vl_val (os_addi rfl rfl (by omega)) ?_
      refine vl_val (os_move rfl) ?_
      refine vl_nil ?_
      exact ⟨j + 1, ⟨rfl, rfl, rfl, trivial⟩, ⟨rfl, rfl, trivial⟩, ⟨by omega, rfl⟩, by dsimp only; omega⟩
    · obtain rfl : j = 8 := by omega
      obtain ⟨u, hu⟩ := crcCellsTo_some k (i := k) (by omega)
      refine v_exit ?_
      refine v_region ?_
      refine vl_val (os_move rfl) ?_
      refine vl_val (os_move rfl) ?_
      refine vl_val (os_ixa Try.underlying124 Try.sizeOf50 rfl rfl (i := k) rfl (by omega)) ?_
      refine vl_unit (ou_store Try.sizeOf50 rfl rfl rfl (hB.cell hu) (hB.free _)) ?_
      have hs := hB.set k (.int .u32 ((crcTab k).toNat : Int))
      rw [crcCellsTo_set k (by omega)] at hs
      refine vl_nil ?_
      refine v_region ?_
      refine vl_val (os_addi rfl rfl (by omega)) ?_
      refine vl_val (os_move rfl) ?_
      refine vl_nil ?_
      exact ⟨k + 1, ⟨rfl, trivial⟩, ⟨rfl, trivial⟩, ⟨by omega, hs, below_set hb (Nat.le_refl _) _ _⟩, by dsimp only; omega⟩
  · obtain rfl : k = 256 := by omega
    refine v_exit ?_
    refine v_seq ?_
    refine v_region ?_
    refine vl_val (os_loadB Try.underlying124 rfl (by rw [crcCellsTo_len]; kernel_rfl) rfl hB) ?_
    refine vl_unit (ou_storeB (by rw [crcCellsTo_len]; kernel_rfl) rfl rfl hB rfl crcCells_one) ?_
    have hE := setRow_bk hB (crcCellsTo 256)
    refine vl_nil ?_
    refine v_ret ?_
    exact post_cell rfl rfl Try.underlying124 rfl (by rw [crcCellsTo_len]; kernel_rfl) hE ⟨rfl, below_setRow hb (Nat.le_refl _) _⟩

/-- each number is a byte -/
def AllB (zs : List Int) : Prop := ∀ z ∈ zs, 0 ≤ z ∧ z ≤ 255
theorem AllB.at_ {zs : List Int} (h : AllB zs) (k : Nat) : 0 ≤ zs.getD k 0 ∧ zs.getD k 0 ≤ 255 := by
  by_cases hk : k < zs.length
  · simp [hk]; exact h _ (List.getElem_mem _)
  · simp [hk]
theorem crcRun_take {s : BitVec 32} {zs : List Int} {k : Nat} (hk : k < zs.length) : crcRun s (zs.take (k + 1)) = crcStep (crcRun s (zs.take k)) (zs.getD k 0) := by
  rw [List.take_succ_eq_append_getElem hk, crcRun_app]
  simp [crcRun, hk]

theorem sum_run (g : Nat) (s : BitVec 32) (A : Option Addr) (n c : Nat) (zs : List Int) (w : World) (hB : Bk w g crcCells 124) (ha : Rd w .u8 A zs) (hn : n = zs.length) (hn' : n ≤ 9223372036854775807) (hz : AllB zs) :
    Gives Try.prog 86 #[.pointer (some ⟨g, 0, none⟩), .int .u32 (s.toNat : Int), .slice A n c] w fun v w' => v = .int .u32 ((crcRun s zs).toNat : Int) ∧ w' = w := by
  refine gives_enter Try.call86 Try.func86 rfl rfl rfl (by kernel_rfl) ?_
  refine v_seq ?_
  refine v_region ?_
  refine vl_val (os_assign rfl) ?_
  refine vl_nil ?_
  refine v_seq ?_
  refine v_seq ?_
  refine v_region ?_
  refine vl_val (os_move rfl) ?_
  refine vl_val (os_len Try.underlying22 rfl) ?_
  refine vl_val (os_move rfl) ?_
  refine vl_nil ?_
  refine v_block ?_
  refine v_loop [(0, _), (9, _), (10, _)] (fun (k : Nat) => [(1, .int .u32 ((crcRun s (zs.take k)).toNat : Int)), (11, .int .i64 k)]) (fun k w' => k ≤ n ∧ w' = w) (fun k => n - k) (0) ⟨rfl, rfl, rfl, trivial⟩ ⟨rfl, rfl, trivial⟩ (⟨by omega, rfl⟩) ?_
  rintro k w ⟨hk, rfl⟩
  refine v_seq ?_
  refine v_region ?_
  refine vl_val (os_lss rfl rfl) ?_
  refine vl_nil ?_
  refine v_seq ?_
  refine v_cond_d rfl (fun hlt => ?_) (fun hlt => ?_)
  · obtain ⟨b1, o1, rfl, c1⟩ := ha.at_ (i := k) (by omega)
    have hb := hz.at_ k
    have e1 : (zs.getD k 0) = ((BitVec.ofInt 8 (zs.getD k 0)).toNat : Int) := (u8_int hb.1 hb.2).symm
    have hst := crcRun_take (s := s) (zs := zs) (k := k) (by omega)
    generalize crcRun s (zs.take k) = S at *
    refine v_skip ?_
    refine v_seq ?_
    refine v_block ?_
    refine v_seq ?_
    refine v_region ?_
    refine vl_val (os_ix Try.underlying22 Try.sizeOf5 rfl rfl (i := k) (by omega) (by omega)) ?_
    refine vl_val (os_load Try.isAgg5 rfl (c1)) ?_
    refine vl_val (os_assign rfl) ?_
    refine vl_nil ?_
    refine v_region ?_
    refine vl_val (os_move rfl) ?_
    refine vl_val (os_shr32 S 8 rfl rfl rfl rfl) ?_
    refine vl_val (os_move rfl) ?_
    refine vl_val (os_move rfl) ?_
    refine vl_val (os_low8 S Try.underlying50 Try.underlying5 rfl rfl) ?_
    refine vl_val (os_move rfl) ?_
    refine vl_val (os_xor8 (S.setWidth 8) (BitVec.ofInt 8 (zs.getD k 0)) rfl rfl rfl e1) ?_
    refine vl_val (os_nilCheck rfl) ?_
    refine vl_val (os_ixa Try.underlying124 Try.sizeOf50 rfl rfl (i := (S.setWidth 8 ^^^ BitVec.ofInt 8 (zs.getD k 0)).toNat) rfl (BitVec.isLt _)) ?_
    refine vl_val (os_load Try.isAgg50 rfl (hB.cell (crcCells_at (BitVec.isLt _)))) ?_
    refine vl_val (os_xor32 (S >>> 8) (crcTab (S.setWidth 8 ^^^ BitVec.ofInt 8 (zs.getD k 0)).toNat) rfl rfl rfl rfl) ?_
    refine vl_val (os_assign rfl) ?_
    refine vl_nil ?_
    refine v_region ?_
    refine vl_val (os_addi rfl rfl (by omega)) ?_
    refine vl_val (os_move rfl) ?_
    refine vl_nil ?_
    exact ⟨k + 1, ⟨rfl, rfl, rfl, trivial⟩, ⟨by rw [hst]; rfl, rfl, trivial⟩, ⟨by omega, rfl⟩, by dsimp only; omega⟩
  · refine v_exit ?_
    refine v_seq ?_
    refine v_region ?_
    refine vl_val (os_move rfl) ?_
    refine vl_val (os_assign rfl) ?_
    refine vl_nil ?_
    refine v_ret ?_
    exact post_ret rfl rfl (⟨by rw [List.take_of_length_le (by omega)], rfl⟩)

theorem sum_Of (A : Option Addr) (n c : Nat) (ls : List (List Int)) (w : World) (ha : RdS w .u8 A ls) (hn : n = ls.length) (hn' : n ≤ 9223372036854775807) (hz : ∀ l ∈ ls, AllB l) :
    Gives Try.prog 56 #[.slice A n c] w fun v w' => v = .int .u32 ((crcOf ls).toNat : Int) ∧ Below w.heap.size w w' := by
  refine gives_enter Try.call56 Try.func56 rfl rfl rfl (by kernel_rfl) ?_
  refine v_seq ?_
  refine v_region ?_
  refine vl_val (os_assign rfl) ?_
  refine vl_nil ?_
  refine v_seq ?_
  refine v_region ?_
  refine vl_call (sum_filled w) rfl ?_
  rintro v w1 ⟨rfl, hb1⟩
  refine vl_val (os_allocB Try.zeroValue124 zc_table) ?_
  have hB0 := bk_new w1 (crcCellsTo 0) 124
  have hb2 : Below w.heap.size w (w1.alloc (.cells (crcCellsTo 0).toArray 124)) := hb1.alloc hb1.size _
  refine vl_unit (ou_storeB (by rw [show crcCells.length = 256 from crcCellsTo_len _]; kernel_rfl) rfl rfl hB0 ((crcCellsTo_len 0).trans (crcCellsTo_len 256).symm) crcCells_one) ?_
  have hB := setRow_bk hB0 crcCells
  have hb3 := below_setRow hb2 hb1.size crcCells.toArray
  have ha3 := ha.keep hb3
  generalize (w1.alloc (.cells (crcCellsTo 0).toArray 124)).setRow w1.heap.size crcCells.toArray = w3 at *
  refine vl_nil ?_
  refine v_seq ?_
  refine v_region ?_
  refine vl_val (os_assign rfl) ?_
  refine vl_nil ?_
  refine v_seq ?_
  refine v_seq ?_
  refine v_region ?_
  refine vl_val (os_move rfl) ?_
  refine vl_val (os_len Try.underlying37 rfl) ?_
  refine vl_val (os_move rfl) ?_
  refine vl_nil ?_
  refine v_block ?_
  refine v_loop [(3, _), (8, _), (9, _)] (fun (k : Nat) => [(4, .int .u32 (((ls.take k).foldl crcRun (~~~ 0#32)).toNat : Int)), (10, .int .i64 k)]) (fun k w' => k ≤ n ∧ w' = w3) (fun k => n - k) (0) ⟨rfl, rfl, rfl, trivial⟩ ⟨rfl, rfl, trivial⟩ (⟨by omega, rfl⟩) ?_
  rintro k w3 ⟨hk, rfl⟩
  refine v_seq ?_
  refine v_region ?_
  refine vl_val (os_lss rfl rfl) ?_
  refine vl_nil ?_
  refine v_seq ?_
  refine v_cond_d rfl (fun hlt => ?_) (fun hlt => ?_)
  · obtain ⟨b1, o1, Ai, ci, rfl, c1, r1, l1, l2⟩ := ha3.at_ (i := k) (by omega)
    have hst : (ls.take (k + 1)).foldl crcRun (~~~ 0#32) = crcRun ((ls.take k).foldl crcRun (~~~ 0#32)) (ls.getD k []) := by
      rw [List.take_succ_eq_append_getElem (by omega), List.foldl_append]; simp [show k < ls.length by omega]
    refine v_skip ?_
    refine v_seq ?_
    refine v_block ?_
    refine v_seq ?_
    refine v_region ?_
    refine vl_val (os_ix Try.underlying37 Try.sizeOf22 rfl rfl (i := k) (by omega) (by omega)) ?_
    refine vl_val (os_load Try.isAgg22 rfl (c1)) ?_
    refine vl_val (os_assign rfl) ?_
    refine vl_nil ?_
    refine v_region ?_
    refine vl_val (os_move rfl) ?_
    refine vl_val (os_move rfl) ?_
    refine vl_call (sum_run _ _ Ai _ ci (ls.getD k []) w3 hB r1 rfl (by omega) (by rw [List.getD_eq_getElem?_getD, List.getElem?_eq_getElem (by omega)]; exact hz _ (List.getElem_mem _))) rfl ?_
    rintro v w3 ⟨rfl, rfl⟩
    refine vl_val (os_assign rfl) ?_
    refine vl_nil ?_
    refine v_region ?_
    refine vl_val (os_addi rfl rfl (by omega)) ?_
    refine vl_val (os_move rfl) ?_
    refine vl_nil ?_
    exact ⟨k + 1, ⟨rfl, rfl, rfl, trivial⟩, ⟨by rw [hst]; rfl, rfl, trivial⟩, ⟨by omega, rfl⟩, by dsimp only; omega⟩
  · refine v_exit ?_
    refine v_seq ?_
    refine v_region ?_
    refine vl_val (os_move rfl) ?_
    refine vl_val (os_com32 ((ls.take k).foldl crcRun (~~~ 0#32)) rfl rfl) ?_
    refine vl_val (os_assign rfl) ?_
    refine vl_nil ?_
    refine v_ret ?_
    exact post_ret rfl rfl (⟨by rw [List.take_of_length_le (by omega)]; rfl, hb3⟩)
end Go.Proofs.Ytlfkhnchceoinaa

/- Structs of two numbers: how they compare; the law's kit: lists of such that are lent, with marks behind their ends; whether they, and the marks, are still as they were. -/
namespace Go.Proofs.Ytlfkhnchceoinaa
open Go.RowKit
set_option linter.unusedVariables false

section
variable {P : Program} {n : Cx} {fr : Fr} {w w' : World} {ty : TypeId} {x y z : Operand} {v u : Value} {T T2 e : TypeId} {op : Op}
theorem run_part_int {t : TypeId} {cs : Array Value} {i : Nat} {v : Value} (h : ∀ w, (isAgg t).run P w = .ok false w) (hv : cs[i]? = some v) (w : World) : (part t cs i).run P w = .ok v w := by
  simp [part, h, hv]
theorem run_eqS2 {tI : TypeId} {x1 x2 y1 y2 : Int} (d : Nat) (hu : P.underlying T = some (.struct (P.fieldsOf T))) (hp : P.stoodInHeld T = false)
    (hf : (P.fieldsOf T).toList.map (fun f => (f.name == "_", f.type, f.offset)) = [(false, tI, 0), (false, tI, 1)]) (hI : P.underlying tI = some (.int .i64)) (hA : ∀ w, (isAgg tI).run P w = .ok false w) :
    (Op.equalIn (d + 1 + 1) T (.agg #[.int .i64 x1, .int .i64 x2]) (.agg #[.int .i64 y1, .int .i64 y2])).run P w = .ok (decide (x1 = y1 ∧ x2 = y2)) w := by
  rw [run_equalIn_agg (P := P) w (d + 1) T _ _ hu hp]
  obtain ⟨f1, f2, e, n1, t1, o1, n2, t2, o2⟩ : ∃ f1 f2, (P.fieldsOf T).toList = [f1, f2] ∧ f1.name ≠ "_" ∧ f1.type = tI ∧ f1.offset = 0 ∧ f2.name ≠ "_" ∧ f2.type = tI ∧ f2.offset = 1 := by
    match h : (P.fieldsOf T).toList with
    | [] => rw [h] at hf; simp at hf
    | [f1] => rw [h] at hf; simp at hf
    | f1 :: f2 :: f3 :: r => rw [h] at hf; simp at hf
    | [f1, f2] =>
      rw [h] at hf
      simp at hf
      exact ⟨f1, f2, rfl, hf.1.1, hf.1.2.1, hf.1.2.2, hf.2.1, hf.2.2.1, hf.2.2.2⟩
  rw [e]
  have q1 : ∀ w, (part tI #[.int .i64 x1, .int .i64 x2] 0).run P w = .ok (.int .i64 x1) w := run_part_int hA rfl
  have q2 : ∀ w, (part tI #[.int .i64 x1, .int .i64 x2] 1).run P w = .ok (.int .i64 x2) w := run_part_int hA rfl
  have q3 : ∀ w, (part tI #[.int .i64 y1, .int .i64 y2] 0).run P w = .ok (.int .i64 y1) w := run_part_int hA rfl
  have q4 : ∀ w, (part tI #[.int .i64 y1, .int .i64 y2] 1).run P w = .ok (.int .i64 y2) w := run_part_int hA rfl
  have e1 := fun (a b : Int) (w : World) => run_equalIn_int (P := P) w d tI .i64 .i64 a b hI
  simp only [Op.eqFields, ne_eq, n1, n2, not_false_eq_true, if_true, t1, o1, t2, o2, Sem.run_bind, q1, q2, q3, q4, e1, Result.andThen_ok, Sem.run_ite, Sem.run_pure]
  by_cases c1 : x1 = y1 <;> by_cases c2 : x2 = y2 <;> simp [c1, c2]

/-- two structs of two integers each -/
theorem os_eqlS2 {tI : TypeId} {x1 x2 y1 y2 : Int} (hg : P.eqGuardType P.depth T = false) (hu : P.underlying T = some (.struct (P.fieldsOf T))) (hp : P.stoodInHeld T = false)
    (hf : (P.fieldsOf T).toList.map (fun f => (f.name == "_", f.type, f.offset)) = [(false, tI, 0), (false, tI, 1)]) (hI : P.underlying tI = some (.int .i64)) (hA : ∀ w, (isAgg tI).run P w = .ok false w)
    (hx : Fr.ev fr x = some (.agg #[.int .i64 x1, .int .i64 x2])) (hy : Fr.ev fr y = some (.agg #[.int .i64 y1, .int .i64 y2])) :
    OS P n (.binOp .eql T x y T2) ty fr w (.bool (decide (x1 = y1 ∧ x2 = y2))) w := os_of fun a ha => by
  have h1 := run_eqGuard_agg (P := P) w .eql T x y #[.int .i64 x1, .int .i64 x2] #[.int .i64 y1, .int .i64 y2] hg
  have h2 : (Op.equalIn 10000 T (.agg #[.int .i64 x1, .int .i64 x2]) (.agg #[.int .i64 y1, .int .i64 y2])).run P w = .ok (decide (x1 = y1 ∧ x2 = y2)) w := by
    exact run_eqS2 9998 hu hp hf hI hA
  have h3 := run_eql_struct (P := P) w T #[.int .i64 x1, .int .i64 x2] #[.int .i64 y1, .int .i64 y2]
  rw [h2] at h3
  simp [execOp, ha.ev hx, ha.ev hy, h1, h3, Result.andThen]

/-- make([]T, 0, n) of structs -/
theorem ot_make0_p {k k2 : IntKind} {m c : Int} {l s : Nat} {z0 : Value} {bytes : Nat} (hT : P.underlying T = some (.slice e)) (hi : TyInfo P e z0 s bytes) (hx : Fr.ev fr x = some (.int k m)) (hy : Fr.ev fr y = some (.int k2 c)) (hm : m = 0) (hc : c = (l : Int))
    (hb : bytes * l ≤ 281474976710656) (hl : l ≤ maxLen) (B : Nat) (hB : B ≤ w.heap.size) : OT P n (.makeSlice T x y) ty fr w fun v w' => v = .slice (some ⟨w.heap.size, 0, none⟩) 0 l ∧ OwnP w' B e s v [] ∧ w.grownBy w' none := by
  subst hm; subst hc
  obtain ⟨i, h1, h2, h3, h4⟩ := info_parts hi
  obtain ⟨w', hr, ho, hg⟩ := run_make_own (P := P) w B T e i z0 s hT h1 h2 h3 k k2 l (by rw [h4]; exact hb) hl hB
  exact ot_of fun a ha => ⟨_, w', by simp [execOp, ha.ev hx, ha.ev hy, hr, Result.andThen], rfl, ⟨fun c hc => (by cases hc), ho⟩, hg⟩
/-- append(s, x...) of structs; x may be empty -/
theorem ot_append_pn {A : Option Addr} {m c s : Nat} {ps news : List (List Value)} {z0 : Value} {bytes : Nat} {B : Nat} (hT : P.underlying T = some (.slice e)) (hi : TyInfo P e z0 s bytes) (hz : z0.cells.size = s) (hs0 : 0 < s) (hx : Fr.ev fr x = some v) (hy : Fr.ev fr y = some (.slice A m c))
    (ho : OwnP w B e s v ps) (hr : RdP w s A news) (hnl : ∀ c ∈ news, c.length = s) (hm : m = news.length) (h1 : ∀ c ∈ news, ∀ u ∈ c, u.oneCell' = true) (hb : (ps.length + m) * bytes ≤ 140737488355328) (hl : ps.length + m ≤ maxLen) (hB : B ≤ w.heap.size) :
    OT P n (.call ⟨.builtin .append, #[x, y], #[T, T]⟩) ty fr w fun v' w' => OwnP w' B e s v' (ps ++ news) ∧ w.grownBy w' v.ownBlock := by
  by_cases h0 : 0 < news.length
  · exact (ot_append_p hT hi hz hs0 hx hy ho hr hnl hm h0 h1 hb hl hB).mono fun v w' ⟨a, b, _⟩ => ⟨a, b⟩
  · have hnil : news = [] := List.eq_nil_of_length_eq_zero (by omega)
    subst hnil
    have hm0 : m = 0 := by simpa using hm
    subst hm0
    obtain ⟨i, i1, i2, i3, i4⟩ := info_parts hi
    have hrun : (Builtin.append_ #[T, T] ty #[v, .slice A 0 c]).run P w = .ok v w := by
      rcases ho.2.2 with ⟨rfl, h2⟩ | ⟨g, cap, cur, rfl, _, _, hnc, _⟩
      · cases A <;> simp [Builtin.append_, run_underlying hT, sizeOf, typeInfo, i1, Builtin.lenOf, Builtin.firstCells, loadCells, loadCellsFrom]
      · cases A <;> simp [Builtin.append_, run_underlying hT, sizeOf, typeInfo, i1, Builtin.lenOf, Builtin.firstCells, hnc, storeCells, loadCells, loadCellsFrom]
    refine ot_of fun a ha => ⟨v, w, by simp [execOp, resolve, invoke, builtin, ha.ev hx, ha.ev hy, hrun, Result.andThen], by simpa using ho, World.grownBy.refl _ _⟩
end

def marksP (n : Nat) : List (Int × Int) := (List.range n).map fun (i : Nat) => (markZ 1 (i : Int), 0)
theorem marksP_len (n : Nat) : (marksP n).length = n := by simp [marksP]
theorem marksP_succ (n : Nat) : marksP (n + 1) = marksP n ++ [(markZ 1 n, 0)] := by simp [marksP, List.range_succ]
theorem marksP_at {n i : Nat} (hi : i < n) : (marksP n).getD i (0, 0) = (markZ 1 i, 0) := by simp [marksP, hi]
/-- v is a list of structs of two numbers that the kit has lent -/
def LentW (w : World) (B : Nat) (t : TypeId) (v : Value) (ps : List (Int × Int)) : Prop :=
  ∃ g C, v = .slice (some ⟨g, 0, none⟩) ps.length C ∧ ps.length + 12 ≤ C ∧ OwnP w B t 2 (.slice (some ⟨g, 0, none⟩) (ps ++ marksP 12).length C) ((ps ++ marksP 12).map rowC)
theorem LentW.keep {w w' B t v ps} (h : LentW w B t v ps) (hb : Below w.heap.size w w') : LentW w' B t v ps := by
  obtain ⟨g, C, e, hc, ho⟩ := h
  exact ⟨g, C, e, hc, OwnP.keepAll ho hb⟩
theorem LentW.led {w w' B t v ps} (h : LentW w B t v ps) (hb : LeD w w') : LentW w' B t v ps := by
  obtain ⟨g, C, e, hc, ho⟩ := h
  exact ⟨g, C, e, hc, OwnP.led ho hb⟩
theorem OwnP.rdp {w B t s A n c ps} (h : OwnP w B t s (.slice A n c) ps) : RdP w s A ps := by
  obtain ⟨A', c', e, _, _, hr⟩ := h.form
  cases e
  exact hr
theorem OwnP.row {w B t s v ps} (h : OwnP w B t s v ps) (h0 : 0 < ps.length) : ∃ g c, v = .slice (some ⟨g, 0, none⟩) ps.length c ∧ ps.length ≤ c ∧ c ≤ maxLen := by
  rcases h.2.2 with ⟨rfl, h1⟩ | ⟨g, cap, cur, rfl, hB, hg, hn, hm, hs, ht⟩
  · omega
  · exact ⟨g, cap, rfl, hn, hm⟩
theorem LentW.form {w B t v ps} (h : LentW w B t v ps) : ∃ g C, v = .slice (some ⟨g, 0, none⟩) ps.length C ∧ ps.length + 12 ≤ C ∧ B ≤ g ∧ g < w.heap.size ∧ RdP w 2 (some ⟨g, 0, none⟩) (ps.map rowC) := by
  obtain ⟨g, C, e, hc, ho⟩ := h
  have h1 := OwnP.lt ho g rfl
  have h2 := (OwnP.rdp ho).take ps.length
  rw [List.map_append, show (ps.map rowC ++ (marksP 12).map rowC).take ps.length = ps.map rowC by rw [show ps.length = (ps.map rowC).length by simp, List.take_left]] at h2
  exact ⟨g, C, e, hc, h1.1, h1.2, h2⟩

theorem lent_b0 {n : Nat} (h : n ≤ 100000000) : 16 * (n + 12) ≤ 281474976710656 := by omega
theorem lent_b1 {n : Nat} (h : n ≤ 100000000) : n + 12 ≤ maxLen := by simp [maxLen]; omega
theorem lent_b2 {n i : Nat} (h : n ≤ 100000000) (hi : i < 12) : (n + i + 1) * 16 ≤ 140737488355328 := by omega
theorem lent_b3 {n i : Nat} (h : n ≤ 100000000) (hi : i < 12) : n + i + 1 ≤ maxLen := by simp [maxLen]; omega
theorem lent_b4 {n : Nat} (h : n ≤ 100000000) : n * 16 ≤ 140737488355328 := by omega
theorem lent_b5 {n : Nat} (h : n ≤ 100000000) : n ≤ maxLen := by simp [maxLen]; omega
theorem ti_wTable : TyInfo Try.prog 41 (.agg #[.int .i64 0, .int .i64 0]) 2 16 := by unfold TyInfo; kernel_rfl
theorem kit_markRow (k i : Int) (w : World) (hk : 0 ≤ k ∧ k ≤ 1000000000) (hi : 0 ≤ i ∧ i ≤ 1000000000000000) : Gives Try.prog 60 #[.int .i64 k, .int .i64 i] w fun v w' => v = .agg #[.int .i64 (markZ k i), .int .i64 0] ∧ Below w.heap.size w w' := by
  have hB0 := bk_new w [.int .i64 0, .int .i64 0] 41
  have hb0 : Below w.heap.size w (w.alloc (.cells [Value.int .i64 0, .int .i64 0].toArray 41)) := (Below.refl _ w).alloc (Nat.le_refl _) _
  refine gives_enter Try.call60 Try.func60 rfl rfl rfl (by kernel_rfl) ?_
  refine v_seq ?_
  refine v_region ?_
  refine vl_val (os_allocB Try.zeroValue41 (zc := _) (cs := [.int .i64 0, .int .i64 0]) rfl) ?_
  refine vl_nil ?_
  refine v_seq ?_
  refine v_region ?_
  refine vl_val (os_move rfl) ?_
  refine vl_val (os_move rfl) ?_
  refine vl_call (kit_mark k i _ hk hi) rfl ?_
  rintro v1 w1 ⟨rfl, rfl⟩
  refine vl_val (os_build (cs := [.int .i64 (markZ k i), .int .i64 0]) rfl (by kernel_rfl)) ?_
  refine vl_unit (ou_storeB (by kernel_rfl) rfl rfl hB0 rfl rfl) ?_
  refine vl_nil ?_
  refine v_ret ?_
  exact post_cell rfl rfl Try.underlying41 rfl (by kernel_rfl) (setRow_bk hB0 [.int .i64 (markZ k i), .int .i64 0]) ⟨rfl, below_setRow hb0 (Nat.le_refl _) _⟩
set_option maxHeartbeats 1000000 in
theorem kit_LentTable (A : Option Addr) (n c : Nat) (ps : List (Int × Int)) (w : World) (ha : RdP w 2 A (ps.map rowC)) (hn : n = ps.length) (hb : n ≤ 100000000) : Gives Try.prog 31 #[.slice A n c] w fun v w' => LentW w' w.heap.size 41 v ps ∧ Below w.heap.size w w' := by
  refine gives_enter Try.call31 Try.func31 rfl rfl rfl (by kernel_rfl) ?_
  refine v_seq ?_
  refine v_region ?_
  refine vl_val (os_assign rfl) ?_
  refine vl_nil ?_
  refine v_seq ?_
  refine v_region ?_
  refine vl_val (os_move rfl) ?_
  refine vl_val (os_len Try.underlying26 rfl) ?_
  refine vl_val (os_addi rfl rfl (by omega)) ?_
  refine vl_some (ot_make0_p (l := n + 12) Try.underlying26 ti_wTable rfl rfl rfl rfl (lent_b0 hb) (lent_b1 hb) w.heap.size (Nat.le_refl _)) ?_
  rintro v1 w1 ⟨rfl, ho, hg⟩
  have hb1 : Below w.heap.size w w1 := (Below.refl _ _).grown hg (Nat.le_refl _) (fun k hk => by cases hk)
  refine vl_val (os_assign rfl) ?_
  refine vl_nil ?_
  refine v_seq ?_
  refine v_region ?_
  refine vl_val (os_move rfl) ?_
  refine vl_val (os_move rfl) ?_
  refine vl_some (ot_append_pn Try.underlying26 ti_wTable rfl (by decide) rfl rfl ho (ha.keep hb1) (rowC_len _) (by simp [hn]) (rowC_one _) (by simpa using lent_b4 hb) (by simpa using lent_b5 hb) hb1.size) ?_
  rintro v2 w2 ⟨ho2, hg2⟩
  have hb2 := OwnP.below hb1 ho hg2 (Nat.le_refl _) hb1.size
  refine vl_val (os_assign rfl) ?_
  refine vl_nil ?_
  refine v_seq ?_
  refine v_seq ?_
  refine v_region ?_
  refine vl_val (os_assign rfl) ?_
  refine vl_nil ?_
  refine v_block ?_
  refine v_loop2 [(0, _)] (fun (v : Value) (i : Nat) => [(3, v), (4, .int .i64 i)]) (fun v i w' => i ≤ 12 ∧ OwnP w' w.heap.size 41 2 v ((ps ++ marksP i).map rowC) ∧ Below w.heap.size w w') (fun v i => 12 - i) (v2) (0) ⟨rfl, trivial⟩ ⟨rfl, rfl, trivial⟩ (⟨by omega, by simpa [marksP] using ho2, hb2⟩) ?_
  rintro v i w3 ⟨hi, ho3, hb3⟩
  refine v_seq ?_
  refine v_seq ?_
  refine v_region ?_
  refine vl_val (os_move rfl) ?_
  refine vl_val (os_lss rfl rfl) ?_
  refine vl_nil ?_
  refine v_cond_d rfl (fun h => ?_) (fun h => ?_)
  · refine v_skip ?_
    refine v_seq ?_
    refine v_block ?_
    refine v_region ?_
    refine vl_val (os_move rfl) ?_
    refine vl_val (os_move rfl) ?_
    refine vl_call (kit_markRow 1 i w3 (by omega) (by omega)) rfl ?_
    rintro v4 w4 ⟨rfl, hb34⟩
    have hb4 := hb3.trans (hb34.mono hb3.size)
    have eln : ((ps ++ marksP i).map rowC).length = n + i := by simp [marksP_len, hn]
    refine vl_val (os_litS (css := [[.int .i64 (markZ 1 i), .int .i64 0]]) Try.underlying26 Try.sizeOf41 Try.zeroValue41 rfl rfl (by intro c hc; simp at hc; subst hc; rfl) (by decide) (by decide) (by decide)) ?_
    refine vl_some (ot_append_pn Try.underlying26 ti_wTable rfl (by decide) rfl rfl (OwnP.alloc (OwnP.keepAll ho3 hb34) _) (rdp_alloc _ _ _ (by intro c hc; simp at hc; subst hc; rfl)) (by intro c hc; simp at hc; subst hc; rfl) rfl (by intro c hc u hu; simp at hc; subst hc; simp at hu; rcases hu with rfl | rfl <;> rfl) (by rw [eln]; exact lent_b2 hb (by omega)) (by rw [eln]; exact lent_b3 hb (by omega)) (hb4.alloc hb4.size _).size) ?_
    rintro v5 w5 ⟨ho5, hg5⟩
    refine vl_val (os_assign rfl) ?_
    refine vl_nil ?_
    refine v_region ?_
    refine vl_val (os_move rfl) ?_
    refine vl_val (os_addi rfl rfl (by omega)) ?_
    refine vl_val (os_assign rfl) ?_
    refine vl_nil ?_
    exact ⟨⟨v5, i + 1⟩, ⟨rfl, trivial⟩, ⟨rfl, rfl, trivial⟩, ⟨by omega, by rw [marksP_succ, ← List.append_assoc, List.map_append]; exact ho5, OwnP.below (hb4.alloc hb4.size _) (OwnP.alloc (OwnP.keepAll ho3 hb34) _) hg5 (Nat.le_refl _) (hb4.alloc hb4.size _).size⟩, by dsimp only; omega⟩
  · obtain rfl : i = 12 := by omega
    have h12 : 0 < ((ps ++ marksP 12).map rowC).length := by simp [marksP_len]
    obtain ⟨g, C, rfl, h1, h2⟩ := OwnP.row ho3 h12
    have e12 : ((ps ++ marksP 12).map rowC).length = n + 12 := by simp [marksP_len, hn]
    rw [e12] at h1
    refine v_exit ?_
    refine v_seq ?_
    refine v_region ?_
    refine vl_val (os_move rfl) ?_
    refine vl_val (os_move rfl) ?_
    refine vl_val (os_len Try.underlying26 rfl) ?_
    refine vl_val (os_slice_h Try.underlying26 Try.sizeOf41 rfl rfl (h := n) (by omega) (by omega)) ?_
    refine vl_val (os_assign rfl) ?_
    refine vl_nil ?_
    refine v_ret ?_
    exact post_ret rfl rfl (⟨⟨g, C, by rw [hn], by omega, by simpa [marksP_len] using ho3⟩, hb3⟩)
set_option maxHeartbeats 1000000 in
theorem kit_KeptTable (v : Value) (B : Nat) (A : Option Addr) (n c : Nat) (ps : List (Int × Int)) (w : World) (hv : LentW w B 41 v ps) (ha : RdP w 2 A (ps.map rowC)) (hn : n = ps.length) (hb : n ≤ 100000000) : Gives Try.prog 44 #[v, .slice A n c] w fun v w' => v = .bool true ∧ Below w.heap.size w w' := by
  obtain ⟨g, C, rfl, hC, ho⟩ := hv
  refine gives_enter Try.call44 Try.func44 rfl rfl rfl (by kernel_rfl) ?_
  refine v_seq ?_
  refine v_region ?_
  refine vl_val (os_assign rfl) ?_
  refine vl_nil ?_
  refine v_seq ?_
  refine v_seq ?_
  refine v_region ?_
  refine vl_val (os_move rfl) ?_
  refine vl_val (os_len Try.underlying26 rfl) ?_
  refine vl_val (os_move rfl) ?_
  refine vl_val (os_len Try.underlying26 rfl) ?_
  refine vl_val (os_neq rfl rfl) ?_
  refine vl_nil ?_
  refine v_cond_no rfl (by omega) ?_
  refine v_skip ?_
  refine v_seq ?_
  refine v_region ?_
  refine vl_val (os_move rfl) ?_
  refine vl_val (os_move rfl) ?_
  refine vl_val (os_len Try.underlying26 rfl) ?_
  refine vl_val (os_addi rfl rfl (by omega)) ?_
  refine vl_val (os_slice_h Try.underlying26 Try.sizeOf41 rfl rfl (h := n + 12) (by omega) (by omega)) ?_
  refine vl_val (os_assign rfl) ?_
  refine vl_nil ?_
  refine v_seq ?_
  refine v_seq ?_
  refine v_region ?_
  refine vl_val (os_assign rfl) ?_
  refine vl_nil ?_
  refine v_block ?_
  refine v_loop [(1, _), (5, _)] (fun (i : Nat) => [(6, .int .i64 i)]) (fun i w' => i ≤ n + 12 ∧ Below w.heap.size w w') (fun i => n + 12 - i) (0) ⟨rfl, rfl, trivial⟩ ⟨rfl, trivial⟩ (⟨by omega, Below.refl _ _⟩) ?_
  rintro i w1 ⟨hi, hq⟩
  refine v_seq ?_
  refine v_seq ?_
  refine v_region ?_
  refine vl_val (os_move rfl) ?_
  refine vl_val (os_move rfl) ?_
  refine vl_val (os_len Try.underlying26 rfl) ?_
  refine vl_val (os_lss rfl rfl) ?_
  refine vl_nil ?_
  refine v_cond_d rfl (fun h => ?_) (fun h => ?_)
  · have hr := OwnP.rdp (OwnP.keepAll ho hq)
    obtain ⟨bg, og, eg, c1, c2, hrc⟩ := RdP.at2 hr (i := i) (by rw [List.length_append, marksP_len]; omega)
    cases eg
    rcases Nat.lt_or_ge i n with hlt | hge
    · obtain ⟨bA, oA, rfl, d1, d2, hra⟩ := RdP.at2 (show RdP w1 2 A (ps.map rowC) from ha.keep hq) (i := i) (by omega)
      rw [show (ps ++ marksP 12).getD i (0, 0) = ps.getD i (0, 0) by simp [List.getElem?_append, show i < ps.length by omega]] at hrc
      refine v_skip ?_
      refine v_seq ?_
      refine v_block ?_
      refine v_seq ?_
      refine v_region_t LeG _ mixed (by kernel_rfl) lee_g (leg_start _) ?_
      refine vt_val (fun w hw => os_move rfl) ?_
      refine vt_val (fun w hw => os_move rfl) ?_
      refine vt_val (fun w hw => os_len Try.underlying26 rfl) ?_
      refine vt_val (fun w hw => os_t (os_lss rfl rfl) (by omega)) ?_
      refine vt_val (fun w hw => os_move rfl) ?_
      refine vt_valg rfl (fun w hw => os_move rfl) ?_
      refine vt_valg rfl (fun w hw => os_move rfl) ?_
      refine vt_valg rfl (fun w hw => os_ixs Try.underlying26 Try.sizeOf41 rfl rfl (i := i) (by omega) (by omega)) ?_
      refine vt_valg rfl (fun w hw => os_loadP Try.underlying41 rfl (by kernel_rfl) rfl (hrc.keep hw)) ?_
      refine vt_valg rfl (fun w hw => os_move rfl) ?_
      refine vt_valg rfl (fun w hw => os_move rfl) ?_
      refine vt_valg rfl (fun w hw => os_ixs Try.underlying26 Try.sizeOf41 rfl rfl (i := i) (by omega) (by omega)) ?_
      refine vt_valg rfl (fun w hw => os_loadP Try.underlying41 rfl (by kernel_rfl) rfl (hra.keep hw)) ?_
      refine vt_valg rfl (fun w hw => os_t (os_eqlS2 Try.eqGuardType41 (by kernel_rfl) Try.stoodInHeld41 (by kernel_rfl) Try.underlying3 Try.isAgg3 rfl rfl) ((by simp))) ?_
      refine vt_valg rfl (fun w hw => os_not rfl) ?_
      refine vt_val (fun w hw => os_pick_t rfl rfl) ?_
      refine vt_val (fun w hw => os_move rfl) ?_
      refine vt_valg rfl (fun w hw => os_move rfl) ?_
      refine vt_valg rfl (fun w hw => os_move rfl) ?_
      refine vt_valg rfl (fun w hw => os_len Try.underlying26 rfl) ?_
      refine vt_valg rfl (fun w hw => os_f (os_geq rfl rfl) (by omega)) ?_
      refine vt_valg rfl (fun w hw => os_move rfl) ?_
      refine vt_skip rfl rfl ?_
      refine vt_skip rfl rfl ?_
      refine vt_skip rfl rfl ?_
      refine vt_skip rfl rfl ?_
      refine vt_skip rfl rfl ?_
      refine vt_skip rfl rfl ?_
      refine vt_skip rfl rfl ?_
      refine vt_skip rfl rfl ?_
      refine vt_skip rfl rfl ?_
      refine vt_skip rfl rfl ?_
      refine vt_skip rfl rfl ?_
      refine vt_valg rfl (fun w hw => os_pick_f rfl rfl) ?_
      refine vt_val (fun w hw => os_pick_f rfl rfl) ?_
      refine vt_nil (fun Hw H => ?_)
      refine v_cond_f rfl ?_
      refine v_skip ?_
      refine v_region ?_
      refine vl_val (os_move rfl) ?_
      refine vl_val (os_addi rfl rfl (by omega)) ?_
      refine vl_val (os_assign rfl) ?_
      refine vl_nil ?_
      exact ⟨i + 1, ⟨rfl, rfl, trivial⟩, ⟨rfl, trivial⟩, ⟨by omega, hq.trans (H.mono hq.size)⟩, by dsimp only; omega⟩
    · rw [show (ps ++ marksP 12).getD i (0, 0) = (markZ 1 ((i : Int) - (n : Int)), 0) by
        have e : (ps ++ marksP 12).getD i (0, 0) = (marksP 12).getD (i - ps.length) (0, 0) := by simp [List.getElem?_append, show ¬ i < ps.length by omega]
        rw [e, marksP_at (by omega)]; congr 2; omega] at hrc
      refine v_skip ?_
      refine v_seq ?_
      refine v_block ?_
      refine v_seq ?_
      refine v_region_t LeG _ mixed (by kernel_rfl) lee_g (leg_start _) ?_
      refine vt_val (fun w hw => os_move rfl) ?_
      refine vt_val (fun w hw => os_move rfl) ?_
      refine vt_val (fun w hw => os_len Try.underlying26 rfl) ?_
      refine vt_val (fun w hw => os_f (os_lss rfl rfl) (by omega)) ?_
      refine vt_val (fun w hw => os_move rfl) ?_
      refine vt_skip rfl rfl ?_
      refine vt_skip rfl rfl ?_
      refine vt_skip rfl rfl ?_
      refine vt_skip rfl rfl ?_
      refine vt_skip rfl rfl ?_
      refine vt_skip rfl rfl ?_
      refine vt_skip rfl rfl ?_
      refine vt_skip rfl rfl ?_
      refine vt_skip rfl rfl ?_
      refine vt_skip rfl rfl ?_
      refine vt_val (fun w hw => os_pick_f rfl rfl) ?_
      refine vt_val (fun w hw => os_move rfl) ?_
      refine vt_valg rfl (fun w hw => os_move rfl) ?_
      refine vt_valg rfl (fun w hw => os_move rfl) ?_
      refine vt_valg rfl (fun w hw => os_len Try.underlying26 rfl) ?_
      refine vt_valg rfl (fun w hw => os_t (os_geq rfl rfl) (by omega)) ?_
      refine vt_valg rfl (fun w hw => os_move rfl) ?_
      refine vt_valg rfl (fun w hw => os_move rfl) ?_
      refine vt_valg rfl (fun w hw => os_move rfl) ?_
      refine vt_valg rfl (fun w hw => os_ixs Try.underlying26 Try.sizeOf41 rfl rfl (i := i) (by omega) (by omega)) ?_
      refine vt_valg rfl (fun w hw => os_loadP Try.underlying41 rfl (by kernel_rfl) rfl (hrc.keep hw)) ?_
      refine vt_valg rfl (fun w hw => os_move rfl) ?_
      refine vt_valg rfl (fun w hw => os_move rfl) ?_
      refine vt_valg rfl (fun w hw => os_len Try.underlying26 rfl) ?_
      refine vt_valg rfl (fun w hw => os_subi rfl rfl (by omega)) ?_
      refine vt_callg rfl (v := _) (fun w hw => kit_markRow 1 ((i : Int) - (n : Int)) w (by omega) (by omega)) rfl ?_
      refine vt_valg rfl (fun w hw => os_t (os_eqlS2 Try.eqGuardType41 (by kernel_rfl) Try.stoodInHeld41 (by kernel_rfl) Try.underlying3 Try.isAgg3 rfl rfl) ((by simp))) ?_
      refine vt_valg rfl (fun w hw => os_not rfl) ?_
      refine vt_valg rfl (fun w hw => os_pick_t rfl rfl) ?_
      refine vt_val (fun w hw => os_pick_f rfl rfl) ?_
      refine vt_nil (fun Hw H => ?_)
      refine v_cond_f rfl ?_
      refine v_skip ?_
      refine v_region ?_
      refine vl_val (os_move rfl) ?_
      refine vl_val (os_addi rfl rfl (by omega)) ?_
      refine vl_val (os_assign rfl) ?_
      refine vl_nil ?_
      exact ⟨i + 1, ⟨rfl, rfl, trivial⟩, ⟨rfl, trivial⟩, ⟨by omega, hq.trans (H.mono hq.size)⟩, by dsimp only; omega⟩
  · refine v_exit ?_
    refine v_seq ?_
    refine v_region ?_
    refine vl_val (os_assign rfl) ?_
    refine vl_nil ?_
    refine v_ret ?_
    exact post_ret rfl rfl (⟨rfl, hq⟩)
theorem ti_wCounts : TyInfo Try.prog 143 (.agg #[.int .i64 0, .int .i64 0]) 2 16 := by unfold TyInfo; kernel_rfl
theorem kit_markCount (k i : Int) (w : World) (hk : 0 ≤ k ∧ k ≤ 1000000000) (hi : 0 ≤ i ∧ i ≤ 1000000000000000) : Gives Try.prog 95 #[.int .i64 k, .int .i64 i] w fun v w' => v = .agg #[.int .i64 (markZ k i), .int .i64 0] ∧ Below w.heap.size w w' := by
  have hB0 := bk_new w [.int .i64 0, .int .i64 0] 143
  have hb0 : Below w.heap.size w (w.alloc (.cells [Value.int .i64 0, .int .i64 0].toArray 143)) := (Below.refl _ w).alloc (Nat.le_refl _) _
  refine gives_enter Try.call95 Try.func95 rfl rfl rfl (by kernel_rfl) ?_
  refine v_seq ?_
  refine v_region ?_
  refine vl_val (os_allocB Try.zeroValue143 (zc := _) (cs := [.int .i64 0, .int .i64 0]) rfl) ?_
  refine vl_nil ?_
  refine v_seq ?_
  refine v_region ?_
  refine vl_val (os_move rfl) ?_
  refine vl_val (os_move rfl) ?_
  refine vl_call (kit_mark k i _ hk hi) rfl ?_
  rintro v1 w1 ⟨rfl, rfl⟩
  refine vl_val (os_build (cs := [.int .i64 (markZ k i), .int .i64 0]) rfl (by kernel_rfl)) ?_
  refine vl_unit (ou_storeB (by kernel_rfl) rfl rfl hB0 rfl rfl) ?_
  refine vl_nil ?_
  refine v_ret ?_
  exact post_cell rfl rfl Try.underlying143 rfl (by kernel_rfl) (setRow_bk hB0 [.int .i64 (markZ k i), .int .i64 0]) ⟨rfl, below_setRow hb0 (Nat.le_refl _) _⟩
end Go.Proofs.Ytlfkhnchceoinaa

/- The law's kit: lists are written over, their spare room too. -/
namespace Go.Proofs.Ytlfkhnchceoinaa
open Go.RowKit
set_option linter.unusedVariables false

theorem Own.stretch {w : World} {B : Nat} {t : TypeId} {g n c m : Nat} {cs : List Value} (h : Own w B t (.slice (some ⟨g, 0, none⟩) n c) cs) (hm : m ≤ c) : ∃ ds, ds.length = m ∧ Own w B t (.slice (some ⟨g, 0, none⟩) m c) ds := by
  rcases h.2 with ⟨h1, _⟩ | ⟨g', cap, cur, h1, hB, hg, hnc, hcm, hs, ht⟩
  · cases h1
  · cases h1
    have hl : (cur.toList.take m).length = m := by rw [List.length_take, Array.length_toList, hs]; omega
    exact ⟨cur.toList.take m, hl, by simp, .inr ⟨g, c, cur, by rw [hl], hB, hg, by omega, hcm, hs, by rw [hl]; simp⟩⟩
end Go.Proofs.Ytlfkhnchceoinaa

/- Whole rows that are written; all else stays. No program in sight. -/
namespace Go.Proofs.Ytlfkhnchceoinaa
open Go.RowKit
set_option linter.unusedVariables false

theorem Bk.rowOther {w : World} {g g' : Nat} {cs : List Value} {t : TypeId} (h : Bk w g' cs t) (hne : g ≠ g') (ds : Array Value) : Bk (w.setRow g ds) g' cs t := by
  unfold Bk at *
  simp [World.setRow, Array.getElem?_modify, hne, h]
theorem Kb.setRow {S : List Nat} {w : World} {g : Nat} (hg : g ∈ S) (cs : Array Value) : Kb S w (w.setRow g cs) :=
  ⟨rfl, rfl, rfl, by simp [World.setRow], fun k hk hn => by
    have : g ≠ k := fun e => hn (e ▸ hg)
    simp [World.setRow, Array.getElem?_modify, this]⟩
section
variable {P : Program} {n : Cx} {fr : Fr} {w : World} {ty : TypeId} {T e : TypeId}
theorem ot_litS {l s : Nat} {ps : List (Nat × Operand)} {css : List (List Value)} {z0 : Value} (hT : P.underlying T = some (.slice e)) (hs : ∀ w, (sizeOf e).run P w = .ok s w) (hz : ∀ w, (zeroValue e).run P w = .ok z0 w) (hx : evP fr ps 0 = some (aggs css)) (hl : l = css.length) (h1 : ∀ cs ∈ css, cs.length = s) (h0 : 0 < l) (hs0 : 0 < s) (h2 : l * s ≤ 16777216) :
    OT P n (.buildSlice T l ps.toArray) ty fr w fun v w' => v = .slice (some ⟨w.heap.size, 0, none⟩) l l ∧ RdP w' s (some ⟨w.heap.size, 0, none⟩) css ∧ w'.heap.size = w.heap.size + 1 ∧ LeG w w' :=
  (os_litS hT hs hz hx hl h1 h0 hs0 h2).ot ⟨rfl, rdp_alloc _ _ _ h1, by simp, (Below.refl _ _).alloc (Nat.le_refl _) _⟩
end
end Go.Proofs.Ytlfkhnchceoinaa

/- The law's kit: reports that are lent; whether they are still as they were; lists of counts, written over, their spare room too. -/
namespace Go.Proofs.Ytlfkhnchceoinaa
open Go.RowKit
set_option linter.unusedVariables false

section
variable {P : Program} {n : Cx} {fr : Fr} {w : World} {ty : TypeId} {x y : Operand} {T : TypeId}
/-- a struct of two cells is written in a block's midst -/
theorem ou_store2 {g o : Nat} {a b : Value} {cs : List Value} {t : TypeId} (hs : (P.info? T).map (·.size) = some 2) (hx : Fr.ev fr x = some (.pointer (some ⟨g, o, none⟩))) (hy : Fr.ev fr y = some (.agg #[a, b])) (hg : Bk w g cs t) (hl : o + 2 ≤ cs.length) (h1 : a.oneCell' = true) (h2 : b.oneCell' = true) :
    OU P n (.store T x y) ty fr w ((w.setCell ⟨g, o, none⟩ a).setCell ⟨g, o + 1, none⟩ b) := by
  have ht : w.there g o (#[a, b] : Array Value).size := fun j hj => ⟨by
    have hj : o + j < cs.length := by simp at hj; omega
    have := cell_of_row w g (o + j) cs.toArray t (0, 0) hg
    rw [this]; simp [hj], by have := hg.free (o + j); simpa using this⟩
  have h3 := run_storeAt_mid (P := P) w g o T #[a, b] ht hs (by simp [h1, h2])
  unfold OU
  intro a' ha
  simp [execOp, ha.ev hx, ha.ev hy, h3, World.setCells]
/-- two structs of two integers each, held apart -/
theorem os_neqS2 {T2 : TypeId} {tI : TypeId} {x1 x2 y1 y2 : Int} (hg : P.eqGuardType P.depth T = false) (hu : P.underlying T = some (.struct (P.fieldsOf T))) (hp : P.stoodInHeld T = false)
    (hf : (P.fieldsOf T).toList.map (fun f => (f.name == "_", f.type, f.offset)) = [(false, tI, 0), (false, tI, 1)]) (hI : P.underlying tI = some (.int .i64)) (hA : ∀ w, (isAgg tI).run P w = .ok false w)
    (hx : Fr.ev fr x = some (.agg #[.int .i64 x1, .int .i64 x2])) (hy : Fr.ev fr y = some (.agg #[.int .i64 y1, .int .i64 y2])) :
    OS P n (.binOp .neq T x y T2) ty fr w (.bool (decide (¬ (x1 = y1 ∧ x2 = y2)))) w := os_of fun a ha => by
  have h1 := run_eqGuard_agg (P := P) w .neq T x y #[.int .i64 x1, .int .i64 x2] #[.int .i64 y1, .int .i64 y2] hg
  have h2 : (Op.equalIn 10000 T (.agg #[.int .i64 x1, .int .i64 x2]) (.agg #[.int .i64 y1, .int .i64 y2])).run P w = .ok (decide (x1 = y1 ∧ x2 = y2)) w := by
    exact run_eqS2 9998 hu hp hf hI hA
  have h3 := run_neq_struct (P := P) w T #[.int .i64 x1, .int .i64 x2] #[.int .i64 y1, .int .i64 y2]
  rw [h2] at h3
  simp [execOp, ha.ev hx, ha.ev hy, h1, h3, Result.andThen, -not_and]
end

theorem kit_SameCounts (A B : Option Addr) (n m c d : Nat) (xs ys : List (Int × Int)) (w : World) (ha : RdP w 2 A (xs.map rowC)) (hb : RdP w 2 B (ys.map rowC)) (hn : n = xs.length) (hm : m = ys.length) (he : xs = ys) (hn' : n ≤ 9223372036854775807) :
    Gives Try.prog 99 #[.slice A n c, .slice B m d] w fun v w' => v = .bool true ∧ LeD w w' := by
  subst he
  refine gives_enter Try.call99 Try.func99 rfl rfl rfl (by kernel_rfl) ?_
  refine v_seq ?_
  refine v_region ?_
  refine vl_val (os_assign rfl) ?_
  refine vl_nil ?_
  refine v_seq ?_
  refine v_seq ?_
  refine v_region ?_
  refine vl_val (os_move rfl) ?_
  refine vl_val (os_len Try.underlying141 rfl) ?_
  refine vl_val (os_move rfl) ?_
  refine vl_val (os_len Try.underlying141 rfl) ?_
  refine vl_val (os_neq rfl rfl) ?_
  refine vl_nil ?_
  refine v_cond_no rfl (by omega) ?_
  refine v_skip ?_
  refine v_seq ?_
  refine v_seq ?_
  refine v_region ?_
  refine vl_val (os_assign rfl) ?_
  refine vl_nil ?_
  refine v_block ?_
  refine v_loop [(0, _), (1, _)] (fun (k : Nat) => [(5, .int .i64 k)]) (fun k w' => k ≤ n ∧ LeD w w') (fun k => n - k) (0) ⟨rfl, rfl, trivial⟩ ⟨rfl, trivial⟩ (⟨by omega, lee_d.refl _⟩) ?_
  rintro k w' ⟨hk, q, rfl⟩
  refine v_seq ?_
  refine v_seq ?_
  refine v_region ?_
  refine vl_val (os_move rfl) ?_
  refine vl_val (os_move rfl) ?_
  refine vl_val (os_len Try.underlying141 rfl) ?_
  refine vl_val (os_lss rfl rfl) ?_
  refine vl_nil ?_
  refine v_cond_d rfl (fun hlt => ?_) (fun hlt => ?_)
  · obtain ⟨b1, o1, rfl, -, -, c1⟩ := (ha.led ⟨q, rfl⟩).at2 (i := k) (by omega)
    obtain ⟨b2, o2, rfl, -, -, c2⟩ := (hb.led ⟨q, rfl⟩).at2 (i := k) (by omega)
    refine v_skip ?_
    refine v_seq ?_
    refine v_block ?_
    refine v_seq ?_
    refine v_region_t LeD _ mixed (by kernel_rfl) lee_d (led_start _) ?_
    refine vt_val (fun w hw => os_move rfl) ?_
    refine vt_val (fun w hw => os_move rfl) ?_
    refine vt_val (fun w hw => os_ixs Try.underlying141 Try.sizeOf143 rfl rfl (i := k) (by omega) (by omega)) ?_
    refine vt_val (fun w hw => os_loadP Try.underlying143 rfl (by kernel_rfl) rfl (c1.led hw)) ?_
    refine vt_val (fun w hw => os_move rfl) ?_
    refine vt_val (fun w hw => os_move rfl) ?_
    refine vt_val (fun w hw => os_ixs Try.underlying141 Try.sizeOf143 rfl rfl (i := k) (by omega) (by omega)) ?_
    refine vt_val (fun w hw => os_loadP Try.underlying143 rfl (by kernel_rfl) rfl (c2.led hw)) ?_
    refine vt_val (fun w hw => os_f (os_neqS2 Try.eqGuardType143 (by kernel_rfl) Try.stoodInHeld143 (by kernel_rfl) Try.underlying3 Try.isAgg3 rfl rfl) (by simp)) ?_
    refine vt_nil (fun w hw => ?_)
    obtain ⟨q2, rfl⟩ := hw
    refine v_cond_f rfl ?_
    refine v_skip ?_
    refine v_region ?_
    refine vl_val (os_move rfl) ?_
    refine vl_val (os_addi rfl rfl (by omega)) ?_
    refine vl_val (os_assign rfl) ?_
    refine vl_nil ?_
    exact ⟨k + 1, ⟨rfl, rfl, trivial⟩, ⟨rfl, trivial⟩, ⟨by omega, _, World.drewN_drewN ..⟩, by dsimp only; omega⟩
  · refine v_exit ?_
    refine v_seq ?_
    refine v_region ?_
    refine vl_val (os_assign rfl) ?_
    refine vl_nil ?_
    refine v_ret ?_
    exact post_ret rfl rfl (⟨rfl, _, rfl⟩)
theorem kit_SameTable (A B : Option Addr) (n m c d : Nat) (xs ys : List (Int × Int)) (w : World) (ha : RdP w 2 A (xs.map rowC)) (hb : RdP w 2 B (ys.map rowC)) (hn : n = xs.length) (hm : m = ys.length) (he : xs = ys) (hn' : n ≤ 9223372036854775807) :
    Gives Try.prog 57 #[.slice A n c, .slice B m d] w fun v w' => v = .bool true ∧ LeD w w' := by
  subst he
  refine gives_enter Try.call57 Try.func57 rfl rfl rfl (by kernel_rfl) ?_
  refine v_seq ?_
  refine v_region ?_
  refine vl_val (os_assign rfl) ?_
  refine vl_nil ?_
  refine v_seq ?_
  refine v_seq ?_
  refine v_region ?_
  refine vl_val (os_move rfl) ?_
  refine vl_val (os_len Try.underlying26 rfl) ?_
  refine vl_val (os_move rfl) ?_
  refine vl_val (os_len Try.underlying26 rfl) ?_
  refine vl_val (os_neq rfl rfl) ?_
  refine vl_nil ?_
  refine v_cond_no rfl (by omega) ?_
  refine v_skip ?_
  refine v_seq ?_
  refine v_seq ?_
  refine v_region ?_
  refine vl_val (os_assign rfl) ?_
  refine vl_nil ?_
  refine v_block ?_
  refine v_loop [(0, _), (1, _)] (fun (k : Nat) => [(5, .int .i64 k)]) (fun k w' => k ≤ n ∧ LeD w w') (fun k => n - k) (0) ⟨rfl, rfl, trivial⟩ ⟨rfl, trivial⟩ (⟨by omega, lee_d.refl _⟩) ?_
  rintro k w' ⟨hk, q, rfl⟩
  refine v_seq ?_
  refine v_seq ?_
  refine v_region ?_
  refine vl_val (os_move rfl) ?_
  refine vl_val (os_move rfl) ?_
  refine vl_val (os_len Try.underlying26 rfl) ?_
  refine vl_val (os_lss rfl rfl) ?_
  refine vl_nil ?_
  refine v_cond_d rfl (fun hlt => ?_) (fun hlt => ?_)
  · obtain ⟨b1, o1, rfl, -, -, c1⟩ := (ha.led ⟨q, rfl⟩).at2 (i := k) (by omega)
    obtain ⟨b2, o2, rfl, -, -, c2⟩ := (hb.led ⟨q, rfl⟩).at2 (i := k) (by omega)
    refine v_skip ?_
    refine v_seq ?_
    refine v_block ?_
    refine v_seq ?_
    refine v_region_t LeD _ mixed (by kernel_rfl) lee_d (led_start _) ?_
    refine vt_val (fun w hw => os_move rfl) ?_
    refine vt_val (fun w hw => os_move rfl) ?_
    refine vt_val (fun w hw => os_ixs Try.underlying26 Try.sizeOf41 rfl rfl (i := k) (by omega) (by omega)) ?_
    refine vt_val (fun w hw => os_loadP Try.underlying41 rfl (by kernel_rfl) rfl (c1.led hw)) ?_
    refine vt_val (fun w hw => os_move rfl) ?_
    refine vt_val (fun w hw => os_move rfl) ?_
    refine vt_val (fun w hw => os_ixs Try.underlying26 Try.sizeOf41 rfl rfl (i := k) (by omega) (by omega)) ?_
    refine vt_val (fun w hw => os_loadP Try.underlying41 rfl (by kernel_rfl) rfl (c2.led hw)) ?_
    refine vt_val (fun w hw => os_f (os_neqS2 Try.eqGuardType41 (by kernel_rfl) Try.stoodInHeld41 (by kernel_rfl) Try.underlying3 Try.isAgg3 rfl rfl) (by simp)) ?_
    refine vt_nil (fun w hw => ?_)
    obtain ⟨q2, rfl⟩ := hw
    refine v_cond_f rfl ?_
    refine v_skip ?_
    refine v_region ?_
    refine vl_val (os_move rfl) ?_
    refine vl_val (os_addi rfl rfl (by omega)) ?_
    refine vl_val (os_assign rfl) ?_
    refine vl_nil ?_
    exact ⟨k + 1, ⟨rfl, rfl, trivial⟩, ⟨rfl, trivial⟩, ⟨by omega, _, World.drewN_drewN ..⟩, by dsimp only; omega⟩
  · refine v_exit ?_
    refine v_seq ?_
    refine v_region ?_
    refine vl_val (os_assign rfl) ?_
    refine vl_nil ?_
    refine v_ret ?_
    exact post_ret rfl rfl (⟨rfl, _, rfl⟩)
theorem LentW.mono {w B B' t v ps} (h : LentW w B t v ps) (hb : B' ≤ B) : LentW w B' t v ps := by
  obtain ⟨g, C, e, hc, ho⟩ := h
  exact ⟨g, C, e, hc, OwnP.mono ho hb⟩
theorem LentW.kb {w w' B t v ps S} (h : LentW w B t v ps) (hb : Kb S w w') (hS : ∀ g, v.ownBlock = some g → g ∉ S) : LentW w' B t v ps := by
  obtain ⟨g, C, rfl, hc, ho⟩ := h
  exact ⟨g, C, rfl, hc, ho.blk fun k hk => hb.block k (ho.lt k hk).2 (hS k hk)⟩
set_option maxHeartbeats 1000000 in
theorem kit_SameNote (d e : NoteV) (w : World) (hd : NoteOk w d) (he : NoteOk w e) (h1 : d.st = e.st) (h2 : d.sq = e.sq) (h3 : d.n = e.n) (h4 : d.cs = e.cs) : Gives Try.prog 97 #[.agg d.cells.toArray, .agg e.cells.toArray] w fun v w' => v = .bool true ∧ Below w.heap.size w w' := by
  have hA0 := bk_new w d.cells 147
  have hb0 : Below w.heap.size w (w.alloc (.cells d.cells.toArray 147)) := (Below.refl _ w).alloc (Nat.le_refl _) _
  have hA := hA0.alloc (.cells e.cells.toArray 147)
  have hB := bk_new (w.alloc (.cells d.cells.toArray 147)) e.cells 147
  have hb1 := hb0.alloc hb0.size (.cells e.cells.toArray 147)
  have hd1 := hd.keep hb1
  have he1 := he.keep hb1
  have l1 := hd.2.1
  have l2 := he.2.1
  have l3 := hd.2.2.1
  refine gives_enter Try.call97 Try.func97 rfl rfl rfl (by kernel_rfl) ?_
  refine v_seq ?_
  refine v_region ?_
  refine vl_val (os_box rfl) ?_
  refine vl_val (os_box rfl) ?_
  refine vl_val (os_assign rfl) ?_
  refine vl_nil ?_
  refine v_seq ?_
  refine v_region ?_
  refine vl_val (os_fa (o := 0) (k := 0) (by kernel_rfl) rfl) ?_
  refine vl_val (os_load Try.isAgg3 rfl (hA.cell (i := 0) rfl)) ?_
  refine vl_val (os_fa (o := 0) (k := 0) (by kernel_rfl) rfl) ?_
  refine vl_val (os_load Try.isAgg3 rfl (hB.cell (i := 0) rfl)) ?_
  refine vl_val (os_t (os_eql rfl rfl) (h1)) ?_
  refine vl_val (os_move rfl) ?_
  refine vl_valg rfl (os_fa (o := 1) (k := 0) (by kernel_rfl) rfl) ?_
  refine vl_valg rfl (os_load Try.isAgg3 rfl (hA.cell (i := 1) rfl)) ?_
  refine vl_valg rfl (os_fa (o := 1) (k := 0) (by kernel_rfl) rfl) ?_
  refine vl_valg rfl (os_load Try.isAgg3 rfl (hB.cell (i := 1) rfl)) ?_
  refine vl_valg rfl (os_t (os_eql rfl rfl) (h2)) ?_
  refine vl_val (os_pick_t rfl rfl) ?_
  refine vl_val (os_move rfl) ?_
  refine vl_valg rfl (os_fa (o := 2) (k := 0) (by kernel_rfl) rfl) ?_
  refine vl_valg rfl (os_load Try.isAgg3 rfl (hA.cell (i := 2) rfl)) ?_
  refine vl_valg rfl (os_fa (o := 2) (k := 0) (by kernel_rfl) rfl) ?_
  refine vl_valg rfl (os_load Try.isAgg3 rfl (hB.cell (i := 2) rfl)) ?_
  refine vl_valg rfl (os_t (os_eql rfl rfl) (h3)) ?_
  refine vl_val (os_pick_t rfl rfl) ?_
  refine vl_val (os_move rfl) ?_
  refine vl_valg rfl (os_fa (o := 3) (k := 0) (by kernel_rfl) rfl) ?_
  refine vl_valg rfl (os_load Try.isAgg141 rfl (hA.cell (i := 3) rfl)) ?_
  refine vl_valg rfl (os_fa (o := 3) (k := 0) (by kernel_rfl) rfl) ?_
  refine vl_valg rfl (os_load Try.isAgg141 rfl (hB.cell (i := 3) rfl)) ?_
  refine vl_callg rfl (kit_SameCounts d.A e.A d.l e.l d.c e.c d.cs e.cs _ hd1.1 he1.1 l1 l2 h4 (by omega)) rfl ?_
  rintro v1 w1 ⟨rfl, b1⟩
  refine vl_val (os_pick_t rfl rfl) ?_
  refine vl_val (os_assign rfl) ?_
  refine vl_nil ?_
  refine v_ret ?_
  exact post_ret rfl rfl (⟨rfl, hb1.trans ((led_below b1).mono hb1.size)⟩)
/-- a report that the kit has lent -/
def lentN (d : NoteV) (g C : Nat) : NoteV := ⟨d.st, d.sq, d.n, some ⟨g, 0, none⟩, d.cs.length, C, d.cs⟩
end Go.Proofs.Ytlfkhnchceoinaa
