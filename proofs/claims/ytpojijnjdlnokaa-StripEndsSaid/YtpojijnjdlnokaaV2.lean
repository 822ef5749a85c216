/- The rules of single operations, each on what is known of the frame. No program in sight. -/
import Derived.Test.YtpojijnjdlnokaaV1
namespace Go.Proofs.Ytpojijnjdlnokaa
open Go.RowKit
set_option linter.unusedVariables false

section
variable {P : Program} {n : Cx} {fr : Fr} {w : World} {ty : TypeId} {x y z : Operand} {v u : Value} {k k2 : IntKind} {m p r : Int} {T T2 : TypeId} {op : Op} {w' : World}

theorem os_of (h : ∀ a, Ag n fr a → (execOp a.eval ⟨none, op, ty, "", #[], none⟩).run P w = .ok (.value v) w') : OS P n op ty fr w v w' := by unfold OS; exact h
theorem i64_fit {n : Int} (h : -9223372036854775808 ≤ n ∧ n ≤ 9223372036854775807) : IntKind.i64.wrap n = n := IntWalk.i64_in _ h

theorem os_move (hx : Fr.ev fr x = some v) : OS P n (.move x) ty fr w v w := os_of fun a ha => by simp [execOp, ha.ev hx]
theorem os_assign (hx : Fr.ev fr x = some v) : OS P n (.assign x) ty fr w v w := os_of fun a ha => by simp [execOp, ha.ev hx]
theorem os_pick_t (hc : Fr.ev fr x = some (.bool true)) (hx : Fr.ev fr y = some v) : OS P n (.pick x y z) ty fr w v w := os_of fun a ha => by simp [execOp, ha.ev hx, ha.ev hc, asBool]
theorem os_pick_f (hc : Fr.ev fr x = some (.bool false)) (hx : Fr.ev fr z = some v) : OS P n (.pick x y z) ty fr w v w := os_of fun a ha => by simp [execOp, ha.ev hx, ha.ev hc, asBool]
theorem os_pick {b : Bool} (hc : Fr.ev fr x = some (.bool b)) (hx : Fr.ev fr y = some v) (hy : Fr.ev fr z = some u) : OS P n (.pick x y z) ty fr w (if b then v else u) w := os_of fun a ha => by cases b <;> simp [execOp, ha.ev hx, ha.ev hy, ha.ev hc, asBool]

theorem os_add (hx : Fr.ev fr x = some (.int k m)) (hy : Fr.ev fr y = some (.int k p)) (hr : k.wrap (m + p) = r) : OS P n (.binOp .add T x y T2) ty fr w (.int k r) w := os_of fun a ha => by
  simp [execOp, ha.ev hx, ha.ev hy, binOp, eqGuard, Op.intArith, hr]
theorem os_sub (hx : Fr.ev fr x = some (.int k m)) (hy : Fr.ev fr y = some (.int k p)) (hr : k.wrap (m - p) = r) : OS P n (.binOp .sub T x y T2) ty fr w (.int k r) w := os_of fun a ha => by
  simp [execOp, ha.ev hx, ha.ev hy, binOp, eqGuard, Op.intArith, hr]
theorem os_mul (hx : Fr.ev fr x = some (.int k m)) (hy : Fr.ev fr y = some (.int k p)) (hr : k.wrap (m * p) = r) : OS P n (.binOp .mul T x y T2) ty fr w (.int k r) w := os_of fun a ha => by
  simp [execOp, ha.ev hx, ha.ev hy, binOp, eqGuard, Op.intArith, hr]
theorem os_addi (hx : Fr.ev fr x = some (.int .i64 m)) (hy : Fr.ev fr y = some (.int .i64 p)) (hr : -9223372036854775808 ≤ m + p ∧ m + p ≤ 9223372036854775807) : OS P n (.binOp .add T x y T2) ty fr w (.int .i64 (m + p)) w := os_add hx hy (i64_fit hr)
theorem os_subi (hx : Fr.ev fr x = some (.int .i64 m)) (hy : Fr.ev fr y = some (.int .i64 p)) (hr : -9223372036854775808 ≤ m - p ∧ m - p ≤ 9223372036854775807) : OS P n (.binOp .sub T x y T2) ty fr w (.int .i64 (m - p)) w := os_sub hx hy (i64_fit hr)
theorem os_muli (hx : Fr.ev fr x = some (.int .i64 m)) (hy : Fr.ev fr y = some (.int .i64 p)) (hr : -9223372036854775808 ≤ m * p ∧ m * p ≤ 9223372036854775807) : OS P n (.binOp .mul T x y T2) ty fr w (.int .i64 (m * p)) w := os_mul hx hy (i64_fit hr)
theorem os_quo (hx : Fr.ev fr x = some (.int k m)) (hy : Fr.ev fr y = some (.int k p)) (h0 : p ≠ 0) (hr : k.wrap (m.tdiv p) = r) : OS P n (.binOp .quo T x y T2) ty fr w (.int k r) w := os_of fun a ha => by
  simp [execOp, ha.ev hx, ha.ev hy, binOp, eqGuard, Op.intDiv, h0, hr]
theorem os_rem (hx : Fr.ev fr x = some (.int k m)) (hy : Fr.ev fr y = some (.int k p)) (h0 : p ≠ 0) (hr : m.tmod p = r) : OS P n (.binOp .rem T x y T2) ty fr w (.int k r) w := os_of fun a ha => by
  simp [execOp, ha.ev hx, ha.ev hy, binOp, eqGuard, Op.intDiv, h0, hr]
/-- both at least 0, Go's int -/
theorem os_quoi (hx : Fr.ev fr x = some (.int .i64 m)) (hy : Fr.ev fr y = some (.int .i64 p)) (h : 0 ≤ m ∧ m ≤ 9223372036854775807 ∧ 0 < p) : OS P n (.binOp .quo T x y T2) ty fr w (.int .i64 (m / p)) w := by
  refine os_quo hx hy (by omega) ?_
  rw [Int.tdiv_eq_ediv_of_nonneg h.1]
  refine i64_fit ⟨?_, ?_⟩
  · have := Int.ediv_nonneg h.1 (Int.le_of_lt h.2.2); omega
  · have := Int.ediv_le_self p h.1; omega
theorem os_remi (hx : Fr.ev fr x = some (.int k m)) (hy : Fr.ev fr y = some (.int k p)) (h : 0 ≤ m ∧ 0 < p) : OS P n (.binOp .rem T x y T2) ty fr w (.int k (m % p)) w := os_rem hx hy (by omega) (Int.tmod_eq_emod_of_nonneg h.1)
theorem os_shl (hx : Fr.ev fr x = some (.int k m)) (hy : Fr.ev fr y = some (.int k2 p)) (h0 : 0 ≤ p) (hr : k.wrap (m * 2 ^ min p.toNat k.bits) = r) : OS P n (.binOp .shl T x y T2) ty fr w (.int k r) w := os_of fun a ha => by
  simp [execOp, ha.ev hx, ha.ev hy, binOp, eqGuard, Op.shift, show ¬ p < 0 from by omega, hr]
theorem os_shr (hx : Fr.ev fr x = some (.int k m)) (hy : Fr.ev fr y = some (.int k2 p)) (h0 : 0 ≤ p) (hr : m.fdiv (2 ^ min p.toNat k.bits) = r) : OS P n (.binOp .shr T x y T2) ty fr w (.int k r) w := os_of fun a ha => by
  simp [execOp, ha.ev hx, ha.ev hy, binOp, eqGuard, Op.shift, show ¬ p < 0 from by omega, hr]
theorem os_and (hx : Fr.ev fr x = some (.int k m)) (hy : Fr.ev fr y = some (.int k p)) (hr : k.wrap ((BitVec.ofInt k.bits m &&& BitVec.ofInt k.bits p).toNat : Nat) = r) : OS P n (.binOp .and T x y T2) ty fr w (.int k r) w := os_of fun a ha => by
  subst hr; simp [execOp, ha.ev hx, ha.ev hy, binOp, eqGuard, Op.intBits]
theorem os_or (hx : Fr.ev fr x = some (.int k m)) (hy : Fr.ev fr y = some (.int k p)) (hr : k.wrap ((BitVec.ofInt k.bits m ||| BitVec.ofInt k.bits p).toNat : Nat) = r) : OS P n (.binOp .or T x y T2) ty fr w (.int k r) w := os_of fun a ha => by
  subst hr; simp [execOp, ha.ev hx, ha.ev hy, binOp, eqGuard, Op.intBits]
theorem os_xor (hx : Fr.ev fr x = some (.int k m)) (hy : Fr.ev fr y = some (.int k p)) (hr : k.wrap ((BitVec.ofInt k.bits m ^^^ BitVec.ofInt k.bits p).toNat : Nat) = r) : OS P n (.binOp .xor T x y T2) ty fr w (.int k r) w := os_of fun a ha => by
  subst hr; simp [execOp, ha.ev hx, ha.ev hy, binOp, eqGuard, Op.intBits]
theorem os_lss (hx : Fr.ev fr x = some (.int k m)) (hy : Fr.ev fr y = some (.int k p)) : OS P n (.binOp .lss T x y T2) ty fr w (.bool (decide (m < p))) w := os_of fun a ha => by
  simp [execOp, ha.ev hx, ha.ev hy, binOp, eqGuard, Op.intCmp]
theorem os_leq (hx : Fr.ev fr x = some (.int k m)) (hy : Fr.ev fr y = some (.int k p)) : OS P n (.binOp .leq T x y T2) ty fr w (.bool (decide (m ≤ p))) w := os_of fun a ha => by
  simp [execOp, ha.ev hx, ha.ev hy, binOp, eqGuard, Op.intCmp]
theorem os_gtr (hx : Fr.ev fr x = some (.int k m)) (hy : Fr.ev fr y = some (.int k p)) : OS P n (.binOp .gtr T x y T2) ty fr w (.bool (decide (p < m))) w := os_of fun a ha => by
  simp [execOp, ha.ev hx, ha.ev hy, binOp, eqGuard, Op.intCmp]
theorem os_geq (hx : Fr.ev fr x = some (.int k m)) (hy : Fr.ev fr y = some (.int k p)) : OS P n (.binOp .geq T x y T2) ty fr w (.bool (decide (p ≤ m))) w := os_of fun a ha => by
  simp [execOp, ha.ev hx, ha.ev hy, binOp, eqGuard, Op.intCmp]
theorem os_eql (hx : Fr.ev fr x = some (.int k m)) (hy : Fr.ev fr y = some (.int k p)) : OS P n (.binOp .eql T x y T2) ty fr w (.bool (decide (m = p))) w := os_of fun a ha => by
  simp [execOp, ha.ev hx, ha.ev hy, binOp, eqGuard, Op.intCmp]; rfl
theorem os_neq (hx : Fr.ev fr x = some (.int k m)) (hy : Fr.ev fr y = some (.int k p)) : OS P n (.binOp .neq T x y T2) ty fr w (.bool (decide (m ≠ p))) w := os_of fun a ha => by
  simp [execOp, ha.ev hx, ha.ev hy, binOp, eqGuard, Op.intCmp, bne]; rfl
theorem os_eqlb {b c : Bool} (hT : P.underlying T = some .bool) (hx : Fr.ev fr x = some (.bool b)) (hy : Fr.ev fr y = some (.bool c)) : OS P n (.binOp .eql T x y T2) ty fr w (.bool (b == c)) w := os_of fun a ha => by
  simp [execOp, ha.ev hx, ha.ev hy, eqGuard, run_eql_bool w T b c hT]
theorem os_neqb {b c : Bool} (hT : P.underlying T = some .bool) (hx : Fr.ev fr x = some (.bool b)) (hy : Fr.ev fr y = some (.bool c)) : OS P n (.binOp .neq T x y T2) ty fr w (.bool (!(b == c))) w := os_of fun a ha => by
  simp [execOp, ha.ev hx, ha.ev hy, eqGuard, run_neq_bool w T b c hT]
theorem os_not {b : Bool} (hx : Fr.ev fr x = some (.bool b)) : OS P n (.unOp .not T x) ty fr w (.bool (!b)) w := os_of fun a ha => by simp [execOp, ha.ev hx, Op.unary]
theorem os_neg (hx : Fr.ev fr x = some (.int k m)) (hr : k.wrap (0 - m) = r) : OS P n (.unOp .neg T x) ty fr w (.int k r) w := os_of fun a ha => by
  subst hr; simp [execOp, ha.ev hx, Op.unary, Op.intArith]
theorem os_com (hx : Fr.ev fr x = some (.int k m)) (hr : k.wrap ((BitVec.ofInt k.bits (if k.signed then -1 else k.max) ^^^ BitVec.ofInt k.bits m).toNat : Nat) = r) : OS P n (.unOp .xor T x) ty fr w (.int k r) w := os_of fun a ha => by
  subst hr; simp [execOp, ha.ev hx, Op.unary, Op.intBits]
theorem os_conv {k' : IntKind} (h1 : P.underlying T = some (.int k')) (h2 : P.underlying T2 = some (.int k)) (hx : Fr.ev fr x = some (.int k' m)) (hr : k.wrap m = r) : OS P n (.convert T T2 x) ty fr w (.int k r) w := os_of fun a ha => by
  subst hr; simp [execOp, ha.ev hx, convert, run_underlying h1, run_underlying h2, Conv.intToInt]

theorem os_len {A : Option Addr} {l c : Nat} {e : TypeId} (hT : P.underlying T = some (.slice e)) (hx : Fr.ev fr x = some (.slice A l c)) : OS P n (.call ⟨.builtin .len, #[x], #[T]⟩) ty fr w (.int .i64 l) w := os_of fun a ha => by
  simp [execOp, resolve, invoke, builtin, ha.ev hx, Builtin.len_, run_underlying hT, goInt]
theorem os_cap {A : Option Addr} {l c : Nat} {e : TypeId} (hT : P.underlying T = some (.slice e)) (hx : Fr.ev fr x = some (.slice A l c)) : OS P n (.call ⟨.builtin .cap, #[x], #[T]⟩) ty fr w (.int .i64 c) w := os_of fun a ha => by
  simp [execOp, resolve, invoke, builtin, ha.ev hx, Builtin.cap_, run_underlying hT, goInt]
theorem os_min {T' : TypeId} (hx : Fr.ev fr x = some (.int k m)) (hy : Fr.ev fr y = some (.int k p)) : OS P n (.call ⟨.builtin .min, #[x, y], #[T, T']⟩) ty fr w (.int k (min m p)) w := os_of fun a ha => by
  simp [execOp, resolve, invoke, builtin, ha.ev hx, ha.ev hy, Builtin.min_, Builtin.min2]
  split <;> omega
theorem os_max {T' : TypeId} (hx : Fr.ev fr x = some (.int k m)) (hy : Fr.ev fr y = some (.int k p)) : OS P n (.call ⟨.builtin .max, #[x, y], #[T, T']⟩) ty fr w (.int k (max m p)) w := os_of fun a ha => by
  simp [execOp, resolve, invoke, builtin, ha.ev hx, ha.ev hy, Builtin.max_, Builtin.max2]
  split <;> omega

theorem os_t {q : Prop} [Decidable q] (h : OS P n op ty fr w (.bool (decide q)) w') (hq : q) : OS P n op ty fr w (.bool true) w' := by rw [decide_eq_true hq] at h; exact h
theorem os_f {q : Prop} [Decidable q] (h : OS P n op ty fr w (.bool (decide q)) w') (hq : ¬ q) : OS P n op ty fr w (.bool false) w' := by rw [decide_eq_false hq] at h; exact h
theorem os_is {b c : Bool} (h : OS P n op ty fr w (.bool b) w') (hq : b = c) : OS P n op ty fr w (.bool c) w' := by rw [hq] at h; exact h
theorem os_int {b c : Int} (h : OS P n op ty fr w (.int k b) w') (hq : b = c) : OS P n op ty fr w (.int k c) w' := by rw [hq] at h; exact h
theorem os_box (hx : Fr.ev fr x = some v) : OS P n (.box T x) ty fr w (.pointer (some ⟨w.heap.size, 0, none⟩)) (w.alloc (.cells v.cells T)) := os_of fun a ha => by
  simp [execOp, ha.ev hx, Instr.box, newVar, newRow]
theorem os_alloc (hz : ∀ w, (zeroValue T).run P w = .ok v w) : OS P n (.alloc T) ty fr w (.pointer (some ⟨w.heap.size, 0, none⟩)) (w.alloc (.cells v.cells T)) := os_of fun a ha => by
  simp [execOp, Instr.alloc, hz, newVar, newRow]
theorem os_load {A : Addr} (hT : ∀ w, (isAgg T).run P w = .ok false w) (hx : Fr.ev fr x = some (.pointer (some A))) (hc : w.cell? A = some v) : OS P n (.load T x) ty fr w v w := os_of fun a ha => by
  simp [execOp, ha.ev hx, Instr.loadAt, Instr.sureAddr, loadVar, hT, hc]
theorem ou_store {A : Addr} (hT : ∀ w, (sizeOf T).run P w = .ok 1 w) (hx : Fr.ev fr x = some (.pointer (some A))) (hy : Fr.ev fr y = some v) (h1 : v.oneCell' = true) (hc : w.cell? A = some u) (hf : w.frozen? A = false) : OU P n (.store T x y) ty fr w (w.setCell A v) := by
  unfold OU
  intro a ha
  have hcells : v.cells = #[v] := by cases v <;> simp_all [Value.cells, Value.oneCell']
  have hA : A.add 0 = A := by simp [Addr.add]
  simp [execOp, ha.ev hx, ha.ev hy, Instr.storeAt, Instr.sureAddr, storeVar, hT, hcells, storeCells, hA, run_store P w A v .plain h1, hc, hf]
theorem os_nilCheck {A : Addr} (hx : Fr.ev fr x = some (.pointer (some A))) : OS P n (.nilCheck x) ty fr w (.pointer (some A)) w := os_of fun a ha => by
  simp [execOp, ha.ev hx]
theorem os_slice_h {A : Option Addr} {l c h : Nat} {e : TypeId} {s : Nat} (hT : P.underlying T = some (.slice e)) (hs : ∀ w, (sizeOf e).run P w = .ok s w) (hx : Fr.ev fr x = some (.slice A l c)) (hy : Fr.ev fr y = some (.int k m)) (hm : m = (h : Int)) (hh : h ≤ c) :
    OS P n (.slice T x none (some y) none) ty fr w (.slice A h c) w := os_of fun a ha => by
  subst hm
  have h0 : (A.map fun b => b.add (0 * s)) = A := by cases A <;> simp [Addr.add]
  have h1 : (A.map fun b => b.add 0) = A := by cases A <;> simp [Addr.add]
  simp [execOp, ha.ev hx, ha.ev hy, Instr.sliceAt, Instr.slice, run_underlying hT, Instr.sliceBounds, Instr.sliceBound, asIntOf, hs, hh, h1]
theorem os_slice_l {A : Option Addr} {l c i : Nat} {e : TypeId} {s : Nat} (hT : P.underlying T = some (.slice e)) (hs : ∀ w, (sizeOf e).run P w = .ok s w) (hx : Fr.ev fr x = some (.slice A l c)) (hy : Fr.ev fr y = some (.int k m)) (hm : m = (i : Int)) (hh : i ≤ l) :
    OS P n (.slice T x (some y) none none) ty fr w (.slice (if c = i then A else A.map (·.add (i * s))) (l - i) (c - i)) w := os_of fun a ha => by
  subst hm
  simp [execOp, ha.ev hx, ha.ev hy, Instr.sliceAt, Instr.slice, run_underlying hT, Instr.sliceBounds, Instr.sliceBound, asIntOf, hs, hh]
theorem os_slice_lh {A : Option Addr} {l c i j : Nat} {e : TypeId} {s : Nat} {k' : IntKind} {m' : Int} (hT : P.underlying T = some (.slice e)) (hs : ∀ w, (sizeOf e).run P w = .ok s w) (hx : Fr.ev fr x = some (.slice A l c)) (hy : Fr.ev fr y = some (.int k m)) (hm : m = (i : Int)) (hz : Fr.ev fr z = some (.int k' m')) (hm' : m' = (j : Int)) (hh : i ≤ j) (hj : j ≤ c) :
    OS P n (.slice T x (some y) (some z) none) ty fr w (.slice (if c = i then A else A.map (·.add (i * s))) (j - i) (c - i)) w := os_of fun a ha => by
  subst hm; subst hm'
  simp [execOp, ha.ev hx, ha.ev hy, ha.ev hz, Instr.sliceAt, Instr.slice, run_underlying hT, Instr.sliceBounds, Instr.sliceBound, asIntOf, hs, hh, hj]
theorem os_indexAddr {A : Addr} {l c : Nat} {e : TypeId} {s : Nat} (hT : P.underlying T = some (.slice e)) (hs : ∀ w, (sizeOf e).run P w = .ok s w) (hx : Fr.ev fr x = some (.slice (some A) l c)) (hy : Fr.ev fr y = some (.int k m)) (h : 0 ≤ m ∧ m < l) :
    OS P n (.indexAddr T x y) ty fr w (.pointer (some (A.add (m.toNat * s)))) w := os_of fun a ha => by
  simp [execOp, ha.ev hx, ha.ev hy, Instr.indexAt, asIntOf, run_underlying hT, h, hs]
theorem addr_add (b o i : Nat) : (⟨b, o, none⟩ : Addr).add i = ⟨b, o + i, none⟩ := by unfold Addr.add; split <;> simp_all
/-- place i of a slice of one-cell elements -/
theorem os_ix {b o l c i : Nat} {e : TypeId} (hT : P.underlying T = some (.slice e)) (hs : ∀ w, (sizeOf e).run P w = .ok 1 w) (hx : Fr.ev fr x = some (.slice (some ⟨b, o, none⟩) l c)) (hy : Fr.ev fr y = some (.int k m)) (hm : m = (i : Int)) (h : i < l) :
    OS P n (.indexAddr T x y) ty fr w (.pointer (some ⟨b, o + i, none⟩)) w := by
  subst hm
  have := os_indexAddr (ty := ty) (w := w) (n := n) hT hs hx hy ⟨by omega, by omega⟩
  rw [addr_add] at this
  simpa using this
/-- place i of a slice of elements of s cells -/
theorem os_ixs {b o l c i s : Nat} {e : TypeId} (hT : P.underlying T = some (.slice e)) (hs : ∀ w, (sizeOf e).run P w = .ok s w) (hx : Fr.ev fr x = some (.slice (some ⟨b, o, none⟩) l c)) (hy : Fr.ev fr y = some (.int k m)) (hm : m = (i : Int)) (h : i < l) :
    OS P n (.indexAddr T x y) ty fr w (.pointer (some ⟨b, o + i * s, none⟩)) w := by
  subst hm
  have := os_indexAddr (ty := ty) (w := w) (n := n) hT hs hx hy ⟨by omega, by omega⟩
  rw [addr_add] at this
  simpa using this
def nthV : List Value → Nat → Option Value
  | [], _ => none
  | v :: _, 0 => some v
  | _ :: r, i + 1 => nthV r i
theorem nthV_eq : ∀ (l : List Value) (i : Nat), nthV l i = l[i]?
  | [], _ => by simp [nthV]
  | _ :: _, 0 => by simp [nthV]
  | _ :: r, i + 1 => by simp [nthV, nthV_eq r i]
theorem os_extract {vs : List Value} {i : Nat} (hx : Fr.ev fr x = some (.tuple vs.toArray)) (hv : nthV vs i = some v) : OS P n (.extract x i) ty fr w v w := os_of fun a ha => by
  rw [nthV_eq] at hv
  simp [execOp, ha.ev hx, Instr.extract, hv]
theorem os_makeFunc {f : Fn} {xs : List Operand} {vs : List Value} (hx : evL fr xs = some vs) : OS P n (.makeFunc f #[] xs.toArray) ty fr w (.func f #[] vs.toArray) w := os_of fun a ha => by
  simp [execOp, ha.evL hx, Instr.makeFunc]
end
end Go.Proofs.Ytpojijnjdlnokaa
