/- Texts joined: SzQ KitP SzM Rs Rw LyP Ls Rg. -/
import Derived.Test.YtpojijnjdlnokaaM6
import Derived.Test.YtpojijnjdlnokaaProg
import Derived.OpenShut
import Derived.ChangeOld
import Derived.SizedLaws
import Derived.Lib.SmallJoins
import Derived.RangeFuncIn
import Derived.RangeFuncOwn
/- Layer 11, plain law: what fits, fits with more room, with less in a layer, with a greater last threshold. No program in sight. -/
namespace Go.Proofs.Ytpojijnjdlnokaa

theorem sumW_le : ∀ (zs ys : List (Int × Int)), ys.length = zs.length → (∀ i, i < zs.length → widthW (ys.getD i (0, 0)).1 (ys.getD i (0, 0)).2 ≤ widthW (zs.getD i (0, 0)).1 (zs.getD i (0, 0)).2) → sumW ys ≤ sumW zs
  | [], [], _, _ => by simp [sumW]
  | [], _ :: _, h, _ => by simp at h
  | _ :: _, [], h, _ => by simp at h
  | z :: zs, y :: ys, h, hi => by
    have h0 := hi 0 (by simp)
    have := sumW_le zs ys (by simpa using h) fun i hl => by have := hi (i + 1) (by simpa using hl); simpa using this
    simp only [sumW]
    simp at h0
    omega

theorem zip_getD {a b : List Int} {i : Nat} (ha : i < a.length) (hb : i < b.length) : (a.zip b).getD i (0, 0) = (a.getD i 0, b.getD i 0) := by
  rw [List.getD_eq_getElem?_getD, List.getElem?_eq_getElem (by rw [List.length_zip]; omega)]
  simp [ha, hb]

theorem fits_iff {n m b : Int} {lens ks : List Int} : fitsB n m b lens ks = true ↔ roomOk n m b lens.length = true ∧ lensB lens = true ∧ ks.length = lens.length ∧ sortedB ks = true ∧
    (∀ i, i < lens.length → 1 ≤ ks.getD i 0 ∧ ks.getD i 0 ≤ n) ∧ sumW (lens.zip ks) ≤ roomW n m b lens.length := by
  unfold fitsB
  simp only [Bool.and_eq_true, decide_eq_true_eq, fitGo_iff]
  constructor
  · rintro ⟨⟨⟨⟨h1, h2⟩, h3⟩, h4⟩, h5, h6⟩
    refine ⟨h1, h2, h3, h4, fun i hi => ?_, ?_⟩
    · have := h5 (lens.getD i 0, ks.getD i 0) (by
        rw [← zip_getD hi (by omega)]
        rw [List.getD_eq_getElem?_getD, List.getElem?_eq_getElem (by rw [List.length_zip]; omega)]
        exact List.getElem_mem _)
      simp only [widthOk, decide_eq_true_eq] at this
      omega
    · rcases h6 with h6 | h6
      · have : lens.length = 0 := by
          have := congrArg List.length h6
          rw [List.length_zip, h3] at this
          simpa using this
        simp [lensB, betw, this] at h2
      · exact h6
  · rintro ⟨h1, h2, h3, h4, h5, h6⟩
    refine ⟨⟨⟨⟨h1, h2⟩, h3⟩, h4⟩, fun p hp => ?_, .inr h6⟩
    obtain ⟨i, hi, rfl⟩ := List.mem_iff_getElem.1 hp
    rw [List.length_zip] at hi
    have h7 := h5 i (by omega)
    have h8 : rightB n m b = true := by simp only [roomOk, Bool.and_eq_true] at h1; exact h1.1
    simp only [rightB, decide_eq_true_eq] at h8
    simp only [lensB, Bool.and_eq_true, Bool.not_eq_true', List.any_eq_false, betw, decide_eq_true_eq] at h2
    have h9 := h2.2 lens[i] (List.getElem_mem _)
    have e1 : ks.getD i 0 = ks[i] := by simp [show i < ks.length by omega]
    rw [e1] at h7
    simp only [List.getElem_zip, widthOk, decide_eq_true_eq]
    simp at h9
    omega

theorem getD_set_eq (l : List Int) (k : Nat) (v : Int) (i : Nat) (hi : i < l.length) : (l.set k v).getD i 0 = if k = i then v else l.getD i 0 := by
  simp [List.getElem?_set, hi]
  split <;> simp_all

theorem fits_room {n m b m' b' : Int} {lens ks : List Int} (h : fitsB n m b lens ks = true) (hm : m ≤ m') (hm' : m' ≤ 1500) (hb : b ≤ b') (hb' : b' ≤ 524288) :
    fitsB n m' b' lens ks = true ∧ roomOk n m' b' lens.length = true ∧ roomW n m b lens.length ≤ roomW n m' b' lens.length := by
  rw [fits_iff] at h
  obtain ⟨h1, h2, h3, h4, h5, h6⟩ := h
  have h7 : roomOk n m' b' lens.length = true := by
    simp only [roomOk, rightB, Bool.and_eq_true, decide_eq_true_eq] at h1 ⊢
    exact ⟨by omega, h1.2⟩
  have h8 : 1 ≤ n := by simp only [roomOk, rightB, Bool.and_eq_true, decide_eq_true_eq] at h1; omega
  have h9 := room_mono (l := lens.length) h8 hm hb
  exact ⟨fits_iff.2 ⟨h7, h2, h3, h4, h5, by omega⟩, h7, h9⟩

theorem fits_nonneg {n m b : Int} {lens ks : List Int} (h : fitsB n m b lens ks = true) : 0 ≤ roomW n m b lens.length := by
  have h0 := h
  unfold fitsB at h0
  simp only [Bool.and_eq_true, decide_eq_true_eq] at h0
  have hz := (fitGo_iff _ _).1 h0.2
  have : 0 ≤ sumW (lens.zip ks) := by
    have h2 := hz.1
    generalize lens.zip ks = zs at h2
    induction zs with
    | nil => simp [sumW]
    | cons q s ih => simp only [sumW]; have := (width_bd (h2 q (by simp)).2).1; have := ih (fun p hp => h2 p (by simp [hp])); omega
  rw [fits_iff] at h
  omega

theorem fits_short {n m b : Int} {lens ks : List Int} (h : fitsB n m b lens ks = true) {k : Nat} {v : Int} (hk : k < lens.length) (h0 : 0 ≤ v) (hv : v ≤ lens.getD k 0) : fitsB n m b (lens.set k v) ks = true := by
  rw [fits_iff] at h ⊢
  obtain ⟨h1, h2, h3, h4, h5, h6⟩ := h
  rw [List.length_set]
  have hl2 : lensB (lens.set k v) = true := by
    simp only [lensB, Bool.and_eq_true, Bool.not_eq_true', List.any_eq_false, List.length_set] at h2 ⊢
    refine ⟨h2.1, fun z hz => ?_⟩
    obtain ⟨i, hi, rfl⟩ := List.mem_iff_getElem.1 hz
    rw [List.length_set] at hi
    rw [List.getElem_set]
    have h7 := h2.2 lens[k] (List.getElem_mem _)
    have h8 := h2.2 lens[i] (List.getElem_mem _)
    simp [hk] at hv
    split
    · simp [betw] at h7 ⊢; omega
    · exact h8
  refine ⟨h1, hl2, h3, h4, h5, ?_⟩
  refine Int.le_trans (sumW_le _ _ (by simp) fun i hi => ?_) h6
  rw [List.length_zip] at hi
  rw [zip_getD (by simp; omega) (by omega), zip_getD (by omega) (by omega), getD_set_eq _ _ _ _ (by omega)]
  simp only []
  split
  · rename_i he; subst he; exact width_mono hv (h5 k hk).1
  · exact Int.le_refl _

theorem fits_more {n m b : Int} {lens ks : List Int} (h : fitsB n m b lens ks = true) : fitsB n m b lens (ks.set (ks.length - 1) n) = true := by
  rw [fits_iff] at h ⊢
  obtain ⟨h1, h2, h3, h4, h5, h6⟩ := h
  have hlen : 1 ≤ lens.length := by simp only [lensB, Bool.and_eq_true, betw, decide_eq_true_eq] at h2; omega
  have hlast := h5 (ks.length - 1) (by omega)
  have hnn : ∀ i, i < lens.length → 0 ≤ lens.getD i 0 := fun i hi => by
    simp only [lensB, Bool.and_eq_true, Bool.not_eq_true', List.any_eq_false, betw, decide_eq_true_eq] at h2
    have := h2.2 lens[i] (List.getElem_mem _)
    simp at this
    simp [hi]; omega
  refine ⟨h1, h2, by rw [List.length_set, h3], ?_, fun i hi => ?_, ?_⟩
  · simp only [sortedB, decide_eq_true_eq, List.length_set] at h4 ⊢
    intro i hi hi2
    rw [getD_set_eq _ _ _ _ hi, getD_set_eq _ _ _ _ hi2, if_neg (show ¬ ks.length - 1 = i by omega)]
    split
    · exact (h5 i (by omega)).2
    · exact h4 i hi hi2
  · rw [getD_set_eq _ _ _ _ (by omega)]
    split
    · omega
    · exact h5 i hi
  · refine Int.le_trans (sumW_le _ _ (by simp) fun i hi => ?_) h6
    rw [List.length_zip] at hi
    rw [zip_getD (by omega) (by simp; omega), zip_getD (by omega) (by omega), getD_set_eq _ _ _ _ (by omega)]
    simp only []
    split
    · rename_i he; exact width_anti (hnn i (by omega)) (h5 i (by omega)).1 (h5 i (by omega)).2
    · exact Int.le_refl _
end Go.Proofs.Ytpojijnjdlnokaa

/- The statements' own helpers: Pick. -/
namespace Go.Proofs.Ytpojijnjdlnokaa
open Go.RowKit

def pickV (x n : Int) : Int := if n < 1 then 0 else x % n
theorem pick_neg {x n : Int} (hn : ¬ n < 1) (h : x.tmod n < 0) : x.tmod n + n = x % n := by
  have h1 := Int.tmod_eq_emod (a := x) (b := n)
  rw [h1] at h ⊢
  have h2 : (n.natAbs : Int) = n := by omega
  split at h
  · have := Int.emod_nonneg x (show n ≠ 0 by omega); omega
  · rename_i hh; rw [if_neg hh, h2]; omega
theorem pick_pos {x n : Int} (hn : ¬ n < 1) (h : ¬ x.tmod n < 0) : x.tmod n = x % n := by
  have h1 := Int.tmod_eq_emod (a := x) (b := n)
  rw [h1] at h ⊢
  have h2 : (n.natAbs : Int) = n := by omega
  split at h
  · rename_i hh; rw [if_pos hh]; omega
  · rename_i hh; rw [if_neg hh, h2] 
    have := Int.emod_lt_of_pos x (show 0 < n by omega)
    omega
theorem tmod_fit {x n : Int} (hn : ¬ n < 1) (h2 : n ≤ 9223372036854775807) (h : x.tmod n < 0) : -9223372036854775808 ≤ x.tmod n + n ∧ x.tmod n + n ≤ 9223372036854775807 := by
  rw [pick_neg hn h]
  have := Int.emod_nonneg x (show n ≠ 0 by omega)
  have := Int.emod_lt_of_pos x (show 0 < n by omega)
  omega

theorem kit_Pick (x m : Int) (w : World) (hm : m ≤ 9223372036854775807) : Gives Try.prog 47 #[.int .i64 x, .int .i64 m] w fun v w' => v = .int .i64 (pickV x m) ∧ w' = w := by
  refine gives_enter Try.call47 Try.func47 rfl rfl rfl (by kernel_rfl) ?_
  refine v_seq ?_
  refine v_region ?_
  refine vl_val (os_assign rfl) ?_
  refine vl_nil ?_
  refine v_seq ?_
  refine v_seq ?_
  refine v_region ?_
  refine vl_val (os_move rfl) ?_
  refine vl_val (os_lss rfl rfl) ?_
  refine vl_nil ?_
  refine v_cond_d rfl (fun h => ?_) (fun h => ?_)
  · refine v_seq ?_
    refine v_region ?_
    refine vl_val (os_assign rfl) ?_
    refine vl_nil ?_
    refine v_ret ?_
    exact post_ret rfl rfl ⟨by rw [pickV, if_pos h], rfl⟩
  · refine v_skip ?_
    refine v_seq ?_
    refine v_region ?_
    refine vl_val (os_move rfl) ?_
    refine vl_val (os_move rfl) ?_
    refine vl_val (os_rem rfl rfl (by omega) rfl) ?_
    refine vl_val (os_assign rfl) ?_
    refine vl_nil ?_
    refine v_seq ?_
    refine v_seq ?_
    refine v_region ?_
    refine vl_val (os_move rfl) ?_
    refine vl_val (os_lss rfl rfl) ?_
    refine vl_nil ?_
    refine v_cond_d rfl (fun h2 => ?_) (fun h2 => ?_)
    · refine v_region ?_
      refine vl_val (os_move rfl) ?_
      refine vl_val (os_move rfl) ?_
      refine vl_val (os_addi rfl rfl (tmod_fit h hm h2)) ?_
      refine vl_val (os_assign rfl) ?_
      refine vl_nil ?_
      refine v_seq ?_
      refine v_region ?_
      refine vl_val (os_move rfl) ?_
      refine vl_val (os_assign rfl) ?_
      refine vl_nil ?_
      refine v_ret ?_
      exact post_ret rfl rfl ⟨by rw [pickV, if_neg h, pick_neg h h2], rfl⟩
    · refine v_skip ?_
      refine v_seq ?_
      refine v_region ?_
      refine vl_val (os_move rfl) ?_
      refine vl_val (os_assign rfl) ?_
      refine vl_nil ?_
      refine v_ret ?_
      exact post_ret rfl rfl ⟨by rw [pickV, if_neg h, pick_pos h h2], rfl⟩
end Go.Proofs.Ytpojijnjdlnokaa

/- Layer 11: awake, and the walk of SizeMore. -/
namespace Go.Proofs.Ytpojijnjdlnokaa
open Go.RowKit
set_option linter.unusedVariables false

theorem gives_eq {P : Program} {f : FuncId} {args : Array Value} {w : World} {u v : Value} {R : World → Prop} (h : Gives P f args w fun x w' => x = u ∧ R w') (e : u = v) : Gives P f args w fun x w' => x = v ∧ R w' := by subst e; exact h

theorem pick_bd (x : Int) {n : Int} (h : 1 ≤ n) : 0 ≤ pickV x n ∧ pickV x n < n := by
  unfold pickV
  rw [if_neg (by omega)]
  exact ⟨Int.emod_nonneg x (by omega), Int.emod_lt_of_pos x (by omega)⟩

end Go.Proofs.Ytpojijnjdlnokaa

/- Rows of parts of several cells each; and how an argument that is a list of structs, or of lists, opens. No program in sight. -/
namespace Go.Proofs.Ytpojijnjdlnokaa
open Go.ChangeShapes Go.WideShapes Go.ChangeAt Go.RowKit
set_option linter.unusedVariables false

/-- A leads to a row of parts of s cells each -/
def RdP (w : World) (s : Nat) (A : Option Addr) (ps : List (List Value)) : Prop :=
  ∀ (i : Nat) (c : List Value), ps[i]? = some c → ∃ b o, A = some ⟨b, o, none⟩ ∧ ∀ (j : Nat) (v : Value), c[j]? = some v → w.cell? ⟨b, o + i * s + j, none⟩ = some v
theorem RdP.keep {w w' s A ps} (h : RdP w s A ps) (hb : Below w.heap.size w w') : RdP w' s A ps := fun i c hc => by
  obtain ⟨b, o, e, h1⟩ := h i c hc
  exact ⟨b, o, e, fun j v hv => by
    have h2 := h1 j v hv
    have := World.block_lt_of_cell? w _ h2
    exact (hb.cell (p := ⟨b, o + i * s + j, none⟩) this).trans h2⟩
theorem RdP.led {w w' s A ps} (h : RdP w s A ps) (hb : LeD w w') : RdP w' s A ps := by obtain ⟨q, rfl⟩ := hb; exact h
theorem RdP.take {w s A ps} (h : RdP w s A ps) (n : Nat) : RdP w s A (ps.take n) := fun i c hc => by
  rw [List.getElem?_take] at hc
  split at hc
  · exact h i c hc
  · cases hc
theorem RdP.part {w s b o ps} (h : RdP w s (some ⟨b, o, none⟩) ps) {i : Nat} {c : List Value} (hc : ps[i]? = some c) : RdC w (some ⟨b, o + i * s, none⟩) c := fun hl => by
  obtain ⟨b', o', e, h1⟩ := h i c hc
  cases e
  exact ⟨b, o + i * s, rfl, fun j hj => by rw [h1 j c[j] (List.getElem?_eq_getElem hj), List.getElem?_eq_getElem hj]⟩
theorem RdP.cell {w s b o ps} (h : RdP w s (some ⟨b, o, none⟩) ps) {i j : Nat} {c : List Value} {v : Value} (hc : ps[i]? = some c) (hv : nthV c j = some v) : w.cell? ⟨b, o + i * s + j, none⟩ = some v := by
  rw [nthV_eq] at hv
  obtain ⟨b', o', e, h1⟩ := h i c hc
  cases e
  exact h1 j v hv
theorem RdP.toC {w A ps} (h : RdP w 1 A ps) (hl : ∀ c ∈ ps, c.length = 1) : RdC w A (ps.map (·.headD default)) := fun h0 => by
  have h0' : 0 < ps.length := by simpa using h0
  obtain ⟨b, o, e, _⟩ := h 0 _ (List.getElem?_eq_getElem h0')
  subst e
  refine ⟨b, o, rfl, fun i hi => ?_⟩
  have hi' : i < ps.length := by simpa using hi
  have h1 := hl ps[i] (List.getElem_mem _)
  obtain ⟨v, hv⟩ : ∃ v, ps[i] = [v] := by
    match hh : ps[i], h1 with
    | [v], _ => exact ⟨v, rfl⟩
  have := h.cell (i := i) (j := 0) (List.getElem?_eq_getElem hi') (v := v) (by rw [hv]; rfl)
  rw [Nat.mul_one, Nat.add_zero] at this
  rw [this]
  simp [hi', hv]
theorem RdC.toP {w A cs} (h : RdC w A cs) : RdP w 1 A (cs.map fun v => [v]) := fun i c hc => by
  have hi : i < cs.length := by simpa using (List.getElem?_eq_some_iff.1 hc).1
  obtain ⟨b, o, e, h1⟩ := h (by omega)
  refine ⟨b, o, e, fun j v hv => ?_⟩
  simp only [List.getElem?_map] at hc
  rw [List.getElem?_eq_getElem hi] at hc
  cases hc
  cases j with
  | zero => cases hv; rw [Nat.mul_one, Nat.add_zero, h1 i hi, List.getElem?_eq_getElem hi]
  | succ j => cases hv

section
variable {P : Program} {n : Cx} {fr : Fr} {w : World} {ty : TypeId} {x y z : Operand} {T T2 e : TypeId}
/-- a struct in a row is read whole -/
theorem os_loadP {A : Addr} {cs : List Value} {d : TypeDesc} (hu : P.underlying T = some d) (hd : (match d with | .struct _ | .array _ _ => true | _ => false) = true) (hs : (P.info? T).map (·.size) = some cs.length) (hx : Fr.ev fr x = some (.pointer (some A))) (hr : RdC w (some A) cs) :
    OS P n (.load T x) ty fr w (.agg cs.toArray) w := os_of fun a ha => by
  have hl : (loadCells A cs.length).run P w = .ok cs.toArray w := run_loadCells_list (P := P) w A cs (fun j u hu => by
    have hj := (List.getElem?_eq_some_iff.1 hu).1
    obtain ⟨b, off, e1, hc⟩ := hr (by omega)
    cases e1
    rw [addr_add, hc j hj]; exact hu)
  obtain ⟨i, hi, hi1⟩ : ∃ i, P.info? T = some i ∧ i.size = cs.length := by
    cases hq : P.info? T with
    | none => simp [hq] at hs
    | some i => exact ⟨i, rfl, by simpa [hq] using hs⟩
  have hagg : ∀ w, (isAgg T).run P w = .ok true w := fun w => by
    cases d <;> simp at hd <;> simp [isAgg, run_underlying hu]
  simp [execOp, ha.ev hx, Instr.loadAt, Instr.sureAddr, loadVar, hagg, sizeOf, typeInfo, hi, hi1, hl]
end

section
variable {H : Type} {enc : TypeId × Value → H} {P : Program} {w : World} {base : Nat} {spare : Nat → Bool} {held : Bool} {t e : TypeId} {fuel : Nat} {cs : List Value} {x : DataW H × List MemPlace}
theorem mem_all {d : DataW H} {m : Nat} (hm : m ∈ d.weights P e) : ∀ {l : List (DataW H)}, d ∈ l → m ∈ DataW.weightsAll P e l
  | c :: r, h => by
    simp only [DataW.weightsAll, List.mem_append]
    rcases List.mem_cons.1 h with rfl | h
    · exact .inl hm
    · exact .inr (mem_all hm h)
theorem sized_all {ts : List TypeId} {ds : List (DataW H)} (h : (DataW.weightsEach P ts ds).all (· ≤ reachBytes) = true) {j : Nat} {t : TypeId} {d : DataW H} (ht : ts[j]? = some t) (hd : ds[j]? = some d) : ∀ m ∈ d.weights P t, m ≤ reachBytes := fun m hm => by
  have := List.all_eq_true.1 h _ (DataW.weights_mem_each ht hd m hm)
  simpa using this
theorem open_parts {s : Nat} (ht : P.underlying t = some (.slice e)) (hC : P.cellsOf e = s) (h0 : 0 < s) (h : DataW.trod enc P w base spare held fuel t cs = some x) (hw : ∀ m ∈ x.1.weights P t, m ≤ reachBytes) :
    ∃ A len cap ps, cs = [.slice A len cap] ∧ ps.length = len ∧ len ≤ cap ∧ len * P.bytesOf e ≤ reachBytes ∧ RdP w s A ps ∧ ∀ c ∈ ps, c.length = s ∧ ∃ n y, DataW.trod enc P w base spare held n e c = some y ∧ ∀ m ∈ y.1.weights P e, m ≤ reachBytes := by
  subst hC
  rcases DataW.trod_slice ht h with ⟨rfl, _⟩ | ⟨a, len, cap, elems, rest, n, _, rfl, rfl, hb, hl, hm, hlen, hel, _, _⟩
  · exact ⟨none, 0, 0, [], rfl, rfl, Nat.le_refl _, by simp, fun i c hc => by simp at hc, fun c hc => by cases hc⟩
  · have hwl : len * P.bytesOf e ≤ reachBytes := by
      have := hw ((elems.length + rest.length) * P.bytesOf e) (by simp [DataW.weights, ht])
      exact Nat.le_trans (Nat.mul_le_mul_right _ (by omega)) this
    have hwe : ∀ y ∈ elems, ∀ m ∈ y.1.weights P e, m ≤ reachBytes := fun y hy m hm => hw m (by
      simp only [DataW.weights, ht, List.mem_cons, List.mem_append]
      exact .inr (.inl (mem_all hm (List.mem_map_of_mem hy))))
    have hparts : ∀ i, i < len → ∃ c, w.cells? base (a.add (i * P.cellsOf e)) (P.cellsOf e) = some c ∧ ∃ y, DataW.trod enc P w base spare held n e c = some y ∧ ∀ m ∈ y.1.weights P e, m ≤ reachBytes := fun i hi => by
      have h1 := hel i hi
      rw [List.getElem?_eq_getElem (by omega), Option.bind_eq_some_iff] at h1
      obtain ⟨c, h2, h3⟩ := h1
      exact ⟨c, h2, _, h3, hwe _ (List.getElem_mem _)⟩
    have hps : ∃ ps : List (List Value), ps.length = len ∧ ∀ i (c : List Value), ps[i]? = some c → w.cells? base (a.add (i * P.cellsOf e)) (P.cellsOf e) = some c ∧ ∃ y, DataW.trod enc P w base spare held n e c = some y ∧ ∀ m ∈ y.1.weights P e, m ≤ reachBytes := by
      clear hel h hw
      have : ∀ k, k ≤ len → ∃ ps : List (List Value), ps.length = k ∧ ∀ i (c : List Value), ps[i]? = some c → w.cells? base (a.add (i * P.cellsOf e)) (P.cellsOf e) = some c ∧ ∃ y, DataW.trod enc P w base spare held n e c = some y ∧ ∀ m ∈ y.1.weights P e, m ≤ reachBytes := by
        intro k
        induction k with
        | zero => intro _; exact ⟨[], rfl, fun i c hc => by simp at hc⟩
        | succ k ih =>
          intro hk
          obtain ⟨ps, h1, h2⟩ := ih (by omega)
          obtain ⟨c, h3, h4⟩ := hparts k (by omega)
          refine ⟨ps ++ [c], by simp [h1], fun i c' hc' => ?_⟩
          by_cases hi : i < k
          · rw [List.getElem?_append_left (by omega)] at hc'
            exact h2 i c' hc'
          · have hi2 : i = k := by have := (List.getElem?_eq_some_iff.1 hc').1; simp at this; omega
            subst hi2
            rw [List.getElem?_append_right (by omega), h1, Nat.sub_self] at hc'
            cases hc'
            exact ⟨h3, h4⟩
      exact this len (Nat.le_refl _)
    obtain ⟨ps, h1, h2⟩ := hps
    refine ⟨some a, len, cap, ps, rfl, h1, hl, hwl, fun i c hc => ?_, fun c hc => ?_⟩
    · have hi := (List.getElem?_eq_some_iff.1 hc).1
      obtain ⟨b, o, spot⟩ := a
      have hspot : spot = none := by
        obtain ⟨h3, _⟩ := h2 0 ps[0] (List.getElem?_eq_getElem (by omega))
        obtain ⟨_, h4, h5⟩ := World.cells?_some h3
        have h6 := h5 0 (by omega)
        rw [List.getElem?_eq_getElem (by omega)] at h6
        simpa [Addr.add] using World.cell?_spot h6
      subst hspot
      obtain ⟨h3, _⟩ := h2 i c hc
      obtain ⟨_, h4, h5⟩ := World.cells?_some h3
      refine ⟨b, o, rfl, fun j v hv => ?_⟩
      have hj := (List.getElem?_eq_some_iff.1 hv).1
      have h7 := h5 j (by omega)
      rw [addr_add, addr_add, hv] at h7
      exact h7
    · obtain ⟨i, hi⟩ := List.mem_iff_getElem?.1 hc
      obtain ⟨h3, y, h4⟩ := h2 i c hi
      exact ⟨(World.cells?_some h3).2.1, n, y, h4⟩
/-- an element that is a list of numbers -/
theorem open_nums {k : IntKind} (ht : P.underlying t = some (.slice e)) (he : P.underlying e = some (.int k)) (hC : P.cellsOf e = 1) (h : DataW.trod enc P w base spare held fuel t cs = some x) (hw : ∀ m ∈ x.1.weights P t, m ≤ reachBytes) :
    ∃ A len cap zs, cs = [.slice A len cap] ∧ zs.length = len ∧ len ≤ cap ∧ len * P.bytesOf e ≤ reachBytes ∧ Rd w k A zs ∧ ∀ z ∈ zs, (Lit.int k z).wf = true := by
  obtain ⟨A, len, cap, ps, rfl, h1, h2, h3, h4, h5⟩ := open_parts ht hC (by omega) h hw
  have hz : ∀ ps : List (List Value), (∀ c ∈ ps, c.length = 1 ∧ ∃ n y, DataW.trod enc P w base spare held n e c = some y ∧ ∀ m ∈ y.1.weights P e, m ≤ reachBytes) → ∃ zs : List Int, ps = zs.map (fun z => [Value.int k z]) ∧ ∀ z ∈ zs, (Lit.int k z).wf = true := by
    intro ps
    induction ps with
    | nil => intro _; exact ⟨[], rfl, fun z hz => by cases hz⟩
    | cons c r ih =>
      intro hh
      obtain ⟨zs, e1, e2⟩ := ih (fun c hc => hh c (by simp [hc]))
      obtain ⟨_, n, y, hy, _⟩ := hh c (by simp)
      obtain ⟨z, e3, _, e4⟩ := DataW.trod_int he hy
      exact ⟨z :: zs, by rw [e1, e3]; rfl, fun z' hz' => by rcases List.mem_cons.1 hz' with rfl | hz'; exact e4; exact e2 z' hz'⟩
  obtain ⟨zs, rfl, hwf⟩ := hz ps h5
  refine ⟨A, len, cap, zs, rfl, by simpa using h1, h2, h3, ?_, hwf⟩
  have := RdP.toC h4 (fun c hc => by obtain ⟨z, _, rfl⟩ := List.mem_map.1 hc; rfl)
  rw [List.map_map, show zs.map ((fun x => x.headD default) ∘ fun z => [Value.int k z]) = zs.map (Value.int k) from List.map_congr_left fun z _ => rfl] at this
  exact RdC.toRd this
/-- parts that each open to something -/
theorem parts_map {D : Type} (f : D → List Value) (G : D → Prop) : ∀ ps : List (List Value), (∀ c ∈ ps, ∃ d, f d = c ∧ G d) → ∃ ds : List D, ds.map f = ps ∧ ∀ d ∈ ds, G d
  | [], _ => ⟨[], rfl, fun d hd => by cases hd⟩
  | c :: r, h => by
    obtain ⟨ds, e1, e2⟩ := parts_map f G r (fun c hc => h c (by simp [hc]))
    obtain ⟨d, e3, e4⟩ := h c (by simp)
    exact ⟨d :: ds, by simp [e1, e3], fun d' hd' => by rcases List.mem_cons.1 hd' with rfl | hd'; exact e4; exact e2 d' hd'⟩
end
end Go.Proofs.Ytpojijnjdlnokaa

/- Structs of two numbers. No program in sight. -/
namespace Go.Proofs.Ytpojijnjdlnokaa
open Go.RowKit
set_option linter.unusedVariables false

def rowC (x : Int × Int) : List Value := [.int .i64 x.1, .int .i64 x.2]
theorem rowC_len (rows : List (Int × Int)) : ∀ c ∈ rows.map rowC, c.length = 2 := fun c hc => by obtain ⟨x, _, rfl⟩ := List.mem_map.1 hc; rfl
theorem rowC_one (rows : List (Int × Int)) : ∀ c ∈ rows.map rowC, ∀ u ∈ c, u.oneCell' = true := fun c hc u hu => by
  obtain ⟨x, _, rfl⟩ := List.mem_map.1 hc
  simp only [rowC, List.mem_cons, List.not_mem_nil, or_false] at hu
  rcases hu with rfl | rfl <;> rfl
theorem RdP.at2 {w : World} {A : Option Addr} {rows : List (Int × Int)} (h : RdP w 2 A (rows.map rowC)) {i : Nat} (hi : i < rows.length) : ∃ b o, A = some ⟨b, o, none⟩ ∧ w.cell? ⟨b, o + i * 2, none⟩ = some (.int .i64 (rows.getD i (0, 0)).1) ∧ w.cell? ⟨b, o + i * 2 + 1, none⟩ = some (.int .i64 (rows.getD i (0, 0)).2) ∧ RdC w (some ⟨b, o + i * 2, none⟩) (rowC (rows.getD i (0, 0))) := by
  have hc : (rows.map rowC)[i]? = some (rowC (rows.getD i (0, 0))) := by simp [hi]
  obtain ⟨b, o, e, hcell⟩ := h i _ hc
  subst e
  exact ⟨b, o, rfl, hcell 0 _ rfl, hcell 1 _ rfl, h.part hc⟩
end Go.Proofs.Ytpojijnjdlnokaa

/- Layer 10, plain: what a table is, how long a body is. No program in sight. -/
namespace Go.Proofs.Ytpojijnjdlnokaa
open Go.RowKit
set_option linter.unusedVariables false

def rowGood (n least : Int) (x : Int × Int) : Prop := least ≤ x.1 ∧ x.1 ≤ n ∧ 0 ≤ x.2 ∧ x.2 ≤ 65535
instance (n least : Int) (x : Int × Int) : Decidable (rowGood n least x) := by unfold rowGood; infer_instance
def layGo (n : Int) : Int → List (Int × Int) → Bool
  | _, [] => true
  | least, x :: r => decide (rowGood n least x) && layGo n x.1 r
def layOk (n : Int) (rows : List (Int × Int)) : Bool := decide (1 ≤ n ∧ n ≤ 255 ∧ 1 ≤ rows.length ∧ rows.length ≤ 8) && layGo n 1 rows
/-- the threshold ahead -/
def prevK (rows : List (Int × Int)) : Nat → Int
  | 0 => 1
  | i + 1 => (rows.getD i (0, 0)).1
theorem layGo_step {n : Int} {rows : List (Int × Int)} {i : Nat} (hi : i < rows.length) : layGo n (prevK rows i) (rows.drop i) = (decide (rowGood n (prevK rows i) (rows.getD i (0, 0))) && layGo n (prevK rows (i + 1)) (rows.drop (i + 1))) := by
  have e : rows.getD i (0, 0) = rows[i] := by simp [hi]
  rw [List.drop_eq_getElem_cons hi, layGo, show prevK rows (i + 1) = (rows.getD i (0, 0)).1 from rfl, e]
theorem layGo_all {n least : Int} {rows : List (Int × Int)} (h : layGo n least rows = true) (hl : 1 ≤ least) : ∀ x ∈ rows, least ≤ x.1 ∧ x.1 ≤ n ∧ 0 ≤ x.2 ∧ x.2 ≤ 65535 := by
  induction rows generalizing least with
  | nil => intro x hx; cases hx
  | cons y r ih =>
    simp only [layGo, Bool.and_eq_true, decide_eq_true_eq] at h
    obtain ⟨h1, h2⟩ := h
    unfold rowGood at h1
    intro x hx
    rcases List.mem_cons.1 hx with rfl | hx
    · exact h1
    · have := ih h2 (by omega) x hx; omega
theorem layOk_parts {n : Int} {rows : List (Int × Int)} (h : layOk n rows = true) : (1 ≤ n ∧ n ≤ 255) ∧ 1 ≤ rows.length ∧ rows.length ≤ 8 ∧ layGo n 1 rows = true ∧ ∀ i, i < rows.length → widthOk (rows.getD i (0, 0)).2 (rows.getD i (0, 0)).1 = true := by
  simp only [layOk, Bool.and_eq_true, decide_eq_true_eq] at h
  refine ⟨⟨h.1.1, h.1.2.1⟩, h.1.2.2.1, h.1.2.2.2, h.2, fun i hi => ?_⟩
  have := layGo_all h.2 (by omega) (rows.getD i (0, 0)) (by rw [List.getD_eq_getElem?_getD, List.getElem?_eq_getElem hi]; exact List.getElem_mem _)
  simp only [widthOk, decide_eq_true_eq]
  omega
/-- where stripe k begins -/
def offS (rows : List (Int × Int)) : Nat → Int
  | 0 => 0
  | k + 1 => offS rows k + widthV (rows.getD k (0, 0)).2 (rows.getD k (0, 0)).1
theorem offS_bd {rows : List (Int × Int)} : ∀ k, 0 ≤ offS rows k ∧ offS rows k ≤ k * 65535
  | 0 => by simp [offS]
  | k + 1 => by
    have h1 := offS_bd (rows := rows) k
    have h2 : 0 ≤ widthV (rows.getD k (0, 0)).2 (rows.getD k (0, 0)).1 ∧ widthV (rows.getD k (0, 0)).2 (rows.getD k (0, 0)).1 ≤ 65535 := by
      unfold widthV
      split
      · rename_i h; exact width_bd h
      · omega
    simp only [offS]
    omega
def longV (n : Int) (rows : List (Int × Int)) : Int := if layOk n rows then offS rows rows.length else 0
def ofV (n : Int) (rows : List (Int × Int)) : Int := if layOk n rows then 18 + 3 * rows.length + offS rows rows.length else 0
end Go.Proofs.Ytpojijnjdlnokaa

/- Literals of lists of structs. No program in sight. -/
namespace Go.Proofs.Ytpojijnjdlnokaa
open Go.RowKit
set_option linter.unusedVariables false

theorem fold_set (off : Nat) : ∀ (cs : List Value) (k : Nat) (a : Array Value), off + k + cs.length ≤ a.size →
    ((cs.zipIdx k).foldl (fun (a : Array Value) (x : Value × Nat) => a.setIfInBounds (off + x.2) x.1) a).toList = a.toList.take (off + k) ++ cs ++ a.toList.drop (off + k + cs.length)
  | [], k, a, _ => by simp
  | c :: r, k, a, h => by
    simp only [List.length_cons] at h
    rw [List.zipIdx_cons, List.foldl_cons, fold_set off r (k + 1) _ (by simp; omega)]
    have h1 : off + k < a.toList.length := by simp; omega
    rw [Array.toList_setIfInBounds, show off + (k + 1) = off + k + 1 by omega]
    have h2 : (a.toList.set (off + k) c).take (off + k + 1) = a.toList.take (off + k) ++ [c] := by
      rw [List.take_succ_eq_append_getElem (by simpa using h1), List.take_set, List.set_eq_of_length_le (by simp; omega)]
      simp
    rw [h2, List.drop_set, if_pos (by omega)]
    simp only [List.length_cons, List.append_assoc, List.singleton_append]
    rw [show off + k + 1 + r.length = off + k + (r.length + 1) by omega]
def aggs (css : List (List Value)) : List Value := css.map fun cs => .agg cs.toArray
theorem fill_many {s : Nat} (hs : 0 < s) : ∀ (css : List (List Value)) (i : Nat) (cells : Array Value), (∀ cs ∈ css, cs.length = s) → i * s + css.length * s = cells.size →
    Instr.fill (fun i => some (i * s, s)) cells (partsOf (aggs css) i) = some (cells.toList.take (i * s) ++ css.flatten).toArray
  | [], i, cells, _, hl => by
    simp only [aggs, List.map_nil, partsOf, Instr.fill, List.flatten_nil, List.append_nil]
    have : i * s = cells.toList.length := by simpa using hl
    rw [this, List.take_length]
  | cs :: r, i, cells, h1, hl => by
    have h2 := h1 cs (by simp)
    simp only [List.length_cons, Nat.add_mul, Nat.one_mul] at hl
    have hc : (Value.agg cs.toArray).cells = cs.toArray := rfl
    have hfold : (cs.toArray.zipIdx.foldl (fun (a : Array Value) (x : Value × Nat) => a.setIfInBounds (i * s + x.2) x.1) cells).toList = cells.toList.take (i * s) ++ cs ++ cells.toList.drop (i * s + s) := by
      have := fold_set (i * s) cs 0 cells (by omega)
      rw [Nat.add_zero, h2] at this
      rw [← this]
      simp
    have hsz : (cs.toArray.zipIdx.foldl (fun (a : Array Value) (x : Value × Nat) => a.setIfInBounds (i * s + x.2) x.1) cells).size = cells.size := by
      rw [← Array.length_toList, hfold]
      simp only [List.length_append, List.length_take, List.length_drop, Array.length_toList]
      omega
    have ih := fill_many hs r (i + 1) _ (fun c hc => h1 c (by simp [hc])) (by rw [hsz, Nat.add_mul, Nat.one_mul]; omega)
    simp only [aggs, List.map_cons, partsOf, Instr.fill, hc]
    rw [if_neg (by simp [h2]; omega)]
    simp only [aggs] at ih
    rw [ih, hfold]
    congr 2
    rw [Nat.add_mul, Nat.one_mul, List.take_append_of_le_length (by simp; omega), List.take_of_length_le (by simp; omega)]
    simp
theorem flat_at {s : Nat} : ∀ (css : List (List Value)) (i j : Nat) (c : List Value), (∀ cs ∈ css, cs.length = s) → css[i]? = some c → j < s → css.flatten[i * s + j]? = c[j]?
  | cs :: r, 0, j, c, h, hc, hj => by
    cases hc
    have := h cs (by simp)
    rw [List.flatten_cons, Nat.zero_mul, Nat.zero_add, List.getElem?_append_left (by omega)]
  | cs :: r, i + 1, j, c, h, hc, hj => by
    have h1 := h cs (by simp)
    rw [List.flatten_cons, List.getElem?_append_right (by rw [Nat.add_mul]; omega), h1, show (i + 1) * s + j - s = i * s + j by rw [Nat.add_mul]; omega]
    exact flat_at r i j c (fun c hc => h c (by simp [hc])) hc hj
theorem flat_len {s : Nat} : ∀ (css : List (List Value)), (∀ cs ∈ css, cs.length = s) → css.flatten.length = css.length * s
  | [], _ => by simp
  | cs :: r, h => by
    rw [List.flatten_cons, List.length_append, flat_len r (fun c hc => h c (by simp [hc])), h cs (by simp), List.length_cons, Nat.add_mul]; omega
theorem rdp_alloc (w : World) {s : Nat} (css : List (List Value)) (e : TypeId) (h : ∀ cs ∈ css, cs.length = s) : RdP (w.alloc (.cells css.flatten.toArray e)) s (some ⟨w.heap.size, 0, none⟩) css := fun i c hc => by
  refine ⟨_, 0, rfl, fun j v hv => ?_⟩
  have hj := (List.getElem?_eq_some_iff.1 hv).1
  rw [h c (List.mem_of_getElem? hc)] at hj
  rw [cell_of_row _ w.heap.size (0 + i * s + j) css.flatten.toArray e (0, 0) (heap_alloc_new w _)]
  simp only [List.getElem?_toArray]
  rw [Nat.zero_add, flat_at css i j c h hc hj]; exact hv
section
variable {P : Program} {n : Cx} {fr : Fr} {w : World} {ty : TypeId} {x y z : Operand} {T T2 e : TypeId}
/-- []T{..} of structs, all its elements written out -/
theorem os_litS {l s : Nat} {ps : List (Nat × Operand)} {css : List (List Value)} {z0 : Value} (hT : P.underlying T = some (.slice e)) (hs : ∀ w, (sizeOf e).run P w = .ok s w) (hz : ∀ w, (zeroValue e).run P w = .ok z0 w) (hx : evP fr ps 0 = some (aggs css)) (hl : l = css.length) (h1 : ∀ cs ∈ css, cs.length = s) (h0 : 0 < l) (hs0 : 0 < s) (h2 : l * s ≤ 16777216) :
    OS P n (.buildSlice T l ps.toArray) ty fr w (.slice (some ⟨w.heap.size, 0, none⟩) l l) (w.alloc (.cells css.flatten.toArray e)) := by
  subst hl
  refine os_of fun a ha => ?_
  have hp := ha.evP hx
  have hfill := fill_many hs0 css 0 ((Array.range (css.length * s)).map (fun i => z0.cells[i % z0.cells.size]!)) h1 (by simp)
  simp only [Nat.zero_mul, List.take_zero, List.nil_append] at hfill
  have hgt : ¬ css.length * s > 2 ^ 24 := by omega
  have hne : ¬ css.length * s = 0 := by
    have := Nat.mul_pos h0 hs0; omega
  have hps : List.map (fun p : Nat × Operand => (p.1, a.eval p.2)) ps = partsOf (aggs css) 0 := hp
  simp only [execOp, Instr.buildSlice, run_underlying hT, hs, hz, newRow, Result.andThen, Sem.run_bind, Sem.run_pure, hgt, hne, if_false, hps, hfill, List.map_toArray]
  rfl
end
end Go.Proofs.Ytpojijnjdlnokaa

/- Ranging over a function: the rounds of an iterator; a loop over it. No program in sight. -/
namespace Go.Proofs.Ytpojijnjdlnokaa
open Go.RowKit
set_option linter.unusedVariables false

/-- W' is W grown; of what lay there, blocks that are no cells may have turned, from B on -/
structure Nc (B : Nat) (W W' : World) : Prop where
  os : W'.os = W.os
  tape : W'.tape = W.tape
  output : W'.output = W.output
  size : W.heap.size ≤ W'.heap.size
  block : ∀ (k : Nat) (o : Obj), W.heap[k]? = some o → (k < B ∨ o.isCells = true) → W'.heap[k]? = some o
theorem Nc.refl (B : Nat) (W : World) : Nc B W W := ⟨rfl, rfl, rfl, Nat.le_refl _, fun _ _ h _ => h⟩
theorem Nc.trans {B : Nat} {a b c : World} (h : Nc B a b) (h' : Nc B b c) : Nc B a c := ⟨h'.os.trans h.os, h'.tape.trans h.tape, h'.output.trans h.output, Nat.le_trans h.size h'.size, fun k o hk ho => h'.block k o (h.block k o hk ho) ho⟩
theorem Nc.of_leg {B : Nat} {a b : World} (h : LeG a b) : Nc B a b := ⟨h.os, h.tape, h.output, h.size, fun k o hk _ => (h.block k (Array.getElem?_eq_some_iff.1 hk).1).trans hk⟩
theorem Nc.put {B l : Nat} {W : World} {o : Obj} (o' : Obj) (hl : B ≤ l) (ho : W.heap[l]? = some o) (hc : o.isCells = false) : Nc B W (W.putObj l o') :=
  ⟨rfl, rfl, rfl, by simp, fun k x hk hx => by
    rw [World.putObj_heap_other, hk]
    rintro rfl
    rw [ho] at hk; cases hk
    rcases hx with h | h
    · omega
    · rw [hc] at h; cases h⟩
theorem Nc.below {B n0 : Nat} {w0 W W' : World} (h : Nc B W W') (hb : Below n0 w0 W) (hB : n0 ≤ B) (hn : n0 ≤ w0.heap.size) : Below n0 w0 W' :=
  ⟨h.os.trans hb.os, h.tape.trans hb.tape, h.output.trans hb.output, Nat.le_trans hb.size h.size, fun k hk => by
    have hlt : k < w0.heap.size := by omega
    rw [← hb.block k hk]
    have : k < W.heap.size := Nat.lt_of_lt_of_le hlt hb.size
    rw [Array.getElem?_eq_getElem this]
    exact h.block k _ (Array.getElem?_eq_getElem this) (.inl (by omega))⟩
theorem Nc.cell {B : Nat} {W W' : World} (h : Nc B W W') {a : Addr} {v : Value} (hc : W.cell? a = some v) : W'.cell? a = some v := by
  obtain ⟨o, ho, hc'⟩ := cells_of_cell hc
  rw [World.cell?_of_block (a := a) ((h.block _ o ho (.inr hc')).trans ho.symm)]; exact hc
theorem Nc.frozen {B : Nat} {W W' : World} (h : Nc B W W') {a : Addr} {v : Value} (hc : W.cell? a = some v) : W'.frozen? a = W.frozen? a := by
  obtain ⟨o, ho, hc'⟩ := cells_of_cell hc
  exact World.frozen?_of_block (a := a) ((h.block _ o ho (.inr hc')).trans ho.symm)
theorem Nc.own {B B' : Nat} {W W' : World} (h : Nc B W W') {t : TypeId} {v : Value} {cs : List Value} (ho : Own W B' t v cs) : Own W' B' t v cs := by
  refine ⟨ho.1, ?_⟩
  rcases ho.2 with hn | ⟨g, cap, cur, rfl, hB0, hgg, rest⟩
  · exact .inl hn
  · exact .inr ⟨g, cap, cur, rfl, hB0, h.block _ _ hgg (.inr rfl), rest⟩
theorem Nc.bk {B : Nat} {W W' : World} (h : Nc B W W') {g : Nat} {cs : List Value} {t : TypeId} (hb : Bk W g cs t) : Bk W' g cs t := h.block _ _ hb (.inr rfl)
theorem Nc.rdc {B : Nat} {W W' : World} (h : Nc B W W') {A : Option Addr} {cs : List Value} (hr : RdC W A cs) : RdC W' A cs := fun h0 => by
  obtain ⟨b, o, e, hc⟩ := hr h0
  exact ⟨b, o, e, fun i hi => by rw [List.getElem?_eq_getElem hi]; exact h.cell (by rw [hc i hi, List.getElem?_eq_getElem hi])⟩
theorem Nc.rd {B : Nat} {W W' : World} (h : Nc B W W') {k : IntKind} {A : Option Addr} {zs : List Int} (hr : Rd W k A zs) : Rd W' k A zs := fun h0 => by
  obtain ⟨b, o, e, hc⟩ := hr h0
  exact ⟨b, o, e, fun i hi => h.cell (hc i hi)⟩
theorem Bk.setOther {w : World} {g g' : Nat} {cs : List Value} {t : TypeId} (h : Bk w g cs t) (hne : g' ≠ g) (i : Nat) (u : Value) : Bk (w.setCell ⟨g', i, none⟩ u) g cs t := (Below.heap_setCell _ _ _ _ (fun e => hne e.symm)).trans h
/-- what abides such turns -/
def Abd (B : Nat) (I : World → Prop) : Prop := ∀ W W', I W → Nc B W W' → I W'
theorem Abd.and {B : Nat} {I J : World → Prop} (h : Abd B I) (h' : Abd B J) : Abd B (fun W => I W ∧ J W) := fun W W' hh hn => ⟨h W W' hh.1 hn, h' W W' hh.2 hn⟩
theorem Abd.no {B : Nat} : Abd B (fun _ => False) := fun _ _ h _ => h

/-- blocks that are no cells stay, from B on -/
structure Kn (B : Nat) (W W' : World) : Prop where
  size : W.heap.size ≤ W'.heap.size
  block : ∀ (k : Nat) (o : Obj), B ≤ k → W.heap[k]? = some o → o.isCells = false → W'.heap[k]? = some o
theorem Kn.refl (B : Nat) (W : World) : Kn B W W := ⟨Nat.le_refl _, fun _ _ _ h _ => h⟩
theorem Kn.trans {B : Nat} {a b c : World} (h : Kn B a b) (h' : Kn B b c) : Kn B a c := ⟨Nat.le_trans h.size h'.size, fun k o hB hk ho => h'.block k o hB (h.block k o hB hk ho) ho⟩
theorem Kn.of_leg {B : Nat} {a b : World} (h : LeG a b) : Kn B a b := ⟨h.size, fun k o _ hk _ => (h.block k (Array.getElem?_eq_some_iff.1 hk).1).trans hk⟩
theorem Kn.alloc {B : Nat} (W : World) (o : Obj) : Kn B W (W.alloc o) := Kn.of_leg ((Below.refl _ _).alloc (Nat.le_refl _) _)
theorem Kn.grown {B : Nat} {W W' : World} {row : Option Nat} (h : W.grownBy W' row) (hr : ∀ r, row = some r → ∃ o : Obj, W.heap[r]? = some o ∧ o.isCells = true) : Kn B W W' :=
  ⟨h.size, fun k o _ hk ho => (h.block k (Array.getElem?_eq_some_iff.1 hk).1 (fun e => by
    obtain ⟨o', h1, h2⟩ := hr k e.symm
    rw [hk] at h1; cases h1; rw [ho] at h2; cases h2)).trans hk⟩
theorem Own.row_cells {W : World} {B : Nat} {t : TypeId} {v : Value} {cs : List Value} (ho : Own W B t v cs) : ∀ r, v.ownBlock = some r → ∃ o : Obj, W.heap[r]? = some o ∧ o.isCells = true := fun r e => by
  rcases ho.2 with hn | ⟨g, cap, cur, rfl, hB0, hgg, rest⟩
  · rw [hn.1] at e; cases e
  · cases e; exact ⟨_, hgg, rfl⟩
theorem Kn.set {B : Nat} {W : World} {a : Addr} {v : Value} (hc : W.cell? a = some v) (u : Value) : Kn B W (W.setCell a u) := by
  obtain ⟨o, ho, hc'⟩ := cells_of_cell hc
  refine ⟨by simp [World.setCell], fun k x _ hk hx => ?_⟩
  rw [Below.heap_setCell _ _ _ _ (fun e => ?_)]
  · exact hk
  · rw [e] at hk; rw [ho] at hk; cases hk; rw [hc'] at hx; cases hx

section
variable {P : Program} {n : Cx} {all rest : List Oper} {fr : Fr} {w w' : World} {Q : Exit → Fr → World → Prop} {d : Nat} {op : Op} {ty : TypeId} {pos : String} {aft : Array Edge} {v : Value}

/-- yield, called so in W, tells whether to go on -/
def YieldsAt (P : Program) (l : Nat) (args : Array Value) (W : World) (R : Bool → World → Prop) : Prop :=
  YieldAt (fw none) 0 P l args W fun e W' => ∃ b, e = .returned (.bool b) ∧ R b W'
/-- the rounds of a loop over an iterator -/
def Rounds (P : Program) (l : Nat) (args : Nat → List Value) (N : Nat) (J Jx : Nat → World → Prop) : Prop :=
  ∀ k W, J k W → k < N → YieldsAt P l (args k).toArray W fun b W' => (b = true → J (k + 1) W') ∧ (b = false → Jx k W')

theorem vl_yield {l : Nat} {c : Operand} {xs : List Operand} {ts : Array TypeId} {args : List Value} {R : Bool → World → Prop} (hc : Fr.ev fr c = some (.func (.yield l) #[] #[])) (hx : evL fr xs = some args) (h : YieldsAt P l args.toArray w R)
    (k : ∀ b w', R b w' → VL P n all rest ((d, .bool b) :: fr) w' Q) (hro : n.ro = none := by rfl) : VL P n all (⟨some d, .call ⟨.value c, xs.toArray, ts⟩, ty, pos, aft, none⟩ :: rest) fr w Q := by
  unfold VL at k ⊢
  intro hok a ha
  obtain ⟨h1, h2⟩ := dst_lt hok rfl
  obtain ⟨fn, tmps, ac, body, hy, hR⟩ := h
  unfold wpListIn
  simp only [Region.wanted, if_true]
  refine ⟨fun _ _ => trivial, ?_⟩
  have hrun : (execOp a.eval ⟨some d, .call ⟨.value c, xs.toArray, ts⟩, ty, pos, aft, none⟩).run P w = .ok (.round l fn tmps ac body) w := by
    simp [execOp, resolve, ha.ev hc, ha.evL hx, Deferred.ofValue, invoke, hy]
  rw [show (Oper.semAt (fw n.ro).round a.eval ⟨some d, .call ⟨.value c, xs.toArray, ts⟩, ty, pos, aft, none⟩).run P w = _ from semAt_run hrun (fun d w' e => by cases e)]
  rw [Oper.uponIn_round]
  refine ⟨fun h => by simp [fw] at h, ?_⟩
  rw [hro]
  refine RoundIn.mono hR ?_
  rintro e w' ⟨b, rfl, hb⟩
  have := k b w' hb h2 _ (ha.put h1 (.bool b))
  rw [hro] at this
  exact this

/-- what stands behind the first half of a sequence -/
def VR (P : Program) (n : Cx) (B y : Code) (fr : Fr) (w : World) (Q : Exit → Fr → World → Prop) : Prop :=
  codeOk n.sz B = true → codeOk n.sz y = true → ∀ a, Ag n fr a → B.wpIn (fw n.ro) 0 P (Exit.then (y.wpIn (fw n.ro) 0 P (up n Q)) (up n Q)) a w
def ThnR (P : Program) (n : Cx) (B y : Code) (Q : Exit → Fr → World → Prop) : Exit → Fr → World → Prop
  | .normal, fr, w => VR P n B y fr w Q
  | e, fr, w => Q e fr w
theorem v_range_seq {A B y : Code} (h : V P n A fr w (ThnR P n B y Q)) : V P n (.seq (.seq A B) y) fr w Q := by
  unfold V at h ⊢
  intro hok a ha
  simp only [codeOk, Bool.and_eq_true] at hok
  refine wpIn_seq (wpIn_seq (wpIn_mono (h hok.1.1 a ha) (fun e a' w' hh => ?_)))
  rcases hh with ⟨fr', h1, h2⟩ | ⟨rfl, h2⟩
  · cases e with
    | normal => exact h2 hok.1.2 hok.2 a' h1
    | _ => exact .inl ⟨fr', h1, h2⟩
  · exact .inr ⟨rfl, h2⟩

def zipFr : List Nat → List Value → Fr → Fr
  | p :: ps, v :: vs, fr => zipFr ps vs ((p, v) :: fr)
  | _, _, fr => fr
theorem zipFr_ag {C : Cx} (hds : C.ds = []) : ∀ (ps : List Nat) (vs : List Value) (fr : Fr) (t : Array Value), (ps.all fun p => Nat.blt p C.sz) = true → ps.length = vs.length → Ag C fr { tmps := t, defers := [] } →
    Ag C (zipFr ps vs fr) { tmps := (ps.zip vs).foldl (fun t (p, a) => t.setIfInBounds p a) t, defers := [] }
  | [], [], fr, t, _, _, h => h
  | p :: ps, v :: vs, fr, t, hp, hl, h => by
    simp only [List.all_cons, Bool.and_eq_true] at hp
    have h1 : p < C.sz := (Nat.blt_eq ..).mp hp.1
    have h2 := h.put h1 v
    exact zipFr_ag hds ps vs ((p, v) :: fr) (t.setIfInBounds p v) hp.2 (by simpa using hl) h2
  | [], _ :: _, _, _, _, hl, _ => by simp at hl
  | _ :: _, [], _, _, _, hl, _ => by simp at hl

/-- the jump by which a round leaves the loop -/
def jumpOf : Exit → Option Code
  | .ret => some .ret
  | .exit k => some (.exit k)
  | _ => none
/-- how a round may be left -/
def RPost (B : Nat) (J : World → Prop) (Ix : Exit → World → Prop) (W : World) : Exit → Fr → World → Prop
  | .normal, _, W' => Kn B W W' ∧ J W'
  | .ret, _, W' => Kn B W W' ∧ Ix .ret W'
  | .exit k, _, W' => Kn B W W' ∧ Ix (.exit k) W'
  | _, _, _ => False
def collD (D : Nat) : List Deferred := [{ target := .collected D, args := #[] }]
/-- the function's end behind a loop over a function -/
def PostE (n : Cx) (D : Nat) : Exit → Fr → World → Prop := fun e fr W => e = .ret ∧ ∀ a, Ag ⟨n.sz, none, collD D, n.esc⟩ fr a → n.esc a W

attribute [reducible] ThnR RPost
section
variable {fn : Func} {T : Value → World → Prop} {t t2 : Nat} {A : Addr} {u v2 : Value} {T1 : TypeId} {D : Nat}
theorem post_m {z : Nat} {ro : Option Nat} {ds : List Deferred} (hK : w.heap[D]? = some (.deferred (some []))) (hr : ∀ a, Ag ⟨z, none, collD D, EndM P fn T⟩ fr a → (results fn a.tmps).run P (w.putObj D (.deferred none)) = .ok v (w.putObj D (.deferred none)))
    (hT : T v (w.putObj D (.deferred none))) : PostE ⟨z, ro, ds, EndM P fn T⟩ D .ret fr w := ⟨rfl, fun a ha => ⟨D, v, ha.defers, hK, hr a ha, hT⟩⟩
theorem post_of (hr : ∀ a, Ag n fr a → (results fn a.tmps).run P w = .ok v w) (hT : T v w) : Post P n fn T .ret fr w := by unfold Post; exact ⟨v, hr, hT⟩
theorem res_ct (hf : fn.results = #[.cell t T1, .tmp t2]) (hg : Fr.get fr t = some (.pointer (some A))) (hg2 : Fr.get fr t2 = some v2) (hagg : ∀ w, (isAgg T1).run P w = .ok false w) (hc : w.cell? A = some u) {a : Act} (ha : Ag n fr a) : (results fn a.tmps).run P w = .ok (.tuple #[u, v2]) w := by
  have h1 : a.tmps.getD t undef = .pointer (some A) := by simp [Array.getD_eq_getD_getElem?, ha.at_ t _ hg]
  have h2 : a.tmps.getD t2 undef = v2 := by simp [Array.getD_eq_getD_getElem?, ha.at_ t2 _ hg2]
  simp only [Array.getD_eq_getD_getElem?] at h1 h2
  simp [results, hf, h1, h2, asAddr, loadVar, hagg, hc]
theorem res_cc {A2 : Addr} {u2 : Value} {T2 : TypeId} (hf : fn.results = #[.cell t T1, .cell t2 T2]) (hg : Fr.get fr t = some (.pointer (some A))) (hg2 : Fr.get fr t2 = some (.pointer (some A2))) (hagg : ∀ w, (isAgg T1).run P w = .ok false w) (hagg2 : ∀ w, (isAgg T2).run P w = .ok false w) (hc : w.cell? A = some u) (hc2 : w.cell? A2 = some u2) {a : Act} (ha : Ag n fr a) : (results fn a.tmps).run P w = .ok (.tuple #[u, u2]) w := by
  have h1 : a.tmps.getD t undef = .pointer (some A) := by simp [Array.getD_eq_getD_getElem?, ha.at_ t _ hg]
  have h2 : a.tmps.getD t2 undef = .pointer (some A2) := by simp [Array.getD_eq_getD_getElem?, ha.at_ t2 _ hg2]
  simp only [Array.getD_eq_getD_getElem?] at h1 h2
  simp [results, hf, h1, h2, asAddr, loadVar, hagg, hagg2, hc, hc2]
theorem res_c (hf : fn.results = #[.cell t T1]) (hg : Fr.get fr t = some (.pointer (some A))) (hagg : ∀ w, (isAgg T1).run P w = .ok false w) (hc : w.cell? A = some u) {a : Act} (ha : Ag n fr a) : (results fn a.tmps).run P w = .ok u w := by
  have h1 : a.tmps.getD t undef = .pointer (some A) := by simp [Array.getD_eq_getD_getElem?, ha.at_ t _ hg]
  simp only [Array.getD_eq_getD_getElem?] at h1
  simp [results, hf, h1, asAddr, loadVar, hagg, hc]
theorem res_t (hf : fn.results = #[.tmp t]) (hg : Fr.get fr t = some v) {a : Act} (ha : Ag n fr a) : (results fn a.tmps).run P w = .ok v w := by
  rw [results_tmp hf]; simp [Array.getD_eq_getD_getElem?, ha.at_ t v hg]
theorem res_tt (hf : fn.results = #[.tmp t, .tmp t2]) (hg : Fr.get fr t = some v) (hg2 : Fr.get fr t2 = some v2) {a : Act} (ha : Ag n fr a) : (results fn a.tmps).run P w = .ok (.tuple #[v, v2]) w := by
  rw [results_tmp2 hf]; simp [Array.getD_eq_getD_getElem?, ha.at_ t v hg, ha.at_ t2 v2 hg2]
end

set_option maxHeartbeats 1000000 in
theorem v_range {id : Nat} {g : Operand} {ps : List Nat} {ac body y : Code} {gf : FuncId} {lb : List Value} (N : Nat) (args : Nat → List Value) (I : Nat → World → Prop) (Ix : Exit → World → Prop) (FB : Nat → Fr)
    (he : Enters P gf) (hg : Fr.ev fr g = some (.func (.func gf) #[] lb.toArray)) (hps : ∀ k, ps.length = (args k).length) (hI : ∀ k, Abd w.heap.size (I k)) (hIx : ∀ e, Abd w.heap.size (Ix e)) (h0 : I 0 w)
    (hiter : ∀ (l : Nat) (J Jx : Nat → World → Prop) (W : World), LeG w W → (∀ k W, J k W → I k W) → (∀ k W W', J k W → LeG W W' → J k W') → (∀ k W W', Jx k W → LeG W W' → Jx k W') → Rounds P l args N J Jx → J 0 W →
      Gives P gf (Value.func (.yield l) #[] #[] :: lb).toArray W fun _ W' => J N W' ∨ ∃ k, Jx k W')
    (hassign : ∀ l k W, V P ⟨n.sz, some l, [], fun _ _ => False⟩ ac (zipFr ps (args k) fr) W fun e fr' W' => e = .normal ∧ W' = W ∧ Sub (FB k) fr')
    (hbody : ∀ l k W, k < N → I k W → V P ⟨n.sz, some l, [], fun _ _ => False⟩ body (FB k) W (RPost w.heap.size (I (k + 1)) Ix W))
    (hdone : ∀ D W, w.heap.size ≤ D → W.heap[D]? = some (.deferred (some [])) → I N W → V P ⟨n.sz, none, collD D, n.esc⟩ y fr W (PostE n D))
    (hret : ∀ D W, w.heap.size ≤ D → W.heap[D]? = some (.deferred (some [])) → Ix .ret W → PostE n D .ret fr W)
    (hexit : ∀ j D W, w.heap.size ≤ D → W.heap[D]? = some (.deferred (some [])) → Ix (.exit j) W → j = id ∧ V P ⟨n.sz, none, collD D, n.esc⟩ y fr W (PostE n D))
    (hro : n.ro = none := by rfl) (hds : n.ds = [] := by rfl) (hps2 : (ps.all fun p => Nat.blt p n.sz) = true := by rfl) (hok1 : codeOk n.sz ac = true := by kernel_rfl) (hok2 : codeOk n.sz body = true := by kernel_rfl) :
    VR P n (.block id (.rangeFunc g ps.toArray ac body)) y fr w Q := by
  unfold V at hassign hbody
  intro _ hokY a ha
  rw [fw_none hro]
  refine wpIn_block (wpIn_rangeFunc fun fn _ => ?_)
  obtain ⟨rec, hrec⟩ : ∃ rec : LoopState → Option Code → Loop, rec = fun st pe => { state := st, pending := pe, fn, tmps := a.tmps, params := ps.toArray, assign := ac, body, defers := w.heap.size } := ⟨_, rfl⟩
  obtain ⟨W1, hW1⟩ : ∃ W1, (w.alloc (.deferred (some []))).alloc (.loop (rec .ready none)) = W1 := ⟨_, rfl⟩
  obtain ⟨l, hl⟩ : ∃ l, l = w.heap.size + 1 := ⟨_, rfl⟩
  have hL1 : W1.heap[l]? = some (.loop (rec .ready none)) := by
    rw [← hW1, hl]; have := World.alloc_heap_new (w.alloc (.deferred (some []))) (.loop (rec .ready none)); rwa [World.size_alloc] at this
  have hK1 : W1.heap[w.heap.size]? = some (.deferred (some [])) := by
    rw [← hW1]; exact (Below.heap_alloc _ _ _ (by simp)).trans (World.alloc_heap_new w _)
  have hg1 : LeG w W1 := by
    rw [← hW1]; exact ((Below.refl _ w).alloc (Nat.le_refl _) _).alloc (by simp) _
  have hact : Ag ⟨n.sz, none, collD w.heap.size, n.esc⟩ fr { a with defers := collD w.heap.size ++ a.defers } := ⟨by rw [ha.defers, hds]; rfl, ha.size, ha.at_⟩
  -- behind the loop
  have hend : ∀ W, W.heap[w.heap.size]? = some (.deferred (some [])) → (V P ⟨n.sz, none, collD w.heap.size, n.esc⟩ y fr W (PostE n w.heap.size)) → y.wpIn Fence.wide 0 P (up n Q) { a with defers := collD w.heap.size ++ a.defers } W := by
    intro W hD hV
    unfold V at hV
    refine wpIn_mono (hV hokY _ hact) ?_
    rintro e a' w' (⟨fr', h1, rfl, h2⟩ | ⟨rfl, h2⟩)
    · exact .inr ⟨rfl, h2 a' h1⟩
    · exact .inr ⟨rfl, h2⟩
  have hendR : ∀ W, PostE n w.heap.size .ret fr W → up n Q .ret { a with defers := collD w.heap.size ++ a.defers } W := fun W h => .inr ⟨rfl, h.2 _ hact⟩
  refine ⟨l, collD w.heap.size, W1, { target := .fn (.func gf) lb.toArray, args := #[.func (.yield l) #[] #[]] }, W1, gf, #[.func (.yield l) #[] #[]] ++ lb.toArray, W1, ?_, ?_, fun _ _ => trivial, ?_, fun h => by simp [Fence.wide] at h, ?_⟩
  · rw [← hW1, hrec, hl]; exact run_enterLoop_outer _ _ _ _ _
  · simp only [resolve, ha.ev hg]
    simp [go_sem]
  · simp [invoke, he _ W1]
  · -- the rounds
    have hJ : ∀ (k : Nat) (st : LoopState) (pe : Option Code) (X : World → Prop), Abd w.heap.size X → ∀ W W', (X W ∧ W.heap[l]? = some (.loop (rec st pe)) ∧ W.heap[w.heap.size]? = some (.deferred (some []))) → LeG W W' →
        (X W' ∧ W'.heap[l]? = some (.loop (rec st pe)) ∧ W'.heap[w.heap.size]? = some (.deferred (some []))) := fun k st pe X hX W W' h hh =>
      ⟨hX W W' h.1 (Nc.of_leg hh), (hh.block _ (Array.getElem?_eq_some_iff.1 h.2.1).1).trans h.2.1, (hh.block _ (Array.getElem?_eq_some_iff.1 h.2.2).1).trans h.2.2⟩
    have hlw : w.heap.size ≤ l := by omega
    have hit := hiter l (fun k W => I k W ∧ W.heap[l]? = some (.loop (rec .ready none)) ∧ W.heap[w.heap.size]? = some (.deferred (some [])))
      (fun _ W => ∃ e c, jumpOf e = some c ∧ Ix e W ∧ W.heap[l]? = some (.loop (rec .done (some c))) ∧ W.heap[w.heap.size]? = some (.deferred (some []))) W1 hg1 (fun k W h => h.1)
      (fun k => hJ k .ready none (I k) (hI k)) (fun k W W' ⟨e, c, h1, h2⟩ hh => ⟨e, c, h1, hJ k .done (some c) (Ix e) (hIx e) W W' h2 hh⟩) ?_ ⟨hI 0 w W1 h0 (Nc.of_leg hg1), hL1, hK1⟩
    · unfold Gives at hit
      have hc := hit.2
      rw [show (Value.func (.yield l) #[] #[] :: lb).toArray = (#[.func (.yield l) #[] #[]] ++ lb.toArray : Array Value) by simp] at hc
      refine callsIn_wide.2 (hc.mono ?_)
      rintro e W2 ⟨v, rfl, hh⟩
      rcases hh with ⟨hi, hL, hK⟩ | ⟨k, e, c, hj, hi, hL, hK⟩
      · refine ⟨none, _, by have := run_endLoop (P := P) hL (by rw [hrec]; simp); rw [hrec] at this; exact this, ?_⟩
        exact hend _ ((World.putObj_heap_other (by omega)).trans hK) (hdone _ _ (Nat.le_refl _) ((World.putObj_heap_other (by omega)).trans hK) (hI N _ _ hi (Nc.put _ hlw hL rfl)))
      · refine ⟨some c, _, by have := run_endLoop (P := P) hL (by rw [hrec]; simp); rw [hrec] at this; exact this, ?_⟩
        have hi' := hIx e _ _ hi (Nc.put (.loop { rec .done (some c) with state := .exhausted }) hlw hL rfl)
        have hK' : (W2.putObj l (.loop { rec .done (some c) with state := .exhausted })).heap[w.heap.size]? = some (.deferred (some [])) := (World.putObj_heap_other (by omega)).trans hK
        rw [hrec] at hi' hK'
        cases e with
        | ret => cases hj; exact wpIn_ret (hendR _ (hret _ _ (Nat.le_refl _) hK' hi'))
        | exit j =>
          cases hj
          obtain ⟨rfl, hV⟩ := hexit j _ _ (Nat.le_refl _) hK' hi'
          refine wpIn_exit ?_
          have := hend _ hK' hV
          simpa [Exit.inBlock, Exit.then] using this
        | _ => cases hj
    · rintro k W ⟨hi, hL, hK⟩ hk
      have hy := run_yield (P := P) (args := (args k).toArray) hL (by rw [hrec]; simpa using (hps k).symm)
      rw [hrec] at hy
      refine ⟨fn, _, ac, body, hy, roundIn_of_wpIn trivial ?_⟩
      have hag0 : Ag ⟨n.sz, some l, [], fun _ _ => False⟩ fr { tmps := a.tmps, defers := [] } := ⟨rfl, ha.size, ha.at_⟩
      have hag := zipFr_ag (C := ⟨n.sz, some l, [], fun _ _ => False⟩) rfl ps (args k) fr a.tmps hps2 (hps k) hag0
      have ht : ((ps.toArray.zip (args k).toArray).foldl (fun tmps (t, a) => tmps.setIfInBounds t a) a.tmps) = (ps.zip (args k)).foldl (fun t (p, a) => t.setIfInBounds p a) a.tmps := by simp
      have hlt : l < W.heap.size := (Array.getElem?_eq_some_iff.1 hL).1
      have hb := run_beginRound (P := P) hL (by rw [hrec])
      show Code.wpIn (fw (some l)) 0 P _ _ _ W
      have hkL : (W.putObj l (.loop { rec .ready none with state := .busy })).heap[l]? = some (.loop { rec .ready none with state := .busy }) := World.putObj_heap_same hlt
      have hkK : (W.putObj l (.loop { rec .ready none with state := .busy })).heap[w.heap.size]? = some (.deferred (some [])) := (World.putObj_heap_other (by omega)).trans hK
      have hkI := hI k _ _ hi (Nc.put (.loop { rec .ready none with state := .busy }) hlw hL rfl)
      rw [ht]
      refine wpIn_mono (hassign l k W hok1 _ hag) ?_
      rintro e a1 W' (⟨fr1, h1, rfl, rfl, h3⟩ | ⟨_, h⟩)
      · refine ⟨_, hb, wpIn_mono (hbody l k _ hk hkI hok2 a1 (h1.sub h3)) ?_⟩
        have fin : ∀ (jump : Option Code) (W3 : World), Kn w.heap.size (W'.putObj l (.loop { rec .ready none with state := .busy })) W3 →
            (Instr.endRound l jump).run P W3 = .ok (.bool jump.isNone) (W3.putObj l (.loop (rec (if jump.isNone then .ready else .done) jump))) ∧ Nc w.heap.size W3 (W3.putObj l (.loop (rec (if jump.isNone then .ready else .done) jump))) ∧
            (W3.putObj l (.loop (rec (if jump.isNone then .ready else .done) jump))).heap[l]? = some (.loop (rec (if jump.isNone then .ready else .done) jump)) ∧
            (W3.putObj l (.loop (rec (if jump.isNone then .ready else .done) jump))).heap[w.heap.size]? = some (.deferred (some [])) := fun jump W3 hk3 => by
          have hl3 := hk3.block _ _ hlw hkL rfl
          have hd3 := hk3.block _ _ (Nat.le_refl _) hkK rfl
          have := run_endRound (P := P) jump hl3
          refine ⟨?_, Nc.put _ hlw hl3 rfl, World.putObj_heap_same (Array.getElem?_eq_some_iff.1 hl3).1, (World.putObj_heap_other (by omega)).trans hd3⟩
          rw [hrec] at this ⊢
          exact this
        rintro e a3 W3 (⟨fr3, h4, h5⟩ | ⟨_, h⟩)
        · cases e with
          | normal =>
            obtain ⟨h6, h7⟩ := h5
            obtain ⟨r1, r2, r3, r4⟩ := fin none W3 h6
            exact ⟨_, _, r1, true, rfl, fun _ => ⟨hI _ _ _ h7 r2, r3, r4⟩, fun h => by cases h⟩
          | ret =>
            obtain ⟨h6, h7⟩ := h5
            obtain ⟨r1, r2, r3, r4⟩ := fin (some .ret) W3 h6
            exact ⟨_, _, r1, (some Code.ret).isNone, rfl, fun h => by simp at h, fun _ => ⟨.ret, .ret, rfl, hIx .ret _ _ h7 r2, r3, r4⟩⟩
          | exit j =>
            obtain ⟨h6, h7⟩ := h5
            obtain ⟨r1, r2, r3, r4⟩ := fin (some (.exit j)) W3 h6
            exact ⟨_, _, r1, (some (Code.exit j)).isNone, rfl, fun h => by simp at h, fun _ => ⟨.exit j, .exit j, rfl, hIx (.exit j) _ _ h7 r2, r3, r4⟩⟩
          | _ => exact h5.elim
        · exact h.elim
      · exact h.elim
end
section
variable {P : Program} {n : Cx} {fr : Fr} {w : World} {ty T : TypeId}
theorem os_alloc1 {z0 : Value} (hz : ∀ w, (zeroValue T).run P w = .ok z0 w) (h1 : z0.cells = #[z0]) : OS P n (.alloc T) ty fr w (.pointer (some ⟨w.heap.size, 0, none⟩)) (w.alloc (.cells [z0].toArray T)) := by
  have := os_alloc (P := P) (n := n) (ty := ty) (fr := fr) (w := w) hz
  rw [h1] at this
  exact this
end
end Go.Proofs.Ytpojijnjdlnokaa
