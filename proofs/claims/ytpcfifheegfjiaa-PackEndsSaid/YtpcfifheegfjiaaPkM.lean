/- Layer 8: calls of writers and readers, one behind the other. -/
import Derived.Test.YtpcfifheegfjiaaPkL
import Derived.Test.YtpcfifheegfjiaaRs
namespace Go.Proofs.Ytpcfifheegfjiaa
open Go.RowKit
set_option linter.unusedVariables false

/-- a call, as it lies in memory -/
structure DoV where
  what : Int
  n : Int
  size : Int
  A : Option Addr
  l : Nat
  c : Nat
  bs : List Int
def DoV.cells (d : DoV) : List Value := [.int .i64 d.what, .int .i64 d.n, .int .i64 d.size, .slice d.A d.l d.c]
structure DoOk (w : World) (d : DoV) : Prop where
  rd : Rd w .u8 d.A d.bs
  len : d.bs.length = d.l
  max : d.l ≤ 140737488351232
  y : AllY d.bs
structure RdDo (w : World) (A : Option Addr) (ds : List DoV) : Prop where
  row : RdP w 4 A (ds.map DoV.cells)
  each : ∀ d ∈ ds, DoOk w d
theorem RdDo.keep {w w' : World} {A : Option Addr} {ds : List DoV} (h : RdDo w A ds) (hb : Below w.heap.size w w') : RdDo w' A ds :=
  ⟨h.row.keep hb, fun d hd => let o := h.each d hd; ⟨o.rd.keep hb, o.len, o.max, o.y⟩⟩
theorem RdDo.led {w w' : World} {A : Option Addr} {ds : List DoV} (h : RdDo w A ds) (hb : LeD w w') : RdDo w' A ds := h.keep (led_below hb)
theorem RdDo.at_ {w : World} {A : Option Addr} {ds : List DoV} (h : RdDo w A ds) {i : Nat} {d : DoV} (hd : ds[i]? = some d) : ∃ b o, A = some ⟨b, o, none⟩ ∧ RdC w (some ⟨b, o + i * 4, none⟩) d.cells ∧ DoOk w d := by
  have h1 : (ds.map DoV.cells)[i]? = some d.cells := by rw [List.getElem?_map, hd]; rfl
  obtain ⟨b, o, e, _⟩ := h.row i _ h1
  subst e
  exact ⟨b, o, rfl, h.row.part h1, h.each d (List.mem_of_getElem? hd)⟩
theorem RdC.c4 {w : World} {b o : Nat} {v0 v1 v2 v3 : Value} (h : RdC w (some ⟨b, o, none⟩) [v0, v1, v2, v3]) : w.cell? ⟨b, o, none⟩ = some v0 ∧ w.cell? ⟨b, o + 1, none⟩ = some v1 ∧ w.cell? ⟨b, o + 2, none⟩ = some v2 ∧ w.cell? ⟨b, o + 3, none⟩ = some v3 := by
  obtain ⟨b', o', e, hc⟩ := h (by simp)
  cases e
  exact ⟨hc 0 (by simp), hc 1 (by simp), hc 2 (by simp), hc 3 (by simp)⟩

def sumL (ds : List DoV) : Nat := (ds.map (·.l)).sum
theorem sumL_take {ds : List DoV} {i : Nat} {d : DoV} (hd : ds[i]? = some d) : sumL (ds.take (i + 1)) = sumL (ds.take i) + d.l := by
  obtain ⟨hi, rfl⟩ := List.getElem?_eq_some_iff.1 hd
  rw [List.take_succ_eq_append_getElem hi]
  simp only [sumL, List.map_append, List.sum_append, List.map_cons, List.map_nil, List.sum_cons, List.sum_nil, Nat.add_zero]
theorem sumL_le {ds : List DoV} (i : Nat) : sumL (ds.take i) ≤ sumL ds := by
  have : sumL ds = sumL (ds.take i) + sumL (ds.drop i) := by
    conv => lhs; rw [← List.take_append_drop i ds]
    simp only [sumL, List.map_append, List.sum_append]
  omega

set_option maxHeartbeats 1000000 in
theorem law08_size (A : Option Addr) (n c : Nat) (ds : List DoV) (w : World) (ha : RdDo w A ds) (hn : n = ds.length) (hm : n ≤ 140737488351232) : Gives Try.prog 54 #[.slice A n c] w fun v w' => (∃ N : Nat, v = .int .i64 N ∧ (N ≤ 2000 → ds.length + sumL ds ≤ 2000)) ∧ w' = w := by
  refine gives_enter Try.call54 Try.func54 rfl rfl rfl (by kernel_rfl) ?_
  refine v_seq ?_
  refine v_region ?_
  refine vl_val (os_assign rfl) ?_
  refine vl_nil ?_
  refine v_seq ?_
  refine v_region ?_
  refine vl_val (os_move rfl) ?_
  refine vl_val (os_len Try.underlying49 rfl) ?_
  refine vl_val (os_assign rfl) ?_
  refine vl_nil ?_
  refine v_seq ?_
  refine v_seq ?_
  refine v_region ?_
  refine vl_val (os_assign rfl) ?_
  refine vl_nil ?_
  refine v_block ?_
  refine v_loop2 [(0, _)] (fun (N : Nat) (i : Nat) => [(3, .int .i64 N), (4, .int .i64 i)]) (fun N i w' => i ≤ n ∧ N = n + sumL (ds.take i) ∧ N ≤ 200000000000000 ∧ w' = w) (fun N i => n - i) (n) (0) ⟨rfl, trivial⟩ ⟨rfl, rfl, trivial⟩ (⟨by omega, by simp [sumL], by omega, rfl⟩) ?_
  rintro N i w' ⟨hi, hN, hN2, rfl⟩
  rcases (by omega : n ≤ i ∨ (i < n ∧ 2000 < N) ∨ (i < n ∧ N ≤ 2000)) with h | ⟨h, h2⟩ | ⟨h, h2⟩
  · refine v_seq ?_
    refine v_seq ?_
    refine v_region ?_
    refine vl_val (os_move rfl) ?_
    refine vl_val (os_move rfl) ?_
    refine vl_val (os_len Try.underlying49 rfl) ?_
    refine vl_val (os_f (os_lss rfl rfl) (by omega)) ?_
    refine vl_val (os_move rfl) ?_
    refine vl_skip rfl rfl ?_
    refine vl_skip rfl rfl ?_
    refine vl_val (os_pick_f rfl rfl) ?_
    refine vl_nil ?_
    refine v_cond_f rfl ?_
    refine v_exit ?_
    refine v_seq ?_
    refine v_region ?_
    refine vl_val (os_move rfl) ?_
    refine vl_val (os_assign rfl) ?_
    refine vl_nil ?_
    refine v_ret ?_
    exact post_ret rfl rfl (⟨⟨N, rfl, fun hh => by rw [List.take_of_length_le (by omega)] at hN; omega⟩, rfl⟩)
  · refine v_seq ?_
    refine v_seq ?_
    refine v_region ?_
    refine vl_val (os_move rfl) ?_
    refine vl_val (os_move rfl) ?_
    refine vl_val (os_len Try.underlying49 rfl) ?_
    refine vl_val (os_t (os_lss rfl rfl) (by omega)) ?_
    refine vl_val (os_move rfl) ?_
    refine vl_valg rfl (os_move rfl) ?_
    refine vl_valg rfl (os_leq rfl rfl) ?_
    refine vl_val (os_pick_t rfl rfl) ?_
    refine vl_nil ?_
    refine v_cond_no rfl (by omega) ?_
    refine v_exit ?_
    refine v_seq ?_
    refine v_region ?_
    refine vl_val (os_move rfl) ?_
    refine vl_val (os_assign rfl) ?_
    refine vl_nil ?_
    refine v_ret ?_
    exact post_ret rfl rfl (⟨⟨N, rfl, fun hh => by omega⟩, rfl⟩)
  · refine v_seq ?_
    refine v_seq ?_
    refine v_region ?_
    refine vl_val (os_move rfl) ?_
    refine vl_val (os_move rfl) ?_
    refine vl_val (os_len Try.underlying49 rfl) ?_
    refine vl_val (os_t (os_lss rfl rfl) (by omega)) ?_
    refine vl_val (os_move rfl) ?_
    refine vl_valg rfl (os_move rfl) ?_
    refine vl_valg rfl (os_leq rfl rfl) ?_
    refine vl_val (os_pick_t rfl rfl) ?_
    refine vl_nil ?_
    refine v_cond_yes rfl (by omega) ?_
    have hd : ds[i]? = some ds[i] := List.getElem?_eq_getElem (by omega)
    obtain ⟨b, o, rfl, hc, hk⟩ := ha.at_ hd
    have hmax := hk.max
    refine v_skip ?_
    refine v_seq ?_
    refine v_block ?_
    refine v_region ?_
    refine vl_val (os_move rfl) ?_
    refine vl_val (os_move rfl) ?_
    refine vl_val (os_move rfl) ?_
    refine vl_val (os_ixs Try.underlying49 Try.sizeOf58 rfl rfl (i := i) (by omega) (by omega)) ?_
    refine vl_val (os_fa (o := 3) (k := 0) (by kernel_rfl) rfl) ?_
    refine vl_val (os_load Try.isAgg22 rfl (hc.c4.2.2.2)) ?_
    refine vl_val (os_len Try.underlying22 rfl) ?_
    refine vl_val (os_addi rfl rfl (by omega)) ?_
    refine vl_val (os_assign rfl) ?_
    refine vl_nil ?_
    refine v_region ?_
    refine vl_val (os_move rfl) ?_
    refine vl_val (os_addi rfl rfl (by omega)) ?_
    refine vl_val (os_assign rfl) ?_
    refine vl_nil ?_
    exact ⟨⟨N + ds[i].l, i + 1⟩, ⟨rfl, trivial⟩, ⟨rfl, rfl, trivial⟩, ⟨by omega, by rw [sumL_take hd]; omega, by omega, rfl⟩, by dsimp only; omega⟩

/-- what a writer has, and what broke it, behind a call -/
def wStep (s : List Int × Int) (d : DoV) : List Int × Int := if pickV d.what 2 = 0 then (wrBytes s.1 s.2 d.n d.size, wrErr s.2 d.n d.size) else (if s.2 = 0 then s.1 ++ d.bs else s.1, s.2)
def wAll (ds : List DoV) : List Int × Int := ds.foldl wStep ([], 0)
theorem wAll_snoc {ds : List DoV} {i : Nat} {d : DoV} (hd : ds[i]? = some d) : wAll (ds.take (i + 1)) = wStep (wAll (ds.take i)) d := by
  obtain ⟨hi, rfl⟩ := List.getElem?_eq_some_iff.1 hd
  rw [List.take_succ_eq_append_getElem hi]
  simp only [wAll, List.foldl_append, List.foldl_cons, List.foldl_nil]
theorem wStep_len (s : List Int × Int) (d : DoV) (h : d.bs.length = d.l) : (wStep s d).1.length ≤ s.1.length + 4 + d.l := by
  unfold wStep wrBytes
  split
  · dsimp only
    split
    · rename_i h2
      have := of_decide_eq_true h2.2
      rw [List.length_append, numBytes_len]; omega
    · omega
  · dsimp only
    split
    · rw [List.length_append]; omega
    · omega
theorem wAll_len (ds : List DoV) (h : ∀ d ∈ ds, d.bs.length = d.l) : ∀ i, i ≤ ds.length → (wAll (ds.take i)).1.length ≤ 4 * i + sumL (ds.take i) := by
  intro i
  induction i with
  | zero => intro _; simp [wAll, sumL]
  | succ i ih =>
    intro hi
    have hd : ds[i]? = some ds[i] := List.getElem?_eq_getElem (by omega)
    have h1 := wStep_len (wAll (ds.take i)) ds[i] (h _ (List.getElem_mem _))
    have h2 := ih (by omega)
    rw [wAll_snoc hd, sumL_take hd]
    omega
/-- the bytes of a call -/
def itB (d : DoV) : List Int := if pickV d.what 2 = 0 then numBytes d.n d.size.toNat else d.bs
def okD (d : DoV) : Bool := if pickV d.what 2 = 0 then fitsB d.n d.size else true
theorem wStep_ok {bs : List Int} {d : DoV} (h : okD d = true) : wStep (bs, 0) d = (bs ++ itB d, 0) := by
  unfold wStep itB okD wrBytes wrErr at *
  split at h
  · rename_i h1; simp [h1, h]
  · rename_i h1; simp [h1]
theorem wStep_bad {bs : List Int} {d : DoV} (h : okD d = false) : wStep (bs, 0) d = (bs, 2) := by
  unfold wStep okD wrBytes wrErr at *
  split at h
  · rename_i h1; simp [h1, h]
  · cases h
theorem wStep_err {bs : List Int} {d : DoV} {e : Int} (h : e ≠ 0) : wStep (bs, e) d = (bs, e) := by
  unfold wStep wrBytes wrErr
  simp [h]
theorem wFold_err : ∀ (ds : List DoV) (bs : List Int) (e : Int), e ≠ 0 → ds.foldl wStep (bs, e) = (bs, e)
  | [], _, _, _ => rfl
  | d :: r, bs, e, h => by rw [List.foldl_cons, wStep_err h, wFold_err r bs e h]
theorem wFold (ds : List DoV) : ∀ bs : List Int, (ds.foldl wStep (bs, 0) = (bs ++ ds.flatMap itB, 0) ∧ ∀ d ∈ ds, okD d = true) ∨ (ds.foldl wStep (bs, 0)).2 = 2 := by
  induction ds with
  | nil => intro bs; exact .inl ⟨by simp, fun d hd => by cases hd⟩
  | cons d r ih =>
    intro bs
    rw [List.foldl_cons]
    cases h : okD d with
    | true =>
      rw [wStep_ok h]
      rcases ih (bs ++ itB d) with ⟨h1, h2⟩ | h1
      · exact .inl ⟨by rw [h1]; simp, fun d' hd' => by rcases List.mem_cons.1 hd' with rfl | hd'; exact h; exact h2 d' hd'⟩
      · exact .inr h1
    | false =>
      rw [wStep_bad h, wFold_err r bs 2 (by omega)]
      exact .inr rfl
theorem wAll_cases (ds : List DoV) : (wAll ds = (ds.flatMap itB, 0) ∧ ∀ d ∈ ds, okD d = true) ∨ (wAll ds).2 = 2 := by
  rcases wFold ds [] with ⟨h1, h2⟩ | h1
  · exact .inl ⟨by simpa [wAll] using h1, h2⟩
  · exact .inr h1

set_option maxHeartbeats 1000000 in
theorem law08_put (g : Nat) (v : Value) (st : List Int × Int) (d : DoV) (B : Nat) (w : World) (hw : WrS w B 113 g v st.1 st.2) (hk : DoOk w d) (hB : B ≤ w.heap.size) (hl : st.1.length + 4 + d.l ≤ 100000000) :
    Gives Try.prog 64 #[.pointer (some ⟨g, 0, none⟩), .agg d.cells.toArray] w fun u w' => ∃ v', WrS w' B 113 g v' (wStep st d).1 (wStep st d).2 ∧ Kb (WrS.blocks g v) w w' ∧ (v'.ownBlock = v.ownBlock ∨ ∃ h, v'.ownBlock = some h ∧ w.heap.size ≤ h) := by
  have hx := bk_new w d.cells 58
  have hb0 : Below w.heap.size w (w.alloc (.cells d.cells.toArray 58)) := (Below.refl _ _).alloc (Nat.le_refl _) _
  have hw0 : WrS (w.alloc (.cells d.cells.toArray 58)) B 113 g v st.1 st.2 := ⟨hw.bk.alloc _, Own.alloc hw.own _, hw.low, hw.ne⟩
  have hkb := Kb.of_below (S := WrS.blocks g v) hb0
  refine gives_enter Try.call64 Try.func64 rfl rfl rfl (by kernel_rfl) ?_
  refine v_seq ?_
  refine v_region ?_
  refine vl_val (os_box rfl) ?_
  refine vl_nil ?_
  refine v_seq ?_
  refine v_region ?_
  refine vl_val (os_fa (o := 0) (k := 0) (by kernel_rfl) rfl) ?_
  refine vl_val (os_load Try.isAgg3 rfl (hx.cell (i := 0) rfl)) ?_
  refine vl_call (kit_Pick d.what 2 _ (by omega)) rfl ?_
  rintro v1 w1 ⟨rfl, rfl⟩
  refine vl_val (os_eql rfl rfl) ?_
  refine vl_nil ?_
  refine v_cond_d rfl (fun h => ?_) (fun h => ?_)
  · refine v_region ?_
    refine vl_val (os_move rfl) ?_
    refine vl_val (os_fa (o := 1) (k := 0) (by kernel_rfl) rfl) ?_
    refine vl_val (os_load Try.isAgg3 rfl (hx.cell (i := 1) rfl)) ?_
    refine vl_val (os_fa (o := 2) (k := 0) (by kernel_rfl) rfl) ?_
    refine vl_val (os_load Try.isAgg3 rfl (hx.cell (i := 2) rfl)) ?_
    refine vl_call (pk_Number g v st.1 st.2 d.n d.size B _ hw0 (by simp; omega) (by omega)) rfl ?_
    rintro v2 w2 ⟨v3, h3, k3, o3⟩
    refine vl_nil ?_
    exact post_end0 rfl (⟨v3, by rw [wStep, if_pos h]; exact h3, hkb.trans k3 (fun k hk => .inl hk), by rcases o3 with o3 | ⟨x, o3, o4⟩; exact .inl o3; exact .inr ⟨x, o3, by simp at o4; omega⟩⟩)
  · refine v_region ?_
    refine vl_val (os_move rfl) ?_
    refine vl_val (os_fa (o := 3) (k := 0) (by kernel_rfl) rfl) ?_
    refine vl_val (os_load Try.isAgg22 rfl (hx.cell (i := 3) rfl)) ?_
    refine vl_call (pk_Put g v st.1 st.2 B _ _ _ d.bs _ hw0 (hk.rd.keep hb0) hk.len.symm (by simp; omega) (by omega)) rfl ?_
    rintro v2 w2 ⟨v3, h3, k3, o3⟩
    refine vl_nil ?_
    exact post_end0 rfl (⟨v3, by rw [wStep, if_neg h]; exact h3, hkb.trans k3 (fun k hk => .inl hk), by rcases o3 with o3 | ⟨x, o3, o4⟩; exact .inl o3; exact .inr ⟨x, o3, by simp at o4; omega⟩⟩)
end Go.Proofs.Ytpcfifheegfjiaa
