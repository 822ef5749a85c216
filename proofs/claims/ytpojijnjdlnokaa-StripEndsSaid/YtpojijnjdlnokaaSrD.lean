/- Layer 9: the walk of StripDoes. -/
import Derived.Test.YtpojijnjdlnokaaSrJ
import Derived.Test.YtpojijnjdlnokaaFsR
namespace Go.Proofs.Ytpojijnjdlnokaa
open Go.RowKit
set_option linter.unusedVariables false

section
variable {P : Program} {n : Cx} {fr : Fr} {w : World} {ty T e : TypeId}
/-- a list of one-cell values, written out: a new row of one's own -/
theorem ot_litV (vs : List Value) {l : Nat} {ps : List (Nat × Operand)} {z0 : Value} (hT : P.underlying T = some (.slice e)) (hs : ∀ w, (sizeOf e).run P w = .ok 1 w) (hz : ∀ w, (zeroValue e).run P w = .ok z0 w) (hz1 : z0.cells.size = 1) (hx : evP fr ps 0 = some vs) (hone : oneCells vs = true) (hl : l = vs.length) (h2 : l ≤ 16777216) :
    OT P n (.buildSlice T l ps.toArray) ty fr w fun v w' => v = .slice (some ⟨w.heap.size, 0, none⟩) l l ∧ Own w' w.heap.size e v vs ∧ w'.heap.size = w.heap.size + 1 ∧ Below w.heap.size w w' := by
  subst hl
  exact (os_lit hT hs hz hz1 hx (by simp) hone h2).ot ⟨rfl, own_alloc (B := w.heap.size) w vs e (Nat.le_refl _) (by simp [maxLen]; omega), by simp, (Below.refl _ _).alloc (Nat.le_refl _) _⟩
end
section
variable {P : Program} {n : Cx} {all rest : List Oper} {fr : Fr} {w : World} {Q : Exit → Fr → World → Prop} {d : Nat} {op : Op} {ty : TypeId} {pos : String} {aft : Array Edge}
theorem vl_someg {T : Value → World → Prop} {j : Nat} {b : Bool} (hg : guardF all fr j = some (.bool b)) (h : OT P n op ty fr w T) (k : ∀ v w', T v w' → VL P n all rest ((d, v) :: fr) w' Q) : VL P n all (⟨some d, op, ty, pos, aft, some (j, b)⟩ :: rest) fr w Q := by
  unfold VL
  intro hok a ha
  obtain ⟨h1, h2⟩ := dst_lt hok rfl
  unfold OT at h
  obtain ⟨v, w', hr, ht⟩ := h a ha
  have k' := k v w' ht
  unfold VL at k'
  unfold wpListIn
  simp only [Region.wanted, guardF_yields ha hg, BEq.rfl, if_true]
  exact in_value (by rw [execOp_bare, hr]) (k' h2 _ (ha.put h1 v))
end
/-- what is cut, or nothing -/
structure CutU (w : World) (B : Nat) (bs : List Int) (wd K g : Nat) (out : Value) : Prop where
  own : Own w B 22 out ((List.range K).map (segV g wd))
  all : 0 < K → OwnK w B 5 .u8 (.slice (some ⟨g, 0, none⟩) (wd * K) (wd * K)) (padL bs (wd * K))
  ne : 0 < K → out.ownBlock ≠ some g
  K255 : K ≤ 255
  wd65 : wd ≤ 65535
  room : 0 < K → bs.length ≤ wd * K
  rds : ∃ A c, out = .slice A K c ∧ RdS w .u8 A (rowsOf bs wd K)
theorem CutU.keep {w w' B bs wd K g out} (h : CutU w B bs wd K g out) (hb : Below w.heap.size w w') : CutU w' B bs wd K g out := by
  obtain ⟨A, c, e, hr⟩ := h.rds
  exact ⟨h.own.keepAll hb, fun h0 => Own.keepAll (h.all h0) hb, h.ne, h.K255, h.wd65, h.room, A, c, e, hr.keep hb⟩
theorem CutR.u {w B bs k wd K g out} (h : CutR w B bs k wd K g out) : CutU w B bs wd K g out := by
  obtain ⟨A, c, e, _, hr⟩ := h.rds
  exact ⟨h.own, fun _ => h.all, fun _ => h.ne, h.K255, h.wd65, fun _ => h.room.1, A, c, e, hr⟩
theorem cutU_none {w B bs} : CutU w B bs 0 0 0 (.slice none 0 0) := ⟨Own.nil _ _ _, fun h => absurd h (by omega), fun h => absurd h (by omega), by omega, by omega, fun h => absurd h (by omega), none, 0, rfl, RdS.nil⟩

/-- a joined list: no room behind it -/
theorem join_e {w : World} {B : Nat} {A : Option Addr} {c L : Nat} {zs : List Int} {N : Nat} (h : OwnK w B 5 .u8 (.slice A N c) zs) (hL : L ≤ zs.length) : OwnE w B 5 (.slice A L L) ((zs.take L).map (Value.int .u8)) ∧ Rd w .u8 A (zs.take L) := by
  refine ⟨?_, (OwnK.rd h).take L⟩
  have hl : ((zs.take L).map (Value.int .u8)).length = L := by rw [List.length_map, List.length_take]; omega
  have hN := OwnK.len h
  rcases h.2 with ⟨h1, h2⟩ | ⟨g, cap, cur, h1, _⟩
  · injection h1 with e1 e2 e3
    subst e1
    have e0 : L = 0 := by simp at h2; omega
    subst e0
    exact .inl (by simpa using Own.nil w B 5)
  · injection h1 with e1 e2 e3
    subst e1
    refine .inr ⟨g, c, by rw [hl], ?_⟩
    rw [hl]
    have := Own.cut h (m := L) (by omega)
    rwa [← List.map_take] at this

theorem OwnE.mono {w B B' t v cs} (h : OwnE w B t v cs) (hB : B' ≤ B) : OwnE w B' t v cs := by
  rcases h with h | ⟨g, c, rfl, h⟩
  · exact .inl (h.mono hB)
  · exact .inr ⟨g, c, rfl, h.mono hB⟩
theorem flC_seg {zs : List Int} {wd : Nat} : ∀ {K : Nat}, flC (fun j => ((zs.drop (j * wd)).take wd).map (Value.int .u8)) K = (zs.take (K * wd)).map (Value.int .u8)
  | 0 => by simp [flC]
  | K + 1 => by rw [flC, flC_seg, ← List.map_append, Nat.add_mul, Nat.one_mul, List.take_add]
theorem four_at {a b : List Value} {x y u : Value} {j : Nat} (h : ((([] ++ a) ++ b) ++ [x] ++ [y])[j]? = some u) : (j < a.length ∧ a[j]? = some u) ∨ (∃ i, j = a.length + i ∧ i < b.length ∧ b[i]? = some u) ∨ (j = a.length + b.length ∧ u = x) ∨ (j = a.length + b.length + 1 ∧ u = y) := by
  rw [List.nil_append] at h
  have hl := (List.getElem?_eq_some_iff.1 h).1
  simp at hl
  by_cases h1 : j < a.length
  · rw [List.getElem?_append_left (by simp; omega), List.getElem?_append_left (by simp; omega), List.getElem?_append_left h1] at h
    exact .inl ⟨h1, h⟩
  by_cases h2 : j < a.length + b.length
  · rw [List.getElem?_append_left (by simp; omega), List.getElem?_append_left (by simp; omega), List.getElem?_append_right (by omega)] at h
    exact .inr (.inl ⟨j - a.length, by omega, by omega, h⟩)
  by_cases h3 : j = a.length + b.length
  · rw [List.getElem?_append_left (by simp; omega), List.getElem?_append_right (by simp; omega)] at h
    rw [show j - (a ++ b).length = 0 by simp; omega] at h
    exact .inr (.inr (.inl ⟨h3, by simpa using h.symm⟩))
  · rw [List.getElem?_append_right (by simp; omega)] at h
    rw [show j - (a ++ b ++ [x]).length = 0 by simp; omega] at h
    exact .inr (.inr (.inr ⟨by omega, by simpa using h.symm⟩))
theorem seg_get {K g wd i : Nat} {u : Value} (h : ((List.range K).map (segV g wd))[i]? = some u) : i < K ∧ u = segV g wd i := by
  have hl := (List.getElem?_eq_some_iff.1 h).1
  have hi : i < K := by simpa using hl
  rw [List.getElem?_map, List.getElem?_range hi] at h
  exact ⟨hi, by simpa using h.symm⟩
theorem all4 {P : Nat → Value → Prop} {a b c d : Value} (h0 : P 0 a) (h1 : P 1 b) (h2 : P 2 c) (h3 : P 3 d) : ∀ (j : Nat) (v : Value), [a, b, c, d][j]? = some v → P j v := by
  intro j v hj
  rcases j with _ | _ | _ | _ | j
  · cases hj; exact h0
  · cases hj; exact h1
  · cases hj; exact h2
  · cases hj; exact h3
  · simp at hj
theorem sep4 {a b c d : Value} (h1 : sep a b) (h2 : sep a c) (h3 : sep a d) (h4 : sep b c) (h5 : sep b d) (h6 : sep c d) : ∀ (i j : Nat) (v u : Value), [a, b, c, d][i]? = some v → [a, b, c, d][j]? = some u → i < j → sep v u := by
  intro i j v u hi hj hij
  rcases i with _ | _ | _ | _ | i <;> rcases j with _ | _ | _ | _ | j <;> simp at hi hj <;> (try omega) <;> subst hi <;> subst hj <;> assumption

theorem Own.rdc {w : World} {B : Nat} {t : TypeId} {A : Option Addr} {n c : Nat} {cs : List Value} (h : Own w B t (.slice A n c) cs) : RdC w A cs := by
  obtain ⟨A', c', e, _, _, hr, _⟩ := Own.form h
  cases e; exact hr
set_option maxHeartbeats 8000000 in
theorem law09_StripDoes (B : Option Addr) (m d : Nat) (bs : List Int) (k : Int) (A : Option Addr) (n c : Nat) (ls : List (List Int)) (long : Int) (w : World) (hb : Rd w .u8 B bs) (hm : m = bs.length) (hm' : m ≤ 140737488351232) (hk1 : -9223372036854775808 ≤ k ∧ k ≤ 9223372036854775807)
    (ha : RdS w .u8 A ls) (hn : n = ls.length) (hn' : n ≤ 140737488351232) (hl1 : -9223372036854775808 ≤ long ∧ long ≤ 9223372036854775807) :
    Gives Try.prog 3 #[.slice B m d, .int .i64 k, .slice A n c, .int .i64 long] w fun v w' => v = .bool true ∧ Below w.heap.size w w' := by
  refine gives_enter Try.call3 Try.func3 rfl rfl rfl (by kernel_rfl) ?_
  refine v_seq ?_
  refine v_region ?_
  refine vl_val (os_assign rfl) ?_
  refine vl_nil ?_
  refine v_seq ?_
  refine v_seq ?_
  refine v_region ?_
  refine vl_val (os_move rfl) ?_
  refine vl_val (os_len Try.underlying22 rfl) ?_
  refine vl_val (os_move rfl) ?_
  refine vl_call (law09_size A n c ls w ha hn hn') rfl ?_
  rintro v1 w ⟨⟨N, rfl, hN2, hN⟩, rfl⟩
  refine vl_val (os_addi rfl rfl (by omega)) ?_
  refine vl_val (os_gtr rfl rfl) ?_
  refine vl_nil ?_
  refine v_cond_d rfl (fun hbig => ?_) (fun hbig => ?_)
  · refine v_seq ?_
    refine v_region ?_
    refine vl_call (law09_awake w) rfl ?_
    rintro v1 w1 ⟨rfl, hb1⟩
    refine vl_val (os_assign rfl) ?_
    refine vl_nil ?_
    refine v_ret ?_
    exact post_ret rfl rfl (⟨rfl, hb1⟩)
  · have hsz := hN (by omega)
    have hlen : ∀ l ∈ ls, l.length ≤ 10000000 := fun l hl => by have := lenS_mem l hl; omega
    have hm2 : m ≤ 70000 := by omega
    refine v_skip ?_
    refine v_seq ?_
    refine v_region ?_
    refine vl_val (os_move rfl) ?_
    refine vl_call (kit_LentBytes B m d bs w hb hm (by omega)) rfl ?_
    rintro v1 w1 ⟨hI, b1⟩
    obtain ⟨g1, C1, rfl, hC1, hM1, hg1, hg1', rd1⟩ := hI.form
    refine vl_val (os_move rfl) ?_
    refine vl_call (kit_LentRows2 A n c ls w1 (ha.keep b1) hn (by omega) hlen) rfl ?_
    rintro v2 w2 ⟨⟨us, hL, hP⟩, b12⟩
    obtain ⟨A2, c2, rfl, -⟩ := Own.form hL.own
    have hul : us.length = ls.length := hL.len
    refine vl_val (os_assign rfl) ?_
    refine vl_val (os_assign rfl) ?_
    refine vl_nil ?_
    refine v_seq ?_
    refine v_region ?_
    refine vl_val (os_move rfl) ?_
    refine vl_val (os_move rfl) ?_
    refine vl_call (strip_Cut (some ⟨g1, 0, none⟩) _ C1 bs k w2 (rd1.keep b12) rfl (by omega) hk1) rfl ?_
    rintro v3 w3 ⟨b23, h3⟩
    rw [← hm] at h3
    obtain ⟨a3, wd, K, g, rfl, hU, hKf, hKt⟩ : ∃ a3 wd K g, v3 = .tuple #[a3, .int .i64 (errE (widthOk m k))] ∧ CutU w3 w2.heap.size bs wd K g a3 ∧ (widthOk m k = false → K = 0 ∧ wd = 0) ∧ (widthOk m k = true → (wd : Int) = widthW m k ∧ (K : Int) = k) := by
      rcases h3 with ⟨h, rfl⟩ | ⟨h, wd, K, g, out, rfl, hC⟩
      · exact ⟨_, 0, 0, 0, by rw [h]; rfl, cutU_none, fun _ => ⟨rfl, rfl⟩, fun h' => by rw [h] at h'; cases h'⟩
      · have q1 := hC.wd_
        have q2 := hC.K_
        rw [← hm] at q1
        exact ⟨out, wd, K, g, by rw [h]; rfl, hC.u, fun h' => (by rw [h] at h'; cases h'), fun _ => ⟨q1, q2⟩⟩
    refine vl_val (os_move rfl) ?_
    refine vl_val (os_extract rfl rfl) ?_
    refine vl_val (os_extract rfl rfl) ?_
    refine vl_val (os_assign rfl) ?_
    refine vl_val (os_assign rfl) ?_
    refine vl_nil ?_
    refine v_seq ?_
    refine v_region ?_
    refine vl_val (os_move rfl) ?_
    refine vl_val (os_move rfl) ?_
    refine vl_call (r9_Cut B m d bs k w3 (hb.keep (b1.trans ((b12.trans (b23.mono b12.size)).mono b1.size))) hm hm') rfl ?_
    rintro v4 w4 ⟨b34, h4⟩
    obtain ⟨A4, c4, rfl, hR4⟩ : ∃ A4 c4, v4 = .tuple #[.slice A4 K c4, .int .i64 (errE (widthOk m k))] ∧ RdS w4 .u8 A4 (rowsOf bs wd K) := by
      rcases h4 with ⟨h, rfl⟩ | ⟨h, wd2, K2, A4, c4, rfl, e1, e2, hR⟩
      · obtain ⟨rfl, rfl⟩ := hKf h
        exact ⟨none, 0, by rw [h]; rfl, RdS.nil⟩
      · obtain ⟨q1, q2⟩ := hKt h
        obtain rfl : wd = wd2 := by omega
        obtain rfl : K = K2 := by omega
        exact ⟨A4, c4, by rw [h]; rfl, hR⟩
    have hS4 : RdS w4 .u8 A2 ls := (hL.keep (b23.trans (b34.mono b23.size))).rds (by rw [hul]) (fun l hl => by have := hlen l hl; omega)
    refine vl_val (os_move rfl) ?_
    refine vl_val (os_extract rfl rfl) ?_
    refine vl_val (os_extract rfl rfl) ?_
    refine vl_val (os_assign rfl) ?_
    refine vl_val (os_assign rfl) ?_
    refine vl_nil ?_
    refine v_seq ?_
    refine v_region ?_
    refine vl_val (os_move rfl) ?_
    refine vl_val (os_move rfl) ?_
    refine vl_call (strip_Join A2 us.length c2 ls long w4 hS4 hul (by omega) hl1) rfl ?_
    rintro v5 w5 ⟨b45, h5⟩
    have b04 : Below w.heap.size w w4 := b1.trans ((b12.trans ((b23.trans (b34.mono b23.size)).mono b12.size)).mono b1.size)
    obtain ⟨E, J, Aj, rfl, hJe, hJr, hJl, h5⟩ : ∃ (E : Int) (J : List Int) (Aj : Option Addr), v5 = .tuple #[.slice Aj J.length J.length, .int .i64 E] ∧ OwnE w5 w4.heap.size 5 (.slice Aj J.length J.length) (J.map (Value.int .u8)) ∧ Rd w5 .u8 Aj J ∧ J.length ≤ 70000 ∧
        ((widthOk long ls.length = false ∧ E = 2 ∧ J = []) ∨ (widthOk long ls.length = true ∧ (∃ l ∈ ls, (l.length : Int) ≠ widthW long ls.length) ∧ E = 4 ∧ J = []) ∨ (widthOk long ls.length = true ∧ (∀ l ∈ ls, (l.length : Int) = widthW long ls.length) ∧ E = 0 ∧ J = ls.flatten.take long.toNat)) := by
      have nilE : OwnE w5 w4.heap.size 5 (.slice none 0 0) (([] : List Int).map (Value.int .u8)) := .inl (Own.nil _ _ _)
      cases h5 with
      | arg h => exact ⟨2, [], none, rfl, nilE, Rd.nil, by simp, .inl ⟨h, rfl, rfl⟩⟩
      | shape h l hl hne => exact ⟨4, [], none, rfl, nilE, Rd.nil, by simp, .inr (.inl ⟨h, ⟨l, hl, hne⟩, rfl, rfl⟩)⟩
      | ok h he L c A hL hle ho =>
        have hj := join_e ho hle
        have hl : (ls.flatten.take L).length = L := by rw [List.length_take]; omega
        have hok : long ≤ 65535 := by simp [widthOk] at h; omega
        exact ⟨0, ls.flatten.take L, A, by rw [hl], by rw [hl]; exact hj.1, hj.2, by rw [hl]; omega, .inr (.inr ⟨h, he, rfl, by rw [show long.toNat = L by omega]⟩)⟩
    refine vl_val (os_move rfl) ?_
    refine vl_val (os_extract rfl rfl) ?_
    refine vl_val (os_extract rfl rfl) ?_
    refine vl_val (os_assign rfl) ?_
    refine vl_val (os_assign rfl) ?_
    refine vl_nil ?_
    refine v_seq ?_
    refine v_region ?_
    refine vl_val (os_move rfl) ?_
    refine vl_val (os_move rfl) ?_
    refine vl_call (r9_Join A n c ls long w5 (ha.keep (b04.trans (b45.mono b04.size))) hn hn') rfl ?_
    rintro v6 w6 ⟨b56, h6⟩
    rw [hn] at h6
    obtain ⟨s6, rfl, hJ6⟩ : ∃ s6, v6 = .tuple #[s6, .int .i64 E] ∧ OwnK w6 w5.heap.size 5 .u8 s6 J := by
      rcases h5 with ⟨h, rfl, rfl⟩ | ⟨h, ⟨l, hl, hne⟩, rfl, rfl⟩ | ⟨h, he, rfl, rfl⟩
      · rcases h6 with ⟨_, rfl⟩ | ⟨h', _⟩ | ⟨h', _⟩
        · exact ⟨_, rfl, Own.nil _ _ _⟩
        · rw [h] at h'; cases h'
        · rw [h] at h'; cases h'
      · rcases h6 with ⟨h', _⟩ | ⟨_, _, rfl⟩ | ⟨_, h', _⟩
        · rw [h] at h'; cases h'
        · exact ⟨_, rfl, Own.nil _ _ _⟩
        · exact absurd (h' l hl) hne
      · rcases h6 with ⟨h', _⟩ | ⟨_, ⟨l, hl, h'⟩, _⟩ | ⟨_, _, L2, s, e2, hle2, rfl, ho6⟩
        · rw [h] at h'; cases h'
        · exact absurd (he l hl) h'
        · rw [show long.toNat = L2 by omega]
          exact ⟨s, rfl, ho6⟩
    obtain ⟨A6, c6, rfl, -, -, hr6, -⟩ := OwnK.form hJ6
    obtain ⟨A3, c3, rfl, hR3⟩ := hU.rds
    refine vl_val (os_move rfl) ?_
    refine vl_val (os_extract rfl rfl) ?_
    refine vl_val (os_extract rfl rfl) ?_
    refine vl_val (os_assign rfl) ?_
    refine vl_val (os_assign rfl) ?_
    refine vl_nil ?_
    refine v_seq ?_
    refine v_region ?_
    refine vl_val (os_move rfl) ?_
    refine vl_val (os_move rfl) ?_
    refine vl_call (sp_Width long k w6 hl1 hk1) rfl ?_
    rintro v7 w6 ⟨rfl, rfl⟩
    refine vl_val (os_move rfl) ?_
    refine vl_val (os_extract rfl rfl) ?_
    refine vl_val (os_extract rfl rfl) ?_
    refine vl_val (os_assign rfl) ?_
    refine vl_val (os_assign rfl) ?_
    refine vl_nil ?_
    refine v_seq ?_
    refine v_region ?_
    refine vl_val (os_move rfl) ?_
    refine vl_val (os_move rfl) ?_
    refine vl_call (r9_Width long k w6) rfl ?_
    rintro v8 w6 ⟨rfl, rfl⟩
    refine vl_val (os_move rfl) ?_
    refine vl_val (os_extract rfl rfl) ?_
    refine vl_val (os_extract rfl rfl) ?_
    refine vl_val (os_assign rfl) ?_
    refine vl_val (os_assign rfl) ?_
    refine vl_nil ?_
    refine v_seq ?_
    refine v_region ?_
    refine vl_val (os_move rfl) ?_
    refine vl_val (os_move rfl) ?_
    refine vl_call (sp_Waste long k w6 hl1 hk1) rfl ?_
    rintro v9 w6 ⟨rfl, rfl⟩
    refine vl_val (os_move rfl) ?_
    refine vl_val (os_extract rfl rfl) ?_
    refine vl_val (os_extract rfl rfl) ?_
    refine vl_val (os_assign rfl) ?_
    refine vl_val (os_assign rfl) ?_
    refine vl_nil ?_
    refine v_seq ?_
    refine v_region ?_
    refine vl_val (os_move rfl) ?_
    refine vl_val (os_move rfl) ?_
    refine vl_call (r9_Waste long k w6) rfl ?_
    rintro v10 w6 ⟨rfl, rfl⟩
    refine vl_val (os_move rfl) ?_
    refine vl_val (os_extract rfl rfl) ?_
    refine vl_val (os_extract rfl rfl) ?_
    refine vl_val (os_assign rfl) ?_
    refine vl_val (os_assign rfl) ?_
    refine vl_nil ?_
    refine v_seq ?_
    refine v_region ?_
    refine vl_val (os_move rfl) ?_
    refine vl_val (os_move rfl) ?_
    refine vl_val (os_t (os_eql rfl rfl) (rfl)) ?_
    refine vl_val (os_move rfl) ?_
    refine vl_valg rfl (os_move rfl) ?_
    refine vl_valg rfl (os_move rfl) ?_
    refine vl_valg rfl (os_t (os_eql rfl rfl) (rfl)) ?_
    refine vl_val (os_pick_t rfl rfl) ?_
    refine vl_val (os_move rfl) ?_
    refine vl_valg rfl (os_move rfl) ?_
    refine vl_valg rfl (os_move rfl) ?_
    refine vl_valg rfl (os_t (os_eql rfl rfl) (rfl)) ?_
    refine vl_val (os_pick_t rfl rfl) ?_
    refine vl_val (os_move rfl) ?_
    refine vl_valg rfl (os_move rfl) ?_
    refine vl_valg rfl (os_move rfl) ?_
    refine vl_valg rfl (os_t (os_eql rfl rfl) (rfl)) ?_
    refine vl_val (os_pick_t rfl rfl) ?_
    refine vl_val (os_move rfl) ?_
    refine vl_valg rfl (os_move rfl) ?_
    refine vl_valg rfl (os_move rfl) ?_
    refine vl_valg rfl (os_t (os_eql rfl rfl) (rfl)) ?_
    refine vl_val (os_pick_t rfl rfl) ?_
    refine vl_val (os_move rfl) ?_
    refine vl_valg rfl (os_move rfl) ?_
    refine vl_valg rfl (os_move rfl) ?_
    refine vl_valg rfl (os_t (os_eql rfl rfl) (rfl)) ?_
    have c46 : Below w4.heap.size w4 w6 := b45.trans (b56.mono b45.size)
    have c36 : Below w3.heap.size w3 w6 := b34.trans (c46.mono b34.size)
    have c26 : Below w2.heap.size w2 w6 := b23.trans (c36.mono b23.size)
    have c16 : Below w1.heap.size w1 w6 := b12.trans (c26.mono b12.size)
    have c06 : Below w.heap.size w w6 := b1.trans (c16.mono b1.size)
    have hrl : (rowsOf bs wd K).length = K := rowsOf_length
    have hK25 := hU.K255
    refine vl_val (os_pick_t rfl rfl) ?_
    refine vl_val (os_move rfl) ?_
    refine vl_valg rfl (os_move rfl) ?_
    refine vl_valg rfl (os_move rfl) ?_
    refine vl_callg rfl ((kit_SameRows A3 A4 K K c3 c4 (rowsOf bs wd K) (rowsOf bs wd K) w6 (hR3.keep c36) (hR4.keep c46) hrl.symm hrl.symm (by omega) (by omega)).mono fun v w' hh => (⟨by rw [hh.1, decide_eq_true rfl], hh.2⟩ : v = .bool true ∧ LeD w6 w')) rfl ?_
    rintro v11 w7 ⟨rfl, d7⟩
    refine vl_val (os_pick_t rfl rfl) ?_
    refine vl_val (os_move rfl) ?_
    refine vl_valg rfl (os_move rfl) ?_
    refine vl_valg rfl (os_move rfl) ?_
    refine vl_callg rfl ((kit_SameBytes Aj A6 _ _ J.length c6 J J w7 ((hJr.keep b56).led d7) (hr6.led d7) rfl rfl (by omega) (by omega)).mono fun v w' hh => (⟨by rw [hh.1, decide_eq_true rfl], hh.2⟩ : v = .bool true ∧ LeD w7 w')) rfl ?_
    rintro v12 w8 ⟨rfl, d8⟩
    have d68 := lee_d.trans d7 d8
    refine vl_val (os_pick_t rfl rfl) ?_
    refine vl_val (os_assign rfl) ?_
    refine vl_nil ?_
    refine v_seq ?_
    refine v_region ?_
    refine vl_val (os_move rfl) ?_
    refine vl_val (os_move rfl) ?_
    refine vl_valg rfl (os_move rfl) ?_
    refine vl_valg rfl (os_move rfl) ?_
    refine vl_callg rfl (kit_KeptBytes _ _ B m d bs w8 ((hI.keep c16).led d68) ((hb.keep c06).led d68) hm (by omega)) rfl ?_
    rintro v13 w9 ⟨rfl, d9⟩
    have d69 := lee_d.trans d68 d9
    refine vl_val (os_pick_t rfl rfl) ?_
    refine vl_val (os_move rfl) ?_
    refine vl_valg rfl (os_move rfl) ?_
    refine vl_valg rfl (os_move rfl) ?_
    refine vl_callg rfl (kit_KeptRows _ us _ A n c ls w9 ((hL.keep c26).led d69) ((ha.keep c06).led d69) hn (by omega) hlen) rfl ?_
    rintro v14 w10 ⟨rfl, d10⟩
    have d610 : Below w6.heap.size w6 w10 := led_below (lee_d.trans d69 d10)
    refine vl_val (os_pick_t rfl rfl) ?_
    refine vl_val (os_move rfl) ?_
    refine vl_valg rfl (os_move rfl) ?_
    refine vl_valg rfl (os_move rfl) ?_
    refine vl_valg rfl (os_move rfl) ?_
    refine vl_someg rfl (ot_litV [.slice Aj J.length J.length] Try.underlying23 Try.sizeOf22 Try.zeroValue22 rfl rfl rfl rfl (by decide)) ?_
    rintro v15 w11 ⟨rfl, o11, z11, b11⟩
    refine vl_valg rfl (os_move rfl) ?_
    refine vl_someg rfl (ot_litV [.slice (some ⟨g1, 0, none⟩) bs.length C1] Try.underlying23 Try.sizeOf22 Try.zeroValue22 rfl rfl rfl rfl (by decide)) ?_
    rintro v16 w12 ⟨rfl, o12, z12, b12'⟩
    refine vl_someg rfl (ot_litV [.slice A3 K c3, .slice A2 us.length c2, .slice (some ⟨w10.heap.size, 0, none⟩) 1 1, .slice (some ⟨w11.heap.size, 0, none⟩) 1 1] Try.underlying38 Try.sizeOf23 Try.zeroValue23 rfl rfl rfl rfl (by decide)) ?_
    rintro v17 w13 ⟨rfl, o13, z13, b13⟩
    have e12 : Below w12.heap.size w12 w13 := b13
    have e11 : Below w11.heap.size w11 w13 := b12'.trans (e12.mono b12'.size)
    have e10 : Below w10.heap.size w10 w13 := b11.trans (e11.mono b11.size)
    have e6 : Below w6.heap.size w6 w13 := d610.trans (e10.mono d610.size)
    have e5 : Below w5.heap.size w5 w13 := b56.trans (e6.mono b56.size)
    have e3 : Below w3.heap.size w3 w13 := c36.trans (e6.mono c36.size)
    have e2 : Below w2.heap.size w2 w13 := c26.trans (e6.mono c26.size)
    have e1 : Below w1.heap.size w1 w13 := c16.trans (e6.mono c16.size)
    have e0 : Below w.heap.size w w13 := c06.trans (e6.mono c06.size)
    have s1 := b1.size
    have s2 := b12.size
    have s3 := b23.size
    have s4 := b34.size
    have s5 := b45.size
    have s6' := b56.size
    have s10 := d610.size
    have xin : ∀ x, (Value.slice (some ⟨g1, 0, none⟩) bs.length C1).ownBlock = some x → x = g1 := fun x hx => by simpa [Value.ownBlock] using hx.symm
    have xus : ∀ (i : Nat) (u : Value) (x : Nat), us[i]? = some u → u.ownBlock = some x → w1.heap.size ≤ x ∧ x < w2.heap.size := fun i u x hu hx => (hL.each i u hu).blk hx
    have xl : ∀ x, (Value.slice A2 us.length c2).ownBlock = some x → w1.heap.size ≤ x ∧ x < w2.heap.size := fun x hx => World.ownsRow.lt hL.own x hx
    have xg : 0 < K → w2.heap.size ≤ g ∧ g < w3.heap.size := fun h0 => World.ownsRow.lt (hU.all h0) g rfl
    have xa : ∀ x, (Value.slice A3 K c3).ownBlock = some x → w2.heap.size ≤ x ∧ x < w3.heap.size := fun x hx => World.ownsRow.lt hU.own x hx
    have xj : ∀ x, (Value.slice Aj J.length J.length).ownBlock = some x → w4.heap.size ≤ x ∧ x < w5.heap.size := fun x hx => hJe.lt hx
    have x2 : ∀ x, (Value.slice (some ⟨w10.heap.size, 0, none⟩) 1 1).ownBlock = some x → x = w10.heap.size := fun x hx => by simpa [Value.ownBlock] using hx.symm
    have x3 : ∀ x, (Value.slice (some ⟨w11.heap.size, 0, none⟩) 1 1).ownBlock = some x → x = w11.heap.size := fun x hx => by simpa [Value.ownBlock] using hx.symm
    have xs : ∀ i x, (segV g wd i).ownBlock = some x → x = g := fun i x hx => by simpa [segV, Value.ownBlock] using hx.symm
    obtain ⟨us4, hus4⟩ : ∃ us4 : Nat → List Value, us4 = fun j => [(List.range K).map (segV g wd), us, [.slice Aj J.length J.length], [.slice (some ⟨g1, 0, none⟩) bs.length C1]].getD j [] := ⟨_, rfl⟩
    have hfl : flC us4 4 = ((([] ++ (List.range K).map (segV g wd)) ++ us) ++ [.slice Aj J.length J.length]) ++ [.slice (some ⟨g1, 0, none⟩) bs.length C1] := by rw [hus4]; rfl
    have hsl : ((List.range K).map (segV g wd)).length = K := by simp
    have hat : ∀ (j : Nat) (u : Value), (flC us4 4)[j]? = some u → (j < K ∧ u = segV g wd j) ∨ (∃ i, j = K + i ∧ i < us.length ∧ us[i]? = some u) ∨ (j = K + us.length ∧ u = .slice Aj J.length J.length) ∨ (j = K + us.length + 1 ∧ u = .slice (some ⟨g1, 0, none⟩) bs.length C1) := fun j u hu => by
      rw [hfl] at hu
      rcases four_at hu with ⟨h1, h2⟩ | ⟨i, h1, h2⟩ | ⟨h1, h2⟩ | ⟨h1, h2⟩
      · exact .inl (seg_get h2)
      · rw [hsl] at h1; exact .inr (.inl ⟨i, h1, h2⟩)
      · rw [hsl] at h1; exact .inr (.inr (.inl ⟨h1, h2⟩))
      · rw [hsl] at h1; exact .inr (.inr (.inr ⟨h1, h2⟩))
    have hmem : ∀ b, b ∈ (flC us4 4).filterMap Value.ownBlock → (0 < K ∧ b = g) ∨ (∃ (i : Nat) (u : Value), us[i]? = some u ∧ u.ownBlock = some b) ∨ (Value.slice Aj J.length J.length).ownBlock = some b ∨ b = g1 := fun b hbm => by
      obtain ⟨u, hu, hub⟩ := List.mem_filterMap.1 hbm
      obtain ⟨j, hj⟩ := List.mem_iff_getElem?.1 hu
      rcases hat j u hj with ⟨h1, rfl⟩ | ⟨i, h1, h2, h3⟩ | ⟨h1, rfl⟩ | ⟨h1, rfl⟩
      · exact .inl ⟨by omega, xs _ _ hub⟩
      · exact .inr (.inl ⟨i, u, h3, hub⟩)
      · exact .inr (.inr (.inl hub))
      · exact .inr (.inr (.inr (xin _ hub)))
    obtain ⟨dI, hdI, odI⟩ : ∃ dI : List Value, dI.length = bs.length ∧ Own w13 w.heap.size 5 (.slice (some ⟨g1, 0, none⟩) bs.length C1) dI := by
      obtain ⟨g', C', e', hc', ho'⟩ := hI.keep e1
      cases e'
      exact Own.part ho' (by omega)
    have hD0 : ∀ i, ∃ ds : List Value, ∀ u, us[i]? = some u → ds.length = (ls.getD i []).length ∧ Own w13 w1.heap.size 5 u ds := fun i => by
      by_cases hi : i < us.length
      · obtain ⟨g', C', e', hc', ho'⟩ := (hL.each i us[i] (List.getElem?_eq_getElem hi)).keep e2
        obtain ⟨ds, h1, h2⟩ := Own.part ho' (m := (ls.getD i []).length) (by omega)
        exact ⟨ds, fun u hu => by rw [List.getElem?_eq_getElem hi] at hu; cases hu; rw [e']; exact ⟨h1, h2⟩⟩
      · exact ⟨[], fun u hu => by rw [List.getElem?_eq_none (by omega)] at hu; cases hu⟩
    obtain ⟨D, hD⟩ := Classical.axiomOfChoice hD0
    obtain ⟨cc, hcc⟩ : ∃ cc : Nat → List Value, cc = fun j => if j < K then (((padL bs (wd * K)).drop (j * wd)).take wd).map (Value.int .u8) else if j < K + us.length then D (j - K) else if j = K + us.length then J.map (Value.int .u8) else dI := ⟨_, rfl⟩
    have cc1 : ∀ j, j < K → cc j = (((padL bs (wd * K)).drop (j * wd)).take wd).map (Value.int .u8) := fun j hj => by rw [hcc]; exact if_pos hj
    have cc2 : ∀ i, i < us.length → cc (K + i) = D i := fun i hi => by rw [hcc]; dsimp only; rw [if_neg (by omega), if_pos (by omega), Nat.add_sub_cancel_left]
    have cc3 : cc (K + us.length) = J.map (Value.int .u8) := by rw [hcc]; dsimp only; rw [if_neg (by omega), if_neg (by omega), if_pos rfl]
    have cc4 : cc (K + us.length + 1) = dI := by rw [hcc]; dsimp only; rw [if_neg (by omega), if_neg (by omega), if_neg (by omega)]
    have hsvl : ∀ j, j < K → (cc j).length = wd := fun j hj => by
      have h1 := rowsOf_len (hU.room (by omega)) hj
      rw [rowsOf_at hj] at h1
      rw [cc1 j hj, List.length_map]; exact h1
    have hflc : 0 < K → flC cc K = (padL bs (wd * K)).map (Value.int .u8) := fun h0 => by
      rw [flC_congr (cc := fun j => (((padL bs (wd * K)).drop (j * wd)).take wd).map (Value.int .u8)) cc1, flC_seg, List.take_of_length_le (by rw [padL_len (hU.room h0), Nat.mul_comm]; exact Nat.le_refl _)]
    have hown := all4 (P := fun j v => Own w13 w.heap.size 22 v (us4 j)) (by rw [hus4]; exact (hU.own.keepAll e3).mono (by omega)) (by rw [hus4]; exact (hL.own.keepAll e2).mono (by omega)) (by rw [hus4]; exact (o11.keepAll e11).mono (by omega)) (by rw [hus4]; exact (o12.keepAll e12).mono (by omega))
    have hlens : ∀ j, j < 4 → (us4 j).length ≤ 70001 := fun j hj => by
      rw [hus4]
      rcases j with _ | _ | _ | _ | j
      · simp; omega
      · simp; omega
      · simp
      · simp
      · omega
    refine vl_callg rfl (kit_ApartRows (some ⟨w12.heap.size, 0, none⟩) 4 4 w.heap.size _ us4 K g wd (fun j => (cc j).length) cc w13 o13.rdc rfl (by omega) (fun b o e => by cases e; exact ⟨by omega, all4 (P := fun j v => v.ownBlock ≠ some w12.heap.size) (fun e => by have := xa _ e; omega) (fun e => by have := xl _ e; omega) (fun e => by have := x2 _ e; omega) (fun e => by have := x3 _ e; omega), fun hm => by rcases hmem _ hm with ⟨h1, h2⟩ | ⟨i, u, h1, h2⟩ | h1 | h1; (have := xg h1; omega); (have := xus i u _ h1 h2; omega); (have := xj _ h1; omega); omega⟩) hown (sep4 (fun x h1 h2 => by have := xa x h1; have := xl x h2; omega) (fun x h1 h2 => by have := xa x h1; have := x2 x h2; omega) (fun x h1 h2 => by have := xa x h1; have := x3 x h2; omega) (fun x h1 h2 => by have := xl x h1; have := x2 x h2; omega) (fun x h1 h2 => by have := xl x h1; have := x3 x h2; omega) (fun x h1 h2 => by have := x2 x h1; have := x3 x h2; omega)) (fun j v b hj hv hm => all4 (P := fun j v => v.ownBlock ≠ some b) (fun e => by have q := xa _ e; rcases hmem _ hm with ⟨h1, h2⟩ | ⟨i, u, h1, h2⟩ | h1 | h1; (subst h2; exact hU.ne h1 e); (have := xus i u _ h1 h2; omega); (have := xj _ h1; omega); omega) (fun e => by have q := xl _ e; rcases hmem _ hm with ⟨h1, h2⟩ | ⟨i, u, h1, h2⟩ | h1 | h1; (have := xg h1; omega); (exact hL.sep i u h1 b h2 e); (have := xj _ h1; omega); omega) (fun e => by have q := x2 _ e; rcases hmem _ hm with ⟨h1, h2⟩ | ⟨i, u, h1, h2⟩ | h1 | h1; (have := xg h1; omega); (have := xus i u _ h1 h2; omega); (have := xj _ h1; omega); omega) (fun e => by have q := x3 _ e; rcases hmem _ hm with ⟨h1, h2⟩ | ⟨i, u, h1, h2⟩ | h1 | h1; (have := xg h1; omega); (have := xus i u _ h1 h2; omega); (have := xj _ h1; omega); omega) j v hj hv) (fun j u hj hu => by rw [hus4] at hu; rcases j with _ | _ | _ | _ | j; (obtain ⟨i, hi⟩ := List.mem_iff_getElem?.1 hu; rw [(seg_get hi).2]; rfl); (obtain ⟨i, hi⟩ := List.mem_iff_getElem?.1 hu; exact (hL.each i u hi).one); (rw [List.mem_singleton.1 hu]; rfl); (rw [List.mem_singleton.1 hu]; rfl); omega) (by rw [hfl]; simp; omega) (fun j hj => by rw [hus4]; rcases j with _ | _ | _ | _ | j; (simp [flC]; omega); (simp [flC]; omega); (simp [flC]; omega); (simp [flC]; omega); omega) (fun b hm => by rcases hmem _ hm with ⟨h1, h2⟩ | ⟨i, u, h1, h2⟩ | h1 | h1; (have := xg h1; omega); (have := xus i u _ h1 h2; omega); (have := xj _ h1; omega); omega) (fun j v hK hv => by rcases hat j v hv with ⟨h1, rfl⟩ | ⟨i, rfl, h2, h3⟩ | ⟨rfl, rfl⟩ | ⟨rfl, rfl⟩; omega; (rw [cc2 i h2]; exact .inl ((hD i v h3).2.mono (by omega))); (rw [cc3]; exact (hJe.keepAll e5).mono (by omega)); (rw [cc4]; exact .inl odI)) (fun j hj => ⟨by rw [hfl, List.nil_append, List.append_assoc, List.append_assoc, List.getElem?_append_left (by rw [hsl]; exact hj), List.getElem?_map, List.getElem?_range hj]; rfl, hsvl j hj⟩) (fun h0 => by rw [hflc h0]; exact ((hU.all h0).keepAll e3).mono (by omega)) (fun j v h0 hK hv hx => by rcases hat j v hv with ⟨h1, rfl⟩ | ⟨i, rfl, h2, h3⟩ | ⟨rfl, rfl⟩ | ⟨rfl, rfl⟩; omega; (have := xus i v _ h3 hx; have := xg h0; omega); (have := xj _ hx; have := xg h0; omega); (have := xin _ hx; have := xg h0; omega)) (fun i j v u hK hv hu hij x hxv hxu => by rcases hat i v hv with ⟨h1, rfl⟩ | ⟨i', rfl, h2, h3⟩ | ⟨rfl, rfl⟩ | ⟨rfl, rfl⟩ <;> rcases hat j u hu with ⟨g1', rfl⟩ | ⟨j', rfl, g2, g3⟩ | ⟨rfl, rfl⟩ | ⟨rfl, rfl⟩ <;> first | omega | exact hP i' j' v u h3 g3 (by omega) x hxv hxu | (have := xus i' v x h3 hxv; have := xj x hxu; omega) | (have := xus i' v x h3 hxv; have := xin x hxu; omega) | (have := xj x hxv; have := xin x hxu; omega)) (fun j hj => rfl) (fun j hj => by obtain ⟨u, hu⟩ : ∃ u, (flC us4 4)[j]? = some u := ⟨_, List.getElem?_eq_getElem hj⟩; rcases hat j u hu with ⟨h1, rfl⟩ | ⟨i, rfl, h2, h3⟩ | ⟨rfl, rfl⟩ | ⟨rfl, rfl⟩; (rw [hsvl j h1]; have := hU.wd65; omega); (rw [cc2 i h2, (hD i u h3).1]; have := hlen (ls.getD i []) (by simp [show i < ls.length by omega]); omega); (rw [cc3, List.length_map]; omega); (rw [cc4, hdI]; omega)) (by omega)) rfl ?_
    rintro v18 w14 ⟨rfl, b14⟩
    have f14 : Below w.heap.size w w14 := e0.trans b14
    refine vl_val (os_pick_t rfl rfl) ?_
    refine vl_val (os_move rfl) ?_
    refine vl_callg rfl (law09_awake w14) rfl ?_
    rintro v19 w15 ⟨rfl, hb15⟩
    refine vl_val (os_pick_t rfl rfl) ?_
    refine vl_val (os_assign rfl) ?_
    refine vl_nil ?_
    refine v_ret ?_
    exact post_ret rfl rfl (⟨rfl, f14.trans (hb15.mono f14.size)⟩)
end Go.Proofs.Ytpojijnjdlnokaa
