/- Layer 9: awake; the walk of StripLess. -/
import Derived.Test.YtpojijnjdlnokaaSpJ
import Derived.Test.YtpojijnjdlnokaaKitP
import Derived.Test.YtpojijnjdlnokaaFin
namespace Go.Proofs.Ytpojijnjdlnokaa
open Go.RowKit
set_option linter.unusedVariables false

theorem Rd.off {w : World} {k : IntKind} {g o : Nat} {zs : List Int} (h : Rd w k (some ⟨g, o, none⟩) zs) (i : Nat) : Rd w k (some ⟨g, o + i, none⟩) (zs.drop i) := fun h0 => by
  rw [List.length_drop] at h0
  obtain ⟨b, o', e, hc⟩ := h (by omega)
  cases e
  refine ⟨g, o + i, rfl, fun j hj => ?_⟩
  rw [List.length_drop] at hj
  have := hc (i + j) (by omega)
  rw [← Nat.add_assoc] at this
  rw [this]
  simp
def rowsOf (bs : List Int) (wd K : Nat) : List (List Int) := (List.range K).map fun r => ((padL bs (wd * K)).drop (r * wd)).take wd
theorem rowsOf_at {bs : List Int} {wd K r : Nat} (hr : r < K) : (rowsOf bs wd K).getD r [] = ((padL bs (wd * K)).drop (r * wd)).take wd := by simp [rowsOf, hr]
theorem seg_in {wd K r : Nat} (hr : r < K) : r * wd + wd ≤ wd * K := by
  have : (r + 1) * wd ≤ K * wd := Nat.mul_le_mul_right _ hr
  rw [Nat.add_mul, Nat.one_mul, Nat.mul_comm K] at this
  exact this
theorem rowsOf_len {bs : List Int} {wd K r : Nat} (hb : bs.length ≤ wd * K) (hr : r < K) : ((rowsOf bs wd K).getD r []).length = wd := by
  rw [rowsOf_at hr, List.length_take, List.length_drop, padL_len hb]
  have := seg_in (wd := wd) hr
  omega
theorem CutR.rds {w : World} {B : Nat} {bs : List Int} {k : Int} {wd K g : Nat} {out : Value} (h : CutR w B bs k wd K g out) : ∃ A c, out = .slice A K c ∧ K ≤ c ∧ RdS w .u8 A (rowsOf bs wd K) := by
  obtain ⟨A, c, e, hc, _, hr, _⟩ := Own.form h.own
  have hl : ((List.range K).map (segV g wd)).length = K := by simp
  rw [hl] at e hc
  refine ⟨A, c, e, hc, fun h0 => ?_⟩
  obtain ⟨b, o, eA, hcell⟩ := hr (by rw [hl]; exact h.pos)
  refine ⟨b, o, eA, fun i hi => ?_⟩
  have hi' : i < K := by simpa [rowsOf] using hi
  have h1 := hcell i (by rw [hl]; exact hi')
  rw [List.getElem?_map, List.getElem?_range hi'] at h1
  have hlen := rowsOf_len h.room.1 hi'
  rw [hlen]
  refine ⟨some ⟨g, if wd = 0 then 0 else i * wd, none⟩, wd, h1, ?_, Nat.le_refl _, by have := h.wd65; omega⟩
  rw [rowsOf_at hi']
  by_cases h0 : wd = 0
  · subst h0; rw [List.take_zero]; exact Rd.nil
  · rw [if_neg h0]
    have := (Rd.off (OwnK.rd h.all) (i * wd)).take wd
    rwa [Nat.zero_add] at this

theorem law09_awake (w : World) : Gives Try.prog 11 #[] w fun v w' => v = .bool true ∧ Below w.heap.size w w' := by
  refine gives_enter Try.call11 Try.func11 rfl rfl rfl (by kernel_rfl) ?_
  refine v_seq ?_
  refine v_region ?_
  refine vl_val (os_assign rfl) ?_
  refine vl_nil ?_
  refine v_seq ?_
  refine v_region ?_
  refine vl_val (os_lit Try.underlying22 Try.sizeOf5 Try.zeroValue5 rfl rfl rfl rfl (by decide)) ?_
  refine vl_call (strip_Cut _ 5 5 [1, 2, 3, 4, 5] 2 _ (rd_alloc w .u8 [1, 2, 3, 4, 5] 5) rfl (by decide) (by decide)) rfl ?_
  rintro v1 w1 ⟨b1, h1⟩
  obtain ⟨h0, -⟩ | ⟨-, wd, K, g, out, rfl, hC⟩ := h1
  · exact absurd h0 (by decide)
  obtain ⟨A1, c1, rfl, hc1, hS⟩ := hC.rds
  obtain rfl : wd = 3 := by have := hC.wd_; have e : widthW ([1, 2, 3, 4, 5] : List Int).length 2 = 3 := (by decide); omega
  obtain rfl : K = 2 := by have := hC.K_; omega
  have hb1 : Below w.heap.size w w1 := ((Below.refl _ w).alloc (Nat.le_refl _) (.cells [Value.int .u8 1, .int .u8 2, .int .u8 3, .int .u8 4, .int .u8 5].toArray 5)).trans (b1.mono (by simp))
  have hrows : rowsOf [1, 2, 3, 4, 5] 3 2 = [[1, 2, 3], [4, 5, 0]] := by decide
  rw [hrows] at hS
  refine vl_val (os_move rfl) ?_
  refine vl_val (os_extract rfl rfl) ?_
  refine vl_val (os_extract rfl rfl) ?_
  refine vl_val (os_assign rfl) ?_
  refine vl_val (os_assign rfl) ?_
  refine vl_nil ?_
  refine v_seq ?_
  refine v_region ?_
  refine vl_val (os_move rfl) ?_
  refine vl_call (strip_Join A1 2 c1 [[1, 2, 3], [4, 5, 0]] 5 w1 hS rfl (by decide) (by decide)) rfl ?_
  rintro v2 w2 ⟨b2, h2⟩
  have hb2 := hb1.trans (b2.mono hb1.size)
  obtain ⟨L, Aj, hL, o2, rfl⟩ : ∃ (L : Nat) (Aj : Option Addr), L = 5 ∧ (∃ c, OwnK w2 w1.heap.size 5 .u8 (.slice Aj 6 c) [1, 2, 3, 4, 5, 0]) ∧ v2 = .tuple #[.slice Aj L L, .int .i64 0] := by
    cases h2 with
    | arg h => exact absurd h (by decide)
    | shape h l hl hne => simp at hl; rcases hl with rfl | rfl <;> exact absurd hne (by decide)
    | ok h he L c A hL hle ho => exact ⟨L, A, by omega, ⟨c, ho⟩, rfl⟩
  subst hL
  obtain ⟨cj, o2⟩ := o2
  refine vl_val (os_move rfl) ?_
  refine vl_val (os_extract rfl rfl) ?_
  refine vl_val (os_extract rfl rfl) ?_
  refine vl_val (os_assign rfl) ?_
  refine vl_val (os_assign rfl) ?_
  refine vl_nil ?_
  refine v_seq ?_
  refine v_region ?_
  refine vl_val (os_move rfl) ?_
  refine vl_val (os_t (os_eql rfl rfl) (rfl)) ?_
  have hS2 := hS.keep b2
  have q1 := rd_alloc w2 .u8 [1, 2, 3] 5
  have q2 := rd_alloc (w2.alloc (.cells [Value.int .u8 1, .int .u8 2, .int .u8 3].toArray 5)) .u8 [4, 5, 0] 5
  have bq := below_text (w2.alloc (.cells [Value.int .u8 1, .int .u8 2, .int .u8 3].toArray 5)) (.cells [Value.int .u8 4, .int .u8 5, .int .u8 0].toArray 5)
  have ba := below_text w2 (.cells [Value.int .u8 1, .int .u8 2, .int .u8 3].toArray 5)
  have bl := below_text ((w2.alloc (.cells [Value.int .u8 1, .int .u8 2, .int .u8 3].toArray 5)).alloc (.cells [Value.int .u8 4, .int .u8 5, .int .u8 0].toArray 5)) (.cells [Value.slice (some ⟨w2.heap.size, 0, none⟩) 3 3, .slice (some ⟨(w2.alloc (.cells [Value.int .u8 1, .int .u8 2, .int .u8 3].toArray 5)).heap.size, 0, none⟩) 3 3].toArray 22)
  have b23 := (ba.trans (bq.mono ba.size)).trans (bl.mono (ba.trans (bq.mono ba.size)).size)
  refine vl_val (os_move rfl) ?_
  refine vl_valg rfl (os_move rfl) ?_
  refine vl_valg rfl (os_lit Try.underlying22 Try.sizeOf5 Try.zeroValue5 rfl rfl rfl rfl (by decide)) ?_
  refine vl_valg rfl (os_lit Try.underlying22 Try.sizeOf5 Try.zeroValue5 rfl rfl rfl rfl (by decide)) ?_
  refine vl_valg rfl (os_lit Try.underlying23 Try.sizeOf22 Try.zeroValue22 rfl rfl rfl rfl (by decide)) ?_
  refine vl_callg rfl ((kit_SameRows A1 _ 2 2 c1 2 [[1, 2, 3], [4, 5, 0]] [[1, 2, 3], [4, 5, 0]] _ (hS2.keep b23) (rds_lit' _ .u8 _ [(some ⟨w2.heap.size, 0, none⟩, 3, 3, [1, 2, 3]), (some ⟨(w2.alloc (.cells [Value.int .u8 1, .int .u8 2, .int .u8 3].toArray 5)).heap.size, 0, none⟩, 3, 3, [4, 5, 0])] (by intro y hy; simp only [List.mem_cons, List.not_mem_nil, or_false] at hy; rcases hy with rfl | rfl; exact ⟨q1.keep bq, rfl, Nat.le_refl _, by dsimp only; omega⟩; exact ⟨q2, rfl, Nat.le_refl _, by dsimp only; omega⟩)) rfl rfl (by decide) (by decide)).mono fun v w' hh => (⟨by rw [hh.1, decide_eq_true rfl], hh.2⟩ : v = .bool true ∧ LeD _ w')) rfl ?_
  rintro v3 w3 ⟨rfl, d3⟩
  have hb3 := (hb2.trans (b23.mono hb2.size)).trans ((led_below d3).mono (hb2.trans (b23.mono hb2.size)).size)
  refine vl_val (os_pick_t rfl rfl) ?_
  refine vl_val (os_move rfl) ?_
  refine vl_valg rfl (os_move rfl) ?_
  refine vl_valg rfl (os_t (os_eql rfl rfl) (rfl)) ?_
  have r5 := (((OwnK.rd o2).keep b23).led d3).take 5
  refine vl_val (os_pick_t rfl rfl) ?_
  refine vl_val (os_move rfl) ?_
  refine vl_valg rfl (os_move rfl) ?_
  refine vl_valg rfl (os_lit Try.underlying22 Try.sizeOf5 Try.zeroValue5 rfl rfl rfl rfl (by decide)) ?_
  refine vl_callg rfl ((kit_SameBytes Aj _ 5 5 5 5 [1, 2, 3, 4, 5] [1, 2, 3, 4, 5] _ (r5.keep (below_text w3 _)) (rd_alloc w3 .u8 [1, 2, 3, 4, 5] 5) rfl rfl (by decide) (by decide)).mono fun v w' hh => (⟨by rw [hh.1, decide_eq_true rfl], hh.2⟩ : v = .bool true ∧ LeD _ w')) rfl ?_
  rintro v4 w4 ⟨rfl, d4⟩
  have hb3a := hb3.alloc hb3.size (.cells [Value.int .u8 1, .int .u8 2, .int .u8 3, .int .u8 4, .int .u8 5].toArray 5)
  refine vl_val (os_pick_t rfl rfl) ?_
  refine vl_val (os_assign rfl) ?_
  refine vl_nil ?_
  refine v_ret ?_
  exact post_ret rfl rfl (⟨rfl, hb3a.trans ((led_below d4).mono hb3a.size)⟩)

theorem wrap64_bd (z : Int) : -9223372036854775808 ≤ IntKind.i64.wrap z ∧ IntKind.i64.wrap z ≤ 9223372036854775807 := by
  rw [IntKind.wrap_i64]; omega
end Go.Proofs.Ytpojijnjdlnokaa
