/- Layer 9: the document's joins; lent rows of which no two lie in one. -/
import Derived.Test.YtpojijnjdlnokaaSr
namespace Go.Proofs.Ytpojijnjdlnokaa
open Go.RowKit
set_option linter.unusedVariables false

theorem flat_take_len {ls : List (List Int)} {wd r : Nat} (h : ∀ i, i < r → (ls.getD i []).length = wd) (hr : r ≤ ls.length) : (ls.take r).flatten.length = r * wd := by
  induction r with
  | zero => simp
  | succ r ih =>
    rw [List.take_add_one, List.getElem?_eq_getElem (by omega), List.flatten_append, List.length_append, ih (fun i hi => h i (by omega)) (by omega)]
    have := h r (by omega)
    simp [show r < ls.length by omega] at this
    simp [Nat.add_mul, this]
set_option maxHeartbeats 4000000 in
theorem r9_Join (A : Option Addr) (n c : Nat) (ls : List (List Int)) (long : Int) (w : World) (ha : RdS w .u8 A ls) (hn : n = ls.length) (hn' : n ≤ 140737488351232) :
    Gives Try.prog 17 #[.slice A n c, .int .i64 long] w fun v w' => Below w.heap.size w w' ∧ ((widthOk long n = false ∧ v = .tuple #[.slice none 0 0, .int .i64 2]) ∨ (widthOk long n = true ∧ (∃ l ∈ ls, (l.length : Int) ≠ widthW long n) ∧ v = .tuple #[.slice none 0 0, .int .i64 4]) ∨
      (widthOk long n = true ∧ (∀ l ∈ ls, (l.length : Int) = widthW long n) ∧ ∃ (L : Nat) (s : Value), long = L ∧ L ≤ ls.flatten.length ∧ v = .tuple #[s, .int .i64 0] ∧ OwnK w' w.heap.size 5 .u8 s (ls.flatten.take L))) := by
  cases hok : widthOk long n
  · skip
    refine gives_enter Try.call17 Try.func17 rfl rfl rfl (by kernel_rfl) ?_
    refine v_seq ?_
    refine v_region ?_
    refine vl_val (os_assign rfl) ?_
    refine vl_val (os_assign rfl) ?_
    refine vl_nil ?_
    refine v_seq ?_
    refine v_region ?_
    refine vl_val (os_move rfl) ?_
    refine vl_val (os_move rfl) ?_
    refine vl_val (os_len Try.underlying23 rfl) ?_
    refine vl_call (r9_Width long n w) rfl ?_
    rintro v w ⟨rfl, rfl⟩
    rw [hok]
    refine vl_val (os_move rfl) ?_
    refine vl_val (os_extract rfl rfl) ?_
    refine vl_val (os_extract rfl rfl) ?_
    refine vl_val (os_assign rfl) ?_
    refine vl_val (os_assign rfl) ?_
    refine vl_nil ?_
    refine v_seq ?_
    refine v_seq ?_
    refine v_region ?_
    refine vl_val (os_move rfl) ?_
    refine vl_val (os_neq rfl rfl) ?_
    refine vl_nil ?_
    refine v_cond_yes rfl (by decide) ?_
    refine v_seq ?_
    refine v_region ?_
    refine vl_val (os_move rfl) ?_
    refine vl_val (os_assign rfl) ?_
    refine vl_val (os_assign rfl) ?_
    refine vl_nil ?_
    refine v_ret ?_
    exact post_ret2 rfl rfl rfl (⟨Below.refl _ _, .inl ⟨rfl, rfl⟩⟩)
  · obtain ⟨hk3, hk4, hk5, hk6⟩ : 0 ≤ long ∧ long ≤ 65535 ∧ (1 : Int) ≤ n ∧ (n : Int) ≤ 255 := by simpa [widthOk] using hok
    obtain ⟨L, rfl⟩ : ∃ L : Nat, long = L := ⟨long.toNat, by omega⟩
    have hwb := width_bd hok
    obtain ⟨wd, hwd⟩ : ∃ wd : Nat, widthV L n = wd := ⟨(widthV L n).toNat, by unfold widthV; rw [if_pos hok]; omega⟩
    have hwd' : (wd : Int) = widthW L n := by rw [← hwd]; unfold widthV; rw [if_pos hok]
    have hroom := width_room (show 0 < n by omega) hwd'
    have hwm : wd ≤ 65535 := by omega
    refine gives_enter Try.call17 Try.func17 rfl rfl rfl (by kernel_rfl) ?_
    refine v_seq ?_
    refine v_region ?_
    refine vl_val (os_assign rfl) ?_
    refine vl_val (os_assign rfl) ?_
    refine vl_nil ?_
    refine v_seq ?_
    refine v_region ?_
    refine vl_val (os_move rfl) ?_
    refine vl_val (os_move rfl) ?_
    refine vl_val (os_len Try.underlying23 rfl) ?_
    refine vl_call (r9_Width L n w) rfl ?_
    rintro v w ⟨rfl, rfl⟩
    rw [hok, hwd]
    refine vl_val (os_move rfl) ?_
    refine vl_val (os_extract rfl rfl) ?_
    refine vl_val (os_extract rfl rfl) ?_
    refine vl_val (os_assign rfl) ?_
    refine vl_val (os_assign rfl) ?_
    refine vl_nil ?_
    refine v_seq ?_
    refine v_seq ?_
    refine v_region ?_
    refine vl_val (os_move rfl) ?_
    refine vl_val (os_neq rfl rfl) ?_
    refine vl_nil ?_
    refine v_cond_no rfl (by decide) ?_
    refine v_skip ?_
    refine v_seq ?_
    refine v_region ?_
    refine vl_val (os_assign rfl) ?_
    refine vl_nil ?_
    refine v_seq ?_
    refine v_seq ?_
    refine v_region ?_
    refine vl_val (os_assign rfl) ?_
    refine vl_nil ?_
    refine v_block ?_
    refine v_loop2 [(0, _), (1, _), (6, _)] (fun (v : Value) (r : Nat) => [(8, v), (9, .int .i64 r)]) (fun v r w' => r ≤ n ∧ (∀ i, i < r → (ls.getD i []).length = wd) ∧ OwnK w' w.heap.size 5 .u8 v (ls.take r).flatten ∧ Below w.heap.size w w') (fun v r => n - r) (.slice none 0 0) (0) ⟨rfl, rfl, rfl, trivial⟩ ⟨rfl, rfl, trivial⟩ (⟨by omega, fun i hi => absurd hi (by omega), Own.nil _ _ _, Below.refl _ _⟩) ?_
    rintro v r w' ⟨hr, hall, ho, hb⟩
    refine v_seq ?_
    refine v_seq ?_
    refine v_region ?_
    refine vl_val (os_move rfl) ?_
    refine vl_val (os_move rfl) ?_
    refine vl_val (os_len Try.underlying23 rfl) ?_
    refine vl_val (os_lss rfl rfl) ?_
    refine vl_nil ?_
    refine v_cond_d rfl (fun h => ?_) (fun h => ?_)
    · obtain ⟨b, o, Ai, ci, rfl, h1, h2, h3, h4⟩ := (ha.keep hb).at_ (i := r) (by omega)
      have hfl := flat_take_len hall (by omega)
      have hrw : r * wd ≤ 255 * wd := Nat.mul_le_mul_right _ (by omega)
      refine v_skip ?_
      refine v_seq ?_
      refine v_block ?_
      refine v_seq ?_
      refine v_seq ?_
      refine v_region ?_
      refine vl_val (os_move rfl) ?_
      refine vl_val (os_move rfl) ?_
      refine vl_val (os_ix Try.underlying23 Try.sizeOf22 rfl rfl (i := r) (by omega) (by omega)) ?_
      refine vl_val (os_load Try.isAgg22 rfl (h1)) ?_
      refine vl_val (os_len Try.underlying22 rfl) ?_
      refine vl_val (os_move rfl) ?_
      refine vl_val (os_neq rfl rfl) ?_
      refine vl_nil ?_
      refine v_cond_d rfl (fun h5 => ?_) (fun h5 => ?_)
      · refine v_seq ?_
        refine v_region ?_
        refine vl_val (os_assign rfl) ?_
        refine vl_val (os_assign rfl) ?_
        refine vl_nil ?_
        refine v_ret ?_
        exact post_ret2 rfl rfl rfl (⟨hb, .inr (.inl ⟨rfl, ⟨ls.getD r [], by simp [show r < ls.length by omega], by omega⟩, rfl⟩)⟩)
      · have hlr : (ls.getD r []).length = wd := by omega
        refine v_skip ?_
        refine v_region ?_
        refine vl_val (os_move rfl) ?_
        refine vl_val (os_move rfl) ?_
        refine vl_val (os_move rfl) ?_
        refine vl_val (os_ix Try.underlying23 Try.sizeOf22 rfl rfl (i := r) (by omega) (by omega)) ?_
        refine vl_val (os_load Try.isAgg22 rfl (h1)) ?_
        refine vl_some (ot_append Try.underlying22 ti_u8 rfl rfl rfl ho h2.toC (by simp) (ints8 _) (by simp only [List.length_map]; omega) (by simp only [List.length_map, maxLen]; omega) hb.size) ?_
        rintro v5 w5 ⟨ho5, hg5⟩
        refine vl_val (os_assign rfl) ?_
        refine vl_nil ?_
        refine v_region ?_
        refine vl_val (os_move rfl) ?_
        refine vl_val (os_addi rfl rfl (by omega)) ?_
        refine vl_val (os_assign rfl) ?_
        refine vl_nil ?_
        exact ⟨⟨v5, r + 1⟩, ⟨rfl, rfl, rfl, trivial⟩, ⟨rfl, rfl, trivial⟩, ⟨by omega, fun i hi => by by_cases e : i = r; (subst e; exact hlr); (exact hall i (by omega)), by rw [List.take_add_one, List.getElem?_eq_getElem (by omega), List.flatten_append]; rw [← List.map_append] at ho5; simpa [OwnK, show r < ls.length by omega] using ho5, Own.below hb ho hg5 (Nat.le_refl _) hb.size⟩, by dsimp only; omega⟩
    · obtain rfl : n = r := by omega
      rw [List.take_of_length_le (by omega)] at ho
      have hfl := flat_take_len hall (by omega)
      rw [List.take_of_length_le (by omega)] at hfl
      have hLle : L ≤ ls.flatten.length := by rw [hfl, Nat.mul_comm]; omega
      obtain ⟨A2, c2, rfl, hc2, _, hr2, _⟩ := OwnK.form ho
      have s0 := own_alloc w' [] 5 (Nat.le_refl w'.heap.size) (by simp [maxLen])
      have s0b : Below w'.heap.size w' (w'.alloc (.cells #[] 5)) := (Below.refl _ w').alloc (Nat.le_refl _) _
      refine v_exit ?_
      refine v_seq ?_
      refine v_region ?_
      refine vl_val (os_lit Try.underlying22 Try.sizeOf5 Try.zeroValue5 rfl rfl rfl rfl (by decide)) ?_
      refine vl_val (os_move rfl) ?_
      refine vl_val (os_move rfl) ?_
      refine vl_val (os_slice_h (h := L) Try.underlying22 Try.sizeOf5 rfl rfl (by omega) (by omega)) ?_
      refine vl_some (ot_append Try.underlying22 ti_u8 rfl rfl rfl s0 ((hr2.take L).keep s0b).toC (by rw [List.length_map, List.length_take]; omega) (ints8 _) (by simp; omega) (by simp [maxLen]; omega) (by simp)) ?_
      rintro v6 w6 ⟨so, sg⟩
      refine vl_val (os_assign rfl) ?_
      refine vl_val (os_assign rfl) ?_
      refine vl_nil ?_
      refine v_ret ?_
      exact post_ret2 rfl rfl rfl (⟨hb.trans ((s0.below s0b sg (Nat.le_refl _) (by simp)).mono hb.size), .inr (.inr ⟨rfl, fun l hl => by obtain ⟨i, hi, rfl⟩ := List.getElem_of_mem hl; have := hall i (by omega); rw [show ls.getD i [] = ls[i] by simp [hi]] at this; omega, L, _, rfl, hLle, rfl, Own.mono (by simpa [OwnK] using so) hb.size⟩)⟩)

set_option maxHeartbeats 1000000 in
theorem kit_LentRows2 (A : Option Addr) (n c : Nat) (ls : List (List Int)) (w : World) (ha : RdS w .u8 A ls) (hn : n = ls.length) (hn1 : n ≤ 100000) (hl : ∀ l ∈ ls, l.length ≤ 10000000) :
    Gives Try.prog 13 #[.slice A n c] w fun v w' => (∃ us, LentS w' w.heap.size 22 5 .u8 markB v ls us ∧ ∀ (i j : Nat) (u u' : Value), us[i]? = some u → us[j]? = some u' → i < j → sep u u') ∧ Below w.heap.size w w' := by
  refine gives_enter Try.call13 Try.func13 rfl rfl rfl (by kernel_rfl) ?_
  refine v_seq ?_
  refine v_region ?_
  refine vl_val (os_assign rfl) ?_
  refine vl_nil ?_
  refine v_seq ?_
  refine v_region ?_
  refine vl_val (os_assign rfl) ?_
  refine vl_nil ?_
  refine v_seq ?_
  refine v_seq ?_
  refine v_region ?_
  refine vl_val (os_assign rfl) ?_
  refine vl_nil ?_
  refine v_block ?_
  refine v_loop2 [(0, _)] (fun (v : Value) (k : Nat) => [(3, v), (4, .int .i64 k)]) (fun v k w' => k ≤ n ∧ (∃ us, LentS w' w.heap.size 22 5 .u8 markB v (ls.take k) us ∧ ∀ (i j : Nat) (u u' : Value), us[i]? = some u → us[j]? = some u' → i < j → sep u u') ∧ Below w.heap.size w w') (fun v k => n - k) (.slice none 0 0) (0) ⟨rfl, trivial⟩ ⟨rfl, rfl, trivial⟩ (⟨by omega, ⟨[], ⟨Own.nil _ _ _, by simp, fun i u hu => by simp at hu, fun i u hu => by simp at hu⟩, fun i j u u' hu => by simp at hu⟩, Below.refl _ _⟩) ?_
  rintro v k w' ⟨hk, ⟨us, hL, hP⟩, hb⟩
  refine v_seq ?_
  refine v_seq ?_
  refine v_region ?_
  refine vl_val (os_move rfl) ?_
  refine vl_val (os_move rfl) ?_
  refine vl_val (os_len Try.underlying23 rfl) ?_
  refine vl_val (os_lss rfl rfl) ?_
  refine vl_nil ?_
  refine v_cond_d rfl (fun h => ?_) (fun h => ?_)
  · obtain ⟨b, o, Ai, ci, rfl, h1, h2, h3, h4⟩ := (ha.keep hb).at_ (i := k) (by omega)
    have hlk := hl (ls.getD k []) (by simp [show k < ls.length by omega])
    refine v_skip ?_
    refine v_seq ?_
    refine v_block ?_
    refine v_region ?_
    refine vl_val (os_move rfl) ?_
    refine vl_val (os_move rfl) ?_
    refine vl_val (os_move rfl) ?_
    refine vl_val (os_ix Try.underlying23 Try.sizeOf22 rfl rfl (i := k) (by omega) (by omega)) ?_
    refine vl_val (os_load Try.isAgg22 rfl (h1)) ?_
    refine vl_call (kit_LentBytes Ai _ ci _ w' h2 rfl (by omega)) rfl ?_
    rintro u2 w2 ⟨hu2, hb2⟩
    have hL2 := hL.keep hb2
    have ha2 : Below w2.heap.size w2 (w2.alloc (.cells [u2].toArray 22)) := (Below.refl _ _).alloc (Nat.le_refl _) _
    have hb3 : Below w.heap.size w w2 := hb.trans (hb2.mono hb.size)
    have hL3 := hL2.keep ha2
    have hlen : us.length = k := by rw [hL.len, List.length_take]; omega
    have hP2 : ∀ (i j : Nat) (u u' : Value), (us ++ [u2])[i]? = some u → (us ++ [u2])[j]? = some u' → i < j → sep u u' := fun i j u u' hi hj hij => by
      have hjl := (List.getElem?_eq_some_iff.1 hj).1
      have hil : i < us.length := by simp at hjl; omega
      rw [List.getElem?_append_left hil] at hi
      by_cases hj2 : j < us.length
      · rw [List.getElem?_append_left hj2] at hj; exact hP i j u u' hi hj hij
      · have e : j - us.length = 0 := by simp at hjl; omega
        rw [List.getElem?_append_right (by omega), e] at hj
        have e2 : u2 = u' := by simpa using hj
        subst e2
        intro x hx hx2
        have q1 := ((hL.each i u hi).blk hx).2
        have q2 := (hu2.blk hx2).1
        omega
    refine vl_val (os_lit Try.underlying23 Try.sizeOf22 Try.zeroValue22 rfl rfl rfl (by simp [oneCells, hu2.one]) (by decide)) ?_
    refine vl_some (ot_append_at Try.underlying23 ti_lBytes rfl rfl rfl hL3.own (rdc_alloc w2 [u2] _) rfl (by intro u hu; rw [List.mem_singleton.1 hu]; exact hu2.one) (by omega) (by simp [maxLen]; omega) (by have := hb3.size; simp; omega)) ?_
    rintro v5 w5 ⟨ho5, hg5, ha5⟩
    have hb5 := Own.below (hb3.alloc hb3.size (.cells [u2].toArray 22)) hL3.own hg5 (Nat.le_refl _) (by have := hb3.size; simp; omega)
    refine vl_val (os_assign rfl) ?_
    refine vl_nil ?_
    refine v_region ?_
    refine vl_val (os_move rfl) ?_
    refine vl_val (os_addi rfl rfl (by omega)) ?_
    refine vl_val (os_assign rfl) ?_
    refine vl_nil ?_
    exact ⟨⟨v5, k + 1⟩, ⟨rfl, trivial⟩, ⟨rfl, rfl, trivial⟩, ⟨by omega, ⟨us ++ [u2], by rw [List.take_add_one, List.getElem?_eq_getElem (by omega)]; have := hL.push hu2 hb2 hb.size _ ho5 hg5 ha5; simpa [show k < ls.length by omega] using this, hP2⟩, hb5⟩, by dsimp only; omega⟩
  · obtain rfl : n = k := by omega
    rw [List.take_of_length_le (by omega)] at hL
    refine v_exit ?_
    refine v_seq ?_
    refine v_region ?_
    refine vl_val (os_move rfl) ?_
    refine vl_val (os_assign rfl) ?_
    refine vl_nil ?_
    refine v_ret ?_
    exact post_ret rfl rfl (⟨⟨us, hL, hP⟩, hb⟩)
end Go.Proofs.Ytpojijnjdlnokaa
