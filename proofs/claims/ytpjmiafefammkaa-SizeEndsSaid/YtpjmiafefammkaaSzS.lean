/- Layer 11: the document's answer whether any thresholds fit: all are tried; SizeCan. -/
import Derived.Test.YtpjmiafefammkaaSzD
namespace Go.Proofs.Ytpjmiafefammkaa
open Go.RowKit
set_option linter.unusedVariables false

theorem Own.rdc {w B t A n c cs} (h : Own w B t (.slice A n c) cs) : RdC w A cs := by
  obtain ⟨A', c', e, _, _, hr, _⟩ := Own.form h
  cases e
  exact hr
section
variable {P : Program} {n : Cx} {fr : Fr} {w : World} {ty : TypeId} {T e : TypeId}
/-- []T{..}, and what is known of its row -/
theorem ot_lit {l : Nat} {ps : List (Nat × Operand)} {vs : List Value} {z0 : Value} (B : Nat) (hT : P.underlying T = some (.slice e)) (hs : ∀ w, (sizeOf e).run P w = .ok 1 w) (hz : ∀ w, (zeroValue e).run P w = .ok z0 w) (hz1 : z0.cells.size = 1) (hx : evP fr ps 0 = some vs) (hl : l = vs.length) (h1 : oneCells vs = true) (h2 : l ≤ 16777216) (hB : B ≤ w.heap.size) :
    OT P n (.buildSlice T l ps.toArray) ty fr w fun v w' => ∃ g, v = .slice (some ⟨g, 0, none⟩) l l ∧ g = w.heap.size ∧ g < w'.heap.size ∧ Own w' B e v vs ∧ LeG w w' := by
  subst hl
  exact (os_lit hT hs hz hz1 hx rfl h1 h2).ot ⟨_, rfl, rfl, by simp, own_alloc w vs e hB (by simp [maxLen]; omega), (Below.refl _ _).alloc (Nat.le_refl _) _⟩
end

/-- some thresholds fit that begin with these -/
def SomeZ (n m b : Int) (lens ks : List Int) (f : Nat) : Prop := ∃ ext : List Int, ext.length = f ∧ fitsB n m b lens (ks ++ ext) = true
theorem sorted_next {ks ext : List Int} (h : sortedB (ks ++ ext) = true) (h0 : 0 < ks.length) (h1 : 0 < ext.length) : ks.getD (ks.length - 1) 0 ≤ ext.getD 0 0 := by
  have := of_decide_eq_true h (ks.length - 1) (by simp; omega) (by simp; omega)
  rw [show ks.length - 1 + 1 = ks.length by omega] at this
  have e1 : (ks ++ ext).getD (ks.length - 1) 0 = ks.getD (ks.length - 1) 0 := by simp [List.getElem?_append, show ks.length - 1 < ks.length by omega]
  have e2 : (ks ++ ext).getD ks.length 0 = ext.getD 0 0 := by simp [List.getElem?_append]
  rw [e1, e2] at this
  exact this
theorem fits_head {n m b : Int} {lens ks ext : List Int} (h : fitsB n m b lens (ks ++ ext) = true) (h1 : 0 < ext.length) : 1 ≤ ext.getD 0 0 ∧ ext.getD 0 0 ≤ n ∧ (0 < ks.length → ks.getD (ks.length - 1) 0 ≤ ext.getD 0 0) := by
  obtain ⟨f1, f2, f3, f4, f5, f6⟩ := fits_iff.1 h
  have := f5 ks.length (by rw [← f3]; simp; omega)
  rw [show (ks ++ ext).getD ks.length 0 = ext.getD 0 0 by simp [List.getElem?_append]] at this
  exact ⟨this.1, this.2, fun h0 => sorted_next f4 h0 h1⟩
theorem some_can {n m b : Int} {lens : List Int} : SomeZ n m b lens [] lens.length ↔ canB n m b lens = true := by
  constructor
  · rintro ⟨ext, h1, h2⟩
    exact fits_can h2
  · intro h
    refine ⟨List.replicate lens.length n, by simp, ?_⟩
    simp only [canB, Bool.and_eq_true] at h
    exact h.2
theorem ext_cons {ext : List Int} {f : Nat} (h : ext.length = f + 1) : ext = ext.getD 0 0 :: ext.drop 1 := by
  cases ext with
  | nil => simp at h
  | cons x r => simp

theorem some_step {n m b k : Int} {lens ks : List Int} {f : Nat} (h : ∀ ext : List Int, ext.length = f + 1 → fitsB n m b lens (ks ++ ext) = true → k ≤ ext.getD 0 0) (hno : ¬ SomeZ n m b lens (ks ++ [k]) f) : ∀ ext : List Int, ext.length = f + 1 → fitsB n m b lens (ks ++ ext) = true → k + 1 ≤ ext.getD 0 0 := fun ext h1 h2 => by
  have h3 := h ext h1 h2
  rcases Int.lt_or_le k (ext.getD 0 0) with h4 | h4
  · omega
  · exfalso
    have e : ext.getD 0 0 = k := by omega
    have hc := ext_cons h1
    rw [e] at hc
    refine hno ⟨ext.drop 1, by simp; omega, ?_⟩
    rw [List.append_assoc, List.singleton_append, ← hc]
    exact h2
set_option maxHeartbeats 8000000 in
theorem ref11_some (n m b : Int) (A : Option Addr) (l c : Nat) (lens : List Int) (hl : l = lens.length) (hl9 : l ≤ 100000) (hn : n ≤ 255) : ∀ (f : Nat) (K : Option Addr) (lk ck : Nat) (ks : List Int) (w : World), Rd w .i64 A lens → Rd w .i64 K ks → lk = ks.length → lk + f = l → (∀ z ∈ ks, 1 ≤ z ∧ z ≤ n) →
    Gives Try.prog 132 #[.agg #[.int .i64 n, .int .i64 m, .int .i64 b], .slice A l c, .slice K lk ck] w fun v w' => (∃ B : Bool, v = .bool B ∧ (B = true ↔ SomeZ n m b lens ks f)) ∧ Below w.heap.size w w'
  | 0, K, lk, ck, ks, w, ha, hk, hlk, hf, hks => by
    have hb0 : Below w.heap.size w (w.alloc (.cells #[.int .i64 n, .int .i64 m, .int .i64 b] 117)) := (Below.refl _ w).alloc (Nat.le_refl _) _
    have hB0 := bk_new w [.int .i64 n, .int .i64 m, .int .i64 b] 117
    refine gives_enter Try.call132 Try.func132 rfl rfl rfl (by kernel_rfl) ?_
    refine v_seq ?_
    refine v_region ?_
    refine vl_val (os_box rfl) ?_
    refine vl_val (os_assign rfl) ?_
    refine vl_nil ?_
    refine v_seq ?_
    refine v_seq ?_
    refine v_region ?_
    refine vl_val (os_move rfl) ?_
    refine vl_val (os_len Try.underlying40 rfl) ?_
    refine vl_val (os_move rfl) ?_
    refine vl_val (os_len Try.underlying40 rfl) ?_
    refine vl_val (os_eql rfl rfl) ?_
    refine vl_nil ?_
    refine v_cond_yes rfl (by omega) ?_
    refine v_seq ?_
    refine v_region ?_
    refine vl_val (os_loadB Try.underlying117 rfl (by kernel_rfl) rfl (hB0)) ?_
    refine vl_val (os_move rfl) ?_
    refine vl_val (os_move rfl) ?_
    refine vl_call (ref11_Fits n m b A K l c lk ck lens ks _ (ha.keep hb0) (hk.keep hb0) hl hlk hl9) rfl ?_
    rintro v1 w1 ⟨rfl, b1⟩
    refine vl_val (os_assign rfl) ?_
    refine vl_nil ?_
    refine v_ret ?_
    exact post_ret rfl rfl (⟨⟨_, rfl, by simp [SomeZ]⟩, hb0.trans (b1.mono hb0.size)⟩)
  | f + 1, K, lk, ck, ks, w, ha, hk, hlk, hf, hks => by
    have ih := ref11_some n m b A l c lens hl hl9 hn f
    have hb0 : Below w.heap.size w (w.alloc (.cells #[.int .i64 n, .int .i64 m, .int .i64 b] 117)) := (Below.refl _ w).alloc (Nat.le_refl _) _
    have hB0 := bk_new w [.int .i64 n, .int .i64 m, .int .i64 b] 117
    refine gives_enter Try.call132 Try.func132 rfl rfl rfl (by kernel_rfl) ?_
    refine v_seq ?_
    refine v_region ?_
    refine vl_val (os_box rfl) ?_
    refine vl_val (os_assign rfl) ?_
    refine vl_nil ?_
    refine v_seq ?_
    refine v_seq ?_
    refine v_region ?_
    refine vl_val (os_move rfl) ?_
    refine vl_val (os_len Try.underlying40 rfl) ?_
    refine vl_val (os_move rfl) ?_
    refine vl_val (os_len Try.underlying40 rfl) ?_
    refine vl_val (os_eql rfl rfl) ?_
    refine vl_nil ?_
    refine v_cond_no rfl (by omega) ?_
    refine v_skip ?_
    refine v_seq ?_
    refine v_region ?_
    refine vl_val (os_assign rfl) ?_
    refine vl_nil ?_
    refine v_mid [(1, _), (2, _), (3, _)] (fun (x : Int) => [(7, .int .i64 x)]) (fun x w' => w' = (w.alloc (.cells #[.int .i64 n, .int .i64 m, .int .i64 b] 117)) ∧ 1 ≤ x ∧ x ≤ 255 ∧ ∀ ext : List Int, ext.length = f + 1 → fitsB n m b lens (ks ++ ext) = true → x ≤ ext.getD 0 0) ⟨rfl, rfl, rfl, trivial⟩ ?_ ?_
    · refine v_seq ?_
      refine v_region ?_
      refine vl_val (os_move rfl) ?_
      refine vl_val (os_len Try.underlying40 rfl) ?_
      refine vl_val (os_gtr rfl rfl) ?_
      refine vl_nil ?_
      refine v_cond_d rfl (fun h0 => ?_) (fun h0 => ?_)
      · obtain ⟨bk, ok, rfl, dk⟩ := (hk.keep hb0).at_ (i := lk - 1) (by omega)
        have hz := hks (ks.getD (lk - 1) 0) (by rw [List.getD_eq_getElem?_getD, List.getElem?_eq_getElem (by omega)]; exact List.getElem_mem _)
        refine v_region ?_
        refine vl_val (os_move rfl) ?_
        refine vl_val (os_move rfl) ?_
        refine vl_val (os_len Try.underlying40 rfl) ?_
        refine vl_val (os_subi rfl rfl (by omega)) ?_
        refine vl_val (os_ix Try.underlying40 Try.sizeOf3 rfl rfl (i := lk - 1) (by omega) (by omega)) ?_
        refine vl_val (os_load Try.isAgg3 rfl (dk)) ?_
        refine vl_val (os_assign rfl) ?_
        refine vl_nil ?_
        exact ⟨ks.getD (lk - 1) 0, ⟨rfl, rfl, rfl, trivial⟩, ⟨rfl, trivial⟩, ⟨rfl, by omega, by omega, fun ext h1 h2 => by rw [hlk]; exact (fits_head h2 (by omega)).2.2 (by omega)⟩⟩
      · refine v_skip ?_
        exact ⟨1, ⟨rfl, rfl, rfl, trivial⟩, ⟨rfl, trivial⟩, ⟨rfl, by omega, by omega, fun ext h1 h2 => (fits_head h2 (by omega)).1⟩⟩
    · rintro x w1 ⟨rfl, hx1, hx9, hx⟩
      generalize hW : w.alloc (.cells #[.int .i64 n, .int .i64 m, .int .i64 b] 117) = w1 at *
      refine v_seq ?_
      refine v_seq ?_
      refine v_region ?_
      refine vl_val (os_move rfl) ?_
      refine vl_val (os_assign rfl) ?_
      refine vl_nil ?_
      refine v_block ?_
      refine v_loop [(1, _), (2, _), (3, _)] (fun (k : Int) => [(8, .int .i64 k)]) (fun k w' => 1 ≤ k ∧ k ≤ 256 ∧ Below w1.heap.size w1 w' ∧ ∀ ext : List Int, ext.length = f + 1 → fitsB n m b lens (ks ++ ext) = true → k ≤ ext.getD 0 0) (fun k => (256 - k).toNat) (x) ⟨rfl, rfl, rfl, trivial⟩ ⟨rfl, trivial⟩ (⟨hx1, by omega, Below.refl _ _, hx⟩) ?_
      rintro k w2 ⟨hk1, hk2, b2, hlow⟩
      have hB2 := hB0.keep b2
      have ha2 := (ha.keep hb0).keep b2
      have hkk2 := (hk.keep hb0).keep b2
      have d2 : LeD w2 { w2 with drawn := w2.drawn + 1 } := ⟨1, rfl⟩
      have b0 : Below w2.heap.size w2 { w2 with drawn := w2.drawn + 1 } := led_below d2
      have es : ({ w2 with drawn := w2.drawn + 1 } : World).heap.size = w2.heap.size := rfl
      refine v_seq ?_
      refine v_seq ?_
      refine v_region ?_
      refine vl_val (os_move rfl) ?_
      refine vl_val (os_fa (o := 0) (k := 0) (by kernel_rfl) rfl) ?_
      refine vl_val (os_load Try.isAgg3 rfl (hB2.cell (i := 0) rfl)) ?_
      refine vl_val (os_leq rfl rfl) ?_
      refine vl_nil ?_
      refine v_cond_d rfl (fun hle => ?_) (fun hle => ?_)
      · refine v_skip ?_
        refine v_seq ?_
        refine v_block ?_
        refine v_seq ?_
        refine v_region_a mixed ?_
        refine va_pure 1 rfl (by kernel_rfl) (by kernel_rfl) (by kernel_rfl) (fun w => (os_move rfl)) ?_
        refine va_pure 3 rfl (by kernel_rfl) (by kernel_rfl) (by kernel_rfl) (fun w => (os_move rfl)) ?_
        refine va_pure 5 rfl (by kernel_rfl) (by kernel_rfl) (by kernel_rfl) (fun w => (os_move rfl)) ?_
        refine va_three 0 2 6 (by kernel_rfl) ?_ ?_ ?_
        · refine vn_val rfl (os_loadB Try.underlying117 rfl (by kernel_rfl) rfl ((hB2.keep (by first | exact b41 | exact b40 | exact b38 | exact b36 | exact b0)))) ?_
          refine va_two 2 6 (by kernel_rfl) ?_ ?_
          · refine vn_some rfl (ot_lit w2.heap.size Try.underlying40 Try.sizeOf3 Try.zeroValue3 rfl rfl rfl rfl (by decide) (by first | exact b40.size | exact b0.size)) ?_
            rintro v36 w36 ⟨g36, rfl, e36, l36, O36, L36⟩
            have b36 : Below w2.heap.size w2 w36 := by first | exact b40.trans (L36.mono b40.size) | exact b0.trans (L36.mono b0.size)
            refine va_two 4 6 (by kernel_rfl) ?_ ?_
            · refine vn_some rfl (ot_append Try.underlying40 ti_int rfl rfl rfl (by first | exact O36 | exact Own.keepAll O36 L40) (hkk2.keep (by first | exact b40 | exact b36)).toC (by simp [hlk]) (ints_one _ _) (by simp; omega) (by simp [maxLen]; omega) (by first | exact b40.size | exact b36.size)) ?_
              rintro v38 w38 ⟨O38, G38⟩
              have b38 : Below w2.heap.size w2 w38 := by first | exact Own.below b40 (Own.keepAll O36 L40) G38 (Nat.le_refl _) b40.size | exact Own.below b36 O36 G38 (Nat.le_refl _) b36.size
              try have P40 : Own w38 w2.heap.size 3 (.slice (some ⟨g40, 0, none⟩) 1 1) [.int .i64 k] := by first | exact Own.other O40 G38 (.inr (by simp [Value.ownBlock]; omega)) | exact Own.other (Own.keepAll O40 L36) G38 (.inr (by simp [Value.ownBlock]; omega))
              refine va_one 6 (by kernel_rfl) ?_
              refine vn_some rfl (ot_lit w2.heap.size Try.underlying40 Try.sizeOf3 Try.zeroValue3 rfl rfl rfl rfl (by decide) (by first | exact b38.size | exact b36.size | exact b0.size)) ?_
              rintro v40 w40 ⟨g40, rfl, e40, l40, O40, L40⟩
              have b40 : Below w2.heap.size w2 w40 := by first | exact b38.trans (L40.mono b38.size) | exact b36.trans (L40.mono b36.size) | exact b0.trans (L40.mono b0.size)
              refine va_one 7 (by kernel_rfl) ?_
              refine vn_some rfl (ot_append Try.underlying40 ti_int rfl rfl rfl (by first | exact O38 | exact Own.keepAll O38 L40) (Own.rdc (by first | exact P40 | exact O40)) rfl (by simp [Value.oneCell']) (by simp; omega) (by simp [maxLen]; omega) (by first | exact b40.size | exact b38.size)) ?_
              rintro v41 w41 ⟨O41, G41⟩
              have b41 : Below w2.heap.size w2 w41 := by first | exact Own.below b40 (Own.keepAll O38 L40) G41 (Nat.le_refl _) b40.size | exact Own.below b38 O38 G41 (Nat.le_refl _) b38.size
              have Q41 : OwnK w41 w2.heap.size 3 .i64 v41 (ks ++ [k]) := by simpa [OwnK] using O41
              obtain ⟨A41, c41, rfl, -, -, r41, -⟩ := OwnK.form Q41
              refine va_one 8 (by kernel_rfl) ?_
              refine vn_call rfl (ih A41 _ c41 (ks ++ [k]) w41 (ha2.keep b41) r41 rfl (by simp; omega) (by intro z hz; rcases List.mem_append.1 hz with h | h; exact hks z h; rw [List.mem_singleton.1 h]; omega)) rfl ?_
              rintro v42 w42 ⟨⟨B, rfl, hB⟩, b42⟩
              have b42' : Below w1.heap.size w1 w42 := b2.trans ((b41.trans (b42.mono b41.size)).mono b2.size)
              refine va_done (by kernel_rfl) ?_
              refine v_cond rfl (fun hbb => ?_) (fun hbb => ?_)
              · refine v_seq ?_
                refine v_region ?_
                refine vl_val (os_assign rfl) ?_
                refine vl_nil ?_
                refine v_ret ?_
                exact post_ret rfl rfl (⟨⟨true, rfl, ⟨fun _ => by obtain ⟨ext, h1, h2⟩ := hB.1 (by simpa using hbb); exact ⟨k :: ext, by simp [h1], by simpa using h2⟩, fun _ => rfl⟩⟩, hb0.trans (b42'.mono hb0.size)⟩)
              · refine v_skip ?_
                refine v_region ?_
                refine vl_val (os_move rfl) ?_
                refine vl_val (os_addi rfl rfl (by omega)) ?_
                refine vl_val (os_assign rfl) ?_
                refine vl_nil ?_
                exact ⟨k + 1, ⟨rfl, rfl, rfl, trivial⟩, ⟨rfl, trivial⟩, ⟨by omega, by omega, b42', some_step hlow (fun h => by have := hB.2 h; simp [this] at hbb)⟩, by dsimp only; omega⟩
            · refine vn_some rfl (ot_lit w2.heap.size Try.underlying40 Try.sizeOf3 Try.zeroValue3 rfl rfl rfl rfl (by decide) (by first | exact b38.size | exact b36.size | exact b0.size)) ?_
              rintro v40 w40 ⟨g40, rfl, e40, l40, O40, L40⟩
              have b40 : Below w2.heap.size w2 w40 := by first | exact b38.trans (L40.mono b38.size) | exact b36.trans (L40.mono b36.size) | exact b0.trans (L40.mono b0.size)
              refine va_one 4 (by kernel_rfl) ?_
              refine vn_some rfl (ot_append Try.underlying40 ti_int rfl rfl rfl (by first | exact O36 | exact Own.keepAll O36 L40) (hkk2.keep (by first | exact b40 | exact b36)).toC (by simp [hlk]) (ints_one _ _) (by simp; omega) (by simp [maxLen]; omega) (by first | exact b40.size | exact b36.size)) ?_
              rintro v38 w38 ⟨O38, G38⟩
              have b38 : Below w2.heap.size w2 w38 := by first | exact Own.below b40 (Own.keepAll O36 L40) G38 (Nat.le_refl _) b40.size | exact Own.below b36 O36 G38 (Nat.le_refl _) b36.size
              try have P40 : Own w38 w2.heap.size 3 (.slice (some ⟨g40, 0, none⟩) 1 1) [.int .i64 k] := by first | exact Own.other O40 G38 (.inr (by simp [Value.ownBlock]; omega)) | exact Own.other (Own.keepAll O40 L36) G38 (.inr (by simp [Value.ownBlock]; omega))
              refine va_one 7 (by kernel_rfl) ?_
              refine vn_some rfl (ot_append Try.underlying40 ti_int rfl rfl rfl (by first | exact O38 | exact Own.keepAll O38 L40) (Own.rdc (by first | exact P40 | exact O40)) rfl (by simp [Value.oneCell']) (by simp; omega) (by simp [maxLen]; omega) (by first | exact b40.size | exact b38.size)) ?_
              rintro v41 w41 ⟨O41, G41⟩
              have b41 : Below w2.heap.size w2 w41 := by first | exact Own.below b40 (Own.keepAll O38 L40) G41 (Nat.le_refl _) b40.size | exact Own.below b38 O38 G41 (Nat.le_refl _) b38.size
              have Q41 : OwnK w41 w2.heap.size 3 .i64 v41 (ks ++ [k]) := by simpa [OwnK] using O41
              obtain ⟨A41, c41, rfl, -, -, r41, -⟩ := OwnK.form Q41
              refine va_one 8 (by kernel_rfl) ?_
              refine vn_call rfl (ih A41 _ c41 (ks ++ [k]) w41 (ha2.keep b41) r41 rfl (by simp; omega) (by intro z hz; rcases List.mem_append.1 hz with h | h; exact hks z h; rw [List.mem_singleton.1 h]; omega)) rfl ?_
              rintro v42 w42 ⟨⟨B, rfl, hB⟩, b42⟩
              have b42' : Below w1.heap.size w1 w42 := b2.trans ((b41.trans (b42.mono b41.size)).mono b2.size)
              refine va_done (by kernel_rfl) ?_
              refine v_cond rfl (fun hbb => ?_) (fun hbb => ?_)
              · refine v_seq ?_
                refine v_region ?_
                refine vl_val (os_assign rfl) ?_
                refine vl_nil ?_
                refine v_ret ?_
                exact post_ret rfl rfl (⟨⟨true, rfl, ⟨fun _ => by obtain ⟨ext, h1, h2⟩ := hB.1 (by simpa using hbb); exact ⟨k :: ext, by simp [h1], by simpa using h2⟩, fun _ => rfl⟩⟩, hb0.trans (b42'.mono hb0.size)⟩)
              · refine v_skip ?_
                refine v_region ?_
                refine vl_val (os_move rfl) ?_
                refine vl_val (os_addi rfl rfl (by omega)) ?_
                refine vl_val (os_assign rfl) ?_
                refine vl_nil ?_
                exact ⟨k + 1, ⟨rfl, rfl, rfl, trivial⟩, ⟨rfl, trivial⟩, ⟨by omega, by omega, b42', some_step hlow (fun h => by have := hB.2 h; simp [this] at hbb)⟩, by dsimp only; omega⟩
          · refine vn_some rfl (ot_lit w2.heap.size Try.underlying40 Try.sizeOf3 Try.zeroValue3 rfl rfl rfl rfl (by decide) (by first | exact b38.size | exact b36.size | exact b0.size)) ?_
            rintro v40 w40 ⟨g40, rfl, e40, l40, O40, L40⟩
            have b40 : Below w2.heap.size w2 w40 := by first | exact b38.trans (L40.mono b38.size) | exact b36.trans (L40.mono b36.size) | exact b0.trans (L40.mono b0.size)
            refine va_one 2 (by kernel_rfl) ?_
            refine vn_some rfl (ot_lit w2.heap.size Try.underlying40 Try.sizeOf3 Try.zeroValue3 rfl rfl rfl rfl (by decide) (by first | exact b40.size | exact b0.size)) ?_
            rintro v36 w36 ⟨g36, rfl, e36, l36, O36, L36⟩
            have b36 : Below w2.heap.size w2 w36 := by first | exact b40.trans (L36.mono b40.size) | exact b0.trans (L36.mono b0.size)
            refine va_one 4 (by kernel_rfl) ?_
            refine vn_some rfl (ot_append Try.underlying40 ti_int rfl rfl rfl (by first | exact O36 | exact Own.keepAll O36 L40) (hkk2.keep (by first | exact b40 | exact b36)).toC (by simp [hlk]) (ints_one _ _) (by simp; omega) (by simp [maxLen]; omega) (by first | exact b40.size | exact b36.size)) ?_
            rintro v38 w38 ⟨O38, G38⟩
            have b38 : Below w2.heap.size w2 w38 := by first | exact Own.below b40 (Own.keepAll O36 L40) G38 (Nat.le_refl _) b40.size | exact Own.below b36 O36 G38 (Nat.le_refl _) b36.size
            try have P40 : Own w38 w2.heap.size 3 (.slice (some ⟨g40, 0, none⟩) 1 1) [.int .i64 k] := by first | exact Own.other O40 G38 (.inr (by simp [Value.ownBlock]; omega)) | exact Own.other (Own.keepAll O40 L36) G38 (.inr (by simp [Value.ownBlock]; omega))
            refine va_one 7 (by kernel_rfl) ?_
            refine vn_some rfl (ot_append Try.underlying40 ti_int rfl rfl rfl (by first | exact O38 | exact Own.keepAll O38 L40) (Own.rdc (by first | exact P40 | exact O40)) rfl (by simp [Value.oneCell']) (by simp; omega) (by simp [maxLen]; omega) (by first | exact b40.size | exact b38.size)) ?_
            rintro v41 w41 ⟨O41, G41⟩
            have b41 : Below w2.heap.size w2 w41 := by first | exact Own.below b40 (Own.keepAll O38 L40) G41 (Nat.le_refl _) b40.size | exact Own.below b38 O38 G41 (Nat.le_refl _) b38.size
            have Q41 : OwnK w41 w2.heap.size 3 .i64 v41 (ks ++ [k]) := by simpa [OwnK] using O41
            obtain ⟨A41, c41, rfl, -, -, r41, -⟩ := OwnK.form Q41
            refine va_one 8 (by kernel_rfl) ?_
            refine vn_call rfl (ih A41 _ c41 (ks ++ [k]) w41 (ha2.keep b41) r41 rfl (by simp; omega) (by intro z hz; rcases List.mem_append.1 hz with h | h; exact hks z h; rw [List.mem_singleton.1 h]; omega)) rfl ?_
            rintro v42 w42 ⟨⟨B, rfl, hB⟩, b42⟩
            have b42' : Below w1.heap.size w1 w42 := b2.trans ((b41.trans (b42.mono b41.size)).mono b2.size)
            refine va_done (by kernel_rfl) ?_
            refine v_cond rfl (fun hbb => ?_) (fun hbb => ?_)
            · refine v_seq ?_
              refine v_region ?_
              refine vl_val (os_assign rfl) ?_
              refine vl_nil ?_
              refine v_ret ?_
              exact post_ret rfl rfl (⟨⟨true, rfl, ⟨fun _ => by obtain ⟨ext, h1, h2⟩ := hB.1 (by simpa using hbb); exact ⟨k :: ext, by simp [h1], by simpa using h2⟩, fun _ => rfl⟩⟩, hb0.trans (b42'.mono hb0.size)⟩)
            · refine v_skip ?_
              refine v_region ?_
              refine vl_val (os_move rfl) ?_
              refine vl_val (os_addi rfl rfl (by omega)) ?_
              refine vl_val (os_assign rfl) ?_
              refine vl_nil ?_
              exact ⟨k + 1, ⟨rfl, rfl, rfl, trivial⟩, ⟨rfl, trivial⟩, ⟨by omega, by omega, b42', some_step hlow (fun h => by have := hB.2 h; simp [this] at hbb)⟩, by dsimp only; omega⟩
        · refine vn_some rfl (ot_lit w2.heap.size Try.underlying40 Try.sizeOf3 Try.zeroValue3 rfl rfl rfl rfl (by decide) (by first | exact b40.size | exact b0.size)) ?_
          rintro v36 w36 ⟨g36, rfl, e36, l36, O36, L36⟩
          have b36 : Below w2.heap.size w2 w36 := by first | exact b40.trans (L36.mono b40.size) | exact b0.trans (L36.mono b0.size)
          refine va_three 0 4 6 (by kernel_rfl) ?_ ?_ ?_
          · refine vn_val rfl (os_loadB Try.underlying117 rfl (by kernel_rfl) rfl ((hB2.keep (by first | exact b41 | exact b40 | exact b38 | exact b36 | exact b0)))) ?_
            refine va_two 4 6 (by kernel_rfl) ?_ ?_
            · refine vn_some rfl (ot_append Try.underlying40 ti_int rfl rfl rfl (by first | exact O36 | exact Own.keepAll O36 L40) (hkk2.keep (by first | exact b40 | exact b36)).toC (by simp [hlk]) (ints_one _ _) (by simp; omega) (by simp [maxLen]; omega) (by first | exact b40.size | exact b36.size)) ?_
              rintro v38 w38 ⟨O38, G38⟩
              have b38 : Below w2.heap.size w2 w38 := by first | exact Own.below b40 (Own.keepAll O36 L40) G38 (Nat.le_refl _) b40.size | exact Own.below b36 O36 G38 (Nat.le_refl _) b36.size
              try have P40 : Own w38 w2.heap.size 3 (.slice (some ⟨g40, 0, none⟩) 1 1) [.int .i64 k] := by first | exact Own.other O40 G38 (.inr (by simp [Value.ownBlock]; omega)) | exact Own.other (Own.keepAll O40 L36) G38 (.inr (by simp [Value.ownBlock]; omega))
              refine va_one 6 (by kernel_rfl) ?_
              refine vn_some rfl (ot_lit w2.heap.size Try.underlying40 Try.sizeOf3 Try.zeroValue3 rfl rfl rfl rfl (by decide) (by first | exact b38.size | exact b36.size | exact b0.size)) ?_
              rintro v40 w40 ⟨g40, rfl, e40, l40, O40, L40⟩
              have b40 : Below w2.heap.size w2 w40 := by first | exact b38.trans (L40.mono b38.size) | exact b36.trans (L40.mono b36.size) | exact b0.trans (L40.mono b0.size)
              refine va_one 7 (by kernel_rfl) ?_
              refine vn_some rfl (ot_append Try.underlying40 ti_int rfl rfl rfl (by first | exact O38 | exact Own.keepAll O38 L40) (Own.rdc (by first | exact P40 | exact O40)) rfl (by simp [Value.oneCell']) (by simp; omega) (by simp [maxLen]; omega) (by first | exact b40.size | exact b38.size)) ?_
              rintro v41 w41 ⟨O41, G41⟩
              have b41 : Below w2.heap.size w2 w41 := by first | exact Own.below b40 (Own.keepAll O38 L40) G41 (Nat.le_refl _) b40.size | exact Own.below b38 O38 G41 (Nat.le_refl _) b38.size
              have Q41 : OwnK w41 w2.heap.size 3 .i64 v41 (ks ++ [k]) := by simpa [OwnK] using O41
              obtain ⟨A41, c41, rfl, -, -, r41, -⟩ := OwnK.form Q41
              refine va_one 8 (by kernel_rfl) ?_
              refine vn_call rfl (ih A41 _ c41 (ks ++ [k]) w41 (ha2.keep b41) r41 rfl (by simp; omega) (by intro z hz; rcases List.mem_append.1 hz with h | h; exact hks z h; rw [List.mem_singleton.1 h]; omega)) rfl ?_
              rintro v42 w42 ⟨⟨B, rfl, hB⟩, b42⟩
              have b42' : Below w1.heap.size w1 w42 := b2.trans ((b41.trans (b42.mono b41.size)).mono b2.size)
              refine va_done (by kernel_rfl) ?_
              refine v_cond rfl (fun hbb => ?_) (fun hbb => ?_)
              · refine v_seq ?_
                refine v_region ?_
                refine vl_val (os_assign rfl) ?_
                refine vl_nil ?_
                refine v_ret ?_
                exact post_ret rfl rfl (⟨⟨true, rfl, ⟨fun _ => by obtain ⟨ext, h1, h2⟩ := hB.1 (by simpa using hbb); exact ⟨k :: ext, by simp [h1], by simpa using h2⟩, fun _ => rfl⟩⟩, hb0.trans (b42'.mono hb0.size)⟩)
              · refine v_skip ?_
                refine v_region ?_
                refine vl_val (os_move rfl) ?_
                refine vl_val (os_addi rfl rfl (by omega)) ?_
                refine vl_val (os_assign rfl) ?_
                refine vl_nil ?_
                exact ⟨k + 1, ⟨rfl, rfl, rfl, trivial⟩, ⟨rfl, trivial⟩, ⟨by omega, by omega, b42', some_step hlow (fun h => by have := hB.2 h; simp [this] at hbb)⟩, by dsimp only; omega⟩
            · refine vn_some rfl (ot_lit w2.heap.size Try.underlying40 Try.sizeOf3 Try.zeroValue3 rfl rfl rfl rfl (by decide) (by first | exact b38.size | exact b36.size | exact b0.size)) ?_
              rintro v40 w40 ⟨g40, rfl, e40, l40, O40, L40⟩
              have b40 : Below w2.heap.size w2 w40 := by first | exact b38.trans (L40.mono b38.size) | exact b36.trans (L40.mono b36.size) | exact b0.trans (L40.mono b0.size)
              refine va_one 4 (by kernel_rfl) ?_
              refine vn_some rfl (ot_append Try.underlying40 ti_int rfl rfl rfl (by first | exact O36 | exact Own.keepAll O36 L40) (hkk2.keep (by first | exact b40 | exact b36)).toC (by simp [hlk]) (ints_one _ _) (by simp; omega) (by simp [maxLen]; omega) (by first | exact b40.size | exact b36.size)) ?_
              rintro v38 w38 ⟨O38, G38⟩
              have b38 : Below w2.heap.size w2 w38 := by first | exact Own.below b40 (Own.keepAll O36 L40) G38 (Nat.le_refl _) b40.size | exact Own.below b36 O36 G38 (Nat.le_refl _) b36.size
              try have P40 : Own w38 w2.heap.size 3 (.slice (some ⟨g40, 0, none⟩) 1 1) [.int .i64 k] := by first | exact Own.other O40 G38 (.inr (by simp [Value.ownBlock]; omega)) | exact Own.other (Own.keepAll O40 L36) G38 (.inr (by simp [Value.ownBlock]; omega))
              refine va_one 7 (by kernel_rfl) ?_
              refine vn_some rfl (ot_append Try.underlying40 ti_int rfl rfl rfl (by first | exact O38 | exact Own.keepAll O38 L40) (Own.rdc (by first | exact P40 | exact O40)) rfl (by simp [Value.oneCell']) (by simp; omega) (by simp [maxLen]; omega) (by first | exact b40.size | exact b38.size)) ?_
              rintro v41 w41 ⟨O41, G41⟩
              have b41 : Below w2.heap.size w2 w41 := by first | exact Own.below b40 (Own.keepAll O38 L40) G41 (Nat.le_refl _) b40.size | exact Own.below b38 O38 G41 (Nat.le_refl _) b38.size
              have Q41 : OwnK w41 w2.heap.size 3 .i64 v41 (ks ++ [k]) := by simpa [OwnK] using O41
              obtain ⟨A41, c41, rfl, -, -, r41, -⟩ := OwnK.form Q41
              refine va_one 8 (by kernel_rfl) ?_
              refine vn_call rfl (ih A41 _ c41 (ks ++ [k]) w41 (ha2.keep b41) r41 rfl (by simp; omega) (by intro z hz; rcases List.mem_append.1 hz with h | h; exact hks z h; rw [List.mem_singleton.1 h]; omega)) rfl ?_
              rintro v42 w42 ⟨⟨B, rfl, hB⟩, b42⟩
              have b42' : Below w1.heap.size w1 w42 := b2.trans ((b41.trans (b42.mono b41.size)).mono b2.size)
              refine va_done (by kernel_rfl) ?_
              refine v_cond rfl (fun hbb => ?_) (fun hbb => ?_)
              · refine v_seq ?_
                refine v_region ?_
                refine vl_val (os_assign rfl) ?_
                refine vl_nil ?_
                refine v_ret ?_
                exact post_ret rfl rfl (⟨⟨true, rfl, ⟨fun _ => by obtain ⟨ext, h1, h2⟩ := hB.1 (by simpa using hbb); exact ⟨k :: ext, by simp [h1], by simpa using h2⟩, fun _ => rfl⟩⟩, hb0.trans (b42'.mono hb0.size)⟩)
              · refine v_skip ?_
                refine v_region ?_
                refine vl_val (os_move rfl) ?_
                refine vl_val (os_addi rfl rfl (by omega)) ?_
                refine vl_val (os_assign rfl) ?_
                refine vl_nil ?_
                exact ⟨k + 1, ⟨rfl, rfl, rfl, trivial⟩, ⟨rfl, trivial⟩, ⟨by omega, by omega, b42', some_step hlow (fun h => by have := hB.2 h; simp [this] at hbb)⟩, by dsimp only; omega⟩
          · refine vn_some rfl (ot_append Try.underlying40 ti_int rfl rfl rfl (by first | exact O36 | exact Own.keepAll O36 L40) (hkk2.keep (by first | exact b40 | exact b36)).toC (by simp [hlk]) (ints_one _ _) (by simp; omega) (by simp [maxLen]; omega) (by first | exact b40.size | exact b36.size)) ?_
            rintro v38 w38 ⟨O38, G38⟩
            have b38 : Below w2.heap.size w2 w38 := by first | exact Own.below b40 (Own.keepAll O36 L40) G38 (Nat.le_refl _) b40.size | exact Own.below b36 O36 G38 (Nat.le_refl _) b36.size
            try have P40 : Own w38 w2.heap.size 3 (.slice (some ⟨g40, 0, none⟩) 1 1) [.int .i64 k] := by first | exact Own.other O40 G38 (.inr (by simp [Value.ownBlock]; omega)) | exact Own.other (Own.keepAll O40 L36) G38 (.inr (by simp [Value.ownBlock]; omega))
            refine va_two 0 6 (by kernel_rfl) ?_ ?_
            · refine vn_val rfl (os_loadB Try.underlying117 rfl (by kernel_rfl) rfl ((hB2.keep (by first | exact b41 | exact b40 | exact b38 | exact b36 | exact b0)))) ?_
              refine va_one 6 (by kernel_rfl) ?_
              refine vn_some rfl (ot_lit w2.heap.size Try.underlying40 Try.sizeOf3 Try.zeroValue3 rfl rfl rfl rfl (by decide) (by first | exact b38.size | exact b36.size | exact b0.size)) ?_
              rintro v40 w40 ⟨g40, rfl, e40, l40, O40, L40⟩
              have b40 : Below w2.heap.size w2 w40 := by first | exact b38.trans (L40.mono b38.size) | exact b36.trans (L40.mono b36.size) | exact b0.trans (L40.mono b0.size)
              refine va_one 7 (by kernel_rfl) ?_
              refine vn_some rfl (ot_append Try.underlying40 ti_int rfl rfl rfl (by first | exact O38 | exact Own.keepAll O38 L40) (Own.rdc (by first | exact P40 | exact O40)) rfl (by simp [Value.oneCell']) (by simp; omega) (by simp [maxLen]; omega) (by first | exact b40.size | exact b38.size)) ?_
              rintro v41 w41 ⟨O41, G41⟩
              have b41 : Below w2.heap.size w2 w41 := by first | exact Own.below b40 (Own.keepAll O38 L40) G41 (Nat.le_refl _) b40.size | exact Own.below b38 O38 G41 (Nat.le_refl _) b38.size
              have Q41 : OwnK w41 w2.heap.size 3 .i64 v41 (ks ++ [k]) := by simpa [OwnK] using O41
              obtain ⟨A41, c41, rfl, -, -, r41, -⟩ := OwnK.form Q41
              refine va_one 8 (by kernel_rfl) ?_
              refine vn_call rfl (ih A41 _ c41 (ks ++ [k]) w41 (ha2.keep b41) r41 rfl (by simp; omega) (by intro z hz; rcases List.mem_append.1 hz with h | h; exact hks z h; rw [List.mem_singleton.1 h]; omega)) rfl ?_
              rintro v42 w42 ⟨⟨B, rfl, hB⟩, b42⟩
              have b42' : Below w1.heap.size w1 w42 := b2.trans ((b41.trans (b42.mono b41.size)).mono b2.size)
              refine va_done (by kernel_rfl) ?_
              refine v_cond rfl (fun hbb => ?_) (fun hbb => ?_)
              · refine v_seq ?_
                refine v_region ?_
                refine vl_val (os_assign rfl) ?_
                refine vl_nil ?_
                refine v_ret ?_
                exact post_ret rfl rfl (⟨⟨true, rfl, ⟨fun _ => by obtain ⟨ext, h1, h2⟩ := hB.1 (by simpa using hbb); exact ⟨k :: ext, by simp [h1], by simpa using h2⟩, fun _ => rfl⟩⟩, hb0.trans (b42'.mono hb0.size)⟩)
              · refine v_skip ?_
                refine v_region ?_
                refine vl_val (os_move rfl) ?_
                refine vl_val (os_addi rfl rfl (by omega)) ?_
                refine vl_val (os_assign rfl) ?_
                refine vl_nil ?_
                exact ⟨k + 1, ⟨rfl, rfl, rfl, trivial⟩, ⟨rfl, trivial⟩, ⟨by omega, by omega, b42', some_step hlow (fun h => by have := hB.2 h; simp [this] at hbb)⟩, by dsimp only; omega⟩
            · refine vn_some rfl (ot_lit w2.heap.size Try.underlying40 Try.sizeOf3 Try.zeroValue3 rfl rfl rfl rfl (by decide) (by first | exact b38.size | exact b36.size | exact b0.size)) ?_
              rintro v40 w40 ⟨g40, rfl, e40, l40, O40, L40⟩
              have b40 : Below w2.heap.size w2 w40 := by first | exact b38.trans (L40.mono b38.size) | exact b36.trans (L40.mono b36.size) | exact b0.trans (L40.mono b0.size)
              refine va_two 0 7 (by kernel_rfl) ?_ ?_
              · refine vn_val rfl (os_loadB Try.underlying117 rfl (by kernel_rfl) rfl ((hB2.keep (by first | exact b41 | exact b40 | exact b38 | exact b36 | exact b0)))) ?_
                refine va_one 7 (by kernel_rfl) ?_
                refine vn_some rfl (ot_append Try.underlying40 ti_int rfl rfl rfl (by first | exact O38 | exact Own.keepAll O38 L40) (Own.rdc (by first | exact P40 | exact O40)) rfl (by simp [Value.oneCell']) (by simp; omega) (by simp [maxLen]; omega) (by first | exact b40.size | exact b38.size)) ?_
                rintro v41 w41 ⟨O41, G41⟩
                have b41 : Below w2.heap.size w2 w41 := by first | exact Own.below b40 (Own.keepAll O38 L40) G41 (Nat.le_refl _) b40.size | exact Own.below b38 O38 G41 (Nat.le_refl _) b38.size
                have Q41 : OwnK w41 w2.heap.size 3 .i64 v41 (ks ++ [k]) := by simpa [OwnK] using O41
                obtain ⟨A41, c41, rfl, -, -, r41, -⟩ := OwnK.form Q41
                refine va_one 8 (by kernel_rfl) ?_
                refine vn_call rfl (ih A41 _ c41 (ks ++ [k]) w41 (ha2.keep b41) r41 rfl (by simp; omega) (by intro z hz; rcases List.mem_append.1 hz with h | h; exact hks z h; rw [List.mem_singleton.1 h]; omega)) rfl ?_
                rintro v42 w42 ⟨⟨B, rfl, hB⟩, b42⟩
                have b42' : Below w1.heap.size w1 w42 := b2.trans ((b41.trans (b42.mono b41.size)).mono b2.size)
                refine va_done (by kernel_rfl) ?_
                refine v_cond rfl (fun hbb => ?_) (fun hbb => ?_)
                · refine v_seq ?_
                  refine v_region ?_
                  refine vl_val (os_assign rfl) ?_
                  refine vl_nil ?_
                  refine v_ret ?_
                  exact post_ret rfl rfl (⟨⟨true, rfl, ⟨fun _ => by obtain ⟨ext, h1, h2⟩ := hB.1 (by simpa using hbb); exact ⟨k :: ext, by simp [h1], by simpa using h2⟩, fun _ => rfl⟩⟩, hb0.trans (b42'.mono hb0.size)⟩)
                · refine v_skip ?_
                  refine v_region ?_
                  refine vl_val (os_move rfl) ?_
                  refine vl_val (os_addi rfl rfl (by omega)) ?_
                  refine vl_val (os_assign rfl) ?_
                  refine vl_nil ?_
                  exact ⟨k + 1, ⟨rfl, rfl, rfl, trivial⟩, ⟨rfl, trivial⟩, ⟨by omega, by omega, b42', some_step hlow (fun h => by have := hB.2 h; simp [this] at hbb)⟩, by dsimp only; omega⟩
              · refine vn_some rfl (ot_append Try.underlying40 ti_int rfl rfl rfl (by first | exact O38 | exact Own.keepAll O38 L40) (Own.rdc (by first | exact P40 | exact O40)) rfl (by simp [Value.oneCell']) (by simp; omega) (by simp [maxLen]; omega) (by first | exact b40.size | exact b38.size)) ?_
                rintro v41 w41 ⟨O41, G41⟩
                have b41 : Below w2.heap.size w2 w41 := by first | exact Own.below b40 (Own.keepAll O38 L40) G41 (Nat.le_refl _) b40.size | exact Own.below b38 O38 G41 (Nat.le_refl _) b38.size
                have Q41 : OwnK w41 w2.heap.size 3 .i64 v41 (ks ++ [k]) := by simpa [OwnK] using O41
                obtain ⟨A41, c41, rfl, -, -, r41, -⟩ := OwnK.form Q41
                refine va_one 0 (by kernel_rfl) ?_
                refine vn_val rfl (os_loadB Try.underlying117 rfl (by kernel_rfl) rfl ((hB2.keep (by first | exact b41 | exact b40 | exact b38 | exact b36 | exact b0)))) ?_
                refine va_one 8 (by kernel_rfl) ?_
                refine vn_call rfl (ih A41 _ c41 (ks ++ [k]) w41 (ha2.keep b41) r41 rfl (by simp; omega) (by intro z hz; rcases List.mem_append.1 hz with h | h; exact hks z h; rw [List.mem_singleton.1 h]; omega)) rfl ?_
                rintro v42 w42 ⟨⟨B, rfl, hB⟩, b42⟩
                have b42' : Below w1.heap.size w1 w42 := b2.trans ((b41.trans (b42.mono b41.size)).mono b2.size)
                refine va_done (by kernel_rfl) ?_
                refine v_cond rfl (fun hbb => ?_) (fun hbb => ?_)
                · refine v_seq ?_
                  refine v_region ?_
                  refine vl_val (os_assign rfl) ?_
                  refine vl_nil ?_
                  refine v_ret ?_
                  exact post_ret rfl rfl (⟨⟨true, rfl, ⟨fun _ => by obtain ⟨ext, h1, h2⟩ := hB.1 (by simpa using hbb); exact ⟨k :: ext, by simp [h1], by simpa using h2⟩, fun _ => rfl⟩⟩, hb0.trans (b42'.mono hb0.size)⟩)
                · refine v_skip ?_
                  refine v_region ?_
                  refine vl_val (os_move rfl) ?_
                  refine vl_val (os_addi rfl rfl (by omega)) ?_
                  refine vl_val (os_assign rfl) ?_
                  refine vl_nil ?_
                  exact ⟨k + 1, ⟨rfl, rfl, rfl, trivial⟩, ⟨rfl, trivial⟩, ⟨by omega, by omega, b42', some_step hlow (fun h => by have := hB.2 h; simp [this] at hbb)⟩, by dsimp only; omega⟩
          · refine vn_some rfl (ot_lit w2.heap.size Try.underlying40 Try.sizeOf3 Try.zeroValue3 rfl rfl rfl rfl (by decide) (by first | exact b38.size | exact b36.size | exact b0.size)) ?_
            rintro v40 w40 ⟨g40, rfl, e40, l40, O40, L40⟩
            have b40 : Below w2.heap.size w2 w40 := by first | exact b38.trans (L40.mono b38.size) | exact b36.trans (L40.mono b36.size) | exact b0.trans (L40.mono b0.size)
            refine va_two 0 4 (by kernel_rfl) ?_ ?_
            · refine vn_val rfl (os_loadB Try.underlying117 rfl (by kernel_rfl) rfl ((hB2.keep (by first | exact b41 | exact b40 | exact b38 | exact b36 | exact b0)))) ?_
              refine va_one 4 (by kernel_rfl) ?_
              refine vn_some rfl (ot_append Try.underlying40 ti_int rfl rfl rfl (by first | exact O36 | exact Own.keepAll O36 L40) (hkk2.keep (by first | exact b40 | exact b36)).toC (by simp [hlk]) (ints_one _ _) (by simp; omega) (by simp [maxLen]; omega) (by first | exact b40.size | exact b36.size)) ?_
              rintro v38 w38 ⟨O38, G38⟩
              have b38 : Below w2.heap.size w2 w38 := by first | exact Own.below b40 (Own.keepAll O36 L40) G38 (Nat.le_refl _) b40.size | exact Own.below b36 O36 G38 (Nat.le_refl _) b36.size
              try have P40 : Own w38 w2.heap.size 3 (.slice (some ⟨g40, 0, none⟩) 1 1) [.int .i64 k] := by first | exact Own.other O40 G38 (.inr (by simp [Value.ownBlock]; omega)) | exact Own.other (Own.keepAll O40 L36) G38 (.inr (by simp [Value.ownBlock]; omega))
              refine va_one 7 (by kernel_rfl) ?_
              refine vn_some rfl (ot_append Try.underlying40 ti_int rfl rfl rfl (by first | exact O38 | exact Own.keepAll O38 L40) (Own.rdc (by first | exact P40 | exact O40)) rfl (by simp [Value.oneCell']) (by simp; omega) (by simp [maxLen]; omega) (by first | exact b40.size | exact b38.size)) ?_
              rintro v41 w41 ⟨O41, G41⟩
              have b41 : Below w2.heap.size w2 w41 := by first | exact Own.below b40 (Own.keepAll O38 L40) G41 (Nat.le_refl _) b40.size | exact Own.below b38 O38 G41 (Nat.le_refl _) b38.size
              have Q41 : OwnK w41 w2.heap.size 3 .i64 v41 (ks ++ [k]) := by simpa [OwnK] using O41
              obtain ⟨A41, c41, rfl, -, -, r41, -⟩ := OwnK.form Q41
              refine va_one 8 (by kernel_rfl) ?_
              refine vn_call rfl (ih A41 _ c41 (ks ++ [k]) w41 (ha2.keep b41) r41 rfl (by simp; omega) (by intro z hz; rcases List.mem_append.1 hz with h | h; exact hks z h; rw [List.mem_singleton.1 h]; omega)) rfl ?_
              rintro v42 w42 ⟨⟨B, rfl, hB⟩, b42⟩
              have b42' : Below w1.heap.size w1 w42 := b2.trans ((b41.trans (b42.mono b41.size)).mono b2.size)
              refine va_done (by kernel_rfl) ?_
              refine v_cond rfl (fun hbb => ?_) (fun hbb => ?_)
              · refine v_seq ?_
                refine v_region ?_
                refine vl_val (os_assign rfl) ?_
                refine vl_nil ?_
                refine v_ret ?_
                exact post_ret rfl rfl (⟨⟨true, rfl, ⟨fun _ => by obtain ⟨ext, h1, h2⟩ := hB.1 (by simpa using hbb); exact ⟨k :: ext, by simp [h1], by simpa using h2⟩, fun _ => rfl⟩⟩, hb0.trans (b42'.mono hb0.size)⟩)
              · refine v_skip ?_
                refine v_region ?_
                refine vl_val (os_move rfl) ?_
                refine vl_val (os_addi rfl rfl (by omega)) ?_
                refine vl_val (os_assign rfl) ?_
                refine vl_nil ?_
                exact ⟨k + 1, ⟨rfl, rfl, rfl, trivial⟩, ⟨rfl, trivial⟩, ⟨by omega, by omega, b42', some_step hlow (fun h => by have := hB.2 h; simp [this] at hbb)⟩, by dsimp only; omega⟩
            · refine vn_some rfl (ot_append Try.underlying40 ti_int rfl rfl rfl (by first | exact O36 | exact Own.keepAll O36 L40) (hkk2.keep (by first | exact b40 | exact b36)).toC (by simp [hlk]) (ints_one _ _) (by simp; omega) (by simp [maxLen]; omega) (by first | exact b40.size | exact b36.size)) ?_
              rintro v38 w38 ⟨O38, G38⟩
              have b38 : Below w2.heap.size w2 w38 := by first | exact Own.below b40 (Own.keepAll O36 L40) G38 (Nat.le_refl _) b40.size | exact Own.below b36 O36 G38 (Nat.le_refl _) b36.size
              try have P40 : Own w38 w2.heap.size 3 (.slice (some ⟨g40, 0, none⟩) 1 1) [.int .i64 k] := by first | exact Own.other O40 G38 (.inr (by simp [Value.ownBlock]; omega)) | exact Own.other (Own.keepAll O40 L36) G38 (.inr (by simp [Value.ownBlock]; omega))
              refine va_two 0 7 (by kernel_rfl) ?_ ?_
              · refine vn_val rfl (os_loadB Try.underlying117 rfl (by kernel_rfl) rfl ((hB2.keep (by first | exact b41 | exact b40 | exact b38 | exact b36 | exact b0)))) ?_
                refine va_one 7 (by kernel_rfl) ?_
                refine vn_some rfl (ot_append Try.underlying40 ti_int rfl rfl rfl (by first | exact O38 | exact Own.keepAll O38 L40) (Own.rdc (by first | exact P40 | exact O40)) rfl (by simp [Value.oneCell']) (by simp; omega) (by simp [maxLen]; omega) (by first | exact b40.size | exact b38.size)) ?_
                rintro v41 w41 ⟨O41, G41⟩
                have b41 : Below w2.heap.size w2 w41 := by first | exact Own.below b40 (Own.keepAll O38 L40) G41 (Nat.le_refl _) b40.size | exact Own.below b38 O38 G41 (Nat.le_refl _) b38.size
                have Q41 : OwnK w41 w2.heap.size 3 .i64 v41 (ks ++ [k]) := by simpa [OwnK] using O41
                obtain ⟨A41, c41, rfl, -, -, r41, -⟩ := OwnK.form Q41
                refine va_one 8 (by kernel_rfl) ?_
                refine vn_call rfl (ih A41 _ c41 (ks ++ [k]) w41 (ha2.keep b41) r41 rfl (by simp; omega) (by intro z hz; rcases List.mem_append.1 hz with h | h; exact hks z h; rw [List.mem_singleton.1 h]; omega)) rfl ?_
                rintro v42 w42 ⟨⟨B, rfl, hB⟩, b42⟩
                have b42' : Below w1.heap.size w1 w42 := b2.trans ((b41.trans (b42.mono b41.size)).mono b2.size)
                refine va_done (by kernel_rfl) ?_
                refine v_cond rfl (fun hbb => ?_) (fun hbb => ?_)
                · refine v_seq ?_
                  refine v_region ?_
                  refine vl_val (os_assign rfl) ?_
                  refine vl_nil ?_
                  refine v_ret ?_
                  exact post_ret rfl rfl (⟨⟨true, rfl, ⟨fun _ => by obtain ⟨ext, h1, h2⟩ := hB.1 (by simpa using hbb); exact ⟨k :: ext, by simp [h1], by simpa using h2⟩, fun _ => rfl⟩⟩, hb0.trans (b42'.mono hb0.size)⟩)
                · refine v_skip ?_
                  refine v_region ?_
                  refine vl_val (os_move rfl) ?_
                  refine vl_val (os_addi rfl rfl (by omega)) ?_
                  refine vl_val (os_assign rfl) ?_
                  refine vl_nil ?_
                  exact ⟨k + 1, ⟨rfl, rfl, rfl, trivial⟩, ⟨rfl, trivial⟩, ⟨by omega, by omega, b42', some_step hlow (fun h => by have := hB.2 h; simp [this] at hbb)⟩, by dsimp only; omega⟩
              · refine vn_some rfl (ot_append Try.underlying40 ti_int rfl rfl rfl (by first | exact O38 | exact Own.keepAll O38 L40) (Own.rdc (by first | exact P40 | exact O40)) rfl (by simp [Value.oneCell']) (by simp; omega) (by simp [maxLen]; omega) (by first | exact b40.size | exact b38.size)) ?_
                rintro v41 w41 ⟨O41, G41⟩
                have b41 : Below w2.heap.size w2 w41 := by first | exact Own.below b40 (Own.keepAll O38 L40) G41 (Nat.le_refl _) b40.size | exact Own.below b38 O38 G41 (Nat.le_refl _) b38.size
                have Q41 : OwnK w41 w2.heap.size 3 .i64 v41 (ks ++ [k]) := by simpa [OwnK] using O41
                obtain ⟨A41, c41, rfl, -, -, r41, -⟩ := OwnK.form Q41
                refine va_one 0 (by kernel_rfl) ?_
                refine vn_val rfl (os_loadB Try.underlying117 rfl (by kernel_rfl) rfl ((hB2.keep (by first | exact b41 | exact b40 | exact b38 | exact b36 | exact b0)))) ?_
                refine va_one 8 (by kernel_rfl) ?_
                refine vn_call rfl (ih A41 _ c41 (ks ++ [k]) w41 (ha2.keep b41) r41 rfl (by simp; omega) (by intro z hz; rcases List.mem_append.1 hz with h | h; exact hks z h; rw [List.mem_singleton.1 h]; omega)) rfl ?_
                rintro v42 w42 ⟨⟨B, rfl, hB⟩, b42⟩
                have b42' : Below w1.heap.size w1 w42 := b2.trans ((b41.trans (b42.mono b41.size)).mono b2.size)
                refine va_done (by kernel_rfl) ?_
                refine v_cond rfl (fun hbb => ?_) (fun hbb => ?_)
                · refine v_seq ?_
                  refine v_region ?_
                  refine vl_val (os_assign rfl) ?_
                  refine vl_nil ?_
                  refine v_ret ?_
                  exact post_ret rfl rfl (⟨⟨true, rfl, ⟨fun _ => by obtain ⟨ext, h1, h2⟩ := hB.1 (by simpa using hbb); exact ⟨k :: ext, by simp [h1], by simpa using h2⟩, fun _ => rfl⟩⟩, hb0.trans (b42'.mono hb0.size)⟩)
                · refine v_skip ?_
                  refine v_region ?_
                  refine vl_val (os_move rfl) ?_
                  refine vl_val (os_addi rfl rfl (by omega)) ?_
                  refine vl_val (os_assign rfl) ?_
                  refine vl_nil ?_
                  exact ⟨k + 1, ⟨rfl, rfl, rfl, trivial⟩, ⟨rfl, trivial⟩, ⟨by omega, by omega, b42', some_step hlow (fun h => by have := hB.2 h; simp [this] at hbb)⟩, by dsimp only; omega⟩
        · refine vn_some rfl (ot_lit w2.heap.size Try.underlying40 Try.sizeOf3 Try.zeroValue3 rfl rfl rfl rfl (by decide) (by first | exact b38.size | exact b36.size | exact b0.size)) ?_
          rintro v40 w40 ⟨g40, rfl, e40, l40, O40, L40⟩
          have b40 : Below w2.heap.size w2 w40 := by first | exact b38.trans (L40.mono b38.size) | exact b36.trans (L40.mono b36.size) | exact b0.trans (L40.mono b0.size)
          refine va_two 0 2 (by kernel_rfl) ?_ ?_
          · refine vn_val rfl (os_loadB Try.underlying117 rfl (by kernel_rfl) rfl ((hB2.keep (by first | exact b41 | exact b40 | exact b38 | exact b36 | exact b0)))) ?_
            refine va_one 2 (by kernel_rfl) ?_
            refine vn_some rfl (ot_lit w2.heap.size Try.underlying40 Try.sizeOf3 Try.zeroValue3 rfl rfl rfl rfl (by decide) (by first | exact b40.size | exact b0.size)) ?_
            rintro v36 w36 ⟨g36, rfl, e36, l36, O36, L36⟩
            have b36 : Below w2.heap.size w2 w36 := by first | exact b40.trans (L36.mono b40.size) | exact b0.trans (L36.mono b0.size)
            refine va_one 4 (by kernel_rfl) ?_
            refine vn_some rfl (ot_append Try.underlying40 ti_int rfl rfl rfl (by first | exact O36 | exact Own.keepAll O36 L40) (hkk2.keep (by first | exact b40 | exact b36)).toC (by simp [hlk]) (ints_one _ _) (by simp; omega) (by simp [maxLen]; omega) (by first | exact b40.size | exact b36.size)) ?_
            rintro v38 w38 ⟨O38, G38⟩
            have b38 : Below w2.heap.size w2 w38 := by first | exact Own.below b40 (Own.keepAll O36 L40) G38 (Nat.le_refl _) b40.size | exact Own.below b36 O36 G38 (Nat.le_refl _) b36.size
            try have P40 : Own w38 w2.heap.size 3 (.slice (some ⟨g40, 0, none⟩) 1 1) [.int .i64 k] := by first | exact Own.other O40 G38 (.inr (by simp [Value.ownBlock]; omega)) | exact Own.other (Own.keepAll O40 L36) G38 (.inr (by simp [Value.ownBlock]; omega))
            refine va_one 7 (by kernel_rfl) ?_
            refine vn_some rfl (ot_append Try.underlying40 ti_int rfl rfl rfl (by first | exact O38 | exact Own.keepAll O38 L40) (Own.rdc (by first | exact P40 | exact O40)) rfl (by simp [Value.oneCell']) (by simp; omega) (by simp [maxLen]; omega) (by first | exact b40.size | exact b38.size)) ?_
            rintro v41 w41 ⟨O41, G41⟩
            have b41 : Below w2.heap.size w2 w41 := by first | exact Own.below b40 (Own.keepAll O38 L40) G41 (Nat.le_refl _) b40.size | exact Own.below b38 O38 G41 (Nat.le_refl _) b38.size
            have Q41 : OwnK w41 w2.heap.size 3 .i64 v41 (ks ++ [k]) := by simpa [OwnK] using O41
            obtain ⟨A41, c41, rfl, -, -, r41, -⟩ := OwnK.form Q41
            refine va_one 8 (by kernel_rfl) ?_
            refine vn_call rfl (ih A41 _ c41 (ks ++ [k]) w41 (ha2.keep b41) r41 rfl (by simp; omega) (by intro z hz; rcases List.mem_append.1 hz with h | h; exact hks z h; rw [List.mem_singleton.1 h]; omega)) rfl ?_
            rintro v42 w42 ⟨⟨B, rfl, hB⟩, b42⟩
            have b42' : Below w1.heap.size w1 w42 := b2.trans ((b41.trans (b42.mono b41.size)).mono b2.size)
            refine va_done (by kernel_rfl) ?_
            refine v_cond rfl (fun hbb => ?_) (fun hbb => ?_)
            · refine v_seq ?_
              refine v_region ?_
              refine vl_val (os_assign rfl) ?_
              refine vl_nil ?_
              refine v_ret ?_
              exact post_ret rfl rfl (⟨⟨true, rfl, ⟨fun _ => by obtain ⟨ext, h1, h2⟩ := hB.1 (by simpa using hbb); exact ⟨k :: ext, by simp [h1], by simpa using h2⟩, fun _ => rfl⟩⟩, hb0.trans (b42'.mono hb0.size)⟩)
            · refine v_skip ?_
              refine v_region ?_
              refine vl_val (os_move rfl) ?_
              refine vl_val (os_addi rfl rfl (by omega)) ?_
              refine vl_val (os_assign rfl) ?_
              refine vl_nil ?_
              exact ⟨k + 1, ⟨rfl, rfl, rfl, trivial⟩, ⟨rfl, trivial⟩, ⟨by omega, by omega, b42', some_step hlow (fun h => by have := hB.2 h; simp [this] at hbb)⟩, by dsimp only; omega⟩
          · refine vn_some rfl (ot_lit w2.heap.size Try.underlying40 Try.sizeOf3 Try.zeroValue3 rfl rfl rfl rfl (by decide) (by first | exact b40.size | exact b0.size)) ?_
            rintro v36 w36 ⟨g36, rfl, e36, l36, O36, L36⟩
            have b36 : Below w2.heap.size w2 w36 := by first | exact b40.trans (L36.mono b40.size) | exact b0.trans (L36.mono b0.size)
            refine va_two 0 4 (by kernel_rfl) ?_ ?_
            · refine vn_val rfl (os_loadB Try.underlying117 rfl (by kernel_rfl) rfl ((hB2.keep (by first | exact b41 | exact b40 | exact b38 | exact b36 | exact b0)))) ?_
              refine va_one 4 (by kernel_rfl) ?_
              refine vn_some rfl (ot_append Try.underlying40 ti_int rfl rfl rfl (by first | exact O36 | exact Own.keepAll O36 L40) (hkk2.keep (by first | exact b40 | exact b36)).toC (by simp [hlk]) (ints_one _ _) (by simp; omega) (by simp [maxLen]; omega) (by first | exact b40.size | exact b36.size)) ?_
              rintro v38 w38 ⟨O38, G38⟩
              have b38 : Below w2.heap.size w2 w38 := by first | exact Own.below b40 (Own.keepAll O36 L40) G38 (Nat.le_refl _) b40.size | exact Own.below b36 O36 G38 (Nat.le_refl _) b36.size
              try have P40 : Own w38 w2.heap.size 3 (.slice (some ⟨g40, 0, none⟩) 1 1) [.int .i64 k] := by first | exact Own.other O40 G38 (.inr (by simp [Value.ownBlock]; omega)) | exact Own.other (Own.keepAll O40 L36) G38 (.inr (by simp [Value.ownBlock]; omega))
              refine va_one 7 (by kernel_rfl) ?_
              refine vn_some rfl (ot_append Try.underlying40 ti_int rfl rfl rfl (by first | exact O38 | exact Own.keepAll O38 L40) (Own.rdc (by first | exact P40 | exact O40)) rfl (by simp [Value.oneCell']) (by simp; omega) (by simp [maxLen]; omega) (by first | exact b40.size | exact b38.size)) ?_
              rintro v41 w41 ⟨O41, G41⟩
              have b41 : Below w2.heap.size w2 w41 := by first | exact Own.below b40 (Own.keepAll O38 L40) G41 (Nat.le_refl _) b40.size | exact Own.below b38 O38 G41 (Nat.le_refl _) b38.size
              have Q41 : OwnK w41 w2.heap.size 3 .i64 v41 (ks ++ [k]) := by simpa [OwnK] using O41
              obtain ⟨A41, c41, rfl, -, -, r41, -⟩ := OwnK.form Q41
              refine va_one 8 (by kernel_rfl) ?_
              refine vn_call rfl (ih A41 _ c41 (ks ++ [k]) w41 (ha2.keep b41) r41 rfl (by simp; omega) (by intro z hz; rcases List.mem_append.1 hz with h | h; exact hks z h; rw [List.mem_singleton.1 h]; omega)) rfl ?_
              rintro v42 w42 ⟨⟨B, rfl, hB⟩, b42⟩
              have b42' : Below w1.heap.size w1 w42 := b2.trans ((b41.trans (b42.mono b41.size)).mono b2.size)
              refine va_done (by kernel_rfl) ?_
              refine v_cond rfl (fun hbb => ?_) (fun hbb => ?_)
              · refine v_seq ?_
                refine v_region ?_
                refine vl_val (os_assign rfl) ?_
                refine vl_nil ?_
                refine v_ret ?_
                exact post_ret rfl rfl (⟨⟨true, rfl, ⟨fun _ => by obtain ⟨ext, h1, h2⟩ := hB.1 (by simpa using hbb); exact ⟨k :: ext, by simp [h1], by simpa using h2⟩, fun _ => rfl⟩⟩, hb0.trans (b42'.mono hb0.size)⟩)
              · refine v_skip ?_
                refine v_region ?_
                refine vl_val (os_move rfl) ?_
                refine vl_val (os_addi rfl rfl (by omega)) ?_
                refine vl_val (os_assign rfl) ?_
                refine vl_nil ?_
                exact ⟨k + 1, ⟨rfl, rfl, rfl, trivial⟩, ⟨rfl, trivial⟩, ⟨by omega, by omega, b42', some_step hlow (fun h => by have := hB.2 h; simp [this] at hbb)⟩, by dsimp only; omega⟩
            · refine vn_some rfl (ot_append Try.underlying40 ti_int rfl rfl rfl (by first | exact O36 | exact Own.keepAll O36 L40) (hkk2.keep (by first | exact b40 | exact b36)).toC (by simp [hlk]) (ints_one _ _) (by simp; omega) (by simp [maxLen]; omega) (by first | exact b40.size | exact b36.size)) ?_
              rintro v38 w38 ⟨O38, G38⟩
              have b38 : Below w2.heap.size w2 w38 := by first | exact Own.below b40 (Own.keepAll O36 L40) G38 (Nat.le_refl _) b40.size | exact Own.below b36 O36 G38 (Nat.le_refl _) b36.size
              try have P40 : Own w38 w2.heap.size 3 (.slice (some ⟨g40, 0, none⟩) 1 1) [.int .i64 k] := by first | exact Own.other O40 G38 (.inr (by simp [Value.ownBlock]; omega)) | exact Own.other (Own.keepAll O40 L36) G38 (.inr (by simp [Value.ownBlock]; omega))
              refine va_two 0 7 (by kernel_rfl) ?_ ?_
              · refine vn_val rfl (os_loadB Try.underlying117 rfl (by kernel_rfl) rfl ((hB2.keep (by first | exact b41 | exact b40 | exact b38 | exact b36 | exact b0)))) ?_
                refine va_one 7 (by kernel_rfl) ?_
                refine vn_some rfl (ot_append Try.underlying40 ti_int rfl rfl rfl (by first | exact O38 | exact Own.keepAll O38 L40) (Own.rdc (by first | exact P40 | exact O40)) rfl (by simp [Value.oneCell']) (by simp; omega) (by simp [maxLen]; omega) (by first | exact b40.size | exact b38.size)) ?_
                rintro v41 w41 ⟨O41, G41⟩
                have b41 : Below w2.heap.size w2 w41 := by first | exact Own.below b40 (Own.keepAll O38 L40) G41 (Nat.le_refl _) b40.size | exact Own.below b38 O38 G41 (Nat.le_refl _) b38.size
                have Q41 : OwnK w41 w2.heap.size 3 .i64 v41 (ks ++ [k]) := by simpa [OwnK] using O41
                obtain ⟨A41, c41, rfl, -, -, r41, -⟩ := OwnK.form Q41
                refine va_one 8 (by kernel_rfl) ?_
                refine vn_call rfl (ih A41 _ c41 (ks ++ [k]) w41 (ha2.keep b41) r41 rfl (by simp; omega) (by intro z hz; rcases List.mem_append.1 hz with h | h; exact hks z h; rw [List.mem_singleton.1 h]; omega)) rfl ?_
                rintro v42 w42 ⟨⟨B, rfl, hB⟩, b42⟩
                have b42' : Below w1.heap.size w1 w42 := b2.trans ((b41.trans (b42.mono b41.size)).mono b2.size)
                refine va_done (by kernel_rfl) ?_
                refine v_cond rfl (fun hbb => ?_) (fun hbb => ?_)
                · refine v_seq ?_
                  refine v_region ?_
                  refine vl_val (os_assign rfl) ?_
                  refine vl_nil ?_
                  refine v_ret ?_
                  exact post_ret rfl rfl (⟨⟨true, rfl, ⟨fun _ => by obtain ⟨ext, h1, h2⟩ := hB.1 (by simpa using hbb); exact ⟨k :: ext, by simp [h1], by simpa using h2⟩, fun _ => rfl⟩⟩, hb0.trans (b42'.mono hb0.size)⟩)
                · refine v_skip ?_
                  refine v_region ?_
                  refine vl_val (os_move rfl) ?_
                  refine vl_val (os_addi rfl rfl (by omega)) ?_
                  refine vl_val (os_assign rfl) ?_
                  refine vl_nil ?_
                  exact ⟨k + 1, ⟨rfl, rfl, rfl, trivial⟩, ⟨rfl, trivial⟩, ⟨by omega, by omega, b42', some_step hlow (fun h => by have := hB.2 h; simp [this] at hbb)⟩, by dsimp only; omega⟩
              · refine vn_some rfl (ot_append Try.underlying40 ti_int rfl rfl rfl (by first | exact O38 | exact Own.keepAll O38 L40) (Own.rdc (by first | exact P40 | exact O40)) rfl (by simp [Value.oneCell']) (by simp; omega) (by simp [maxLen]; omega) (by first | exact b40.size | exact b38.size)) ?_
                rintro v41 w41 ⟨O41, G41⟩
                have b41 : Below w2.heap.size w2 w41 := by first | exact Own.below b40 (Own.keepAll O38 L40) G41 (Nat.le_refl _) b40.size | exact Own.below b38 O38 G41 (Nat.le_refl _) b38.size
                have Q41 : OwnK w41 w2.heap.size 3 .i64 v41 (ks ++ [k]) := by simpa [OwnK] using O41
                obtain ⟨A41, c41, rfl, -, -, r41, -⟩ := OwnK.form Q41
                refine va_one 0 (by kernel_rfl) ?_
                refine vn_val rfl (os_loadB Try.underlying117 rfl (by kernel_rfl) rfl ((hB2.keep (by first | exact b41 | exact b40 | exact b38 | exact b36 | exact b0)))) ?_
                refine va_one 8 (by kernel_rfl) ?_
                refine vn_call rfl (ih A41 _ c41 (ks ++ [k]) w41 (ha2.keep b41) r41 rfl (by simp; omega) (by intro z hz; rcases List.mem_append.1 hz with h | h; exact hks z h; rw [List.mem_singleton.1 h]; omega)) rfl ?_
                rintro v42 w42 ⟨⟨B, rfl, hB⟩, b42⟩
                have b42' : Below w1.heap.size w1 w42 := b2.trans ((b41.trans (b42.mono b41.size)).mono b2.size)
                refine va_done (by kernel_rfl) ?_
                refine v_cond rfl (fun hbb => ?_) (fun hbb => ?_)
                · refine v_seq ?_
                  refine v_region ?_
                  refine vl_val (os_assign rfl) ?_
                  refine vl_nil ?_
                  refine v_ret ?_
                  exact post_ret rfl rfl (⟨⟨true, rfl, ⟨fun _ => by obtain ⟨ext, h1, h2⟩ := hB.1 (by simpa using hbb); exact ⟨k :: ext, by simp [h1], by simpa using h2⟩, fun _ => rfl⟩⟩, hb0.trans (b42'.mono hb0.size)⟩)
                · refine v_skip ?_
                  refine v_region ?_
                  refine vl_val (os_move rfl) ?_
                  refine vl_val (os_addi rfl rfl (by omega)) ?_
                  refine vl_val (os_assign rfl) ?_
                  refine vl_nil ?_
                  exact ⟨k + 1, ⟨rfl, rfl, rfl, trivial⟩, ⟨rfl, trivial⟩, ⟨by omega, by omega, b42', some_step hlow (fun h => by have := hB.2 h; simp [this] at hbb)⟩, by dsimp only; omega⟩
      · refine v_exit ?_
        refine v_seq ?_
        refine v_region ?_
        refine vl_val (os_assign rfl) ?_
        refine vl_nil ?_
        refine v_ret ?_
        exact post_ret rfl rfl (⟨⟨false, rfl, ⟨(fun h => nomatch h), (fun ⟨ext, h1, h2⟩ => by have := hlow ext h1 h2; have := (fits_head h2 (by omega)).2.1; omega)⟩⟩, hb0.trans (b2.mono hb0.size)⟩)
end Go.Proofs.Ytpjmiafefammkaa
