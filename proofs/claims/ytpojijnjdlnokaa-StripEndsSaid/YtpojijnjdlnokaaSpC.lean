/- Layer 9: strip.Cut. -/
import Derived.Test.YtpojijnjdlnokaaSp
import Derived.Test.YtpojijnjdlnokaaCp
import Derived.Test.YtpojijnjdlnokaaSm
namespace Go.Proofs.Ytpojijnjdlnokaa
open Go.RowKit
set_option linter.unusedVariables false

theorem sp_stripes (A : Option Addr) (n c : Nat) (k : Int) (w : World) : Gives Try.prog 52 #[.slice A n c, .int .i64 k] w fun v w' => v = .func (.func 94) #[] #[.pointer (some ⟨w.heap.size, 0, none⟩), .pointer (some ⟨w.heap.size + 1, 0, none⟩)] ∧ w' = (w.alloc (.cells #[.slice A n c] 22)).alloc (.cells #[.int .i64 k] 3) := by
  refine gives_enter Try.call52 Try.func52 rfl rfl rfl (by kernel_rfl) ?_
  refine v_seq ?_
  refine v_region ?_
  refine vl_val (os_box rfl) ?_
  refine vl_val (os_box rfl) ?_
  refine vl_val (os_assign rfl) ?_
  refine vl_nil ?_
  refine v_seq ?_
  refine v_region ?_
  refine vl_val (os_makeFunc rfl) ?_
  refine vl_val (os_assign rfl) ?_
  refine vl_nil ?_
  refine v_ret ?_
  exact post_ret rfl rfl (⟨by simp, rfl⟩)

/-- noughts behind, up to m -/
def padL (bs : List Int) (m : Nat) : List Int := bs ++ List.replicate (m - bs.length) 0
theorem padL_len {bs : List Int} {m : Nat} (h : bs.length ≤ m) : (padL bs m).length = m := by simp [padL]; omega
theorem width_room {n K wd : Nat} (hK : 0 < K) (hw : (wd : Int) = widthW n K) : n ≤ wd * K ∧ wd * K < n + K := by
  unfold widthW at hw
  have h0 : (wd : Int) = ((n + K - 1) / K : Nat) := by rw [hw]; rw [show (n : Int) + K - 1 = ((n + K - 1 : Nat) : Int) by omega]; simp
  have h1 : wd = (n + K - 1) / K := by exact_mod_cast h0
  have h2 := Nat.div_add_mod (n + K - 1) K
  have h3 := Nat.mod_lt (n + K - 1) hK
  rw [← h1, Nat.mul_comm] at h2
  omega

/-- what is cut: rows that lie one behind the other in block g -/
structure CutR (w : World) (B : Nat) (bs : List Int) (k : Int) (wd K g : Nat) (out : Value) : Prop where
  wd_ : (wd : Int) = widthW bs.length k
  K_ : (K : Int) = k
  pos : 0 < K
  K255 : K ≤ 255
  wd65 : wd ≤ 65535
  room : bs.length ≤ wd * K ∧ wd * K < bs.length + K
  own : Own w B 22 out ((List.range K).map (segV g wd))
  all : OwnK w B 5 .u8 (.slice (some ⟨g, 0, none⟩) (wd * K) (wd * K)) (padL bs (wd * K))
  ne : out.ownBlock ≠ some g
theorem CutR.keep {w w' B bs k wd K g out} (h : CutR w B bs k wd K g out) (hb : Below w.heap.size w w') : CutR w' B bs k wd K g out := ⟨h.wd_, h.K_, h.pos, h.K255, h.wd65, h.room, Own.keepAll h.own hb, Own.keepAll h.all hb, h.ne⟩
theorem CutR.mono {w B B' bs k wd K g out} (h : CutR w B bs k wd K g out) (hb : B' ≤ B) : CutR w B' bs k wd K g out := ⟨h.wd_, h.K_, h.pos, h.K255, h.wd65, h.room, Own.mono h.own hb, Own.mono h.all hb, h.ne⟩

set_option maxHeartbeats 4000000 in
theorem strip_Cut (A : Option Addr) (n c : Nat) (bs : List Int) (k : Int) (w : World) (ha : Rd w .u8 A bs) (hn : n = bs.length) (hn' : n ≤ 140737488351232) (hk1 : -9223372036854775808 ≤ k ∧ k ≤ 9223372036854775807) :
    Gives Try.prog 14 #[.slice A n c, .int .i64 k] w fun v w' => Below w.heap.size w w' ∧ ((widthOk n k = false ∧ v = .tuple #[.slice none 0 0, .int .i64 2]) ∨ (widthOk n k = true ∧ ∃ wd K g out, v = .tuple #[out, .int .i64 0] ∧ CutR w' w.heap.size bs k wd K g out)) := by
  cases hok : widthOk n k
  · skip
    refine gives_enter Try.call14 Try.func14 rfl rfl rfl (by kernel_rfl) ?_
    have hB0 := bk_new w [.slice none 0 0] 23
    have hb0 : Below w.heap.size w (w.alloc (.cells [Value.slice none 0 0].toArray 23)) := (Below.refl _ w).alloc (Nat.le_refl _) _
    refine v_seq ?_
    refine v_region ?_
    refine vl_val (os_alloc1 Try.zeroValue23 rfl) ?_
    refine vl_val (os_assign rfl) ?_
    refine vl_nil ?_
    refine v_seq ?_
    refine v_region ?_
    refine vl_val (os_move rfl) ?_
    refine vl_val (os_len Try.underlying22 rfl) ?_
    refine vl_val (os_move rfl) ?_
    refine vl_call (sp_Width n k _ (by omega) hk1) rfl ?_
    rintro v w1 ⟨rfl, rfl⟩
    rw [hok]
    refine vl_val (os_move rfl) ?_
    refine vl_val (os_extract rfl rfl) ?_
    refine vl_val (os_extract rfl rfl) ?_
    refine vl_val (os_assign rfl) ?_
    refine vl_val (os_assign rfl) ?_
    refine vl_nil ?_
    refine v_seq ?_
    refine v_seq ?_
    refine v_region ?_
    refine vl_val (os_move rfl) ?_
    refine vl_val (os_neq rfl rfl) ?_
    refine vl_nil ?_
    refine v_cond_yes rfl (by decide) ?_
    refine v_seq ?_
    refine v_region ?_
    refine vl_val (os_move rfl) ?_
    refine vl_unit (ou_store Try.sizeOf23 rfl rfl rfl (hB0.cell (i := 0) rfl) (hB0.free _)) ?_
    have hB1 := hB0.set 0 (.slice none 0 0)
    refine vl_val (os_assign rfl) ?_
    refine vl_nil ?_
    refine v_ret ?_
    exact post_of (fun a ha => res_ct (t := 4) (t2 := 5) rfl rfl rfl Try.isAgg23 (hB1.cell (i := 0) rfl) ha) (⟨below_set hb0 (Nat.le_refl _) _ _, .inl ⟨rfl, rfl⟩⟩)
  · obtain ⟨hk3, hk4, hk5, hk6⟩ : (0 : Int) ≤ n ∧ (n : Int) ≤ 65535 ∧ 1 ≤ k ∧ k ≤ 255 := by simpa [widthOk] using hok
    obtain ⟨K, rfl⟩ : ∃ K : Nat, k = K := ⟨k.toNat, by omega⟩
    have hwb := width_bd hok
    obtain ⟨wd, hwd⟩ : ∃ wd : Nat, widthV n K = wd := ⟨(widthV n K).toNat, by unfold widthV; rw [if_pos hok]; omega⟩
    have hwd' : (wd : Int) = widthW n K := by rw [← hwd]; unfold widthV; rw [if_pos hok]
    have hroom := width_room (show 0 < K by omega) hwd'
    have hwdm : wd * K ≤ 70000 := by omega
    have hmul : IntKind.i64.wrap ((wd : Int) * (K : Int)) = ((wd * K : Nat) : Int) := by rw [← Int.natCast_mul]; exact i64_fit ⟨by omega, by omega⟩
    refine gives_enter Try.call14 Try.func14 rfl rfl rfl (by kernel_rfl) ?_
    have hB0 := bk_new w [.slice none 0 0] 23
    have hb0 : Below w.heap.size w (w.alloc (.cells [Value.slice none 0 0].toArray 23)) := (Below.refl _ w).alloc (Nat.le_refl _) _
    refine v_seq ?_
    refine v_region ?_
    refine vl_val (os_alloc1 Try.zeroValue23 rfl) ?_
    refine vl_val (os_assign rfl) ?_
    refine vl_nil ?_
    refine v_seq ?_
    refine v_region ?_
    refine vl_val (os_move rfl) ?_
    refine vl_val (os_len Try.underlying22 rfl) ?_
    refine vl_val (os_move rfl) ?_
    refine vl_call (sp_Width n K _ (by omega) hk1) rfl ?_
    rintro v w1 ⟨rfl, rfl⟩
    rw [hok, hwd]
    refine vl_val (os_move rfl) ?_
    refine vl_val (os_extract rfl rfl) ?_
    refine vl_val (os_extract rfl rfl) ?_
    refine vl_val (os_assign rfl) ?_
    refine vl_val (os_assign rfl) ?_
    refine vl_nil ?_
    refine v_seq ?_
    refine v_seq ?_
    refine v_region ?_
    refine vl_val (os_move rfl) ?_
    refine vl_val (os_neq rfl rfl) ?_
    refine vl_nil ?_
    refine v_cond_no rfl (by decide) ?_
    refine v_skip ?_
    refine v_seq ?_
    refine v_region ?_
    refine vl_val (os_move rfl) ?_
    refine vl_val (os_move rfl) ?_
    refine vl_val (os_mul rfl rfl (hmul)) ?_
    refine vl_some (ot_make (l := wd * K) Try.underlying22 ti_u8 rfl rfl rfl rfl rfl (by omega) (by simp [maxLen]; omega) w.heap.size hb0.size) ?_
    rintro v2 w2 ⟨rfl, o2, g2⟩
    have hb2 := hb0.grown g2 hb0.size (fun k hk => by cases hk)
    have hB2 := hB0.grown g2 (by simp)
    have ha2 := ha.keep hb2
    obtain ⟨g, hg⟩ : ∃ g, g = (w.alloc (.cells [Value.slice none 0 0].toArray 23)).heap.size := ⟨_, rfl⟩
    rw [← hg] at o2 ⊢
    have hg1 : g = w.heap.size + 1 := by rw [hg]; simp
    refine vl_val (os_assign rfl) ?_
    refine vl_nil ?_
    refine v_seq ?_
    refine v_region ?_
    refine vl_val (os_move rfl) ?_
    refine vl_val (os_move rfl) ?_
    refine vl_some (ot_copy (q := n) Try.underlying22 (by kernel_rfl) rfl rfl o2 ha2.toC (by rw [List.length_map, hn]) (by omega) (ints8 _)) ?_
    rintro v3 w3 ⟨rfl, o3, g3⟩
    have hb3 := hb2.grown g3 hb2.size (fun k hk => by cases hk; omega)
    have hB3 := hB2.grown g3 (by simp; omega)
    have o3 : OwnK w3 w.heap.size 5 .u8 (.slice (some ⟨g, 0, none⟩) (wd * K) (wd * K)) (padL bs (wd * K)) := by
      unfold OwnK
      rw [show (padL bs (wd * K)).map (Value.int .u8) = bs.map (Value.int .u8) ++ (List.replicate (wd * K) (Value.int .u8 0)).drop n by simp [padL, hn]]
      exact o3
    refine vl_nil ?_
    refine v_range_seq ?_
    refine v_region ?_
    refine vl_val (os_move rfl) ?_
    refine vl_val (os_move rfl) ?_
    refine vl_call (sp_stripes (some ⟨g, 0, none⟩) (wd * K) (wd * K) K w3) rfl ?_
    rintro v4 w4 ⟨rfl, rfl⟩
    have hlt : g < w3.heap.size := (World.ownsRow.lt o3 g rfl).2
    obtain ⟨p, hp⟩ : ∃ p, p = w3.heap.size := ⟨_, rfl⟩
    have P1 := bk_new w3 [.slice (some ⟨g, 0, none⟩) (wd * K) (wd * K)] 22
    have P2 := bk_new (w3.alloc (.cells [Value.slice (some ⟨g, 0, none⟩) (wd * K) (wd * K)].toArray 22)) [.int .i64 K] 3
    have P1 := P1.alloc (.cells [Value.int .i64 K].toArray 3)
    rw [World.size_alloc] at P2
    rw [← hp] at P1 P2 ⊢
    have hb4 := (hb3.alloc hb3.size (.cells [Value.slice (some ⟨g, 0, none⟩) (wd * K) (wd * K)].toArray 22)).alloc (hb3.alloc hb3.size _).size (.cells [Value.int .i64 K].toArray 3)
    have hB4 := (hB3.alloc (.cells [Value.slice (some ⟨g, 0, none⟩) (wd * K) (wd * K)].toArray 22)).alloc (.cells [Value.int .i64 K].toArray 3)
    have o4 : OwnK _ w.heap.size 5 .u8 (.slice (some ⟨g, 0, none⟩) (wd * K) (wd * K)) (padL bs (wd * K)) := Own.alloc (Own.alloc o3 (.cells [Value.slice (some ⟨g, 0, none⟩) (wd * K) (wd * K)].toArray 22)) (.cells [Value.int .i64 K].toArray 3)
    obtain ⟨w5, hw5⟩ : ∃ w5, w5 = (w3.alloc (.cells [Value.slice (some ⟨g, 0, none⟩) (wd * K) (wd * K)].toArray 22)).alloc (.cells [Value.int .i64 K].toArray 3) := ⟨_, rfl⟩
    rw [← hw5] at P1 P2 hb4 hB4 o4
    have hw5' : w5 = (w3.alloc (.cells #[.slice (some ⟨g, 0, none⟩) (wd * K) (wd * K)] 22)).alloc (.cells #[.int .i64 K] 3) := hw5
    rw [← hw5']
    refine vl_nil ?_
    refine v_range (K) (fun k => [segV g wd k]) (fun k w' => ∃ out, Bk w' w.heap.size [out] 23 ∧ Own w' w.heap.size 22 out ((List.range k).map (segV g wd)) ∧ (∀ x, out.ownBlock = some x → x ≠ w.heap.size ∧ x ≠ g ∧ x ≠ p ∧ x ≠ p + 1) ∧ Bk w' p [.slice (some ⟨g, 0, none⟩) (wd * K) (wd * K)] 22 ∧ Bk w' (p + 1) [.int .i64 K] 3 ∧ OwnK w' w.heap.size 5 .u8 (.slice (some ⟨g, 0, none⟩) (wd * K) (wd * K)) (padL bs (wd * K)) ∧ Below w.heap.size w w') (fun e w' => False) (fun k => [(8, segV g wd k), (4, .pointer (some ⟨w.heap.size, 0, none⟩))]) Try.call94 rfl (fun _ => rfl) (fun k W W' ⟨out, h1, h2, h3, h4, h5, h6, h7⟩ hn => ⟨out, hn.bk h1, hn.own h2, h3, hn.bk h4, hn.bk h5, hn.own h6, hn.below h7 hb4.size (Nat.le_refl _)⟩) (fun _ => Abd.no) (⟨.slice none 0 0, hB4, Own.nil _ _ _, fun x hx => by simp [Value.ownBlock] at hx, P1, P2, o4, hb4⟩) (fun l J Jx W hW hJI hJ hJx hR hJ0 => strip_stripes_fn l p (p + 1) g K wd J Jx W (fun k W h => by obtain ⟨out, h1, h2, h3, h4, h5, h6, h7⟩ := hJI k W h; exact ⟨h4.cell (i := 0) rfl, h5.cell (i := 0) rfl⟩) (by omega) (by omega) (by omega) (by omega) hR hJ0) ?_ ?_ ?_ (fun _ _ _ _ h => h.elim) (fun _ _ _ _ _ h => h.elim)
    · intro l k w'
      refine v_region ?_
      refine vl_val (os_assign rfl) ?_
      refine vl_nil ?_
      exact ⟨rfl, rfl, ⟨rfl, rfl, trivial⟩⟩
    · rintro l k w' hk ⟨out, h1, h2, h3, h4, h5, h6, h7⟩
      refine v_block ?_
      refine v_region ?_
      refine vl_val (os_load Try.isAgg23 rfl (h1.cell (i := 0) rfl)) ?_
      have hlen : ((List.range k).map (segV g wd)).length = k := by simp
      refine vl_val (os_move rfl) ?_
      refine vl_val (os_lit Try.underlying23 Try.sizeOf22 Try.zeroValue22 rfl rfl rfl rfl (by decide)) ?_
      refine vl_some (ot_append_at Try.underlying23 ti_lBytes rfl rfl rfl (Own.alloc h2 (.cells [segV g wd k].toArray 22)) (rdc_alloc w' [segV g wd k] _) rfl (by intro u hu; rw [List.mem_singleton.1 hu]; rfl) (by omega) (by simp [maxLen]; omega) (h7.alloc h7.size _).size) ?_
      rintro v6 w6 ⟨o6, g6, a6⟩
      have l1 := h1.lt
      have l4 := h4.lt
      have l5 := h5.lt
      have l6 := (World.ownsRow.lt h6 g rfl).2
      have hne : ∀ x, v6.ownBlock = some x → x ≠ w.heap.size ∧ x ≠ g ∧ x ≠ p ∧ x ≠ p + 1 := fun x hx => by
        rcases a6 with e | e
        · rw [e] at hx; exact h3 x hx
        · rw [e] at hx; cases hx; simp; omega
      have hrow : ∀ y, y ∈ [w.heap.size, g, p, p + 1] → some y ≠ out.ownBlock := fun y hy e => by
        have := h3 y e.symm
        simp only [List.mem_cons, List.not_mem_nil, or_false] at hy
        omega
      have h1' := (h1.alloc (.cells [segV g wd k].toArray 22)).grown g6 (hrow _ (by simp))
      have h4' := (h4.alloc (.cells [segV g wd k].toArray 22)).grown g6 (hrow _ (by simp))
      have h5' := (h5.alloc (.cells [segV g wd k].toArray 22)).grown g6 (hrow _ (by simp))
      have h6' := Own.other (Own.alloc h6 (.cells [segV g wd k].toArray 22)) g6 (.inr (by simpa [Value.ownBlock] using hrow g (by simp)))
      have h7' := (h7.alloc h7.size (.cells [segV g wd k].toArray 22)).grown g6 (h7.alloc h7.size _).size (fun y hy => (World.ownsRow.lt h2 y hy).1)
      obtain ⟨A6, c6, rfl, -⟩ := Own.form o6
      refine vl_unit (ou_store Try.sizeOf23 rfl rfl rfl (h1'.cell (i := 0) rfl) (h1'.free _)) ?_
      refine vl_nil ?_
      exact ⟨(Kn.alloc w' _).trans ((Kn.grown g6 (Own.row_cells (Own.alloc h2 _))).trans (Kn.set (h1'.cell (i := 0) rfl) _)), _, h1'.set 0 _, by rw [List.range_succ, List.map_append]; exact Own.setOther o6 (fun x hx => (hne x hx).1) _ _, hne, Bk.setOther h4' (by omega) _ _, Bk.setOther h5' (by omega) _ _, Own.setOther h6' (fun x hx => by have : g = x := (by simpa [Value.ownBlock] using hx); omega) _ _, below_set h7' (Nat.le_refl _) _ _⟩
    · rintro D w' hD hK ⟨out, h1, h2, h3, h4, h5, h6, h7⟩
      obtain ⟨Ao, co, rfl, -⟩ := Own.form h2
      refine v_seq ?_
      refine v_region ?_
      refine vl_val (os_load Try.isAgg23 rfl (h1.cell (i := 0) rfl)) ?_
      refine vl_unit (ou_store Try.sizeOf23 rfl rfl rfl (h1.cell (i := 0) rfl) (h1.free _)) ?_
      have hset := h1.set 0 (.slice Ao ((List.range K).map (segV g wd)).length co)
      have hK' := (Kn.set (B := 0) (h1.cell (i := 0) rfl) (.slice Ao ((List.range K).map (segV g wd)).length co)).block D _ (Nat.zero_le _) hK rfl
      have hN := Nc.put (B := w5.heap.size) (.deferred none) hD hK' rfl
      refine vl_val (os_assign rfl) ?_
      refine vl_nil ?_
      refine v_ret ?_
      exact post_m (fn := Try.f14) (hK') (fun a ha => res_ct (t := 4) (t2 := 5) rfl rfl rfl Try.isAgg23 ((hN.bk hset).cell (i := 0) rfl) ha) (⟨hN.below (below_set h7 (Nat.le_refl _) (0 + 0) _) hb4.size (Nat.le_refl _), .inr ⟨rfl, wd, K, g, _, rfl, ⟨by rw [← hn]; exact hwd', rfl, by omega, by omega, by omega, by rw [← hn]; exact hroom, hN.own (Own.setOther h2 (fun x hx => (h3 x hx).1) _ _), hN.own (Own.setOther h6 (fun x hx => by have : g = x := (by simpa [Value.ownBlock] using hx); omega) _ _), fun e => (h3 g e).2.1 rfl⟩⟩⟩)
end Go.Proofs.Ytpojijnjdlnokaa
