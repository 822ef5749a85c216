/- Layer 9: the document's widths, cuts and joins. -/
import Derived.Test.YtpojijnjdlnokaaSpB
namespace Go.Proofs.Ytpojijnjdlnokaa
open Go.RowKit
set_option linter.unusedVariables false

theorem r9_floor {long k : Int} (h : widthOk long k = true) : long / k ≤ widthW long k ∧ (∀ x, long / k ≤ x → x ≤ widthW long k → (x * k < long ↔ x < widthW long k)) ∧ 0 ≤ long / k := by
  simp only [widthOk, decide_eq_true_eq] at h
  have hk : 0 < k := by omega
  have h0 : 0 ≤ long / k := Int.ediv_nonneg (by omega) (by omega)
  unfold widthW
  refine ⟨Int.ediv_le_ediv hk (by omega), fun x h1 h2 => ?_, h0⟩
  rw [show (x < (long + k - 1) / k) ↔ (x + 1 ≤ (long + k - 1) / k) from Int.lt_iff_add_one_le, Int.le_ediv_iff_mul_le hk, Int.add_mul, Int.one_mul]
  omega
theorem r9_mul {long k x : Int} (h : widthOk long k = true) (h0 : 0 ≤ x) (h1 : x ≤ widthW long k) : 0 ≤ x * k ∧ x * k ≤ 65535 * 255 := by
  have hb := width_bd h
  simp only [widthOk, decide_eq_true_eq] at h
  exact ⟨Int.mul_nonneg h0 (by omega), Int.mul_le_mul (by omega) (by omega) (by omega) (by omega)⟩
theorem r9_Width (long k : Int) (w : World) : Gives Try.prog 19 #[.int .i64 long, .int .i64 k] w fun v w' => v = .tuple #[.int .i64 (widthV long k), .int .i64 (errE (widthOk long k))] ∧ w' = w := by
  refine gives_enter Try.call19 Try.func19 rfl rfl rfl (by kernel_rfl) ?_
  rcases (by omega : long < 0 ∨ (0 ≤ long ∧ 65535 < long) ∨ (0 ≤ long ∧ long ≤ 65535 ∧ k < 1) ∨ (0 ≤ long ∧ long ≤ 65535 ∧ 1 ≤ k ∧ 255 < k) ∨ (0 ≤ long ∧ long ≤ 65535 ∧ 1 ≤ k ∧ k ≤ 255)) with h | ⟨h, h3⟩ | ⟨h, h3, h4⟩ | ⟨h, h3, h4, h5⟩ | ⟨h, h3, h4, h5⟩
  · refine v_seq ?_
    refine v_region ?_
    refine vl_val (os_assign rfl) ?_
    refine vl_val (os_assign rfl) ?_
    refine vl_nil ?_
    refine v_seq ?_
    refine v_seq ?_
    refine v_region ?_
    refine vl_val (os_move rfl) ?_
    refine vl_val (os_t (os_lss rfl rfl) (by omega)) ?_
    refine vl_val (os_move rfl) ?_
    refine vl_skip rfl rfl ?_
    refine vl_skip rfl rfl ?_
    refine vl_val (os_pick_t rfl rfl) ?_
    refine vl_val (os_move rfl) ?_
    refine vl_skip rfl rfl ?_
    refine vl_skip rfl rfl ?_
    refine vl_val (os_pick_t rfl rfl) ?_
    refine vl_val (os_move rfl) ?_
    refine vl_skip rfl rfl ?_
    refine vl_skip rfl rfl ?_
    refine vl_val (os_pick_t rfl rfl) ?_
    refine vl_nil ?_
    refine v_cond_t rfl ?_
    refine v_seq ?_
    refine v_region ?_
    refine vl_val (os_assign rfl) ?_
    refine vl_val (os_assign rfl) ?_
    refine vl_nil ?_
    refine v_ret ?_
    exact post_ret2 rfl rfl rfl (⟨by simp [widthV, widthOk, errE]; omega, rfl⟩)
  · refine v_seq ?_
    refine v_region ?_
    refine vl_val (os_assign rfl) ?_
    refine vl_val (os_assign rfl) ?_
    refine vl_nil ?_
    refine v_seq ?_
    refine v_seq ?_
    refine v_region ?_
    refine vl_val (os_move rfl) ?_
    refine vl_val (os_f (os_lss rfl rfl) (by omega)) ?_
    refine vl_val (os_move rfl) ?_
    refine vl_valg rfl (os_move rfl) ?_
    refine vl_valg rfl (os_t (os_gtr rfl rfl) (by omega)) ?_
    refine vl_val (os_pick_f rfl rfl) ?_
    refine vl_val (os_move rfl) ?_
    refine vl_skip rfl rfl ?_
    refine vl_skip rfl rfl ?_
    refine vl_val (os_pick_t rfl rfl) ?_
    refine vl_val (os_move rfl) ?_
    refine vl_skip rfl rfl ?_
    refine vl_skip rfl rfl ?_
    refine vl_val (os_pick_t rfl rfl) ?_
    refine vl_nil ?_
    refine v_cond_t rfl ?_
    refine v_seq ?_
    refine v_region ?_
    refine vl_val (os_assign rfl) ?_
    refine vl_val (os_assign rfl) ?_
    refine vl_nil ?_
    refine v_ret ?_
    exact post_ret2 rfl rfl rfl (⟨by simp [widthV, widthOk, errE]; omega, rfl⟩)
  · refine v_seq ?_
    refine v_region ?_
    refine vl_val (os_assign rfl) ?_
    refine vl_val (os_assign rfl) ?_
    refine vl_nil ?_
    refine v_seq ?_
    refine v_seq ?_
    refine v_region ?_
    refine vl_val (os_move rfl) ?_
    refine vl_val (os_f (os_lss rfl rfl) (by omega)) ?_
    refine vl_val (os_move rfl) ?_
    refine vl_valg rfl (os_move rfl) ?_
    refine vl_valg rfl (os_f (os_gtr rfl rfl) (by omega)) ?_
    refine vl_val (os_pick_f rfl rfl) ?_
    refine vl_val (os_move rfl) ?_
    refine vl_valg rfl (os_move rfl) ?_
    refine vl_valg rfl (os_t (os_lss rfl rfl) (by omega)) ?_
    refine vl_val (os_pick_f rfl rfl) ?_
    refine vl_val (os_move rfl) ?_
    refine vl_skip rfl rfl ?_
    refine vl_skip rfl rfl ?_
    refine vl_val (os_pick_t rfl rfl) ?_
    refine vl_nil ?_
    refine v_cond_t rfl ?_
    refine v_seq ?_
    refine v_region ?_
    refine vl_val (os_assign rfl) ?_
    refine vl_val (os_assign rfl) ?_
    refine vl_nil ?_
    refine v_ret ?_
    exact post_ret2 rfl rfl rfl (⟨by simp [widthV, widthOk, errE]; omega, rfl⟩)
  · refine v_seq ?_
    refine v_region ?_
    refine vl_val (os_assign rfl) ?_
    refine vl_val (os_assign rfl) ?_
    refine vl_nil ?_
    refine v_seq ?_
    refine v_seq ?_
    refine v_region ?_
    refine vl_val (os_move rfl) ?_
    refine vl_val (os_f (os_lss rfl rfl) (by omega)) ?_
    refine vl_val (os_move rfl) ?_
    refine vl_valg rfl (os_move rfl) ?_
    refine vl_valg rfl (os_f (os_gtr rfl rfl) (by omega)) ?_
    refine vl_val (os_pick_f rfl rfl) ?_
    refine vl_val (os_move rfl) ?_
    refine vl_valg rfl (os_move rfl) ?_
    refine vl_valg rfl (os_f (os_lss rfl rfl) (by omega)) ?_
    refine vl_val (os_pick_f rfl rfl) ?_
    refine vl_val (os_move rfl) ?_
    refine vl_valg rfl (os_move rfl) ?_
    refine vl_valg rfl (os_gtr rfl rfl) ?_
    refine vl_val (os_pick_f rfl rfl) ?_
    refine vl_nil ?_
    refine v_cond_yes rfl (by omega) ?_
    refine v_seq ?_
    refine v_region ?_
    refine vl_val (os_assign rfl) ?_
    refine vl_val (os_assign rfl) ?_
    refine vl_nil ?_
    refine v_ret ?_
    exact post_ret2 rfl rfl rfl (⟨by simp [widthV, widthOk, errE]; omega, rfl⟩)
  · have hok : widthOk long k = true := by simp [widthOk]; omega
    obtain ⟨f1, f2, f3⟩ := r9_floor hok
    refine v_seq ?_
    refine v_region ?_
    refine vl_val (os_assign rfl) ?_
    refine vl_val (os_assign rfl) ?_
    refine vl_nil ?_
    refine v_seq ?_
    refine v_seq ?_
    refine v_region ?_
    refine vl_val (os_move rfl) ?_
    refine vl_val (os_f (os_lss rfl rfl) (by omega)) ?_
    refine vl_val (os_move rfl) ?_
    refine vl_valg rfl (os_move rfl) ?_
    refine vl_valg rfl (os_f (os_gtr rfl rfl) (by omega)) ?_
    refine vl_val (os_pick_f rfl rfl) ?_
    refine vl_val (os_move rfl) ?_
    refine vl_valg rfl (os_move rfl) ?_
    refine vl_valg rfl (os_f (os_lss rfl rfl) (by omega)) ?_
    refine vl_val (os_pick_f rfl rfl) ?_
    refine vl_val (os_move rfl) ?_
    refine vl_valg rfl (os_move rfl) ?_
    refine vl_valg rfl (os_gtr rfl rfl) ?_
    refine vl_val (os_pick_f rfl rfl) ?_
    refine vl_nil ?_
    refine v_cond_no rfl (by omega) ?_
    refine v_skip ?_
    refine v_seq ?_
    refine v_region ?_
    refine vl_val (os_move rfl) ?_
    refine vl_val (os_move rfl) ?_
    refine vl_val (os_quoi rfl rfl (by omega)) ?_
    refine vl_val (os_assign rfl) ?_
    refine vl_nil ?_
    refine v_seq ?_
    refine v_block ?_
    refine v_loop [(0, _), (1, _)] (fun (x : Int) => [(6, .int .i64 x)]) (fun x w' => long / k ≤ x ∧ x ≤ widthW long k ∧ w' = w) (fun x => (widthW long k - x).toNat) (long / k) ⟨rfl, rfl, trivial⟩ ⟨rfl, trivial⟩ (⟨by omega, f1, rfl⟩) ?_
    rintro x w ⟨hx1, hx2, rfl⟩
    have hm := r9_mul hok (by omega) hx2
    have hi := f2 x hx1 hx2
    refine v_seq ?_
    refine v_seq ?_
    refine v_region ?_
    refine vl_val (os_move rfl) ?_
    refine vl_val (os_move rfl) ?_
    refine vl_val (os_mul rfl rfl (i64_fit ⟨by omega, by omega⟩)) ?_
    have hwb := width_bd hok
    refine vl_val (os_move rfl) ?_
    refine vl_val (os_lss rfl rfl) ?_
    refine vl_nil ?_
    refine v_cond_d rfl (fun hlt => ?_) (fun hlt => ?_)
    · have hlt2 := hi.1 hlt
      refine v_skip ?_
      refine v_block ?_
      refine v_region ?_
      refine vl_val (os_move rfl) ?_
      refine vl_val (os_addi rfl rfl (by omega)) ?_
      refine vl_val (os_assign rfl) ?_
      refine vl_nil ?_
      exact ⟨x + 1, ⟨rfl, rfl, trivial⟩, ⟨rfl, trivial⟩, ⟨by omega, by omega, rfl⟩, by dsimp only; omega⟩
    · obtain rfl : widthW long k = x := by omega
      refine v_exit ?_
      refine v_seq ?_
      refine v_region ?_
      refine vl_val (os_move rfl) ?_
      refine vl_val (os_assign rfl) ?_
      refine vl_val (os_assign rfl) ?_
      refine vl_nil ?_
      refine v_ret ?_
      exact post_ret2 rfl rfl rfl (⟨by simp [widthV, hok, errE], rfl⟩)
theorem r9_Waste (long k : Int) (w : World) : Gives Try.prog 21 #[.int .i64 long, .int .i64 k] w fun v w' => v = .tuple #[.int .i64 (wasteV long k), .int .i64 (errE (widthOk long k))] ∧ w' = w := by
  cases hok : widthOk long k
  · skip
    refine gives_enter Try.call21 Try.func21 rfl rfl rfl (by kernel_rfl) ?_
    refine v_seq ?_
    refine v_region ?_
    refine vl_val (os_assign rfl) ?_
    refine vl_val (os_assign rfl) ?_
    refine vl_nil ?_
    refine v_seq ?_
    refine v_region ?_
    refine vl_val (os_move rfl) ?_
    refine vl_val (os_move rfl) ?_
    refine vl_call (r9_Width long k w) rfl ?_
    rintro v w ⟨rfl, rfl⟩
    rw [hok]
    refine vl_val (os_move rfl) ?_
    refine vl_val (os_extract rfl rfl) ?_
    refine vl_val (os_extract rfl rfl) ?_
    refine vl_val (os_assign rfl) ?_
    refine vl_val (os_assign rfl) ?_
    refine vl_nil ?_
    refine v_seq ?_
    refine v_seq ?_
    refine v_region ?_
    refine vl_val (os_move rfl) ?_
    refine vl_val (os_neq rfl rfl) ?_
    refine vl_nil ?_
    refine v_cond_yes rfl (by decide) ?_
    refine v_seq ?_
    refine v_region ?_
    refine vl_val (os_move rfl) ?_
    refine vl_val (os_assign rfl) ?_
    refine vl_val (os_assign rfl) ?_
    refine vl_nil ?_
    refine v_ret ?_
    exact post_ret2 rfl rfl rfl (⟨by simp [wasteV, hok, errE], rfl⟩)
  · obtain ⟨hk3, hk4, hk5, hk6⟩ : 0 ≤ long ∧ long ≤ 65535 ∧ 1 ≤ k ∧ k ≤ 255 := by simpa [widthOk] using hok
    have hwb := width_bd hok
    have hm1 : 0 ≤ widthW long k * k := Int.mul_nonneg (by omega) (by omega)
    have hm2 : widthW long k * k ≤ 65535 * 255 := Int.mul_le_mul (by omega) (by omega) (by omega) (by omega)
    have hw : widthV long k = widthW long k := by simp [widthV, hok]
    have hmul : IntKind.i64.wrap (widthW long k * k) = widthW long k * k := i64_fit ⟨by omega, by omega⟩
    have hsub : IntKind.i64.wrap (widthW long k * k - long) = wasteV long k := by unfold wasteV; rw [if_pos hok]; exact i64_fit ⟨by omega, by omega⟩
    refine gives_enter Try.call21 Try.func21 rfl rfl rfl (by kernel_rfl) ?_
    refine v_seq ?_
    refine v_region ?_
    refine vl_val (os_assign rfl) ?_
    refine vl_val (os_assign rfl) ?_
    refine vl_nil ?_
    refine v_seq ?_
    refine v_region ?_
    refine vl_val (os_move rfl) ?_
    refine vl_val (os_move rfl) ?_
    refine vl_call (r9_Width long k w) rfl ?_
    rintro v w ⟨rfl, rfl⟩
    rw [hok, hw]
    refine vl_val (os_move rfl) ?_
    refine vl_val (os_extract rfl rfl) ?_
    refine vl_val (os_extract rfl rfl) ?_
    refine vl_val (os_assign rfl) ?_
    refine vl_val (os_assign rfl) ?_
    refine vl_nil ?_
    refine v_seq ?_
    refine v_seq ?_
    refine v_region ?_
    refine vl_val (os_move rfl) ?_
    refine vl_val (os_neq rfl rfl) ?_
    refine vl_nil ?_
    refine v_cond_no rfl (by decide) ?_
    refine v_skip ?_
    refine v_seq ?_
    refine v_region ?_
    refine vl_val (os_move rfl) ?_
    refine vl_val (os_move rfl) ?_
    refine vl_val (os_mul rfl rfl (hmul)) ?_
    refine vl_val (os_move rfl) ?_
    refine vl_val (os_sub rfl rfl (hsub)) ?_
    refine vl_val (os_assign rfl) ?_
    refine vl_val (os_assign rfl) ?_
    refine vl_nil ?_
    refine v_ret ?_
    exact post_ret2 rfl rfl rfl (⟨rfl, rfl⟩)

/-- v is a list of lists of one's own: a row of its own of such -/
structure OwnS (w : World) (B : Nat) (t e : TypeId) (k : IntKind) (v : Value) (ls : List (List Int)) (us : List Value) : Prop where
  own : Own w B t v us
  len : us.length = ls.length
  each : ∀ (i : Nat) (u : Value), us[i]? = some u → OwnK w B e k u (ls.getD i [])
  sep : ∀ (i : Nat) (u : Value), us[i]? = some u → ∀ g, u.ownBlock = some g → v.ownBlock ≠ some g
theorem OwnS.keep {w w' B t e k v ls us} (h : OwnS w B t e k v ls us) (hb : Below w.heap.size w w') : OwnS w' B t e k v ls us :=
  ⟨Own.keepAll h.own hb, h.len, fun i u hu => (h.each i u hu).keepAll hb, h.sep⟩
theorem OwnS.rds {w B t e k v ls us} (h : OwnS w B t e k v ls us) {A : Option Addr} {n c : Nat} (hv : v = .slice A n c) (hl : ∀ l ∈ ls, l.length ≤ 140737488351232) : RdS w k A ls := fun h0 => by
  subst hv
  obtain ⟨A', c', e', _, _, hr, _⟩ := Own.form h.own
  cases e'
  obtain ⟨b, o, rfl, hc⟩ := hr (by rw [h.len]; exact h0)
  refine ⟨b, o, rfl, fun i hi => ?_⟩
  have hi' : i < us.length := by rw [h.len]; exact hi
  have h1 := h.each i us[i] (List.getElem?_eq_getElem hi')
  obtain ⟨A2, C, h2, h3, h4, h5, h6⟩ := OwnK.form h1
  refine ⟨A2, C, by rw [hc i hi', List.getElem?_eq_getElem hi', h2], h5, h3, ?_⟩
  have e2 : ls.getD i [] = ls[i] := by simp [hi]
  rw [e2]
  exact hl _ (List.getElem_mem _)
theorem OwnS.push {w1 w2 w5 B t e k v v5 ls us u l} (hL : OwnS w1 B t e k v ls us) (hu : OwnK w2 w1.heap.size e k u l) (hb : Below w1.heap.size w1 w2) (hB : B ≤ w1.heap.size) (o : Obj) (ho : Own w5 B t v5 (us ++ [u]))
    (hg : (w2.alloc o).grownBy w5 v.ownBlock) (ha : v5.ownBlock = v.ownBlock ∨ v5.ownBlock = some (w2.alloc o).heap.size) : OwnS w5 B t e k v5 (ls ++ [l]) (us ++ [u]) := by
  have hal : Below w2.heap.size w2 (w2.alloc o) := (Below.refl _ _).alloc (Nat.le_refl _) _
  have hs := hb.size
  have key : ∀ (i : Nat) (x : Value), (us ++ [u])[i]? = some x → (us[i]? = some x ∧ i < us.length) ∨ (i = us.length ∧ x = u) := fun i x hx => by
    by_cases hi : i < us.length
    · rw [List.getElem?_append_left hi] at hx; exact .inl ⟨hx, hi⟩
    · rw [List.getElem?_append_right (by omega)] at hx
      have h1 := (List.getElem?_eq_some_iff.1 hx).1
      have h2 : i - us.length = 0 := by simpa using h1
      rw [h2] at hx
      exact .inr ⟨by omega, by simpa using hx.symm⟩
  have hv : ∀ g, v.ownBlock = some g → g < w1.heap.size := fun g hg' => (World.ownsRow.lt hL.own g hg').2
  refine ⟨ho, by simp [hL.len], fun i x hx => ?_, fun i x hx g hxg => ?_⟩
  · rcases key i x hx with ⟨h1, h2⟩ | ⟨rfl, rfl⟩
    · rw [show (ls ++ [l]).getD i [] = ls.getD i [] by simp [List.getElem?_append, show i < ls.length by rw [← hL.len]; exact h2]]
      exact Own.kb (((hL.each i x h1).keepAll hb).keepAll hal) (Kb.grown (S := v.ownBlock.toList) hg (fun k hk => by simp [hk])) fun g e e2 => hL.sep i x h1 g e (by simpa using e2)
    · rw [show (ls ++ [l]).getD us.length [] = l by rw [hL.len]; simp]
      exact (Own.kb (hu.keepAll hal) (Kb.grown (S := v.ownBlock.toList) hg (fun k hk => by simp [hk])) fun g e e2 => by have := hv g (by simpa using e2); have := (World.ownsRow.lt hu g e).1; omega).mono hB
  · rcases key i x hx with ⟨h1, h2⟩ | ⟨rfl, rfl⟩
    · have h3 := (World.ownsRow.lt ((hL.each i x h1).keepAll hb) g hxg).2
      rcases ha with h | h
      · rw [h]; exact hL.sep i x h1 g hxg
      · rw [h]; simp; omega
    · have h3 := World.ownsRow.lt hu g hxg
      rcases ha with h | h
      · rw [h]; intro e2; have := hv g e2; omega
      · rw [h]; simp; omega

theorem getD_set_ne {zs : List Int} {c j : Nat} {x : Int} (h : j ≠ c) : (zs.set c x).getD j 0 = zs.getD j 0 := by
  simp only [List.getD_eq_getElem?_getD, List.getElem?_set_ne (fun e => h e.symm)]
theorem getD_set_self {zs : List Int} {c : Nat} {x : Int} (h : c < zs.length) : (zs.set c x).getD c 0 = x := by
  simp [h]
theorem rowsOf_mem {bs : List Int} {wd K : Nat} (hb : bs.length ≤ wd * K) (hw : wd ≤ 140737488351232) : ∀ l ∈ rowsOf bs wd K, l.length ≤ 140737488351232 := fun l hl => by
  obtain ⟨i, hi, rfl⟩ := List.getElem_of_mem hl
  have hi' : i < K := by simpa [rowsOf] using hi
  have h1 := rowsOf_len hb hi'
  have h2 : (rowsOf bs wd K).getD i [] = (rowsOf bs wd K)[i] := by simp [hi]
  rw [← h2]; omega
theorem rowsOf_length {bs : List Int} {wd K : Nat} : (rowsOf bs wd K).length = K := by simp [rowsOf]
theorem rowsOf_is {bs : List Int} {wd K r : Nat} {zs : List Int} (hb : bs.length ≤ wd * K) (hr : r < K) (hl : zs.length = wd) (hz : ∀ j, j < wd → zs.getD j 0 = bs.getD (r * wd + j) 0) : zs = (rowsOf bs wd K).getD r [] := by
  have h1 := rowsOf_len hb hr
  apply List.ext_getElem (by omega)
  intro i h2 h3
  have h4 := row_at (bs := bs) hr (show i < wd by omega)
  have h5 := hz i (by omega)
  rw [← h4] at h5
  generalize (rowsOf bs wd K).getD r [] = ys at *
  have e1 : zs.getD i 0 = zs[i] := by simp [h2]
  have e2 : ys.getD i 0 = ys[i] := by simp [h3]
  rw [← e1, ← e2, h5]
set_option maxHeartbeats 4000000 in
theorem r9_Cut (A : Option Addr) (n c : Nat) (bs : List Int) (k : Int) (w : World) (ha : Rd w .u8 A bs) (hn : n = bs.length) (hn' : n ≤ 140737488351232) :
    Gives Try.prog 15 #[.slice A n c, .int .i64 k] w fun v w' => Below w.heap.size w w' ∧ ((widthOk n k = false ∧ v = .tuple #[.slice none 0 0, .int .i64 2]) ∨ (widthOk n k = true ∧ ∃ (wd K : Nat) (A2 : Option Addr) (c2 : Nat), v = .tuple #[.slice A2 K c2, .int .i64 0] ∧ (wd : Int) = widthW n k ∧ (K : Int) = k ∧ RdS w' .u8 A2 (rowsOf bs wd K))) := by
  cases hok : widthOk n k
  · skip
    refine gives_enter Try.call15 Try.func15 rfl rfl rfl (by kernel_rfl) ?_
    refine v_seq ?_
    refine v_region ?_
    refine vl_val (os_assign rfl) ?_
    refine vl_val (os_assign rfl) ?_
    refine vl_nil ?_
    refine v_seq ?_
    refine v_region ?_
    refine vl_val (os_move rfl) ?_
    refine vl_val (os_len Try.underlying22 rfl) ?_
    refine vl_val (os_move rfl) ?_
    refine vl_call (r9_Width n k w) rfl ?_
    rintro v w ⟨rfl, rfl⟩
    rw [hok]
    refine vl_val (os_move rfl) ?_
    refine vl_val (os_extract rfl rfl) ?_
    refine vl_val (os_extract rfl rfl) ?_
    refine vl_val (os_assign rfl) ?_
    refine vl_val (os_assign rfl) ?_
    refine vl_nil ?_
    refine v_seq ?_
    refine v_seq ?_
    refine v_region ?_
    refine vl_val (os_move rfl) ?_
    refine vl_val (os_neq rfl rfl) ?_
    refine vl_nil ?_
    refine v_cond_yes rfl (by decide) ?_
    refine v_seq ?_
    refine v_region ?_
    refine vl_val (os_move rfl) ?_
    refine vl_val (os_assign rfl) ?_
    refine vl_val (os_assign rfl) ?_
    refine vl_nil ?_
    refine v_ret ?_
    exact post_ret2 rfl rfl rfl (⟨Below.refl _ _, .inl ⟨rfl, rfl⟩⟩)
  · obtain ⟨hk3, hk4, hk5, hk6⟩ : (0 : Int) ≤ n ∧ (n : Int) ≤ 65535 ∧ 1 ≤ k ∧ k ≤ 255 := by simpa [widthOk] using hok
    obtain ⟨K, rfl⟩ : ∃ K : Nat, k = K := ⟨k.toNat, by omega⟩
    have hwb := width_bd hok
    obtain ⟨wd, hwd⟩ : ∃ wd : Nat, widthV n K = wd := ⟨(widthV n K).toNat, by unfold widthV; rw [if_pos hok]; omega⟩
    have hwd' : (wd : Int) = widthW n K := by rw [← hwd]; unfold widthV; rw [if_pos hok]
    have hroom := width_room (show 0 < K by omega) hwd'
    have hwdm : wd * K ≤ 70000 := by omega
    have hwm : wd ≤ 65535 := by omega
    refine gives_enter Try.call15 Try.func15 rfl rfl rfl (by kernel_rfl) ?_
    refine v_seq ?_
    refine v_region ?_
    refine vl_val (os_assign rfl) ?_
    refine vl_val (os_assign rfl) ?_
    refine vl_nil ?_
    refine v_seq ?_
    refine v_region ?_
    refine vl_val (os_move rfl) ?_
    refine vl_val (os_len Try.underlying22 rfl) ?_
    refine vl_val (os_move rfl) ?_
    refine vl_call (r9_Width n K w) rfl ?_
    rintro v w ⟨rfl, rfl⟩
    rw [hok, hwd]
    refine vl_val (os_move rfl) ?_
    refine vl_val (os_extract rfl rfl) ?_
    refine vl_val (os_extract rfl rfl) ?_
    refine vl_val (os_assign rfl) ?_
    refine vl_val (os_assign rfl) ?_
    refine vl_nil ?_
    refine v_seq ?_
    refine v_seq ?_
    refine v_region ?_
    refine vl_val (os_move rfl) ?_
    refine vl_val (os_neq rfl rfl) ?_
    refine vl_nil ?_
    refine v_cond_no rfl (by decide) ?_
    refine v_skip ?_
    refine v_seq ?_
    refine v_region ?_
    refine vl_val (os_assign rfl) ?_
    refine vl_nil ?_
    refine v_seq ?_
    refine v_seq ?_
    refine v_region ?_
    refine vl_val (os_assign rfl) ?_
    refine vl_nil ?_
    refine v_block ?_
    refine v_loop2 [(0, _), (1, _), (6, _)] (fun (v : Value) (r : Nat) => [(8, v), (9, .int .i64 r)]) (fun v r w' => r ≤ K ∧ (∃ us, OwnS w' w.heap.size 22 5 .u8 v ((rowsOf bs wd K).take r) us) ∧ Below w.heap.size w w') (fun v r => K - r) (.slice none 0 0) (0) ⟨rfl, rfl, rfl, trivial⟩ ⟨rfl, rfl, trivial⟩ (⟨by omega, ⟨[], Own.nil _ _ _, by simp, fun i u hu => by simp at hu, fun i u hu => by simp at hu⟩, Below.refl _ _⟩) ?_
    rintro v r wr ⟨hr, ⟨us, hL⟩, hb⟩
    refine v_seq ?_
    refine v_seq ?_
    refine v_region ?_
    refine vl_val (os_move rfl) ?_
    refine vl_val (os_move rfl) ?_
    refine vl_val (os_lss rfl rfl) ?_
    refine vl_nil ?_
    refine v_cond_d rfl (fun h => ?_) (fun h => ?_)
    · have hlen : us.length = r := by rw [hL.len, List.length_take, rowsOf_length]; omega
      refine v_skip ?_
      refine v_seq ?_
      refine v_block ?_
      refine v_seq ?_
      refine v_region ?_
      refine vl_val (os_move rfl) ?_
      refine vl_some (ot_make (l := wd) Try.underlying22 ti_u8 rfl rfl rfl rfl rfl (by omega) (by simp [maxLen]; omega) wr.heap.size (Nat.le_refl _)) ?_
      rintro v2 w2 ⟨rfl, o2, g2⟩
      have b2 : Below wr.heap.size wr w2 := (Below.refl _ _).grown g2 (Nat.le_refl _) (fun k hk => by cases hk)
      have ha2 := ha.keep (hb.trans (b2.mono hb.size))
      have o2' : OwnK w2 wr.heap.size 5 .u8 (.slice (some ⟨wr.heap.size, 0, none⟩) wd wd) (List.replicate wd 0) := by unfold OwnK; rw [List.map_replicate]; exact o2
      obtain ⟨hrw, hrw2⟩ := mul_fit (show r < K by omega) (show wd * K ≤ 1000000000 by omega)
      refine vl_val (os_assign rfl) ?_
      refine vl_nil ?_
      refine v_seq ?_
      refine v_seq ?_
      refine v_region ?_
      refine vl_val (os_assign rfl) ?_
      refine vl_nil ?_
      refine v_block ?_
      refine v_loop [(0, _), (1, _), (6, _), (8, _), (9, _), (10, _)] (fun (c : Nat) => [(11, .int .i64 c)]) (fun c w' => c ≤ wd ∧ Below wr.heap.size wr w' ∧ Rd w' .u8 A bs ∧ ∃ zs : List Int, zs.length = wd ∧ OwnK w' wr.heap.size 5 .u8 (.slice (some ⟨wr.heap.size, 0, none⟩) wd wd) zs ∧ (∀ j, j < c → zs.getD j 0 = bs.getD (r * wd + j) 0) ∧ ∀ j, c ≤ j → j < wd → zs.getD j 0 = 0) (fun c => wd - c) (0) ⟨rfl, rfl, rfl, rfl, rfl, rfl, trivial⟩ ⟨rfl, trivial⟩ (⟨by omega, b2, ha2, List.replicate wd 0, by simp, o2', fun j hj => absurd hj (by omega), fun j _ hj => by simp [hj]⟩) ?_
      rintro c w3 ⟨hc, b3, ha3, zs, hzl, o3, hz1, hz2⟩
      refine v_seq ?_
      refine v_seq ?_
      refine v_region ?_
      refine vl_val (os_move rfl) ?_
      refine vl_val (os_move rfl) ?_
      refine vl_val (os_lss rfl rfl) ?_
      refine vl_nil ?_
      refine v_cond_d rfl (fun h2 => ?_) (fun h2 => ?_)
      · refine v_skip ?_
        refine v_seq ?_
        refine v_block ?_
        refine v_seq ?_
        refine v_region ?_
        refine vl_val (os_move rfl) ?_
        refine vl_val (os_move rfl) ?_
        refine vl_val (os_mul rfl rfl (hrw)) ?_
        refine vl_val (os_move rfl) ?_
        refine vl_val (os_addi rfl rfl (by omega)) ?_
        refine vl_val (os_move rfl) ?_
        refine vl_val (os_len Try.underlying22 rfl) ?_
        refine vl_val (os_lss rfl rfl) ?_
        refine vl_nil ?_
        refine v_cond_d rfl (fun h3 => ?_) (fun h3 => ?_)
        · obtain ⟨gb, ob, rfl, hcell⟩ := ha3.at_ (i := r * wd + c) (by omega)
          refine v_region ?_
          refine vl_val (os_move rfl) ?_
          refine vl_val (os_move rfl) ?_
          refine vl_val (os_move rfl) ?_
          refine vl_val (os_move rfl) ?_
          refine vl_val (os_move rfl) ?_
          refine vl_val (os_mul rfl rfl (hrw)) ?_
          refine vl_val (os_move rfl) ?_
          refine vl_val (os_addi rfl rfl (by omega)) ?_
          refine vl_val (os_ix Try.underlying22 Try.sizeOf5 rfl rfl (i := r * wd + c) (by omega) (by omega)) ?_
          refine vl_val (os_load Try.isAgg5 rfl (hcell)) ?_
          refine vl_val (os_ix Try.underlying22 Try.sizeOf5 rfl rfl (i := c) (by omega) (by omega)) ?_
          refine vl_unit (ou_store Try.sizeOf5 rfl rfl rfl ((OwnK.cell o3 (by omega))) ((Own.free o3 _))) ?_
          have bs3 := Own.below_set b3 o3 (Nat.le_refl _) (0 + c) (Value.int .u8 (bs.getD (r * wd + c) 0))
          refine vl_nil ?_
          refine v_region ?_
          refine vl_val (os_move rfl) ?_
          refine vl_val (os_addi rfl rfl (by omega)) ?_
          refine vl_val (os_assign rfl) ?_
          refine vl_nil ?_
          exact ⟨c + 1, ⟨rfl, rfl, rfl, rfl, rfl, rfl, trivial⟩, ⟨rfl, trivial⟩, ⟨by omega, bs3, ha.keep (hb.trans (bs3.mono hb.size)), zs.set c (bs.getD (r * wd + c) 0), by simpa using hzl, by rw [Nat.zero_add]; exact OwnK.set o3 c _, fun j hj => by by_cases e : j = c; (subst e; exact getD_set_self (by omega)); (rw [getD_set_ne e]; exact hz1 j (by omega)), fun j hj hj2 => by rw [getD_set_ne (by omega)]; exact hz2 j (by omega) hj2⟩, by dsimp only; omega⟩
        · refine v_skip ?_
          refine v_region ?_
          refine vl_val (os_move rfl) ?_
          refine vl_val (os_addi rfl rfl (by omega)) ?_
          refine vl_val (os_assign rfl) ?_
          refine vl_nil ?_
          exact ⟨c + 1, ⟨rfl, rfl, rfl, rfl, rfl, rfl, trivial⟩, ⟨rfl, trivial⟩, ⟨by omega, b3, ha3, zs, hzl, o3, fun j hj => by by_cases e : j = c; (subst e; rw [hz2 j (by omega) (by omega)]; simp [List.getElem?_eq_none (show bs.length ≤ r * wd + j by omega)]); (exact hz1 j (by omega)), fun j hj hj2 => hz2 j (by omega) hj2⟩, by dsimp only; omega⟩
      · obtain rfl : c = wd := by omega
        have hzr : zs = (rowsOf bs c K).getD r [] := rowsOf_is (by omega) (by omega) hzl hz1
        have hL3 := hL.keep b3
        refine v_exit ?_
        refine v_region ?_
        refine vl_val (os_move rfl) ?_
        refine vl_val (os_move rfl) ?_
        refine vl_val (os_lit Try.underlying23 Try.sizeOf22 Try.zeroValue22 rfl rfl rfl rfl (by decide)) ?_
        have ha4 : Below w3.heap.size w3 (w3.alloc (.cells [Value.slice (some ⟨wr.heap.size, 0, none⟩) c c].toArray 22)) := (Below.refl _ _).alloc (Nat.le_refl _) _
        have hbw3 := hb.trans (b3.mono hb.size)
        have hL4 := hL3.keep ha4
        refine vl_some (ot_append_at Try.underlying23 ti_lBytes rfl rfl rfl hL4.own (rdc_alloc w3 [Value.slice (some ⟨wr.heap.size, 0, none⟩) c c] _) rfl (by intro u hu; rw [List.mem_singleton.1 hu]; rfl) (by omega) (by simp [maxLen]; omega) (by have := hbw3.size; simp; omega)) ?_
        rintro v5 w5 ⟨ho5, hg5, ha5⟩
        have hb5 := Own.below (hbw3.alloc hbw3.size (.cells [Value.slice (some ⟨wr.heap.size, 0, none⟩) c c].toArray 22)) hL4.own hg5 (Nat.le_refl _) (by have := hbw3.size; simp; omega)
        refine vl_val (os_assign rfl) ?_
        refine vl_nil ?_
        refine v_region ?_
        refine vl_val (os_move rfl) ?_
        refine vl_val (os_addi rfl rfl (by omega)) ?_
        refine vl_val (os_assign rfl) ?_
        refine vl_nil ?_
        exact ⟨⟨v5, r + 1⟩, ⟨rfl, rfl, rfl, trivial⟩, ⟨rfl, rfl, trivial⟩, ⟨by omega, ⟨us ++ [.slice (some ⟨wr.heap.size, 0, none⟩) c c], by rw [List.take_add_one, List.getElem?_eq_getElem (by rw [rowsOf_length]; omega)]; have := hL.push o3 b3 hb.size _ ho5 hg5 ha5; rw [hzr] at this; simpa [rowsOf_length, show r < K by omega] using this⟩, hb5⟩, by dsimp only; omega⟩
    · obtain rfl : K = r := by omega
      rw [List.take_of_length_le (by rw [rowsOf_length]; exact Nat.le_refl _)] at hL
      obtain ⟨A2, c2, rfl, -⟩ := Own.form hL.own
      have hul : us.length = K := by rw [hL.len, rowsOf_length]
      refine v_exit ?_
      refine v_seq ?_
      refine v_region ?_
      refine vl_val (os_move rfl) ?_
      refine vl_val (os_assign rfl) ?_
      refine vl_val (os_assign rfl) ?_
      refine vl_nil ?_
      refine v_ret ?_
      exact post_ret2 rfl rfl rfl (⟨hb, .inr ⟨rfl, wd, K, A2, c2, by rw [hul], hwd', rfl, hL.rds rfl (rowsOf_mem (by omega) (by omega))⟩⟩)
end Go.Proofs.Ytpojijnjdlnokaa
