/- Texts joined: Pt WgP PnP SzP Own. -/
import Derived.Test.YtpojijnjdlnokaaM4
import Derived.Test.YtpojijnjdlnokaaProg
import Derived.RangeFuncOwn
/- Layer 13: tables: rows of rows of one's own; slices.Repeat of one value; made. -/
namespace Go.Proofs.Ytpojijnjdlnokaa
open Go.RowKit
set_option linter.unusedVariables false

/-- v is a table of one's own: N rows of its own, no two in one -/
structure Tb (w : World) (B : Nat) (tt e : TypeId) (v : Value) (us : List Value) (N : Nat) (cc : Nat → List Value) : Prop where
  own : Own w B tt v us
  len : N ≤ us.length
  each : ∀ (i : Nat) (u : Value), i < N → us[i]? = some u → Own w B e u (cc i)
  ne : ∀ (i : Nat) (u : Value) (g : Nat), i < N → us[i]? = some u → u.ownBlock = some g → v.ownBlock ≠ some g
  pair : ∀ (i j : Nat) (u u' : Value), i < j → j < N → us[i]? = some u → us[j]? = some u' → sep u u'
/-- the rows of a table -/
def Tk (v : Value) (us : List Value) (N b : Nat) : Prop := v.ownBlock = some b ∨ ∃ (i : Nat) (u : Value), i < N ∧ us[i]? = some u ∧ u.ownBlock = some b
section
variable {w w' : World} {B N : Nat} {tt e : TypeId} {v : Value} {us : List Value} {cc : Nat → List Value}
theorem Tb.lt (h : Tb w B tt e v us N cc) {b : Nat} (hb : Tk v us N b) : B ≤ b ∧ b < w.heap.size := by
  rcases hb with hb | ⟨i, u, hi, hu, hb⟩
  · exact World.ownsRow.lt h.own b hb
  · exact World.ownsRow.lt (h.each i u hi hu) b hb
theorem Tb.kb (h : Tb w B tt e v us N cc) {S : List Nat} (hb : Kb S w w') (hS : ∀ b ∈ S, ¬ Tk v us N b) : Tb w' B tt e v us N cc :=
  ⟨Own.kb h.own hb fun g hg hgS => hS g hgS (.inl hg), h.len, fun i u hi hu => Own.kb (h.each i u hi hu) hb fun g hg hgS => hS g hgS (.inr ⟨i, u, hi, hu, hg⟩), h.ne, h.pair⟩
theorem Tb.keep (h : Tb w B tt e v us N cc) (hb : Below w.heap.size w w') : Tb w' B tt e v us N cc := h.kb (S := []) (Kb.of_below hb) (fun b hb => by cases hb)
theorem Tb.mono (h : Tb w B tt e v us N cc) {B' : Nat} (hB : B' ≤ B) : Tb w B' tt e v us N cc := ⟨h.own.mono hB, h.len, fun i u hi hu => (h.each i u hi hu).mono hB, h.ne, h.pair⟩
theorem Tb.congr (h : Tb w B tt e v us N cc) {cc' : Nat → List Value} (hc : ∀ i, i < N → cc' i = cc i) : Tb w B tt e v us N cc' := ⟨h.own, h.len, fun i u hi hu => by rw [hc i hi]; exact h.each i u hi hu, h.ne, h.pair⟩
theorem Tb.get (h : Tb w B tt e v us N cc) {k : Nat} (hk : k < N) : ∃ A c, us[k]? = some (.slice A (cc k).length c) := by
  have hk' : k < us.length := by have := h.len; omega
  obtain ⟨A, c, e1, -⟩ := Own.form (h.each k us[k] hk (List.getElem?_eq_getElem hk'))
  exact ⟨A, c, by rw [List.getElem?_eq_getElem hk', e1]⟩
/-- a row is turned, all else stays -/
theorem Tb.row (h : Tb w B tt e v us N cc) {k : Nat} {u : Value} (hk : k < N) (hu : us[k]? = some u) {S : List Nat} (hb : Kb S w w') (hS : ∀ b ∈ S, u.ownBlock = some b) {cs : List Value} (ho : Own w' B e u cs) : Tb w' B tt e v us N (fun j => if j = k then cs else cc j) := by
  refine ⟨Own.kb h.own hb fun g hg hgS => h.ne k u g hk hu (hS g hgS) hg, h.len, fun i x hi hx => ?_, h.ne, h.pair⟩
  by_cases e : i = k
  · subst e
    rw [hu] at hx; cases hx
    rw [if_pos rfl]; exact ho
  · rw [if_neg e]
    refine Own.kb (h.each i x hi hx) hb fun g hg hgS => ?_
    rcases Nat.lt_or_gt_of_ne e with h1 | h1
    · exact h.pair i k x u h1 hk hx hu g hg (hS g hgS)
    · exact h.pair k i u x h1 hi hu hx g (hS g hgS) hg
/-- a cell is written -/
theorem Tb.set (h : Tb w B tt e v us N cc) {k g n c : Nat} (hk : k < N) (hu : us[k]? = some (.slice (some ⟨g, 0, none⟩) n c)) (i : Nat) (x : Value) : Tb (w.setCell ⟨g, 0 + i, none⟩ x) B tt e v us N (fun j => if j = k then (cc k).set i x else cc j) := by
  rw [Nat.zero_add]
  exact h.row hk hu (Kb.set (S := [g]) (by simp) i x) (fun b hb => by rw [List.mem_singleton.1 hb]; rfl) (Own.set (h.each k _ hk hu) i x)
/-- a row more is put in -/
theorem Tb.put {g n c : Nat} (h : Tb w B tt e (.slice (some ⟨g, 0, none⟩) n c) us N cc) (hN : N < us.length) {w2 : World} {u : Value} {cs : List Value} (hb : Below w.heap.size w w2) (hu : Own w2 w.heap.size e u cs) :
    Tb (w2.setCell ⟨g, 0 + N, none⟩ u) B tt e (.slice (some ⟨g, 0, none⟩) n c) (us.set N u) (N + 1) (fun j => if j = N then cs else cc j) := by
  rw [Nat.zero_add]
  have h2 := h.keep hb
  have hgl := (World.ownsRow.lt h.own g rfl)
  have hs := hb.size
  refine ⟨Own.set h2.own N u, by rw [List.length_set]; omega, fun i x hi hx => ?_, fun i x b hi hx hxb e => ?_, fun i j x y hij hj hx hy b hxb hyb => ?_⟩
  · by_cases e : i = N
    · subst e
      rw [List.getElem?_set_self hN] at hx; cases hx
      rw [if_pos rfl]
      exact Own.setOther (hu.mono (by omega)) (fun b hb => by have := (World.ownsRow.lt hu b hb).1; omega) _ _
    · rw [List.getElem?_set_ne (fun h => e h.symm)] at hx
      rw [if_neg e]
      exact Own.setOther (h2.each i x (by omega) hx) (fun b hb e2 => by subst e2; exact h.ne i x b (by omega) hx hb rfl) _ _
  · by_cases e2 : i = N
    · subst e2
      rw [List.getElem?_set_self hN] at hx; cases hx
      have := (World.ownsRow.lt hu b hxb).1
      have e3 : g = b := by simpa [Value.ownBlock] using e
      omega
    · rw [List.getElem?_set_ne (fun h => e2 h.symm)] at hx
      exact h.ne i x b (by omega) hx hxb e
  · have e1 : i ≠ N := by omega
    rw [List.getElem?_set_ne (fun h => e1 h.symm)] at hx
    by_cases e2 : j = N
    · subst e2
      rw [List.getElem?_set_self hN] at hy; cases hy
      have h3 := (World.ownsRow.lt hu b hyb).1
      have h4 := (World.ownsRow.lt (h.each i x (by omega) hx) b hxb).2
      omega
    · rw [List.getElem?_set_ne (fun h => e2 h.symm)] at hy
      exact h.pair i j x y hij (by omega) hx hy b hxb hyb
end

theorem ti_lint : TyInfo Try.prog 40 (.slice none 0 0) 1 24 := by unfold TyInfo; kernel_rfl
theorem ti_lbool : TyInfo Try.prog 146 (.slice none 0 0) 1 24 := by unfold TyInfo; kernel_rfl
theorem ti_bool : TyInfo Try.prog 4 (.bool false) 1 1 := by unfold TyInfo; kernel_rfl
def repV (n k : Nat) (u z : Value) : List Value := List.replicate n u ++ List.replicate (k - n) z
theorem repV_len {n k : Nat} (h : n ≤ k) (u z : Value) : (repV n k u z).length = k := by simp [repV]; omega
theorem repV_step {n k m : Nat} (h : n + m ≤ k) (u z : Value) : (repV n k u z).take (0 + n) ++ List.replicate m u ++ (repV n k u z).drop (0 + n + m) = repV (n + m) k u z := by
  unfold repV
  rw [Nat.zero_add]
  have h1 : (List.replicate n u ++ List.replicate (k - n) z).take n = List.replicate n u := by simp
  have h2 : (List.replicate n u ++ List.replicate (k - n) z).drop (n + m) = List.replicate (k - (n + m)) z := by
    rw [List.drop_append]
    simp
    omega
  rw [h1, h2, List.replicate_append_replicate]
theorem repV_rd {n k : Nat} (u z : Value) {w : World} {g : Nat} {t : TypeId} (h : Bk w g (repV n k u z) t) {m : Nat} (hm : m ≤ n) : RdC w (some ⟨g, 0, none⟩) (List.replicate m u) := by
  have := (Bk.rdc h).take m
  rwa [show (repV n k u z).take m = List.replicate m u by
    unfold repV
    rw [List.take_append_of_le_length (by simpa using hm), List.take_replicate, Nat.min_eq_left hm]] at this
theorem rep_one {u : Value} (h : u.oneCell' = true) (m : Nat) : ∀ x ∈ List.replicate m u, x.oneCell' = true := fun x hx => by
  rw [(List.mem_replicate.1 hx).2]; exact h

theorem sl_Repint (A : Option Addr) (c k : Nat) (u : Value) (w : World) (ha : RdC w A [u]) (h1 : u.oneCell' = true) (hk : 1 ≤ k ∧ k ≤ 1000000) : Gives Try.prog 93 #[.slice A 1 c, .int .i64 k] w fun v w' => ∃ g, v = .slice (some ⟨g, 0, none⟩) k k ∧ Own w' w.heap.size 3 v (List.replicate k u) ∧ Below w.heap.size w w' := by
  refine gives_enter Try.call93 Try.func93 rfl rfl rfl (by kernel_rfl) ?_
  refine v_seq ?_
  refine v_region ?_
  refine vl_val (os_assign rfl) ?_
  refine vl_nil ?_
  refine v_seq ?_
  refine v_seq ?_
  refine v_region ?_
  refine vl_val (os_move rfl) ?_
  refine vl_val (os_lss rfl rfl) ?_
  refine vl_nil ?_
  refine v_cond_no rfl (by omega) ?_
  refine v_skip ?_
  refine v_seq ?_
  refine v_region ?_
  refine vl_val (os_move rfl) ?_
  refine vl_val (os_len Try.underlying40 rfl) ?_
  refine vl_val (os_conv Try.underlying3 Try.underlying133 (r := 1) rfl (by decide)) ?_
  refine vl_val (os_move rfl) ?_
  refine vl_val (os_conv Try.underlying3 Try.underlying133 rfl (u64_in ⟨by omega, by omega⟩)) ?_
  refine vl_call (bits_Mul k w (by omega)) rfl ?_
  rintro v w ⟨rfl, rfl⟩
  refine vl_val (os_move rfl) ?_
  refine vl_val (os_extract rfl rfl) ?_
  refine vl_val (os_extract rfl rfl) ?_
  refine vl_val (os_assign rfl) ?_
  refine vl_val (os_assign rfl) ?_
  refine vl_nil ?_
  refine v_seq ?_
  refine v_seq ?_
  refine v_region ?_
  refine vl_val (os_move rfl) ?_
  refine vl_val (os_f (os_gtr rfl rfl) (by decide)) ?_
  refine vl_val (os_move rfl) ?_
  refine vl_valg rfl (os_move rfl) ?_
  refine vl_valg rfl (os_gtr rfl rfl) ?_
  refine vl_val (os_pick_f rfl rfl) ?_
  refine vl_nil ?_
  refine v_cond_no rfl (by omega) ?_
  refine v_skip ?_
  refine v_seq ?_
  refine v_region ?_
  refine vl_val (os_move rfl) ?_
  refine vl_val (os_conv Try.underlying133 Try.underlying3 rfl (i64_fit ⟨by omega, by omega⟩)) ?_
  refine vl_some (ot_make (l := k) Try.underlying40 ti_int rfl rfl rfl rfl rfl (by omega) (by simp [maxLen]; omega) w.heap.size (Nat.le_refl _)) ?_
  rintro v1 w1 ⟨rfl, ho, hg⟩
  have hb1 : Below w.heap.size w w1 := (Below.refl _ _).grown hg (Nat.le_refl _) (fun k hk => by cases hk)
  have hB1 : Bk w1 w.heap.size (repV 0 k u (Value.int .i64 0)) 3 := by have := Own.bk ho (by simp); rw [show repV 0 k u (Value.int .i64 0) = List.replicate k (Value.int .i64 0) by simp [repV]]; exact this
  obtain ⟨b0, o0, rfl, hz⟩ := (ha.keep hb1) (by simp)
  have hr0 : RdC w1 (some ⟨b0, o0, none⟩) (List.replicate 1 u) := ha.keep hb1
  refine vl_val (os_assign rfl) ?_
  refine vl_nil ?_
  refine v_seq ?_
  refine v_region ?_
  refine vl_val (os_move rfl) ?_
  refine vl_val (os_move rfl) ?_
  refine vl_val (os_copyB Try.underlying40 (by kernel_rfl) rfl rfl hB1 hr0 (q := 1) (by simp) (by omega) (by rw [repV_len (by omega)]; omega) (rep_one h1 _)) ?_
  refine vl_val (os_assign rfl) ?_
  refine vl_nil ?_
  refine v_seq ?_
  refine v_block ?_
  refine v_loop [(7, _)] (fun (n : Nat) => [(8, .int .i64 n)]) (fun n w' => 1 ≤ n ∧ n ≤ k ∧ Bk w' w.heap.size (repV n k u (Value.int .i64 0)) 3 ∧ Below w.heap.size w w') (fun n => k - n) (1) ⟨rfl, trivial⟩ ⟨rfl, trivial⟩ (⟨by omega, by omega, by rw [← repV_step (n := 0) (m := 1) (by omega)]; exact setRow_bk hB1 _, below_setRow hb1 (Nat.le_refl _) _⟩) ?_
  rintro n w' ⟨hn1, hn2, hB, hbl⟩
  refine v_seq ?_
  refine v_seq ?_
  refine v_region ?_
  refine vl_val (os_move rfl) ?_
  refine vl_val (os_move rfl) ?_
  refine vl_val (os_len Try.underlying40 rfl) ?_
  refine vl_val (os_lss rfl rfl) ?_
  refine vl_nil ?_
  refine v_cond_d rfl (fun hlt => ?_) (fun hlt => ?_)
  · refine v_skip ?_
    refine v_block ?_
    refine v_region_a mixed ?_
    refine va_pure 0 rfl (by kernel_rfl) (by kernel_rfl) (by kernel_rfl) (fun w => (os_move rfl)) ?_
    refine va_pure 1 rfl (by kernel_rfl) (by kernel_rfl) (by kernel_rfl) (fun w => (os_move rfl)) ?_
    refine va_pure 2 rfl (by kernel_rfl) (by kernel_rfl) (by kernel_rfl) (fun w => (os_move rfl)) ?_
    refine va_pure 3 rfl (by kernel_rfl) (by kernel_rfl) (by kernel_rfl) (fun w => (os_slice_l1 Try.underlying40 Try.sizeOf3 rfl rfl (i := n) rfl (by omega) (by omega))) ?_
    refine va_pure 4 rfl (by kernel_rfl) (by kernel_rfl) (by kernel_rfl) (fun w => (os_move rfl)) ?_
    refine va_pure 5 rfl (by kernel_rfl) (by kernel_rfl) (by kernel_rfl) (fun w => (os_move rfl)) ?_
    refine va_pure 6 rfl (by kernel_rfl) (by kernel_rfl) (by kernel_rfl) (fun w => (os_slice_h Try.underlying40 Try.sizeOf3 rfl rfl (h := n) (by omega) (by omega))) ?_
    refine va_one 7 (by kernel_rfl) ?_
    refine vn_val rfl (os_copyB (ss := List.replicate (min n (k - n)) u) Try.underlying40 (by kernel_rfl) rfl rfl (Bk.led hB ⟨1, rfl⟩) (repV_rd u _ (Bk.led hB ⟨1, rfl⟩) (by omega)) (q := min n (k - n)) (by simp) rfl (by rw [repV_len (by omega)]; omega) (rep_one h1 _)) ?_
    refine va_pure 8 rfl (by kernel_rfl) (by kernel_rfl) (by kernel_rfl) (fun w => (os_addi rfl rfl (by omega))) ?_
    refine va_pure 9 rfl (by kernel_rfl) (by kernel_rfl) (by kernel_rfl) (fun w => (os_assign rfl)) ?_
    refine va_done (by kernel_rfl) ?_
    exact ⟨n + min n (k - n), ⟨rfl, trivial⟩, ⟨get_int rfl (by omega), trivial⟩, ⟨by omega, by omega, by rw [← repV_step (n := n) (m := min n (k - n)) (by omega)]; exact setRow_bk (Bk.led hB ⟨1, rfl⟩) _, below_setRow ((Below.refl _ _).drew.mono (Nat.le_refl _) |> fun h => hbl.trans (h.mono hbl.size)) (Nat.le_refl _) _⟩, by dsimp only; omega⟩
  · obtain rfl : k = n := by omega
    have hown := Bk.own hB (Nat.le_refl _) (by rw [repV_len (Nat.le_refl _)]; simp [maxLen]; omega)
    rw [repV_len (Nat.le_refl _), show repV k k u (Value.int .i64 0) = List.replicate k u by simp [repV]] at hown
    refine v_exit ?_
    refine v_seq ?_
    refine v_region ?_
    refine vl_val (os_move rfl) ?_
    refine vl_val (os_assign rfl) ?_
    refine vl_nil ?_
    refine v_ret ?_
    exact post_ret rfl rfl (⟨_, rfl, hown, hbl⟩)
set_option maxHeartbeats 1000000 in
theorem pl_madeint (N k : Nat) (u : Value) (w : World) (h1 : u.oneCell' = true) (hk : 1 ≤ k ∧ k ≤ 1000000) (hN : N ≤ 1000000) : Gives Try.prog 99 #[.int .i64 N, .int .i64 k, u] w fun v w' => ∃ g us, v = .slice (some ⟨g, 0, none⟩) N N ∧ us.length = N ∧ Tb w' w.heap.size 40 3 v us N (fun _ => List.replicate k u) ∧ Below w.heap.size w w' := by
  refine gives_enter Try.call99 Try.func99 rfl rfl rfl (by kernel_rfl) ?_
  refine v_seq ?_
  refine v_region ?_
  refine vl_val (os_assign rfl) ?_
  refine vl_nil ?_
  refine v_seq ?_
  refine v_region ?_
  refine vl_val (os_move rfl) ?_
  refine vl_some (ot_make (l := N) Try.underlying138 ti_lint rfl rfl rfl rfl rfl (by omega) (by simp [maxLen]; omega) w.heap.size (Nat.le_refl _)) ?_
  rintro v1 w1 ⟨rfl, ho, hg⟩
  have hb1 : Below w.heap.size w w1 := (Below.refl _ _).grown hg (Nat.le_refl _) (fun k hk => by cases hk)
  refine vl_val (os_assign rfl) ?_
  refine vl_nil ?_
  refine v_seq ?_
  refine v_seq ?_
  refine v_region ?_
  refine vl_val (os_move rfl) ?_
  refine vl_val (os_len Try.underlying138 rfl) ?_
  refine vl_val (os_move rfl) ?_
  refine vl_nil ?_
  refine v_block ?_
  refine v_loop [(1, _), (2, _), (7, _), (12, _)] (fun (i : Nat) => [(13, .int .i64 i)]) (fun i w' => i ≤ N ∧ ∃ us, us.length = N ∧ Tb w' w.heap.size 40 3 (.slice (some ⟨w.heap.size, 0, none⟩) N N) us i (fun _ => List.replicate k u) ∧ Below w.heap.size w w') (fun i => N - i) (0) ⟨rfl, rfl, rfl, rfl, trivial⟩ ⟨rfl, trivial⟩ (⟨by omega, _, by simp, ⟨ho, by omega, fun i u hi => absurd hi (by omega), fun i u g hi => absurd hi (by omega), fun i j u u' _ hj => absurd hj (by omega)⟩, hb1⟩) ?_
  rintro i w2 ⟨hi, us, hul, hT, hb2⟩
  refine v_seq ?_
  refine v_region ?_
  refine vl_val (os_lss rfl rfl) ?_
  refine vl_nil ?_
  refine v_seq ?_
  refine v_cond_d rfl (fun hlt => ?_) (fun hlt => ?_)
  · refine v_skip ?_
    refine v_seq ?_
    refine v_block ?_
    refine v_seq ?_
    refine v_region ?_
    refine vl_val (os_move rfl) ?_
    refine vl_val (os_assign rfl) ?_
    refine vl_nil ?_
    refine v_region ?_
    refine vl_val (os_move rfl) ?_
    refine vl_val (os_move rfl) ?_
    refine vl_val (os_move rfl) ?_
    refine vl_val (os_lit Try.underlying40 Try.sizeOf3 Try.zeroValue3 rfl rfl rfl (by simp [oneCells, h1]) (by decide)) ?_
    have bl : Below w2.heap.size w2 (w2.alloc (.cells [u].toArray 3)) := (Below.refl _ _).alloc (Nat.le_refl _) _
    refine vl_val (os_move rfl) ?_
    refine vl_call (sl_Repint _ 1 k u _ (rdc_alloc w2 [u] _) h1 hk) rfl ?_
    rintro v3 w3 ⟨g3, rfl, o3, b3⟩
    have b23 : Below w2.heap.size w2 w3 := bl.trans (b3.mono bl.size)
    have hT3 := hT.put (by omega) b23 (o3.mono bl.size)
    have hou := (hT.keep b23).own
    refine vl_val (os_ix Try.underlying138 Try.sizeOf40 rfl rfl (i := i) (by omega) (by omega)) ?_
    refine vl_unit (ou_store Try.sizeOf40 rfl rfl rfl ((Own.get hou (List.getElem?_eq_getElem (by omega)))) ((Own.free hou _))) ?_
    refine vl_nil ?_
    refine v_region ?_
    refine vl_val (os_addi rfl rfl (by omega)) ?_
    refine vl_val (os_move rfl) ?_
    refine vl_nil ?_
    exact ⟨i + 1, ⟨rfl, rfl, rfl, rfl, trivial⟩, ⟨rfl, trivial⟩, ⟨by omega, _, by rw [List.length_set]; exact hul, hT3.congr (fun j hj => by by_cases e : j = i <;> simp [e]), below_set (hb2.trans (b23.mono hb2.size)) (Nat.le_refl _) _ _⟩, by dsimp only; omega⟩
  · obtain rfl : N = i := by omega
    refine v_exit ?_
    refine v_seq ?_
    refine v_region ?_
    refine vl_val (os_move rfl) ?_
    refine vl_val (os_assign rfl) ?_
    refine vl_nil ?_
    refine v_ret ?_
    exact post_ret rfl rfl (⟨_, us, rfl, hul, hT, hb2⟩)
theorem pl_madesint {zN zk : Int} (N k : Nat) (u : Value) (w : World) (hzN : zN = N) (hzk : zk = k) (h1 : u.oneCell' = true) (hk : 1 ≤ k ∧ k ≤ 1000000) (hN : N ≤ 1000000) : Gives Try.prog 99 #[.int .i64 zN, .int .i64 zk, u] w fun v w' => ∃ g us, v = .slice (some ⟨g, 0, none⟩) N N ∧ us.length = N ∧ Tb w' w.heap.size 40 3 v us N (fun _ => List.replicate k u) ∧ Below w.heap.size w w' := by
  subst hzN; subst hzk; exact pl_madeint N k u w h1 hk hN
theorem sl_Repbool (A : Option Addr) (c k : Nat) (u : Value) (w : World) (ha : RdC w A [u]) (h1 : u.oneCell' = true) (hk : 1 ≤ k ∧ k ≤ 1000000) : Gives Try.prog 148 #[.slice A 1 c, .int .i64 k] w fun v w' => ∃ g, v = .slice (some ⟨g, 0, none⟩) k k ∧ Own w' w.heap.size 4 v (List.replicate k u) ∧ Below w.heap.size w w' := by
  refine gives_enter Try.call148 Try.func148 rfl rfl rfl (by kernel_rfl) ?_
  refine v_seq ?_
  refine v_region ?_
  refine vl_val (os_assign rfl) ?_
  refine vl_nil ?_
  refine v_seq ?_
  refine v_seq ?_
  refine v_region ?_
  refine vl_val (os_move rfl) ?_
  refine vl_val (os_lss rfl rfl) ?_
  refine vl_nil ?_
  refine v_cond_no rfl (by omega) ?_
  refine v_skip ?_
  refine v_seq ?_
  refine v_region ?_
  refine vl_val (os_move rfl) ?_
  refine vl_val (os_len Try.underlying146 rfl) ?_
  refine vl_val (os_conv Try.underlying3 Try.underlying133 (r := 1) rfl (by decide)) ?_
  refine vl_val (os_move rfl) ?_
  refine vl_val (os_conv Try.underlying3 Try.underlying133 rfl (u64_in ⟨by omega, by omega⟩)) ?_
  refine vl_call (bits_Mul k w (by omega)) rfl ?_
  rintro v w ⟨rfl, rfl⟩
  refine vl_val (os_move rfl) ?_
  refine vl_val (os_extract rfl rfl) ?_
  refine vl_val (os_extract rfl rfl) ?_
  refine vl_val (os_assign rfl) ?_
  refine vl_val (os_assign rfl) ?_
  refine vl_nil ?_
  refine v_seq ?_
  refine v_seq ?_
  refine v_region ?_
  refine vl_val (os_move rfl) ?_
  refine vl_val (os_f (os_gtr rfl rfl) (by decide)) ?_
  refine vl_val (os_move rfl) ?_
  refine vl_valg rfl (os_move rfl) ?_
  refine vl_valg rfl (os_gtr rfl rfl) ?_
  refine vl_val (os_pick_f rfl rfl) ?_
  refine vl_nil ?_
  refine v_cond_no rfl (by omega) ?_
  refine v_skip ?_
  refine v_seq ?_
  refine v_region ?_
  refine vl_val (os_move rfl) ?_
  refine vl_val (os_conv Try.underlying133 Try.underlying3 rfl (i64_fit ⟨by omega, by omega⟩)) ?_
  refine vl_some (ot_make (l := k) Try.underlying146 ti_bool rfl rfl rfl rfl rfl (by omega) (by simp [maxLen]; omega) w.heap.size (Nat.le_refl _)) ?_
  rintro v1 w1 ⟨rfl, ho, hg⟩
  have hb1 : Below w.heap.size w w1 := (Below.refl _ _).grown hg (Nat.le_refl _) (fun k hk => by cases hk)
  have hB1 : Bk w1 w.heap.size (repV 0 k u (Value.bool false)) 4 := by have := Own.bk ho (by simp); rw [show repV 0 k u (Value.bool false) = List.replicate k (Value.bool false) by simp [repV]]; exact this
  obtain ⟨b0, o0, rfl, hz⟩ := (ha.keep hb1) (by simp)
  have hr0 : RdC w1 (some ⟨b0, o0, none⟩) (List.replicate 1 u) := ha.keep hb1
  refine vl_val (os_assign rfl) ?_
  refine vl_nil ?_
  refine v_seq ?_
  refine v_region ?_
  refine vl_val (os_move rfl) ?_
  refine vl_val (os_move rfl) ?_
  refine vl_val (os_copyB Try.underlying146 (by kernel_rfl) rfl rfl hB1 hr0 (q := 1) (by simp) (by omega) (by rw [repV_len (by omega)]; omega) (rep_one h1 _)) ?_
  refine vl_val (os_assign rfl) ?_
  refine vl_nil ?_
  refine v_seq ?_
  refine v_block ?_
  refine v_loop [(7, _)] (fun (n : Nat) => [(8, .int .i64 n)]) (fun n w' => 1 ≤ n ∧ n ≤ k ∧ Bk w' w.heap.size (repV n k u (Value.bool false)) 4 ∧ Below w.heap.size w w') (fun n => k - n) (1) ⟨rfl, trivial⟩ ⟨rfl, trivial⟩ (⟨by omega, by omega, by rw [← repV_step (n := 0) (m := 1) (by omega)]; exact setRow_bk hB1 _, below_setRow hb1 (Nat.le_refl _) _⟩) ?_
  rintro n w' ⟨hn1, hn2, hB, hbl⟩
  refine v_seq ?_
  refine v_seq ?_
  refine v_region ?_
  refine vl_val (os_move rfl) ?_
  refine vl_val (os_move rfl) ?_
  refine vl_val (os_len Try.underlying146 rfl) ?_
  refine vl_val (os_lss rfl rfl) ?_
  refine vl_nil ?_
  refine v_cond_d rfl (fun hlt => ?_) (fun hlt => ?_)
  · refine v_skip ?_
    refine v_block ?_
    refine v_region_a mixed ?_
    refine va_pure 0 rfl (by kernel_rfl) (by kernel_rfl) (by kernel_rfl) (fun w => (os_move rfl)) ?_
    refine va_pure 1 rfl (by kernel_rfl) (by kernel_rfl) (by kernel_rfl) (fun w => (os_move rfl)) ?_
    refine va_pure 2 rfl (by kernel_rfl) (by kernel_rfl) (by kernel_rfl) (fun w => (os_move rfl)) ?_
    refine va_pure 3 rfl (by kernel_rfl) (by kernel_rfl) (by kernel_rfl) (fun w => (os_slice_l1 Try.underlying146 Try.sizeOf4 rfl rfl (i := n) rfl (by omega) (by omega))) ?_
    refine va_pure 4 rfl (by kernel_rfl) (by kernel_rfl) (by kernel_rfl) (fun w => (os_move rfl)) ?_
    refine va_pure 5 rfl (by kernel_rfl) (by kernel_rfl) (by kernel_rfl) (fun w => (os_move rfl)) ?_
    refine va_pure 6 rfl (by kernel_rfl) (by kernel_rfl) (by kernel_rfl) (fun w => (os_slice_h Try.underlying146 Try.sizeOf4 rfl rfl (h := n) (by omega) (by omega))) ?_
    refine va_one 7 (by kernel_rfl) ?_
    refine vn_val rfl (os_copyB (ss := List.replicate (min n (k - n)) u) Try.underlying146 (by kernel_rfl) rfl rfl (Bk.led hB ⟨1, rfl⟩) (repV_rd u _ (Bk.led hB ⟨1, rfl⟩) (by omega)) (q := min n (k - n)) (by simp) rfl (by rw [repV_len (by omega)]; omega) (rep_one h1 _)) ?_
    refine va_pure 8 rfl (by kernel_rfl) (by kernel_rfl) (by kernel_rfl) (fun w => (os_addi rfl rfl (by omega))) ?_
    refine va_pure 9 rfl (by kernel_rfl) (by kernel_rfl) (by kernel_rfl) (fun w => (os_assign rfl)) ?_
    refine va_done (by kernel_rfl) ?_
    exact ⟨n + min n (k - n), ⟨rfl, trivial⟩, ⟨get_int rfl (by omega), trivial⟩, ⟨by omega, by omega, by rw [← repV_step (n := n) (m := min n (k - n)) (by omega)]; exact setRow_bk (Bk.led hB ⟨1, rfl⟩) _, below_setRow ((Below.refl _ _).drew.mono (Nat.le_refl _) |> fun h => hbl.trans (h.mono hbl.size)) (Nat.le_refl _) _⟩, by dsimp only; omega⟩
  · obtain rfl : k = n := by omega
    have hown := Bk.own hB (Nat.le_refl _) (by rw [repV_len (Nat.le_refl _)]; simp [maxLen]; omega)
    rw [repV_len (Nat.le_refl _), show repV k k u (Value.bool false) = List.replicate k u by simp [repV]] at hown
    refine v_exit ?_
    refine v_seq ?_
    refine v_region ?_
    refine vl_val (os_move rfl) ?_
    refine vl_val (os_assign rfl) ?_
    refine vl_nil ?_
    refine v_ret ?_
    exact post_ret rfl rfl (⟨_, rfl, hown, hbl⟩)
set_option maxHeartbeats 1000000 in
theorem pl_madebool (N k : Nat) (u : Value) (w : World) (h1 : u.oneCell' = true) (hk : 1 ≤ k ∧ k ≤ 1000000) (hN : N ≤ 1000000) : Gives Try.prog 101 #[.int .i64 N, .int .i64 k, u] w fun v w' => ∃ g us, v = .slice (some ⟨g, 0, none⟩) N N ∧ us.length = N ∧ Tb w' w.heap.size 146 4 v us N (fun _ => List.replicate k u) ∧ Below w.heap.size w w' := by
  refine gives_enter Try.call101 Try.func101 rfl rfl rfl (by kernel_rfl) ?_
  refine v_seq ?_
  refine v_region ?_
  refine vl_val (os_assign rfl) ?_
  refine vl_nil ?_
  refine v_seq ?_
  refine v_region ?_
  refine vl_val (os_move rfl) ?_
  refine vl_some (ot_make (l := N) Try.underlying144 ti_lbool rfl rfl rfl rfl rfl (by omega) (by simp [maxLen]; omega) w.heap.size (Nat.le_refl _)) ?_
  rintro v1 w1 ⟨rfl, ho, hg⟩
  have hb1 : Below w.heap.size w w1 := (Below.refl _ _).grown hg (Nat.le_refl _) (fun k hk => by cases hk)
  refine vl_val (os_assign rfl) ?_
  refine vl_nil ?_
  refine v_seq ?_
  refine v_seq ?_
  refine v_region ?_
  refine vl_val (os_move rfl) ?_
  refine vl_val (os_len Try.underlying144 rfl) ?_
  refine vl_val (os_move rfl) ?_
  refine vl_nil ?_
  refine v_block ?_
  refine v_loop [(1, _), (2, _), (7, _), (12, _)] (fun (i : Nat) => [(13, .int .i64 i)]) (fun i w' => i ≤ N ∧ ∃ us, us.length = N ∧ Tb w' w.heap.size 146 4 (.slice (some ⟨w.heap.size, 0, none⟩) N N) us i (fun _ => List.replicate k u) ∧ Below w.heap.size w w') (fun i => N - i) (0) ⟨rfl, rfl, rfl, rfl, trivial⟩ ⟨rfl, trivial⟩ (⟨by omega, _, by simp, ⟨ho, by omega, fun i u hi => absurd hi (by omega), fun i u g hi => absurd hi (by omega), fun i j u u' _ hj => absurd hj (by omega)⟩, hb1⟩) ?_
  rintro i w2 ⟨hi, us, hul, hT, hb2⟩
  refine v_seq ?_
  refine v_region ?_
  refine vl_val (os_lss rfl rfl) ?_
  refine vl_nil ?_
  refine v_seq ?_
  refine v_cond_d rfl (fun hlt => ?_) (fun hlt => ?_)
  · refine v_skip ?_
    refine v_seq ?_
    refine v_block ?_
    refine v_seq ?_
    refine v_region ?_
    refine vl_val (os_move rfl) ?_
    refine vl_val (os_assign rfl) ?_
    refine vl_nil ?_
    refine v_region ?_
    refine vl_val (os_move rfl) ?_
    refine vl_val (os_move rfl) ?_
    refine vl_val (os_move rfl) ?_
    refine vl_val (os_lit Try.underlying146 Try.sizeOf4 Try.zeroValue4 rfl rfl rfl (by simp [oneCells, h1]) (by decide)) ?_
    have bl : Below w2.heap.size w2 (w2.alloc (.cells [u].toArray 4)) := (Below.refl _ _).alloc (Nat.le_refl _) _
    refine vl_val (os_move rfl) ?_
    refine vl_call (sl_Repbool _ 1 k u _ (rdc_alloc w2 [u] _) h1 hk) rfl ?_
    rintro v3 w3 ⟨g3, rfl, o3, b3⟩
    have b23 : Below w2.heap.size w2 w3 := bl.trans (b3.mono bl.size)
    have hT3 := hT.put (by omega) b23 (o3.mono bl.size)
    have hou := (hT.keep b23).own
    refine vl_val (os_ix Try.underlying144 Try.sizeOf146 rfl rfl (i := i) (by omega) (by omega)) ?_
    refine vl_unit (ou_store Try.sizeOf146 rfl rfl rfl ((Own.get hou (List.getElem?_eq_getElem (by omega)))) ((Own.free hou _))) ?_
    refine vl_nil ?_
    refine v_region ?_
    refine vl_val (os_addi rfl rfl (by omega)) ?_
    refine vl_val (os_move rfl) ?_
    refine vl_nil ?_
    exact ⟨i + 1, ⟨rfl, rfl, rfl, rfl, trivial⟩, ⟨rfl, trivial⟩, ⟨by omega, _, by rw [List.length_set]; exact hul, hT3.congr (fun j hj => by by_cases e : j = i <;> simp [e]), below_set (hb2.trans (b23.mono hb2.size)) (Nat.le_refl _) _ _⟩, by dsimp only; omega⟩
  · obtain rfl : N = i := by omega
    refine v_exit ?_
    refine v_seq ?_
    refine v_region ?_
    refine vl_val (os_move rfl) ?_
    refine vl_val (os_assign rfl) ?_
    refine vl_nil ?_
    refine v_ret ?_
    exact post_ret rfl rfl (⟨_, us, rfl, hul, hT, hb2⟩)
theorem pl_madesbool {zN zk : Int} (N k : Nat) (u : Value) (w : World) (hzN : zN = N) (hzk : zk = k) (h1 : u.oneCell' = true) (hk : 1 ≤ k ∧ k ≤ 1000000) (hN : N ≤ 1000000) : Gives Try.prog 101 #[.int .i64 zN, .int .i64 zk, u] w fun v w' => ∃ g us, v = .slice (some ⟨g, 0, none⟩) N N ∧ us.length = N ∧ Tb w' w.heap.size 146 4 v us N (fun _ => List.replicate k u) ∧ Below w.heap.size w w' := by
  subst hzN; subst hzk; exact pl_madebool N k u w h1 hk hN
end Go.Proofs.Ytpojijnjdlnokaa

/- Layer 12, plain: what weights, scores and orders are. No program in sight. -/
namespace Go.Proofs.Ytpojijnjdlnokaa
set_option linter.unusedVariables false

def fallsB (zs : List Int) : Bool := decide (∀ i, i < zs.length → i + 1 < zs.length → zs.getD (i + 1) 0 ≤ zs.getD i 0)
def wrightB (n : Int) (w : List Int) : Bool := decide (1 ≤ n ∧ n ≤ 255 ∧ (w.length : Int) = n + 1) && (decide (w.getD 0 0 ≤ 65536) && (decide (0 ≤ w.getD n.toNat 0) && fallsB w))
theorem falls_le {zs : List Int} (h : fallsB zs = true) {i : Nat} : ∀ {k : Nat}, i + k < zs.length → zs.getD (i + k) 0 ≤ zs.getD i 0 := by
  intro k
  induction k with
  | zero => intro _; exact Int.le_refl _
  | succ k ih =>
    intro hk
    have h1 := of_decide_eq_true h (i + k) (by omega) (by omega)
    have h2 := ih (by omega)
    rw [show i + (k + 1) = i + k + 1 by omega]
    omega
theorem wright_bd {n : Int} {w : List Int} (h : wrightB n w = true) : ∀ i, i < w.length → 0 ≤ w.getD i 0 ∧ w.getD i 0 ≤ 65536 := by
  simp only [wrightB, Bool.and_eq_true, decide_eq_true_eq] at h
  obtain ⟨⟨h1, h2, h3⟩, h4, h5, h6⟩ := h
  intro i hi
  have a := falls_le h6 (i := 0) (k := i) (by omega)
  rw [Nat.zero_add] at a
  have b := falls_le h6 (i := i) (k := n.toNat - i) (by omega)
  rw [show i + (n.toNat - i) = n.toNat by omega] at b
  omega
/-- as the document has it -/
theorem right_all (n : Int) (w : List Int) : wrightB n w = (decide (1 ≤ n ∧ n ≤ 255 ∧ (w.length : Int) = n + 1) && decide (∀ i, i < w.length → 0 ≤ w.getD i 0 ∧ w.getD i 0 ≤ 65536 ∧ (0 < i → w.getD i 0 ≤ w.getD (i - 1) 0))) := by
  rw [Bool.eq_iff_iff]
  constructor
  · intro h
    have hb := wright_bd h
    simp only [wrightB, Bool.and_eq_true, decide_eq_true_eq] at h ⊢
    refine ⟨h.1, fun i hi => ⟨(hb i hi).1, (hb i hi).2, fun h0 => ?_⟩⟩
    have := of_decide_eq_true h.2.2.2 (i - 1) (by omega) (by omega)
    rwa [show i - 1 + 1 = i by omega] at this
  · intro h
    simp only [wrightB, fallsB, Bool.and_eq_true, decide_eq_true_eq] at h ⊢
    obtain ⟨⟨h1, h2, h3⟩, h4⟩ := h
    refine ⟨⟨h1, h2, h3⟩, (h4 0 (by omega)).2.1, (h4 n.toNat (by omega)).1, fun i hi hi2 => ?_⟩
    have := (h4 (i + 1) hi2).2.2 (by omega)
    simpa using this

def scT (worths ks w : List Int) (i : Nat) : Int := worths.getD i 0 * w.getD (ks.getD i 0).toNat 0
def scGood (worths ks w : List Int) (i : Nat) : Prop := 1 ≤ ks.getD i 0 ∧ ks.getD i 0 < w.length ∧ 0 ≤ worths.getD i 0 ∧ worths.getD i 0 ≤ 1048576
instance (worths ks w : List Int) (i : Nat) : Decidable (scGood worths ks w i) := by unfold scGood; infer_instance
def scOk (worths ks w : List Int) : Bool := wrightB ((w.length : Int) - 1) w && (decide (ks.length = worths.length) && (decide (ks.length ≤ 8) && decide (∀ i, i < ks.length → scGood worths ks w i)))
def scSum (worths ks w : List Int) : Nat → Int
  | 0 => 0
  | k + 1 => scSum worths ks w k + scT worths ks w k
def scV (worths ks w : List Int) : Int := if scOk worths ks w then scSum worths ks w ks.length else 0
def errA (b : Bool) : Int := if b then 0 else 2
theorem errA_zero {b : Bool} : errA b = 0 ↔ b = true := by cases b <;> simp [errA]
theorem prod_bd {a b : Int} (ha : 0 ≤ a ∧ a ≤ 1048576) (hb : 0 ≤ b ∧ b ≤ 65536) : 0 ≤ a * b ∧ a * b ≤ 68719476736 :=
  ⟨Int.mul_nonneg ha.1 hb.1, Int.le_trans (Int.mul_le_mul ha.2 hb.2 hb.1 (by omega)) (by omega)⟩
theorem scT_bd {worths ks w : List Int} {i : Nat} (hw : ∀ i, i < w.length → 0 ≤ w.getD i 0 ∧ w.getD i 0 ≤ 65536) (hg : scGood worths ks w i) : 0 ≤ scT worths ks w i ∧ scT worths ks w i ≤ 68719476736 := by
  unfold scGood at hg
  exact prod_bd ⟨hg.2.2.1, hg.2.2.2⟩ (hw _ (by omega))

def lessL : List Int → List Int → Bool
  | _, [] => false
  | [], _ :: _ => true
  | x :: xs, y :: ys => decide (x < y) || (decide (x = y) && lessL xs ys)
theorem lessL_tri : ∀ (a b : List Int), (lessL a b || lessL b a) = !decide (a = b) ∧ (lessL a b && lessL b a) = false
  | [], [] => by simp [lessL]
  | [], _ :: _ => by simp [lessL]
  | _ :: _, [] => by simp [lessL]
  | x :: xs, y :: ys => by
    have ih := lessL_tri xs ys
    rcases (by omega : x < y ∨ y < x ∨ x = y) with h | h | h
    · have h1 : ¬ y < x := by omega
      have h2 : ¬ x = y := by omega
      have h3 : ¬ y = x := by omega
      simp [lessL, h, h1, h2, h3]
    · have h1 : ¬ x < y := by omega
      have h2 : ¬ x = y := by omega
      have h3 : ¬ y = x := by omega
      simp [lessL, h, h1, h2, h3]
    · subst h
      simpa [lessL] using ih
theorem lessL_trans : ∀ (a b c : List Int), lessL a b = true → lessL b c = true → lessL a c = true
  | _, _, [], _, h => by simp [lessL] at h
  | _, [], _ :: _, h, _ => by simp [lessL] at h
  | [], _ :: _, _ :: _, _, _ => by simp [lessL]
  | x :: xs, y :: ys, z :: zs, h1, h2 => by
    simp only [lessL, Bool.or_eq_true, Bool.and_eq_true, decide_eq_true_eq] at h1 h2 ⊢
    rcases h1 with h1 | ⟨h1, h1'⟩ <;> rcases h2 with h2 | ⟨h2, h2'⟩
    · exact .inl (by omega)
    · exact .inl (by omega)
    · exact .inl (by omega)
    · exact .inr ⟨by omega, lessL_trans xs ys zs h1' h2'⟩

def betOk (worths ks other w : List Int) : Bool := scOk worths ks w && scOk worths other w
def betV (worths ks other w : List Int) : Bool := betOk worths ks other w && (decide (scV worths other w < scV worths ks w) || (decide (scV worths ks w = scV worths other w) && lessL ks other))
theorem bet_tri {worths a b w : List Int} (h : betOk worths a b w = true) : (betV worths a b w || betV worths b a w) = !decide (a = b) ∧ (betV worths a b w && betV worths b a w) = false := by
  have h' : betOk worths b a w = true := by simp only [betOk, Bool.and_eq_true] at h ⊢; exact ⟨h.2, h.1⟩
  have ht := lessL_tri a b
  unfold betV
  rw [h, h']
  by_cases hab : a = b
  · subst hab
    have h1 : lessL a a = false := by simpa using ht.2
    simp [h1]
  · rw [decide_eq_false hab] at ht ⊢
    generalize scV worths a w = s
    generalize scV worths b w = t
    rcases (by omega : s < t ∨ t < s ∨ s = t) with h1 | h1 | h1
    · have h2 : ¬ t < s := by omega
      have h3 : ¬ s = t := by omega
      have h4 : ¬ t = s := by omega
      simp [h1, h2, h3, h4]
    · have h2 : ¬ s < t := by omega
      have h3 : ¬ s = t := by omega
      have h4 : ¬ t = s := by omega
      simp [h1, h2, h3, h4]
    · subst h1
      simpa using ht
theorem bet_trans {worths a b c w : List Int} (h : betOk worths a b w = true) (h2 : betOk worths b c w = true) (hab : betV worths a b w = true) (hbc : betV worths b c w = true) : betV worths a c w = true := by
  have h3 : betOk worths a c w = true := by simp only [betOk, Bool.and_eq_true] at h h2 ⊢; exact ⟨h.1, h2.2⟩
  simp only [betV, h, h2, h3, Bool.true_and, Bool.or_eq_true, Bool.and_eq_true, decide_eq_true_eq] at *
  rcases hab with hab | ⟨hab, hab'⟩ <;> rcases hbc with hbc | ⟨hbc, hbc'⟩
  · exact .inl (by omega)
  · exact .inl (by omega)
  · exact .inl (by omega)
  · exact .inr ⟨by omega, lessL_trans _ _ _ hab' hbc'⟩
end Go.Proofs.Ytpojijnjdlnokaa

/- Layer 13, plain: the best thresholds. No program in sight. -/
namespace Go.Proofs.Ytpojijnjdlnokaa
set_option linter.unusedVariables false

/-- a layer: what a threshold is worth, and how wide its rows are -/
structure Ly where
  o : Nat → Int
  wd : Nat → Nat
/-- what threshold k is worth in a room, with the best behind it; -1: it does not fit -/
def valP (l : Ly) (beh : Nat → Nat → Int) (r k : Nat) : Int := if l.wd k ≤ r ∧ beh k (r - l.wd k) ≠ -1 then l.o k + beh k (r - l.wd k) else -1
/-- the greatest of the last d ones of f to n -/
def mxP (f : Nat → Int) (n : Nat) : Nat → Int
  | 0 => -1
  | d + 1 => if mxP f n d ≤ f (n - d) then f (n - d) else mxP f n d
def scP (n : Nat) : List Ly → Nat → Nat → Int
  | [], _, _ => 0
  | l :: r, k, room => mxP (valP l (scP n r) room) n (n + 1 - k)
/-- the first place from k on at which p is -/
def firstP (p : Nat → Bool) : Nat → Nat → Nat
  | 0, k => k
  | d + 1, k => if p k then k else firstP p d (k + 1)
def argP (f : Nat → Int) (n k : Nat) : Nat := firstP (fun j => decide (f j = mxP f n (n + 1 - k))) (n + 1 - k) k
def toldP (n : Nat) : List Ly → Nat → Nat → List Nat
  | [], _, _ => []
  | l :: r, k, room => argP (valP l (scP n r) room) n k :: toldP n r (argP (valP l (scP n r) room) n k) (room - l.wd (argP (valP l (scP n r) room) n k))
def OkP (n : Nat) : List Ly → Nat → Nat → List Nat → Prop
  | [], _, _, ks => ks = []
  | l :: r, k, room, ks => ∃ x xs, ks = x :: xs ∧ k ≤ x ∧ x ≤ n ∧ l.wd x ≤ room ∧ OkP n r x (room - l.wd x) xs
def sumP : List Ly → List Nat → Int
  | l :: r, x :: xs => l.o x + sumP r xs
  | _, _ => 0

theorem mxP_ge (f : Nat → Int) (n : Nat) : ∀ d, -1 ≤ mxP f n d
  | 0 => by simp [mxP]
  | d + 1 => by have := mxP_ge f n d; rw [mxP]; split <;> omega
theorem mxP_le {f : Nat → Int} {n : Nat} : ∀ {d i : Nat}, i < d → f (n - i) ≤ mxP f n d
  | 0, i, h => by omega
  | d + 1, i, h => by
    rw [mxP]
    by_cases e : i = d
    · subst e; split <;> omega
    · have := mxP_le (f := f) (n := n) (show i < d by omega); split <;> omega
theorem mxP_le' {f : Nat → Int} {n k j : Nat} (hk : 1 ≤ k) (h1 : k ≤ j) (h2 : j ≤ n) : f j ≤ mxP f n (n + 1 - k) := by
  have := mxP_le (f := f) (n := n) (d := n + 1 - k) (i := n - j) (by omega)
  rwa [show n - (n - j) = j by omega] at this
theorem mxP_at {f : Nat → Int} {n : Nat} : ∀ {d : Nat}, mxP f n d ≠ -1 → ∃ i, i < d ∧ f (n - i) = mxP f n d
  | 0, h => absurd rfl h
  | d + 1, h => by
    rw [mxP] at h ⊢
    split
    · exact ⟨d, by omega, rfl⟩
    · rename_i hlt
      rw [if_neg hlt] at h
      obtain ⟨i, h1, h2⟩ := mxP_at h
      exact ⟨i, by omega, h2⟩
theorem mxP_mono {f : Nat → Int} {n d : Nat} : mxP f n d ≤ mxP f n (d + 1) := by
  have : mxP f n (d + 1) = if mxP f n d ≤ f (n - d) then f (n - d) else mxP f n d := rfl
  rw [this]; split <;> omega
theorem mxP_mono' {f : Nat → Int} {n d : Nat} : ∀ {e : Nat}, d ≤ e → mxP f n d ≤ mxP f n e
  | 0, h => by have : d = 0 := by omega
               subst this; exact Int.le_refl _
  | e + 1, h => by
    by_cases he : d = e + 1
    · subst he; exact Int.le_refl _
    · exact Int.le_trans (mxP_mono' (by omega)) mxP_mono
theorem mxP_congr {f g : Nat → Int} {n : Nat} : ∀ {d : Nat}, (∀ i, i < d → f (n - i) = g (n - i)) → mxP f n d = mxP g n d
  | 0, _ => rfl
  | d + 1, h => by rw [mxP, mxP, mxP_congr (fun i hi => h i (by omega)), h d (by omega)]
theorem firstP_spec {p : Nat → Bool} : ∀ {d k j : Nat}, k ≤ j → j < k + d → p j = true → k ≤ firstP p d k ∧ firstP p d k ≤ j ∧ p (firstP p d k) = true ∧ ∀ i, k ≤ i → i < firstP p d k → p i = false
  | 0, k, j, h1, h2, _ => by omega
  | d + 1, k, j, h1, h2, hp => by
    rw [firstP]
    by_cases h : p k = true
    · rw [if_pos h]; exact ⟨Nat.le_refl _, h1, h, fun i h3 h4 => by omega⟩
    · rw [if_neg h]
      have hne : k ≠ j := fun e => h (by rw [e]; exact hp)
      obtain ⟨g1, g2, g3, g4⟩ := firstP_spec (p := p) (d := d) (k := k + 1) (j := j) (by omega) (by omega) hp
      refine ⟨by omega, g2, g3, fun i h3 h4 => ?_⟩
      by_cases e : i = k
      · subst e; simpa using h
      · exact g4 i (by omega) h4
/-- the first one of the greatest -/
theorem argP_spec {f : Nat → Int} {n k : Nat} (hk : 1 ≤ k) (h : mxP f n (n + 1 - k) ≠ -1) : k ≤ argP f n k ∧ argP f n k ≤ n ∧ f (argP f n k) = mxP f n (n + 1 - k) ∧ ∀ i, k ≤ i → i < argP f n k → f i < mxP f n (n + 1 - k) := by
  obtain ⟨i, h1, h2⟩ := mxP_at h
  have h3 := firstP_spec (p := fun j => decide (f j = mxP f n (n + 1 - k))) (d := n + 1 - k) (k := k) (j := n - i) (by omega) (by omega) (by simpa using h2)
  refine ⟨h3.1, by have := h3.2.1; unfold argP; omega, by unfold argP; exact of_decide_eq_true h3.2.2.1, fun j hj hj2 => ?_⟩
  have h4 := h3.2.2.2 j hj hj2
  have h5 := mxP_le' (f := f) (n := n) hk hj (by have := h3.2.1; unfold argP at hj2; omega)
  have h6 : f j ≠ mxP f n (n + 1 - k) := by simpa using h4
  omega
/-- a place is taken: it is worth no less than all behind it -/
def takP (f : Nat → Int) (n k : Nat) : Bool := decide (f k ≠ -1 ∧ mxP f n (n - k) ≤ f k)
theorem takP_arg {f : Nat → Int} {n k : Nat} (hk : 1 ≤ k) (h : mxP f n (n + 1 - k) ≠ -1) : takP f n (argP f n k) = true ∧ ∀ i, k ≤ i → i < argP f n k → takP f n i = false := by
  obtain ⟨h1, h2, h3, h4⟩ := argP_spec hk h
  refine ⟨?_, fun i hi hi2 => ?_⟩
  · have := mxP_mono' (f := f) (n := n) (d := n - argP f n k) (e := n + 1 - k) (by omega)
    simp only [takP, decide_eq_true_eq]
    exact ⟨by rw [h3]; exact h, by rw [h3]; exact this⟩
  · have h5 := h4 i hi hi2
    have h6 := mxP_le (f := f) (n := n) (d := n - i) (i := n - argP f n k) (by omega)
    rw [show n - (n - argP f n k) = argP f n k by omega] at h6
    simp only [takP, decide_eq_false_iff_not]
    intro hh
    omega
/-- one step of the table -/
theorem mxP_step {f : Nat → Int} {n k : Nat} (hk : 1 ≤ k) (hn : k ≤ n) (hf : -1 ≤ f k) : mxP f n (n + 1 - k) = (if f k ≠ -1 ∧ mxP f n (n - k) ≤ f k then f k else mxP f n (n - k)) := by
  rw [show n + 1 - k = (n - k) + 1 by omega, mxP, show n - (n - k) = k by omega]
  have := mxP_ge f n (n - k)
  by_cases h : mxP f n (n - k) ≤ f k
  · rw [if_pos h]
    by_cases h2 : f k = -1
    · rw [if_neg (by intro hh; exact hh.1 h2)]; omega
    · rw [if_pos ⟨h2, h⟩]
  · rw [if_neg h, if_neg (by intro hh; exact h hh.2)]

theorem valP_bd {l : Ly} {beh : Nat → Nat → Int} {r k : Nat} (ho : 0 ≤ l.o k) (hb : ∀ k r, -1 ≤ beh k r) : -1 ≤ valP l beh r k := by
  unfold valP
  split
  · rename_i h; have := hb k (r - l.wd k); omega
  · omega
theorem scP_ge {n : Nat} : ∀ {ls : List Ly} {k room : Nat}, -1 ≤ scP n ls k room
  | [], _, _ => by simp [scP]
  | l :: r, k, room => mxP_ge _ _ _
theorem okP_le {n : Nat} : ∀ {ls : List Ly} {k room : Nat} {ks : List Nat}, (∀ l ∈ ls, ∀ k, 0 ≤ l.o k) → 1 ≤ k → OkP n ls k room ks → 0 ≤ sumP ls ks ∧ sumP ls ks ≤ scP n ls k room
  | [], k, room, ks, _, _, h => by simp [sumP, scP]
  | l :: r, k, room, ks, ho, hk, h => by
    obtain ⟨x, xs, rfl, h1, h2, h3, h4⟩ := h
    have ih := okP_le (fun l hl => ho l (by simp [hl])) (by omega : 1 ≤ x) h4
    have h5 := ho l (by simp) x
    have h6 : valP l (scP n r) room x = l.o x + scP n r x (room - l.wd x) := by unfold valP; rw [if_pos ⟨h3, by omega⟩]
    have h7 := mxP_le' (f := valP l (scP n r) room) hk h1 h2
    rw [sumP, scP]
    omega
theorem toldP_ok {n : Nat} : ∀ {ls : List Ly} {k room : Nat}, (∀ l ∈ ls, ∀ k, 0 ≤ l.o k) → 1 ≤ k → scP n ls k room ≠ -1 → OkP n ls k room (toldP n ls k room) ∧ sumP ls (toldP n ls k room) = scP n ls k room
  | [], k, room, _, _, _ => by simp [toldP, OkP, sumP, scP]
  | l :: r, k, room, ho, hk, h => by
    rw [scP] at h
    obtain ⟨h1, h2, h3, h4⟩ := argP_spec hk h
    generalize hj : argP (valP l (scP n r) room) n k = j at *
    have h5 : l.wd j ≤ room ∧ scP n r j (room - l.wd j) ≠ -1 := by
      apply Classical.byContradiction
      intro hh
      have : valP l (scP n r) room j = -1 := by unfold valP; rw [if_neg hh]
      omega
    have h6 : valP l (scP n r) room j = l.o j + scP n r j (room - l.wd j) := by unfold valP; rw [if_pos h5]
    have ih := toldP_ok (fun l hl => ho l (by simp [hl])) (by omega : 1 ≤ j) h5.2
    rw [toldP, hj]
    refine ⟨⟨j, _, rfl, h1, h2, h5.1, ih.1⟩, ?_⟩
    rw [sumP, scP, ih.2]
    omega
theorem toldP_len {n : Nat} : ∀ {ls : List Ly} {k room : Nat}, (toldP n ls k room).length = ls.length
  | [], _, _ => rfl
  | l :: r, k, room => by rw [toldP, List.length_cons, toldP_len, List.length_cons]
/-- of all that fit and are worth as much, none is less -/
theorem toldP_least {n : Nat} : ∀ {ls : List Ly} {k room : Nat} {ks : List Nat}, (∀ l ∈ ls, ∀ k, 0 ≤ l.o k) → 1 ≤ k → OkP n ls k room ks → sumP ls ks = scP n ls k room → lessL (ks.map fun (x : Nat) => (x : Int)) ((toldP n ls k room).map fun (x : Nat) => (x : Int)) = false
  | [], k, room, ks, _, _, h, _ => by
    have : ks = [] := h
    subst this; rfl
  | l :: r, k, room, ks, ho, hk, h, hs => by
    obtain ⟨x, xs, rfl, h1, h2, h3, h4⟩ := h
    have ho' : ∀ l ∈ r, ∀ k, 0 ≤ l.o k := fun l hl => ho l (by simp [hl])
    have ih := okP_le ho' (by omega : 1 ≤ x) h4
    have h5 := ho l (by simp) x
    have h6 : valP l (scP n r) room x = l.o x + scP n r x (room - l.wd x) := by unfold valP; rw [if_pos ⟨h3, by omega⟩]
    have h7 := mxP_le' (f := valP l (scP n r) room) hk h1 h2
    rw [sumP, scP] at hs
    obtain ⟨g1, g2, g3, g4⟩ := argP_spec hk (show mxP (valP l (scP n r) room) n (n + 1 - k) ≠ -1 by omega)
    rw [toldP]
    generalize argP (valP l (scP n r) room) n k = j at *
    rcases Nat.lt_trichotomy x j with hx | hx | hx
    · have := g4 x h1 hx; omega
    · subst hx
      have := toldP_least ho' (by omega : 1 ≤ x) h4 (by omega)
      simp only [List.map_cons, lessL]
      simp [this]
    · simp only [List.map_cons, lessL]
      have h8 : ¬ ((x : Int) < (j : Int)) := by omega
      have h9 : ¬ ((x : Int) = (j : Int)) := by omega
      simp [h8, h9]

/-! ### the document's way: from below, the first of the greatest -/
/-- the best of those from k on to j, and the first place of it -/
def upP (f : Nat → Int) (k : Nat) : Nat → Int × Nat
  | 0 => (-1, 0)
  | d + 1 => if (upP f k d).1 < f (k + d) then (f (k + d), k + d) else upP f k d
theorem upP_spec {f : Nat → Int} {k : Nat} : ∀ {d : Nat}, -1 ≤ (upP f k d).1 ∧ (∀ i, i < d → f (k + i) ≤ (upP f k d).1) ∧ ((upP f k d).1 = -1 ∧ (upP f k d).2 = 0 ∨ (upP f k d).1 ≠ -1 ∧ ∃ i, i < d ∧ (upP f k d).2 = k + i ∧ f (k + i) = (upP f k d).1 ∧ ∀ j, j < i → f (k + j) < (upP f k d).1)
  | 0 => by simp [upP]
  | d + 1 => by
    obtain ⟨h1, h2, h3⟩ := upP_spec (f := f) (k := k) (d := d)
    rw [upP]
    by_cases h : (upP f k d).1 < f (k + d)
    · rw [if_pos h]
      refine ⟨by dsimp only; omega, fun i hi => ?_, .inr ⟨by dsimp only; omega, d, by omega, rfl, rfl, fun j hj => ?_⟩⟩
      · by_cases e : i = d
        · subst e; exact Int.le_refl _
        · have := h2 i (by omega); dsimp only; omega
      · have := h2 j hj; dsimp only; omega
    · rw [if_neg h]
      refine ⟨h1, fun i hi => ?_, ?_⟩
      · by_cases e : i = d
        · subst e; omega
        · exact h2 i (by omega)
      · rcases h3 with h3 | ⟨h3, i, h4, h5⟩
        · exact .inl h3
        · exact .inr ⟨h3, i, by omega, h5⟩
theorem upP_mx {f : Nat → Int} {n k : Nat} (hk : 1 ≤ k) (hn : k ≤ n + 1) : (upP f k (n + 1 - k)).1 = mxP f n (n + 1 - k) ∧ (mxP f n (n + 1 - k) ≠ -1 → (upP f k (n + 1 - k)).2 = argP f n k) := by
  obtain ⟨h1, h2, h3⟩ := upP_spec (f := f) (k := k) (d := n + 1 - k)
  have e1 : (upP f k (n + 1 - k)).1 = mxP f n (n + 1 - k) := by
    have a := mxP_ge f n (n + 1 - k)
    rcases Int.lt_trichotomy (upP f k (n + 1 - k)).1 (mxP f n (n + 1 - k)) with hlt | he | hgt
    · obtain ⟨i, h4, h5⟩ := mxP_at (show mxP f n (n + 1 - k) ≠ -1 by omega)
      have := h2 (n - i - k) (by omega)
      rw [show k + (n - i - k) = n - i by omega] at this
      omega
    · exact he
    · rcases h3 with h3 | ⟨h3, i, h4, h5, h6, h7⟩
      · omega
      · have := mxP_le' (f := f) (n := n) hk (show k ≤ k + i by omega) (by omega)
        omega
  refine ⟨e1, fun hne => ?_⟩
  obtain ⟨g1, g2, g3, g4⟩ := argP_spec hk hne
  rcases h3 with h3 | ⟨h3, i, h4, h5, h6, h7⟩
  · rw [e1] at h3; exact absurd h3.1 hne
  · rw [h5]
    rcases Nat.lt_trichotomy (k + i) (argP f n k) with h | h | h
    · have := g4 (k + i) (by omega) h; omega
    · exact h
    · have := h7 (argP f n k - k) (by omega)
      rw [show k + (argP f n k - k) = argP f n k by omega] at this
      omega

/-- if some thresholds fit, the greatest do -/
theorem okP_all {n : Nat} : ∀ {ls : List Ly} {k room : Nat} {ks : List Nat}, (∀ l ∈ ls, ∀ a b, 1 ≤ a → a ≤ b → l.wd b ≤ l.wd a) → 1 ≤ k → OkP n ls k room ks → ∀ room', room ≤ room' → ∀ k', k' ≤ n → OkP n ls k' room' (List.replicate ls.length n)
  | [], _, _, _, _, _, _, _, _, _, _ => rfl
  | l :: r, k, room, ks, hw, hk, h, room', hr, k', hk' => by
    obtain ⟨x, xs, rfl, h1, h2, h3, h4⟩ := h
    have h5 := hw l (by simp) x n (by omega) h2
    exact ⟨n, _, rfl, hk', Nat.le_refl _, by omega, okP_all (fun l hl => hw l (by simp [hl])) (by omega) h4 _ (by omega) n (Nat.le_refl _)⟩
theorem okP_mono {n : Nat} : ∀ {ls : List Ly} {k room k' room' : Nat} {ks : List Nat}, OkP n ls k room ks → k' ≤ k → room ≤ room' → OkP n ls k' room' ks
  | [], _, _, _, _, _, h, _, _ => h
  | l :: r, k, room, k', room', ks, h, hk, hr => by
    obtain ⟨x, xs, rfl, h1, h2, h3, h4⟩ := h
    exact ⟨x, xs, rfl, by omega, h2, by omega, okP_mono h4 (Nat.le_refl _) (by omega)⟩
end Go.Proofs.Ytpojijnjdlnokaa

/- Layers 9, 11: widths, room, what fits: plain laws. No program in sight. -/
namespace Go.Proofs.Ytpojijnjdlnokaa

def betw (n a b : Int) : Bool := decide (a ≤ n ∧ n ≤ b)
def rightB (n m b : Int) : Bool := decide (1 ≤ n ∧ n ≤ 255 ∧ 64 ≤ m ∧ m ≤ 1500 ∧ 1 ≤ b ∧ b ≤ 524288)
def roomOk (n m b l : Int) : Bool := rightB n m b && betw l 1 8
def roomW (n m b l : Int) : Int := max (min m (b / n) - 18 - 3 * l) (-1)
def roomV (n m b l : Int) : Int := if roomOk n m b l then roomW n m b l else 0
def errE (ok : Bool) : Int := if ok then 0 else 2
def widthOk (long k : Int) : Bool := decide (0 ≤ long ∧ long ≤ 65535 ∧ 1 ≤ k ∧ k ≤ 255)
def widthW (long k : Int) : Int := (long + k - 1) / k
def widthV (long k : Int) : Int := if widthOk long k then widthW long k else 0
def lensB (ls : List Int) : Bool := betw ls.length 1 8 && !(ls.any fun z => !betw z 0 65535)
def sortedB (ks : List Int) : Bool := decide (∀ i, i < ks.length → i + 1 < ks.length → ks.getD i 0 ≤ ks.getD (i + 1) 0)
def fitGo (n : Int) : Int → List (Int × Int) → Bool
  | _, [] => true
  | room, p :: r => decide (p.2 ≤ n) && widthOk p.1 p.2 && decide (0 ≤ room - widthW p.1 p.2) && fitGo n (room - widthW p.1 p.2) r
def fitsB (n m b : Int) (lens ks : List Int) : Bool := roomOk n m b lens.length && lensB lens && decide (ks.length = lens.length) && sortedB ks && fitGo n (roomW n m b lens.length) (lens.zip ks)

theorem width_bd {long k : Int} (h : widthOk long k = true) : 0 ≤ widthW long k ∧ widthW long k ≤ 65535 := by
  simp only [widthOk, decide_eq_true_eq] at h
  unfold widthW
  constructor
  · exact Int.ediv_nonneg (by omega) (by omega)
  · have h1 : (long + k - 1) / k ≤ long := by
      by_cases h0 : long = 0
      · subst h0
        rw [Int.ediv_eq_zero_of_lt (by omega) (by omega)]; omega
      · have : long + k - 1 ≤ long * k := by
          have h2 : (long - 1) * (k - 1) ≥ 0 := Int.mul_nonneg (by omega) (by omega)
          have h3 : (long - 1) * (k - 1) = long * k - long - k + 1 := by
            rw [Int.sub_mul, Int.mul_sub]; omega
          omega
        exact Int.ediv_le_of_le_mul (by omega) this
    omega
/-- more bytes, no less wide; more rows, no wider -/
theorem width_mono {a b k : Int} (h : a ≤ b) (hk : 1 ≤ k) : widthW a k ≤ widthW b k := Int.ediv_le_ediv (by omega) (by omega)
theorem width_anti {a k j : Int} (h0 : 0 ≤ a) (hk : 1 ≤ k) (hj : k ≤ j) : widthW a j ≤ widthW a k := by
  unfold widthW
  have h1 : a ≤ (a + k - 1) / k * k := by
    have := Int.emod_add_mul_ediv (a + k - 1) k
    have h2 := Int.emod_lt_of_pos (a + k - 1) (show 0 < k by omega)
    rw [Int.mul_comm] at this
    omega
  have h3 : 0 ≤ (a + k - 1) / k := Int.ediv_nonneg (by omega) (by omega)
  have h4 : (a + k - 1) / k * k ≤ (a + k - 1) / k * j := Int.mul_le_mul_of_nonneg_left hj h3
  have h5 : a + j - 1 < ((a + k - 1) / k + 1) * j := by rw [Int.add_mul]; omega
  have h6 := Int.ediv_lt_of_lt_mul (show 0 < j by omega) h5
  omega

theorem room_bd {n m b l : Int} (h : roomOk n m b l = true) : -1 ≤ roomW n m b l ∧ roomW n m b l ≤ 1500 := by
  simp only [roomOk, rightB, betw, Bool.and_eq_true, decide_eq_true_eq] at h
  unfold roomW; omega
theorem room_mono {n m b l m' b' : Int} (h : 1 ≤ n) (hm : m ≤ m') (hb : b ≤ b') : roomW n m b l ≤ roomW n m' b' l := by
  have := Int.ediv_le_ediv (show 0 < n by omega) hb
  unfold roomW; omega

def sumW : List (Int × Int) → Int
  | [] => 0
  | p :: r => widthW p.1 p.2 + sumW r
theorem fitGo_iff {n : Int} : ∀ (zs : List (Int × Int)) (room : Int), fitGo n room zs = true ↔ (∀ p ∈ zs, p.2 ≤ n ∧ widthOk p.1 p.2 = true) ∧ (zs = [] ∨ sumW zs ≤ room)
  | [], room => by simp [fitGo]
  | p :: r, room => by
    have ih := fitGo_iff (n := n) r (room - widthW p.1 p.2)
    simp only [fitGo, Bool.and_eq_true, decide_eq_true_eq, ih, List.mem_cons, forall_eq_or_imp, sumW, reduceCtorEq, false_or]
    constructor
    · rintro ⟨⟨⟨h1, h2⟩, h3⟩, h4, h5⟩
      refine ⟨⟨⟨h1, h2⟩, h4⟩, ?_⟩
      rcases h5 with rfl | h5
      · simp [sumW]; omega
      · omega
    · rintro ⟨⟨⟨h1, h2⟩, h4⟩, h5⟩
      have hs : 0 ≤ sumW r := by
        clear ih h5
        induction r with
        | nil => simp [sumW]
        | cons q s ih => simp only [sumW]; have := (width_bd (h4 q (by simp)).2).1; have := ih (fun p hp => h4 p (by simp [hp])); omega
      exact ⟨⟨⟨h1, h2⟩, by omega⟩, h4, .inr (by omega)⟩
theorem fitGo_drop_false {n room : Int} {zs : List (Int × Int)} {p : Int × Int} {r : List (Int × Int)} (h : zs = p :: r) (h2 : ¬ (p.2 ≤ n ∧ widthOk p.1 p.2 = true ∧ 0 ≤ room - widthW p.1 p.2)) : fitGo n room zs = false := by
  subst h
  simp only [fitGo]
  cases hb : fitGo n (room - widthW p.1 p.2) r <;> simp
  intro h3 h4
  exact Int.not_le.1 fun h5 => h2 ⟨h3, h4, by omega⟩
end Go.Proofs.Ytpojijnjdlnokaa

/- Lists of integers that a call makes: what it owns, and how that reads. -/
namespace Go.Proofs.Ytpojijnjdlnokaa
open Go.RowKit

theorem info_int : (Try.prog.info? 3).map (fun i => (i.zero, i.size, i.bytes)) = some (some (.int .i64 0), 1, 8) := by kernel_rfl
theorem info_u8 : (Try.prog.info? 5).map (fun i => (i.zero, i.size, i.bytes)) = some (some (.int .u8 0), 1, 1) := by kernel_rfl

def OwnI (w : World) (B : Nat) (v : Value) (zs : List Int) : Prop := w.ownsRow B 3 1 v zs.length (zs.map (Value.int .i64))

theorem OwnI.nil (w : World) (B : Nat) : OwnI w B (.slice none 0 0) [] := World.ownsRow_nil w B _ 1

theorem OwnI.form {w B v zs} (h : OwnI w B v zs) : ∃ A c, v = .slice A zs.length c ∧ zs.length ≤ c ∧ c ≤ maxLen ∧ Rd w .i64 A zs ∧ (∀ b off, A = some ⟨b, off, none⟩ → B ≤ b ∧ off = 0 ∧ b < w.heap.size) := by
  rcases h.2 with ⟨rfl, h0⟩ | ⟨g, cap, cur, rfl, hB, hg, hn, hm, hs, ht⟩
  · rw [h0]
    exact ⟨none, 0, rfl, Nat.le_refl _, by simp [maxLen], fun hl => absurd hl (by omega), fun b off hh => by cases hh⟩
  · refine ⟨_, cap, rfl, hn, hm, fun _ => ⟨g, 0, rfl, fun i hi => ?_⟩, ?_⟩
    · have hc := World.ownsRow.cells (g := g) h rfl i (.int .i64 (zs.getD i 0)) (by simp [hi])
      have e : (⟨g, 0, none⟩ : Addr).add i = ⟨g, 0 + i, none⟩ := by unfold Addr.add; split <;> simp_all
      rw [← e]; exact hc
    · intro b off hh
      cases hh
      exact ⟨hB, rfl, (Array.getElem?_eq_some_iff.1 hg).1⟩

theorem OwnI.keep {w w' B v zs} (h : OwnI w B v zs) {B' : Nat} (hb : Below B' w w') (hB : ∀ g, v.ownBlock = some g → g < B') : OwnI w' B v zs := by
  refine ⟨h.1, ?_⟩
  rcases h.2 with hn | ⟨g, cap, cur, rfl, hB0, hg, rest⟩
  · exact .inl hn
  · refine .inr ⟨g, cap, cur, rfl, hB0, ?_, rest⟩
    rw [hb.block g (hB g rfl)]; exact hg

theorem OwnI.keepAll {w w' B v zs} (h : OwnI w B v zs) (hb : Below w.heap.size w w') : OwnI w' B v zs :=
  h.keep hb fun g hg => (World.ownsRow.lt h g hg).2

theorem OwnI.mono {w B B' v zs} (h : OwnI w B v zs) (hB : B' ≤ B) : OwnI w B' v zs := by
  refine ⟨h.1, ?_⟩
  rcases h.2 with hn | ⟨g, cap, cur, rfl, hB0, hg, rest⟩
  · exact .inl hn
  · exact .inr ⟨g, cap, cur, rfl, by omega, hg, rest⟩

/-- a list of the call's own that is not empty: its row -/
theorem OwnI.row {w B v zs} (h : OwnI w B v zs) {n : Nat} (hn : n = zs.length) (h0 : 0 < n) :
    ∃ g c1, v = .slice (some ⟨g, 0, none⟩) n c1 ∧ B ≤ g ∧ g < w.heap.size ∧ n ≤ c1 ∧ w.ownsRow B 3 1 (.slice (some ⟨g, 0, none⟩) n c1) n (zs.map (Value.int .i64)) := by
  subst hn
  rcases h.2 with ⟨rfl, h1⟩ | ⟨g, cap, cur, rfl, hB, hg, hn, hm, hs, ht⟩
  · omega
  · exact ⟨g, cap, rfl, hB, (Array.getElem?_eq_some_iff.1 hg).1, hn, h⟩

/-- an own row while another block is written -/
theorem ownsRow_setCell_other {w : World} {B : Nat} {e : TypeId} {g n c : Nat} {xs : List Value} (h : w.ownsRow B e 1 (.slice (some ⟨g, 0, none⟩) n c) n xs) {a : Addr} (ha : a.block ≠ g) (u : Value) :
    (w.setCell a u).ownsRow B e 1 (.slice (some ⟨g, 0, none⟩) n c) n xs := by
  refine ⟨h.1, ?_⟩
  rcases h.2 with ⟨h1, _⟩ | ⟨g', cap, cur, h1, hB, hg, r⟩
  · simp at h1
  · simp only [Value.slice.injEq, Option.some.injEq, Addr.mk.injEq, and_true, true_and] at h1
    obtain ⟨rfl, rfl⟩ := h1
    exact .inr ⟨g, c, cur, rfl, hB, by rw [Below.heap_setCell _ _ _ _ (fun e => ha e.symm)]; exact hg, r⟩

/-- an own row abides the turn of a block that is no cells -/
theorem own_turned {W W' : World} {B : Nat} {e : TypeId} {v : Value} {n : Nat} {xs : List Value} {row : Option Nat} (h : W.ownsRow B e 1 v n xs) (hg : W.grownBy W' row)
    (hr : ∀ r, row = some r → ∃ o : Obj, W.heap[r]? = some o ∧ o.isCells = false) : W'.ownsRow B e 1 v n xs := by
  refine h.kept hg ?_
  cases hv : v.ownBlock with
  | none => exact .inl rfl
  | some g =>
    refine .inr fun he => ?_
    obtain ⟨o, ho, hc⟩ := hr g he.symm
    rcases h.2 with ⟨rfl, _⟩ | ⟨g', cap, cur, rfl, _, hgg, _⟩
    · simp [Value.ownBlock] at hv
    · simp [Value.ownBlock] at hv
      subst hv
      rw [hgg] at ho; cases ho; simp [Obj.isCells] at hc
end Go.Proofs.Ytpojijnjdlnokaa
