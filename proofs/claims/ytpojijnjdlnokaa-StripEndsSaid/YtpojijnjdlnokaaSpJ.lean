/- Layer 9: strip.Join; rows held against each other; awake. -/
import Derived.Test.YtpojijnjdlnokaaSpC
import Derived.Test.YtpojijnjdlnokaaKitS
import Derived.Test.YtpojijnjdlnokaaCrcL
namespace Go.Proofs.Ytpojijnjdlnokaa
open Go.RowKit
set_option linter.unusedVariables false

section
variable {P : Program} {n : Cx} {fr : Fr} {w : World} {ty : TypeId} {x y z : Operand} {m m' : Int} {T e : TypeId} {k k' : IntKind}
theorem os_slice_hm {A : Option Addr} {l c j h : Nat} {e : TypeId} {s : Nat} (hT : P.underlying T = some (.slice e)) (hs : ∀ w, (sizeOf e).run P w = .ok s w) (hx : Fr.ev fr x = some (.slice A l c)) (hy : Fr.ev fr y = some (.int k m)) (hm : m = (j : Int)) (hz : Fr.ev fr z = some (.int k' m')) (hm' : m' = (h : Int)) (hj : j ≤ h) (hc : h ≤ c) :
    OS P n (.slice T x none (some y) (some z)) ty fr w (.slice A j h) w := os_of fun a ha => by
  subst hm; subst hm'
  have h1 : (A.map fun b => b.add 0) = A := by cases A <;> simp [Addr.add]
  simp [execOp, ha.ev hx, ha.ev hy, ha.ev hz, Instr.sliceAt, Instr.slice, run_underlying hT, Instr.sliceBounds, Instr.sliceBound, asIntOf, hs, hj, hc, h1]
end

theorem join_odd (A : Option Addr) (n c p wd : Nat) (w : World) (hB : Bk w p [.int .i64 wd] 3) : Gives Try.prog 53 #[.slice A n c, .pointer (some ⟨p, 0, none⟩)] w fun v w' => v = .bool (decide ((n : Int) ≠ wd)) ∧ w' = w := by
  refine gives_enter Try.call53 Try.func53 rfl rfl rfl (by kernel_rfl) ?_
  refine v_seq ?_
  refine v_region ?_
  refine vl_val (os_assign rfl) ?_
  refine vl_nil ?_
  refine v_seq ?_
  refine v_region ?_
  refine vl_val (os_move rfl) ?_
  refine vl_val (os_len Try.underlying22 rfl) ?_
  refine vl_val (os_load Try.isAgg3 rfl (hB.cell (i := 0) rfl)) ?_
  refine vl_val (os_neq rfl rfl) ?_
  refine vl_val (os_assign rfl) ?_
  refine vl_nil ?_
  refine v_ret ?_
  exact post_ret rfl rfl (⟨rfl, rfl⟩)
theorem join_IndexFunc (A : Option Addr) (n c p wd : Nat) (ls : List (List Int)) (w : World) (hB : Bk w p [.int .i64 wd] 3) (ha : RdS w .u8 A ls) (hn : n = ls.length) (hn' : n ≤ 140737488351232) :
    Gives Try.prog 95 #[.slice A n c, .func (.func 53) #[] #[.pointer (some ⟨p, 0, none⟩)]] w fun v w' => (∃ i : Int, v = .int .i64 i ∧ ((i = -1 ∧ ∀ l ∈ ls, l.length = wd) ∨ (0 ≤ i ∧ ∃ l ∈ ls, l.length ≠ wd))) ∧ w' = w := by
  refine gives_enter Try.call95 Try.func95 rfl rfl rfl (by kernel_rfl) ?_
  refine v_seq ?_
  refine v_region ?_
  refine vl_val (os_assign rfl) ?_
  refine vl_nil ?_
  refine v_seq ?_
  refine v_seq ?_
  refine v_region ?_
  refine vl_val (os_move rfl) ?_
  refine vl_val (os_len Try.underlying23 rfl) ?_
  refine vl_val (os_move rfl) ?_
  refine vl_nil ?_
  refine v_block ?_
  refine v_loop [(0, _), (1, _), (7, _)] (fun (k : Nat) => [(8, .int .i64 k)]) (fun k w' => k ≤ n ∧ (∀ i, i < k → (ls.getD i []).length = wd) ∧ w' = w) (fun k => n - k) (0) ⟨rfl, rfl, rfl, trivial⟩ ⟨rfl, trivial⟩ (⟨by omega, (by intro i hi; omega), rfl⟩) ?_
  rintro k w ⟨hk, hp, rfl⟩
  refine v_seq ?_
  refine v_region ?_
  refine vl_val (os_lss rfl rfl) ?_
  refine vl_nil ?_
  refine v_seq ?_
  refine v_cond_d rfl (fun h => ?_) (fun h => ?_)
  · obtain ⟨b, o, Ai, ci, rfl, h1, h2, h3, h4⟩ := ha.at_ (i := k) (by omega)
    refine v_skip ?_
    refine v_seq ?_
    refine v_block ?_
    refine v_seq ?_
    refine v_region ?_
    refine vl_val (os_move rfl) ?_
    refine vl_val (os_assign rfl) ?_
    refine vl_nil ?_
    refine v_seq ?_
    refine v_region ?_
    refine vl_val (os_move rfl) ?_
    refine vl_val (os_move rfl) ?_
    refine vl_val (os_move rfl) ?_
    refine vl_val (os_ix Try.underlying23 Try.sizeOf22 rfl rfl (i := k) (by omega) (by omega)) ?_
    refine vl_val (os_load Try.isAgg22 rfl (h1)) ?_
    refine vl_callv rfl (join_odd Ai _ ci p wd w hB) rfl ?_
    rintro v w ⟨rfl, rfl⟩
    refine vl_nil ?_
    refine v_cond_d rfl (fun hne => ?_) (fun hne => ?_)
    · refine v_seq ?_
      refine v_region ?_
      refine vl_val (os_move rfl) ?_
      refine vl_val (os_assign rfl) ?_
      refine vl_nil ?_
      refine v_ret ?_
      exact post_ret rfl rfl (⟨⟨k, rfl, .inr ⟨by omega, ls.getD k [], by simp [show k < ls.length by omega], by omega⟩⟩, rfl⟩)
    · refine v_skip ?_
      refine v_region ?_
      refine vl_val (os_addi rfl rfl (by omega)) ?_
      refine vl_val (os_move rfl) ?_
      refine vl_nil ?_
      exact ⟨k + 1, ⟨rfl, rfl, rfl, trivial⟩, ⟨rfl, trivial⟩, ⟨by omega, (by intro i hi; by_cases hik : i < k; exact hp i hik; obtain rfl : i = k := (by omega); omega), rfl⟩, by dsimp only; omega⟩
  · obtain rfl : n = k := by omega
    refine v_exit ?_
    refine v_seq ?_
    refine v_region ?_
    refine vl_val (os_assign rfl) ?_
    refine vl_nil ?_
    refine v_ret ?_
    exact post_ret rfl rfl (⟨⟨-1, rfl, .inl ⟨rfl, fun l hl => by obtain ⟨i, hi, rfl⟩ := List.getElem_of_mem hl; have := hp i (by omega); simpa [hi] using this⟩⟩, rfl⟩)
theorem join_Contains (A : Option Addr) (n c p wd : Nat) (ls : List (List Int)) (w : World) (hB : Bk w p [.int .i64 wd] 3) (ha : RdS w .u8 A ls) (hn : n = ls.length) (hn' : n ≤ 140737488351232) :
    Gives Try.prog 54 #[.slice A n c, .func (.func 53) #[] #[.pointer (some ⟨p, 0, none⟩)]] w fun v w' => v = .bool (ls.any fun l => decide (l.length ≠ wd)) ∧ w' = w := by
  refine gives_enter Try.call54 Try.func54 rfl rfl rfl (by kernel_rfl) ?_
  refine v_seq ?_
  refine v_region ?_
  refine vl_val (os_assign rfl) ?_
  refine vl_nil ?_
  refine v_seq ?_
  refine v_region ?_
  refine vl_val (os_move rfl) ?_
  refine vl_val (os_move rfl) ?_
  refine vl_call (join_IndexFunc A n c p wd ls w hB ha hn hn') rfl ?_
  rintro v w ⟨⟨i, rfl, hi⟩, rfl⟩
  refine vl_val (os_geq rfl rfl) ?_
  refine vl_val (os_assign rfl) ?_
  refine vl_nil ?_
  refine v_ret ?_
  exact post_ret rfl rfl (⟨by rcases hi with ⟨rfl, h⟩ | ⟨h0, l, hl, hne⟩; (rw [decide_eq_false (by omega)]; congr 1; symm; rw [List.any_eq_false]; intro l hl; simp [h l hl]); (rw [decide_eq_true (by omega)]; congr 1; symm; rw [List.any_eq_true]; exact ⟨l, hl, by simpa using hne⟩), rfl⟩)

theorem flat_len {ls : List (List Int)} {wd : Nat} (h : ∀ l ∈ ls, l.length = wd) : ls.flatten.length = wd * ls.length := by
  induction ls with
  | nil => simp
  | cons l r ih => rw [List.flatten_cons, List.length_append, ih (fun l hl => h l (by simp [hl])), h l (by simp), List.length_cons, Nat.mul_add]; omega
/-- what is joined -/
inductive JoinR (w : World) (B : Nat) (ls : List (List Int)) (long : Int) : Value → Prop
  | arg (h : widthOk long ls.length = false) : JoinR w B ls long (.tuple #[.slice none 0 0, .int .i64 2])
  | shape (h : widthOk long ls.length = true) (l : List Int) (hl : l ∈ ls) (hne : (l.length : Int) ≠ widthW long ls.length) : JoinR w B ls long (.tuple #[.slice none 0 0, .int .i64 4])
  | ok (h : widthOk long ls.length = true) (he : ∀ l ∈ ls, (l.length : Int) = widthW long ls.length) (L c : Nat) (A : Option Addr) (hL : long = L) (hle : L ≤ ls.flatten.length) (ho : OwnK w B 5 .u8 (.slice A ls.flatten.length c) ls.flatten) : JoinR w B ls long (.tuple #[.slice A L L, .int .i64 0])
theorem JoinR.keep {w w' B ls long v} (h : JoinR w B ls long v) (hb : Below w.heap.size w w') : JoinR w' B ls long v := by
  cases h with
  | arg h => exact .arg h
  | shape h l hl hne => exact .shape h l hl hne
  | ok h he L c A hL hle ho => exact .ok h he L c A hL hle (Own.keepAll ho hb)

set_option maxHeartbeats 1000000 in
theorem strip_Join (A : Option Addr) (n c : Nat) (ls : List (List Int)) (long : Int) (w : World) (ha : RdS w .u8 A ls) (hn : n = ls.length) (hn' : n ≤ 140737488351232) (hl : -9223372036854775808 ≤ long ∧ long ≤ 9223372036854775807) :
    Gives Try.prog 16 #[.slice A n c, .int .i64 long] w fun v w' => Below w.heap.size w w' ∧ JoinR w' w.heap.size ls long v := by
  cases hok : widthOk long n
  · skip
    refine gives_enter Try.call16 Try.func16 rfl rfl rfl (by kernel_rfl) ?_
    have hB0 := bk_new w [.int .i64 0] 3
    have hb0 : Below w.heap.size w (w.alloc (.cells [Value.int .i64 0].toArray 3)) := (Below.refl _ w).alloc (Nat.le_refl _) _
    refine v_seq ?_
    refine v_region ?_
    refine vl_val (os_assign rfl) ?_
    refine vl_val (os_assign rfl) ?_
    refine vl_nil ?_
    refine v_seq ?_
    refine v_region ?_
    refine vl_val (os_move rfl) ?_
    refine vl_val (os_move rfl) ?_
    refine vl_val (os_len Try.underlying23 rfl) ?_
    refine vl_call (sp_Width long n w hl (by omega)) rfl ?_
    rintro v w ⟨rfl, rfl⟩
    rw [hok]
    refine vl_val (os_move rfl) ?_
    refine vl_val (os_extract rfl rfl) ?_
    refine vl_val (os_extract rfl rfl) ?_
    refine vl_val (os_alloc1 Try.zeroValue3 rfl) ?_
    refine vl_unit (ou_store Try.sizeOf3 rfl rfl rfl (hB0.cell (i := 0) rfl) (hB0.free _)) ?_
    refine vl_val (os_assign rfl) ?_
    refine vl_nil ?_
    refine v_seq ?_
    refine v_seq ?_
    refine v_region ?_
    refine vl_val (os_move rfl) ?_
    refine vl_val (os_neq rfl rfl) ?_
    refine vl_nil ?_
    refine v_cond_yes rfl (by decide) ?_
    refine v_seq ?_
    refine v_region ?_
    refine vl_val (os_move rfl) ?_
    refine vl_val (os_assign rfl) ?_
    refine vl_val (os_assign rfl) ?_
    refine vl_nil ?_
    refine v_ret ?_
    exact post_ret2 rfl rfl rfl (⟨below_set hb0 (Nat.le_refl _) _ _, .arg (by rw [← hn]; exact hok)⟩)
  · obtain ⟨hk3, hk4, hk5, hk6⟩ : 0 ≤ long ∧ long ≤ 65535 ∧ 1 ≤ (n : Int) ∧ (n : Int) ≤ 255 := by simpa [widthOk] using hok
    have hwb := width_bd hok
    obtain ⟨L, rfl⟩ : ∃ L : Nat, long = L := ⟨long.toNat, by omega⟩
    obtain ⟨wd, hwd⟩ : ∃ wd : Nat, widthV L n = wd := ⟨(widthV L n).toNat, by unfold widthV; rw [if_pos hok]; omega⟩
    have hwd' : (wd : Int) = widthW L n := by rw [← hwd]; unfold widthV; rw [if_pos hok]
    have hroom := width_room (show 0 < n by omega) hwd'
    refine gives_enter Try.call16 Try.func16 rfl rfl rfl (by kernel_rfl) ?_
    have hB0 := bk_new w [.int .i64 0] 3
    have hb0 : Below w.heap.size w (w.alloc (.cells [Value.int .i64 0].toArray 3)) := (Below.refl _ w).alloc (Nat.le_refl _) _
    refine v_seq ?_
    refine v_region ?_
    refine vl_val (os_assign rfl) ?_
    refine vl_val (os_assign rfl) ?_
    refine vl_nil ?_
    refine v_seq ?_
    refine v_region ?_
    refine vl_val (os_move rfl) ?_
    refine vl_val (os_move rfl) ?_
    refine vl_val (os_len Try.underlying23 rfl) ?_
    refine vl_call (sp_Width L n w hl (by omega)) rfl ?_
    rintro v w ⟨rfl, rfl⟩
    rw [hok, hwd]
    refine vl_val (os_move rfl) ?_
    refine vl_val (os_extract rfl rfl) ?_
    refine vl_val (os_extract rfl rfl) ?_
    refine vl_val (os_alloc1 Try.zeroValue3 rfl) ?_
    refine vl_unit (ou_store Try.sizeOf3 rfl rfl rfl (hB0.cell (i := 0) rfl) (hB0.free _)) ?_
    have hB1 := hB0.set 0 (.int .i64 wd)
    have hb1 := below_set hb0 (Nat.le_refl _) (0 + 0) (.int .i64 wd)
    obtain ⟨w1, hw1⟩ : ∃ w1, w1 = (w.alloc (.cells [Value.int .i64 0].toArray 3)).setCell ⟨w.heap.size, 0, none⟩ (.int .i64 wd) := ⟨_, rfl⟩
    change Bk ((w.alloc (.cells [Value.int .i64 0].toArray 3)).setCell ⟨w.heap.size, 0, none⟩ (.int .i64 wd)) w.heap.size [.int .i64 wd] 3 at hB1
    change Below w.heap.size w ((w.alloc (.cells [Value.int .i64 0].toArray 3)).setCell ⟨w.heap.size, 0, none⟩ (.int .i64 wd)) at hb1
    rw [← hw1] at hB1 hb1 ⊢
    refine vl_val (os_assign rfl) ?_
    refine vl_nil ?_
    refine v_seq ?_
    refine v_seq ?_
    refine v_region ?_
    refine vl_val (os_move rfl) ?_
    refine vl_val (os_neq rfl rfl) ?_
    refine vl_nil ?_
    refine v_cond_no rfl (by decide) ?_
    refine v_skip ?_
    refine v_seq ?_
    refine v_region ?_
    refine vl_val (os_makeFunc rfl) ?_
    refine vl_val (os_assign rfl) ?_
    refine vl_nil ?_
    refine v_seq ?_
    refine v_seq ?_
    refine v_region ?_
    refine vl_val (os_move rfl) ?_
    refine vl_val (os_move rfl) ?_
    refine vl_call (join_Contains A n c w.heap.size wd ls w1 hB1 (ha.keep hb1) hn hn') rfl ?_
    rintro v w1 ⟨rfl, rfl⟩
    refine vl_nil ?_
    rcases (by cases hh : ls.any fun l => decide (l.length ≠ wd) <;> simp : (ls.any fun l => decide (l.length ≠ wd)) = true ∨ (ls.any fun l => decide (l.length ≠ wd)) = false) with hany | hany
    · rw [hany]
      refine v_cond_t rfl ?_
      obtain ⟨l, hl1, hl2⟩ := List.any_eq_true.1 hany
      refine v_seq ?_
      refine v_region ?_
      refine vl_val (os_assign rfl) ?_
      refine vl_val (os_assign rfl) ?_
      refine vl_nil ?_
      refine v_ret ?_
      exact post_ret2 rfl rfl rfl (⟨hb1, .shape (by rw [← hn]; exact hok) l hl1 (by rw [← hn, ← hwd']; simp at hl2; omega)⟩)
    · rw [hany]
      refine v_cond_f rfl ?_
      have hall : ∀ l ∈ ls, l.length = wd := fun l hl => by have := List.any_eq_false.1 hany l hl; simpa using this
      have hfl := flat_len hall
      rw [← hn] at hfl
      refine v_skip ?_
      refine v_seq ?_
      refine v_region ?_
      refine vl_val (os_move rfl) ?_
      refine vl_call (sl_Concat A n c ls w1 (ha.keep hb1) hn (by omega) (by omega)) rfl ?_
      rintro v2 w2 ⟨o2, b2⟩
      obtain ⟨A2, c2, rfl, hc2, _, _, _⟩ := OwnK.form o2
      refine vl_val (os_move rfl) ?_
      refine vl_val (os_move rfl) ?_
      refine vl_val (os_slice_hm (j := L) (h := L) Try.underlying22 Try.sizeOf5 rfl rfl rfl rfl rfl (Nat.le_refl _) (by omega)) ?_
      refine vl_val (os_assign rfl) ?_
      refine vl_val (os_assign rfl) ?_
      refine vl_nil ?_
      refine v_ret ?_
      exact post_ret2 rfl rfl rfl (⟨hb1.trans (b2.mono hb1.size), .ok (by rw [← hn]; exact hok) (fun l hl => by rw [hall l hl, ← hn]; exact hwd') L c2 A2 rfl (by omega) (Own.mono o2 hb1.size)⟩)

theorem rows_take {xs ys : List (List Int)} {k n : Nat} (hn : n = xs.length) (hk : k < n) (hl : n = ys.length) (ht : xs.take k = ys.take k) (he : xs.getD k [] = ys.getD k []) : xs.take (k + 1) = ys.take (k + 1) := by
  rw [List.take_add_one, List.take_add_one, ht, List.getElem?_eq_getElem (by omega), List.getElem?_eq_getElem (by omega)]
  have h1 : xs.getD k [] = xs[k]'(by omega) := by simp [show k < xs.length by omega]
  have h2 : ys.getD k [] = ys[k]'(by omega) := by simp [show k < ys.length by omega]
  rw [h1, h2] at he
  rw [he]
theorem kit_SameRows (A B : Option Addr) (n m c d : Nat) (xs ys : List (List Int)) (w : World) (ha : RdS w .u8 A xs) (hb : RdS w .u8 B ys) (hn : n = xs.length) (hm : m = ys.length) (hn' : n ≤ 140737488351232) (hm' : m ≤ 140737488351232) :
    Gives Try.prog 22 #[.slice A n c, .slice B m d] w fun v w' => v = .bool (decide (xs = ys)) ∧ LeD w w' := by
  refine gives_enter Try.call22 Try.func22 rfl rfl rfl (by kernel_rfl) ?_
  refine v_seq ?_
  refine v_region ?_
  refine vl_val (os_assign rfl) ?_
  refine vl_nil ?_
  refine v_seq ?_
  refine v_seq ?_
  refine v_region ?_
  refine vl_val (os_move rfl) ?_
  refine vl_val (os_len Try.underlying23 rfl) ?_
  refine vl_val (os_move rfl) ?_
  refine vl_val (os_len Try.underlying23 rfl) ?_
  refine vl_val (os_neq rfl rfl) ?_
  refine vl_nil ?_
  refine v_cond_d rfl (fun h => ?_) (fun h => ?_)
  · refine v_seq ?_
    refine v_region ?_
    refine vl_val (os_assign rfl) ?_
    refine vl_nil ?_
    refine v_ret ?_
    exact post_ret rfl rfl (⟨by rw [decide_eq_false]; intro he; subst he; omega, lee_d.refl _⟩)
  · refine v_skip ?_
    refine v_seq ?_
    refine v_seq ?_
    refine v_region ?_
    refine vl_val (os_assign rfl) ?_
    refine vl_nil ?_
    refine v_block ?_
    refine v_loop [(0, _), (1, _)] (fun (k : Nat) => [(5, .int .i64 k)]) (fun k w' => k ≤ n ∧ xs.take k = ys.take k ∧ LeD w w') (fun k => n - k) (0) ⟨rfl, rfl, trivial⟩ ⟨rfl, trivial⟩ (⟨by omega, rfl, lee_d.refl _⟩) ?_
    rintro k w' ⟨hk, htk, hq⟩
    refine v_seq ?_
    refine v_seq ?_
    refine v_region ?_
    refine vl_val (os_move rfl) ?_
    refine vl_val (os_move rfl) ?_
    refine vl_val (os_len Try.underlying23 rfl) ?_
    refine vl_val (os_lss rfl rfl) ?_
    refine vl_nil ?_
    refine v_cond_d rfl (fun hlt => ?_) (fun hlt => ?_)
    · obtain ⟨b1, o1, A1, c1, rfl, a1, a2, a3, a4⟩ := (ha.led hq).at_ (i := k) (by omega)
      obtain ⟨b2, o2, A2, c2, rfl, e1, e2, e3, e4⟩ := (hb.led hq).at_ (i := k) (by omega)
      refine v_skip ?_
      refine v_seq ?_
      refine v_block ?_
      refine v_seq ?_
      refine v_region_t LeD _ mixed (by kernel_rfl) lee_d (led_start _) ?_
      refine vt_val (fun w hw => os_move rfl) ?_
      refine vt_val (fun w hw => os_move rfl) ?_
      refine vt_val (fun w hw => os_ix Try.underlying23 Try.sizeOf22 rfl rfl (i := k) (by omega) (by omega)) ?_
      refine vt_val (fun w hw => os_load Try.isAgg22 rfl (led_cell hw (a1))) ?_
      refine vt_val (fun w hw => os_move rfl) ?_
      refine vt_val (fun w hw => os_move rfl) ?_
      refine vt_val (fun w hw => os_ix Try.underlying23 Try.sizeOf22 rfl rfl (i := k) (by omega) (by omega)) ?_
      refine vt_val (fun w hw => os_load Try.isAgg22 rfl (led_cell hw (e1))) ?_
      refine vt_call (v := _) (fun w hw => kit_SameBytes A1 A2 _ _ c1 c2 (xs.getD k []) (ys.getD k []) w (a2.led hw) (e2.led hw) rfl rfl (by omega) (by omega)) rfl ?_
      refine vt_val (fun w hw => os_not rfl) ?_
      refine vt_nil (fun w hw => ?_)
      obtain ⟨q2, rfl⟩ := hw
      refine v_cond rfl (fun hne => ?_) (fun hne => ?_)
      · refine v_seq ?_
        refine v_region ?_
        refine vl_val (os_assign rfl) ?_
        refine vl_nil ?_
        refine v_ret ?_
        exact post_ret rfl rfl (⟨by rw [decide_eq_false]; intro he; subst he; simp at hne, lee_d.trans hq ⟨_, rfl⟩⟩)
      · refine v_skip ?_
        refine v_region ?_
        refine vl_val (os_move rfl) ?_
        refine vl_val (os_addi rfl rfl (by omega)) ?_
        refine vl_val (os_assign rfl) ?_
        refine vl_nil ?_
        exact ⟨k + 1, ⟨rfl, rfl, trivial⟩, ⟨rfl, trivial⟩, ⟨by omega, rows_take hn (by omega) (by omega) htk (by simpa using hne), lee_d.trans hq ⟨_, rfl⟩⟩, by dsimp only; omega⟩
    · obtain rfl : k = n := by omega
      refine v_exit ?_
      refine v_seq ?_
      refine v_region ?_
      refine vl_val (os_assign rfl) ?_
      refine vl_nil ?_
      refine v_ret ?_
      exact post_ret rfl rfl (⟨by rw [decide_eq_true]; rw [List.take_of_length_le (by omega), List.take_of_length_le (by omega)] at htk; exact htk, hq⟩)
end Go.Proofs.Ytpojijnjdlnokaa
