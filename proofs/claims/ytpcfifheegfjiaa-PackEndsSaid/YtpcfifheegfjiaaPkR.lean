/- Layer 8: the document's writer. -/
import Derived.Test.YtpcfifheegfjiaaPkM
namespace Go.Proofs.Ytpcfifheegfjiaa
open Go.RowKit
set_option linter.unusedVariables false

structure WfS (w : World) (B : Nat) (g : Nat) (v : Value) (bs : List Int) (e : Int) : Prop where
  bk : Bk w g [v, .int .i64 e] 114
  own : OwnK w B 5 .u8 v bs
  low : B ≤ g
  ne : v.ownBlock ≠ some g
theorem WfS.keep {w w' : World} {B g : Nat} {v : Value} {bs : List Int} {e : Int} (h : WfS w B g v bs e) (hb : Below w.heap.size w w') : WfS w' B g v bs e := ⟨h.bk.keep hb, Own.keepAll h.own hb, h.low, h.ne⟩
theorem WrS.keep {w w' : World} {B g : Nat} {t : TypeId} {v : Value} {bs : List Int} {e : Int} (h : WrS w B t g v bs e) (hb : Below w.heap.size w w') : WrS w' B t g v bs e := ⟨h.bk.keep hb, Own.keepAll h.own hb, h.low, h.ne⟩
theorem blocks_low2 {B g : Nat} {v : Value} {bs : List Int} {e : Int} {w : World} (h : WfS w B g v bs e) : ∀ k ∈ WrS.blocks g v, B ≤ k := by
  intro k hk
  unfold WrS.blocks at hk
  rcases List.mem_cons.1 hk with rfl | h1
  · exact h.low
  · have h2 : v.ownBlock = some k := by simpa using h1
    exact (World.ownsRow.lt h.own k h2).1
theorem rf_New (w : World) : Gives Try.prog 56 #[] w fun u w' => ∃ g, u = .pointer (some ⟨g, 0, none⟩) ∧ WfS w' w.heap.size g (.slice none 0 0) [] 0 ∧ Below w.heap.size w w' := by
  refine gives_enter Try.call56 Try.func56 rfl rfl rfl (by kernel_rfl) ?_
  refine v_seq ?_
  refine v_region ?_
  refine vl_val (os_assign rfl) ?_
  refine vl_nil ?_
  refine v_seq ?_
  refine v_region ?_
  refine vl_val (os_build (cs := [.slice none 0 0, .int .i64 0]) rfl (by kernel_rfl)) ?_
  refine vl_val (os_box rfl) ?_
  refine vl_val (os_assign rfl) ?_
  refine vl_nil ?_
  refine v_ret ?_
  exact post_ret rfl rfl (⟨_, rfl, ⟨bk_new w [.slice none 0 0, .int .i64 0] _, Own.nil _ _ _, Nat.le_refl _, by simp [Value.ownBlock]⟩, (Below.refl _ _).alloc (Nat.le_refl _) _⟩)
def boundV (size : Int) : Int := if size < 1 ∨ 4 < size then 0 else 256 ^ size.toNat
theorem rf_bound (size : Int) (w : World) : Gives Try.prog 86 #[.int .i64 size] w fun u w' => u = .int .i64 (boundV size) ∧ w' = w := by
  refine gives_enter Try.call86 Try.func86 rfl rfl rfl (by kernel_rfl) ?_
  rcases (by omega : size < 1 ∨ 4 < size ∨ (1 ≤ size ∧ size ≤ 4)) with h | h | ⟨h, h2⟩
  · refine v_seq ?_
    refine v_region ?_
    refine vl_val (os_assign rfl) ?_
    refine vl_nil ?_
    refine v_seq ?_
    refine v_seq ?_
    refine v_region ?_
    refine vl_val (os_move rfl) ?_
    refine vl_val (os_t (os_lss rfl rfl) (by omega)) ?_
    refine vl_val (os_move rfl) ?_
    refine vl_skip rfl rfl ?_
    refine vl_skip rfl rfl ?_
    refine vl_val (os_pick_t rfl rfl) ?_
    refine vl_nil ?_
    refine v_cond_t rfl ?_
    refine v_seq ?_
    refine v_region ?_
    refine vl_val (os_assign rfl) ?_
    refine vl_nil ?_
    refine v_ret ?_
    exact post_ret rfl rfl (⟨by rw [boundV, if_pos (.inl h)], rfl⟩)
  · refine v_seq ?_
    refine v_region ?_
    refine vl_val (os_assign rfl) ?_
    refine vl_nil ?_
    refine v_seq ?_
    refine v_seq ?_
    refine v_region ?_
    refine vl_val (os_move rfl) ?_
    refine vl_val (os_f (os_lss rfl rfl) (by omega)) ?_
    refine vl_val (os_move rfl) ?_
    refine vl_valg rfl (os_move rfl) ?_
    refine vl_valg rfl (os_gtr rfl rfl) ?_
    refine vl_val (os_pick_f rfl rfl) ?_
    refine vl_nil ?_
    refine v_cond_yes rfl (by omega) ?_
    refine v_seq ?_
    refine v_region ?_
    refine vl_val (os_assign rfl) ?_
    refine vl_nil ?_
    refine v_ret ?_
    exact post_ret rfl rfl (⟨by rw [boundV, if_pos (.inr h)], rfl⟩)
  · refine v_seq ?_
    refine v_region ?_
    refine vl_val (os_assign rfl) ?_
    refine vl_nil ?_
    refine v_seq ?_
    refine v_seq ?_
    refine v_region ?_
    refine vl_val (os_move rfl) ?_
    refine vl_val (os_f (os_lss rfl rfl) (by omega)) ?_
    refine vl_val (os_move rfl) ?_
    refine vl_valg rfl (os_move rfl) ?_
    refine vl_valg rfl (os_gtr rfl rfl) ?_
    refine vl_val (os_pick_f rfl rfl) ?_
    refine vl_nil ?_
    refine v_cond_no rfl (by omega) ?_
    obtain ⟨s, rfl⟩ : ∃ s : Nat, size = s := ⟨size.toNat, by omega⟩
    refine v_skip ?_
    refine v_seq ?_
    refine v_region ?_
    refine vl_val (os_assign rfl) ?_
    refine vl_nil ?_
    refine v_seq ?_
    refine v_seq ?_
    refine v_region ?_
    refine vl_val (os_assign rfl) ?_
    refine vl_nil ?_
    refine v_block ?_
    refine v_loop [(0, _)] (fun (i : Nat) => [(3, .int .i64 (256 ^ i)), (4, .int .i64 i)]) (fun i w' => i ≤ s ∧ w' = w) (fun i => s - i) (0) ⟨rfl, trivial⟩ ⟨rfl, rfl, trivial⟩ (⟨by omega, rfl⟩) ?_
    rintro i w' ⟨hi, rfl⟩
    refine v_seq ?_
    refine v_seq ?_
    refine v_region ?_
    refine vl_val (os_move rfl) ?_
    refine vl_val (os_move rfl) ?_
    refine vl_val (os_lss rfl rfl) ?_
    refine vl_nil ?_
    refine v_cond_d rfl (fun hlt => ?_) (fun hlt => ?_)
    · have hp : (0 : Int) < 256 ^ i ∧ (256 : Int) ^ i ≤ 16777216 := by rcases (by omega : i = 0 ∨ i = 1 ∨ i = 2 ∨ i = 3) with rfl | rfl | rfl | rfl <;> decide
      refine v_skip ?_
      refine v_seq ?_
      refine v_block ?_
      refine v_region ?_
      refine vl_val (os_move rfl) ?_
      refine vl_val (os_muli rfl rfl (by omega)) ?_
      refine vl_val (os_assign rfl) ?_
      refine vl_nil ?_
      refine v_region ?_
      refine vl_val (os_move rfl) ?_
      refine vl_val (os_addi rfl rfl (by omega)) ?_
      refine vl_val (os_assign rfl) ?_
      refine vl_nil ?_
      exact ⟨i + 1, ⟨rfl, trivial⟩, ⟨by rw [Int.pow_succ, Int.mul_comm]; rfl, rfl, trivial⟩, ⟨by omega, rfl⟩, by dsimp only; omega⟩
    · obtain rfl : s = i := by omega
      refine v_exit ?_
      refine v_seq ?_
      refine v_region ?_
      refine vl_val (os_move rfl) ?_
      refine vl_val (os_assign rfl) ?_
      refine vl_nil ?_
      refine v_ret ?_
      exact post_ret rfl rfl (⟨by rw [boundV, if_neg (by omega)]; rfl, rfl⟩)
theorem fits_bound (n size : Int) : fitsB n size = decide (¬ n < 0 ∧ n < boundV size) := by
  unfold fitsB boundV
  rw [decide_eq_decide]
  split
  · constructor <;> intro h <;> omega
  · constructor <;> intro h <;> omega
theorem numBytes_cons (n : Int) (s : Nat) : numBytes n (s + 1) = (n / 256 ^ s % 256) :: numBytes n s := by
  unfold numBytes
  rw [List.range_succ_eq_map, List.map_cons, List.map_map]
  congr 1
  apply List.map_congr_left
  intro k _
  simp only [Function.comp]
  rw [show s + 1 - 1 - (k + 1) = s - 1 - k by omega]
set_option maxHeartbeats 2000000 in
theorem rf_Number (g : Nat) (v : Value) (bs : List Int) (e n size : Int) (B : Nat) (w : World) (hw : WfS w B g v bs e) (hB : B ≤ w.heap.size) (hl : (bs.length + 4) ≤ 140737488355328) :
    Gives Try.prog 58 #[.pointer (some ⟨g, 0, none⟩), .int .i64 n, .int .i64 size] w fun u w' => ∃ v', WfS w' B g v' (wrBytes bs e n size) (wrErr e n size) ∧ Kb (WrS.blocks g v) w w' ∧ (v'.ownBlock = v.ownBlock ∨ ∃ h, v'.ownBlock = some h ∧ w.heap.size ≤ h) := by
  have hbk := hw.bk
  have hfb := fits_bound n size
  refine gives_enter Try.call58 Try.func58 rfl rfl rfl (by kernel_rfl) ?_
  rcases (by cases h : fitsB n size <;> by_cases he : e = 0 <;> by_cases hn : n < 0 <;> simp [he, hn] <;> (rw [hfb] at h; simp at h; omega) : e ≠ 0 ∨ (e = 0 ∧ fitsB n size = false ∧ n < 0) ∨ (e = 0 ∧ fitsB n size = false ∧ ¬ n < 0) ∨ (e = 0 ∧ fitsB n size = true)) with he | ⟨rfl, hf, hn⟩ | ⟨rfl, hf, hn⟩ | ⟨rfl, hf⟩
  · refine v_seq ?_
    refine v_seq ?_
    refine v_region ?_
    refine vl_val (os_move rfl) ?_
    refine vl_val (os_nilCheck rfl) ?_
    refine vl_val (os_fa (o := 1) (k := 0) (by kernel_rfl) rfl) ?_
    refine vl_val (os_load Try.isAgg29 rfl (hbk.cell (i := 1) rfl)) ?_
    refine vl_val (os_f (os_eql rfl rfl) (by omega)) ?_
    refine vl_val (os_move rfl) ?_
    refine vl_skip rfl rfl ?_
    refine vl_skip rfl rfl ?_
    refine vl_skip rfl rfl ?_
    refine vl_skipu rfl ?_
    refine vl_skipu rfl ?_
    refine vl_skipu rfl ?_
    refine vl_skipu rfl ?_
    refine vl_skip rfl rfl ?_
    refine vl_val (os_pick_f rfl rfl) ?_
    refine vl_nil ?_
    refine v_cond_f rfl ?_
    refine v_skip ?_
    refine v_seq ?_
    refine v_seq ?_
    refine v_region ?_
    refine vl_val (os_move rfl) ?_
    refine vl_val (os_nilCheck rfl) ?_
    refine vl_val (os_fa (o := 1) (k := 0) (by kernel_rfl) rfl) ?_
    refine vl_val (os_load Try.isAgg29 rfl (hbk.cell (i := 1) rfl)) ?_
    refine vl_val (os_neq rfl rfl) ?_
    refine vl_nil ?_
    refine v_cond_yes rfl (by omega) ?_
    refine v_ret ?_
    exact post_ret0 rfl (⟨v, by rw [wrBytes, if_neg (fun h => he h.1), wrErr, if_neg (fun h => he h.1)]; exact hw, Kb.refl _ _, .inl rfl⟩)
  · refine v_seq ?_
    refine v_seq ?_
    refine v_region ?_
    refine vl_val (os_move rfl) ?_
    refine vl_val (os_nilCheck rfl) ?_
    refine vl_val (os_fa (o := 1) (k := 0) (by kernel_rfl) rfl) ?_
    refine vl_val (os_load Try.isAgg29 rfl (hbk.cell (i := 1) rfl)) ?_
    refine vl_val (os_t (os_eql rfl rfl) (rfl)) ?_
    refine vl_val (os_move rfl) ?_
    refine vl_valg rfl (os_move rfl) ?_
    refine vl_valg rfl (os_t (os_lss rfl rfl) (hn)) ?_
    refine vl_valg rfl (os_move rfl) ?_
    refine vl_skip rfl rfl ?_
    refine vl_skip rfl rfl ?_
    refine vl_skip rfl rfl ?_
    refine vl_skip rfl rfl ?_
    refine vl_valg rfl (os_pick_t rfl rfl) ?_
    refine vl_val (os_pick_t rfl rfl) ?_
    refine vl_nil ?_
    refine v_cond_t rfl ?_
    refine v_region ?_
    refine vl_val (os_move rfl) ?_
    refine vl_val (os_nilCheck rfl) ?_
    refine vl_val (os_fa (o := 1) (k := 0) (by kernel_rfl) rfl) ?_
    refine vl_unit (ou_store Try.sizeOf29 rfl rfl rfl (hbk.cell (i := 1) rfl) (hbk.free _)) ?_
    refine vl_nil ?_
    refine v_seq ?_
    refine v_seq ?_
    refine v_region ?_
    refine vl_val (os_move rfl) ?_
    refine vl_val (os_nilCheck rfl) ?_
    refine vl_val (os_fa (o := 1) (k := 0) (by kernel_rfl) rfl) ?_
    refine vl_val (os_load Try.isAgg29 rfl ((Bk.set hbk 1 _).cell (i := 1) rfl)) ?_
    refine vl_val (os_neq rfl rfl) ?_
    refine vl_nil ?_
    refine v_cond_yes rfl (by omega) ?_
    refine v_ret ?_
    exact post_ret0 rfl (⟨v, by rw [wrBytes, hf, if_neg (fun h => by cases h.2), wrErr, hf, if_pos ⟨rfl, rfl⟩]; exact ⟨Bk.set hbk 1 _, Own.setOther hw.own (fun g' e e2 => hw.ne (by rw [e, e2])) _ _, hw.low, hw.ne⟩, Kb.set List.mem_cons_self _ _, .inl rfl⟩)
  · refine v_seq ?_
    refine v_seq ?_
    refine v_region ?_
    refine vl_val (os_move rfl) ?_
    refine vl_val (os_nilCheck rfl) ?_
    refine vl_val (os_fa (o := 1) (k := 0) (by kernel_rfl) rfl) ?_
    refine vl_val (os_load Try.isAgg29 rfl (hbk.cell (i := 1) rfl)) ?_
    refine vl_val (os_t (os_eql rfl rfl) (rfl)) ?_
    refine vl_val (os_move rfl) ?_
    refine vl_valg rfl (os_move rfl) ?_
    refine vl_valg rfl (os_f (os_lss rfl rfl) (hn)) ?_
    refine vl_valg rfl (os_move rfl) ?_
    refine vl_valg rfl (os_move rfl) ?_
    refine vl_valg rfl (os_move rfl) ?_
    refine vl_callg rfl (rf_bound size w) rfl ?_
    rintro u1 w ⟨rfl, rfl⟩
    refine vl_valg rfl (os_geq rfl rfl) ?_
    refine vl_valg rfl (os_pick_f rfl rfl) ?_
    refine vl_val (os_pick_t rfl rfl) ?_
    refine vl_nil ?_
    refine v_cond_yes rfl (by rw [hfb] at hf; simp at hf; omega) ?_
    refine v_region ?_
    refine vl_val (os_move rfl) ?_
    refine vl_val (os_nilCheck rfl) ?_
    refine vl_val (os_fa (o := 1) (k := 0) (by kernel_rfl) rfl) ?_
    refine vl_unit (ou_store Try.sizeOf29 rfl rfl rfl (hbk.cell (i := 1) rfl) (hbk.free _)) ?_
    refine vl_nil ?_
    refine v_seq ?_
    refine v_seq ?_
    refine v_region ?_
    refine vl_val (os_move rfl) ?_
    refine vl_val (os_nilCheck rfl) ?_
    refine vl_val (os_fa (o := 1) (k := 0) (by kernel_rfl) rfl) ?_
    refine vl_val (os_load Try.isAgg29 rfl ((Bk.set hbk 1 _).cell (i := 1) rfl)) ?_
    refine vl_val (os_neq rfl rfl) ?_
    refine vl_nil ?_
    refine v_cond_yes rfl (by omega) ?_
    refine v_ret ?_
    exact post_ret0 rfl (⟨v, by rw [wrBytes, hf, if_neg (fun h => by cases h.2), wrErr, hf, if_pos ⟨rfl, rfl⟩]; exact ⟨Bk.set hbk 1 _, Own.setOther hw.own (fun g' e e2 => hw.ne (by rw [e, e2])) _ _, hw.low, hw.ne⟩, Kb.set List.mem_cons_self _ _, .inl rfl⟩)
  · have hs : 1 ≤ size ∧ size ≤ 4 ∧ 0 ≤ n ∧ n < 256 ^ size.toNat := of_decide_eq_true hf
    have hf' := hf
    rw [hfb] at hf'
    have hf2 := of_decide_eq_true hf'
    refine v_seq ?_
    refine v_seq ?_
    refine v_region ?_
    refine vl_val (os_move rfl) ?_
    refine vl_val (os_nilCheck rfl) ?_
    refine vl_val (os_fa (o := 1) (k := 0) (by kernel_rfl) rfl) ?_
    refine vl_val (os_load Try.isAgg29 rfl (hbk.cell (i := 1) rfl)) ?_
    refine vl_val (os_t (os_eql rfl rfl) (rfl)) ?_
    refine vl_val (os_move rfl) ?_
    refine vl_valg rfl (os_move rfl) ?_
    refine vl_valg rfl (os_f (os_lss rfl rfl) (hf2.1)) ?_
    refine vl_valg rfl (os_move rfl) ?_
    refine vl_valg rfl (os_move rfl) ?_
    refine vl_valg rfl (os_move rfl) ?_
    refine vl_callg rfl (rf_bound size w) rfl ?_
    rintro u1 w ⟨rfl, rfl⟩
    refine vl_valg rfl (os_geq rfl rfl) ?_
    refine vl_valg rfl (os_pick_f rfl rfl) ?_
    refine vl_val (os_pick_t rfl rfl) ?_
    refine vl_nil ?_
    refine v_cond_no rfl (by omega) ?_
    refine v_skip ?_
    refine v_seq ?_
    refine v_seq ?_
    refine v_region ?_
    refine vl_val (os_move rfl) ?_
    refine vl_val (os_nilCheck rfl) ?_
    refine vl_val (os_fa (o := 1) (k := 0) (by kernel_rfl) rfl) ?_
    refine vl_val (os_load Try.isAgg29 rfl (hbk.cell (i := 1) rfl)) ?_
    refine vl_val (os_neq rfl rfl) ?_
    refine vl_nil ?_
    refine v_cond_no rfl (by simp) ?_
    obtain ⟨s, rfl⟩ : ∃ s : Nat, size = s := ⟨size.toNat, by omega⟩
    have hn6 : n < 256 ^ s := by have := hs.2.2.2; simpa using this
    refine v_skip ?_
    refine v_seq ?_
    refine v_region ?_
    refine vl_val (os_assign rfl) ?_
    refine vl_nil ?_
    refine v_seq ?_
    refine v_seq ?_
    refine v_region ?_
    refine vl_val (os_assign rfl) ?_
    refine vl_nil ?_
    refine v_block ?_
    refine v_loop3 [(0, _), (2, _)] (fun (l : Value) (i : Nat) (q : Int) => [(1, .int .i64 q), (6, l), (7, .int .i64 i)]) (fun l i q w' => i ≤ s ∧ Below w.heap.size w w' ∧ OwnK w' w.heap.size 5 .u8 l (numBytes n i) ∧ q = n / 256 ^ i ∧ 0 ≤ q ∧ q ≤ n) (fun l i q => s - i) (.slice none 0 0) (0) (n) ⟨rfl, rfl, trivial⟩ ⟨rfl, rfl, rfl, trivial⟩ (⟨by omega, Below.refl _ _, Own.nil _ _ _, by simp, by omega, by omega⟩) ?_
    rintro l i q w' ⟨hi, hb, ho, hq, hq0, hqn⟩
    refine v_seq ?_
    refine v_seq ?_
    refine v_region ?_
    refine vl_val (os_move rfl) ?_
    refine vl_val (os_move rfl) ?_
    refine vl_val (os_lss rfl rfl) ?_
    refine vl_nil ?_
    refine v_cond_d rfl (fun hlt => ?_) (fun hlt => ?_)
    · obtain ⟨Al, cl, rfl, _, _, rl, _⟩ := OwnK.form ho
      have hn4 : n < 4294967296 := Int.lt_of_lt_of_le hn6 (by rcases (by omega : s = 1 ∨ s = 2 ∨ s = 3 ∨ s = 4) with rfl | rfl | rfl | rfl <;> decide)
      refine v_skip ?_
      refine v_seq ?_
      refine v_block ?_
      refine v_seq ?_
      refine v_region ?_
      refine vl_val (os_move rfl) ?_
      refine vl_val (os_remi rfl rfl (by omega)) ?_
      refine vl_val (os_conv Try.underlying3 Try.underlying5 rfl ((by rw [IntKind.wrap_u8]; omega : IntKind.u8.wrap (q % 256) = q % 256))) ?_
      have hbl : Below w'.heap.size w' (w'.alloc (.cells [Value.int .u8 (q % 256)].toArray 5)) := (Below.refl _ _).alloc (Nat.le_refl _) _
      refine vl_val (os_lit Try.underlying22 Try.sizeOf5 Try.zeroValue5 rfl rfl rfl rfl (by decide)) ?_
      refine vl_val (os_move rfl) ?_
      refine vl_some (ot_append Try.underlying22 ti_u8 rfl rfl rfl (own_alloc (B := w.heap.size) w' [Value.int .u8 (q % 256)] 5 hb.size (by simp [maxLen])) (rl.keep hbl).toC (by simp) (ints_one8 _) (by simp [numBytes_len]; omega) (by simp [maxLen, numBytes_len]; omega) (by have := hb.size; simp; omega)) ?_
      rintro v5 w5 ⟨ho5, hg5⟩
      refine vl_val (os_assign rfl) ?_
      refine vl_nil ?_
      refine v_region ?_
      refine vl_val (os_move rfl) ?_
      refine vl_val (os_quoi rfl rfl (by omega)) ?_
      refine vl_val (os_assign rfl) ?_
      refine vl_nil ?_
      refine v_region ?_
      refine vl_val (os_move rfl) ?_
      refine vl_val (os_addi rfl rfl (by omega)) ?_
      refine vl_val (os_assign rfl) ?_
      refine vl_nil ?_
      exact ⟨⟨v5, i + 1, q / 256⟩, ⟨rfl, rfl, trivial⟩, ⟨rfl, rfl, rfl, trivial⟩, ⟨(by dsimp only; omega), Own.below (hb.trans (hbl.mono hb.size)) (own_alloc (B := w.heap.size) w' [Value.int .u8 (q % 256)] 5 hb.size (by simp [maxLen])) hg5 (Nat.le_refl _) (by have := hb.size; simp; omega), (by dsimp only; rw [numBytes_cons, ← hq]; exact ho5), (by dsimp only; rw [hq, Int.pow_succ, Int.ediv_ediv_of_nonneg (Int.le_of_lt (Int.pow_pos (by omega)))]), (by dsimp only; omega), (by dsimp only; omega)⟩, by dsimp only; omega⟩
    · obtain rfl : s = i := by omega
      obtain ⟨Al, cl, rfl, _, _, rl, _⟩ := OwnK.form ho
      have hw1 := hw.keep hb
      refine v_exit ?_
      refine v_region ?_
      refine vl_val (os_move rfl) ?_
      refine vl_val (os_move rfl) ?_
      refine vl_val (os_nilCheck rfl) ?_
      refine vl_val (os_fa (o := 0) (k := 0) (by kernel_rfl) rfl) ?_
      refine vl_val (os_load Try.isAgg22 rfl (hw1.bk.cell (i := 0) rfl)) ?_
      refine vl_val (os_move rfl) ?_
      refine vl_some (ot_append_at Try.underlying22 ti_u8 rfl rfl rfl hw1.own rl.toC (by simp [numBytes_len]) (ints_one8 _) (by rw [List.length_map, numBytes_len]; omega) (by rw [List.length_map, numBytes_len]; simp only [maxLen]; omega) (by have := hb.size; omega)) ?_
      rintro v6 w6 ⟨ho6, hg6, ha6⟩
      obtain ⟨A6, c6, rfl, -⟩ := Own.form ho6
      have hbk6 := Bk.grown hw1.bk hg6 (fun e => hw1.ne e.symm)
      have hlt6 := hbk.lt
      have hsb := hb.size
      have hne6 : (Value.slice A6 _ c6).ownBlock ≠ some g := fun e => by
        rcases ha6 with h6 | h6
        · rw [h6] at e; exact hw1.ne e
        · rw [h6] at e; simp at e; omega
      refine vl_val (os_nilCheck rfl) ?_
      refine vl_val (os_fa (o := 0) (k := 0) (by kernel_rfl) rfl) ?_
      refine vl_unit (ou_store Try.sizeOf22 rfl rfl rfl (hbk6.cell (i := 0) rfl) (hbk6.free _)) ?_
      have hkb : Kb (WrS.blocks g v) w (w6.setCell ⟨g, 0 + 0, none⟩ (Value.slice A6 (List.map (Value.int IntKind.u8) bs ++ List.map (Value.int IntKind.u8) (numBytes n s)).length c6)) := ((Kb.of_below hb).trans (Kb.grown hg6 (S := WrS.blocks g v) (fun k hk => by rw [WrS.blocks, hk]; simp)) (fun k hk => .inl hk)).trans (Kb.set (by simp [WrS.blocks]) _ _) (fun k hk => .inl hk)
      refine vl_nil ?_
      exact post_end0 rfl (⟨_, by rw [wrBytes, hf, if_pos ⟨rfl, rfl⟩, wrErr, hf, if_neg (fun h => by cases h.2)]; exact ⟨Bk.set hbk6 0 _, by unfold OwnK; rw [show List.map (Value.int .u8) (bs ++ numBytes n (s : Int).toNat) = List.map (Value.int .u8) bs ++ List.map (Value.int .u8) (numBytes n s) from List.map_append ..]; exact Own.setOther ho6 (fun g' e e2 => hne6 (by rw [e, e2])) _ _, hw.low, hne6⟩, hkb, by rcases ha6 with h6 | h6; (rw [h6]; exact .inl rfl); exact .inr ⟨_, h6, hsb⟩⟩)

theorem rf_Put (g : Nat) (v : Value) (bs : List Int) (e : Int) (B : Nat) (A : Option Addr) (n c : Nat) (xs : List Int) (w : World) (hw : WfS w B g v bs e) (ha : Rd w .u8 A xs) (hn : n = xs.length) (hB : B ≤ w.heap.size) (hl : bs.length + n ≤ 140737488355328) :
    Gives Try.prog 60 #[.pointer (some ⟨g, 0, none⟩), .slice A n c] w fun u w' => ∃ v', WfS w' B g v' (if e = 0 then bs ++ xs else bs) e ∧ Kb (WrS.blocks g v) w w' ∧ (v'.ownBlock = v.ownBlock ∨ ∃ h, v'.ownBlock = some h ∧ w.heap.size ≤ h) := by
  have hbk := hw.bk
  refine gives_enter Try.call60 Try.func60 rfl rfl rfl (by kernel_rfl) ?_
  refine v_seq ?_
  refine v_region ?_
  refine vl_val (os_move rfl) ?_
  refine vl_val (os_nilCheck rfl) ?_
  refine vl_val (os_fa (o := 1) (k := 0) (by kernel_rfl) rfl) ?_
  refine vl_val (os_load Try.isAgg29 rfl (hbk.cell (i := 1) rfl)) ?_
  refine vl_val (os_eql rfl rfl) ?_
  refine vl_nil ?_
  refine v_cond_d rfl (fun he => ?_) (fun he => ?_)
  · have he' : e = 0 := by simpa using he
    refine v_region ?_
    refine vl_val (os_move rfl) ?_
    refine vl_val (os_move rfl) ?_
    refine vl_val (os_nilCheck rfl) ?_
    refine vl_val (os_fa (o := 0) (k := 0) (by kernel_rfl) rfl) ?_
    refine vl_val (os_load Try.isAgg22 rfl (hbk.cell (i := 0) rfl)) ?_
    refine vl_val (os_move rfl) ?_
    refine vl_some (ot_append_at Try.underlying22 ti_u8 rfl rfl rfl hw.own ha.toC (by simp [hn]) (ints_one8 _) (by rw [List.length_map]; omega) (by rw [List.length_map]; simp only [maxLen]; omega) hB) ?_
    rintro v6 w6 ⟨ho6, hg6, ha6⟩
    obtain ⟨A6, c6, rfl, -⟩ := Own.form ho6
    have hbk6 := Bk.grown hbk hg6 (fun e => hw.ne e.symm)
    have hlt := hbk.lt
    have hne6 : (Value.slice A6 _ c6).ownBlock ≠ some g := fun e => by
      rcases ha6 with h6 | h6
      · rw [h6] at e; exact hw.ne e
      · rw [h6] at e; simp at e; omega
    refine vl_val (os_nilCheck rfl) ?_
    refine vl_val (os_fa (o := 0) (k := 0) (by kernel_rfl) rfl) ?_
    refine vl_unit (ou_store Try.sizeOf22 rfl rfl rfl (hbk6.cell (i := 0) rfl) (hbk6.free _)) ?_
    refine vl_nil ?_
    exact post_end0 rfl (⟨_, ⟨Bk.set hbk6 0 _, by rw [if_pos he']; unfold OwnK; rw [show List.map (Value.int .u8) (bs ++ xs) = List.map (Value.int .u8) bs ++ List.map (Value.int .u8) xs from List.map_append ..]; exact Own.setOther ho6 (fun g' e e2 => hne6 (by rw [e, e2])) _ _, hw.low, hne6⟩, (Kb.grown hg6 (S := WrS.blocks g v) (fun k hk => by rw [WrS.blocks, hk]; simp)).trans (Kb.set (by simp [WrS.blocks]) _ _) (fun k hk => .inl hk), by rcases ha6 with h6 | h6; (rw [h6]; exact .inl rfl); exact .inr ⟨_, h6, Nat.le_refl _⟩⟩)
  · refine v_skip ?_
    exact post_end0 rfl (⟨v, by rw [if_neg (by simpa using he)]; exact hw, Kb.refl _ _, .inl rfl⟩)
theorem rf_Bytes (g : Nat) (v : Value) (bs : List Int) (e : Int) (B : Nat) (w : World) (hw : WfS w B g v bs e) (hl : bs.length ≤ 140737488351232) :
    Gives Try.prog 62 #[.pointer (some ⟨g, 0, none⟩)] w fun u w' => ∃ s, u = .tuple #[s, .int .i64 e] ∧ OwnK w' w.heap.size 5 .u8 s (if e = 0 then bs else []) ∧ Below w.heap.size w w' := by
  obtain ⟨A, c, rfl, hc, hm, hR, _⟩ := hw.own.form
  have hbk := hw.bk
  refine gives_enter Try.call62 Try.func62 rfl rfl rfl (by kernel_rfl) ?_
  refine v_seq ?_
  refine v_region ?_
  refine vl_val (os_assign rfl) ?_
  refine vl_val (os_assign rfl) ?_
  refine vl_nil ?_
  refine v_seq ?_
  refine v_seq ?_
  refine v_region ?_
  refine vl_val (os_move rfl) ?_
  refine vl_val (os_nilCheck rfl) ?_
  refine vl_val (os_fa (o := 1) (k := 0) (by kernel_rfl) rfl) ?_
  refine vl_val (os_load Try.isAgg29 rfl (hbk.cell (i := 1) rfl)) ?_
  refine vl_val (os_neq rfl rfl) ?_
  refine vl_nil ?_
  refine v_cond_d rfl (fun h => ?_) (fun h => ?_)
  · refine v_seq ?_
    refine v_region_t LeD _ mixed (by kernel_rfl) lee_d (led_start _) ?_
    refine vt_val (fun w hw => os_move rfl) ?_
    refine vt_val (fun w hw => os_nilCheck rfl) ?_
    refine vt_val (fun w hw => os_fa (o := 1) (k := 0) (by kernel_rfl) rfl) ?_
    refine vt_val (fun w hw => os_load Try.isAgg29 rfl (led_cell hw (hbk.cell (i := 1) rfl))) ?_
    refine vt_val (fun w hw => os_assign rfl) ?_
    refine vt_val (fun w hw => os_assign rfl) ?_
    refine vt_nil (fun w hw => ?_)
    obtain ⟨q, rfl⟩ := hw
    refine v_ret ?_
    exact post_ret2 rfl rfl rfl (⟨_, rfl, by rw [if_neg (by simpa using h)]; exact Own.nil _ _ _, led_below ⟨q, rfl⟩⟩)
  · have h' : e = 0 := by simpa using h
    have s0 := own_alloc w [] 5 (Nat.le_refl w.heap.size) (by simp [maxLen])
    have s0b : Below w.heap.size w (w.alloc (.cells #[] 5)) := (Below.refl _ w).alloc (Nat.le_refl _) _
    refine v_skip ?_
    refine v_seq ?_
    refine v_region ?_
    refine vl_val (os_lit Try.underlying22 Try.sizeOf5 Try.zeroValue5 rfl rfl rfl rfl (by decide)) ?_
    refine vl_val (os_move rfl) ?_
    refine vl_val (os_nilCheck rfl) ?_
    refine vl_val (os_fa (o := 0) (k := 0) (by kernel_rfl) rfl) ?_
    refine vl_val (os_load Try.isAgg22 rfl ((hbk.alloc _).cell (i := 0) rfl)) ?_
    refine vl_some (ot_append Try.underlying22 ti_u8 rfl rfl rfl s0 (hR.keep s0b).toC (by simp) (ints_one8 _) (by simp; omega) (by simp [maxLen]; omega) (by simp)) ?_
    rintro v6 w6 ⟨so, sg⟩
    refine vl_val (os_assign rfl) ?_
    refine vl_val (os_assign rfl) ?_
    refine vl_nil ?_
    refine v_ret ?_
    exact post_ret2 rfl rfl rfl (⟨_, by rw [h'], by rw [if_pos h']; simpa [OwnK] using so, s0.below s0b sg (Nat.le_refl _) (by simp)⟩)
end Go.Proofs.Ytpcfifheegfjiaa
