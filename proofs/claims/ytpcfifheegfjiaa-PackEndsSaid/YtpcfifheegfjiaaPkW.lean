/- Layer 8: the walk of PackWrites. -/
import Derived.Test.YtpcfifheegfjiaaPkS
import Derived.Test.YtpcfifheegfjiaaKitO
namespace Go.Proofs.Ytpcfifheegfjiaa
open Go.RowKit
set_option linter.unusedVariables false

theorem WrS.kb {w w' : World} {B g : Nat} {t : TypeId} {v : Value} {bs : List Int} {e : Int} {S : List Nat} (h : WrS w B t g v bs e) (hb : Kb S w w') (hS : ∀ k ∈ WrS.blocks g v, k ∉ S) : WrS w' B t g v bs e :=
  ⟨h.bk.kb hb (hS g (by simp [WrS.blocks])), Own.kb h.own hb (fun x hx => hS x (by simp [WrS.blocks, hx])), h.low, h.ne⟩
theorem WfS.kb {w w' : World} {B g : Nat} {v : Value} {bs : List Int} {e : Int} {S : List Nat} (h : WfS w B g v bs e) (hb : Kb S w w') (hS : ∀ k ∈ WrS.blocks g v, k ∉ S) : WfS w' B g v bs e :=
  ⟨h.bk.kb hb (hS g (by simp [WrS.blocks])), Own.kb h.own hb (fun x hx => hS x (by simp [WrS.blocks, hx])), h.low, h.ne⟩
theorem WrS.lt {w : World} {B g : Nat} {t : TypeId} {v : Value} {bs : List Int} {e : Int} (h : WrS w B t g v bs e) : ∀ k ∈ WrS.blocks g v, k < w.heap.size := by
  intro k hk
  rcases List.mem_cons.1 hk with rfl | h1
  · exact h.bk.lt
  · have h2 : v.ownBlock = some k := by simpa using h1
    exact (World.ownsRow.lt h.own k h2).2
theorem WfS.lt {w : World} {B g : Nat} {v : Value} {bs : List Int} {e : Int} (h : WfS w B g v bs e) : ∀ k ∈ WrS.blocks g v, k < w.heap.size := by
  intro k hk
  rcases List.mem_cons.1 hk with rfl | h1
  · exact h.bk.lt
  · have h2 : v.ownBlock = some k := by simpa using h1
    exact (World.ownsRow.lt h.own k h2).2
theorem Lent.kb {w w' : World} {B : Nat} {t : TypeId} {k : IntKind} {f : Int → Int → Int} {g n c : Nat} {zs : List Int} {S : List Nat} (h : Lent w B t k f (.slice (some ⟨g, 0, none⟩) n c) zs) (hb : Kb S w w') (hg : g ∉ S) : Lent w' B t k f (.slice (some ⟨g, 0, none⟩) n c) zs := by
  obtain ⟨g', C, e, hc, ho⟩ := h
  cases e
  exact ⟨g, _, rfl, hc, Own.kb ho hb (fun x hx => by cases hx; exact hg)⟩
theorem Lent.own {w : World} {B : Nat} {t : TypeId} {k : IntKind} {f : Int → Int → Int} {v : Value} {zs : List Int} (h : Lent w B t k f v zs) : OwnK w B t k v zs := by
  obtain ⟨g', C, rfl, hc, ho⟩ := h
  have := Own.cut ho (m := zs.length) (by simp)
  rw [← List.map_take, List.take_left] at this
  exact this
/-- two lists of blocks have none in common -/
def Dj (S T : List Nat) : Prop := ∀ k ∈ S, k ∉ T
theorem Dj.symm {S T : List Nat} (h : Dj S T) : Dj T S := fun k hk hs => h k hs hk
theorem Dj.new {S T T' : List Nat} {Z : Nat} (h : Dj S T) (hS : ∀ k ∈ S, k < Z) (hT : ∀ k ∈ T', k ∈ T ∨ Z ≤ k) : Dj S T' := fun k hk ht => by
  rcases hT k ht with h1 | h1
  · exact h k hk h1
  · have := hS k hk; omega
theorem blocks_new {g : Nat} {v v' : Value} {Z : Nat} (h : v'.ownBlock = v.ownBlock ∨ ∃ x, v'.ownBlock = some x ∧ Z ≤ x) : ∀ k ∈ WrS.blocks g v', k ∈ WrS.blocks g v ∨ Z ≤ k := blocks_ok h

set_option maxHeartbeats 4000000 in
theorem law08_PackWrites (A : Option Addr) (n c : Nat) (ds : List DoV) (w : World) (ha : RdDo w A ds) (hn : n = ds.length) (hm : n ≤ 140737488351232) :
    Gives Try.prog 12 #[.slice A n c] w fun v w' => v = .bool true ∧ Below w.heap.size w w' := by
  have hlens : ∀ d ∈ ds, d.bs.length = d.l := fun d hd => (ha.each d hd).len
  refine gives_enter Try.call12 Try.func12 rfl rfl rfl (by kernel_rfl) ?_
  refine v_seq ?_
  refine v_region ?_
  refine vl_val (os_assign rfl) ?_
  refine vl_nil ?_
  refine v_seq ?_
  refine v_seq ?_
  refine v_region ?_
  refine vl_val (os_move rfl) ?_
  refine vl_call (law08_size A n c ds w ha hn hm) rfl ?_
  rintro v2 w ⟨⟨N, rfl, hN⟩, rfl⟩
  refine vl_val (os_gtr rfl rfl) ?_
  refine vl_nil ?_
  refine v_cond_d rfl (fun hbig => ?_) (fun hbig => ?_)
  · refine v_seq ?_
    refine v_region ?_
    refine vl_call (law08_awake w) rfl ?_
    rintro v1 w1 ⟨rfl, b1⟩
    refine vl_val (os_assign rfl) ?_
    refine vl_nil ?_
    refine v_ret ?_
    exact post_ret rfl rfl (⟨rfl, b1⟩)
  · have hsz : ds.length + sumL ds ≤ 2000 := hN (by omega)
    refine v_skip ?_
    refine v_seq ?_
    refine v_region ?_
    refine vl_call (pk_New w) rfl ?_
    rintro u3 w3 ⟨g, rfl, h3, b3⟩
    refine vl_call (rf_New w3) rfl ?_
    rintro u4 w4 ⟨g2, rfl, h4, b4⟩
    have b34 := b3.trans (b4.mono b3.size)
    have hg3 := h3.bk.lt
    have hlo := h4.low
    refine vl_val (os_assign rfl) ?_
    refine vl_val (os_assign rfl) ?_
    refine vl_nil ?_
    refine v_seq ?_
    refine v_seq ?_
    refine v_region ?_
    refine vl_val (os_assign rfl) ?_
    refine vl_nil ?_
    refine v_block ?_
    refine v_loop [(0, _), (3, _), (4, _)] (fun (i : Nat) => [(5, .int .i64 i)]) (fun i w' => i ≤ n ∧ Below w.heap.size w w' ∧ ∃ v' u', WrS w' w.heap.size 113 g v' (wAll (ds.take i)).1 (wAll (ds.take i)).2 ∧ WfS w' w.heap.size g2 u' (wAll (ds.take i)).1 (wAll (ds.take i)).2 ∧ Dj (WrS.blocks g v') (WrS.blocks g2 u')) (fun i => n - i) (0) ⟨rfl, rfl, rfl, trivial⟩ ⟨rfl, trivial⟩ (⟨by omega, b34, .slice none 0 0, .slice none 0 0, h3.keep b4, ⟨h4.bk, Own.mono h4.own b3.size, by have := b3.size; omega, h4.ne⟩, fun k hk hk2 => by simp [WrS.blocks, Value.ownBlock] at hk hk2; omega⟩) ?_
    rintro i w' ⟨hi, bw, v', u', hw, hf, hdj⟩
    refine v_seq ?_
    refine v_seq ?_
    refine v_region ?_
    refine vl_val (os_move rfl) ?_
    refine vl_val (os_move rfl) ?_
    refine vl_val (os_len Try.underlying49 rfl) ?_
    refine vl_val (os_lss rfl rfl) ?_
    refine vl_nil ?_
    refine v_cond_d rfl (fun hlt => ?_) (fun hlt => ?_)
    · have hd : ds[i]? = some ds[i] := List.getElem?_eq_getElem (by omega)
      obtain ⟨b, o, rfl, hc, hk⟩ := (ha.keep bw).at_ hd
      have hlen := wAll_len ds hlens i (by omega)
      have hsl := sumL_le (ds := ds) i
      have hsl2 := sumL_le (ds := ds) (i + 1)
      rw [sumL_take hd] at hsl2
      have hlk := hk.len
      have hlen' := wStep_len (wAll (ds.take i)) ds[i] hlk
      refine v_skip ?_
      refine v_seq ?_
      refine v_block ?_
      refine v_seq ?_
      refine v_region ?_
      refine vl_val (os_move rfl) ?_
      refine vl_val (os_move rfl) ?_
      refine vl_val (os_ixs Try.underlying49 Try.sizeOf58 rfl rfl (i := i) (by omega) (by omega)) ?_
      refine vl_val (os_fa (o := 3) (k := 0) (by kernel_rfl) rfl) ?_
      refine vl_val (os_load Try.isAgg22 rfl (hc.c4.2.2.2)) ?_
      refine vl_call (kit_LentBytes _ _ _ ds[i].bs w' hk.rd hlk.symm (by omega)) rfl ?_
      rintro u5 w5 ⟨hL, b5⟩
      obtain ⟨gi, Ci, rfl, hCi, hMi, hgi, hgi', rdi⟩ := hL.form
      have bw5 := bw.trans (b5.mono bw.size)
      obtain ⟨_, _, e5, hc5, hk5⟩ := (ha.keep bw5).at_ hd
      cases e5
      have hw5 := hw.keep b5
      have hf5 := hf.keep b5
      refine vl_val (os_assign rfl) ?_
      refine vl_nil ?_
      refine v_seq ?_
      refine v_seq ?_
      refine v_region ?_
      refine vl_val (os_move rfl) ?_
      refine vl_val (os_move rfl) ?_
      refine vl_val (os_ixs Try.underlying49 Try.sizeOf58 rfl rfl (i := i) (by omega) (by omega)) ?_
      refine vl_val (os_fa (o := 0) (k := 0) (by kernel_rfl) rfl) ?_
      refine vl_val (os_load Try.isAgg3 rfl (hc5.c4.1)) ?_
      refine vl_call (kit_Pick ds[i].what 2 _ (by omega)) rfl ?_
      rintro v6 w5 ⟨rfl, rfl⟩
      refine vl_val (os_eql rfl rfl) ?_
      refine vl_nil ?_
      refine v_cond_d rfl (fun hpk => ?_) (fun hpk => ?_)
      · refine v_seq ?_
        refine v_region_a mixed ?_
        refine va_pure 0 rfl (by kernel_rfl) (by kernel_rfl) (by kernel_rfl) (fun w => (os_move rfl)) ?_
        refine va_pure 1 rfl (by kernel_rfl) (by kernel_rfl) (by kernel_rfl) (fun w => (os_move rfl)) ?_
        refine va_pure 2 rfl (by kernel_rfl) (by kernel_rfl) (by kernel_rfl) (fun w => (os_move rfl)) ?_
        refine va_pure 3 rfl (by kernel_rfl) (by kernel_rfl) (by kernel_rfl) (fun w => (os_ixs Try.underlying49 Try.sizeOf58 rfl rfl (i := i) (by omega) (by omega))) ?_
        refine va_pure 4 rfl (by kernel_rfl) (by kernel_rfl) (by kernel_rfl) (fun w => (os_fa (o := 1) (k := 0) (by kernel_rfl) rfl)) ?_
        refine va_pure 6 rfl (by kernel_rfl) (by kernel_rfl) (by kernel_rfl) (fun w => (os_move rfl)) ?_
        refine va_pure 7 rfl (by kernel_rfl) (by kernel_rfl) (by kernel_rfl) (fun w => (os_move rfl)) ?_
        refine va_pure 8 rfl (by kernel_rfl) (by kernel_rfl) (by kernel_rfl) (fun w => (os_ixs Try.underlying49 Try.sizeOf58 rfl rfl (i := i) (by omega) (by omega))) ?_
        refine va_pure 9 rfl (by kernel_rfl) (by kernel_rfl) (by kernel_rfl) (fun w => (os_fa (o := 2) (k := 0) (by kernel_rfl) rfl)) ?_
        refine va_two 5 10 (by kernel_rfl) ?_ ?_
        · refine vn_val rfl (os_load Try.isAgg3 rfl ((hc5.led ⟨1, rfl⟩).c4.2.1)) ?_
          refine va_one 10 (by kernel_rfl) ?_
          refine vn_val rfl (os_load Try.isAgg3 rfl ((hc5.led ⟨1, rfl⟩).c4.2.2.1)) ?_
          refine va_one 11 (by kernel_rfl) ?_
          refine vn_call rfl (pk_Number g v' _ _ ds[i].n ds[i].size _ _ (hw5.keep (led_below ⟨1, rfl⟩)) (by have := bw5.size; simp; omega) (by omega)) rfl ?_
          rintro u7 w7 ⟨v7, h7, k7, o7⟩
          have h7 : WrS w7 w.heap.size 113 g v7 (wStep (wAll (ds.take i)) ds[i]).1 (wStep (wAll (ds.take i)) ds[i]).2 := by rw [wStep, if_pos hpk]; exact h7
          have hkb7 : Kb (WrS.blocks g v') w5 w7 := (Kb.led ⟨1, rfl⟩).trans k7 (fun k hk => .inl hk)
          have hn7 : ∀ k ∈ WrS.blocks g v7, k ∈ WrS.blocks g v' ∨ w5.heap.size ≤ k := blocks_new o7
          have hf7 := hf5.kb hkb7 (fun k hk hk2 => hdj k hk2 hk)
          have hL7 := hL.kb hkb7 (fun hh => by have := hw.lt gi hh; omega)
          have bw7 := hkb7.below bw5 (blocks_low hw5) bw5.size
          have hdj7 : Dj (WrS.blocks g v7) (WrS.blocks g2 u') := (hdj.symm.new hf5.lt hn7).symm
          obtain ⟨_, _, e7, hc7, hk7⟩ := (ha.keep bw7).at_ hd
          cases e7
          refine va_done (by kernel_rfl) ?_
          refine v_region_a mixed ?_
          refine va_pure 0 rfl (by kernel_rfl) (by kernel_rfl) (by kernel_rfl) (fun w => (os_move rfl)) ?_
          refine va_pure 1 rfl (by kernel_rfl) (by kernel_rfl) (by kernel_rfl) (fun w => (os_move rfl)) ?_
          refine va_pure 2 rfl (by kernel_rfl) (by kernel_rfl) (by kernel_rfl) (fun w => (os_move rfl)) ?_
          refine va_pure 3 rfl (by kernel_rfl) (by kernel_rfl) (by kernel_rfl) (fun w => (os_ixs Try.underlying49 Try.sizeOf58 rfl rfl (i := i) (by omega) (by omega))) ?_
          refine va_pure 4 rfl (by kernel_rfl) (by kernel_rfl) (by kernel_rfl) (fun w => (os_fa (o := 1) (k := 0) (by kernel_rfl) rfl)) ?_
          refine va_pure 6 rfl (by kernel_rfl) (by kernel_rfl) (by kernel_rfl) (fun w => (os_move rfl)) ?_
          refine va_pure 7 rfl (by kernel_rfl) (by kernel_rfl) (by kernel_rfl) (fun w => (os_move rfl)) ?_
          refine va_pure 8 rfl (by kernel_rfl) (by kernel_rfl) (by kernel_rfl) (fun w => (os_ixs Try.underlying49 Try.sizeOf58 rfl rfl (i := i) (by omega) (by omega))) ?_
          refine va_pure 9 rfl (by kernel_rfl) (by kernel_rfl) (by kernel_rfl) (fun w => (os_fa (o := 2) (k := 0) (by kernel_rfl) rfl)) ?_
          refine va_two 5 10 (by kernel_rfl) ?_ ?_
          · refine vn_val rfl (os_load Try.isAgg3 rfl ((hc7.led ⟨1, rfl⟩).c4.2.1)) ?_
            refine va_one 10 (by kernel_rfl) ?_
            refine vn_val rfl (os_load Try.isAgg3 rfl ((hc7.led ⟨1, rfl⟩).c4.2.2.1)) ?_
            refine va_one 11 (by kernel_rfl) ?_
            refine vn_call rfl (rf_Number g2 u' _ _ ds[i].n ds[i].size _ _ (hf7.keep (led_below ⟨1, rfl⟩)) (by have := bw7.size; simp; omega) (by omega)) rfl ?_
            rintro u8 w8 ⟨v8, h8, k8, o8⟩
            have hf8 : WfS w8 w.heap.size g2 v8 (wStep (wAll (ds.take i)) ds[i]).1 (wStep (wAll (ds.take i)) ds[i]).2 := by rw [wStep, if_pos hpk]; exact h8
            have hkb8 : Kb (WrS.blocks g2 u') w7 w8 := (Kb.led ⟨1, rfl⟩).trans k8 (fun k hk => .inl hk)
            have hn8 : ∀ k ∈ WrS.blocks g2 v8, k ∈ WrS.blocks g2 u' ∨ w7.heap.size ≤ k := blocks_new o8
            have hw8 := h7.kb hkb8 hdj7
            have hL8 := hL7.kb hkb8 (fun hh => by have := hf.lt gi hh; omega)
            have bw8 := hkb8.below bw7 (blocks_low2 hf7) bw7.size
            have hdj8 : Dj (WrS.blocks g v7) (WrS.blocks g2 v8) := hdj7.new h7.lt hn8
            have hgi1 : gi ∉ WrS.blocks g v7 := fun hh => by rcases hn7 gi hh with h1 | h1; (have := hw.lt gi h1; omega); (omega)
            have hgi2 : gi ∉ WrS.blocks g2 v8 := fun hh => by rcases hn8 gi hh with h1 | h1; (have := hf.lt gi h1; omega); (have := hkb7.size; omega)
            obtain ⟨_, _, e8, hc8, hk8⟩ := (ha.keep bw8).at_ hd
            cases e8
            refine va_done (by kernel_rfl) ?_
            refine v_seq ?_
            refine v_seq ?_
            refine v_region ?_
            refine vl_val (os_move rfl) ?_
            refine vl_val (os_move rfl) ?_
            refine vl_val (os_move rfl) ?_
            refine vl_val (os_ixs Try.underlying49 Try.sizeOf58 rfl rfl (i := i) (by omega) (by omega)) ?_
            refine vl_val (os_fa (o := 3) (k := 0) (by kernel_rfl) rfl) ?_
            refine vl_val (os_load Try.isAgg22 rfl (hc8.c4.2.2.2)) ?_
            refine vl_call (kit_KeptBytes _ _ _ _ _ ds[i].bs w8 hL8 hk8.rd hlk.symm (by omega)) rfl ?_
            rintro v9 w9 ⟨rfl, d9⟩
            have hw9 := hw8.keep (led_below d9)
            have hf9 := hf8.keep (led_below d9)
            have hL9 := hL8.keep (led_below d9)
            have bw9 := bw8.trans ((led_below d9).mono bw8.size)
            refine vl_val (os_not rfl) ?_
            refine vl_nil ?_
            refine v_cond_f rfl ?_
            refine v_skip ?_
            refine v_seq ?_
            refine v_region ?_
            refine vl_val (os_move rfl) ?_
            refine vl_call (kit_OverBytes _ _ _ w9 hL9.own (by rw [List.length_map]; omega)) rfl ?_
            rintro v10 w10 k10
            have k10' : Kb [gi] w9 w10 := k10
            have hw10 := hw9.kb k10' (fun k hk hk2 => by rw [List.mem_singleton.1 hk2] at hk; exact hgi1 hk)
            have hf10 := hf9.kb k10' (fun k hk hk2 => by rw [List.mem_singleton.1 hk2] at hk; exact hgi2 hk)
            have bw10 := k10'.below bw9 (fun k hk => by rw [List.mem_singleton.1 hk]; have := bw.size; omega) bw9.size
            refine vl_nil ?_
            refine v_seq ?_
            refine v_region ?_
            refine vl_val (os_move rfl) ?_
            refine vl_call (pk_Bytes g v7 _ _ _ w10 hw10 (by omega)) rfl ?_
            rintro u11 w11 ⟨sa, rfl, oa, b11⟩
            have hw11 := hw10.keep b11
            have hf11 := hf10.keep b11
            have bw11 := bw10.trans (b11.mono bw10.size)
            refine vl_val (os_move rfl) ?_
            refine vl_val (os_extract rfl rfl) ?_
            refine vl_val (os_extract rfl rfl) ?_
            refine vl_val (os_assign rfl) ?_
            refine vl_val (os_assign rfl) ?_
            refine vl_nil ?_
            refine v_seq ?_
            refine v_region ?_
            refine vl_val (os_move rfl) ?_
            refine vl_call (rf_Bytes g2 v8 _ _ _ w11 hf11 (by omega)) rfl ?_
            rintro u12 w12 ⟨sb, rfl, ob, b12⟩
            have hw12 := hw11.keep b12
            have hf12 := hf11.keep b12
            have bw12 := bw11.trans (b12.mono bw11.size)
            have oa12 := Own.keepAll oa b12
            obtain ⟨Aa, ca, rfl, _, _, ra, _⟩ := OwnK.form oa12
            obtain ⟨Ab, cb, rfl, _, _, rb, _⟩ := OwnK.form ob
            have hle : (if (wStep (wAll (ds.take i)) ds[i]).2 = 0 then (wStep (wAll (ds.take i)) ds[i]).1 else []).length ≤ 100000 := by split; omega; simp
            refine vl_val (os_move rfl) ?_
            refine vl_val (os_extract rfl rfl) ?_
            refine vl_val (os_extract rfl rfl) ?_
            refine vl_val (os_assign rfl) ?_
            refine vl_val (os_assign rfl) ?_
            refine vl_nil ?_
            refine v_seq ?_
            refine v_seq ?_
            refine v_region ?_
            refine vl_val (os_move rfl) ?_
            refine vl_val (os_move rfl) ?_
            refine vl_val (os_f (os_neq rfl rfl) (by simp)) ?_
            refine vl_val (os_move rfl) ?_
            refine vl_valg rfl (os_move rfl) ?_
            refine vl_valg rfl (os_move rfl) ?_
            refine vl_callg rfl ((kit_SameBytes Aa Ab _ _ ca cb _ _ w12 ra rb rfl rfl (by omega) (by omega)).mono fun v w' hh => (⟨by rw [hh.1, decide_eq_true rfl], hh.2⟩ : v = .bool true ∧ LeD w12 w')) rfl ?_
            rintro v13 w13 ⟨rfl, d13⟩
            have oa13 := Own.led oa12 d13
            refine vl_valg rfl (os_not rfl) ?_
            refine vl_val (os_pick_f rfl rfl) ?_
            refine vl_nil ?_
            refine v_cond_f rfl ?_
            refine v_skip ?_
            refine v_region ?_
            refine vl_val (os_move rfl) ?_
            refine vl_call (kit_OverBytes _ _ _ w13 oa13 (by rw [List.length_map]; omega)) rfl ?_
            rintro v14 w14 k14
            have hS14 : ∀ k ∈ (Value.slice Aa (if (wStep (wAll (ds.take i)) ds[i]).2 = 0 then (wStep (wAll (ds.take i)) ds[i]).1 else []).length ca).ownBlock.toList, w10.heap.size ≤ k := fun k hk => (World.ownsRow.lt oa13 k (by simpa using hk)).1
            have bw13 := bw12.trans ((led_below d13).mono bw12.size)
            have hw14 := (hw12.keep (led_below d13)).kb k14 (fun k hk hk2 => by have h1 := hS14 k hk2; have h2 := hw10.lt k hk; omega)
            have hf14 := (hf12.keep (led_below d13)).kb k14 (fun k hk hk2 => by have h1 := hS14 k hk2; have h2 := hf10.lt k hk; omega)
            refine vl_nil ?_
            refine v_region ?_
            refine vl_val (os_move rfl) ?_
            refine vl_val (os_addi rfl rfl (by omega)) ?_
            refine vl_val (os_assign rfl) ?_
            refine vl_nil ?_
            exact ⟨i + 1, ⟨rfl, rfl, rfl, trivial⟩, ⟨rfl, trivial⟩, ⟨by omega, k14.below bw13 (fun k hk => by have := hS14 k hk; have := bw10.size; omega) bw13.size, v7, v8, by rw [wAll_snoc hd]; exact hw14, by rw [wAll_snoc hd]; exact hf14, hdj8⟩, by dsimp only; omega⟩
          · refine vn_val rfl (os_load Try.isAgg3 rfl ((hc7.led ⟨1, rfl⟩).c4.2.2.1)) ?_
            refine va_one 5 (by kernel_rfl) ?_
            refine vn_val rfl (os_load Try.isAgg3 rfl ((hc7.led ⟨1, rfl⟩).c4.2.1)) ?_
            refine va_one 11 (by kernel_rfl) ?_
            refine vn_call rfl (rf_Number g2 u' _ _ ds[i].n ds[i].size _ _ (hf7.keep (led_below ⟨1, rfl⟩)) (by have := bw7.size; simp; omega) (by omega)) rfl ?_
            rintro u8 w8 ⟨v8, h8, k8, o8⟩
            have hf8 : WfS w8 w.heap.size g2 v8 (wStep (wAll (ds.take i)) ds[i]).1 (wStep (wAll (ds.take i)) ds[i]).2 := by rw [wStep, if_pos hpk]; exact h8
            have hkb8 : Kb (WrS.blocks g2 u') w7 w8 := (Kb.led ⟨1, rfl⟩).trans k8 (fun k hk => .inl hk)
            have hn8 : ∀ k ∈ WrS.blocks g2 v8, k ∈ WrS.blocks g2 u' ∨ w7.heap.size ≤ k := blocks_new o8
            have hw8 := h7.kb hkb8 hdj7
            have hL8 := hL7.kb hkb8 (fun hh => by have := hf.lt gi hh; omega)
            have bw8 := hkb8.below bw7 (blocks_low2 hf7) bw7.size
            have hdj8 : Dj (WrS.blocks g v7) (WrS.blocks g2 v8) := hdj7.new h7.lt hn8
            have hgi1 : gi ∉ WrS.blocks g v7 := fun hh => by rcases hn7 gi hh with h1 | h1; (have := hw.lt gi h1; omega); (omega)
            have hgi2 : gi ∉ WrS.blocks g2 v8 := fun hh => by rcases hn8 gi hh with h1 | h1; (have := hf.lt gi h1; omega); (have := hkb7.size; omega)
            obtain ⟨_, _, e8, hc8, hk8⟩ := (ha.keep bw8).at_ hd
            cases e8
            refine va_done (by kernel_rfl) ?_
            refine v_seq ?_
            refine v_seq ?_
            refine v_region ?_
            refine vl_val (os_move rfl) ?_
            refine vl_val (os_move rfl) ?_
            refine vl_val (os_move rfl) ?_
            refine vl_val (os_ixs Try.underlying49 Try.sizeOf58 rfl rfl (i := i) (by omega) (by omega)) ?_
            refine vl_val (os_fa (o := 3) (k := 0) (by kernel_rfl) rfl) ?_
            refine vl_val (os_load Try.isAgg22 rfl (hc8.c4.2.2.2)) ?_
            refine vl_call (kit_KeptBytes _ _ _ _ _ ds[i].bs w8 hL8 hk8.rd hlk.symm (by omega)) rfl ?_
            rintro v9 w9 ⟨rfl, d9⟩
            have hw9 := hw8.keep (led_below d9)
            have hf9 := hf8.keep (led_below d9)
            have hL9 := hL8.keep (led_below d9)
            have bw9 := bw8.trans ((led_below d9).mono bw8.size)
            refine vl_val (os_not rfl) ?_
            refine vl_nil ?_
            refine v_cond_f rfl ?_
            refine v_skip ?_
            refine v_seq ?_
            refine v_region ?_
            refine vl_val (os_move rfl) ?_
            refine vl_call (kit_OverBytes _ _ _ w9 hL9.own (by rw [List.length_map]; omega)) rfl ?_
            rintro v10 w10 k10
            have k10' : Kb [gi] w9 w10 := k10
            have hw10 := hw9.kb k10' (fun k hk hk2 => by rw [List.mem_singleton.1 hk2] at hk; exact hgi1 hk)
            have hf10 := hf9.kb k10' (fun k hk hk2 => by rw [List.mem_singleton.1 hk2] at hk; exact hgi2 hk)
            have bw10 := k10'.below bw9 (fun k hk => by rw [List.mem_singleton.1 hk]; have := bw.size; omega) bw9.size
            refine vl_nil ?_
            refine v_seq ?_
            refine v_region ?_
            refine vl_val (os_move rfl) ?_
            refine vl_call (pk_Bytes g v7 _ _ _ w10 hw10 (by omega)) rfl ?_
            rintro u11 w11 ⟨sa, rfl, oa, b11⟩
            have hw11 := hw10.keep b11
            have hf11 := hf10.keep b11
            have bw11 := bw10.trans (b11.mono bw10.size)
            refine vl_val (os_move rfl) ?_
            refine vl_val (os_extract rfl rfl) ?_
            refine vl_val (os_extract rfl rfl) ?_
            refine vl_val (os_assign rfl) ?_
            refine vl_val (os_assign rfl) ?_
            refine vl_nil ?_
            refine v_seq ?_
            refine v_region ?_
            refine vl_val (os_move rfl) ?_
            refine vl_call (rf_Bytes g2 v8 _ _ _ w11 hf11 (by omega)) rfl ?_
            rintro u12 w12 ⟨sb, rfl, ob, b12⟩
            have hw12 := hw11.keep b12
            have hf12 := hf11.keep b12
            have bw12 := bw11.trans (b12.mono bw11.size)
            have oa12 := Own.keepAll oa b12
            obtain ⟨Aa, ca, rfl, _, _, ra, _⟩ := OwnK.form oa12
            obtain ⟨Ab, cb, rfl, _, _, rb, _⟩ := OwnK.form ob
            have hle : (if (wStep (wAll (ds.take i)) ds[i]).2 = 0 then (wStep (wAll (ds.take i)) ds[i]).1 else []).length ≤ 100000 := by split; omega; simp
            refine vl_val (os_move rfl) ?_
            refine vl_val (os_extract rfl rfl) ?_
            refine vl_val (os_extract rfl rfl) ?_
            refine vl_val (os_assign rfl) ?_
            refine vl_val (os_assign rfl) ?_
            refine vl_nil ?_
            refine v_seq ?_
            refine v_seq ?_
            refine v_region ?_
            refine vl_val (os_move rfl) ?_
            refine vl_val (os_move rfl) ?_
            refine vl_val (os_f (os_neq rfl rfl) (by simp)) ?_
            refine vl_val (os_move rfl) ?_
            refine vl_valg rfl (os_move rfl) ?_
            refine vl_valg rfl (os_move rfl) ?_
            refine vl_callg rfl ((kit_SameBytes Aa Ab _ _ ca cb _ _ w12 ra rb rfl rfl (by omega) (by omega)).mono fun v w' hh => (⟨by rw [hh.1, decide_eq_true rfl], hh.2⟩ : v = .bool true ∧ LeD w12 w')) rfl ?_
            rintro v13 w13 ⟨rfl, d13⟩
            have oa13 := Own.led oa12 d13
            refine vl_valg rfl (os_not rfl) ?_
            refine vl_val (os_pick_f rfl rfl) ?_
            refine vl_nil ?_
            refine v_cond_f rfl ?_
            refine v_skip ?_
            refine v_region ?_
            refine vl_val (os_move rfl) ?_
            refine vl_call (kit_OverBytes _ _ _ w13 oa13 (by rw [List.length_map]; omega)) rfl ?_
            rintro v14 w14 k14
            have hS14 : ∀ k ∈ (Value.slice Aa (if (wStep (wAll (ds.take i)) ds[i]).2 = 0 then (wStep (wAll (ds.take i)) ds[i]).1 else []).length ca).ownBlock.toList, w10.heap.size ≤ k := fun k hk => (World.ownsRow.lt oa13 k (by simpa using hk)).1
            have bw13 := bw12.trans ((led_below d13).mono bw12.size)
            have hw14 := (hw12.keep (led_below d13)).kb k14 (fun k hk hk2 => by have h1 := hS14 k hk2; have h2 := hw10.lt k hk; omega)
            have hf14 := (hf12.keep (led_below d13)).kb k14 (fun k hk hk2 => by have h1 := hS14 k hk2; have h2 := hf10.lt k hk; omega)
            refine vl_nil ?_
            refine v_region ?_
            refine vl_val (os_move rfl) ?_
            refine vl_val (os_addi rfl rfl (by omega)) ?_
            refine vl_val (os_assign rfl) ?_
            refine vl_nil ?_
            exact ⟨i + 1, ⟨rfl, rfl, rfl, trivial⟩, ⟨rfl, trivial⟩, ⟨by omega, k14.below bw13 (fun k hk => by have := hS14 k hk; have := bw10.size; omega) bw13.size, v7, v8, by rw [wAll_snoc hd]; exact hw14, by rw [wAll_snoc hd]; exact hf14, hdj8⟩, by dsimp only; omega⟩
        · refine vn_val rfl (os_load Try.isAgg3 rfl ((hc5.led ⟨1, rfl⟩).c4.2.2.1)) ?_
          refine va_one 5 (by kernel_rfl) ?_
          refine vn_val rfl (os_load Try.isAgg3 rfl ((hc5.led ⟨1, rfl⟩).c4.2.1)) ?_
          refine va_one 11 (by kernel_rfl) ?_
          refine vn_call rfl (pk_Number g v' _ _ ds[i].n ds[i].size _ _ (hw5.keep (led_below ⟨1, rfl⟩)) (by have := bw5.size; simp; omega) (by omega)) rfl ?_
          rintro u7 w7 ⟨v7, h7, k7, o7⟩
          have h7 : WrS w7 w.heap.size 113 g v7 (wStep (wAll (ds.take i)) ds[i]).1 (wStep (wAll (ds.take i)) ds[i]).2 := by rw [wStep, if_pos hpk]; exact h7
          have hkb7 : Kb (WrS.blocks g v') w5 w7 := (Kb.led ⟨1, rfl⟩).trans k7 (fun k hk => .inl hk)
          have hn7 : ∀ k ∈ WrS.blocks g v7, k ∈ WrS.blocks g v' ∨ w5.heap.size ≤ k := blocks_new o7
          have hf7 := hf5.kb hkb7 (fun k hk hk2 => hdj k hk2 hk)
          have hL7 := hL.kb hkb7 (fun hh => by have := hw.lt gi hh; omega)
          have bw7 := hkb7.below bw5 (blocks_low hw5) bw5.size
          have hdj7 : Dj (WrS.blocks g v7) (WrS.blocks g2 u') := (hdj.symm.new hf5.lt hn7).symm
          obtain ⟨_, _, e7, hc7, hk7⟩ := (ha.keep bw7).at_ hd
          cases e7
          refine va_done (by kernel_rfl) ?_
          refine v_region_a mixed ?_
          refine va_pure 0 rfl (by kernel_rfl) (by kernel_rfl) (by kernel_rfl) (fun w => (os_move rfl)) ?_
          refine va_pure 1 rfl (by kernel_rfl) (by kernel_rfl) (by kernel_rfl) (fun w => (os_move rfl)) ?_
          refine va_pure 2 rfl (by kernel_rfl) (by kernel_rfl) (by kernel_rfl) (fun w => (os_move rfl)) ?_
          refine va_pure 3 rfl (by kernel_rfl) (by kernel_rfl) (by kernel_rfl) (fun w => (os_ixs Try.underlying49 Try.sizeOf58 rfl rfl (i := i) (by omega) (by omega))) ?_
          refine va_pure 4 rfl (by kernel_rfl) (by kernel_rfl) (by kernel_rfl) (fun w => (os_fa (o := 1) (k := 0) (by kernel_rfl) rfl)) ?_
          refine va_pure 6 rfl (by kernel_rfl) (by kernel_rfl) (by kernel_rfl) (fun w => (os_move rfl)) ?_
          refine va_pure 7 rfl (by kernel_rfl) (by kernel_rfl) (by kernel_rfl) (fun w => (os_move rfl)) ?_
          refine va_pure 8 rfl (by kernel_rfl) (by kernel_rfl) (by kernel_rfl) (fun w => (os_ixs Try.underlying49 Try.sizeOf58 rfl rfl (i := i) (by omega) (by omega))) ?_
          refine va_pure 9 rfl (by kernel_rfl) (by kernel_rfl) (by kernel_rfl) (fun w => (os_fa (o := 2) (k := 0) (by kernel_rfl) rfl)) ?_
          refine va_two 5 10 (by kernel_rfl) ?_ ?_
          · refine vn_val rfl (os_load Try.isAgg3 rfl ((hc7.led ⟨1, rfl⟩).c4.2.1)) ?_
            refine va_one 10 (by kernel_rfl) ?_
            refine vn_val rfl (os_load Try.isAgg3 rfl ((hc7.led ⟨1, rfl⟩).c4.2.2.1)) ?_
            refine va_one 11 (by kernel_rfl) ?_
            refine vn_call rfl (rf_Number g2 u' _ _ ds[i].n ds[i].size _ _ (hf7.keep (led_below ⟨1, rfl⟩)) (by have := bw7.size; simp; omega) (by omega)) rfl ?_
            rintro u8 w8 ⟨v8, h8, k8, o8⟩
            have hf8 : WfS w8 w.heap.size g2 v8 (wStep (wAll (ds.take i)) ds[i]).1 (wStep (wAll (ds.take i)) ds[i]).2 := by rw [wStep, if_pos hpk]; exact h8
            have hkb8 : Kb (WrS.blocks g2 u') w7 w8 := (Kb.led ⟨1, rfl⟩).trans k8 (fun k hk => .inl hk)
            have hn8 : ∀ k ∈ WrS.blocks g2 v8, k ∈ WrS.blocks g2 u' ∨ w7.heap.size ≤ k := blocks_new o8
            have hw8 := h7.kb hkb8 hdj7
            have hL8 := hL7.kb hkb8 (fun hh => by have := hf.lt gi hh; omega)
            have bw8 := hkb8.below bw7 (blocks_low2 hf7) bw7.size
            have hdj8 : Dj (WrS.blocks g v7) (WrS.blocks g2 v8) := hdj7.new h7.lt hn8
            have hgi1 : gi ∉ WrS.blocks g v7 := fun hh => by rcases hn7 gi hh with h1 | h1; (have := hw.lt gi h1; omega); (omega)
            have hgi2 : gi ∉ WrS.blocks g2 v8 := fun hh => by rcases hn8 gi hh with h1 | h1; (have := hf.lt gi h1; omega); (have := hkb7.size; omega)
            obtain ⟨_, _, e8, hc8, hk8⟩ := (ha.keep bw8).at_ hd
            cases e8
            refine va_done (by kernel_rfl) ?_
            refine v_seq ?_
            refine v_seq ?_
            refine v_region ?_
            refine vl_val (os_move rfl) ?_
            refine vl_val (os_move rfl) ?_
            refine vl_val (os_move rfl) ?_
            refine vl_val (os_ixs Try.underlying49 Try.sizeOf58 rfl rfl (i := i) (by omega) (by omega)) ?_
            refine vl_val (os_fa (o := 3) (k := 0) (by kernel_rfl) rfl) ?_
            refine vl_val (os_load Try.isAgg22 rfl (hc8.c4.2.2.2)) ?_
            refine vl_call (kit_KeptBytes _ _ _ _ _ ds[i].bs w8 hL8 hk8.rd hlk.symm (by omega)) rfl ?_
            rintro v9 w9 ⟨rfl, d9⟩
            have hw9 := hw8.keep (led_below d9)
            have hf9 := hf8.keep (led_below d9)
            have hL9 := hL8.keep (led_below d9)
            have bw9 := bw8.trans ((led_below d9).mono bw8.size)
            refine vl_val (os_not rfl) ?_
            refine vl_nil ?_
            refine v_cond_f rfl ?_
            refine v_skip ?_
            refine v_seq ?_
            refine v_region ?_
            refine vl_val (os_move rfl) ?_
            refine vl_call (kit_OverBytes _ _ _ w9 hL9.own (by rw [List.length_map]; omega)) rfl ?_
            rintro v10 w10 k10
            have k10' : Kb [gi] w9 w10 := k10
            have hw10 := hw9.kb k10' (fun k hk hk2 => by rw [List.mem_singleton.1 hk2] at hk; exact hgi1 hk)
            have hf10 := hf9.kb k10' (fun k hk hk2 => by rw [List.mem_singleton.1 hk2] at hk; exact hgi2 hk)
            have bw10 := k10'.below bw9 (fun k hk => by rw [List.mem_singleton.1 hk]; have := bw.size; omega) bw9.size
            refine vl_nil ?_
            refine v_seq ?_
            refine v_region ?_
            refine vl_val (os_move rfl) ?_
            refine vl_call (pk_Bytes g v7 _ _ _ w10 hw10 (by omega)) rfl ?_
            rintro u11 w11 ⟨sa, rfl, oa, b11⟩
            have hw11 := hw10.keep b11
            have hf11 := hf10.keep b11
            have bw11 := bw10.trans (b11.mono bw10.size)
            refine vl_val (os_move rfl) ?_
            refine vl_val (os_extract rfl rfl) ?_
            refine vl_val (os_extract rfl rfl) ?_
            refine vl_val (os_assign rfl) ?_
            refine vl_val (os_assign rfl) ?_
            refine vl_nil ?_
            refine v_seq ?_
            refine v_region ?_
            refine vl_val (os_move rfl) ?_
            refine vl_call (rf_Bytes g2 v8 _ _ _ w11 hf11 (by omega)) rfl ?_
            rintro u12 w12 ⟨sb, rfl, ob, b12⟩
            have hw12 := hw11.keep b12
            have hf12 := hf11.keep b12
            have bw12 := bw11.trans (b12.mono bw11.size)
            have oa12 := Own.keepAll oa b12
            obtain ⟨Aa, ca, rfl, _, _, ra, _⟩ := OwnK.form oa12
            obtain ⟨Ab, cb, rfl, _, _, rb, _⟩ := OwnK.form ob
            have hle : (if (wStep (wAll (ds.take i)) ds[i]).2 = 0 then (wStep (wAll (ds.take i)) ds[i]).1 else []).length ≤ 100000 := by split; omega; simp
            refine vl_val (os_move rfl) ?_
            refine vl_val (os_extract rfl rfl) ?_
            refine vl_val (os_extract rfl rfl) ?_
            refine vl_val (os_assign rfl) ?_
            refine vl_val (os_assign rfl) ?_
            refine vl_nil ?_
            refine v_seq ?_
            refine v_seq ?_
            refine v_region ?_
            refine vl_val (os_move rfl) ?_
            refine vl_val (os_move rfl) ?_
            refine vl_val (os_f (os_neq rfl rfl) (by simp)) ?_
            refine vl_val (os_move rfl) ?_
            refine vl_valg rfl (os_move rfl) ?_
            refine vl_valg rfl (os_move rfl) ?_
            refine vl_callg rfl ((kit_SameBytes Aa Ab _ _ ca cb _ _ w12 ra rb rfl rfl (by omega) (by omega)).mono fun v w' hh => (⟨by rw [hh.1, decide_eq_true rfl], hh.2⟩ : v = .bool true ∧ LeD w12 w')) rfl ?_
            rintro v13 w13 ⟨rfl, d13⟩
            have oa13 := Own.led oa12 d13
            refine vl_valg rfl (os_not rfl) ?_
            refine vl_val (os_pick_f rfl rfl) ?_
            refine vl_nil ?_
            refine v_cond_f rfl ?_
            refine v_skip ?_
            refine v_region ?_
            refine vl_val (os_move rfl) ?_
            refine vl_call (kit_OverBytes _ _ _ w13 oa13 (by rw [List.length_map]; omega)) rfl ?_
            rintro v14 w14 k14
            have hS14 : ∀ k ∈ (Value.slice Aa (if (wStep (wAll (ds.take i)) ds[i]).2 = 0 then (wStep (wAll (ds.take i)) ds[i]).1 else []).length ca).ownBlock.toList, w10.heap.size ≤ k := fun k hk => (World.ownsRow.lt oa13 k (by simpa using hk)).1
            have bw13 := bw12.trans ((led_below d13).mono bw12.size)
            have hw14 := (hw12.keep (led_below d13)).kb k14 (fun k hk hk2 => by have h1 := hS14 k hk2; have h2 := hw10.lt k hk; omega)
            have hf14 := (hf12.keep (led_below d13)).kb k14 (fun k hk hk2 => by have h1 := hS14 k hk2; have h2 := hf10.lt k hk; omega)
            refine vl_nil ?_
            refine v_region ?_
            refine vl_val (os_move rfl) ?_
            refine vl_val (os_addi rfl rfl (by omega)) ?_
            refine vl_val (os_assign rfl) ?_
            refine vl_nil ?_
            exact ⟨i + 1, ⟨rfl, rfl, rfl, trivial⟩, ⟨rfl, trivial⟩, ⟨by omega, k14.below bw13 (fun k hk => by have := hS14 k hk; have := bw10.size; omega) bw13.size, v7, v8, by rw [wAll_snoc hd]; exact hw14, by rw [wAll_snoc hd]; exact hf14, hdj8⟩, by dsimp only; omega⟩
          · refine vn_val rfl (os_load Try.isAgg3 rfl ((hc7.led ⟨1, rfl⟩).c4.2.2.1)) ?_
            refine va_one 5 (by kernel_rfl) ?_
            refine vn_val rfl (os_load Try.isAgg3 rfl ((hc7.led ⟨1, rfl⟩).c4.2.1)) ?_
            refine va_one 11 (by kernel_rfl) ?_
            refine vn_call rfl (rf_Number g2 u' _ _ ds[i].n ds[i].size _ _ (hf7.keep (led_below ⟨1, rfl⟩)) (by have := bw7.size; simp; omega) (by omega)) rfl ?_
            rintro u8 w8 ⟨v8, h8, k8, o8⟩
            have hf8 : WfS w8 w.heap.size g2 v8 (wStep (wAll (ds.take i)) ds[i]).1 (wStep (wAll (ds.take i)) ds[i]).2 := by rw [wStep, if_pos hpk]; exact h8
            have hkb8 : Kb (WrS.blocks g2 u') w7 w8 := (Kb.led ⟨1, rfl⟩).trans k8 (fun k hk => .inl hk)
            have hn8 : ∀ k ∈ WrS.blocks g2 v8, k ∈ WrS.blocks g2 u' ∨ w7.heap.size ≤ k := blocks_new o8
            have hw8 := h7.kb hkb8 hdj7
            have hL8 := hL7.kb hkb8 (fun hh => by have := hf.lt gi hh; omega)
            have bw8 := hkb8.below bw7 (blocks_low2 hf7) bw7.size
            have hdj8 : Dj (WrS.blocks g v7) (WrS.blocks g2 v8) := hdj7.new h7.lt hn8
            have hgi1 : gi ∉ WrS.blocks g v7 := fun hh => by rcases hn7 gi hh with h1 | h1; (have := hw.lt gi h1; omega); (omega)
            have hgi2 : gi ∉ WrS.blocks g2 v8 := fun hh => by rcases hn8 gi hh with h1 | h1; (have := hf.lt gi h1; omega); (have := hkb7.size; omega)
            obtain ⟨_, _, e8, hc8, hk8⟩ := (ha.keep bw8).at_ hd
            cases e8
            refine va_done (by kernel_rfl) ?_
            refine v_seq ?_
            refine v_seq ?_
            refine v_region ?_
            refine vl_val (os_move rfl) ?_
            refine vl_val (os_move rfl) ?_
            refine vl_val (os_move rfl) ?_
            refine vl_val (os_ixs Try.underlying49 Try.sizeOf58 rfl rfl (i := i) (by omega) (by omega)) ?_
            refine vl_val (os_fa (o := 3) (k := 0) (by kernel_rfl) rfl) ?_
            refine vl_val (os_load Try.isAgg22 rfl (hc8.c4.2.2.2)) ?_
            refine vl_call (kit_KeptBytes _ _ _ _ _ ds[i].bs w8 hL8 hk8.rd hlk.symm (by omega)) rfl ?_
            rintro v9 w9 ⟨rfl, d9⟩
            have hw9 := hw8.keep (led_below d9)
            have hf9 := hf8.keep (led_below d9)
            have hL9 := hL8.keep (led_below d9)
            have bw9 := bw8.trans ((led_below d9).mono bw8.size)
            refine vl_val (os_not rfl) ?_
            refine vl_nil ?_
            refine v_cond_f rfl ?_
            refine v_skip ?_
            refine v_seq ?_
            refine v_region ?_
            refine vl_val (os_move rfl) ?_
            refine vl_call (kit_OverBytes _ _ _ w9 hL9.own (by rw [List.length_map]; omega)) rfl ?_
            rintro v10 w10 k10
            have k10' : Kb [gi] w9 w10 := k10
            have hw10 := hw9.kb k10' (fun k hk hk2 => by rw [List.mem_singleton.1 hk2] at hk; exact hgi1 hk)
            have hf10 := hf9.kb k10' (fun k hk hk2 => by rw [List.mem_singleton.1 hk2] at hk; exact hgi2 hk)
            have bw10 := k10'.below bw9 (fun k hk => by rw [List.mem_singleton.1 hk]; have := bw.size; omega) bw9.size
            refine vl_nil ?_
            refine v_seq ?_
            refine v_region ?_
            refine vl_val (os_move rfl) ?_
            refine vl_call (pk_Bytes g v7 _ _ _ w10 hw10 (by omega)) rfl ?_
            rintro u11 w11 ⟨sa, rfl, oa, b11⟩
            have hw11 := hw10.keep b11
            have hf11 := hf10.keep b11
            have bw11 := bw10.trans (b11.mono bw10.size)
            refine vl_val (os_move rfl) ?_
            refine vl_val (os_extract rfl rfl) ?_
            refine vl_val (os_extract rfl rfl) ?_
            refine vl_val (os_assign rfl) ?_
            refine vl_val (os_assign rfl) ?_
            refine vl_nil ?_
            refine v_seq ?_
            refine v_region ?_
            refine vl_val (os_move rfl) ?_
            refine vl_call (rf_Bytes g2 v8 _ _ _ w11 hf11 (by omega)) rfl ?_
            rintro u12 w12 ⟨sb, rfl, ob, b12⟩
            have hw12 := hw11.keep b12
            have hf12 := hf11.keep b12
            have bw12 := bw11.trans (b12.mono bw11.size)
            have oa12 := Own.keepAll oa b12
            obtain ⟨Aa, ca, rfl, _, _, ra, _⟩ := OwnK.form oa12
            obtain ⟨Ab, cb, rfl, _, _, rb, _⟩ := OwnK.form ob
            have hle : (if (wStep (wAll (ds.take i)) ds[i]).2 = 0 then (wStep (wAll (ds.take i)) ds[i]).1 else []).length ≤ 100000 := by split; omega; simp
            refine vl_val (os_move rfl) ?_
            refine vl_val (os_extract rfl rfl) ?_
            refine vl_val (os_extract rfl rfl) ?_
            refine vl_val (os_assign rfl) ?_
            refine vl_val (os_assign rfl) ?_
            refine vl_nil ?_
            refine v_seq ?_
            refine v_seq ?_
            refine v_region ?_
            refine vl_val (os_move rfl) ?_
            refine vl_val (os_move rfl) ?_
            refine vl_val (os_f (os_neq rfl rfl) (by simp)) ?_
            refine vl_val (os_move rfl) ?_
            refine vl_valg rfl (os_move rfl) ?_
            refine vl_valg rfl (os_move rfl) ?_
            refine vl_callg rfl ((kit_SameBytes Aa Ab _ _ ca cb _ _ w12 ra rb rfl rfl (by omega) (by omega)).mono fun v w' hh => (⟨by rw [hh.1, decide_eq_true rfl], hh.2⟩ : v = .bool true ∧ LeD w12 w')) rfl ?_
            rintro v13 w13 ⟨rfl, d13⟩
            have oa13 := Own.led oa12 d13
            refine vl_valg rfl (os_not rfl) ?_
            refine vl_val (os_pick_f rfl rfl) ?_
            refine vl_nil ?_
            refine v_cond_f rfl ?_
            refine v_skip ?_
            refine v_region ?_
            refine vl_val (os_move rfl) ?_
            refine vl_call (kit_OverBytes _ _ _ w13 oa13 (by rw [List.length_map]; omega)) rfl ?_
            rintro v14 w14 k14
            have hS14 : ∀ k ∈ (Value.slice Aa (if (wStep (wAll (ds.take i)) ds[i]).2 = 0 then (wStep (wAll (ds.take i)) ds[i]).1 else []).length ca).ownBlock.toList, w10.heap.size ≤ k := fun k hk => (World.ownsRow.lt oa13 k (by simpa using hk)).1
            have bw13 := bw12.trans ((led_below d13).mono bw12.size)
            have hw14 := (hw12.keep (led_below d13)).kb k14 (fun k hk hk2 => by have h1 := hS14 k hk2; have h2 := hw10.lt k hk; omega)
            have hf14 := (hf12.keep (led_below d13)).kb k14 (fun k hk hk2 => by have h1 := hS14 k hk2; have h2 := hf10.lt k hk; omega)
            refine vl_nil ?_
            refine v_region ?_
            refine vl_val (os_move rfl) ?_
            refine vl_val (os_addi rfl rfl (by omega)) ?_
            refine vl_val (os_assign rfl) ?_
            refine vl_nil ?_
            exact ⟨i + 1, ⟨rfl, rfl, rfl, trivial⟩, ⟨rfl, trivial⟩, ⟨by omega, k14.below bw13 (fun k hk => by have := hS14 k hk; have := bw10.size; omega) bw13.size, v7, v8, by rw [wAll_snoc hd]; exact hw14, by rw [wAll_snoc hd]; exact hf14, hdj8⟩, by dsimp only; omega⟩
      · refine v_seq ?_
        refine v_region ?_
        refine vl_val (os_move rfl) ?_
        refine vl_val (os_move rfl) ?_
        refine vl_call (pk_Put g v' _ _ _ _ _ _ ds[i].bs w5 hw5 rdi rfl bw5.size (by omega)) rfl ?_
        rintro u7 w7 ⟨v7, h7, k7, o7⟩
        have h7 : WrS w7 w.heap.size 113 g v7 (wStep (wAll (ds.take i)) ds[i]).1 (wStep (wAll (ds.take i)) ds[i]).2 := by rw [wStep, if_neg hpk]; exact h7
        have hkb7 : Kb (WrS.blocks g v') w5 w7 := k7
        have hn7 : ∀ k ∈ WrS.blocks g v7, k ∈ WrS.blocks g v' ∨ w5.heap.size ≤ k := blocks_new o7
        have hf7 := hf5.kb hkb7 (fun k hk hk2 => hdj k hk2 hk)
        have hL7 := hL.kb hkb7 (fun hh => by have := hw.lt gi hh; omega)
        have bw7 := hkb7.below bw5 (blocks_low hw5) bw5.size
        have hdj7 : Dj (WrS.blocks g v7) (WrS.blocks g2 u') := (hdj.symm.new hf5.lt hn7).symm
        obtain ⟨_, _, e7, hc7, hk7⟩ := (ha.keep bw7).at_ hd
        cases e7
        refine vl_nil ?_
        refine v_region ?_
        refine vl_val (os_move rfl) ?_
        refine vl_val (os_move rfl) ?_
        refine vl_val (os_move rfl) ?_
        refine vl_val (os_ixs Try.underlying49 Try.sizeOf58 rfl rfl (i := i) (by omega) (by omega)) ?_
        refine vl_val (os_fa (o := 3) (k := 0) (by kernel_rfl) rfl) ?_
        refine vl_val (os_load Try.isAgg22 rfl (hc7.c4.2.2.2)) ?_
        refine vl_call (rf_Put g2 u' _ _ _ _ _ _ ds[i].bs w7 hf7 hk7.rd hlk.symm bw7.size (by omega)) rfl ?_
        rintro u8 w8 ⟨v8, h8, k8, o8⟩
        have hf8 : WfS w8 w.heap.size g2 v8 (wStep (wAll (ds.take i)) ds[i]).1 (wStep (wAll (ds.take i)) ds[i]).2 := by rw [wStep, if_neg hpk]; exact h8
        have hkb8 : Kb (WrS.blocks g2 u') w7 w8 := k8
        have hn8 : ∀ k ∈ WrS.blocks g2 v8, k ∈ WrS.blocks g2 u' ∨ w7.heap.size ≤ k := blocks_new o8
        have hw8 := h7.kb hkb8 hdj7
        have hL8 := hL7.kb hkb8 (fun hh => by have := hf.lt gi hh; omega)
        have bw8 := hkb8.below bw7 (blocks_low2 hf7) bw7.size
        have hdj8 : Dj (WrS.blocks g v7) (WrS.blocks g2 v8) := hdj7.new h7.lt hn8
        have hgi1 : gi ∉ WrS.blocks g v7 := fun hh => by rcases hn7 gi hh with h1 | h1; (have := hw.lt gi h1; omega); (omega)
        have hgi2 : gi ∉ WrS.blocks g2 v8 := fun hh => by rcases hn8 gi hh with h1 | h1; (have := hf.lt gi h1; omega); (have := hkb7.size; omega)
        obtain ⟨_, _, e8, hc8, hk8⟩ := (ha.keep bw8).at_ hd
        cases e8
        refine vl_nil ?_
        refine v_seq ?_
        refine v_seq ?_
        refine v_region ?_
        refine vl_val (os_move rfl) ?_
        refine vl_val (os_move rfl) ?_
        refine vl_val (os_move rfl) ?_
        refine vl_val (os_ixs Try.underlying49 Try.sizeOf58 rfl rfl (i := i) (by omega) (by omega)) ?_
        refine vl_val (os_fa (o := 3) (k := 0) (by kernel_rfl) rfl) ?_
        refine vl_val (os_load Try.isAgg22 rfl (hc8.c4.2.2.2)) ?_
        refine vl_call (kit_KeptBytes _ _ _ _ _ ds[i].bs w8 hL8 hk8.rd hlk.symm (by omega)) rfl ?_
        rintro v9 w9 ⟨rfl, d9⟩
        have hw9 := hw8.keep (led_below d9)
        have hf9 := hf8.keep (led_below d9)
        have hL9 := hL8.keep (led_below d9)
        have bw9 := bw8.trans ((led_below d9).mono bw8.size)
        refine vl_val (os_not rfl) ?_
        refine vl_nil ?_
        refine v_cond_f rfl ?_
        refine v_skip ?_
        refine v_seq ?_
        refine v_region ?_
        refine vl_val (os_move rfl) ?_
        refine vl_call (kit_OverBytes _ _ _ w9 hL9.own (by rw [List.length_map]; omega)) rfl ?_
        rintro v10 w10 k10
        have k10' : Kb [gi] w9 w10 := k10
        have hw10 := hw9.kb k10' (fun k hk hk2 => by rw [List.mem_singleton.1 hk2] at hk; exact hgi1 hk)
        have hf10 := hf9.kb k10' (fun k hk hk2 => by rw [List.mem_singleton.1 hk2] at hk; exact hgi2 hk)
        have bw10 := k10'.below bw9 (fun k hk => by rw [List.mem_singleton.1 hk]; have := bw.size; omega) bw9.size
        refine vl_nil ?_
        refine v_seq ?_
        refine v_region ?_
        refine vl_val (os_move rfl) ?_
        refine vl_call (pk_Bytes g v7 _ _ _ w10 hw10 (by omega)) rfl ?_
        rintro u11 w11 ⟨sa, rfl, oa, b11⟩
        have hw11 := hw10.keep b11
        have hf11 := hf10.keep b11
        have bw11 := bw10.trans (b11.mono bw10.size)
        refine vl_val (os_move rfl) ?_
        refine vl_val (os_extract rfl rfl) ?_
        refine vl_val (os_extract rfl rfl) ?_
        refine vl_val (os_assign rfl) ?_
        refine vl_val (os_assign rfl) ?_
        refine vl_nil ?_
        refine v_seq ?_
        refine v_region ?_
        refine vl_val (os_move rfl) ?_
        refine vl_call (rf_Bytes g2 v8 _ _ _ w11 hf11 (by omega)) rfl ?_
        rintro u12 w12 ⟨sb, rfl, ob, b12⟩
        have hw12 := hw11.keep b12
        have hf12 := hf11.keep b12
        have bw12 := bw11.trans (b12.mono bw11.size)
        have oa12 := Own.keepAll oa b12
        obtain ⟨Aa, ca, rfl, _, _, ra, _⟩ := OwnK.form oa12
        obtain ⟨Ab, cb, rfl, _, _, rb, _⟩ := OwnK.form ob
        have hle : (if (wStep (wAll (ds.take i)) ds[i]).2 = 0 then (wStep (wAll (ds.take i)) ds[i]).1 else []).length ≤ 100000 := by split; omega; simp
        refine vl_val (os_move rfl) ?_
        refine vl_val (os_extract rfl rfl) ?_
        refine vl_val (os_extract rfl rfl) ?_
        refine vl_val (os_assign rfl) ?_
        refine vl_val (os_assign rfl) ?_
        refine vl_nil ?_
        refine v_seq ?_
        refine v_seq ?_
        refine v_region ?_
        refine vl_val (os_move rfl) ?_
        refine vl_val (os_move rfl) ?_
        refine vl_val (os_f (os_neq rfl rfl) (by simp)) ?_
        refine vl_val (os_move rfl) ?_
        refine vl_valg rfl (os_move rfl) ?_
        refine vl_valg rfl (os_move rfl) ?_
        refine vl_callg rfl ((kit_SameBytes Aa Ab _ _ ca cb _ _ w12 ra rb rfl rfl (by omega) (by omega)).mono fun v w' hh => (⟨by rw [hh.1, decide_eq_true rfl], hh.2⟩ : v = .bool true ∧ LeD w12 w')) rfl ?_
        rintro v13 w13 ⟨rfl, d13⟩
        have oa13 := Own.led oa12 d13
        refine vl_valg rfl (os_not rfl) ?_
        refine vl_val (os_pick_f rfl rfl) ?_
        refine vl_nil ?_
        refine v_cond_f rfl ?_
        refine v_skip ?_
        refine v_region ?_
        refine vl_val (os_move rfl) ?_
        refine vl_call (kit_OverBytes _ _ _ w13 oa13 (by rw [List.length_map]; omega)) rfl ?_
        rintro v14 w14 k14
        have hS14 : ∀ k ∈ (Value.slice Aa (if (wStep (wAll (ds.take i)) ds[i]).2 = 0 then (wStep (wAll (ds.take i)) ds[i]).1 else []).length ca).ownBlock.toList, w10.heap.size ≤ k := fun k hk => (World.ownsRow.lt oa13 k (by simpa using hk)).1
        have bw13 := bw12.trans ((led_below d13).mono bw12.size)
        have hw14 := (hw12.keep (led_below d13)).kb k14 (fun k hk hk2 => by have h1 := hS14 k hk2; have h2 := hw10.lt k hk; omega)
        have hf14 := (hf12.keep (led_below d13)).kb k14 (fun k hk hk2 => by have h1 := hS14 k hk2; have h2 := hf10.lt k hk; omega)
        refine vl_nil ?_
        refine v_region ?_
        refine vl_val (os_move rfl) ?_
        refine vl_val (os_addi rfl rfl (by omega)) ?_
        refine vl_val (os_assign rfl) ?_
        refine vl_nil ?_
        exact ⟨i + 1, ⟨rfl, rfl, rfl, trivial⟩, ⟨rfl, trivial⟩, ⟨by omega, k14.below bw13 (fun k hk => by have := hS14 k hk; have := bw10.size; omega) bw13.size, v7, v8, by rw [wAll_snoc hd]; exact hw14, by rw [wAll_snoc hd]; exact hf14, hdj8⟩, by dsimp only; omega⟩
    · refine v_exit ?_
      refine v_seq ?_
      refine v_region ?_
      refine vl_call (law08_awake w') rfl ?_
      rintro v1 w1 ⟨rfl, b1⟩
      refine vl_val (os_assign rfl) ?_
      refine vl_nil ?_
      refine v_ret ?_
      exact post_ret rfl rfl (⟨rfl, bw.trans (b1.mono bw.size)⟩)
end Go.Proofs.Ytpcfifheegfjiaa
