/- Layer 7: the walk of SumDoes. -/
import Derived.Test.YtmbcflanifoofaaSmP
import Derived.Test.YtmbcflanifoofaaKitR
import Derived.Test.YtmbcflanifoofaaFlEB
namespace Go.Proofs.Ytmbcflanifoofaa
open Go.RowKit
set_option linter.unusedVariables false

theorem Own.part {w : World} {B : Nat} {t : TypeId} {g n c m : Nat} {cs : List Value} (h : Own w B t (.slice (some ⟨g, 0, none⟩) n c) cs) (hm : m ≤ c) : ∃ ds, ds.length = m ∧ Own w B t (.slice (some ⟨g, 0, none⟩) m c) ds := by
  rcases h.2 with ⟨h1, _⟩ | ⟨g', cap, cur, h1, hB, hg, hnc, hcm, hs, ht⟩
  · cases h1
  · cases h1
    have hl : (cur.toList.take m).length = m := by rw [List.length_take, Array.length_toList, hs]; omega
    exact ⟨cur.toList.take m, hl, by simp, .inr ⟨g, c, cur, by rw [hl], hB, hg, by omega, hcm, hs, by rw [hl]; simp⟩⟩
/-- how many there are in all -/
def lenS : List (List Int) → Nat
  | [] => 0
  | l :: r => l.length + lenS r
theorem lenS_take {ls : List (List Int)} {i : Nat} (hi : i < ls.length) : lenS (ls.take (i + 1)) = lenS (ls.take i) + (ls.getD i []).length := by
  induction ls generalizing i with
  | nil => simp at hi
  | cons l r ih =>
    cases i with
    | zero => simp [lenS]
    | succ i => rw [List.take_succ_cons, List.take_succ_cons, lenS, lenS, ih (by simpa using hi)]; simp; omega
theorem lenS_mem {ls : List (List Int)} : ∀ l ∈ ls, l.length ≤ lenS ls := by
  induction ls with
  | nil => intro l hl; cases hl
  | cons l r ih =>
    intro x hx
    rcases List.mem_cons.1 hx with rfl | hx
    · simp [lenS]
    · have := ih x hx; simp [lenS]; omega
theorem law07_size (A : Option Addr) (n c : Nat) (ls : List (List Int)) (w : World) (ha : RdS w .u8 A ls) (hn : n = ls.length) (hm : n ≤ 140737488351232) : Gives Try.prog 36 #[.slice A n c] w fun v w' => (∃ N : Nat, v = .int .i64 N ∧ N ≤ 200000000000000 ∧ (N ≤ 20000 → ls.length + lenS ls ≤ 20000)) ∧ w' = w := by
  refine gives_enter Try.call36 Try.func36 rfl rfl rfl (by kernel_rfl) ?_
  refine v_seq ?_
  refine v_region ?_
  refine vl_val (os_assign rfl) ?_
  refine vl_nil ?_
  refine v_seq ?_
  refine v_region ?_
  refine vl_val (os_move rfl) ?_
  refine vl_val (os_len Try.underlying34 rfl) ?_
  refine vl_val (os_assign rfl) ?_
  refine vl_nil ?_
  refine v_seq ?_
  refine v_seq ?_
  refine v_region ?_
  refine vl_val (os_assign rfl) ?_
  refine vl_nil ?_
  refine v_block ?_
  refine v_loop2 [(0, _)] (fun (N : Nat) (i : Nat) => [(3, .int .i64 N), (4, .int .i64 i)]) (fun N i w' => i ≤ n ∧ N = n + lenS (ls.take i) ∧ N ≤ 200000000000000 ∧ w' = w) (fun N i => n - i) (n) (0) ⟨rfl, trivial⟩ ⟨rfl, rfl, trivial⟩ (⟨by omega, by simp [lenS], by omega, rfl⟩) ?_
  rintro N i w' ⟨hi, hN, hN2, rfl⟩
  rcases (by omega : n ≤ i ∨ (i < n ∧ 20000 < N) ∨ (i < n ∧ N ≤ 20000)) with h | ⟨h, h2⟩ | ⟨h, h2⟩
  · refine v_seq ?_
    refine v_seq ?_
    refine v_region ?_
    refine vl_val (os_move rfl) ?_
    refine vl_val (os_move rfl) ?_
    refine vl_val (os_len Try.underlying34 rfl) ?_
    refine vl_val (os_f (os_lss rfl rfl) (by omega)) ?_
    refine vl_val (os_move rfl) ?_
    refine vl_skip rfl rfl ?_
    refine vl_skip rfl rfl ?_
    refine vl_val (os_pick_f rfl rfl) ?_
    refine vl_nil ?_
    refine v_cond_f rfl ?_
    refine v_exit ?_
    refine v_seq ?_
    refine v_region ?_
    refine vl_val (os_move rfl) ?_
    refine vl_val (os_assign rfl) ?_
    refine vl_nil ?_
    refine v_ret ?_
    exact post_ret rfl rfl (⟨⟨N, rfl, hN2, fun hh => by rw [List.take_of_length_le (by omega)] at hN; omega⟩, rfl⟩)
  · refine v_seq ?_
    refine v_seq ?_
    refine v_region ?_
    refine vl_val (os_move rfl) ?_
    refine vl_val (os_move rfl) ?_
    refine vl_val (os_len Try.underlying34 rfl) ?_
    refine vl_val (os_t (os_lss rfl rfl) (by omega)) ?_
    refine vl_val (os_move rfl) ?_
    refine vl_valg rfl (os_move rfl) ?_
    refine vl_valg rfl (os_leq rfl rfl) ?_
    refine vl_val (os_pick_t rfl rfl) ?_
    refine vl_nil ?_
    refine v_cond_no rfl (by omega) ?_
    refine v_exit ?_
    refine v_seq ?_
    refine v_region ?_
    refine vl_val (os_move rfl) ?_
    refine vl_val (os_assign rfl) ?_
    refine vl_nil ?_
    refine v_ret ?_
    exact post_ret rfl rfl (⟨⟨N, rfl, hN2, fun hh => by omega⟩, rfl⟩)
  · refine v_seq ?_
    refine v_seq ?_
    refine v_region ?_
    refine vl_val (os_move rfl) ?_
    refine vl_val (os_move rfl) ?_
    refine vl_val (os_len Try.underlying34 rfl) ?_
    refine vl_val (os_t (os_lss rfl rfl) (by omega)) ?_
    refine vl_val (os_move rfl) ?_
    refine vl_valg rfl (os_move rfl) ?_
    refine vl_valg rfl (os_leq rfl rfl) ?_
    refine vl_val (os_pick_t rfl rfl) ?_
    refine vl_nil ?_
    refine v_cond_yes rfl (by omega) ?_
    obtain ⟨b, o, Ai, ci, rfl, h3, h4, h5, h6⟩ := ha.at_ (i := i) (by omega)
    refine v_skip ?_
    refine v_seq ?_
    refine v_block ?_
    refine v_region ?_
    refine vl_val (os_move rfl) ?_
    refine vl_val (os_move rfl) ?_
    refine vl_val (os_move rfl) ?_
    refine vl_val (os_ix Try.underlying34 Try.sizeOf33 rfl rfl (i := i) (by omega) (by omega)) ?_
    refine vl_val (os_load Try.isAgg33 rfl (h3)) ?_
    refine vl_val (os_len Try.underlying33 rfl) ?_
    refine vl_val (os_addi rfl rfl (by omega)) ?_
    refine vl_val (os_assign rfl) ?_
    refine vl_nil ?_
    refine v_region ?_
    refine vl_val (os_move rfl) ?_
    refine vl_val (os_addi rfl rfl (by omega)) ?_
    refine vl_val (os_assign rfl) ?_
    refine vl_nil ?_
    exact ⟨⟨N + (ls.getD i []).length, i + 1⟩, ⟨rfl, trivial⟩, ⟨rfl, rfl, trivial⟩, ⟨by omega, by rw [lenS_take (by omega)]; omega, by omega, rfl⟩, by dsimp only; omega⟩

set_option maxHeartbeats 4000000 in
theorem law07_SumDoes (A : Option Addr) (n c : Nat) (ls : List (List Int)) (B : Option Addr) (m d : Nat) (bs : List Int) (st : BitVec 32) (w : World) (ha : RdS w .u8 A ls) (hn : n = ls.length) (hn' : n ≤ 140737488351232) (hz : ∀ l ∈ ls, AllB l) (hb : Rd w .u8 B bs) (hm : m = bs.length) (hmd : m ≤ d) (hm' : m ≤ 140737488351232) (hbz : AllB bs) :
    Gives Try.prog 8 #[.slice A n c, .slice B m d, .int .u32 (st.toNat : Int)] w fun v w' => v = .bool true ∧ Below w.heap.size w w' := by
  refine gives_enter Try.call8 Try.func8 rfl rfl rfl (by kernel_rfl) ?_
  refine v_seq ?_
  refine v_region ?_
  refine vl_val (os_assign rfl) ?_
  refine vl_nil ?_
  refine v_seq ?_
  refine v_seq ?_
  refine v_region ?_
  refine vl_val (os_move rfl) ?_
  refine vl_call (law07_size A n c ls w ha hn hn') rfl ?_
  rintro v1 w ⟨⟨N, rfl, hN2, hN⟩, rfl⟩
  refine vl_val (os_move rfl) ?_
  refine vl_val (os_len Try.underlying33 rfl) ?_
  refine vl_val (os_addi rfl rfl (by omega)) ?_
  refine vl_val (os_gtr rfl rfl) ?_
  refine vl_nil ?_
  refine v_cond_d rfl (fun hbig => ?_) (fun hbig => ?_)
  · refine v_seq ?_
    refine v_region ?_
    refine vl_call (law07_awake w) rfl ?_
    rintro v1 w1 ⟨rfl, hb1⟩
    refine vl_val (os_assign rfl) ?_
    refine vl_nil ?_
    refine v_ret ?_
    exact post_ret rfl rfl (⟨rfl, hb1⟩)
  · have hsz : ls.length + lenS ls ≤ 20000 := hN (by omega)
    have hlen : ∀ l ∈ ls, l.length ≤ 10000000 := fun l hl => by have := lenS_mem l hl; omega
    have hm2 : m ≤ 20000 := by omega
    refine v_skip ?_
    refine v_seq ?_
    refine v_region ?_
    refine vl_val (os_move rfl) ?_
    refine vl_call (kit_LentRows A n c ls w ha hn (by omega) hlen) rfl ?_
    rintro v1 w1 ⟨⟨us, hL⟩, b1⟩
    obtain ⟨A1, c1, rfl, -⟩ := Own.form hL.own
    refine vl_val (os_move rfl) ?_
    refine vl_call (kit_LentBytes B m d bs w1 (hb.keep b1) hm (by omega)) rfl ?_
    rintro v2 w2 ⟨hl2, b12⟩
    obtain ⟨g2, C2, rfl, hC2, hM2, hg2, hg2', rd2⟩ := hl2.form
    have b2 : Below w.heap.size w w2 := b1.trans (b12.mono b1.size)
    refine vl_val (os_assign rfl) ?_
    refine vl_val (os_assign rfl) ?_
    refine vl_nil ?_
    refine v_seq ?_
    refine v_region ?_
    refine vl_val (os_move rfl) ?_
    refine vl_call (sum_Seal (some ⟨g2, 0, none⟩) _ C2 bs w2 rd2 rfl (by omega) (by omega) hbz) rfl ?_
    rintro v3 w3 ⟨o3, k3⟩
    have b3 : Below w.heap.size w w3 := b2.trans (k3.mono b2.size)
    have j3 : Below w1.heap.size w1 w3 := b12.trans (k3.mono b12.size)
    refine vl_val (os_assign rfl) ?_
    refine vl_nil ?_
    refine v_seq ?_
    refine v_region ?_
    refine vl_val (os_move rfl) ?_
    refine vl_call (sum_Open (some ⟨g2, 0, none⟩) _ C2 bs w3 (rd2.keep k3) rfl (by omega) (by omega) hbz) rfl ?_
    rintro v4 w4 ⟨u4, rfl, o4, k34⟩
    have k4 := k3.trans (k34.mono k3.size)
    have b4 : Below w.heap.size w w4 := b2.trans (k4.mono b2.size)
    refine vl_val (os_move rfl) ?_
    refine vl_val (os_extract rfl rfl) ?_
    refine vl_val (os_extract rfl rfl) ?_
    refine vl_val (os_assign rfl) ?_
    refine vl_val (os_assign rfl) ?_
    refine vl_nil ?_
    refine v_seq ?_
    refine v_region ?_
    refine vl_val (os_move rfl) ?_
    refine vl_call (r7_Open B m d bs w4 (hb.keep b4) hm hmd (by omega) hbz) rfl ?_
    rintro v5 w5 ⟨u5, rfl, o5, k45⟩
    have k5 := k4.trans (k45.mono k4.size)
    have b5 : Below w.heap.size w w5 := b2.trans (k5.mono b2.size)
    have hL5 := hL.keep (b12.trans (k5.mono b12.size))
    have hl5 : us.length = ls.length := hL.len
    refine vl_val (os_move rfl) ?_
    refine vl_val (os_extract rfl rfl) ?_
    refine vl_val (os_extract rfl rfl) ?_
    refine vl_val (os_assign rfl) ?_
    refine vl_val (os_assign rfl) ?_
    refine vl_nil ?_
    refine v_seq ?_
    refine v_region ?_
    refine vl_val (os_move rfl) ?_
    refine vl_call (sum_Of A1 us.length c1 ls w5 (hL5.rds (by rw [hl5]) (fun l hl => by have := hlen l hl; omega)) hl5 (by omega) hz) rfl ?_
    rintro v6 w6 ⟨rfl, k56⟩
    have k6 := k5.trans (k56.mono k5.size)
    have b6 : Below w.heap.size w w6 := b2.trans (k6.mono b2.size)
    refine vl_val (os_move rfl) ?_
    refine vl_call (r7_Of A n c ls w6 (ha.keep b6) hn (by omega) hz) rfl ?_
    rintro v7 w6 ⟨rfl, rfl⟩
    refine vl_val (os_t (os_eql rfl rfl) (rfl)) ?_
    refine vl_val (os_move rfl) ?_
    refine vl_valg rfl (os_move rfl) ?_
    refine vl_valg rfl (os_move rfl) ?_
    refine vl_callg rfl (sum_Go st (some ⟨g2, 0, none⟩) _ C2 bs w6 (rd2.keep k6) rfl (by omega) hbz) rfl ?_
    rintro v8 w8 ⟨rfl, k68⟩
    have k8 := k6.trans (k68.mono k6.size)
    have b8 : Below w.heap.size w w8 := b2.trans (k8.mono b2.size)
    refine vl_valg rfl (os_move rfl) ?_
    refine vl_valg rfl (os_move rfl) ?_
    refine vl_callg rfl (r7_Go st B m d bs w8 (hb.keep b8) hm (by omega) hbz) rfl ?_
    rintro v9 w8 ⟨rfl, rfl⟩
    refine vl_valg rfl (os_t (os_eql rfl rfl) (rfl)) ?_
    refine vl_val (os_pick_t rfl rfl) ?_
    refine vl_val (os_move rfl) ?_
    refine vl_valg rfl (os_move rfl) ?_
    refine vl_valg rfl (os_move rfl) ?_
    refine vl_callg rfl (r7_Seal B m d bs w8 (hb.keep b8) hm (by omega) hbz) rfl ?_
    rintro v10 w10 ⟨o10, k810⟩
    have k10 := k8.trans (k810.mono k8.size)
    have b10 : Below w.heap.size w w10 := b2.trans (k10.mono b2.size)
    have h310 : Below w3.heap.size w3 w10 := k34.trans ((k45.trans ((k56.trans ((k68.trans (k810.mono k68.size)).mono k56.size)).mono k45.size)).mono k34.size)
    have h410 : Below w4.heap.size w4 w10 := k45.trans ((k56.trans ((k68.trans (k810.mono k68.size)).mono k56.size)).mono k45.size)
    have h510 : Below w5.heap.size w5 w10 := k56.trans ((k68.trans (k810.mono k68.size)).mono k56.size)
    have s34 : sep v3 u4 := sep_lt o3 o4 (Nat.le_refl _)
    have o3 := Own.keepAll o3 h310
    have o4 := Own.keepAll o4 h410
    have o5 := Own.keepAll o5 h510
    have hsl := sealL_len bs
    have hvl : (openV bs).length ≤ 20000 := by unfold openV; split; (rw [List.length_take]; omega); simp
    obtain ⟨A3, c3, rfl, _, _, hr3, _⟩ := OwnK.form o3
    obtain ⟨A4, c4, rfl, _, _, hr4, _⟩ := OwnK.form o4
    obtain ⟨A5, c5, rfl, _, _, hr5, _⟩ := OwnK.form o5
    obtain ⟨A10, c10, rfl, _, _, hr10, _⟩ := OwnK.form o10
    refine vl_callg rfl ((kit_SameBytes A3 A10 _ _ c3 c10 _ _ w10 hr3 hr10 rfl rfl (by omega) (by omega)).mono fun v w' hh => (⟨by rw [hh.1, decide_eq_true rfl], hh.2⟩ : v = .bool true ∧ LeD w10 w')) rfl ?_
    rintro v11 w11 ⟨rfl, d11⟩
    refine vl_val (os_pick_t rfl rfl) ?_
    refine vl_val (os_move rfl) ?_
    refine vl_valg rfl (os_move rfl) ?_
    refine vl_valg rfl (os_move rfl) ?_
    refine vl_valg rfl (os_t (os_eql rfl rfl) (rfl)) ?_
    refine vl_val (os_pick_t rfl rfl) ?_
    refine vl_val (os_move rfl) ?_
    refine vl_valg rfl (os_move rfl) ?_
    refine vl_valg rfl (os_move rfl) ?_
    refine vl_callg rfl ((kit_SameBytes A4 A5 _ _ c4 c5 _ _ w11 (hr4.led d11) (hr5.led d11) rfl rfl (by omega) (by omega)).mono fun v w' hh => (⟨by rw [hh.1, decide_eq_true rfl], hh.2⟩ : v = .bool true ∧ LeD w11 w')) rfl ?_
    rintro v12 w12 ⟨rfl, d12⟩
    have d1012 := lee_d.trans d11 d12
    have k12 : Below w2.heap.size w2 w12 := k10.trans ((led_below d1012).mono k10.size)
    have b12' : Below w.heap.size w w12 := b2.trans (k12.mono b2.size)
    have hL12 := hL.keep (b12.trans (k12.mono b12.size))
    refine vl_val (os_pick_t rfl rfl) ?_
    refine vl_val (os_assign rfl) ?_
    refine vl_nil ?_
    refine v_seq ?_
    refine v_region ?_
    refine vl_val (os_move rfl) ?_
    refine vl_val (os_move rfl) ?_
    refine vl_valg rfl (os_move rfl) ?_
    refine vl_valg rfl (os_move rfl) ?_
    refine vl_callg rfl (kit_KeptRows _ us _ A n c ls w12 hL12 (ha.keep b12') hn (by omega) hlen) rfl ?_
    rintro v13 w13 ⟨rfl, d13⟩
    have k13 : Below w2.heap.size w2 w13 := k12.trans ((led_below d13).mono k12.size)
    have b13 : Below w.heap.size w w13 := b2.trans (k13.mono b2.size)
    refine vl_val (os_pick_t rfl rfl) ?_
    refine vl_val (os_move rfl) ?_
    refine vl_valg rfl (os_move rfl) ?_
    refine vl_valg rfl (os_move rfl) ?_
    refine vl_callg rfl (kit_KeptBytes _ _ B m d bs w13 (hl2.keep k13) (hb.keep b13) hm (by omega)) rfl ?_
    rintro v14 w14 ⟨rfl, d14⟩
    have d1014 := lee_d.trans (lee_d.trans d1012 d13) d14
    have k14 : Below w2.heap.size w2 w14 := k13.trans ((led_below d14).mono k13.size)
    have k14a := k14.alloc k14.size (.cells #[.slice (some ⟨g2, 0, none⟩) bs.length C2, .slice A3 (sealL bs).length c3, .slice A4 (openV bs).length c4] 33)
    have ba : Below w14.heap.size w14 (w14.alloc (.cells #[.slice (some ⟨g2, 0, none⟩) bs.length C2, .slice A3 (sealL bs).length c3, .slice A4 (openV bs).length c4] 33)) := (Below.refl _ _).alloc (Nat.le_refl _) _
    obtain ⟨ds, hds, od⟩ : ∃ ds : List Value, ds.length = bs.length ∧ Own (w14.alloc (.cells #[.slice (some ⟨g2, 0, none⟩) bs.length C2, .slice A3 (sealL bs).length c3, .slice A4 (openV bs).length c4] 33)) w1.heap.size 5 (.slice (some ⟨g2, 0, none⟩) bs.length C2) ds := by
      obtain ⟨g', C', e', hc', ho'⟩ := (hl2.keep k14).keep ba
      cases e'
      exact Own.part ho' (by omega)
    have hown := all3 (P := fun j v => Own (w14.alloc (.cells #[.slice (some ⟨g2, 0, none⟩) bs.length C2, .slice A3 (sealL bs).length c3, .slice A4 (openV bs).length c4] 33)) w1.heap.size 5 v ([ds, (sealL bs).map (Value.int .u8), (openV bs).map (Value.int .u8)].getD j [])) od (((Own.led o3 d1014).keepAll ba).mono b12.size) (((Own.led o4 d1014).keepAll ba).mono (by have := k3.size; have := b12.size; omega))
    have s23 : sep (.slice (some ⟨g2, 0, none⟩) bs.length C2) (.slice A3 (sealL bs).length c3) := fun x hx e => by have h1 := (World.ownsRow.lt o3 x e).1; have h2 : x = g2 := (by simpa [Value.ownBlock] using hx.symm); omega
    have s24 : sep (.slice (some ⟨g2, 0, none⟩) bs.length C2) (.slice A4 (openV bs).length c4) := fun x hx e => by have h1 := (World.ownsRow.lt o4 x e).1; have h2 : x = g2 := (by simpa [Value.ownBlock] using hx.symm); have := k3.size; omega
    refine vl_val (os_pick_t rfl rfl) ?_
    refine vl_val (os_move rfl) ?_
    refine vl_valg rfl (os_move rfl) ?_
    refine vl_valg rfl (os_move rfl) ?_
    refine vl_valg rfl (os_move rfl) ?_
    refine vl_valg rfl (os_lit Try.underlying34 Try.sizeOf33 Try.zeroValue33 rfl rfl rfl rfl (by decide)) ?_
    refine vl_callg rfl (kit_ApartBytes (some ⟨w14.heap.size, 0, none⟩) 3 3 w1.heap.size [.slice (some ⟨g2, 0, none⟩) bs.length C2, .slice A3 (sealL bs).length c3, .slice A4 (openV bs).length c4] (fun j => ([ds, (sealL bs).map (Value.int .u8), (openV bs).map (Value.int .u8)].getD j []).length) (fun j => [ds, (sealL bs).map (Value.int .u8), (openV bs).map (Value.int .u8)].getD j []) _ (rdc_alloc w14 [.slice (some ⟨g2, 0, none⟩) bs.length C2, .slice A3 (sealL bs).length c3, .slice A4 (openV bs).length c4] _) rfl (by omega) hown (sep3 s23 s24 s34) (fun j _ => rfl) (nat3 (by simp [hds]; omega) (by simp; omega) (by simp; omega)) (by have := k14a.size; have := b12.size; omega)) rfl ?_
    rintro v15 w15 ⟨rfl, kb15⟩
    have j14 : Below w1.heap.size w1 w14 := b12.trans (k14.mono b12.size)
    have k15 : Below w1.heap.size w1 w15 := kb15.below (j14.alloc j14.size _) (own_low hown) (j14.alloc j14.size _).size
    have b15 : Below w.heap.size w w15 := b1.trans (k15.mono b1.size)
    refine vl_val (os_pick_t rfl rfl) ?_
    refine vl_val (os_move rfl) ?_
    refine vl_callg rfl (law07_awake w15) rfl ?_
    rintro v16 w16 ⟨rfl, hb16⟩
    refine vl_val (os_pick_t rfl rfl) ?_
    refine vl_val (os_assign rfl) ?_
    refine vl_nil ?_
    refine v_ret ?_
    exact post_ret rfl rfl (⟨rfl, b15.trans (hb16.mono b15.size)⟩)
theorem law07_SumDoesI (A : Option Addr) (n c : Nat) (ls : List (List Int)) (B : Option Addr) (m d : Nat) (bs : List Int) (st : Int) (w : World) (ha : RdS w .u8 A ls) (hn : n = ls.length) (hn' : n ≤ 140737488351232) (hz : ∀ l ∈ ls, AllB l) (hb : Rd w .u8 B bs) (hm : m = bs.length) (hmd : m ≤ d) (hm' : m ≤ 140737488351232) (hbz : AllB bs) (hs : 0 ≤ st ∧ st ≤ 4294967295) :
    Gives Try.prog 8 #[.slice A n c, .slice B m d, .int .u32 st] w fun v w' => v = .bool true ∧ Below w.heap.size w w' := by
  have := law07_SumDoes A n c ls B m d bs (BitVec.ofInt 32 st) w ha hn hn' hz hb hm hmd hm' hbz
  rwa [show ((BitVec.ofInt 32 st).toNat : Int) = st by simp [BitVec.toNat_ofInt]; omega] at this
end Go.Proofs.Ytmbcflanifoofaa
