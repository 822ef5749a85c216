/- Texts joined: FixP Fin FixA FixB Sz SzF. -/
import Derived.Test.YtpojijnjdlnokaaM5
import Derived.ProofKit
import Derived.Test.YtpojijnjdlnokaaProg
import Derived.Shelf.Abstract
/- Layer 23, the plain laws: parts of 65536, shares, blends, rows, tails: what the document says, as functions on integers and lists. No program in sight. -/
namespace Go.Proofs.Ytpojijnjdlnokaa

def isB (n : Int) : Bool := decide (0 ≤ n ∧ n ≤ 65536)
def shareOk (a b : Int) : Bool := decide (0 < b ∧ b ≤ 2147483647 ∧ 0 ≤ a ∧ a ≤ b)
def shareV (a b : Int) : Int := if shareOk a b then a * 65536 / b else 0
def argE (ok : Bool) : Int := if ok then 0 else 2
def blendW (h x : Int) : Int := h + (x - h) / 8
def blendOk (h x : Int) : Bool := isB h && isB x
def blendV (h x : Int) : Int := if blendOk h x then blendW h x else 0

theorem isB_yes {n : Int} (h : 0 ≤ n) (h' : n ≤ 65536) : isB n = true := by simp [isB]; omega
theorem isB_no {n : Int} (h : n < 0 ∨ 65536 < n) : isB n = false := by simp [isB]; omega
theorem isB_iff {n : Int} : isB n = true ↔ 0 ≤ n ∧ n ≤ 65536 := by simp [isB]
theorem isB_iff' {n : Int} : isB n = false ↔ n < 0 ∨ 65536 < n := by simp [isB]; omega

theorem tdiv8 (n : Int) : n.tdiv 8 = if 0 ≤ n then n / 8 else -((-n) / 8) := by
  split
  · exact Int.tdiv_eq_ediv_of_nonneg (by omega)
  · have h : n = -(-n) := by omega
    rw [h, Int.neg_tdiv, Int.tdiv_eq_ediv_of_nonneg (by omega), ← h]
theorem tmod8 (n : Int) : n.tmod 8 = if 0 ≤ n then n % 8 else -((-n) % 8) := by
  split
  · exact Int.tmod_eq_emod_of_nonneg (by omega)
  · have h : n = -(-n) := by omega
    rw [h, Int.neg_tmod, Int.tmod_eq_emod_of_nonneg (by omega), ← h]
theorem down_lo {n : Int} (h1 : -65536 ≤ n) (h2 : n ≤ 65536) (h : n.tmod 8 < 0) : RowKit.wrap64 (n.tdiv 8 - 1) = n / 8 := by
  rw [tmod8] at h
  rw [tdiv8]
  have hb : (if 0 ≤ n then n / 8 else -((-n) / 8)) - 1 = n / 8 := by split at h <;> split <;> omega
  rw [hb]
  exact IntWalk.wrap64_in _ (by omega)
theorem down_hi {n : Int} (h : 0 ≤ n.tmod 8) : n.tdiv 8 = n / 8 := by
  rw [tmod8] at h
  rw [tdiv8]
  split at h <;> split <;> omega

theorem blendW_bd {h x : Int} (h1 : 0 ≤ h) (h2 : h ≤ 65536) (h3 : 0 ≤ x) (h4 : x ≤ 65536) : 0 ≤ blendW h x ∧ blendW h x ≤ 65536 := by unfold blendW; omega
end Go.Proofs.Ytpojijnjdlnokaa

/- From the form's reading of an argument to the words that the walks take. -/
namespace Go.Proofs.Ytpojijnjdlnokaa
open Go.RowKit

/-- the range of Go's int -/
def I64 (n : Int) : Prop := -9223372036854775808 ≤ n ∧ n ≤ 9223372036854775807

theorem i64_of_wf {n : Int} (h : (Lit.int .i64 n).wf = true) : I64 n := by
  simp [Lit.wf, IntKind.min, IntKind.max, IntKind.signed, IntKind.bits] at h
  exact ⟨by omega, by omega⟩
theorem u8_of_wf {n : Int} (h : (Lit.int .u8 n).wf = true) : 0 ≤ n ∧ n ≤ 255 := by
  simp [Lit.wf, IntKind.min, IntKind.max, IntKind.signed, IntKind.bits] at h
  exact ⟨by omega, by omega⟩
theorem u32_of_wf {n : Int} (h : (Lit.int .u32 n).wf = true) : 0 ≤ n ∧ n ≤ 4294967295 := by
  simp [Lit.wf, IntKind.min, IntKind.max, IntKind.signed, IntKind.bits] at h
  exact ⟨by omega, by omega⟩

theorem rd_of_nil (W : World) (k : IntKind) (a : Option Addr) : ∃ zs, Rd W k a zs ∧ 0 = zs.length ∧ (0 : Nat) ≤ 9223372036854775807 ∧ (0 : Nat) ≤ 0 ∧ ∀ z ∈ zs, (Lit.int k z).wf = true :=
  ⟨[], Rd.nil, rfl, by decide, by decide, by simp⟩

theorem rd_of_ints (W : World) (k : IntKind) (x : Addr) (l c : Nat) (zs : List Int) (hl : l ≤ c) (hm : c ≤ maxLen) (hz : zs.length = c)
    (hcell : ∀ i, i < zs.length → W.cell? (x.add i) = some (.int k (zs.getD i 0))) (hwz : ∀ n ∈ zs, (Lit.int k n).wf = true) :
    ∃ ys, Rd W k (some x) ys ∧ l = ys.length ∧ l ≤ 9223372036854775807 ∧ l ≤ c ∧ ∀ z ∈ ys, (Lit.int k z).wf = true := by
  refine ⟨zs.take l, fun h => ?_, by rw [List.length_take, hz]; omega, by unfold maxLen at hm; omega, hl, fun z hz' => hwz z (List.mem_of_mem_take hz')⟩
  rw [List.length_take] at h
  obtain ⟨b, off, spot⟩ := x
  have hc := hcell 0 (by omega)
  have hspot : spot = none := by simpa [Addr.add] using World.cell?_spot hc
  subst hspot
  refine ⟨b, off, rfl, fun i hi => ?_⟩
  rw [List.length_take] at hi
  have h1 := hcell i (by omega)
  have e : (⟨b, off, none⟩ : Addr).add i = ⟨b, off + i, none⟩ := by unfold Addr.add; split <;> simp_all
  rw [e] at h1
  rw [h1]
  have : zs.getD i 0 = (zs.take l).getD i 0 := by simp [List.getElem?_take, show i < l by omega]
  rw [this]
end Go.Proofs.Ytpojijnjdlnokaa

/- Layer 23: the contracts of the program's functions on numbers, and of the document's. -/
namespace Go.Proofs.Ytpojijnjdlnokaa
open Go.RowKit

end Go.Proofs.Ytpojijnjdlnokaa

/- Layer 23: rows: the closures, slices.IndexFunc and ContainsFunc, row, made. -/
namespace Go.Proofs.Ytpojijnjdlnokaa
open Go.RowKit

/-- the place of the first number that p takes, else -1 -/
def idxF (p : Int → Bool) (zs : List Int) : Int := if zs.any p then ((zs.findIdx p : Nat) : Int) else -1

theorem idxF_ge {p : Int → Bool} {zs : List Int} : decide ((0 : Int) ≤ idxF p zs) = zs.any p := by
  unfold idxF; split <;> simp_all

theorem idxF_hit {p : Int → Bool} {zs : List Int} {k n : Nat} (hn : n = zs.length) (hk : k < n) (h : (zs.take k).any p = false) (hp : p (zs.getD k 0) = true) : idxF p zs = k := by
  have hk' : k < zs.length := by omega
  have hany : zs.any p = true := by
    rw [List.any_eq_true]
    exact ⟨zs[k], List.getElem_mem _, by simpa [hk'] using hp⟩
  unfold idxF
  rw [if_pos hany]
  congr 1
  rw [List.findIdx_eq hk']
  refine ⟨by simpa [hk'] using hp, fun j hj => ?_⟩
  rw [List.any_eq_false] at h
  have := h (zs[j]'(by omega)) (by rw [List.mem_take_iff_getElem]; exact ⟨j, by omega, rfl⟩)
  simpa using this

theorem any_take_succ {p : Int → Bool} {zs : List Int} {k n : Nat} (hn : n = zs.length) (hk : k < n) (h : (zs.take k).any p = false) (hp : p (zs.getD k 0) = false) : (zs.take (k + 1)).any p = false := by
  have hk' : k < zs.length := by omega
  rw [List.take_succ_eq_append_getElem hk', List.any_append, h]
  have : p zs[k] = false := by simpa [hk'] using hp
  simp [this]

theorem idxF_none {p : Int → Bool} {zs : List Int} {n : Nat} (hn : n = zs.length) (h : (zs.take n).any p = false) : idxF p zs = -1 := by
  rw [hn, List.take_length] at h
  unfold idxF
  rw [if_neg (by simp [h])]

set_option maxHeartbeats 400000 in
theorem indexFunc_ints (A : Option Addr) (n c : Nat) (zs : List Int) (f : FuncId) (cap : Array Value) (p : Int → Bool) (w : World) (hent : Enters Try.prog f) (ha : Rd w .i64 A zs) (hn : n = zs.length) (hn' : n ≤ 9223372036854775807)
    (hcall : ∀ k q, k < zs.length → Calls Try.prog f (#[.int .i64 (zs.getD k 0)] ++ cap) (w.drewN q) fun e w' => e = .returned (.bool (p (zs.getD k 0))) ∧ ∃ q', w' = w.drewN q') :
    Calls Try.prog 102 #[.slice A n c, .func (.func f) #[] cap] w fun e w' => e = .returned (.int .i64 (idxF p zs)) ∧ ∃ q, w' = w.drewN q := by
  have H1 := Lib.hid hn; have HC := Lib.hid hcall; clear hn hcall
  have hentr : ∀ (args : Array Value) (w : World), (callFunc f args).run Try.prog w = .ok (.enter f args) w := hent
  go_enter Try.func102, Try.ntmps102
  go_wp2_with (fail)
  go_loopw [8] (fun i wr => ∃ k : Nat, k ≤ n ∧ i = .int .i64 k ∧ (zs.take k).any p = false ∧ ∃ q, wr = w.drewN q) (fun i wr => n - (intOf i).toNat)
  case atStart => exact ⟨0, by omega, rfl, rfl, 0, rfl⟩
  case round =>
    obtain ⟨k, hk, rfl, htk, q, rfl⟩ := hrel
    have Htk := Lib.hid htk; clear htk
    by_cases hlt : k < n
    · obtain ⟨b1, o1, rfl, hc1⟩ := ha.at_ (i := k) (by rw [← H1.out]; exact hlt)
      cases hp : p (zs.getD k 0)
      · have HP := Lib.hid hp; clear hp
        go_wp2_with (fail)
        refine (HC.out k q (by rw [← H1.out]; exact hlt)).mono ?_
        rintro e w' ⟨rfl, q', rfl⟩
        rw [HP.out]
        go_wp2_with (fail)
        go_roundw
        case rel => exact ⟨k + 1, by omega, by go_num, any_take_succ H1.out hlt Htk.out HP.out, _, rfl⟩
        case measure => simp [intOf]; omega
      · have HP := Lib.hid hp; clear hp
        go_wp2_with (fail)
        refine (HC.out k q (by rw [← H1.out]; exact hlt)).mono ?_
        rintro e w' ⟨rfl, q', rfl⟩
        rw [HP.out]
        go_wp2_with (fail)
        go_ret
        exact ⟨ret_int (idxF_hit H1.out hlt Htk.out HP.out).symm, _, rfl⟩
    · obtain rfl : k = n := by omega
      go_wp2_with (fail)
      go_ret
      exact ⟨ret_int (idxF_none H1.out Htk.out).symm, _, rfl⟩

set_option maxHeartbeats 400000 in
theorem containsFunc_ints (A : Option Addr) (n c : Nat) (zs : List Int) (f : FuncId) (cap : Array Value) (p : Int → Bool) (w : World) (hent : Enters Try.prog f) (ha : Rd w .i64 A zs) (hn : n = zs.length) (hn' : n ≤ 9223372036854775807)
    (hcall : ∀ k q, k < zs.length → Calls Try.prog f (#[.int .i64 (zs.getD k 0)] ++ cap) (w.drewN q) fun e w' => e = .returned (.bool (p (zs.getD k 0))) ∧ ∃ q', w' = w.drewN q') :
    Calls Try.prog 68 #[.slice A n c, .func (.func f) #[] cap] w fun e w' => e = .returned (.bool (zs.any p)) ∧ ∃ q, w' = w.drewN q := by
  have H1 := Lib.hid hn; have HC := Lib.hid hcall; clear hn hcall
  rw [← idxF_ge]
  go_enter Try.func68, Try.ntmps68
  go_wp2_with (fail)
  refine (indexFunc_ints A n c zs f cap p _ hent ha H1.out hn' HC.out).mono ?_
  rintro e w' ⟨rfl, q, rfl⟩
  go_wp2_with (fail)
  go_ret
  exact ⟨rfl, _, rfl⟩

/-- every number of the list fits Go's int -/
def AllI (zs : List Int) : Prop := ∀ z ∈ zs, I64 z
theorem AllI.at_ {zs : List Int} (h : AllI zs) (k : Nat) : I64 (zs.getD k 0) := by
  by_cases hk : k < zs.length
  · simp [hk]; exact h _ (List.getElem_mem _)
  · simp [hk]; exact ⟨by decide, by decide⟩

def rowB (zs : List Int) : Bool := decide (0 < zs.length) && decide (zs.length ≤ 256) && !(zs.any fun n => !isB n)

end Go.Proofs.Ytpojijnjdlnokaa

/- Layers 9, 11: the contracts of strip.Width, size.Right, Room, Fits. -/
namespace Go.Proofs.Ytpojijnjdlnokaa
open Go.RowKit
set_option linter.unusedVariables false

theorem strip_Width (long k : Int) (w : World) (h1 : I64 long) (h2 : I64 k) : Gives Try.prog 18 #[.int .i64 long, .int .i64 k] w fun v w' => v = .tuple #[.int .i64 (widthV long k), .int .i64 (errE (widthOk long k))] ∧ w' = w := by
  obtain ⟨a1, a2⟩ := h1
  obtain ⟨a3, a4⟩ := h2
  refine gives_enter Try.call18 Try.func18 rfl rfl rfl (by kernel_rfl) ?_
  rcases (by omega : long < 0 ∨ (0 ≤ long ∧ 65535 < long) ∨ (0 ≤ long ∧ long ≤ 65535 ∧ k < 1) ∨ (0 ≤ long ∧ long ≤ 65535 ∧ 1 ≤ k)) with h | ⟨h, h3⟩ | ⟨h, h3, h4⟩ | ⟨h, h3, h4⟩
  · refine v_seq ?_
    refine v_region ?_
    refine vl_val (os_assign rfl) ?_
    refine vl_val (os_assign rfl) ?_
    refine vl_nil ?_
    refine v_seq ?_
    refine v_seq ?_
    refine v_region ?_
    refine vl_val (os_move rfl) ?_
    refine vl_val (os_t (os_lss rfl rfl) (by omega)) ?_
    refine vl_val (os_move rfl) ?_
    refine vl_skip rfl rfl ?_
    refine vl_skip rfl rfl ?_
    refine vl_val (os_pick_t rfl rfl) ?_
    refine vl_val (os_move rfl) ?_
    refine vl_skip rfl rfl ?_
    refine vl_skip rfl rfl ?_
    refine vl_val (os_pick_t rfl rfl) ?_
    refine vl_val (os_move rfl) ?_
    refine vl_skip rfl rfl ?_
    refine vl_skip rfl rfl ?_
    refine vl_val (os_pick_t rfl rfl) ?_
    refine vl_nil ?_
    refine v_cond_t rfl ?_
    refine v_seq ?_
    refine v_region ?_
    refine vl_val (os_assign rfl) ?_
    refine vl_val (os_assign rfl) ?_
    refine vl_nil ?_
    refine v_ret ?_
    exact post_ret2 rfl rfl rfl (⟨by simp [widthV, widthOk, errE]; omega, rfl⟩)
  · refine v_seq ?_
    refine v_region ?_
    refine vl_val (os_assign rfl) ?_
    refine vl_val (os_assign rfl) ?_
    refine vl_nil ?_
    refine v_seq ?_
    refine v_seq ?_
    refine v_region ?_
    refine vl_val (os_move rfl) ?_
    refine vl_val (os_f (os_lss rfl rfl) (by omega)) ?_
    refine vl_val (os_move rfl) ?_
    refine vl_valg rfl (os_move rfl) ?_
    refine vl_valg rfl (os_t (os_gtr rfl rfl) (by omega)) ?_
    refine vl_val (os_pick_f rfl rfl) ?_
    refine vl_val (os_move rfl) ?_
    refine vl_skip rfl rfl ?_
    refine vl_skip rfl rfl ?_
    refine vl_val (os_pick_t rfl rfl) ?_
    refine vl_val (os_move rfl) ?_
    refine vl_skip rfl rfl ?_
    refine vl_skip rfl rfl ?_
    refine vl_val (os_pick_t rfl rfl) ?_
    refine vl_nil ?_
    refine v_cond_t rfl ?_
    refine v_seq ?_
    refine v_region ?_
    refine vl_val (os_assign rfl) ?_
    refine vl_val (os_assign rfl) ?_
    refine vl_nil ?_
    refine v_ret ?_
    exact post_ret2 rfl rfl rfl (⟨by simp [widthV, widthOk, errE]; omega, rfl⟩)
  · refine v_seq ?_
    refine v_region ?_
    refine vl_val (os_assign rfl) ?_
    refine vl_val (os_assign rfl) ?_
    refine vl_nil ?_
    refine v_seq ?_
    refine v_seq ?_
    refine v_region ?_
    refine vl_val (os_move rfl) ?_
    refine vl_val (os_f (os_lss rfl rfl) (by omega)) ?_
    refine vl_val (os_move rfl) ?_
    refine vl_valg rfl (os_move rfl) ?_
    refine vl_valg rfl (os_f (os_gtr rfl rfl) (by omega)) ?_
    refine vl_val (os_pick_f rfl rfl) ?_
    refine vl_val (os_move rfl) ?_
    refine vl_valg rfl (os_move rfl) ?_
    refine vl_valg rfl (os_t (os_lss rfl rfl) (by omega)) ?_
    refine vl_val (os_pick_f rfl rfl) ?_
    refine vl_val (os_move rfl) ?_
    refine vl_skip rfl rfl ?_
    refine vl_skip rfl rfl ?_
    refine vl_val (os_pick_t rfl rfl) ?_
    refine vl_nil ?_
    refine v_cond_t rfl ?_
    refine v_seq ?_
    refine v_region ?_
    refine vl_val (os_assign rfl) ?_
    refine vl_val (os_assign rfl) ?_
    refine vl_nil ?_
    refine v_ret ?_
    exact post_ret2 rfl rfl rfl (⟨by simp [widthV, widthOk, errE]; omega, rfl⟩)
  · refine v_seq ?_
    refine v_region ?_
    refine vl_val (os_assign rfl) ?_
    refine vl_val (os_assign rfl) ?_
    refine vl_nil ?_
    refine v_seq ?_
    refine v_seq ?_
    refine v_region ?_
    refine vl_val (os_move rfl) ?_
    refine vl_val (os_f (os_lss rfl rfl) (by omega)) ?_
    refine vl_val (os_move rfl) ?_
    refine vl_valg rfl (os_move rfl) ?_
    refine vl_valg rfl (os_f (os_gtr rfl rfl) (by omega)) ?_
    refine vl_val (os_pick_f rfl rfl) ?_
    refine vl_val (os_move rfl) ?_
    refine vl_valg rfl (os_move rfl) ?_
    refine vl_valg rfl (os_f (os_lss rfl rfl) (by omega)) ?_
    refine vl_val (os_pick_f rfl rfl) ?_
    refine vl_val (os_move rfl) ?_
    refine vl_valg rfl (os_move rfl) ?_
    refine vl_valg rfl (os_gtr rfl rfl) ?_
    refine vl_val (os_pick_f rfl rfl) ?_
    refine vl_nil ?_
    refine v_cond_d rfl (fun hk => ?_) (fun hk => ?_)
    · have hw : widthOk long k = false := by simp [widthOk]; omega
      refine v_seq ?_
      refine v_region ?_
      refine vl_val (os_assign rfl) ?_
      refine vl_val (os_assign rfl) ?_
      refine vl_nil ?_
      refine v_ret ?_
      exact post_ret2 rfl rfl rfl (⟨by simp [widthV, hw, errE], rfl⟩)
    · have hw : widthOk long k = true := by simp [widthOk]; omega
      refine v_skip ?_
      refine v_seq ?_
      refine v_region ?_
      refine vl_val (os_move rfl) ?_
      refine vl_val (os_move rfl) ?_
      refine vl_val (os_addi rfl rfl (by omega)) ?_
      refine vl_val (os_subi rfl rfl (by omega)) ?_
      refine vl_val (os_move rfl) ?_
      refine vl_val (os_quoi rfl rfl (by omega)) ?_
      refine vl_val (os_assign rfl) ?_
      refine vl_val (os_assign rfl) ?_
      refine vl_nil ?_
      refine v_ret ?_
      exact post_ret2 rfl rfl rfl (⟨by simp [widthV, hw, errE, widthW], rfl⟩)

theorem size_between (a b c : Int) (w : World) : Gives Try.prog 98 #[.int .i64 a, .int .i64 b, .int .i64 c] w fun v w' => v = .bool (betw a b c) ∧ w' = w := by
  refine gives_enter Try.call98 Try.func98 rfl rfl rfl (by kernel_rfl) ?_
  by_cases h : b ≤ a
  · refine v_seq ?_
    refine v_region ?_
    refine vl_val (os_assign rfl) ?_
    refine vl_nil ?_
    refine v_seq ?_
    refine v_region ?_
    refine vl_val (os_move rfl) ?_
    refine vl_val (os_move rfl) ?_
    refine vl_val (os_t (os_geq rfl rfl) (by omega)) ?_
    refine vl_val (os_move rfl) ?_
    refine vl_valg rfl (os_move rfl) ?_
    refine vl_valg rfl (os_move rfl) ?_
    refine vl_valg rfl (os_leq rfl rfl) ?_
    refine vl_val (os_pick_t rfl rfl) ?_
    refine vl_val (os_assign rfl) ?_
    refine vl_nil ?_
    refine v_ret ?_
    exact post_ret rfl rfl (⟨by simp [betw, h], rfl⟩)
  · refine v_seq ?_
    refine v_region ?_
    refine vl_val (os_assign rfl) ?_
    refine vl_nil ?_
    refine v_seq ?_
    refine v_region ?_
    refine vl_val (os_move rfl) ?_
    refine vl_val (os_move rfl) ?_
    refine vl_val (os_f (os_geq rfl rfl) (by omega)) ?_
    refine vl_val (os_move rfl) ?_
    refine vl_skip rfl rfl ?_
    refine vl_skip rfl rfl ?_
    refine vl_skip rfl rfl ?_
    refine vl_val (os_pick_f rfl rfl) ?_
    refine vl_val (os_assign rfl) ?_
    refine vl_nil ?_
    refine v_ret ?_
    exact post_ret rfl rfl (⟨by simp [betw, h], rfl⟩)

theorem size_Right (n m b : Int) (w : World) : Gives Try.prog 67 #[.agg #[.int .i64 n, .int .i64 m, .int .i64 b]] w fun v w' => v = .bool (rightB n m b) ∧ Below w.heap.size w w' := by
  have hbel : Below w.heap.size w (w.alloc (.cells #[.int .i64 n, .int .i64 m, .int .i64 b] 42)) := (Below.refl _ w).alloc (Nat.le_refl _) _
  have hB := bk_new w [.int .i64 n, .int .i64 m, .int .i64 b] 42
  refine gives_enter Try.call67 Try.func67 rfl rfl rfl (by kernel_rfl) ?_
  cases c1 : betw n 1 255
  · refine v_seq ?_
    refine v_region ?_
    refine vl_val (os_box rfl) ?_
    refine vl_val (os_assign rfl) ?_
    refine vl_nil ?_
    refine v_seq ?_
    refine v_region ?_
    refine vl_val (os_fa (o := 0) (k := 0) (by kernel_rfl) rfl) ?_
    refine vl_val (os_load Try.isAgg3 rfl (hB.cell rfl)) ?_
    refine vl_call (gives_bool (size_between n 1 255 _) c1) rfl ?_
    rintro v w' ⟨rfl, rfl⟩
    refine vl_val (os_move rfl) ?_
    refine vl_skip rfl rfl ?_
    refine vl_skip rfl rfl ?_
    refine vl_skip rfl rfl ?_
    refine vl_val (os_pick_f rfl rfl) ?_
    refine vl_val (os_move rfl) ?_
    refine vl_skip rfl rfl ?_
    refine vl_skip rfl rfl ?_
    refine vl_skip rfl rfl ?_
    refine vl_val (os_pick_f rfl rfl) ?_
    refine vl_val (os_assign rfl) ?_
    refine vl_nil ?_
    refine v_ret ?_
    exact post_ret rfl rfl (⟨by simp [rightB]; simp [betw] at c1; omega, hbel⟩)
  · cases c2 : betw m 64 1500
    · refine v_seq ?_
      refine v_region ?_
      refine vl_val (os_box rfl) ?_
      refine vl_val (os_assign rfl) ?_
      refine vl_nil ?_
      refine v_seq ?_
      refine v_region ?_
      refine vl_val (os_fa (o := 0) (k := 0) (by kernel_rfl) rfl) ?_
      refine vl_val (os_load Try.isAgg3 rfl (hB.cell rfl)) ?_
      refine vl_call (gives_bool (size_between n 1 255 _) c1) rfl ?_
      rintro v w' ⟨rfl, rfl⟩
      refine vl_val (os_move rfl) ?_
      refine vl_valg rfl (os_fa (o := 1) (k := 0) (by kernel_rfl) rfl) ?_
      refine vl_valg rfl (os_load Try.isAgg3 rfl (hB.cell rfl)) ?_
      refine vl_callg rfl (gives_bool (size_between m 64 1500 _) c2) rfl ?_
      rintro v w' ⟨rfl, rfl⟩
      refine vl_val (os_pick_t rfl rfl) ?_
      refine vl_val (os_move rfl) ?_
      refine vl_skip rfl rfl ?_
      refine vl_skip rfl rfl ?_
      refine vl_skip rfl rfl ?_
      refine vl_val (os_pick_f rfl rfl) ?_
      refine vl_val (os_assign rfl) ?_
      refine vl_nil ?_
      refine v_ret ?_
      exact post_ret rfl rfl (⟨by simp [rightB]; simp [betw] at c2; omega, hbel⟩)
    · refine v_seq ?_
      refine v_region ?_
      refine vl_val (os_box rfl) ?_
      refine vl_val (os_assign rfl) ?_
      refine vl_nil ?_
      refine v_seq ?_
      refine v_region ?_
      refine vl_val (os_fa (o := 0) (k := 0) (by kernel_rfl) rfl) ?_
      refine vl_val (os_load Try.isAgg3 rfl (hB.cell rfl)) ?_
      refine vl_call (gives_bool (size_between n 1 255 _) c1) rfl ?_
      rintro v w' ⟨rfl, rfl⟩
      refine vl_val (os_move rfl) ?_
      refine vl_valg rfl (os_fa (o := 1) (k := 0) (by kernel_rfl) rfl) ?_
      refine vl_valg rfl (os_load Try.isAgg3 rfl (hB.cell rfl)) ?_
      refine vl_callg rfl (gives_bool (size_between m 64 1500 _) c2) rfl ?_
      rintro v w' ⟨rfl, rfl⟩
      refine vl_val (os_pick_t rfl rfl) ?_
      refine vl_val (os_move rfl) ?_
      refine vl_valg rfl (os_fa (o := 2) (k := 0) (by kernel_rfl) rfl) ?_
      refine vl_valg rfl (os_load Try.isAgg3 rfl (hB.cell rfl)) ?_
      refine vl_callg rfl (size_between b 1 524288 _) rfl ?_
      rintro v w' ⟨rfl, rfl⟩
      refine vl_val (os_pick_t rfl rfl) ?_
      refine vl_val (os_assign rfl) ?_
      refine vl_nil ?_
      refine v_ret ?_
      exact post_ret rfl rfl (⟨by simp [betw] at c1 c2; simp [rightB, betw, c1, c2], hbel⟩)

theorem right_bd {n m b : Int} (h : rightB n m b = true) : 1 ≤ n ∧ n ≤ 255 ∧ 64 ≤ m ∧ m ≤ 1500 ∧ 1 ≤ b ∧ b ≤ 524288 := by simpa [rightB] using h

theorem size_Room (n m b l : Int) (w : World) : Gives Try.prog 58 #[.agg #[.int .i64 n, .int .i64 m, .int .i64 b], .int .i64 l] w fun v w' => v = .tuple #[.int .i64 (roomV n m b l), .int .i64 (errE (roomOk n m b l))] ∧ Below w.heap.size w w' := by
  have hbel : Below w.heap.size w (w.alloc (.cells #[.int .i64 n, .int .i64 m, .int .i64 b] 42)) := (Below.refl _ w).alloc (Nat.le_refl _) _
  have hB := bk_new w [.int .i64 n, .int .i64 m, .int .i64 b] 42
  refine gives_enter Try.call58 Try.func58 rfl rfl rfl (by kernel_rfl) ?_
  cases c1 : rightB n m b
  · refine v_seq ?_
    refine v_region ?_
    refine vl_val (os_box rfl) ?_
    refine vl_val (os_assign rfl) ?_
    refine vl_val (os_assign rfl) ?_
    refine vl_nil ?_
    refine v_seq ?_
    refine v_seq ?_
    refine v_region ?_
    refine vl_val (os_loadB Try.underlying42 rfl (by kernel_rfl) rfl (hB)) ?_
    refine vl_call (gives_boolb (size_Right n m b _) c1) rfl ?_
    rintro v w1 ⟨rfl, hb1⟩
    have hbel1 := hbel.trans (hb1.mono (by simp))
    refine vl_val (os_not rfl) ?_
    refine vl_val (os_move rfl) ?_
    refine vl_skip rfl rfl ?_
    refine vl_skip rfl rfl ?_
    refine vl_skip rfl rfl ?_
    refine vl_val (os_pick_t rfl rfl) ?_
    refine vl_nil ?_
    refine v_cond_t rfl ?_
    refine v_seq ?_
    refine v_region ?_
    refine vl_val (os_assign rfl) ?_
    refine vl_val (os_assign rfl) ?_
    refine vl_nil ?_
    refine v_ret ?_
    exact post_ret2 rfl rfl rfl (⟨by simp [roomV, roomOk, c1, errE], hbel1⟩)
  · cases c2 : betw l 1 8
    · refine v_seq ?_
      refine v_region ?_
      refine vl_val (os_box rfl) ?_
      refine vl_val (os_assign rfl) ?_
      refine vl_val (os_assign rfl) ?_
      refine vl_nil ?_
      refine v_seq ?_
      refine v_seq ?_
      refine v_region ?_
      refine vl_val (os_loadB Try.underlying42 rfl (by kernel_rfl) rfl (hB)) ?_
      refine vl_call (gives_boolb (size_Right n m b _) c1) rfl ?_
      rintro v w1 ⟨rfl, hb1⟩
      have hbel1 := hbel.trans (hb1.mono (by simp))
      refine vl_val (os_not rfl) ?_
      refine vl_val (os_move rfl) ?_
      refine vl_valg rfl (os_move rfl) ?_
      refine vl_callg rfl (gives_bool (size_between l 1 8 _) c2) rfl ?_
      rintro v w' ⟨rfl, rfl⟩
      refine vl_valg rfl (os_not rfl) ?_
      refine vl_val (os_pick_f rfl rfl) ?_
      refine vl_nil ?_
      refine v_cond_t rfl ?_
      refine v_seq ?_
      refine v_region ?_
      refine vl_val (os_assign rfl) ?_
      refine vl_val (os_assign rfl) ?_
      refine vl_nil ?_
      refine v_ret ?_
      exact post_ret2 rfl rfl rfl (⟨by simp [roomV, roomOk, c1, c2, errE], hbel1⟩)
    · refine v_seq ?_
      refine v_region ?_
      refine vl_val (os_box rfl) ?_
      refine vl_val (os_assign rfl) ?_
      refine vl_val (os_assign rfl) ?_
      refine vl_nil ?_
      refine v_seq ?_
      refine v_seq ?_
      refine v_region ?_
      refine vl_val (os_loadB Try.underlying42 rfl (by kernel_rfl) rfl (hB)) ?_
      refine vl_call (gives_boolb (size_Right n m b _) c1) rfl ?_
      rintro v w1 ⟨rfl, hb1⟩
      have hbel1 := hbel.trans (hb1.mono (by simp))
      refine vl_val (os_not rfl) ?_
      refine vl_val (os_move rfl) ?_
      refine vl_valg rfl (os_move rfl) ?_
      refine vl_callg rfl (gives_bool (size_between l 1 8 _) c2) rfl ?_
      rintro v w' ⟨rfl, rfl⟩
      have hB1 := hB.keep hb1
      have hr := right_bd c1
      have hl : 1 ≤ l ∧ l ≤ 8 := by simpa [betw] using c2
      have hd := Int.ediv_nonneg (show 0 ≤ b by omega) (show 0 ≤ n by omega)
      have hd2 := Int.ediv_le_self n (show 0 ≤ b by omega)
      refine vl_valg rfl (os_not rfl) ?_
      refine vl_val (os_pick_f rfl rfl) ?_
      refine vl_nil ?_
      refine v_cond_f rfl ?_
      refine v_skip ?_
      refine v_seq ?_
      refine v_region_t LeD _ mixed (by kernel_rfl) lee_d (led_start _) ?_
      refine vt_val (fun w hw => os_fa (o := 1) (k := 0) (by kernel_rfl) rfl) ?_
      refine vt_val (fun w hw => os_load Try.isAgg3 rfl (led_cell hw (hB1.cell rfl))) ?_
      refine vt_val (fun w hw => os_fa (o := 2) (k := 0) (by kernel_rfl) rfl) ?_
      refine vt_val (fun w hw => os_load Try.isAgg3 rfl (led_cell hw (hB1.cell rfl))) ?_
      refine vt_val (fun w hw => os_fa (o := 0) (k := 0) (by kernel_rfl) rfl) ?_
      refine vt_val (fun w hw => os_load Try.isAgg3 rfl (led_cell hw (hB1.cell rfl))) ?_
      refine vt_val (fun w hw => os_quoi rfl rfl (by omega)) ?_
      refine vt_val (fun w hw => os_min rfl rfl) ?_
      refine vt_val (fun w hw => os_subi rfl rfl (by omega)) ?_
      refine vt_val (fun w hw => os_move rfl) ?_
      refine vt_val (fun w hw => os_muli rfl rfl (by omega)) ?_
      refine vt_val (fun w hw => os_subi rfl rfl (by omega)) ?_
      refine vt_val (fun w hw => os_max rfl rfl) ?_
      refine vt_val (fun w hw => os_assign rfl) ?_
      refine vt_val (fun w hw => os_assign rfl) ?_
      refine vt_nil (fun w hw => ?_)
      obtain ⟨q, rfl⟩ := hw
      refine v_ret ?_
      exact post_ret2 rfl rfl rfl (⟨by simp [roomV, roomOk, c1, c2, errE, roomW], below_drewN_ hbel1 q⟩)

theorem size_lengths_fn (z : Int) (w : World) : Gives Try.prog 143 #[.int .i64 z] w fun v w' => v = .bool (!betw z 0 65535) ∧ w' = w := by
  refine gives_enter Try.call143 Try.func143 rfl rfl rfl (by kernel_rfl) ?_
  refine v_seq ?_
  refine v_region ?_
  refine vl_val (os_assign rfl) ?_
  refine vl_nil ?_
  refine v_seq ?_
  refine v_region ?_
  refine vl_val (os_move rfl) ?_
  refine vl_call (size_between z 0 65535 _) rfl ?_
  rintro v w' ⟨rfl, rfl⟩
  refine vl_val (os_not rfl) ?_
  refine vl_val (os_assign rfl) ?_
  refine vl_nil ?_
  refine v_ret ?_
  exact post_ret rfl rfl (⟨rfl, rfl⟩)

theorem g_ContainsFunc (A : Option Addr) (n c : Nat) (zs : List Int) (f : FuncId) (p : Int → Bool) (w : World) (ha : Rd w .i64 A zs) (hn : n = zs.length) (hn' : n ≤ 9223372036854775807)
    (hcall : ∀ k q, k < zs.length → Gives Try.prog f #[.int .i64 (zs.getD k 0)] (w.drewN q) fun v w' => v = .bool (p (zs.getD k 0)) ∧ w' = w.drewN q) (hent : Enters Try.prog f) :
    Gives Try.prog 68 #[.slice A n c, .func (.func f) #[] #[]] w fun v w' => v = .bool (zs.any p) ∧ LeD w w' :=
  gives_of Try.call68 (containsFunc_ints A n c zs f #[] p w hent ha hn hn' fun k q hk => (hcall k q hk).calls fun v w' ⟨h1, h2⟩ => ⟨by rw [h1], q, h2⟩) fun e w' ⟨h1, h2⟩ => ⟨_, h1, rfl, h2⟩

theorem size_lengths (A : Option Addr) (n c : Nat) (zs : List Int) (w : World) (ha : Rd w .i64 A zs) (hn : n = zs.length) (hn' : n ≤ 9223372036854775807) :
    Gives Try.prog 89 #[.slice A n c] w fun v w' => v = .bool (lensB zs) ∧ LeD w w' := by
  refine gives_enter Try.call89 Try.func89 rfl rfl rfl (by kernel_rfl) ?_
  cases c1 : betw n 1 8
  · refine v_seq ?_
    refine v_region ?_
    refine vl_val (os_assign rfl) ?_
    refine vl_nil ?_
    refine v_seq ?_
    refine v_region ?_
    refine vl_val (os_assign rfl) ?_
    refine vl_nil ?_
    refine v_seq ?_
    refine v_region ?_
    refine vl_val (os_move rfl) ?_
    refine vl_val (os_len Try.underlying40 rfl) ?_
    refine vl_call (gives_bool (size_between n 1 8 _) c1) rfl ?_
    rintro v w' ⟨rfl, rfl⟩
    refine vl_val (os_move rfl) ?_
    refine vl_skip rfl rfl ?_
    refine vl_skip rfl rfl ?_
    refine vl_skip rfl rfl ?_
    refine vl_skip rfl rfl ?_
    refine vl_val (os_pick_f rfl rfl) ?_
    refine vl_val (os_assign rfl) ?_
    refine vl_nil ?_
    refine v_ret ?_
    exact post_ret rfl rfl (⟨by simp [lensB, ← hn, c1], lee_d.refl _⟩)
  · refine v_seq ?_
    refine v_region ?_
    refine vl_val (os_assign rfl) ?_
    refine vl_nil ?_
    refine v_seq ?_
    refine v_region ?_
    refine vl_val (os_assign rfl) ?_
    refine vl_nil ?_
    refine v_seq ?_
    refine v_region ?_
    refine vl_val (os_move rfl) ?_
    refine vl_val (os_len Try.underlying40 rfl) ?_
    refine vl_call (gives_bool (size_between n 1 8 _) c1) rfl ?_
    rintro v w' ⟨rfl, rfl⟩
    refine vl_val (os_move rfl) ?_
    refine vl_valg rfl (os_move rfl) ?_
    refine vl_valg rfl (os_move rfl) ?_
    refine vl_callg rfl (g_ContainsFunc A n c zs _ (fun z => !betw z 0 65535) _ ha hn hn' (fun k q _ => size_lengths_fn _ _) Try.call143) rfl ?_
    rintro v w' ⟨rfl, hw⟩
    refine vl_valg rfl (os_not rfl) ?_
    refine vl_val (os_pick_t rfl rfl) ?_
    refine vl_val (os_assign rfl) ?_
    refine vl_nil ?_
    refine v_ret ?_
    exact post_ret rfl rfl (⟨by simp [lensB, ← hn, c1], hw⟩)

theorem sz_isNaN (x : Int) (w : World) : Gives Try.prog 149 #[.int .i64 x] w fun v w' => v = .bool false ∧ w' = w := by
  refine gives_enter Try.call149 Try.func149 rfl rfl rfl (by kernel_rfl) ?_
  refine v_seq ?_
  refine v_region ?_
  refine vl_val (os_assign rfl) ?_
  refine vl_nil ?_
  refine v_seq ?_
  refine v_region ?_
  refine vl_val (os_move rfl) ?_
  refine vl_val (os_move rfl) ?_
  refine vl_val (os_f (os_neq rfl rfl) (by simp)) ?_
  refine vl_val (os_assign rfl) ?_
  refine vl_nil ?_
  refine v_ret ?_
  exact post_ret rfl rfl (⟨rfl, rfl⟩)
theorem cmp_Less (x y : Int) (w : World) : Gives Try.prog 144 #[.int .i64 x, .int .i64 y] w fun v w' => v = .bool (decide (x < y)) ∧ w' = w := by
  refine gives_enter Try.call144 Try.func144 rfl rfl rfl (by kernel_rfl) ?_
  refine v_seq ?_
  refine v_region ?_
  refine vl_val (os_assign rfl) ?_
  refine vl_nil ?_
  refine v_seq ?_
  refine v_region ?_
  refine vl_val (os_move rfl) ?_
  refine vl_call (sz_isNaN x _) rfl ?_
  rintro v w' ⟨rfl, rfl⟩
  refine vl_val (os_move rfl) ?_
  refine vl_skip rfl rfl ?_
  refine vl_skip rfl rfl ?_
  refine vl_skip rfl rfl ?_
  refine vl_val (os_pick_f rfl rfl) ?_
  refine vl_val (os_move rfl) ?_
  refine vl_valg rfl (os_move rfl) ?_
  refine vl_valg rfl (os_move rfl) ?_
  refine vl_valg rfl (os_lss rfl rfl) ?_
  refine vl_val (os_pick_f rfl rfl) ?_
  refine vl_val (os_assign rfl) ?_
  refine vl_nil ?_
  refine v_ret ?_
  exact post_ret rfl rfl (⟨rfl, rfl⟩)

theorem slices_IsSorted (A : Option Addr) (n c : Nat) (zs : List Int) (w : World) (ha : Rd w .i64 A zs) (hn : n = zs.length) (hn' : n ≤ 9223372036854775807) :
    Gives Try.prog 90 #[.slice A n c] w fun v w' => v = .bool (sortedB zs) ∧ LeD w w' := by
  refine gives_enter Try.call90 Try.func90 rfl rfl rfl (by kernel_rfl) ?_
  refine v_seq ?_
  refine v_region ?_
  refine vl_val (os_assign rfl) ?_
  refine vl_nil ?_
  refine v_seq ?_
  refine v_seq ?_
  refine v_region ?_
  refine vl_val (os_move rfl) ?_
  refine vl_val (os_len Try.underlying40 rfl) ?_
  refine vl_val (os_subi rfl rfl (by omega)) ?_
  refine vl_val (os_assign rfl) ?_
  refine vl_nil ?_
  refine v_block ?_
  refine v_loop [(0, _)] (fun (k : Nat) => [(3, .int .i64 ((k : Int) - 1))]) (fun k w' => k ≤ n ∧ (∀ i, k ≤ i + 1 → i + 1 < zs.length → zs.getD i 0 ≤ zs.getD (i + 1) 0) ∧ LeD w w') (fun k => k) (n) ⟨rfl, trivial⟩ ⟨rfl, trivial⟩ (⟨by omega, fun i h1 h2 => by omega, lee_d.refl _⟩) ?_
  rintro k w' ⟨hk, hs, q, rfl⟩
  refine v_seq ?_
  refine v_seq ?_
  refine v_region ?_
  refine vl_val (os_move rfl) ?_
  refine vl_val (os_gtr rfl rfl) ?_
  refine vl_nil ?_
  refine v_cond_d rfl (fun hlt => ?_) (fun hlt => ?_)
  · obtain ⟨j, rfl⟩ : ∃ j, k = j + 2 := ⟨k - 2, by omega⟩
    obtain ⟨b1, o1, hA, c1⟩ := (ha.drewN q).at_ (i := j + 1) (by omega)
    obtain ⟨b2, o2, hA2, c2⟩ := (ha.drewN q).at_ (i := j) (by omega)
    subst hA
    cases hA2
    refine v_skip ?_
    refine v_seq ?_
    refine v_block ?_
    refine v_seq ?_
    refine v_region_t LeD _ mixed (by kernel_rfl) lee_d (led_start _) ?_
    refine vt_val (fun w hw => os_move rfl) ?_
    refine vt_val (fun w hw => os_move rfl) ?_
    refine vt_val (fun w hw => os_ix Try.underlying40 Try.sizeOf3 rfl rfl (i := j + 1) (by omega) (by omega)) ?_
    refine vt_val (fun w hw => os_load Try.isAgg3 rfl (led_cell hw (c1))) ?_
    refine vt_val (fun w hw => os_move rfl) ?_
    refine vt_val (fun w hw => os_move rfl) ?_
    refine vt_val (fun w hw => os_subi rfl rfl (by omega)) ?_
    refine vt_val (fun w hw => os_ix Try.underlying40 Try.sizeOf3 rfl rfl (i := j) (by omega) (by omega)) ?_
    refine vt_val (fun w hw => os_load Try.isAgg3 rfl (led_cell hw (c2))) ?_
    refine vt_call (v := _) (fun w hw => (cmp_Less (zs.getD (j + 1) 0) (zs.getD j 0) w).mono fun v w' h => ⟨h.1, by rw [h.2]; exact lee_d.refl _⟩) rfl ?_
    refine vt_nil (fun w hw => ?_)
    obtain ⟨q2, rfl⟩ := hw
    refine v_cond_d rfl (fun hlt2 => ?_) (fun hlt2 => ?_)
    · refine v_seq ?_
      refine v_region ?_
      refine vl_val (os_assign rfl) ?_
      refine vl_nil ?_
      refine v_ret ?_
      exact post_ret rfl rfl (⟨by rw [sortedB, decide_eq_false]; intro h; have := h j (by omega) (by omega); omega, _, World.drewN_drewN ..⟩)
    · refine v_skip ?_
      refine v_region ?_
      refine vl_val (os_move rfl) ?_
      refine vl_val (os_subi rfl rfl (by omega)) ?_
      refine vl_val (os_assign rfl) ?_
      refine vl_nil ?_
      exact ⟨j + 1, ⟨rfl, trivial⟩, ⟨get_int rfl (by omega), trivial⟩, ⟨by omega, fun i h1 h2 => if hi : i = j then (by subst hi; omega) else hs i (by omega) h2, _, World.drewN_drewN ..⟩, by dsimp only; omega⟩
  · refine v_exit ?_
    refine v_seq ?_
    refine v_region ?_
    refine vl_val (os_assign rfl) ?_
    refine vl_nil ?_
    refine v_ret ?_
    exact post_ret rfl rfl (⟨by rw [sortedB, decide_eq_true]; intro i h1 h2; exact hs i (by omega) h2, _, rfl⟩)
end Go.Proofs.Ytpojijnjdlnokaa

/- Layer 11: the contract of size.Fits. -/
namespace Go.Proofs.Ytpojijnjdlnokaa
open Go.RowKit
set_option linter.unusedVariables false

theorem errE_ne {b : Bool} : errE b ≠ 0 ↔ b = false := by cases b <;> simp [errE]
theorem lens_bd {ls : List Int} (h : lensB ls = true) : 1 ≤ ls.length ∧ ls.length ≤ 8 ∧ ∀ k, k < ls.length → 0 ≤ ls.getD k 0 ∧ ls.getD k 0 ≤ 65535 := by
  simp only [lensB, Bool.and_eq_true, Bool.not_eq_true', List.any_eq_false, betw, decide_eq_true_eq] at h
  refine ⟨by omega, by omega, fun k hk => ?_⟩
  have := h.2 ls[k] (List.getElem_mem _)
  simpa [hk] using this

set_option maxHeartbeats 1000000 in
theorem size_Fits (n m b : Int) (A K : Option Addr) (l c lk ck : Nat) (lens ks : List Int) (w : World) (ha : Rd w .i64 A lens) (hk : Rd w .i64 K ks) (hl : l = lens.length) (hlk : lk = ks.length)
    (hl' : l ≤ 9223372036854775807) (hlk' : lk ≤ 9223372036854775807) (hks : AllI ks) :
    Gives Try.prog 45 #[.agg #[.int .i64 n, .int .i64 m, .int .i64 b], .slice A l c, .slice K lk ck] w fun v w' => v = .bool (fitsB n m b lens ks) ∧ Below w.heap.size w w' := by
  have hbel : Below w.heap.size w (w.alloc (.cells #[.int .i64 n, .int .i64 m, .int .i64 b] 42)) := (Below.refl _ w).alloc (Nat.le_refl _) _
  have hB := bk_new w [.int .i64 n, .int .i64 m, .int .i64 b] 42
  refine gives_enter Try.call45 Try.func45 rfl rfl rfl (by kernel_rfl) ?_
  cases c1 : roomOk n m b l
  · refine v_seq ?_
    refine v_region ?_
    refine vl_val (os_box rfl) ?_
    refine vl_val (os_assign rfl) ?_
    refine vl_nil ?_
    refine v_seq ?_
    refine v_region ?_
    refine vl_val (os_loadB Try.underlying42 rfl (by kernel_rfl) rfl (hB)) ?_
    refine vl_val (os_move rfl) ?_
    refine vl_val (os_len Try.underlying40 rfl) ?_
    refine vl_call (size_Room n m b l _) rfl ?_
    rintro v w1 ⟨rfl, hb1⟩
    have hbel1 := hbel.trans (hb1.mono (by simp))
    refine vl_val (os_move rfl) ?_
    refine vl_val (os_extract rfl rfl) ?_
    refine vl_val (os_extract rfl rfl) ?_
    refine vl_val (os_assign rfl) ?_
    refine vl_val (os_assign rfl) ?_
    refine vl_nil ?_
    refine v_seq ?_
    refine v_seq ?_
    refine v_region ?_
    refine vl_val (os_move rfl) ?_
    refine vl_val (os_t (os_neq rfl rfl) (by simp [c1, errE])) ?_
    refine vl_val (os_move rfl) ?_
    refine vl_skip rfl rfl ?_
    refine vl_skip rfl rfl ?_
    refine vl_skip rfl rfl ?_
    refine vl_val (os_pick_t rfl rfl) ?_
    refine vl_val (os_move rfl) ?_
    refine vl_skip rfl rfl ?_
    refine vl_skip rfl rfl ?_
    refine vl_skip rfl rfl ?_
    refine vl_skip rfl rfl ?_
    refine vl_skip rfl rfl ?_
    refine vl_val (os_pick_t rfl rfl) ?_
    refine vl_val (os_move rfl) ?_
    refine vl_skip rfl rfl ?_
    refine vl_skip rfl rfl ?_
    refine vl_skip rfl rfl ?_
    refine vl_val (os_pick_t rfl rfl) ?_
    refine vl_nil ?_
    refine v_cond_t rfl ?_
    refine v_seq ?_
    refine v_region ?_
    refine vl_val (os_assign rfl) ?_
    refine vl_nil ?_
    refine v_ret ?_
    exact post_ret rfl rfl (⟨by simp [fitsB, ← hl, c1], hbel1⟩)
  · cases c2 : lensB lens
    · refine v_seq ?_
      refine v_region ?_
      refine vl_val (os_box rfl) ?_
      refine vl_val (os_assign rfl) ?_
      refine vl_nil ?_
      refine v_seq ?_
      refine v_region ?_
      refine vl_val (os_loadB Try.underlying42 rfl (by kernel_rfl) rfl (hB)) ?_
      refine vl_val (os_move rfl) ?_
      refine vl_val (os_len Try.underlying40 rfl) ?_
      refine vl_call (size_Room n m b l _) rfl ?_
      rintro v w1 ⟨rfl, hb1⟩
      have hbel1 := hbel.trans (hb1.mono (by simp))
      refine vl_val (os_move rfl) ?_
      refine vl_val (os_extract rfl rfl) ?_
      refine vl_val (os_extract rfl rfl) ?_
      refine vl_val (os_assign rfl) ?_
      refine vl_val (os_assign rfl) ?_
      refine vl_nil ?_
      refine v_seq ?_
      refine v_seq ?_
      refine v_region ?_
      refine vl_val (os_move rfl) ?_
      refine vl_val (os_f (os_neq rfl rfl) (by simp [c1, errE])) ?_
      refine vl_val (os_move rfl) ?_
      refine vl_valg rfl (os_move rfl) ?_
      refine vl_callg rfl (gives_boolb (size_lengths A l c lens _ ((ha.keep hbel1)) hl hl') c2) rfl ?_
      rintro v w2 ⟨rfl, q, rfl⟩
      refine vl_valg rfl (os_not rfl) ?_
      refine vl_val (os_pick_f rfl rfl) ?_
      refine vl_val (os_move rfl) ?_
      refine vl_skip rfl rfl ?_
      refine vl_skip rfl rfl ?_
      refine vl_skip rfl rfl ?_
      refine vl_skip rfl rfl ?_
      refine vl_skip rfl rfl ?_
      refine vl_val (os_pick_t rfl rfl) ?_
      refine vl_val (os_move rfl) ?_
      refine vl_skip rfl rfl ?_
      refine vl_skip rfl rfl ?_
      refine vl_skip rfl rfl ?_
      refine vl_val (os_pick_t rfl rfl) ?_
      refine vl_nil ?_
      refine v_cond_t rfl ?_
      refine v_seq ?_
      refine v_region ?_
      refine vl_val (os_assign rfl) ?_
      refine vl_nil ?_
      refine v_ret ?_
      exact post_ret rfl rfl (⟨by simp [fitsB, c2], below_drewN_ hbel1 q⟩)
    · by_cases c3 : lk = l
      · cases c4 : sortedB ks
        · refine v_seq ?_
          refine v_region ?_
          refine vl_val (os_box rfl) ?_
          refine vl_val (os_assign rfl) ?_
          refine vl_nil ?_
          refine v_seq ?_
          refine v_region ?_
          refine vl_val (os_loadB Try.underlying42 rfl (by kernel_rfl) rfl (hB)) ?_
          refine vl_val (os_move rfl) ?_
          refine vl_val (os_len Try.underlying40 rfl) ?_
          refine vl_call (size_Room n m b l _) rfl ?_
          rintro v w1 ⟨rfl, hb1⟩
          have hbel1 := hbel.trans (hb1.mono (by simp))
          refine vl_val (os_move rfl) ?_
          refine vl_val (os_extract rfl rfl) ?_
          refine vl_val (os_extract rfl rfl) ?_
          refine vl_val (os_assign rfl) ?_
          refine vl_val (os_assign rfl) ?_
          refine vl_nil ?_
          refine v_seq ?_
          refine v_seq ?_
          refine v_region ?_
          refine vl_val (os_move rfl) ?_
          refine vl_val (os_f (os_neq rfl rfl) (by simp [c1, errE])) ?_
          refine vl_val (os_move rfl) ?_
          refine vl_valg rfl (os_move rfl) ?_
          refine vl_callg rfl (gives_boolb (size_lengths A l c lens _ ((ha.keep hbel1)) hl hl') c2) rfl ?_
          rintro v w2 ⟨rfl, q, rfl⟩
          refine vl_valg rfl (os_not rfl) ?_
          refine vl_val (os_pick_f rfl rfl) ?_
          refine vl_val (os_move rfl) ?_
          refine vl_valg rfl (os_move rfl) ?_
          refine vl_valg rfl (os_len Try.underlying40 rfl) ?_
          refine vl_valg rfl (os_move rfl) ?_
          refine vl_valg rfl (os_len Try.underlying40 rfl) ?_
          refine vl_valg rfl (os_f (os_neq rfl rfl) (by simp [c3])) ?_
          refine vl_val (os_pick_f rfl rfl) ?_
          refine vl_val (os_move rfl) ?_
          refine vl_valg rfl (os_move rfl) ?_
          refine vl_callg rfl (gives_boolb (slices_IsSorted K lk ck ks _ ((hk.keep hbel1).drewN q) hlk hlk') c4) rfl ?_
          rintro v w2 ⟨rfl, q2, rfl⟩
          refine vl_valg rfl (os_not rfl) ?_
          refine vl_val (os_pick_f rfl rfl) ?_
          refine vl_nil ?_
          refine v_cond_t rfl ?_
          refine v_seq ?_
          refine v_region ?_
          refine vl_val (os_assign rfl) ?_
          refine vl_nil ?_
          refine v_ret ?_
          exact post_ret rfl rfl (⟨by simp [fitsB, c4], below_drewN_ (below_drewN_ hbel1 q) q2⟩)
        · refine v_seq ?_
          refine v_region ?_
          refine vl_val (os_box rfl) ?_
          refine vl_val (os_assign rfl) ?_
          refine vl_nil ?_
          refine v_seq ?_
          refine v_region ?_
          refine vl_val (os_loadB Try.underlying42 rfl (by kernel_rfl) rfl (hB)) ?_
          refine vl_val (os_move rfl) ?_
          refine vl_val (os_len Try.underlying40 rfl) ?_
          refine vl_call (size_Room n m b l _) rfl ?_
          rintro v w1 ⟨rfl, hb1⟩
          have hbel1 := hbel.trans (hb1.mono (by simp))
          refine vl_val (os_move rfl) ?_
          refine vl_val (os_extract rfl rfl) ?_
          refine vl_val (os_extract rfl rfl) ?_
          refine vl_val (os_assign rfl) ?_
          refine vl_val (os_assign rfl) ?_
          refine vl_nil ?_
          refine v_seq ?_
          refine v_seq ?_
          refine v_region ?_
          refine vl_val (os_move rfl) ?_
          refine vl_val (os_f (os_neq rfl rfl) (by simp [c1, errE])) ?_
          refine vl_val (os_move rfl) ?_
          refine vl_valg rfl (os_move rfl) ?_
          refine vl_callg rfl (gives_boolb (size_lengths A l c lens _ ((ha.keep hbel1)) hl hl') c2) rfl ?_
          rintro v w2 ⟨rfl, q, rfl⟩
          refine vl_valg rfl (os_not rfl) ?_
          refine vl_val (os_pick_f rfl rfl) ?_
          refine vl_val (os_move rfl) ?_
          refine vl_valg rfl (os_move rfl) ?_
          refine vl_valg rfl (os_len Try.underlying40 rfl) ?_
          refine vl_valg rfl (os_move rfl) ?_
          refine vl_valg rfl (os_len Try.underlying40 rfl) ?_
          refine vl_valg rfl (os_f (os_neq rfl rfl) (by simp [c3])) ?_
          refine vl_val (os_pick_f rfl rfl) ?_
          refine vl_val (os_move rfl) ?_
          refine vl_valg rfl (os_move rfl) ?_
          refine vl_callg rfl (gives_boolb (slices_IsSorted K lk ck ks _ ((hk.keep hbel1).drewN q) hlk hlk') c4) rfl ?_
          rintro v w2 ⟨rfl, q2, rfl⟩
          obtain ⟨w2, hw2⟩ : ∃ w2, w2 = (w1.drewN q).drewN q2 := ⟨_, rfl⟩
          have hbel2 : Below w.heap.size w w2 := by rw [hw2]; exact below_drewN_ (below_drewN_ hbel1 q) q2
          have hB2 : Bk w2 w.heap.size [.int .i64 n, .int .i64 m, .int .i64 b] 42 := by have h1 := hB.keep hb1; rw [hw2]; exact h1
          have ha2 : Rd w2 .i64 A lens := by have h1 := ha.keep hbel1; rw [hw2]; exact h1
          have hk2 : Rd w2 .i64 K ks := by have h1 := hk.keep hbel1; rw [hw2]; exact h1
          have hrv : roomV n m b l = roomW n m b l := by simp [roomV, c1]
          have hrb := room_bd c1
          have hlb := lens_bd c2
          have hfit : fitsB n m b lens ks = fitGo n (roomW n m b l) (lens.zip ks) := by simp [fitsB, ← hl, ← hlk, c1, c2, c3, c4]
          rw [hfit, ← hw2, hrv]
          refine vl_valg rfl (os_not rfl) ?_
          refine vl_val (os_pick_f rfl rfl) ?_
          refine vl_nil ?_
          refine v_cond_f rfl ?_
          refine v_skip ?_
          refine v_seq ?_
          refine v_seq ?_
          refine v_region ?_
          refine vl_val (os_move rfl) ?_
          refine vl_val (os_len Try.underlying40 rfl) ?_
          refine vl_val (os_move rfl) ?_
          refine vl_nil ?_
          refine v_block ?_
          refine v_loop2 [(1, _), (2, _), (3, _), (39, _)] (fun (k : Nat) (r : Int) => [(7, .int .i64 r), (40, .int .i64 k)]) (fun k r w' => k ≤ l ∧ (k = 0 ∨ 0 ≤ r) ∧ -1 ≤ r ∧ r ≤ 1500 ∧ fitGo n (roomW n m b l) (lens.zip ks) = fitGo n r ((lens.zip ks).drop k) ∧ LeD w2 w') (fun k r => l - k) (0) (roomW n m b l) ⟨rfl, rfl, rfl, rfl, trivial⟩ ⟨rfl, rfl, trivial⟩ (⟨by omega, .inl rfl, hrb.1, hrb.2, rfl, lee_d.refl _⟩) ?_
          rintro k r w' ⟨hkl, hr0, hr1, hr2, hgo, q3, rfl⟩
          refine v_seq ?_
          refine v_region ?_
          refine vl_val (os_lss rfl rfl) ?_
          refine vl_nil ?_
          refine v_seq ?_
          refine v_cond_d rfl (fun hlt => ?_) (fun hlt => ?_)
          · have hzl : k < (lens.zip ks).length := by rw [List.length_zip]; omega
            have hcons := List.drop_eq_getElem_cons hzl
            have hz : (lens.zip ks)[k] = (lens.getD k 0, ks.getD k 0) := by simp [show k < lens.length by omega, show k < ks.length by omega]
            rw [hz] at hcons
            obtain ⟨b1, o1, rfl, d1⟩ := (hk2.drewN q3).at_ (i := k) (by omega)
            obtain ⟨b2, o2, rfl, d2⟩ := (ha2.drewN q3).at_ (i := k) (by omega)
            have hlk2 := hlb.2.2 k (by omega)
            refine v_skip ?_
            refine v_seq ?_
            refine v_block ?_
            refine v_seq ?_
            refine v_region ?_
            refine vl_val (os_move rfl) ?_
            refine vl_val (os_assign rfl) ?_
            refine vl_nil ?_
            refine v_seq ?_
            refine v_seq ?_
            refine v_region_t LeD _ mixed (by kernel_rfl) lee_d (led_start _) ?_
            refine vt_val (fun w hw => os_move rfl) ?_
            refine vt_val (fun w hw => os_move rfl) ?_
            refine vt_val (fun w hw => os_ix Try.underlying40 Try.sizeOf3 rfl rfl (i := k) (by omega) (by omega)) ?_
            refine vt_val (fun w hw => os_load Try.isAgg3 rfl (led_cell hw (d1))) ?_
            refine vt_val (fun w hw => os_fa (o := 0) (k := 0) (by kernel_rfl) rfl) ?_
            refine vt_val (fun w hw => os_load Try.isAgg3 rfl (led_cell hw ((hB2.led ⟨q3, rfl⟩).cell rfl))) ?_
            refine vt_val (fun w hw => os_gtr rfl rfl) ?_
            refine vt_nil (fun w hw => ?_)
            obtain ⟨q4, rfl⟩ := hw
            refine v_cond_d rfl (fun hbig => ?_) (fun hbig => ?_)
            · refine v_seq ?_
              refine v_region ?_
              refine vl_val (os_assign rfl) ?_
              refine vl_nil ?_
              refine v_ret ?_
              exact post_ret rfl rfl (⟨by rw [hgo, fitGo_drop_false hcons (by simp only []; omega)], below_drewN_ (below_drewN_ hbel2 q3) q4⟩)
            · cases c5 : widthOk (lens.getD k 0) (ks.getD k 0)
              · refine v_skip ?_
                refine v_seq ?_
                refine v_region_t LeD _ mixed (by kernel_rfl) lee_d (led_start _) ?_
                refine vt_val (fun w hw => os_move rfl) ?_
                refine vt_val (fun w hw => os_move rfl) ?_
                refine vt_val (fun w hw => os_ix Try.underlying40 Try.sizeOf3 rfl rfl (i := k) (by omega) (by omega)) ?_
                refine vt_val (fun w hw => os_load Try.isAgg3 rfl (led_cell hw (d2))) ?_
                refine vt_val (fun w hw => os_move rfl) ?_
                refine vt_val (fun w hw => os_move rfl) ?_
                refine vt_val (fun w hw => os_ix Try.underlying40 Try.sizeOf3 rfl rfl (i := k) (by omega) (by omega)) ?_
                refine vt_val (fun w hw => os_load Try.isAgg3 rfl (led_cell hw (d1))) ?_
                refine vt_call (v := _) (fun w hw => (strip_Width (lens.getD k 0) (ks.getD k 0) _ ⟨by omega, by omega⟩ (hks.at_ k)).mono fun v w' h => ⟨h.1, by rw [h.2]; exact lee_d.refl _⟩) rfl ?_
                refine vt_val (fun w hw => os_move rfl) ?_
                refine vt_val (fun w hw => os_extract rfl rfl) ?_
                refine vt_val (fun w hw => os_extract rfl rfl) ?_
                refine vt_val (fun w hw => os_assign rfl) ?_
                refine vt_val (fun w hw => os_assign rfl) ?_
                refine vt_nil (fun w hw => ?_)
                obtain ⟨q5, rfl⟩ := hw
                have hwv : widthV (lens.getD k 0) (ks.getD k 0) = 0 := by unfold widthV; rw [c5]; rfl
                refine v_seq ?_
                refine v_region ?_
                refine vl_val (os_move rfl) ?_
                refine vl_val (os_move rfl) ?_
                refine vl_val (os_subi rfl rfl (by omega)) ?_
                refine vl_val (os_assign rfl) ?_
                refine vl_nil ?_
                refine v_seq ?_
                refine v_region ?_
                refine vl_val (os_move rfl) ?_
                refine vl_val (os_t (os_neq rfl rfl) (by rw [c5]; decide)) ?_
                refine vl_val (os_move rfl) ?_
                refine vl_skip rfl rfl ?_
                refine vl_skip rfl rfl ?_
                refine vl_val (os_pick_t rfl rfl) ?_
                refine vl_nil ?_
                refine v_cond_t rfl ?_
                refine v_seq ?_
                refine v_region ?_
                refine vl_val (os_assign rfl) ?_
                refine vl_nil ?_
                refine v_ret ?_
                exact post_ret rfl rfl (⟨by rw [hgo, fitGo_drop_false hcons (by simp only []; rw [c5]; simp)], below_drewN_ (below_drewN_ (below_drewN_ hbel2 q3) q4) q5⟩)
              · have hwv : widthV (lens.getD k 0) (ks.getD k 0) = widthW (lens.getD k 0) (ks.getD k 0) := by unfold widthV; rw [c5]; rfl
                have hwb := width_bd c5
                refine v_skip ?_
                refine v_seq ?_
                refine v_region_t LeD _ mixed (by kernel_rfl) lee_d (led_start _) ?_
                refine vt_val (fun w hw => os_move rfl) ?_
                refine vt_val (fun w hw => os_move rfl) ?_
                refine vt_val (fun w hw => os_ix Try.underlying40 Try.sizeOf3 rfl rfl (i := k) (by omega) (by omega)) ?_
                refine vt_val (fun w hw => os_load Try.isAgg3 rfl (led_cell hw (d2))) ?_
                refine vt_val (fun w hw => os_move rfl) ?_
                refine vt_val (fun w hw => os_move rfl) ?_
                refine vt_val (fun w hw => os_ix Try.underlying40 Try.sizeOf3 rfl rfl (i := k) (by omega) (by omega)) ?_
                refine vt_val (fun w hw => os_load Try.isAgg3 rfl (led_cell hw (d1))) ?_
                refine vt_call (v := _) (fun w hw => (strip_Width (lens.getD k 0) (ks.getD k 0) _ ⟨by omega, by omega⟩ (hks.at_ k)).mono fun v w' h => ⟨h.1, by rw [h.2]; exact lee_d.refl _⟩) rfl ?_
                refine vt_val (fun w hw => os_move rfl) ?_
                refine vt_val (fun w hw => os_extract rfl rfl) ?_
                refine vt_val (fun w hw => os_extract rfl rfl) ?_
                refine vt_val (fun w hw => os_assign rfl) ?_
                refine vt_val (fun w hw => os_assign rfl) ?_
                refine vt_nil (fun w hw => ?_)
                obtain ⟨q5, rfl⟩ := hw
                refine v_seq ?_
                refine v_region ?_
                refine vl_val (os_move rfl) ?_
                refine vl_val (os_move rfl) ?_
                refine vl_val (os_subi rfl rfl (by omega)) ?_
                refine vl_val (os_assign rfl) ?_
                refine vl_nil ?_
                refine v_seq ?_
                refine v_region ?_
                refine vl_val (os_move rfl) ?_
                refine vl_val (os_f (os_neq rfl rfl) (by rw [c5]; decide)) ?_
                refine vl_val (os_move rfl) ?_
                refine vl_valg rfl (os_move rfl) ?_
                refine vl_valg rfl (os_lss rfl rfl) ?_
                refine vl_val (os_pick_f rfl rfl) ?_
                refine vl_nil ?_
                refine v_cond_d rfl (fun hneg => ?_) (fun hneg => ?_)
                · refine v_seq ?_
                  refine v_region ?_
                  refine vl_val (os_assign rfl) ?_
                  refine vl_nil ?_
                  refine v_ret ?_
                  exact post_ret rfl rfl (⟨by rw [hgo, fitGo_drop_false hcons (by simp only []; omega)], below_drewN_ (below_drewN_ (below_drewN_ hbel2 q3) q4) q5⟩)
                · have hstep : fitGo n r ((lens.zip ks).drop k) = fitGo n (r - widthW (lens.getD k 0) (ks.getD k 0)) ((lens.zip ks).drop (k + 1)) := by
                    rw [hcons]; simp only [fitGo, c5, Bool.and_true]; rw [decide_eq_true (by omega), decide_eq_true (by omega)]; simp
                  refine v_skip ?_
                  refine v_region ?_
                  refine vl_val (os_addi rfl rfl (by omega)) ?_
                  refine vl_val (os_move rfl) ?_
                  refine vl_nil ?_
                  exact ⟨(k + 1, r - widthV (lens.getD k 0) (ks.getD k 0)), ⟨rfl, rfl, rfl, rfl, trivial⟩, ⟨rfl, rfl, trivial⟩, ⟨by dsimp only; omega, .inr (by dsimp only; omega), by dsimp only; omega, by dsimp only; omega, by rw [hgo, hstep, hwv], _, by rw [World.drewN_drewN, World.drewN_drewN]⟩, by dsimp only; omega⟩
          · obtain rfl : k = l := by omega
            refine v_exit ?_
            refine v_seq ?_
            refine v_region ?_
            refine vl_val (os_assign rfl) ?_
            refine vl_nil ?_
            refine v_ret ?_
            exact post_ret rfl rfl (⟨by rw [hgo, List.drop_eq_nil_of_le (by rw [List.length_zip]; omega)]; rfl, below_drewN_ hbel2 q3⟩)
      · refine v_seq ?_
        refine v_region ?_
        refine vl_val (os_box rfl) ?_
        refine vl_val (os_assign rfl) ?_
        refine vl_nil ?_
        refine v_seq ?_
        refine v_region ?_
        refine vl_val (os_loadB Try.underlying42 rfl (by kernel_rfl) rfl (hB)) ?_
        refine vl_val (os_move rfl) ?_
        refine vl_val (os_len Try.underlying40 rfl) ?_
        refine vl_call (size_Room n m b l _) rfl ?_
        rintro v w1 ⟨rfl, hb1⟩
        have hbel1 := hbel.trans (hb1.mono (by simp))
        refine vl_val (os_move rfl) ?_
        refine vl_val (os_extract rfl rfl) ?_
        refine vl_val (os_extract rfl rfl) ?_
        refine vl_val (os_assign rfl) ?_
        refine vl_val (os_assign rfl) ?_
        refine vl_nil ?_
        refine v_seq ?_
        refine v_seq ?_
        refine v_region ?_
        refine vl_val (os_move rfl) ?_
        refine vl_val (os_f (os_neq rfl rfl) (by simp [c1, errE])) ?_
        refine vl_val (os_move rfl) ?_
        refine vl_valg rfl (os_move rfl) ?_
        refine vl_callg rfl (gives_boolb (size_lengths A l c lens _ ((ha.keep hbel1)) hl hl') c2) rfl ?_
        rintro v w2 ⟨rfl, q, rfl⟩
        refine vl_valg rfl (os_not rfl) ?_
        refine vl_val (os_pick_f rfl rfl) ?_
        refine vl_val (os_move rfl) ?_
        refine vl_valg rfl (os_move rfl) ?_
        refine vl_valg rfl (os_len Try.underlying40 rfl) ?_
        refine vl_valg rfl (os_move rfl) ?_
        refine vl_valg rfl (os_len Try.underlying40 rfl) ?_
        refine vl_valg rfl (os_t (os_neq rfl rfl) (by omega)) ?_
        refine vl_val (os_pick_f rfl rfl) ?_
        refine vl_val (os_move rfl) ?_
        refine vl_skip rfl rfl ?_
        refine vl_skip rfl rfl ?_
        refine vl_skip rfl rfl ?_
        refine vl_val (os_pick_t rfl rfl) ?_
        refine vl_nil ?_
        refine v_cond_t rfl ?_
        refine v_seq ?_
        refine v_region ?_
        refine vl_val (os_assign rfl) ?_
        refine vl_nil ?_
        refine v_ret ?_
        exact post_ret rfl rfl (⟨by simp [fitsB, ← hl, ← hlk, c3], below_drewN_ hbel1 q⟩)
end Go.Proofs.Ytpojijnjdlnokaa
