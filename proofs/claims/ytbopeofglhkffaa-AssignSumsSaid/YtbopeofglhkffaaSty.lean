/- Styles, nodes and trees as cells. -/
import Derived.Test.YtbopeofglhkffaaProg
import Derived.Test.YtbopeofglhkffaaRowk
import Derived.Laws.Externs
import Derived.BigQuiet
import Derived.Deep.DeepCutAuto
import Derived.Deep.QuietTactic
import Derived.Deep.RegionHeld3
import Derived.Deep.MidRow
set_option linter.unusedSimpArgs false
set_option linter.unusedVariables false
namespace Go.Proofs.Ytbopeofglhkffaa
open Go.RowKit
def cutF (x : Int) : Int := if x > 1099511627776 then 1099511627776 else if x < -1099511627776 then -1099511627776 else x
def cutB (x : Int) : Bool := decide (x > 1099511627776) || decide (x < -1099511627776)
set_option maxHeartbeats 400000 in
theorem cut_any (x : Int) (w : World) :
    Calls Try.prog 40 #[.int .i64 x] w fun e w' => e = .returned (.tuple #[.int .i64 (cutF x), .bool (cutB x)]) ∧ w = w' := by
  go_enter Try.func40, Try.ntmps40
  go_wp2
  all_goals
    go_ret2
    refine ⟨?_, rfl⟩
    simp [cutF, cutB]
    try omega
theorem add64 (x y c : Int) (hx : 0 ≤ x) (hy : 0 ≤ y) (hc0 : 0 ≤ c) (hc : c ≤ 1) (w : World) : (callFunc 78 #[.int .u64 x, .int .u64 y, .int .u64 c]).run Try.prog w =
    .ok (.value (.tuple #[.int .u64 ((x + y + c) % 18446744073709551616), .int .u64 ((x + y + c) / 18446744073709551616)])) w := by
  rw [run_callFunc_extern (fn := Try.f78) (by kernel_rfl) (by kernel_rfl) (by kernel_rfl) (by kernel_rfl) (e := add64Entry) (by kernel_rfl), run_add64 x y c hx hy hc0 hc]
  rfl
theorem add64_0 (x y : Int) (hx : 0 ≤ x) (hy : 0 ≤ y) (w : World) : (callFunc 78 #[.int .u64 x, .int .u64 y, .int .u64 0]).run Try.prog w =
    .ok (.value (.tuple #[.int .u64 ((x + y) % 18446744073709551616), .int .u64 ((x + y) / 18446744073709551616)])) w := by
  simpa using add64 x y 0 hx hy (Int.le_refl 0) (by decide) w
theorem u64_eq (x : Int) : IntKind.u64.wrap x = x % 18446744073709551616 := by simp [IntKind.wrap, IntKind.signed, IntKind.bits]
theorem u64_nn (x : Int) : 0 ≤ IntKind.u64.wrap x := by rw [u64_eq]; omega
def hiOf (S : Int) : Value := .int .i64 (S / 18446744073709551616)
def loOf (S : Int) : Value := .int .u64 (S % 18446744073709551616)
theorem sum1_lo (S x : Int) : (S + IntKind.u64.wrap x) % 18446744073709551616 = (S + x) % 18446744073709551616 := by rw [u64_eq]; omega
theorem sum1_hi (S x : Int) (hx0 : -9223372036854775808 ≤ x) (hx1 : x < 9223372036854775808) (h0 : -170141183460469231731687303715884105728 ≤ S + x) (h1 : S + x < 170141183460469231731687303715884105728) :
    wrap64 (S / 18446744073709551616 + wrap64 (x / 9223372036854775808 + wrap64 ((S % 18446744073709551616 + IntKind.u64.wrap x) / 18446744073709551616))) = (S + x) / 18446744073709551616 := by
  rw [u64_eq]
  obtain ⟨q, r, hr0, hr1, rfl⟩ : ∃ q r : Int, 0 ≤ r ∧ r < 18446744073709551616 ∧ S = 18446744073709551616 * q + r := ⟨S / 18446744073709551616, S % 18446744073709551616, by omega, by omega, by omega⟩
  have e1 : (18446744073709551616 * q + r) / 18446744073709551616 = q := by omega
  have e2 : (18446744073709551616 * q + r) % 18446744073709551616 = r := by omega
  rw [e1, e2]
  obtain ⟨c, hc, hc0, hc1⟩ : ∃ c, (r + x % 18446744073709551616) / 18446744073709551616 = c ∧ 0 ≤ c ∧ c ≤ 1 := ⟨_, rfl, by omega, by omega⟩
  rw [hc, IntWalk.wrap64_in c ⟨by omega, by omega⟩, IntWalk.wrap64_in (_ + c) ⟨by omega, by omega⟩]
  rw [IntWalk.wrap64_in _ ⟨by omega, by omega⟩]
  omega
set_option maxHeartbeats 400000 in
theorem sum1_any (S x : Int) (b : Nat) (w : World) (hx0 : -9223372036854775808 ≤ x) (hx1 : x < 9223372036854775808) (hS0 : -170141183460469231731687303715884105728 ≤ S + x) (hS1 : S + x < 170141183460469231731687303715884105728)
    (h0 : w.cell? ⟨b, 0, none⟩ = some (hiOf S)) (h1 : w.cell? ⟨b, 1, none⟩ = some (loOf S)) (f0 : w.frozen? ⟨b, 0, none⟩ = false) (f1 : w.frozen? ⟨b, 1, none⟩ = false) :
    Calls Try.prog 77 #[.int .i64 x, .pointer (some ⟨b, 0, none⟩)] w fun e w' => e = .returned (.tuple #[]) ∧ (w.setCell ⟨b, 1, none⟩ (loOf (S + x))).setCell ⟨b, 0, none⟩ (hiOf (S + x)) = w' := by
  have e1 := sum1_hi S x hx0 hx1 hS0 hS1
  have e0 : 0 ≤ S % 18446744073709551616 := by omega
  have E1 := Lib.hid e1
  clear e1 hx0 hx1 hS0 hS1
  unfold hiOf at h0
  unfold loOf at h1
  go_enter Try.func77, Try.ntmps77
  go_wp2_with (first | simp only [add64_0 (S % 18446744073709551616) _ e0 (u64_nn x)])
  go_end0
  refine ⟨rfl, ?_⟩
  rw [E1.out, sum1_lo]
  rfl
theorem low64 (S : Int) (h : -9223372036854775808 ≤ S ∧ S < 9223372036854775808) : wrap64 (S % 18446744073709551616) = S := by unfold wrap64; omega
theorem is64 (S : Int) (h : -9223372036854775808 ≤ S ∧ S < 9223372036854775808) : S / 18446744073709551616 = wrap64 (S % 18446744073709551616) / 9223372036854775808 := by rw [low64 S h]; omega
theorem not64 (S : Int) (h : S < -9223372036854775808 ∨ 9223372036854775808 ≤ S) : ¬ S / 18446744073709551616 = wrap64 (S % 18446744073709551616) / 9223372036854775808 := by unfold wrap64; omega
set_option maxHeartbeats 400000 in
theorem wcut_any (S : Int) (w : World) (h0 : -170141183460469231731687303715884105728 ≤ S) (h1 : S < 170141183460469231731687303715884105728) :
    Calls Try.prog 79 #[.agg #[hiOf S, loOf S]] w fun e w' => e = .returned (.tuple #[.int .i64 (cutF S), .bool (cutB S)]) ∧ Below w.heap.size w w' := by
  unfold hiOf loOf
  by_cases ha : -9223372036854775808 ≤ S ∧ S < 9223372036854775808
  · have e1 : (S / 18446744073709551616 == wrap64 (S % 18446744073709551616) / 9223372036854775808) = true := by simpa using is64 S ha
    have e2 := low64 S ha
    have E2 := Lib.hid e2
    clear h0 h1 e2
    go_enter Try.func79, Try.ntmps79
    go_wp2_with (go_at_call 40; refine (cut_any _ _).mono ?_; rintro e w' ⟨rfl, rfl⟩)
    go_ret2
    rw [E2.out]
    exact ⟨rfl, (Below.refl _ _).alloc (Nat.le_refl _) _⟩
  · have e1 : (S / 18446744073709551616 == wrap64 (S % 18446744073709551616) / 9223372036854775808) = false := by simpa using not64 S (by omega)
    by_cases hb : S < 0
    · have e2 : cutF S = -1099511627776 ∧ cutB S = true := by unfold cutF cutB; constructor <;> simp <;> omega
      have e3 : S / 18446744073709551616 < 0 := by omega
      have E2 := Lib.hid e2
      clear e2 h0 h1
      go_enter Try.func79, Try.ntmps79
      go_wp2_with fail
      go_ret2
      rw [E2.out.1, E2.out.2]
      exact ⟨rfl, (Below.refl _ _).alloc (Nat.le_refl _) _⟩
    · have e2 : cutF S = 1099511627776 ∧ cutB S = true := by unfold cutF cutB; constructor <;> simp <;> omega
      have e3 : 0 ≤ S / 18446744073709551616 := by omega
      have E2 := Lib.hid e2
      clear e2 h0 h1
      go_enter Try.func79, Try.ntmps79
      go_wp2_with fail
      go_ret2
      rw [E2.out.1, E2.out.2]
      exact ⟨rfl, (Below.refl _ _).alloc (Nat.le_refl _) _⟩
def i64s (l : List Int) : List Value := l.map (Value.int .i64)
set_option maxHeartbeats 800000 in
theorem sum_any (l : List Int) (A : Option Addr) (c : Nat) (w : World) (hl : I64s l) (hn : l.length ≤ 4611686018427387904) (hr : Reads w w.heap.size 1 A l.length (i64s l)) :
    Calls Try.prog 48 #[.slice A l.length c] w fun e w' => e = .returned (.tuple #[.int .i64 (cutF l.sum), .bool (cutB l.sum)]) ∧ Below w.heap.size w w' := by
  go_enter Try.func48, Try.ntmps48
  go_wp2
  go_loopw [11] (fun i wr => ∃ k : Nat, k ≤ l.length ∧ i = .int .i64 k ∧ Blk wr w.heap.size 128 #[hiOf (l.take k).sum, loOf (l.take k).sum] ∧ Below w.heap.size w wr)
    (fun i _ => l.length - (intOf i).toNat)
  case atStart => exact ⟨0, by omega, rfl, Blk.new _ _ _, (Below.refl _ _).alloc (Nat.le_refl _) _⟩
  case round =>
    obtain ⟨k, hk, rfl, hb, hw⟩ := hrel
    by_cases hlt : k < l.length
    · obtain ⟨ad, u, rfl, hab, hx, hc⟩ := (hr.below hw).at_ hlt
      have hu : u = .int .i64 l[k] := by simpa [i64s, hlt] using hx.symm
      subst hu
      have hs := take_sum_succ l k hlt
      have hx2 := hl.at_ hlt
      have hb1 := sum_bd (l.take (k + 1)) fun x hx => hl x (List.mem_of_mem_take hx)
      rw [List.length_take_of_le (by omega), hs] at hb1
      have HS := Lib.hid hs
      have c0 : wr.cell? ⟨w.heap.size, 0, none⟩ = some (hiOf (l.take k).sum) := (hb.cell 0).trans rfl
      have c1 : wr.cell? ⟨w.heap.size, 1, none⟩ = some (loOf (l.take k).sum) := (hb.cell 1).trans rfl
      clear hs hx hr
      go_wp2_with fail
      refine (sum1_any (l.take k).sum l[k] _ _ hx2.1 hx2.2 (by omega) (by omega) c0 c1 (hb.frozen 0) (hb.frozen 1)).mono ?_
      rintro e w' ⟨rfl, rfl⟩
      go_wp2_with fail
      go_roundw
      case rel =>
        refine ⟨k + 1, by omega, by go_num, ?_, ?_⟩
        · rw [HS.out]; exact (hb.set_ 1 _).set_ 0 _
        · exact (hw.setCell (p := ⟨w.heap.size, 1, none⟩) (Nat.le_refl _) _).setCell (p := ⟨w.heap.size, 0, none⟩) (Nat.le_refl _) _
      case measure => simp [intOf]; omega
    · obtain rfl : k = l.length := by omega
      have c0 : wr.cell? ⟨w.heap.size, 0, none⟩ = some (hiOf l.sum) := (hb.cell 0).trans (by simp)
      have c1 : wr.cell? ⟨w.heap.size, 1, none⟩ = some (loOf l.sum) := (hb.cell 1).trans (by simp)
      have hb1 := sum_bd l hl
      clear hr
      go_wp2_with fail
      refine (wcut_any l.sum _ (by omega) (by omega)).mono ?_
      rintro e w' ⟨rfl, hb2⟩
      go_wp2_with fail
      go_ret2
      exact ⟨rfl, hw.trans (hb2.mono hw.size)⟩
end Go.Proofs.Ytbopeofglhkffaa
namespace Go.Proofs.Ytbopeofglhkffaa
open Go.RowKit
attribute [local go_sem] block_of_add
def u16s (l : List Int) : List Value := l.map (Value.int .u16)
def U16s (l : List Int) : Prop := ∀ x ∈ l, 0 ≤ x ∧ x < 65536
theorem U16s.at_ {l : List Int} (h : U16s l) {k : Nat} (hk : k < l.length) : 0 ≤ l[k] ∧ l[k] < 65536 := h _ (List.getElem_mem hk)
/-- A unit's advance. -/
def adv (t : List Int) (u : Int) : Int := t[u.toNat]?.getD 0
def advs (t : List Int) (l : List Int) : List Int := l.map (adv t)
theorem advs_len (t l : List Int) : (advs t l).length = l.length := by simp [advs]
theorem adv_i64 {t : List Int} (h : I64s t) (u : Int) : -9223372036854775808 ≤ adv t u ∧ adv t u < 9223372036854775808 := by
  unfold adv
  rcases Nat.lt_or_ge u.toNat t.length with hl | hl
  · rw [List.getElem?_eq_getElem hl]; exact h.at_ hl
  · rw [List.getElem?_eq_none hl]; simp
theorem advs_i64 {t : List Int} (h : I64s t) (l : List Int) : I64s (advs t l) := by
  intro x hx
  simp only [advs, List.mem_map] at hx
  obtain ⟨u, _, rfl⟩ := hx
  exact adv_i64 h u
section
variable (t : List Int) (A : Option Addr) (c : Nat) (w : World) (hr : Reads w w.heap.size 1 A t.length (i64s t))
include hr
set_option maxRecDepth 100000 in
set_option maxHeartbeats 400000 in
theorem adv_any (u : Int) (hu0 : 0 ≤ u) (hu1 : u < 65536) : Calls Try.prog 102 #[.int .u16 u, .slice A t.length c] w fun e w' => e = .returned (.int .i64 (adv t u)) ∧ w = w' := by
  obtain ⟨k, rfl⟩ := Int.eq_ofNat_of_zero_le hu0
  by_cases hlt : k < t.length
  · obtain ⟨ad, v, rfl, hab, hx, hc⟩ := hr.at_ hlt
    have hv : v = .int .i64 (adv t k) := by simp [i64s, hlt] at hx; rw [← hx]; simp [adv, hlt]
    subst hv
    have hd : decide (t.length ≤ k) = false := by simp; omega
    clear hx hr
    go_enter Try.func102, Try.ntmps102
    go_wp2_with fail
    go_ret
    exact ⟨rfl, rfl⟩
  · have hv : adv t k = 0 := by simp [adv, Nat.le_of_not_lt hlt]
    have HV := Lib.hid hv
    have hd : decide (t.length ≤ k) = true := by simp; omega
    clear hr hv hlt
    go_enter Try.func102, Try.ntmps102
    go_wp2_with fail
    go_ret
    exact ⟨by rw [HV.out]; rfl, rfl⟩
end
theorem el_i64 : El Try.prog 23 2 (.int .i64 0) 1 8 := ⟨Try.underlying23, by kernel_rfl, rfl, by decide⟩
/-- Of the first k places the advances, of the others noughts. -/
def filled (t l : List Int) (k : Nat) : List Value := (List.range l.length).map fun j => if j < k then .int .i64 (adv t (l[j]?.getD 0)) else .int .i64 0
theorem filled_zero (t l : List Int) : filled t l 0 = (madeCells (Value.int .i64 0).cells (l.length * 1)).toList := by simp [filled, madeCells, Value.cells, Nat.mod_one]
theorem filled_set (t l : List Int) (k : Nat) (hk : k < l.length) : (filled t l k).set k (.int .i64 (adv t l[k])) = filled t l (k + 1) := by
  apply List.ext_getElem?
  intro j
  simp only [filled, List.getElem?_set, List.length_map, List.length_range, List.getElem?_map]
  by_cases hj : k = j
  · subst hj; simp [hk]
  · rw [if_neg hj]
    by_cases hjl : j < l.length
    · have : (j < k) = (j < k + 1) := by simp; omega
      simp [hjl, this]
    · simp [hjl]
theorem filled_at (t l : List Int) (k : Nat) (hk : k < l.length) : (filled t l k)[k]? = some (.int .i64 0) := by simp [filled, hk]
theorem filled_all (t l : List Int) : filled t l l.length = i64s (advs t l) := by
  apply List.ext_getElem?
  intro j
  simp only [filled, i64s, advs, List.getElem?_map]
  by_cases hj : j < l.length <;> simp [hj]
set_option maxHeartbeats 800000 in
theorem wide_any (l t : List Int) (A B : Option Addr) (c d : Nat) (w : World) (hl : U16s l) (ht : I64s t) (hn : l.length ≤ 4294967296) (hrl : Reads w w.heap.size 1 A l.length (u16s l)) (hrt : Reads w w.heap.size 1 B t.length (i64s t)) :
    Calls Try.prog 104 #[.slice A l.length c, .slice B t.length d] w fun e w' => e = .returned (.tuple #[.int .i64 (cutF (advs t l).sum), .bool (cutB (advs t l).sum)]) ∧ Below w.heap.size w w' := by
  obtain ⟨i0, hi0, hz0, hz1, hz2⟩ := info_parts el_i64.info
  have HT := Lib.hid hrt
  clear hrt
  go_enter Try.func104, Try.ntmps104
  go_wp2_with (at_make; refine wpList_make_full _ rfl _ _ _ rfl w.heap.size 2 i0 (.int .i64 0) 1 Try.underlying23 hi0 hz0 hz1 .i64 .i64 _ _ l.length rfl rfl rfl rfl (by rw [hz2]; omega) (by simp only [maxLen]; omega) (Nat.le_refl _) ?_; intro w1 hown hg)
  have hown0 : w1.ownsRow w.heap.size 2 1 (.slice (some ⟨w.heap.size, 0, none⟩) l.length l.length) l.length (filled t l 0) := by rw [filled_zero]; exact hown
  have hw1 : Below w.heap.size w w1 := (Below.refl _ _).grown hg (Nat.le_refl _) (by simp)
  clear hown hg
  go_loopw [14] (fun i wr => ∃ k : Nat, k ≤ l.length ∧ i = .int .i64 k ∧ wr.ownsRow w.heap.size 2 1 (.slice (some ⟨w.heap.size, 0, none⟩) l.length l.length) l.length (filled t l k) ∧ Below w.heap.size w wr) (fun i _ => l.length - (intOf i).toNat)
  case atStart => exact ⟨0, by omega, rfl, hown0, hw1⟩
  case round =>
    obtain ⟨k, hk, rfl, hown, hw⟩ := hrel
    by_cases hlt : k < l.length
    · obtain ⟨ad, u, rfl, hab, hx, hc⟩ := (hrl.below hw).at_ hlt
      have hu : u = .int .u16 l[k] := by simpa [u16s, hlt] using hx.symm
      subst hu
      have hx2 := hl.at_ hlt
      have HF := Lib.hid (filled_set t l k hlt)
      clear hx hrl
      go_wp2_with fail
      refine (adv_any t B d _ ((HT.out.below hw).more hw.size) l[k] hx2.1 hx2.2).mono ?_
      rintro e w' ⟨rfl, rfl⟩
      have hfr := hown.frozenAt k
      have hcl := (hown.cellAt k (by omega)).trans (filled_at t l k hlt)
      go_wp2_with fail
      go_roundw
      case rel => exact ⟨k + 1, by omega, by go_num, by rw [← HF.out]; exact (hown.stored k _).1, hw.setCell (p := ⟨w.heap.size, k, none⟩) (Nat.le_refl _) _⟩
      case measure => simp [intOf]; omega
    · obtain rfl : k = l.length := by omega
      rw [filled_all] at hown
      have hrd : Reads wr wr.heap.size 1 (some ⟨w.heap.size, 0, none⟩) (advs t l).length (i64s (advs t l)) := by rw [advs_len]; exact Reads.of_own hown
      have hnn : (advs t l).length ≤ 4611686018427387904 := by rw [advs_len]; omega
      have HC := Lib.hid (sum_any (advs t l) (some ⟨w.heap.size, 0, none⟩) l.length wr (advs_i64 ht l) hnn hrd)
      rw [advs_len] at HC
      clear hrl hrd hnn
      go_wp2_with fail
      refine HC.out.mono ?_
      rintro e w' ⟨rfl, hb⟩
      go_wp2_with fail
      go_ret2
      exact ⟨rfl, hw.trans (hb.mono hw.size)⟩
end Go.Proofs.Ytbopeofglhkffaa
namespace Go.Proofs.Ytbopeofglhkffaa
open Go.ChangeShapes Go.WideShapes Go.ChangeAt Go.RowKit
theorem u16_of_wf {n : Int} (h : (Lit.int .u16 n).wf = true) : 0 ≤ n ∧ n < 65536 := by
  have h1 : IntKind.u16.min = 0 := rfl
  have h2 : IntKind.u16.max = 65535 := rfl
  simp only [Lit.wf, Bool.and_eq_true, decide_eq_true_eq] at h
  omega
theorem i64_wf {n : Int} (h : (Lit.int .i64 n).wf = true) : -9223372036854775808 ≤ n ∧ n < 9223372036854775808 := by
  have h1 : IntKind.i64.min = -9223372036854775808 := rfl
  have h2 : IntKind.i64.max = 9223372036854775807 := rfl
  simp only [Lit.wf, Bool.and_eq_true, decide_eq_true_eq] at h
  omega
theorem flat_map1 (f : Int → Value) (l : List Int) : l.flatMap (fun x => [f x]) = l.map f := by
  induction l with
  | nil => rfl
  | cons a t ih => simp [List.flatMap_cons, ih]
section
variable {H : Type} {enc : TypeId × Value → H}
theorem reads_u16s {W : World} {v : Value} {d : DataW H} {ps : List MemPlace} (hlt : ∀ x ∈ ps, x.block < W.heap.size) (hv : ∃ A len c, v = .slice A len c) (h : DataW.Trod enc Try.prog W 0 (fun _ => true) true 50 v d ps) :
    ∃ A c, ∃ l : List Int, v = .slice A l.length c ∧ l.length ≤ c ∧ U16s l ∧ Reads W W.heap.size 1 A l.length (u16s l) := by
  obtain ⟨A, c, l, e, hc, hg, hr⟩ := reads_list (encd := fun x => [Value.int .u16 x]) (good := fun x => 0 ≤ x ∧ x < 65536) Try.underlying50 (show Try.prog.cellsOf 155 = 1 by kernel_rfl) (by omega) (fun n cs y hl h => by
    obtain ⟨x, e, -, hw⟩ := DataW.trod_int Try.underlying155 h
    exact ⟨x, e, u16_of_wf hw⟩) hlt hv h
  rw [flat_map1] at hr
  exact ⟨A, c, l, e, hc, hg, hr⟩
theorem reads_i64s {W : World} {v : Value} {d : DataW H} {ps : List MemPlace} (hlt : ∀ x ∈ ps, x.block < W.heap.size) (hv : ∃ A len c, v = .slice A len c) (h : DataW.Trod enc Try.prog W 0 (fun _ => true) true 23 v d ps) :
    ∃ A c, ∃ l : List Int, v = .slice A l.length c ∧ l.length ≤ c ∧ I64s l ∧ Reads W W.heap.size 1 A l.length (i64s l) := by
  obtain ⟨A, c, l, e, hc, hg, hr⟩ := reads_list (encd := fun x => [Value.int .i64 x]) (good := fun x => -9223372036854775808 ≤ x ∧ x < 9223372036854775808) Try.underlying23 (show Try.prog.cellsOf 2 = 1 by kernel_rfl) (by omega) (fun n cs y hl h => by
    obtain ⟨x, e, -, hw⟩ := DataW.trod_int Try.underlying2 h
    exact ⟨x, e, i64_wf hw⟩) hlt hv h
  rw [flat_map1] at hr
  exact ⟨A, c, l, e, hc, hg, hr⟩
end
end Go.Proofs.Ytbopeofglhkffaa
namespace Go.Proofs.Ytbopeofglhkffaa
open Go.RowKit
/-- A length as a style says it. -/
structure Ln where
  k : Int
  n : Int
  deriving DecidableEq
structure Sty where
  kind : Int
  flow : Bool
  float : Int
  clear : Int
  w : Ln
  h : Ln
  minw : Ln
  maxw : Ln
  minh : Ln
  maxh : Ln
  m0 : Ln
  m1 : Ln
  m2 : Ln
  m3 : Ln
  b0 : Int
  b1 : Int
  b2 : Int
  b3 : Int
  p0 : Int
  p1 : Int
  p2 : Int
  p3 : Int
  align : Int
  line : Int
  wrap : Bool
  justify : Int
  items : Int
  order : Int
  grow : Int
  shrink : Int
  basis : Ln
  units : List Int
  uv : Value
/-- Its cells; the units' slice value is uv. -/
def styCells (s : Sty) : List Value := [.int .u8 s.kind, .bool s.flow, .int .u8 s.float, .int .u8 s.clear, .int .u8 s.w.k, .int .i64 s.w.n, .int .u8 s.h.k, .int .i64 s.h.n, .int .u8 s.minw.k, .int .i64 s.minw.n, .int .u8 s.maxw.k, .int .i64 s.maxw.n, .int .u8 s.minh.k, .int .i64 s.minh.n, .int .u8 s.maxh.k, .int .i64 s.maxh.n, .int .u8 s.m0.k, .int .i64 s.m0.n, .int .u8 s.m1.k, .int .i64 s.m1.n, .int .u8 s.m2.k, .int .i64 s.m2.n, .int .u8 s.m3.k, .int .i64 s.m3.n, .int .i64 s.b0, .int .i64 s.b1, .int .i64 s.b2, .int .i64 s.b3, .int .i64 s.p0, .int .i64 s.p1, .int .i64 s.p2, .int .i64 s.p3, .int .u8 s.align, .int .i64 s.line, .bool s.wrap, .int .u8 s.justify, .int .u8 s.items, .int .i64 s.order, .int .i64 s.grow, .int .i64 s.shrink, .int .u8 s.basis.k, .int .i64 s.basis.n, s.uv]
theorem sty_len (s : Sty) : (styCells s).length = 43 := rfl
theorem sty_size (s : Sty) : (styCells s).toArray.size = 43 := rfl
theorem sty_a0 (s : Sty) : (styCells s).toArray[0]? = some (.int .u8 s.kind) := rfl
theorem sty_a1 (s : Sty) : (styCells s).toArray[1]? = some (.bool s.flow) := rfl
theorem sty_a2 (s : Sty) : (styCells s).toArray[2]? = some (.int .u8 s.float) := rfl
theorem sty_a3 (s : Sty) : (styCells s).toArray[3]? = some (.int .u8 s.clear) := rfl
theorem sty_a4 (s : Sty) : (styCells s).toArray[4]? = some (.int .u8 s.w.k) := rfl
theorem sty_a5 (s : Sty) : (styCells s).toArray[5]? = some (.int .i64 s.w.n) := rfl
theorem sty_a6 (s : Sty) : (styCells s).toArray[6]? = some (.int .u8 s.h.k) := rfl
theorem sty_a7 (s : Sty) : (styCells s).toArray[7]? = some (.int .i64 s.h.n) := rfl
theorem sty_a8 (s : Sty) : (styCells s).toArray[8]? = some (.int .u8 s.minw.k) := rfl
theorem sty_a9 (s : Sty) : (styCells s).toArray[9]? = some (.int .i64 s.minw.n) := rfl
theorem sty_a10 (s : Sty) : (styCells s).toArray[10]? = some (.int .u8 s.maxw.k) := rfl
theorem sty_a11 (s : Sty) : (styCells s).toArray[11]? = some (.int .i64 s.maxw.n) := rfl
theorem sty_a12 (s : Sty) : (styCells s).toArray[12]? = some (.int .u8 s.minh.k) := rfl
theorem sty_a13 (s : Sty) : (styCells s).toArray[13]? = some (.int .i64 s.minh.n) := rfl
theorem sty_a14 (s : Sty) : (styCells s).toArray[14]? = some (.int .u8 s.maxh.k) := rfl
theorem sty_a15 (s : Sty) : (styCells s).toArray[15]? = some (.int .i64 s.maxh.n) := rfl
theorem sty_a18 (s : Sty) : (styCells s).toArray[18]? = some (.int .u8 s.m1.k) := rfl
theorem sty_a19 (s : Sty) : (styCells s).toArray[19]? = some (.int .i64 s.m1.n) := rfl
theorem sty_a22 (s : Sty) : (styCells s).toArray[22]? = some (.int .u8 s.m3.k) := rfl
theorem sty_a23 (s : Sty) : (styCells s).toArray[23]? = some (.int .i64 s.m3.n) := rfl
theorem sty_a32 (s : Sty) : (styCells s).toArray[32]? = some (.int .u8 s.align) := rfl
theorem sty_a33 (s : Sty) : (styCells s).toArray[33]? = some (.int .i64 s.line) := rfl
theorem sty_a34 (s : Sty) : (styCells s).toArray[34]? = some (.bool s.wrap) := rfl
theorem sty_a35 (s : Sty) : (styCells s).toArray[35]? = some (.int .u8 s.justify) := rfl
theorem sty_a36 (s : Sty) : (styCells s).toArray[36]? = some (.int .u8 s.items) := rfl
theorem sty_a37 (s : Sty) : (styCells s).toArray[37]? = some (.int .i64 s.order) := rfl
theorem sty_a38 (s : Sty) : (styCells s).toArray[38]? = some (.int .i64 s.grow) := rfl
theorem sty_a39 (s : Sty) : (styCells s).toArray[39]? = some (.int .i64 s.shrink) := rfl
theorem sty_a40 (s : Sty) : (styCells s).toArray[40]? = some (.int .u8 s.basis.k) := rfl
theorem sty_a41 (s : Sty) : (styCells s).toArray[41]? = some (.int .i64 s.basis.n) := rfl
theorem sty_a42 (s : Sty) : (styCells s).toArray[42]? = some (s.uv) := rfl
structure Nd where
  parent : Int
  s : Sty
def ndCells (x : Nd) : List Value := .int .i64 x.parent :: styCells x.s
def ndsCells (l : List Nd) : List Value := l.flatMap ndCells
theorem nd_len (x : Nd) : (ndCells x).length = 44 := rfl
theorem ndsCells_at (l : List Nd) : ∀ (k i : Nat) (hk : k < l.length), i < 44 → (ndsCells l)[k * 44 + i]? = (ndCells l[k])[i]? := by
  induction l with
  | nil => intro k i hk; simp at hk
  | cons a t ih =>
    intro k i hk hi
    have hc : ndsCells (a :: t) = ndCells a ++ ndsCells t := by simp [ndsCells]
    rw [hc]
    rcases k with _ | k
    · rw [List.getElem?_append_left (by rw [nd_len]; omega)]; simp
    · rw [List.getElem?_append_right (by rw [nd_len]; omega), nd_len, show (k + 1) * 44 + i - 44 = k * 44 + i by omega, ih k i (by simpa using hk) hi]
      simp
/-- A node of a slice that reads as the list: its cells one by one (as the walk spells their places). -/
structure NdAt (w : World) (B : Nat) (p : Addr) (x : Nd) : Prop where
  lt : p.block < B
  par : w.cell? p = some (.int .i64 x.parent)
  cs : ∀ i u, (styCells x.s)[i]? = some u → w.cell? ⟨p.block, p.off + (1 + i), none⟩ = some u
theorem Reads.nd {w : World} {B n k : Nat} {A : Option Addr} {l : List Nd} (h : Reads w B 44 A n (ndsCells l)) (hn : n = l.length) (hk : k < l.length) :
    ∃ ad : Addr, A = some ad ∧ NdAt w B (ad.add (k * 44)) l[k] := by
  obtain ⟨ad, e, hb, hc⟩ := h.2 (by omega)
  refine ⟨ad, e, ⟨by rw [block_of_add]; exact hb, ?_, fun i u hu => ?_⟩⟩
  · exact hc _ _ (by have := ndsCells_at l k 0 hk (by omega); rw [Nat.add_zero] at this; rw [this]; rfl)
  · have hi : i < 43 := by have := (List.getElem?_eq_some_iff.1 hu).1; rw [sty_len] at this; exact this
    have ha : (⟨(ad.add (k * 44)).block, (ad.add (k * 44)).off + (1 + i), none⟩ : Addr) = ad.add (k * 44 + (1 + i)) := by
      rw [← add_of_add, show ∀ p : Addr, p.add (1 + i) = ⟨p.block, p.off + (1 + i), none⟩ from fun p => by unfold Addr.add; rw [if_neg (by omega)]]
    rw [ha]
    exact hc _ u (by rw [ndsCells_at l k (1 + i) hk (by omega), show 1 + i = i + 1 by omega]; exact hu)
theorem NdAt.keep {w w' : World} {B : Nat} {p : Addr} {x : Nd} (h : NdAt w B p x) (hk : ∀ q : Addr, q.block < B → w'.cell? q = w.cell? q) : NdAt w' B p x :=
  ⟨h.lt, (hk p h.lt).trans h.par, fun i u hu => (hk ⟨p.block, p.off + (1 + i), none⟩ h.lt).trans (h.cs i u hu)⟩
theorem NdAt.range {w : World} {B : Nat} {p : Addr} {x : Nd} (h : NdAt w B p x) : w.rangeAt p.block (p.off + 1) (styCells x.s) := fun j v hv => by
  have := h.cs j v hv
  rw [← Nat.add_assoc] at this
  exact this
/-- A tree: its nodes, its advances, its view, all of it below block B. -/
structure TreeAt (w : World) (B : Nat) (v : Value) (l : List Nd) (adv : List Int) (view : Int) : Prop where
  ex : ∃ A c A2 c2, v = .agg #[.slice A l.length c, .slice A2 adv.length c2, .int .i64 view] ∧ Reads w B 44 A l.length (ndsCells l) ∧ Reads w B 1 A2 adv.length (adv.map (Value.int .i64))
  un : ∀ x ∈ l, ∃ A c, x.s.uv = .slice A x.s.units.length c ∧ x.s.units.length ≤ c ∧ Reads w B 1 A x.s.units.length (x.s.units.map (Value.int .u16))
theorem TreeAt.keep {w w' : World} {B : Nat} {v : Value} {l : List Nd} {adv : List Int} {view : Int} (h : TreeAt w B v l adv view) (hk : ∀ q : Addr, q.block < B → w'.cell? q = w.cell? q) : TreeAt w' B v l adv view := by
  obtain ⟨⟨A, c, A2, c2, e, h1, h2⟩, hu⟩ := h
  refine ⟨⟨A, c, A2, c2, e, h1.keep hk, h2.keep hk⟩, fun x hx => ?_⟩
  obtain ⟨A3, c3, e3, h3, h4⟩ := hu x hx
  exact ⟨A3, c3, e3, h3, h4.keep hk⟩
theorem TreeAt.below {w w' : World} {B : Nat} {v : Value} {l : List Nd} {adv : List Int} {view : Int} (h : TreeAt w B v l adv view) (hb : Below B w w') : TreeAt w' B v l adv view := h.keep fun _ hp => hb.cell hp
end Go.Proofs.Ytbopeofglhkffaa
