/- Contracts: jamblaw17's Small. -/
import Derived.Test.YtbopeofglhkffaaTrf
import Derived.Test.YtbopeofglhkffaaApp
set_option linter.unusedSimpArgs false
set_option linter.unusedVariables false
namespace Go.Proofs.Ytbopeofglhkffaa
open Go.RowKit
attribute [local go_sem] block_of_add
structure CheckOk (l : List Nd) (adv : List Int) (view : Int) : Prop where
  n : 0 < l.length ∧ l.length ≤ 65536
  m : adv.length ≤ 4096
  v : 0 ≤ view ∧ view ≤ 1099511627776
  a : ∀ (j : Nat) (h : j < adv.length), 0 ≤ adv[j] ∧ adv[j] ≤ 1099511627776
  nd : ∀ (i : Nat) (h : i < l.length), NdOk l i l[i]
structure CheckAns (l : List Nd) (adv : List Int) (view : Int) (w w' : World) (e : Ending) : Prop where
  ex : ∃ n r : Int, e = .returned (.tuple #[.int .i64 n, .int .i64 r]) ∧ (r = 0 → CheckOk l adv view)
  b : Below w.heap.size w w'
section
variable (l : List Nd) (adv : List Int) (A A2 : Option Addr) (c c2 : Nat) (view : Int) (w : World)
set_option maxRecDepth 100000 in
set_option maxHeartbeats 1000000 in
theorem check_any (hr : Reads w w.heap.size 44 A l.length (ndsCells l)) (ha : Reads w w.heap.size 1 A2 adv.length (i64s adv)) (hu : ∀ x ∈ l, ∃ Au cu, x.s.uv = .slice Au x.s.units.length cu) :
    Calls Try.prog 15 #[.agg #[.slice A l.length c, .slice A2 adv.length c2, .int .i64 view]] w fun e w' => CheckAns l adv view w w' e := by
  have HR := Lib.hid hr
  have HA := Lib.hid ha
  have HB0 : Hid (Blk (w.alloc (.cells #[.slice A l.length c, .slice A2 adv.length c2, .int .i64 view] 25)) w.heap.size 25 #[.slice A l.length c, .slice A2 adv.length c2, .int .i64 view]) := Lib.hid (Blk.new _ _ _)
  have HB1 : Hid (Below w.heap.size w (w.alloc (.cells #[.slice A l.length c, .slice A2 adv.length c2, .int .i64 view] 25))) := Lib.hid ((Below.refl _ _).alloc (Nat.le_refl _) _)
  have HNO := Lib.hid (fun (hn : l.length ≤ 4294967296) W (i : Nat) (hi : i < l.length) (hb : Below w.heap.size w W) => by
    obtain ⟨Au, cu, huv⟩ := hu l[i] (List.getElem_mem hi)
    exact node_any l A A2 c adv.length c2 view W i hi hn ((hr.below hb).more hb.size) huv)
  clear hr ha hu
  cases h1 : decide (65536 < l.length)
  rotate_left
  · have h1' : decide ((65536 : Int) < (l.length : Int)) = true := decide_eq_true (by have := of_decide_eq_true h1; omega)
    go_enter Try.func15, Try.ntmps15
    go_wp2_with fail
    go_ret2
    exact ⟨⟨_, 7, rfl, by omega⟩, HB1.out⟩
  have h1' : decide ((65536 : Int) < (l.length : Int)) = false := decide_eq_false (by have := of_decide_eq_false h1; omega)
  have H1 := Lib.hid (of_decide_eq_false h1)
  cases h2 : decide (4096 < adv.length)
  rotate_left
  · have h2' : decide ((4096 : Int) < (adv.length : Int)) = true := decide_eq_true (by have := of_decide_eq_true h2; omega)
    go_enter Try.func15, Try.ntmps15
    go_wp2_with fail
    go_ret2
    exact ⟨⟨_, 7, rfl, by omega⟩, HB1.out⟩
  have h2' : decide ((4096 : Int) < (adv.length : Int)) = false := decide_eq_false (by have := of_decide_eq_false h2; omega)
  have H2 := Lib.hid (of_decide_eq_false h2)
  by_cases h3 : l.length = 0
  · have h3' : ((l.length : Int) == 0) = true := beq_iff_eq.2 (by omega)
    have h3'' : (l.length == 0) = true := beq_iff_eq.2 h3
    clear h3
    go_enter Try.func15, Try.ntmps15
    go_wp2_with fail
    go_ret2
    exact ⟨⟨_, 6, rfl, by omega⟩, HB1.out⟩
  have h3' : ((l.length : Int) == 0) = false := beq_eq_false_iff_ne.2 (by omega)
  have h3'' : (l.length == 0) = false := beq_eq_false_iff_ne.2 h3
  have H3 := Lib.hid h3
  clear h3
  cases h4 : decide (view < 0)
  rotate_left
  · go_enter Try.func15, Try.ntmps15
    go_wp2_with fail
    go_ret2
    exact ⟨⟨_, 6, rfl, by omega⟩, HB1.out⟩
  cases h5 : decide (1099511627776 < view)
  rotate_left
  · go_enter Try.func15, Try.ntmps15
    go_wp2_with fail
    go_ret2
    exact ⟨⟨_, 6, rfl, by omega⟩, HB1.out⟩
  have H45 := Lib.hid (And.intro (of_decide_eq_false h4) (of_decide_eq_false h5))
  have HN1 := Lib.hid (HNO.out (by have := H1.out; omega))
  go_enter Try.func15, Try.ntmps15
  go_wp2_with fail
  clear h1 h1' h2 h2' h3' h3'' h4 h5
  go_loopw [4] (fun iv wr => ∃ k : Nat, k ≤ adv.length ∧ iv = .int .i64 k ∧ Hid ((∀ (j : Nat) (h : j < adv.length), j < k → 0 ≤ adv[j] ∧ adv[j] ≤ 1099511627776) ∧ Below w.heap.size w wr ∧ Blk wr w.heap.size 25 #[.slice A l.length c, .slice A2 adv.length c2, .int .i64 view])) (fun iv _ => adv.length - (intOf iv).toNat)
  case atStart => exact ⟨0, by omega, rfl, Lib.hid ⟨fun j h h2 => by omega, HB1.out, HB0.out⟩⟩
  case round =>
    obtain ⟨k, hk, rfl, H⟩ := hrel
    have bt := H.out.2.2.c3
    by_cases hlt : k < adv.length
    · have d0 : decide ((k : Int) < (adv.length : Int)) = true := decide_eq_true (by omega)
      have d0' : decide (k < adv.length) = true := decide_eq_true hlt
      have hwk : IntKind.i64.wrap ((k : Int) + 1) = (k : Int) + 1 := IntWalk.i64_in _ ⟨by omega, by have := H2.out; omega⟩
      obtain ⟨ad, u, rfl, hab, hx, hc⟩ := (HA.out.below H.out.2.1).at_ hlt
      have hu : u = .int .i64 adv[k] := by simpa [i64s, hlt] using hx.symm
      subst hu
      obtain ⟨a, ha⟩ : ∃ a, a = adv[k] := ⟨_, rfl⟩
      rw [← ha] at hc
      have HAK := Lib.hid ha
      clear ha hx hab
      cases g1 : decide (a < 0)
      rotate_left
      · go_wp2_with fail
        go_ret2
        exact ⟨⟨_, 6, rfl, by omega⟩, H.out.2.1⟩
      cases g2 : decide (1099511627776 < a)
      rotate_left
      · go_wp2_with fail
        go_ret2
        exact ⟨⟨_, 6, rfl, by omega⟩, H.out.2.1⟩
      have HG := Lib.hid (And.intro (of_decide_eq_false g1) (of_decide_eq_false g2))
      go_wp2_with fail
      go_roundw
      case rel => exact ⟨k + 1, by omega, by go_num, Lib.hid ⟨fun j h h2 => by
        by_cases hj : j = k
        · subst hj; have := HG.out; have := HAK.out; omega
        · exact H.out.1 j h (by omega), H.out.2.1, H.out.2.2⟩⟩
      case measure => simp [intOf]; omega
    · have d0 : decide ((k : Int) < (adv.length : Int)) = false := decide_eq_false (by omega)
      have d0' : decide (k < adv.length) = false := decide_eq_false hlt
      have HL := Lib.hid (show k = adv.length by omega)
      go_wp2_with fail
      go_loopw [5] (fun iv wr => ∃ i : Nat, i ≤ l.length ∧ iv = .int .i64 i ∧ Hid ((∀ (j : Nat) (h : j < l.length), j < i → NdOk l j l[j]) ∧ Below w.heap.size w wr ∧ Blk wr w.heap.size 25 #[.slice A l.length c, .slice A2 adv.length c2, .int .i64 view])) (fun iv _ => l.length - (intOf iv).toNat)
      case atStart => exact ⟨0, by omega, rfl, Lib.hid ⟨fun j h h2 => by omega, H.out.2⟩⟩
      case round =>
        obtain ⟨i, hi, rfl, H6⟩ := hrel
        have HK := Lib.hid (fun j h => H.out.1 j h (by have := HL.out; omega))
        clear bt
        have bt := H6.out.2.2.c3
        by_cases hlt : i < l.length
        · have d0 : decide ((i : Int) < (l.length : Int)) = true := decide_eq_true (by omega)
          have d0' : decide (i < l.length) = true := decide_eq_true hlt
          have hwk : IntKind.i64.wrap ((i : Int) + 1) = (i : Int) + 1 := IntWalk.i64_in _ ⟨by omega, by have := H1.out; omega⟩
          go_wp2_with fail
          refine (HN1.out _ i hlt H6.out.2.1).mono ?_
          rintro e w2 ⟨⟨r, rfl, hr⟩, hb⟩
          have HB2 := Lib.hid hb
          have HRR := Lib.hid hr
          clear hb hr
          by_cases hr0 : r = 0
          · have e1 : (r == 0) = true := beq_iff_eq.2 hr0
            have e2 : (r != 0) = false := by rw [bne, e1]; rfl
            have HR0 := Lib.hid (HRR.out hr0)
            clear hr0
            go_wp2_with fail
            go_roundw
            case rel => exact ⟨i + 1, by omega, by go_num, Lib.hid ⟨fun j h h2 => by
              by_cases hj : j = i
              · subst hj; exact HR0.out
              · exact H6.out.1 j h (by omega), H6.out.2.1.trans (HB2.out.mono H6.out.2.1.size), H6.out.2.2.below HB2.out H6.out.2.2.lt⟩⟩
            case measure => simp [intOf]; omega
          · have e1 : (r == 0) = false := beq_eq_false_iff_ne.2 hr0
            have e2 : (r != 0) = true := by rw [bne, e1]; rfl
            go_wp2_with fail
            go_ret2
            exact ⟨⟨_, r, rfl, fun h => absurd h hr0⟩, H6.out.2.1.trans (HB2.out.mono H6.out.2.1.size)⟩
        · have d0 : decide ((i : Int) < (l.length : Int)) = false := decide_eq_false (by omega)
          have d0' : decide (i < l.length) = false := decide_eq_false hlt
          go_wp2_with fail
          go_ret2
          exact ⟨⟨_, 0, rfl, fun _ => ⟨⟨by have := H3.out; omega, by have := H1.out; omega⟩, by have := H2.out; omega, by have := H45.out; omega, HK.out, fun j h => H6.out.1 j h (by omega)⟩⟩, H6.out.2.1⟩
end
end Go.Proofs.Ytbopeofglhkffaa
set_option linter.unusedSimpArgs false
set_option linter.unusedVariables false
namespace Go.Proofs.Ytbopeofglhkffaa
open Go.RowKit
attribute [local go_sem] block_of_add
def unF (l : List Nd) : Nat := (l.map fun x => x.s.units.length).sum
def unM (l : List Nd) : Nat := (l.map fun x => min x.s.units.length 5000).sum
theorem unM_le (l : List Nd) (h : unM l ≤ 4000) : unF l ≤ 4000 := by
  have : ∀ l : List Nd, unM l ≤ 4000 → unF l = unM l := by
    intro l
    induction l with
    | nil => intro _; rfl
    | cons a t ih =>
      intro h
      simp only [unF, unM, List.map_cons, List.sum_cons] at *
      have := ih (by omega)
      omega
  rw [this l h]; exact h
theorem unM_succ (l : List Nd) (k : Nat) (h : k < l.length) : unM (l.take (k + 1)) = unM (l.take k) + min l[k].s.units.length 5000 := by
  unfold unM; rw [List.take_add_one, List.getElem?_eq_getElem h, List.map_append, List.sum_append]; simp
/-- A tree that may be, small. -/
structure SmallOk (l : List Nd) (adv : List Int) (view : Int) : Prop where
  ok : CheckOk l adv view
  n : l.length ≤ 300
  u : unF l ≤ 4000
section
variable (l : List Nd) (adv : List Int) (A A2 : Option Addr) (c c2 : Nat) (view : Int) (w : World)
set_option maxRecDepth 100000 in
set_option maxHeartbeats 1000000 in
theorem small_any (hr : Reads w w.heap.size 44 A l.length (ndsCells l)) (ha : Reads w w.heap.size 1 A2 adv.length (i64s adv)) (hu : ∀ x ∈ l, ∃ Au cu, x.s.uv = .slice Au x.s.units.length cu) :
    Calls Try.prog 5 #[.agg #[.slice A l.length c, .slice A2 adv.length c2, .int .i64 view]] w fun e w' => BoolAns (SmallOk l adv view) w w' e := by
  have HR := Lib.hid hr
  have HU := Lib.hid hu
  have HB0 : Hid (Blk (w.alloc (.cells #[.slice A l.length c, .slice A2 adv.length c2, .int .i64 view] 25)) w.heap.size 25 #[.slice A l.length c, .slice A2 adv.length c2, .int .i64 view]) := Lib.hid (Blk.new _ _ _)
  have HB1 : Hid (Below w.heap.size w (w.alloc (.cells #[.slice A l.length c, .slice A2 adv.length c2, .int .i64 view] 25))) := Lib.hid ((Below.refl _ _).alloc (Nat.le_refl _) _)
  have HCH := Lib.hid (fun W (hb : Below w.heap.size w W) => check_any l adv A A2 c c2 view W ((hr.below hb).more hb.size) ((ha.below hb).more hb.size) hu)
  clear hr ha hu
  cases h1 : decide (300 < l.length)
  rotate_left
  · have h1' : decide ((300 : Int) < (l.length : Int)) = true := decide_eq_true (by have := of_decide_eq_true h1; omega)
    go_enter Try.func5, Try.ntmps5
    go_wp2_with fail
    go_ret
    exact ⟨⟨false, rfl, by simp⟩, HB1.out⟩
  have h1' : decide ((300 : Int) < (l.length : Int)) = false := decide_eq_false (by have := of_decide_eq_false h1; omega)
  have H1 := Lib.hid (of_decide_eq_false h1)
  go_enter Try.func5, Try.ntmps5
  go_wp2_with fail
  clear h1 h1'
  go_loopw [3, 4] (fun nv iv wr => ∃ k n : Nat, k ≤ l.length ∧ n ≤ 9000 ∧ nv = .int .i64 n ∧ iv = .int .i64 k ∧ Hid (n = unM (l.take k) ∧ Below w.heap.size w wr ∧ Blk wr w.heap.size 25 #[.slice A l.length c, .slice A2 adv.length c2, .int .i64 view])) (fun _ iv _ => l.length - (intOf iv).toNat)
  case atStart => exact ⟨0, 0, by omega, by omega, rfl, rfl, Lib.hid ⟨rfl, HB1.out, HB0.out⟩⟩
  case round =>
    obtain ⟨k, n, hk, hn9, rfl, rfl, H⟩ := hrel
    have bt := H.out.2.2.c3
    cases hn : decide (n ≤ 4000)
    · have hn' : decide ((n : Int) ≤ 4000) = false := decide_eq_false (by have := of_decide_eq_false hn; omega)
      have hm : decide (4000 < n) = true := decide_eq_true (by have := of_decide_eq_false hn; omega)
      have hm' : decide ((4000 : Int) < (n : Int)) = true := decide_eq_true (by have := of_decide_eq_false hn; omega)
      by_cases hlt : k < l.length
      · have d0 : decide ((k : Int) < (l.length : Int)) = true := decide_eq_true (by omega)
        have d0' : decide (k < l.length) = true := decide_eq_true hlt
        go_wp2_with fail
        go_ret
        exact ⟨⟨false, rfl, by simp⟩, H.out.2.1⟩
      · have d0 : decide ((k : Int) < (l.length : Int)) = false := decide_eq_false (by omega)
        have d0' : decide (k < l.length) = false := decide_eq_false hlt
        go_wp2_with fail
        go_ret
        exact ⟨⟨false, rfl, by simp⟩, H.out.2.1⟩
    have hn' : decide ((n : Int) ≤ 4000) = true := decide_eq_true (by have := of_decide_eq_true hn; omega)
    have hm : decide (4000 < n) = false := decide_eq_false (by have := of_decide_eq_true hn; omega)
    have hm' : decide ((4000 : Int) < (n : Int)) = false := decide_eq_false (by have := of_decide_eq_true hn; omega)
    have HN := Lib.hid (of_decide_eq_true hn)
    by_cases hlt : k < l.length
    · have d0 : decide ((k : Int) < (l.length : Int)) = true := decide_eq_true (by omega)
      have d0' : decide (k < l.length) = true := decide_eq_true hlt
      have hwk : IntKind.i64.wrap ((k : Int) + 1) = (k : Int) + 1 := IntWalk.i64_in _ ⟨by omega, by have := H1.out; omega⟩
      obtain ⟨ad, rfl, hnd⟩ := (HR.out.below H.out.2.1).nd rfl hlt
      obtain ⟨Au, cu, huv⟩ := HU.out l[k] (List.getElem_mem hlt)
      obtain ⟨u, hu⟩ : ∃ u, u = l[k].s.units.length := ⟨_, rfl⟩
      have c0 : wr.cell? ⟨ad.block, (ad.add (k * 44)).off + 43, none⟩ = some (.slice Au u cu) := by rw [← block_of_add ad (k * 44), hnd.cs 42 _ rfl, huv, hu]
      have HS := Lib.hid (unM_succ l k hlt)
      rw [← hu] at HS
      clear hnd huv hu
      by_cases h5 : u ≤ 5000
      · have a1 : decide (u ≤ 5000) = true := decide_eq_true h5
        have a2 : decide (5000 < u) = false := decide_eq_false (by omega)
        have a3 : decide (u < 5000) = decide (u < 5000) := rfl
        have hw1 : IntKind.i64.wrap ((n : Int) + (u : Int)) = (n : Int) + (u : Int) := IntWalk.i64_in _ ⟨by omega, by omega⟩
        have HM := Lib.hid h5
        clear h5
        go_wp2_with fail
        go_roundw
        case rel => exact ⟨k + 1, n + u, by omega, by have := HN.out; have := HM.out; omega, by rw [if_neg (by have := HM.out; omega), Int.natCast_add], by go_num, Lib.hid ⟨by rw [HS.out, ← H.out.1]; have := HM.out; omega, H.out.2⟩⟩
        case measure => simp [intOf]; omega
      · have a1 : decide (u ≤ 5000) = false := decide_eq_false h5
        have a2 : decide (5000 < u) = true := decide_eq_true (by omega)
        have hw1 : IntKind.i64.wrap ((n : Int) + 5000) = (n : Int) + 5000 := IntWalk.i64_in _ ⟨by omega, by omega⟩
        have HM := Lib.hid h5
        clear h5
        go_wp2_with fail
        go_roundw
        case rel => exact ⟨k + 1, n + 5000, by omega, by have := HN.out; omega, by rw [if_pos (by have := HM.out; omega), Int.natCast_add]; rfl, by go_num, Lib.hid ⟨by rw [HS.out, ← H.out.1]; have := HM.out; omega, H.out.2⟩⟩
        case measure => simp [intOf]; omega
    · have d0 : decide ((k : Int) < (l.length : Int)) = false := decide_eq_false (by omega)
      have d0' : decide (k < l.length) = false := decide_eq_false hlt
      have HL := Lib.hid (show k = l.length by omega)
      go_wp2_with fail
      refine (HCH.out wr H.out.2.1).mono ?_
      rintro e w2 ⟨⟨n2, r, rfl, hr⟩, hb⟩
      have HB2 := Lib.hid (H.out.2.1.trans (hb.mono H.out.2.1.size))
      have HRR := Lib.hid hr
      clear hb hr
      by_cases hr0 : r = 0
      · have e1 : (r == 0) = true := beq_iff_eq.2 hr0
        have HR0 := Lib.hid (HRR.out hr0)
        clear hr0
        go_wp2_with fail
        go_ret
        exact ⟨⟨true, rfl, fun _ => ⟨HR0.out, by have := H1.out; omega, unM_le l (by have h2 := H.out.1; have := HN.out; rw [HL.out, List.take_length] at h2; omega)⟩⟩, HB2.out⟩
      · have e1 : (r == 0) = false := beq_eq_false_iff_ne.2 hr0
        go_wp2_with fail
        go_ret
        exact ⟨⟨false, rfl, by simp⟩, HB2.out⟩
end
end Go.Proofs.Ytbopeofglhkffaa
