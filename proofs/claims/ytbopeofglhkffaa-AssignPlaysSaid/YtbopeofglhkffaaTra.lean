/- Contracts: the document's trees: parent, below, depth, first. -/
import Derived.Test.YtbopeofglhkffaaProg
import Derived.Test.YtbopeofglhkffaaKp
import Derived.Test.YtbopeofglhkffaaTrp
set_option linter.unusedSimpArgs false
set_option linter.unusedVariables false
namespace Go.Proofs.Ytbopeofglhkffaa
open Go.RowKit
attribute [local go_sem] block_of_add
section
variable (l : List Nd) (A A2 : Option Addr) (c m c2 : Nat) (view : Int) (w : World)
set_option maxHeartbeats 400000 in
theorem parent_any (i : Nat) (hi : i < l.length) (hn : l.length ≤ 4294967296) (hr : Reads w w.heap.size 44 A l.length (ndsCells l)) :
    Calls Try.prog 19 #[.agg #[.slice A l.length c, .slice A2 m c2, .int .i64 view], .int .i64 i] w fun e w' => e = .returned (.int .i64 (parF l i)) ∧ w.alloc (.cells #[.slice A l.length c, .slice A2 m c2, .int .i64 view] 25) = w' := by
  obtain ⟨ad, rfl, hnd⟩ := hr.nd rfl hi
  obtain ⟨hlt, hp, _⟩ := hnd
  rw [block_of_add] at hlt
  obtain ⟨x, hx⟩ : ∃ x, x = l[i].parent := ⟨_, rfl⟩
  rw [← hx] at hp
  have hii : (i : Int) < (l.length : Int) := by omega
  have HP : Hid (parF l i = if 0 ≤ x ∧ x < i then x else -1) := Lib.hid (by unfold parF; rw [List.getElem?_eq_getElem hi, hx])
  clear hx hr
  by_cases h0 : 0 ≤ x
  · have d0 : decide (0 ≤ x) = true := decide_eq_true h0
    by_cases h1 : x < (i : Int)
    · have d1 : decide (x < (i : Int)) = true := decide_eq_true h1
      go_enter Try.func19, Try.ntmps19
      go_wp2
      go_ret
      rw [HP.out, if_pos ⟨h0, h1⟩]
      exact ⟨rfl, rfl⟩
    · have d1 : decide (x < (i : Int)) = false := decide_eq_false h1
      go_enter Try.func19, Try.ntmps19
      go_wp2
      go_ret
      rw [HP.out, if_neg (by omega)]
      exact ⟨rfl, rfl⟩
  · have d0 : decide (0 ≤ x) = false := decide_eq_false h0
    go_enter Try.func19, Try.ntmps19
    go_wp2
    go_ret
    rw [HP.out, if_neg (by omega)]
    exact ⟨rfl, rfl⟩
set_option maxHeartbeats 1000000 in
theorem below_any (i : Nat) (over : Int) (hi : i < l.length) (hn : l.length ≤ 4294967296) (hr : Reads w w.heap.size 44 A l.length (ndsCells l)) :
    Calls Try.prog 50 #[.agg #[.slice A l.length c, .slice A2 m c2, .int .i64 view], .int .i64 i, .int .i64 over] w fun e w' => e = .returned (.bool (decide (over ∈ anc l i))) ∧ Below w.heap.size w w' := by
  have HR := Lib.hid hr
  have HB0 : Hid (Blk (w.alloc (.cells #[.slice A l.length c, .slice A2 m c2, .int .i64 view] 25)) w.heap.size 25 #[.slice A l.length c, .slice A2 m c2, .int .i64 view]) := Lib.hid (Blk.new _ _ _)
  have HP := Lib.hid (fun W (i : Nat) (hi : i < l.length) (hb : Below w.heap.size w W) => parent_any l A A2 c m c2 view W i hi hn ((hr.below hb).more hb.size))
  clear hr
  go_enter Try.func50, Try.ntmps50
  go_wp2_with fail
  refine (HP.out _ i hi ((Below.refl _ _).alloc (Nat.le_refl _) _)).mono ?_
  rintro e w1 ⟨rfl, rfl⟩
  go_wp2_with fail
  go_loopw [7] (fun pv wr => ∃ (p : Int) (k : Nat), k < l.length ∧ pv = .int .i64 p ∧ Hid (p = parF l k ∧ (decide (over ∈ anc l i) = decide (over ∈ anc l k)) ∧ Below w.heap.size w wr ∧ Blk wr w.heap.size 25 #[.slice A l.length c, .slice A2 m c2, .int .i64 view])) (fun pv _ => (intOf pv + 1).toNat)
  case atStart => exact ⟨_, i, hi, rfl, Lib.hid ⟨rfl, rfl, ((Below.refl _ _).alloc (Nat.le_refl _) _).alloc (by simp) _, HB0.out.alloc _⟩⟩
  case round =>
    obtain ⟨p, k, hk, rfl, H⟩ := hrel
    have hp := parF_lt l k
    rw [← H.out.1] at hp
    have bx := H.out.2.2.2.c3
    by_cases h0 : 0 ≤ p
    · obtain ⟨q, rfl⟩ := Int.eq_ofNat_of_zero_le h0
      have d0 : decide ((0 : Int) ≤ (q : Int)) = true := decide_eq_true h0
      have hq : q < l.length := by omega
      by_cases he : (q : Int) = over
      · have e0 : ((q : Int) == over) = true := beq_iff_eq.2 he
        have HA := Lib.hid (show decide (over ∈ anc l i) = true by rw [H.out.2.1, anc_some H.out.1.symm, ← he]; simp)
        clear he
        go_wp2_with fail
        go_ret
        exact ⟨by rw [HA.out]; rfl, H.out.2.2.1⟩
      · have e0 : ((q : Int) == over) = false := beq_eq_false_iff_ne.2 he
        have HA := Lib.hid (show decide (over ∈ anc l i) = decide (over ∈ anc l q) by rw [H.out.2.1, anc_some H.out.1.symm]; simp [List.mem_cons, show ¬ over = (q : Int) from fun x => he x.symm])
        clear he
        go_wp2_with fail
        refine (HP.out _ q hq H.out.2.2.1).mono ?_
        rintro e w1 ⟨rfl, rfl⟩
        go_wp2_with fail
        have hp2 := parF_lt l q
        go_roundw
        case rel => exact ⟨_, q, hq, rfl, Lib.hid ⟨rfl, HA.out, H.out.2.2.1.alloc H.out.2.2.1.size _, H.out.2.2.2.alloc _⟩⟩
        case measure => simp [intOf]; omega
    · have d0 : decide ((0 : Int) ≤ p) = false := decide_eq_false h0
      have HA := Lib.hid (show decide (over ∈ anc l i) = false by rw [H.out.2.1, anc_none (by rw [← H.out.1]; omega)]; simp)
      go_wp2_with fail
      go_ret
      exact ⟨by rw [HA.out]; rfl, H.out.2.2.1⟩
set_option maxHeartbeats 1000000 in
theorem depth_any (i : Nat) (hi : i < l.length) (hn : l.length ≤ 4294967296) (hr : Reads w w.heap.size 44 A l.length (ndsCells l)) :
    Calls Try.prog 51 #[.agg #[.slice A l.length c, .slice A2 m c2, .int .i64 view], .int .i64 i] w fun e w' => e = .returned (.int .i64 (1 + ((anc l i).length : Int))) ∧ Below w.heap.size w w' := by
  have HR := Lib.hid hr
  have HB0 : Hid (Blk (w.alloc (.cells #[.slice A l.length c, .slice A2 m c2, .int .i64 view] 25)) w.heap.size 25 #[.slice A l.length c, .slice A2 m c2, .int .i64 view]) := Lib.hid (Blk.new _ _ _)
  have HP := Lib.hid (fun W (i : Nat) (hi : i < l.length) (hb : Below w.heap.size w W) => parent_any l A A2 c m c2 view W i hi hn ((hr.below hb).more hb.size))
  clear hr
  go_enter Try.func51, Try.ntmps51
  go_wp2_with fail
  refine (HP.out _ i hi ((Below.refl _ _).alloc (Nat.le_refl _) _)).mono ?_
  rintro e w1 ⟨rfl, rfl⟩
  go_wp2_with fail
  go_loopw [5, 6] (fun nv pv wr => ∃ (p n : Int) (k : Nat), k < l.length ∧ 1 ≤ n ∧ n + p ≤ l.length ∧ nv = .int .i64 n ∧ pv = .int .i64 p ∧ Hid (p = parF l k ∧ (1 + ((anc l i).length : Int) = n + ((anc l k).length : Int)) ∧ Below w.heap.size w wr ∧ Blk wr w.heap.size 25 #[.slice A l.length c, .slice A2 m c2, .int .i64 view])) (fun _ pv _ => (intOf pv + 1).toNat)
  case atStart => exact ⟨_, 1, i, hi, by omega, by have := parF_lt l i; omega, rfl, rfl, Lib.hid ⟨rfl, rfl, ((Below.refl _ _).alloc (Nat.le_refl _) _).alloc (by simp) _, HB0.out.alloc _⟩⟩
  case round =>
    obtain ⟨p, n, k, hk, hn1, hn2, rfl, rfl, H⟩ := hrel
    have hp := parF_lt l k
    rw [← H.out.1] at hp
    have bx := H.out.2.2.2.c3
    have hwn : IntKind.i64.wrap (n + 1) = n + 1 := IntWalk.i64_in _ ⟨by omega, by omega⟩
    by_cases h0 : 0 ≤ p
    · obtain ⟨q, rfl⟩ := Int.eq_ofNat_of_zero_le h0
      have d0 : decide ((0 : Int) ≤ (q : Int)) = true := decide_eq_true h0
      have hq : q < l.length := by omega
      have HA := Lib.hid (show 1 + ((anc l i).length : Int) = (n + 1) + ((anc l q).length : Int) by rw [H.out.2.1, anc_some H.out.1.symm]; simp; omega)
      go_wp2_with fail
      refine (HP.out _ q hq H.out.2.2.1).mono ?_
      rintro e w1 ⟨rfl, rfl⟩
      go_wp2_with fail
      have hp2 := parF_lt l q
      go_roundw
      case rel => exact ⟨_, n + 1, q, hq, by omega, by omega, rfl, rfl, Lib.hid ⟨rfl, HA.out, H.out.2.2.1.alloc H.out.2.2.1.size _, H.out.2.2.2.alloc _⟩⟩
      case measure => simp [intOf]; omega
    · have d0 : decide ((0 : Int) ≤ p) = false := decide_eq_false h0
      have HA := Lib.hid (show 1 + ((anc l i).length : Int) = n by rw [H.out.2.1, anc_none (by rw [← H.out.1]; omega)]; simp)
      go_wp2_with fail
      go_ret
      exact ⟨by rw [HA.out]; rfl, H.out.2.2.1⟩
/-- What first answers. -/
def FirstOf (l : List Nd) (p i : Nat) (r : Int) : Prop := (∃ k : Nat, r = k ∧ p < k ∧ k < i ∧ parF l k = p ∧ ∀ j, p < j → j < k → parF l j ≠ p) ∨ (r = -1 ∧ ∀ j, p < j → j < i → parF l j ≠ p)
structure FirstAns (l : List Nd) (p i : Nat) (w w' : World) (e : Ending) : Prop where
  ex : ∃ r, e = .returned (.int .i64 r) ∧ FirstOf l p i r
  b : Below w.heap.size w w'
set_option maxHeartbeats 1000000 in
theorem first_any (p i : Nat) (hpi : p < i) (hi : i < l.length) (hn : l.length ≤ 4294967296) (hr : Reads w w.heap.size 44 A l.length (ndsCells l)) :
    Calls Try.prog 53 #[.agg #[.slice A l.length c, .slice A2 m c2, .int .i64 view], .int .i64 p, .int .i64 i] w fun e w' => FirstAns l p i w w' e := by
  have HR := Lib.hid hr
  have HB0 : Hid (Blk (w.alloc (.cells #[.slice A l.length c, .slice A2 m c2, .int .i64 view] 25)) w.heap.size 25 #[.slice A l.length c, .slice A2 m c2, .int .i64 view]) := Lib.hid (Blk.new _ _ _)
  have HP := Lib.hid (fun W (i : Nat) (hi : i < l.length) (hb : Below w.heap.size w W) => parent_any l A A2 c m c2 view W i hi hn ((hr.below hb).more hb.size))
  have hw1 : IntKind.i64.wrap ((p : Int) + 1) = (p : Int) + 1 := IntWalk.i64_in _ ⟨by omega, by omega⟩
  clear hr
  go_enter Try.func53, Try.ntmps53
  go_wp2_with fail
  go_loopw [7] (fun kv wr => ∃ (k : Nat), p < k ∧ k ≤ i ∧ kv = .int .i64 k ∧ Hid ((∀ j, p < j → j < k → parF l j ≠ p) ∧ Below w.heap.size w wr ∧ Blk wr w.heap.size 25 #[.slice A l.length c, .slice A2 m c2, .int .i64 view])) (fun kv _ => i - (intOf kv).toNat)
  case atStart => exact ⟨p + 1, by omega, by omega, by simp, Lib.hid ⟨fun j h1 h2 => by omega, (Below.refl _ _).alloc (Nat.le_refl _) _, HB0.out⟩⟩
  case round =>
    obtain ⟨k, hpk, hki, rfl, H⟩ := hrel
    have bx := H.out.2.2.c3
    have hwk : IntKind.i64.wrap ((k : Int) + 1) = (k : Int) + 1 := IntWalk.i64_in _ ⟨by omega, by omega⟩
    by_cases hlt : k < i
    · have d0 : decide ((k : Int) < (i : Int)) = true := decide_eq_true (by omega)
      have d0' : decide (k < i) = true := decide_eq_true hlt
      have hk : k < l.length := by omega
      go_wp2_with fail
      refine (HP.out _ k hk H.out.2.1).mono ?_
      rintro e w1 ⟨rfl, rfl⟩
      by_cases he : parF l k = (p : Int)
      · have e0 : (parF l k == (p : Int)) = true := beq_iff_eq.2 he
        have HE := Lib.hid he
        clear he
        go_wp2_with fail
        go_ret
        exact ⟨⟨_, rfl, .inl ⟨k, rfl, hpk, hlt, HE.out, H.out.1⟩⟩, H.out.2.1.alloc H.out.2.1.size _⟩
      · have e0 : (parF l k == (p : Int)) = false := beq_eq_false_iff_ne.2 he
        have HE := Lib.hid he
        clear he
        go_wp2_with fail
        go_roundw
        case rel => exact ⟨k + 1, by omega, by omega, by go_num, Lib.hid ⟨fun j h1 h2 => by
          by_cases hj : j = k
          · rw [hj]; exact HE.out
          · exact H.out.1 j h1 (by omega), H.out.2.1.alloc H.out.2.1.size _, H.out.2.2.alloc _⟩⟩
        case measure => simp [intOf]; omega
    · have d0 : decide ((k : Int) < (i : Int)) = false := decide_eq_false (by omega)
      have d0' : decide (k < i) = false := decide_eq_false hlt
      go_wp2_with fail
      go_ret
      exact ⟨⟨_, rfl, .inr ⟨rfl, fun j h1 h2 => H.out.1 j h1 (by omega)⟩⟩, H.out.2.1⟩
end
end Go.Proofs.Ytbopeofglhkffaa
