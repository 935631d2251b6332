/- Contracts of package floats, but for Place. -/
import Derived.Test.YtlebbkhhhmempaaFb
set_option linter.unusedSimpArgs false
set_option linter.unusedVariables false
namespace Go.Proofs.Ytlebbkhhhmempaa
open Go.RowKit
attribute [local go_sem] block_of_add

/-- A number far from the ends of 64 bits. -/
def In60 (y : Int) : Prop := -1152921504606846976 ≤ y ∧ y ≤ 1152921504606846976
theorem stands_any (s x y v h z : Int) (w : World) (hy : In60 y) (hh : In60 h) (hz : In60 z) :
    Calls Try.prog 161 #[.agg #[.int .u8 s, .int .i64 x, .int .i64 y, .int .i64 v, .int .i64 h], .int .i64 z, .int .i64 1] w fun e w' => e = .returned (.bool (standsF ⟨s, x, y, v, h⟩ z)) ∧ w.alloc (.cells #[.int .u8 s, .int .i64 x, .int .i64 y, .int .i64 v, .int .i64 h] 165) = w' := by
  have w1 : IntKind.i64.wrap (y + h) = y + h := IntWalk.i64_in _ ⟨by have := hy.1; have := hh.1; omega, by have := hy.2; have := hh.2; omega⟩
  have w2 : IntKind.i64.wrap (y - z) = y - z := IntWalk.i64_in _ ⟨by have := hy.1; have := hz.2; omega, by have := hy.2; have := hz.1; omega⟩
  have HS : Hid (standsF ⟨s, x, y, v, h⟩ z = (decide (0 < h) && decide (z < y + h) && decide (y - z < 1))) := Lib.hid rfl
  clear hy hh hz
  cases e1 : decide (0 < h)
  · rw [HS.out, e1]
    go_enter Try.func161, Try.ntmps161
    go_wp2_with fail
    go_ret
    exact ⟨rfl, rfl⟩
  · cases e2 : decide (z < y + h)
    · rw [HS.out, e1, e2]
      go_enter Try.func161, Try.ntmps161
      go_wp2_with fail
      go_ret
      exact ⟨rfl, rfl⟩
    · cases e3 : decide (y - z < 1)
      all_goals
        rw [HS.out, e1, e2, e3]
        go_enter Try.func161, Try.ntmps161
        go_wp2_with fail
        go_ret
        exact ⟨rfl, rfl⟩

section
variable (l : List Fl) (A : Option Addr) (c : Nat) (w : World)
set_option maxRecDepth 100000 in
set_option maxHeartbeats 1000000 in
theorem clear_any (side y b : Int) (hs : side = 0 ∨ side = 1 ∨ side = 2 ∨ side = 3) (hn : l.length ≤ 65536) (hb : b ≤ 288230376151711744) (hl : FlB b l) (hr : Reads w w.heap.size 5 A l.length (flsCells l)) :
    Calls Try.prog 106 #[.slice A l.length c, .int .u8 side, .int .i64 y] w fun e w' => e = .returned (.int .i64 (clearF l side y)) ∧ Below w.heap.size w w' := by
  have HR := Lib.hid hr
  have HN := Lib.hid hn
  have HL := Lib.hid hl
  have HS := Lib.hid hs
  have HS2 : Hid (∀ z f, clearS side z f = if side = 3 ∨ ((side = 1 ∨ side = 2) ∧ f.side = side) then max z (f.y + f.h) else z) := Lib.hid fun _ _ => rfl
  clear hr hl hn
  cases e1 : (side == 1)
  all_goals cases e2 : (side == 2)
  all_goals cases e3 : (side == 3)
  all_goals
    go_enter Try.func106, Try.ntmps106
    go_wp2_with fail
    go_loopw [2, 18] (fun yv q wr => ∃ k : Nat, k ≤ l.length ∧ q = .int .i64 k ∧ yv = .int .i64 ((l.take k).foldl (clearS side) y) ∧ Below w.heap.size w wr) (fun _ q _ => l.length - (intOf q).toNat)
    case atStart => exact ⟨0, by omega, rfl, rfl, Below.refl _ _⟩
    case round =>
      obtain ⟨k, hk, rfl, rfl, H⟩ := hrel
      have HH := Lib.hid H
      clear H
      by_cases hlt : k < l.length
      · have d0 : decide ((k : Int) < (l.length : Int)) = true := decide_eq_true (by omega)
        have d0' : decide (k < l.length) = true := decide_eq_true hlt
        have hwk : IntKind.i64.wrap ((k : Int) + 1) = (k : Int) + 1 := IntWalk.i64_in _ ⟨by omega, by have := HN.out; omega⟩
        obtain ⟨ad, rfl, hlt', c0, c1, c2, c3, c4⟩ := (HR.out.below HH.out).fl rfl hlt
        have hbd := HL.out.at_ hlt
        have hwy : IntKind.i64.wrap (l[k].y + l[k].h) = l[k].y + l[k].h := IntWalk.i64_in _ ⟨by omega, by omega⟩
        have HF := Lib.hid (foldl_take_succ (clearS side) y l k hlt)
        obtain ⟨Y, HY⟩ : ∃ Y, Hid (Y = (l.take k).foldl (clearS side) y) := ⟨_, Lib.hid rfl⟩
        rw [← HY.out] at HF ⊢
        cases e4 : (l[k].side == side)
        all_goals
          go_wp2_with fail
          all_goals
            go_roundw
            case rel => exact ⟨k + 1, by omega, by go_num, congrArg (Value.int .i64) (by rw [HF.out]; simp at e1 e2 e3 e4; unfold clearS; split <;> omega), HH.out.alloc HH.out.size _⟩
            case measure => simp [intOf]; omega
      · have d0 : decide ((k : Int) < (l.length : Int)) = false := decide_eq_false (by omega)
        have d0' : decide (k < l.length) = false := decide_eq_false hlt
        have HK := Lib.hid (show k = l.length by omega)
        go_wp2_with fail
        go_ret
        exact ⟨by rw [HK.out, List.take_length]; rfl, HH.out⟩
end
end Go.Proofs.Ytlebbkhhhmempaa
