/- Contracts of package floats, but for Clear and Place. -/
import Derived.Test.YtlebbkhhhmempaaFc
set_option linter.unusedSimpArgs false
set_option linter.unusedVariables false
namespace Go.Proofs.Ytlebbkhhhmempaa
open Go.RowKit
attribute [local go_sem] block_of_add
section
variable (l : List Fl) (A : Option Addr) (c : Nat) (w : World)
set_option maxRecDepth 100000 in
set_option maxHeartbeats 1000000 in
theorem some_any (z b : Int) (hn : l.length ≤ 65536) (hb : b ≤ 288230376151711744) (hz : In60 z) (hl : FlB b l) (hr : Reads w w.heap.size 5 A l.length (flsCells l)) :
    Calls Try.prog 144 #[.slice A l.length c, .int .i64 z] w fun e w' => e = .returned (.bool (someF l z)) ∧ Below w.heap.size w w' := by
  have HR := Lib.hid hr
  have HN := Lib.hid hn
  have HL := Lib.hid hl
  have HZ := Lib.hid hz
  clear hr hl hn hz
  go_enter Try.func144, Try.ntmps144
  go_wp2_with fail
  go_loopw [9] (fun q wr => ∃ k : Nat, k ≤ l.length ∧ q = .int .i64 k ∧ Hid ((l.take k).any (fun f => standsF f z) = false) ∧ Below w.heap.size w wr) (fun q _ => l.length - (intOf q).toNat)
  case atStart => exact ⟨0, by omega, rfl, Lib.hid rfl, Below.refl _ _⟩
  case round =>
    obtain ⟨k, hk, rfl, HA, H⟩ := hrel
    have HH := Lib.hid H
    clear H
    by_cases hlt : k < l.length
    · have d0 : decide ((k : Int) < (l.length : Int)) = true := decide_eq_true (by omega)
      have d0' : decide (k < l.length) = true := decide_eq_true hlt
      have hwk : IntKind.i64.wrap ((k : Int) + 1) = (k : Int) + 1 := IntWalk.i64_in _ ⟨by omega, by have := HN.out; omega⟩
      obtain ⟨ad, rfl, hlt', c0, c1, c2, c3, c4⟩ := (HR.out.below HH.out).fl rfl hlt
      have hbd := HL.out.at_ hlt
      have hy60 : In60 l[k].y := ⟨by omega, by omega⟩
      have hh60 : In60 l[k].h := ⟨by omega, by omega⟩
      have HF := Lib.hid (any_take_succ (fun f => standsF f z) l k hlt)
      have HX : Hid (standsF l[k] z = true → someF l z = true) := Lib.hid fun h => List.any_eq_true.2 ⟨_, List.getElem_mem hlt, h⟩
      rcases (show ∃ S, Hid (standsF l[k] z = S) from ⟨_, Lib.hid rfl⟩) with ⟨S, HS⟩
      cases S
      all_goals go_wp2_with (go_at_call 161; refine (stands_any _ _ _ _ _ z _ hy60 hh60 HZ.out).mono ?_; rintro e w1 ⟨rfl, rfl⟩; rw [show standsF ⟨l[k].side, l[k].x, l[k].y, l[k].w, l[k].h⟩ z = _ from HS.out])
      · go_roundw
        case rel => exact ⟨k + 1, by omega, by go_num, Lib.hid (by rw [HF.out, HA.out, HS.out]; rfl), (HH.out.alloc HH.out.size _).alloc (by have := HH.out.size; simp; omega) _⟩
        case measure => simp [intOf]; omega
      · go_ret
        exact ⟨by rw [HX.out HS.out]; rfl, (HH.out.alloc HH.out.size _).alloc (by have := HH.out.size; simp; omega) _⟩
    · have d0 : decide ((k : Int) < (l.length : Int)) = false := decide_eq_false (by omega)
      have d0' : decide (k < l.length) = false := decide_eq_false hlt
      have HK := Lib.hid (show k = l.length by omega)
      go_wp2_with fail
      go_ret
      exact ⟨by (rw [show someF l z = false by have := HA.out; rw [HK.out, List.take_length] at this; exact this]; rfl), HH.out⟩
set_option maxRecDepth 100000 in
set_option maxHeartbeats 1000000 in
theorem tall_any (z b fr to : Int) (hn : l.length ≤ 65536) (hb : b ≤ 288230376151711744) (hz : In60 z) (hl : FlB b l) (hr : Reads w w.heap.size 5 A l.length (flsCells l)) :
    Calls Try.prog 157 #[.slice A l.length c, .int .i64 z, .int .i64 1, .int .i64 fr, .int .i64 to] w fun e w' => e = .returned (.tuple #[.int .i64 (tallF l z fr to).1, .int .i64 (tallF l z fr to).2]) ∧ Below w.heap.size w w' := by
  have HR := Lib.hid hr
  have HN := Lib.hid hn
  have HL := Lib.hid hl
  have HZ := Lib.hid hz
  clear hr hl hn hz
  go_enter Try.func157, Try.ntmps157
  go_wp2_with fail
  go_loopw [10, 11, 18] (fun p1 p2 q wr => ∃ k : Nat, k ≤ l.length ∧ q = .int .i64 k ∧ p1 = .int .i64 ((l.take k).foldl (tallS z) (fr, to)).1 ∧ p2 = .int .i64 ((l.take k).foldl (tallS z) (fr, to)).2 ∧ Below w.heap.size w wr) (fun _ _ q _ => l.length - (intOf q).toNat)
  case atStart => exact ⟨0, by omega, rfl, rfl, rfl, Below.refl _ _⟩
  case round =>
    obtain ⟨k, hk, rfl, rfl, rfl, H⟩ := hrel
    have HH := Lib.hid H
    clear H
    by_cases hlt : k < l.length
    · have d0 : decide ((k : Int) < (l.length : Int)) = true := decide_eq_true (by omega)
      have d0' : decide (k < l.length) = true := decide_eq_true hlt
      have hwk : IntKind.i64.wrap ((k : Int) + 1) = (k : Int) + 1 := IntWalk.i64_in _ ⟨by omega, by have := HN.out; omega⟩
      obtain ⟨ad, rfl, hlt', c0, c1, c2, c3, c4⟩ := (HR.out.below HH.out).fl rfl hlt
      have hbd := HL.out.at_ hlt
      have hy60 : In60 l[k].y := ⟨by omega, by omega⟩
      have hh60 : In60 l[k].h := ⟨by omega, by omega⟩
      have hwx : IntKind.i64.wrap (l[k].x + l[k].w) = l[k].x + l[k].w := IntWalk.i64_in _ ⟨by omega, by omega⟩
      have HF := Lib.hid (foldl_take_succ (tallS z) (fr, to) l k hlt)
      obtain ⟨p1, p2, HY⟩ : ∃ p1 p2, Hid ((l.take k).foldl (tallS z) (fr, to) = (p1, p2)) := ⟨_, _, Lib.hid rfl⟩
      rw [HY.out] at HF ⊢
      rcases (show ∃ S, Hid (standsF l[k] z = S) from ⟨_, Lib.hid rfl⟩) with ⟨S, HS⟩
      cases e1 : (l[k].side == 1)
      all_goals cases e2 : (l[k].side == 2)
      all_goals cases S
      all_goals
        go_wp2_with (go_at_call 161; refine (stands_any _ _ _ _ _ z _ hy60 hh60 HZ.out).mono ?_; rintro e w1 ⟨rfl, rfl⟩; rw [show standsF ⟨l[k].side, l[k].x, l[k].y, l[k].w, l[k].h⟩ z = _ from HS.out])
        all_goals
            go_roundw
            case rel => exact ⟨k + 1, by omega, by go_num, congrArg (Value.int .i64) (by rw [HF.out]; simp at e1 e2; unfold tallS; rw [HS.out]; simp [e1, e2]; try omega), congrArg (Value.int .i64) (by rw [HF.out]; simp at e1 e2; unfold tallS; rw [HS.out]; simp [e1, e2]; try omega), (HH.out.alloc HH.out.size _).alloc (by have := HH.out.size; simp; omega) _⟩
            case measure => simp [intOf]; omega
    · have d0 : decide ((k : Int) < (l.length : Int)) = false := decide_eq_false (by omega)
      have d0' : decide (k < l.length) = false := decide_eq_false hlt
      have HK := Lib.hid (show k = l.length by omega)
      go_wp2_with fail
      go_ret2
      exact ⟨by (rw [HK.out, List.take_length]; rfl), HH.out⟩
theorem band_any (z b fr to : Int) (hn : l.length ≤ 65536) (hb : b ≤ 288230376151711744) (hz : In60 z) (hl : FlB b l) (hr : Reads w w.heap.size 5 A l.length (flsCells l)) :
    Calls Try.prog 143 #[.slice A l.length c, .int .i64 z, .int .i64 fr, .int .i64 to] w fun e w' => e = .returned (.tuple #[.int .i64 (tallF l z fr to).1, .int .i64 (tallF l z fr to).2]) ∧ Below w.heap.size w w' := by
  have HT := Lib.hid (tall_any l A c w z b fr to hn hb hz hl hr)
  clear hr hl hn hz
  go_enter Try.func143, Try.ntmps143
  go_wp2_with (go_at_call 157; refine HT.out.mono ?_; rintro e w1 ⟨rfl, hb1⟩)
  go_ret2
  exact ⟨rfl, hb1⟩
set_option maxRecDepth 100000 in
set_option maxHeartbeats 1000000 in
theorem next_any (z b : Int) (hn : l.length ≤ 65536) (hb : b ≤ 288230376151711744) (hl : FlB b l) (hr : Reads w w.heap.size 5 A l.length (flsCells l)) :
    Calls Try.prog 158 #[.slice A l.length c, .int .i64 z] w fun e w' => e = .returned (.tuple #[.int .i64 ((nextF l z).getD 0), .bool (nextF l z).isSome]) ∧ Below w.heap.size w w' := by
  have hz : True := trivial
  have HR := Lib.hid hr
  have HN := Lib.hid hn
  have HL := Lib.hid hl
  have HZ := Lib.hid hz
  clear hr hl hn hz
  go_enter Try.func158, Try.ntmps158
  go_wp2_with fail
  go_loopw [4, 5, 11] (fun p1 p2 q wr => ∃ k : Nat, k ≤ l.length ∧ q = .int .i64 k ∧ p1 = .int .i64 (((l.take k).foldl (nextS z) none).getD 0) ∧ p2 = .bool ((l.take k).foldl (nextS z) none).isSome ∧ Below w.heap.size w wr) (fun _ _ q _ => l.length - (intOf q).toNat)
  case atStart => exact ⟨0, by omega, rfl, rfl, rfl, Below.refl _ _⟩
  case round =>
    obtain ⟨k, hk, rfl, rfl, rfl, H⟩ := hrel
    have HH := Lib.hid H
    clear H
    by_cases hlt : k < l.length
    · have d0 : decide ((k : Int) < (l.length : Int)) = true := decide_eq_true (by omega)
      have d0' : decide (k < l.length) = true := decide_eq_true hlt
      have hwk : IntKind.i64.wrap ((k : Int) + 1) = (k : Int) + 1 := IntWalk.i64_in _ ⟨by omega, by have := HN.out; omega⟩
      obtain ⟨ad, rfl, hlt', c0, c1, c2, c3, c4⟩ := (HR.out.below HH.out).fl rfl hlt
      have hbd := HL.out.at_ hlt
      have hy60 : In60 l[k].y := ⟨by omega, by omega⟩
      have hh60 : In60 l[k].h := ⟨by omega, by omega⟩
      have HF := Lib.hid (foldl_take_succ (nextS z) none l k hlt)
      obtain ⟨o, HY⟩ : ∃ o, Hid ((l.take k).foldl (nextS z) none = o) := ⟨_, Lib.hid rfl⟩
      rw [HY.out] at HF ⊢
      obtain ⟨B, hB⟩ : ∃ B, l[k].y + l[k].h = B := ⟨_, rfl⟩
      have HBB := Lib.hid hB
      have hwx : IntKind.i64.wrap (l[k].y + l[k].h) = B := (IntWalk.i64_in _ ⟨by omega, by omega⟩).trans hB
      clear hB hbd hy60 hh60
      cases e1 : decide (z < B)
      · go_wp2_with fail
        go_roundw
        case rel => exact ⟨k + 1, by omega, by go_num, by rw [HF.out]; unfold nextS; rw [HBB.out, if_neg (by simp at e1; omega)], by rw [HF.out]; unfold nextS; rw [HBB.out, if_neg (by simp at e1; omega)], HH.out.alloc HH.out.size _⟩
        case measure => simp [intOf]; omega
      · have HZB := Lib.hid (of_decide_eq_true e1)
        cases o with
        | none =>
          dsimp only [Option.getD, Option.isSome]
          go_wp2_with fail
          go_roundw
          case rel => exact ⟨k + 1, by omega, by go_num, by rw [HF.out]; unfold nextS; rw [HBB.out, if_pos ⟨HZB.out, by simp⟩], by rw [HF.out]; unfold nextS; rw [HBB.out, if_pos ⟨HZB.out, by simp⟩], HH.out.alloc HH.out.size _⟩
          case measure => simp [intOf]; omega
        | some o =>
          dsimp only [Option.getD, Option.isSome]
          cases e2 : decide (B < o)
          · go_wp2_with fail
            go_roundw
            case rel => exact ⟨k + 1, by omega, by go_num, by rw [HF.out]; unfold nextS; rw [HBB.out, if_neg (by simp at e2; simp; omega)], by rw [HF.out]; unfold nextS; rw [HBB.out, if_neg (by simp at e2; simp; omega)], HH.out.alloc HH.out.size _⟩
            case measure => simp [intOf]; omega
          · go_wp2_with fail
            go_roundw
            case rel => exact ⟨k + 1, by omega, by go_num, by rw [HF.out]; unfold nextS; rw [HBB.out, if_pos ⟨HZB.out, by simp at e2; simp; omega⟩], by rw [HF.out]; unfold nextS; rw [HBB.out, if_pos ⟨HZB.out, by simp at e2; simp; omega⟩], HH.out.alloc HH.out.size _⟩
            case measure => simp [intOf]; omega
    · have d0 : decide ((k : Int) < (l.length : Int)) = false := decide_eq_false (by omega)
      have d0' : decide (k < l.length) = false := decide_eq_false hlt
      have HK := Lib.hid (show k = l.length by omega)
      go_wp2_with fail
      go_ret2
      exact ⟨by (rw [HK.out, List.take_length]; rfl), HH.out⟩
end
end Go.Proofs.Ytlebbkhhhmempaa
