/- Contracts of the reference's big numbers (package jambref01): Of, Add, Cut, Sum. -/
import Derived.Test.YtenpjdpkilbhkaaRefa
set_option linter.unusedSimpArgs false
set_option linter.unusedVariables false
namespace Go.Proofs.Ytenpjdpkilbhkaa
open Go.RowKit
attribute [local go_sem] block_of_add

def absI (x : Int) : Int := if x < 0 then -x else x
theorem u64_neg (x : Int) (h0 : -9223372036854775808 ≤ x) (h : x < 0) : IntKind.u64.wrap (-(IntKind.u64.wrap x)) = absI x := by
  rw [u64_eq, u64_eq]; unfold absI; rw [if_pos h]; omega
theorem sg_abs (x : Int) : sg (decide (x < 0)) (absI x) = x := by unfold sg absI; by_cases h : x < 0 <;> simp [h]
theorem of_end {w wr : World} {l : List Bool} {A : Option Addr} {c : Nat} {x : Int} {m : Bool} (b0 : Blk wr w.heap.size 101 #[.bool false, .slice none 0 0]) (hown : wr.ownsRow (w.heap.size + 2) 4 1 (.slice A l.length c) l.length (bools l)) (hl : l.length ≤ 64) (hw : Below w.heap.size w wr)
    (hm : decide (x < 0) = m) (hv : val l + 0 * 2 ^ l.length = absI x) (W : World) (hW : W = (wr.setCell ⟨w.heap.size, 0, none⟩ (.bool m)).setCell ⟨w.heap.size, 1, none⟩ (.slice A l.length c)) :
    Blk W w.heap.size 101 #[.bool m, .slice A l.length c] ∧ Big W (w.heap.size + 2) (.agg #[.bool m, .slice A l.length c]) 64 x ∧ Below w.heap.size w W := by
  subst hW
  have ho := ownsRow_setCell_below (ownsRow_setCell_below hown (a := ⟨w.heap.size, 0, none⟩) (by simp) (.bool m)) (a := ⟨w.heap.size, 1, none⟩) (by simp) (.slice A l.length c)
  refine ⟨(b0.set_ 0 _).set_ 1 _, ⟨m, A, c, l, rfl, ?_, hl, Reads.of_own ho, fun ad h _ => own_ge hown ad h, ?_⟩, (hw.setCell (p := ⟨w.heap.size, 0, none⟩) (Nat.le_refl _) _).setCell (p := ⟨w.heap.size, 1, none⟩) (Nat.le_refl _) _⟩
  · rcases hown.2 with ⟨h, h'⟩ | ⟨g, cap, cur, h, _, _, h', _⟩
    · omega
    · injection h with _ _ h; omega
  · have : val l = absI x := by omega
    rw [this, ← hm, sg_abs]

set_option maxHeartbeats 800000 in
theorem of_any (x : Int) (w : World) (h0 : -9223372036854775808 ≤ x) (h1 : x < 9223372036854775808) :
    Calls Try.prog 46 #[.int .i64 x] w fun e w' => ∃ v, e = .returned v ∧ Big w' w.heap.size v 64 x ∧ Below w.heap.size w w' := by
  have hneg := u64_neg x h0
  have ha : absI x ≤ 9223372036854775808 := by unfold absI; split <;> omega
  have ha' : 0 ≤ absI x := by unfold absI; split <;> omega
  by_cases hx : x < 0
  · have H2 := Lib.hid (hneg hx)
    clear hneg h1
    go_enter Try.func46, Try.ntmps46
    go_wp2_with fail
    rw [H2.out]
    go_loopw [3] (fun y wr => ∃ (q : Int) (l : List Bool) (v : Value), y = .int .u64 q ∧ 0 ≤ q ∧ q ≤ 9223372036854775808 ∧ l.length ≤ 64 ∧ Blk wr w.heap.size 101 #[.bool false, .slice none 0 0] ∧ Blk wr (w.heap.size + 1) 101 #[.bool true, v] ∧
        wr.ownsRow (w.heap.size + 2) 4 1 v l.length (bools l) ∧ val l + q * 2 ^ l.length = absI x ∧ Below w.heap.size w wr) (fun y _ => (intOf y).toNat)
    case atStart => exact ⟨_, [], _, rfl, ha', ha, by simp, (Blk.new _ _ _).alloc _, Blk.at_ _ _ _ (by simp), World.ownsRow_nil _ _ _ _, by simp [val], ((Below.refl _ _).alloc (Nat.le_refl _) _).alloc (by simp) _⟩
    case round =>
      obtain ⟨q, l, v, rfl, hq, hq1, hl, b0, b1, hown, hv, hw⟩ := hrel
      have HV := Lib.hid hv
      clear hv
      obtain ⟨c0, c1⟩ := b1.c2
      have hsz := b1.lt
      rcases Int.lt_or_le 0 q with hq0 | hq0
      · have hl63 := of_len l q _ HV.out hq0 ha
        have HP := Lib.hid (of_step l q _ HV.out hq)
        go_wp2_with (at_builtin; refine wpList_app rfl _ _ rfl el_bool hown hsz rfl [_] rfl (by simp) (by simp [Value.oneCell']) (by omega) (by omega) ?_; intro A' c' w' hown' hB hg _; have b0' := b0.grown hg (own_far hown (by omega)); have b1' := b1.grown hg (own_far hown (by omega)); obtain ⟨_, c1'⟩ := b1'.c2; have f1' := b1'.frozen 1)
        go_roundw
        case rel => exact ⟨_, l ++ [_], _, rfl, by omega, by omega, by simp; omega, b0'.far (by simp) _, b1'.set_ 1 _, by simpa [bools] using ownsRow_setCell_below hown' (a := ⟨w.heap.size + 1, 1, none⟩) (by simp) _, by rw [List.length_append]; exact HP.out, (hB _ _ (by omega) hw).setCell (p := ⟨w.heap.size + 1, 1, none⟩) (by simp) _⟩
        case measure => simp [intOf]; omega
      · obtain rfl : q = 0 := by omega
        obtain ⟨A, c, rfl⟩ := own_form hown
        obtain ⟨hd, hd1⟩ := b0.c2
        have hf := b0.frozen
        go_wp2_with fail
        obtain ⟨bF, hbig, hB⟩ := of_end b0 hown hl hw (m := true) (by simp; omega) HV.out _ rfl
        obtain ⟨r0, r1⟩ := bF.c2
        exact bodyPost_ret (v := .agg #[.bool true, .slice A l.length c]) (by simp [results, Try.results46, go_sem, r0, r1]) rfl ⟨_, rfl, hbig.more (Nat.le_refl _) (by omega), hB⟩
  · have HA : Hid (absI x = x) := by unfold absI; exact Lib.hid (if_neg hx)
    clear hneg
    go_enter Try.func46, Try.ntmps46
    go_wp2_with fail
    go_loopw [3] (fun y wr => ∃ (q : Int) (l : List Bool) (v : Value), y = .int .u64 q ∧ 0 ≤ q ∧ q ≤ 9223372036854775808 ∧ l.length ≤ 64 ∧ Blk wr w.heap.size 101 #[.bool false, .slice none 0 0] ∧ Blk wr (w.heap.size + 1) 101 #[.bool false, v] ∧
        wr.ownsRow (w.heap.size + 2) 4 1 v l.length (bools l) ∧ val l + q * 2 ^ l.length = absI x ∧ Below w.heap.size w wr) (fun y _ => (intOf y).toNat)
    case atStart => exact ⟨x, [], _, rfl, by omega, by omega, by simp, (Blk.new _ _ _).alloc _, Blk.at_ _ _ _ (by simp), World.ownsRow_nil _ _ _ _, by simp [val, HA.out], ((Below.refl _ _).alloc (Nat.le_refl _) _).alloc (by simp) _⟩
    case round =>
      obtain ⟨q, l, v, rfl, hq, hq1, hl, b0, b1, hown, hv, hw⟩ := hrel
      have HV := Lib.hid hv
      clear hv
      obtain ⟨c0, c1⟩ := b1.c2
      have hsz := b1.lt
      rcases Int.lt_or_le 0 q with hq0 | hq0
      · have hl63 := of_len l q _ HV.out hq0 ha
        have HP := Lib.hid (of_step l q _ HV.out hq)
        go_wp2_with (at_builtin; refine wpList_app rfl _ _ rfl el_bool hown hsz rfl [_] rfl (by simp) (by simp [Value.oneCell']) (by omega) (by omega) ?_; intro A' c' w' hown' hB hg _; have b0' := b0.grown hg (own_far hown (by omega)); have b1' := b1.grown hg (own_far hown (by omega)); obtain ⟨_, c1'⟩ := b1'.c2; have f1' := b1'.frozen 1)
        go_roundw
        case rel => exact ⟨_, l ++ [_], _, rfl, by omega, by omega, by simp; omega, b0'.far (by simp) _, b1'.set_ 1 _, by simpa [bools] using ownsRow_setCell_below hown' (a := ⟨w.heap.size + 1, 1, none⟩) (by simp) _, by rw [List.length_append]; exact HP.out, (hB _ _ (by omega) hw).setCell (p := ⟨w.heap.size + 1, 1, none⟩) (by simp) _⟩
        case measure => simp [intOf]; omega
      · obtain rfl : q = 0 := by omega
        obtain ⟨A, c, rfl⟩ := own_form hown
        obtain ⟨hd, hd1⟩ := b0.c2
        have hf := b0.frozen
        go_wp2_with fail
        obtain ⟨bF, hbig, hB⟩ := of_end b0 hown hl hw (m := false) (by simp; omega) HV.out _ rfl
        obtain ⟨r0, r1⟩ := bF.c2
        exact bodyPost_ret (v := .agg #[.bool false, .slice A l.length c]) (by simp [results, Try.results46, go_sem, r0, r1]) rfl ⟨_, rfl, hbig.more (Nat.le_refl _) (by omega), hB⟩
end Go.Proofs.Ytenpjdpkilbhkaa
