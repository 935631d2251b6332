/- The law TextExtents, walked: over words that are read. -/
import Derived.Test.YtmpcpcagphgopaaWorks
import Derived.Test.YtmpcpcagphgopaaCopy
import Derived.Test.YtmpcpcagphgopaaRext
set_option linter.unusedSimpArgs false
set_option linter.unusedVariables false
namespace Go.Proofs.Ytmpcpcagphgopaa
open Go.RowKit
attribute [local go_sem] block_of_add

theorem below_drewN (B : Nat) (w : World) (n : Nat) : Below B w (w.drewN n) := ⟨rfl, rfl, rfl, Nat.le_refl _, fun _ _ => rfl⟩
theorem same_self (a : List Wd) (A B : Option Addr) (c d : Nat) (w : World) (hn : a.length ≤ 4294967296) (ha : Reads w w.heap.size 5 A a.length (wdsCells a)) (hb : Reads w w.heap.size 5 B a.length (wdsCells a)) :
    Calls Try.prog 15 #[.slice A a.length c, .slice B a.length d] w fun e w' => e = .returned (.bool true) ∧ Below w.heap.size w w' :=
  (same_any a a A B c d w hn hn ha hb).mono fun e w' ⟨he, n, hw⟩ => ⟨by rw [he, decide_eq_true rfl], by subst hw; exact below_drewN _ _ _⟩

set_option maxRecDepth 100000 in
set_option maxHeartbeats 2000000 in
theorem textExtents_any (l : List Wd) (A : Option Addr) (c : Nat) (w : World) (hl : l.length ≤ 300 → Ws64 l) (hr : Reads w w.heap.size 5 A l.length (wdsCells l)) :
    Calls Try.prog 4 #[.slice A l.length c] w fun e w' => e = .returned (.bool true) ∧ Below w.heap.size w w' := by
  have HL := Lib.hid hr
  clear hr
  by_cases hn : 300 < l.length
  · have e1 : decide ((300 : Int) < (l.length : Int)) = true := decide_eq_true (by omega)
    go_enter Try.func4, Try.ntmps4
    go_wp2_with fail
    refine (works_any _).mono ?_
    rintro e w' ⟨rfl, hb⟩
    go_wp2_with fail
    go_ret
    exact ⟨rfl, hb⟩
  · have e1 : decide ((300 : Int) < (l.length : Int)) = false := decide_eq_false (by omega)
    have hl := hl (by omega)
    have h1c := wdsCells_one l
    go_enter Try.func4, Try.ntmps4
    have hE0 : (w.alloc (.cells #[] 37)).ownsRow w.heap.size 37 5 (.slice (some ⟨w.heap.size, 0, none⟩) 0 0) 0 [] := World.ownsRow_lit w #[] 0 (Nat.le_refl _) (by decide) rfl
    have hR0 := HL.out.alloc (Nat.le_refl _) (.cells #[] 37)
    go_wp2_with (at_builtin; refine wpList_copy0 rfl _ _ rfl el_word hE0 (by simp) rfl (wdsCells l) rfl hR0 h1c (by omega) (by omega) ?_; intro A' c' w' hown' hB hg)
    have bw : Below w.heap.size w w' := hB _ _ (Nat.le_refl _) ((Below.refl _ _).alloc (Nat.le_refl _) _)
    clear hB hE0 hR0
    refine (ext_any l A' c' _ hl (by omega) (Reads.of_own hown')).mono ?_
    rintro e w1 ⟨rfl, b1⟩
    have bw1 := bw.trans (b1.mono bw.size)
    go_wp2_with fail
    refine (rext_any l A c _ hl (by omega) ((HL.out.below bw1).more bw1.size)).mono ?_
    rintro e w2 ⟨rfl, b2⟩
    have bw2 := bw1.trans (b2.mono bw1.size)
    have hown2 := own_below hown' (b1.trans (b2.mono b1.size))
    have HO := Lib.hid hown2
    clear hown' hown2 hg
    go_wp2_with fail
    refine (same_self l A' A c' c _ (by omega) (Reads.of_own HO.out) ((HL.out.below bw2).more bw2.size)).mono ?_
    rintro e w3 ⟨rfl, b3⟩
    have bw3 := bw2.trans (b3.mono bw2.size)
    go_wp2_with fail
    refine (works_any _).mono ?_
    rintro e w4 ⟨rfl, b4⟩
    have bw4 := bw3.trans (b4.mono bw3.size)
    go_wp2_with fail
    go_ret
    exact ⟨rfl, bw4⟩
end Go.Proofs.Ytmpcpcagphgopaa
