/- Contracts: lines of flow's walk; the closures that cut. -/
import Derived.Test.YtlebbkhhhmempaaFj
import Derived.Test.YtlebbkhhhmempaaAu
set_option linter.unusedSimpArgs false
set_option linter.unusedVariables false
namespace Go.Proofs.Ytlebbkhhhmempaa
open Go.RowKit
attribute [local go_sem] block_of_add
/-- A loop that is left in its first round. -/
theorem wp_loop0 {P : Program} {c : Code} {Q : Exit → Act → World → Prop} {a : Act} {w : World} (h : c.wp P (Exit.then (fun _ _ => False) Q) a w) : (Code.loop c).wp P Q a w :=
  wp_loop (fun a' w' => a' = a ∧ w' = w) (fun _ _ => 0) ⟨rfl, rfl⟩ (by
    rintro a' w' ⟨rfl, rfl⟩
    refine wp_mono h ?_
    rintro (_ | _) a2 w2 h2 <;> first | exact h2 | exact h2.elim)
def in40 (x : Int) : Bool := decide (-1099511627776 ≤ x) && decide (x ≤ 1099511627776)
theorem in40_p {x : Int} (h : in40 x = true) : -1099511627776 ≤ x ∧ x ≤ 1099511627776 := by unfold in40 at h; simpa only [Bool.and_eq_true, decide_eq_true_eq] using h
theorem in40_cut {x : Int} (h : in40 x = true) : cutF x = x ∧ cutB x = false := by
  have := in40_p h
  unfold cutF cutB
  refine ⟨by rw [if_neg (by omega), if_neg (by omega)], by simp; omega⟩
theorem same_below {W : World} {g : Nat} {t : TypeId} {v : Value} (h : Blk W g t #[v]) : Below W.heap.size W (W.setCell ⟨g, 0, none⟩ v) := by
  refine ⟨rfl, rfl, rfl, by simp [World.setCell], fun k hk => ?_⟩
  by_cases e : k = g
  · subst e
    exact ((h.set_ 0 v).trans (by simp)).trans h.symm
  · exact Below.heap_setCell _ ⟨g, 0, none⟩ _ k e
set_option maxRecDepth 100000 in
theorem tcut_any (gb : Nat) (x : Int) (W : World) (hx : in40 x = true) (h : Blk W gb 4 #[.bool false]) :
    Calls Try.prog 80 #[.int .i64 x, .pointer (some ⟨gb, 0, none⟩)] W fun e w' => e = .returned (.int .i64 x) ∧ Below W.heap.size W w' := by
  have HC := Lib.hid (cut_any x W)
  rw [(in40_cut hx).1, (in40_cut hx).2] at HC
  have HB := Lib.hid h
  have c0 := h.c1
  have f0 := h.frozen 0
  clear h hx
  go_enter Try.func80, Try.ntmps80
  go_wp2_with (go_at_call 60; refine HC.out.mono ?_; rintro e w1 ⟨rfl, rfl⟩)
  go_ret
  exact ⟨rfl, same_below HB.out⟩
section
variable (C : Cx) (k : Wk) (Af Ao : Option Addr) (cf co : Nat) (W : World)
set_option maxRecDepth 100000 in
set_option maxHeartbeats 1000000 in
theorem lines_any (hC : CxOk C) (h : WkI C k Af cf Ao co W) (i : Nat) (hi : i < C.l.length) :
    Calls Try.prog 79 #[.pointer (some ⟨C.bw, 0, none⟩), .int .i64 i] W fun e w' => e = .returned (.tuple #[.slice none 0 0, .bool false]) ∧ Below W.heap.size W w' := by
  obtain ⟨ad, hA, hb, hadw, hads, hnd⟩ := WkI.nd C k Af Ao cf co W hC h i hi
  have HSP := Lib.hid (fun W' (hb : Below W.heap.size W W') => spot_any C k Af Ao cf co W' hC (h.below hb) i hi)
  have HL : Hid (∀ W', Below W.heap.size W W' → W'.cell? ⟨ad.block, (ad.add (i * 44)).off + 1 + 33, none⟩ = some (.int .i64 C.l[i].s.line)) := Lib.hid (fun W' hb' => by
    rw [hb'.cell (p := ⟨ad.block, (ad.add (i * 44)).off + 1 + 33, none⟩) hb]
    exact nd_range hnd 33 _ rfl)
  have HIL : i < k.sp.length := by rw [h.len]; exact hi
  have HI := Lib.hid h
  have HC := Lib.hid hC
  obtain ⟨ln, hln⟩ : ∃ ln, ln = C.l[i].s.line := ⟨_, rfl⟩
  rw [← hln] at HL
  obtain ⟨mx, hmx⟩ : ∃ mx, mx = (if 0 < ln then ln else 0) := ⟨_, rfl⟩
  have HCT := Lib.hid (fun x W' => cut_any x W')
  obtain ⟨c0, c1, c2, c3, c4, c5, c6, c7, c8, c9, c10, c11, c12⟩ := h.cs
  rw [hA] at c0
  clear hnd h hC hln hadw hads
  have q1 := Lib.hid (HSP.out (W.alloc (.cells #[.bool false] 4)) ((Below.refl _ _).alloc (Nat.le_refl _) _))
  go_enter Try.func79, Try.ntmps79
  go_upto_region 2 with (go_at_call 42; refine q1.out.mono ?_; rintro e w1 ⟨rfl, hb1⟩; have HB1 : Hid (Below W.heap.size W w1) := Lib.hid (((Below.refl _ _).alloc (Nat.le_refl _) _).trans (hb1.mono (by simp))); have HG1 : Hid (Blk w1 W.heap.size 4 #[.bool false]) := Lib.hid ((Blk.new _ _ _).below hb1 (by simp)); clear hb1)
  have HI1 := Lib.hid (HI.out.below HB1.out)
  have l0 := HL.out w1 HB1.out
  clear c0 c1 c2 c3 c4 c5 c6 c7 c8 c9 c10 c11 c12
  obtain ⟨c0, c1, c2, c3, c4, c5, c6, c7, c8, c9, c10, c11, c12⟩ := HI1.out.cs
  rw [hA] at c0
  obtain ⟨s0, s1, s2, s3, s4⟩ := HI1.out.sc HIL
  go_upto_region 3 with (fail)
  by_cases hl0 : ln < 0
  · have d0 : decide (ln < 0) = true := decide_eq_true hl0
    go_upto_region 4 with (go_at_call 60; refine (HCT.out _ _).mono ?_; rintro e w2 ⟨rfl, hw2⟩; subst hw2)
    go_wp2_with fail
    refine wp_loop0 ?_
    have b0 := HG1.out.c1
    have bf := HG1.out.frozen 0
    go_upto_region 15 with (fail)
    go_region
    obtain ⟨X, hX⟩ : ∃ X, X = (w1.setCell ⟨W.heap.size, 0, none⟩ (.bool false)).drew := ⟨_, rfl⟩
    rw [← hX]
    have HX : Hid (Blk X W.heap.size 4 #[.bool false] ∧ Below W.heap.size W X) := Lib.hid (by rw [hX]; exact ⟨(HG1.out.set_ 0 _).drew, (HB1.out.setCell (p := ⟨W.heap.size, 0, none⟩) (Nat.le_refl _) _).drew⟩)
    have z0 := HX.out.1.c1
    clear hX b0 bf
    go_wp2_with fail
    refine bodyPost_ret (v := .tuple #[.slice none 0 0, .bool false]) ?_ rfl ⟨rfl, HX.out.2⟩
    simp [results, Try.results79, go_sem, z0]
  · have d0 : decide (ln < 0) = false := decide_eq_false hl0
    go_upto_region 4 with (go_at_call 60; refine (HCT.out _ _).mono ?_; rintro e w2 ⟨rfl, hw2⟩; subst hw2)
    go_wp2_with fail
    refine wp_loop0 ?_
    have b0 := HG1.out.c1
    have bf := HG1.out.frozen 0
    go_upto_region 15 with (fail)
    go_region
    obtain ⟨X, hX⟩ : ∃ X, X = (w1.setCell ⟨W.heap.size, 0, none⟩ (.bool false)).drew := ⟨_, rfl⟩
    rw [← hX]
    have HX : Hid (Blk X W.heap.size 4 #[.bool false] ∧ Below W.heap.size W X) := Lib.hid (by rw [hX]; exact ⟨(HG1.out.set_ 0 _).drew, (HB1.out.setCell (p := ⟨W.heap.size, 0, none⟩) (Nat.le_refl _) _).drew⟩)
    have z0 := HX.out.1.c1
    clear hX b0 bf
    go_wp2_with fail
    refine bodyPost_ret (v := .tuple #[.slice none 0 0, .bool false]) ?_ rfl ⟨rfl, HX.out.2⟩
    simp [results, Try.results79, go_sem, z0]
end
end Go.Proofs.Ytlebbkhhhmempaa
