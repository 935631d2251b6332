/- place.Island and the program's valid.island, of a tree of one node. -/
import Derived.Test.YtjhfcpadnofdnaaGreatVoc
import Derived.Test.YtjhfcpadnofdnaaGreatVfl
import Derived.Test.YtjhfcpadnofdnaaGreatRtg
set_option linter.unusedSimpArgs false
set_option linter.unusedVariables false
namespace Go.Proofs.YtjhfcpadnofdnaaGreat
open Go.RowKit
attribute [local go_sem] block_of_add
section
variable {ga gN gC gU gH gF gK : Nat} {v uw : Int} {w : World}
theorem contains0Q (A : Option Addr) (c : Nat) (w : World) : Calls Tryz.prog 101 #[.slice A 0 c, .bool true] w fun e w' => e = .returned (.bool false) ∧ ∃ n, w' = w.drewN n := (contains0 A c w).mono fun e w' h => ⟨h.1, 0, h.2.symm⟩
theorem lines0Q (w : World) : Calls Tryz.prog 103 #[.slice none 0 0, .slice none 0 0] w fun e w' => e = .returned (.bool true) ∧ ∃ n, w' = w.drewN n := (lines0 w).mono fun e w' h => ⟨h.1, 0, h.2.symm⟩
set_option maxRecDepth 100000 in
set_option maxHeartbeats 4000000 in
theorem pisle_one (C : Value) (hn : Blk w gN 69 (ndsCells l1V).toArray) (hu : Blk w gU 40 #[.int .i64 uw, .int .i64 0, .int .i64 0]) :
    Calls Tryz.prog 22 #[.agg #[.slice (some ⟨gN, 0, none⟩) 1 1, .slice none 0 0, .int .i64 v], .int .i64 0, .slice (some ⟨gU, 0, none⟩) 1 1, C, .slice (some ⟨gH, 0, none⟩) 1 1] w fun e w' => (∃ Ab cb gF gB, e = .returned (.agg #[.slice Ab 0 cb, .slice (some ⟨gF, 0, none⟩) 0 0, .slice (some ⟨gB, 0, none⟩) 0 0, .int .i64 0, .slice none 0 0, .bool false])) ∧ Below w.heap.size w w' := by
  obtain ⟨W2, hW2⟩ : ∃ W, W = (w.alloc (.cells #[.slice (some ⟨gN, 0, none⟩) 1 1, .slice none 0 0, .int .i64 v] 25)).alloc (.cells #[.slice none 0 0, .slice none 0 0, .slice none 0 0, .int .i64 0, .slice none 0 0, .bool false] 59) := ⟨_, rfl⟩
  have HB2 : Hid (Below w.heap.size w W2) := Lib.hid (by rw [hW2]; exact ((Below.refl _ _).alloc (Nat.le_refl _) _).alloc (by simp) _)
  have HT2 : Hid (Blk W2 w.heap.size 25 #[.slice (some ⟨gN, 0, none⟩) 1 1, .slice none 0 0, .int .i64 v]) := Lib.hid (by rw [hW2]; exact (Blk.new _ _ _).alloc _)
  have HI2 : Hid (Blk W2 (w.heap.size + 1) 59 #[.slice none 0 0, .slice none 0 0, .slice none 0 0, .int .i64 0, .slice none 0 0, .bool false]) := Lib.hid (by rw [hW2]; exact Blk.at_ _ _ _ (by simp))
  have HR := Lib.hid (fun W' (h : Below w.heap.size w W') => root_call (v := v) (hn.below h hn.lt))
  have HF := Lib.hid (fun W' (h : Below w.heap.size w W') => fblock_one (v := v) (gH := gH) (hn.below h hn.lt) (hu.below h hu.lt))
  have HN := Lib.hid (fun W' (h : Below w.heap.size w W') => hn.below h hn.lt)
  have HW2 := Lib.hid hW2
  clear hn hu hW2
  go_enter Tryz.func22, Tryz.ntmps22
  go_upto_region 1 with (fail)
  rw [← HW2.out]
  obtain ⟨t0, t1, t2⟩ := HT2.out.c3
  have tl := HT2.out.lt
  go_wp2_with fail
  refine (HR.out _ HB2.out).mono ?_
  rintro e w3 ⟨rfl, hb3⟩
  have HB3 := Lib.hid (HB2.out.trans (hb3.mono HB2.out.size))
  have HT3 := Lib.hid (HT2.out.below hb3 HT2.out.lt)
  have HI3 := Lib.hid (HI2.out.below hb3 HI2.out.lt)
  clear t0 t1 t2 tl hb3
  obtain ⟨t0, t1, t2⟩ := HT3.out.c3
  have tl := HT3.out.lt
  have y1 : w3.cell? ⟨gN, 1, none⟩ = some (.int .u8 1) := (HN.out _ HB3.out).get 1 rfl
  have yl := (HN.out _ HB3.out).lt
  go_wp2_with fail
  refine (HF.out _ HB3.out).mono ?_
  rintro e w4 ⟨⟨Ab, cb, gF, gB, rfl⟩, hb4⟩
  have HB4 := Lib.hid (HB3.out.trans (hb4.mono HB3.out.size))
  have HI4 := Lib.hid (HI3.out.below hb4 HI3.out.lt)
  clear t0 t1 t2 tl y1 yl hb4
  have z0 := HI4.out.get 0 rfl
  have z1 := HI4.out.get 1 rfl
  have z2 := HI4.out.get 2 rfl
  have z3 := HI4.out.get 3 rfl
  have z4 := HI4.out.get 4 rfl
  have z5 := HI4.out.get 5 rfl
  have zl := HI4.out.lt
  have zf0 := HI4.out.frozen 0
  have zf1 := HI4.out.frozen 1
  have zf2 := HI4.out.frozen 2
  have zf3 := HI4.out.frozen 3
  have zf4 := HI4.out.frozen 4
  have zf5 := HI4.out.frozen 5
  have HI5 := Lib.hid ((((((HI4.out.set_ 0 (.slice Ab 0 cb)).set_ 1 (.slice (some ⟨gF, 0, none⟩) 0 0)).set_ 2 (.slice (some ⟨gB, 0, none⟩) 0 0)).set_ 3 (.int .i64 0)).set_ 4 (.slice none 0 0)).set_ 5 (.bool false))
  have HB5 := Lib.hid ((((((HB4.out.setCell (p := ⟨w.heap.size + 1, 0, none⟩) (by simp) (.slice Ab 0 cb)).setCell (p := ⟨w.heap.size + 1, 1, none⟩) (by simp) (.slice (some ⟨gF, 0, none⟩) 0 0)).setCell (p := ⟨w.heap.size + 1, 2, none⟩) (by simp) (.slice (some ⟨gB, 0, none⟩) 0 0)).setCell (p := ⟨w.heap.size + 1, 3, none⟩) (by simp) (.int .i64 0)).setCell (p := ⟨w.heap.size + 1, 4, none⟩) (by simp) (.slice none 0 0)).setCell (p := ⟨w.heap.size + 1, 5, none⟩) (by simp) (.bool false))
  go_wp2_with fail
  refine bodyPost_ret (results_cell_row rfl _ _ (w.heap.size + 1) 59 #[.slice Ab 0 cb, .slice (some ⟨gF, 0, none⟩) 0 0, .slice (some ⟨gB, 0, none⟩) 0 0, .int .i64 0, .slice none 0 0, .bool false] (0, 0) _ rfl HI5.out Tryz.underlying59 rfl (by kernel_rfl)) rfl ?_
  exact ⟨⟨Ab, cb, gF, gB, rfl⟩, HB5.out⟩
set_option maxRecDepth 100000 in
set_option maxHeartbeats 8000000 in
theorem visland_one (q : AskV ga gN gC gU gH gF gK v uw w) : Calls Tryz.prog 54 #[.pointer (some ⟨ga, 0, none⟩), .int .i64 0] w fun e w' => e = .returned (.bool true) ∧ Below w.heap.size w w' := by
  have HA : Hid (∀ W', Below w.heap.size w W' → AskV ga gN gC gU gH gF gK v uw W') := Lib.hid (fun W' h => q.below h)
  have HR := Lib.hid (root_call (v := v) q.n)
  have HP := Lib.hid (fun W' (h : Below w.heap.size w W') => pisle_one (v := v) (gH := gH) (.slice (some ⟨gC, 0, none⟩) 1 1) (HA.out W' h).n (HA.out W' h).u)
  have a0 := q.a.get 0 rfl
  have a1 := q.a.get 1 rfl
  have a2 := q.a.get 2 rfl
  have la := q.a.lt
  clear q
  go_enter Tryz.func54, Tryz.ntmps54
  go_wp2_with fail
  refine HR.out.mono ?_
  rintro e w1 ⟨rfl, hb1⟩
  have HB1 := Lib.hid hb1
  clear a0 a1 a2 la hb1
  go_upto_region 3 with (fail)
  have E0 : Below w1.heap.size w1 w1.drew := (Below.refl _ _).drew
  refine wp_region_held_drew (S := fun W => Below w1.heap.size w1 W) (by kernel_rfl) E0 (fun hS => ?_)
  refine wpAnyH_take (i := 0) (v := ?_) rfl (by kernel_rfl) (by kernel_rfl) (by kernel_rfl) (fun _ _ _ h => h) (Or.inl ⟨by rfl, ?_⟩) hS ?_
  rotate_left
  · intro W' hS'
    have q := HA.out _ (HB1.out.trans (hS'.mono HB1.out.size))
    have a0 := q.a.get 0 rfl
    have a1 := q.a.get 1 rfl
    have a2 := q.a.get 2 rfl
    have a3 := q.a.get 3 rfl
    have a4 := q.a.get 4 rfl
    have a5 := q.a.get 5 rfl
    have la := q.a.lt
    clear q
    go_simp
    rfl
  try simp only [Act.put, List.setIfInBounds_toArray, List.set_cons_zero, List.set_cons_succ, List.getElem_toArray, List.getElem_cons_zero, List.getElem_cons_succ]
  refine wpAnyH_take (i := 1) (v := ?_) rfl (by kernel_rfl) (by kernel_rfl) (by kernel_rfl) (fun _ _ _ h => h) (Or.inl ⟨by rfl, ?_⟩) hS ?_
  rotate_left
  · intro W' hS'
    have q := HA.out _ (HB1.out.trans (hS'.mono HB1.out.size))
    have a0 := q.a.get 0 rfl
    have a1 := q.a.get 1 rfl
    have a2 := q.a.get 2 rfl
    have a3 := q.a.get 3 rfl
    have a4 := q.a.get 4 rfl
    have a5 := q.a.get 5 rfl
    have la := q.a.lt
    clear q
    go_simp
    rfl
  try simp only [Act.put, List.setIfInBounds_toArray, List.set_cons_zero, List.set_cons_succ, List.getElem_toArray, List.getElem_cons_zero, List.getElem_cons_succ]
  refine wpAnyH_take (i := 2) (v := ?_) rfl (by kernel_rfl) (by kernel_rfl) (by kernel_rfl) (fun _ _ _ h => h) (Or.inl ⟨by rfl, ?_⟩) hS ?_
  rotate_left
  · intro W' hS'
    have q := HA.out _ (HB1.out.trans (hS'.mono HB1.out.size))
    have a0 := q.a.get 0 rfl
    have a1 := q.a.get 1 rfl
    have a2 := q.a.get 2 rfl
    have a3 := q.a.get 3 rfl
    have a4 := q.a.get 4 rfl
    have a5 := q.a.get 5 rfl
    have la := q.a.lt
    clear q
    go_simp
    rfl
  try simp only [Act.put, List.setIfInBounds_toArray, List.set_cons_zero, List.set_cons_succ, List.getElem_toArray, List.getElem_cons_zero, List.getElem_cons_succ]
  refine wpAnyH_take (i := 3) (v := ?_) rfl (by kernel_rfl) (by kernel_rfl) (by kernel_rfl) (fun _ _ _ h => h) (Or.inl ⟨by rfl, ?_⟩) hS ?_
  rotate_left
  · intro W' hS'
    have q := HA.out _ (HB1.out.trans (hS'.mono HB1.out.size))
    have a0 := q.a.get 0 rfl
    have a1 := q.a.get 1 rfl
    have a2 := q.a.get 2 rfl
    have a3 := q.a.get 3 rfl
    have a4 := q.a.get 4 rfl
    have a5 := q.a.get 5 rfl
    have la := q.a.lt
    clear q
    go_simp
    rfl
  try simp only [Act.put, List.setIfInBounds_toArray, List.set_cons_zero, List.set_cons_succ, List.getElem_toArray, List.getElem_cons_zero, List.getElem_cons_succ]
  refine wpAnyH_take (i := 4) (v := ?_) rfl (by kernel_rfl) (by kernel_rfl) (by kernel_rfl) (fun _ _ _ h => h) (Or.inl ⟨by rfl, ?_⟩) hS ?_
  rotate_left
  · intro W' hS'
    have q := HA.out _ (HB1.out.trans (hS'.mono HB1.out.size))
    have a0 := q.a.get 0 rfl
    have a1 := q.a.get 1 rfl
    have a2 := q.a.get 2 rfl
    have a3 := q.a.get 3 rfl
    have a4 := q.a.get 4 rfl
    have a5 := q.a.get 5 rfl
    have la := q.a.lt
    clear q
    go_simp
    rfl
  try simp only [Act.put, List.setIfInBounds_toArray, List.set_cons_zero, List.set_cons_succ, List.getElem_toArray, List.getElem_cons_zero, List.getElem_cons_succ]
  refine wpAnyH_take (i := 5) (v := ?_) rfl (by kernel_rfl) (by kernel_rfl) (by kernel_rfl) (fun _ _ _ h => h) (Or.inl ⟨by rfl, ?_⟩) hS ?_
  rotate_left
  · intro W' hS'
    have q := HA.out _ (HB1.out.trans (hS'.mono HB1.out.size))
    have a0 := q.a.get 0 rfl
    have a1 := q.a.get 1 rfl
    have a2 := q.a.get 2 rfl
    have a3 := q.a.get 3 rfl
    have a4 := q.a.get 4 rfl
    have a5 := q.a.get 5 rfl
    have la := q.a.lt
    clear q
    go_simp
    rfl
  try simp only [Act.put, List.setIfInBounds_toArray, List.set_cons_zero, List.set_cons_succ, List.getElem_toArray, List.getElem_cons_zero, List.getElem_cons_succ]
  refine wpAnyH_take (i := 6) (v := ?_) rfl (by kernel_rfl) (by kernel_rfl) (by kernel_rfl) (fun _ _ _ h => h) (Or.inl ⟨by rfl, ?_⟩) hS ?_
  rotate_left
  · intro W' hS'
    have q := HA.out _ (HB1.out.trans (hS'.mono HB1.out.size))
    have a0 := q.a.get 0 rfl
    have a1 := q.a.get 1 rfl
    have a2 := q.a.get 2 rfl
    have a3 := q.a.get 3 rfl
    have a4 := q.a.get 4 rfl
    have a5 := q.a.get 5 rfl
    have la := q.a.lt
    clear q
    go_simp
    rfl
  try simp only [Act.put, List.setIfInBounds_toArray, List.set_cons_zero, List.set_cons_succ, List.getElem_toArray, List.getElem_cons_zero, List.getElem_cons_succ]
  refine wpAnyH_take (i := 7) (v := ?_) rfl (by kernel_rfl) (by kernel_rfl) (by kernel_rfl) (fun _ _ _ h => h) (Or.inl ⟨by rfl, ?_⟩) hS ?_
  rotate_left
  · intro W' hS'
    have q := HA.out _ (HB1.out.trans (hS'.mono HB1.out.size))
    have a0 := q.a.get 0 rfl
    have a1 := q.a.get 1 rfl
    have a2 := q.a.get 2 rfl
    have a3 := q.a.get 3 rfl
    have a4 := q.a.get 4 rfl
    have a5 := q.a.get 5 rfl
    have la := q.a.lt
    clear q
    go_simp
    rfl
  try simp only [Act.put, List.setIfInBounds_toArray, List.set_cons_zero, List.set_cons_succ, List.getElem_toArray, List.getElem_cons_zero, List.getElem_cons_succ]
  refine wpAnyH_take (i := 8) (v := ?_) rfl (by kernel_rfl) (by kernel_rfl) (by kernel_rfl) (fun _ _ _ h => h) (Or.inl ⟨by rfl, ?_⟩) hS ?_
  rotate_left
  · intro W' hS'
    have q := HA.out _ (HB1.out.trans (hS'.mono HB1.out.size))
    have a0 := q.a.get 0 rfl
    have a1 := q.a.get 1 rfl
    have a2 := q.a.get 2 rfl
    have a3 := q.a.get 3 rfl
    have a4 := q.a.get 4 rfl
    have a5 := q.a.get 5 rfl
    have la := q.a.lt
    clear q
    go_simp
    rfl
  try simp only [Act.put, List.setIfInBounds_toArray, List.set_cons_zero, List.set_cons_succ, List.getElem_toArray, List.getElem_cons_zero, List.getElem_cons_succ]
  refine wpAnyH_take (i := 9) (v := ?_) rfl (by kernel_rfl) (by kernel_rfl) (by kernel_rfl) (fun _ _ _ h => h) (Or.inl ⟨by rfl, ?_⟩) hS ?_
  rotate_left
  · intro W' hS'
    have q := HA.out _ (HB1.out.trans (hS'.mono HB1.out.size))
    have a0 := q.a.get 0 rfl
    have a1 := q.a.get 1 rfl
    have a2 := q.a.get 2 rfl
    have a3 := q.a.get 3 rfl
    have a4 := q.a.get 4 rfl
    have a5 := q.a.get 5 rfl
    have la := q.a.lt
    clear q
    go_simp
    rfl
  try simp only [Act.put, List.setIfInBounds_toArray, List.set_cons_zero, List.set_cons_succ, List.getElem_toArray, List.getElem_cons_zero, List.getElem_cons_succ]
  refine wpAnyH_take (i := 10) (v := ?_) rfl (by kernel_rfl) (by kernel_rfl) (by kernel_rfl) (fun _ _ _ h => h) (Or.inl ⟨by rfl, ?_⟩) hS ?_
  rotate_left
  · intro W' hS'
    have q := HA.out _ (HB1.out.trans (hS'.mono HB1.out.size))
    have a0 := q.a.get 0 rfl
    have a1 := q.a.get 1 rfl
    have a2 := q.a.get 2 rfl
    have a3 := q.a.get 3 rfl
    have a4 := q.a.get 4 rfl
    have a5 := q.a.get 5 rfl
    have la := q.a.lt
    clear q
    go_simp
    rfl
  try simp only [Act.put, List.setIfInBounds_toArray, List.set_cons_zero, List.set_cons_succ, List.getElem_toArray, List.getElem_cons_zero, List.getElem_cons_succ]
  refine wpAnyH_take (i := 11) (v := ?_) rfl (by kernel_rfl) (by kernel_rfl) (by kernel_rfl) (fun _ _ _ h => h) (Or.inl ⟨by rfl, ?_⟩) hS ?_
  rotate_left
  · intro W' hS'
    have q := HA.out _ (HB1.out.trans (hS'.mono HB1.out.size))
    have a0 := q.a.get 0 rfl
    have a1 := q.a.get 1 rfl
    have a2 := q.a.get 2 rfl
    have a3 := q.a.get 3 rfl
    have a4 := q.a.get 4 rfl
    have a5 := q.a.get 5 rfl
    have la := q.a.lt
    clear q
    go_simp
    rfl
  try simp only [Act.put, List.setIfInBounds_toArray, List.set_cons_zero, List.set_cons_succ, List.getElem_toArray, List.getElem_cons_zero, List.getElem_cons_succ]
  refine wpAnyH_take (i := 12) (v := ?_) rfl (by kernel_rfl) (by kernel_rfl) (by kernel_rfl) (fun _ _ _ h => h) (Or.inl ⟨by rfl, ?_⟩) hS ?_
  rotate_left
  · intro W' hS'
    have q := HA.out _ (HB1.out.trans (hS'.mono HB1.out.size))
    have a0 := q.a.get 0 rfl
    have a1 := q.a.get 1 rfl
    have a2 := q.a.get 2 rfl
    have a3 := q.a.get 3 rfl
    have a4 := q.a.get 4 rfl
    have a5 := q.a.get 5 rfl
    have la := q.a.lt
    clear q
    go_simp
    rfl
  try simp only [Act.put, List.setIfInBounds_toArray, List.set_cons_zero, List.set_cons_succ, List.getElem_toArray, List.getElem_cons_zero, List.getElem_cons_succ]
  refine wpAnyH_take (i := 13) (v := ?_) rfl (by kernel_rfl) (by kernel_rfl) (by kernel_rfl) (fun _ _ _ h => h) (Or.inl ⟨by rfl, ?_⟩) hS ?_
  rotate_left
  · intro W' hS'
    have q := HA.out _ (HB1.out.trans (hS'.mono HB1.out.size))
    have a0 := q.a.get 0 rfl
    have a1 := q.a.get 1 rfl
    have a2 := q.a.get 2 rfl
    have a3 := q.a.get 3 rfl
    have a4 := q.a.get 4 rfl
    have a5 := q.a.get 5 rfl
    have la := q.a.lt
    clear q
    go_simp
    rfl
  try simp only [Act.put, List.setIfInBounds_toArray, List.set_cons_zero, List.set_cons_succ, List.getElem_toArray, List.getElem_cons_zero, List.getElem_cons_succ]
  refine wpAnyH_take (i := 14) (v := ?_) rfl (by kernel_rfl) (by kernel_rfl) (by kernel_rfl) (fun _ _ _ h => h) (Or.inl ⟨by rfl, ?_⟩) hS ?_
  rotate_left
  · intro W' hS'
    have q := HA.out _ (HB1.out.trans (hS'.mono HB1.out.size))
    have a0 := q.a.get 0 rfl
    have a1 := q.a.get 1 rfl
    have a2 := q.a.get 2 rfl
    have a3 := q.a.get 3 rfl
    have a4 := q.a.get 4 rfl
    have a5 := q.a.get 5 rfl
    have la := q.a.lt
    clear q
    go_simp
    rfl
  try simp only [Act.put, List.setIfInBounds_toArray, List.set_cons_zero, List.set_cons_succ, List.getElem_toArray, List.getElem_cons_zero, List.getElem_cons_succ]
  refine wpAnyH_take (i := 15) (v := ?_) rfl (by kernel_rfl) (by kernel_rfl) (by kernel_rfl) (fun _ _ _ h => h) (Or.inl ⟨by rfl, ?_⟩) hS ?_
  rotate_left
  · intro W' hS'
    have q := HA.out _ (HB1.out.trans (hS'.mono HB1.out.size))
    have a0 := q.a.get 0 rfl
    have a1 := q.a.get 1 rfl
    have a2 := q.a.get 2 rfl
    have a3 := q.a.get 3 rfl
    have a4 := q.a.get 4 rfl
    have a5 := q.a.get 5 rfl
    have la := q.a.lt
    clear q
    go_simp
    rfl
  try simp only [Act.put, List.setIfInBounds_toArray, List.set_cons_zero, List.set_cons_succ, List.getElem_toArray, List.getElem_cons_zero, List.getElem_cons_succ]
  refine wpAnyH_take (i := 16) (v := ?_) rfl (by kernel_rfl) (by kernel_rfl) (by kernel_rfl) (fun _ _ _ h => h) (Or.inl ⟨by rfl, ?_⟩) hS ?_
  rotate_left
  · intro W' hS'
    have q := HA.out _ (HB1.out.trans (hS'.mono HB1.out.size))
    have a0 := q.a.get 0 rfl
    have a1 := q.a.get 1 rfl
    have a2 := q.a.get 2 rfl
    have a3 := q.a.get 3 rfl
    have a4 := q.a.get 4 rfl
    have a5 := q.a.get 5 rfl
    have la := q.a.lt
    clear q
    go_simp
    rfl
  try simp only [Act.put, List.setIfInBounds_toArray, List.set_cons_zero, List.set_cons_succ, List.getElem_toArray, List.getElem_cons_zero, List.getElem_cons_succ]
  refine wpAnyH_take (i := 17) (v := ?_) rfl (by kernel_rfl) (by kernel_rfl) (by kernel_rfl) (fun _ _ _ h => h) (Or.inl ⟨by rfl, ?_⟩) hS ?_
  rotate_left
  · intro W' hS'
    have q := HA.out _ (HB1.out.trans (hS'.mono HB1.out.size))
    have a0 := q.a.get 0 rfl
    have a1 := q.a.get 1 rfl
    have a2 := q.a.get 2 rfl
    have a3 := q.a.get 3 rfl
    have a4 := q.a.get 4 rfl
    have a5 := q.a.get 5 rfl
    have la := q.a.lt
    clear q
    go_simp
    rfl
  try simp only [Act.put, List.setIfInBounds_toArray, List.set_cons_zero, List.set_cons_succ, List.getElem_toArray, List.getElem_cons_zero, List.getElem_cons_succ]
  refine wpAnyH_take (i := 18) (v := ?_) rfl (by kernel_rfl) (by kernel_rfl) (by kernel_rfl) (fun _ _ _ h => h) (Or.inl ⟨by rfl, ?_⟩) hS ?_
  rotate_left
  · intro W' hS'
    have q := HA.out _ (HB1.out.trans (hS'.mono HB1.out.size))
    have a0 := q.a.get 0 rfl
    have a1 := q.a.get 1 rfl
    have a2 := q.a.get 2 rfl
    have a3 := q.a.get 3 rfl
    have a4 := q.a.get 4 rfl
    have a5 := q.a.get 5 rfl
    have la := q.a.lt
    clear q
    go_simp
    rfl
  try simp only [Act.put, List.setIfInBounds_toArray, List.set_cons_zero, List.set_cons_succ, List.getElem_toArray, List.getElem_cons_zero, List.getElem_cons_succ]
  refine wpAnyH_take (i := 19) (v := ?_) rfl (by kernel_rfl) (by kernel_rfl) (by kernel_rfl) (fun _ _ _ h => h) (Or.inl ⟨by rfl, ?_⟩) hS ?_
  rotate_left
  · intro W' hS'
    have q := HA.out _ (HB1.out.trans (hS'.mono HB1.out.size))
    have a0 := q.a.get 0 rfl
    have a1 := q.a.get 1 rfl
    have a2 := q.a.get 2 rfl
    have a3 := q.a.get 3 rfl
    have a4 := q.a.get 4 rfl
    have a5 := q.a.get 5 rfl
    have la := q.a.lt
    clear q
    go_simp
    rfl
  try simp only [Act.put, List.setIfInBounds_toArray, List.set_cons_zero, List.set_cons_succ, List.getElem_toArray, List.getElem_cons_zero, List.getElem_cons_succ]
  refine wpAnyH_ready (rs := [20, 21]) (by kernel_rfl) (by simp) (AllReadyH.cons rfl (fun K hK => ?_) (AllReadyH.cons rfl (fun K hK => ?_) AllReadyH.nil))
  · go_simp
    refine (HP.out _ (HB1.out.trans (hS.mono HB1.out.size))).mono ?_
    rintro e w4 ⟨⟨Ab, cb, gF', gB, rfl⟩, hbb⟩
    have hS4 : Below w1.heap.size w1 w4 := hS.trans (hbb.mono hS.size)
    clear hbb
    refine hK.out _ _ hS4 (fun hS => ?_)
    try simp only [Act.put, List.setIfInBounds_toArray, List.set_cons_zero, List.set_cons_succ, List.getElem_toArray, List.getElem_cons_zero, List.getElem_cons_succ]
    clear hK
    refine wpAnyH_ready (rs := [21]) (by kernel_rfl) (by simp) (AllReadyH.cons rfl (fun K hK => ?_) AllReadyH.nil)
    go_simp
    refine hK.out _ _ (hS4.alloc hS4.size _) (fun hS => ?_)
    try simp only [Act.put, List.setIfInBounds_toArray, List.set_cons_zero, List.set_cons_succ, List.getElem_toArray, List.getElem_cons_zero, List.getElem_cons_succ]
    clear hK
    obtain ⟨g5, hg5⟩ : ∃ g, g = w4.heap.size := ⟨_, rfl⟩
    obtain ⟨W5, hW5⟩ : ∃ W, W = w4.alloc (.cells #[.slice none 0 0, .slice none 0 0, .slice none 0 0, .int .i64 0, .slice none 0 0, .bool false] 59) := ⟨_, rfl⟩
    have b5 : Blk W5 g5 59 #[.slice none 0 0, .slice none 0 0, .slice none 0 0, .int .i64 0, .slice none 0 0, .bool false] := by rw [hW5, hg5]; exact Blk.new _ _ _
    rw [← hW5] at hS ⊢
    rw [← hg5]
    have hge : w1.heap.size ≤ g5 := by rw [hg5]; exact hS4.size
    clear hW5 hg5
    have z0 := b5.get 0 rfl
    have z1 := b5.get 1 rfl
    have z2 := b5.get 2 rfl
    have z3 := b5.get 3 rfl
    have z4 := b5.get 4 rfl
    have z5 := b5.get 5 rfl
    have zl := b5.lt
    have zf0 := b5.frozen 0
    have zf1 := b5.frozen 1
    have zf2 := b5.frozen 2
    have zf3 := b5.frozen 3
    have zf4 := b5.frozen 4
    have zf5 := b5.frozen 5
    have HISL := ((((((b5.set_ 0 (.slice Ab 0 cb)).set_ 1 (.slice (some ⟨gF', 0, none⟩) 0 0)).set_ 2 (.slice (some ⟨gB, 0, none⟩) 0 0)).set_ 3 (.int .i64 0)).set_ 4 (.slice none 0 0)).set_ 5 (.bool false))
    have HBEL := (((((((HB1.out.trans (hS.mono HB1.out.size)).setCell (p := ⟨g5, 0, none⟩) (Nat.le_trans HB1.out.size hge) (.slice Ab 0 cb)).setCell (p := ⟨g5, 1, none⟩) (Nat.le_trans HB1.out.size hge) (.slice (some ⟨gF', 0, none⟩) 0 0)).setCell (p := ⟨g5, 2, none⟩) (Nat.le_trans HB1.out.size hge) (.slice (some ⟨gB, 0, none⟩) 0 0)).setCell (p := ⟨g5, 3, none⟩) (Nat.le_trans HB1.out.size hge) (.int .i64 0)).setCell (p := ⟨g5, 4, none⟩) (Nat.le_trans HB1.out.size hge) (.slice none 0 0)).setCell (p := ⟨g5, 5, none⟩) (Nat.le_trans HB1.out.size hge) (.bool false))
    have HBES := ((((((hS.setCell (p := ⟨g5, 0, none⟩) hge (.slice Ab 0 cb)).setCell (p := ⟨g5, 1, none⟩) hge (.slice (some ⟨gF', 0, none⟩) 0 0)).setCell (p := ⟨g5, 2, none⟩) hge (.slice (some ⟨gB, 0, none⟩) 0 0)).setCell (p := ⟨g5, 3, none⟩) hge (.int .i64 0)).setCell (p := ⟨g5, 4, none⟩) hge (.slice none 0 0)).setCell (p := ⟨g5, 5, none⟩) hge (.bool false))
    refine wpAnyH_ready (rs := [22]) (by kernel_rfl) (by simp) (AllReadyH.cons rfl (fun K hK => ?_) AllReadyH.nil)
    go_simp
    refine hK.out _ _ HBES (fun hS => ?_)
    try simp only [Act.put, List.setIfInBounds_toArray, List.set_cons_zero, List.set_cons_succ, List.getElem_toArray, List.getElem_cons_zero, List.getElem_cons_succ]
    clear hK
    obtain ⟨W6, hW6⟩ : ∃ W, W = ((((((W5.setCell ⟨g5, 0, none⟩ (.slice Ab 0 cb)).setCell ⟨g5, 1, none⟩ (.slice (some ⟨gF', 0, none⟩) 0 0)).setCell ⟨g5, 2, none⟩ (.slice (some ⟨gB, 0, none⟩) 0 0)).setCell ⟨g5, 3, none⟩ (.int .i64 0)).setCell ⟨g5, 4, none⟩ (.slice none 0 0)).setCell ⟨g5, 5, none⟩ (.bool false)) := ⟨_, rfl⟩
    rw [← hW6] at HISL HBEL ⊢
    clear hS HBES hW6 b5 z0 z1 z2 z3 z4 z5 zl zf0 zf1 zf2 zf3 zf4 zf5
    refine wpAnyH_done (by kernel_rfl) ?_ _
    have HI6 : Hid (Blk W6 g5 59 #[.slice Ab 0 cb, .slice (some ⟨gF', 0, none⟩) 0 0, .slice (some ⟨gB, 0, none⟩) 0 0, .int .i64 0, .slice none 0 0, .bool false] ∧ Below w.heap.size w W6) := Lib.hid ⟨by simpa using HISL, HBEL⟩
    clear HISL HBEL
    have q := HA.out W6 HI6.out.2
    have a5 := q.a.get 5 rfl
    have la := q.a.lt
    have h0 := q.h.get 0 rfl
    have lh := q.h.lt
    have b5 := HI6.out.1
    have z0 := b5.get 0 rfl
    have z1 := b5.get 1 rfl
    have z2 := b5.get 2 rfl
    have z3 := b5.get 3 rfl
    have z4 := b5.get 4 rfl
    have z5 := b5.get 5 rfl
    have zl := b5.lt
    clear b5 q
    go_upto_region 4 with (fail)
    go_quiet (exact Calls.quiet_of (contains0Q _ _ _))
    have HI7 : Hid (Blk (W6.drewN nq) g5 59 #[.slice Ab 0 cb, .slice (some ⟨gF', 0, none⟩) 0 0, .slice (some ⟨gB, 0, none⟩) 0 0, .int .i64 0, .slice none 0 0, .bool false] ∧ Below w.heap.size w (W6.drewN nq)) := Lib.hid ⟨HI6.out.1.drewN _, below_drVN HI6.out.2 _⟩
    obtain ⟨W7, hW7⟩ : ∃ W, W = W6.drewN nq := ⟨_, rfl⟩
    rw [← hW7] at HI7 ⊢
    clear hW7 a5 la h0 lh z0 z1 z2 z3 z4 z5 zl
    have b5 := HI7.out.1
    have z0 := b5.get 0 rfl
    have z4 := b5.get 4 rfl
    have zl := b5.lt
    clear b5
    go_wp2_with fail
    refine wp_loop0 ?_
    have q := HA.out W7 HI7.out.2
    have a6 := q.a.get 6 rfl
    have la := q.a.lt
    have f4 : W7.cell? ⟨gF, 4, none⟩ = some (.slice none 0 0) := q.f.get 4 rfl
    have lf := q.f.lt
    clear q
    go_upto_region 13 with (fail)
    go_quiet (exact Calls.quiet_of (lines0Q _))
    go_wp2_with fail
    go_ret
    exact ⟨rfl, below_drVN HI7.out.2 _⟩
  · go_simp
    refine hK.out _ _ (hS.alloc hS.size _) (fun hS => ?_)
    try simp only [Act.put, List.setIfInBounds_toArray, List.set_cons_zero, List.set_cons_succ, List.getElem_toArray, List.getElem_cons_zero, List.getElem_cons_succ]
    clear hK
    obtain ⟨W5, hW5⟩ : ∃ W, W = (w1.alloc (.cells #[.slice none 0 0, .slice none 0 0, .slice none 0 0, .int .i64 0, .slice none 0 0, .bool false] 59)).drew := ⟨_, rfl⟩
    have b5' : Blk W5 w1.heap.size 59 #[.slice none 0 0, .slice none 0 0, .slice none 0 0, .int .i64 0, .slice none 0 0, .bool false] := by rw [hW5]; exact (Blk.new _ _ _).drew
    rw [← hW5] at hS ⊢
    have hge : w1.heap.size ≤ w1.heap.size := Nat.le_refl _
    clear hW5
    refine wpAnyH_ready (rs := [20]) (by kernel_rfl) (by simp) (AllReadyH.cons rfl (fun K hK => ?_) AllReadyH.nil)
    go_simp
    refine (HP.out _ (HB1.out.trans (hS.mono HB1.out.size))).mono ?_
    rintro e w4 ⟨⟨Ab, cb, gF', gB, rfl⟩, hbb⟩
    have hS4 : Below w1.heap.size w1 w4 := hS.trans (hbb.mono hS.size)
    have b5 := b5'.below hbb b5'.lt
    clear hbb b5'
    refine hK.out _ _ hS4 (fun hS => ?_)
    try simp only [Act.put, List.setIfInBounds_toArray, List.set_cons_zero, List.set_cons_succ, List.getElem_toArray, List.getElem_cons_zero, List.getElem_cons_succ]
    clear hK
    have z0 := b5.get 0 rfl
    have z1 := b5.get 1 rfl
    have z2 := b5.get 2 rfl
    have z3 := b5.get 3 rfl
    have z4 := b5.get 4 rfl
    have z5 := b5.get 5 rfl
    have zl := b5.lt
    have zf0 := b5.frozen 0
    have zf1 := b5.frozen 1
    have zf2 := b5.frozen 2
    have zf3 := b5.frozen 3
    have zf4 := b5.frozen 4
    have zf5 := b5.frozen 5
    have HISL := ((((((b5.set_ 0 (.slice Ab 0 cb)).set_ 1 (.slice (some ⟨gF', 0, none⟩) 0 0)).set_ 2 (.slice (some ⟨gB, 0, none⟩) 0 0)).set_ 3 (.int .i64 0)).set_ 4 (.slice none 0 0)).set_ 5 (.bool false))
    have HBEL := (((((((HB1.out.trans (hS.mono HB1.out.size)).setCell (p := ⟨w1.heap.size, 0, none⟩) (Nat.le_trans HB1.out.size hge) (.slice Ab 0 cb)).setCell (p := ⟨w1.heap.size, 1, none⟩) (Nat.le_trans HB1.out.size hge) (.slice (some ⟨gF', 0, none⟩) 0 0)).setCell (p := ⟨w1.heap.size, 2, none⟩) (Nat.le_trans HB1.out.size hge) (.slice (some ⟨gB, 0, none⟩) 0 0)).setCell (p := ⟨w1.heap.size, 3, none⟩) (Nat.le_trans HB1.out.size hge) (.int .i64 0)).setCell (p := ⟨w1.heap.size, 4, none⟩) (Nat.le_trans HB1.out.size hge) (.slice none 0 0)).setCell (p := ⟨w1.heap.size, 5, none⟩) (Nat.le_trans HB1.out.size hge) (.bool false))
    have HBES := ((((((hS.setCell (p := ⟨w1.heap.size, 0, none⟩) hge (.slice Ab 0 cb)).setCell (p := ⟨w1.heap.size, 1, none⟩) hge (.slice (some ⟨gF', 0, none⟩) 0 0)).setCell (p := ⟨w1.heap.size, 2, none⟩) hge (.slice (some ⟨gB, 0, none⟩) 0 0)).setCell (p := ⟨w1.heap.size, 3, none⟩) hge (.int .i64 0)).setCell (p := ⟨w1.heap.size, 4, none⟩) hge (.slice none 0 0)).setCell (p := ⟨w1.heap.size, 5, none⟩) hge (.bool false))
    refine wpAnyH_ready (rs := [22]) (by kernel_rfl) (by simp) (AllReadyH.cons rfl (fun K hK => ?_) AllReadyH.nil)
    go_simp
    refine hK.out _ _ HBES (fun hS => ?_)
    try simp only [Act.put, List.setIfInBounds_toArray, List.set_cons_zero, List.set_cons_succ, List.getElem_toArray, List.getElem_cons_zero, List.getElem_cons_succ]
    clear hK
    obtain ⟨W6, hW6⟩ : ∃ W, W = ((((((w4.setCell ⟨w1.heap.size, 0, none⟩ (.slice Ab 0 cb)).setCell ⟨w1.heap.size, 1, none⟩ (.slice (some ⟨gF', 0, none⟩) 0 0)).setCell ⟨w1.heap.size, 2, none⟩ (.slice (some ⟨gB, 0, none⟩) 0 0)).setCell ⟨w1.heap.size, 3, none⟩ (.int .i64 0)).setCell ⟨w1.heap.size, 4, none⟩ (.slice none 0 0)).setCell ⟨w1.heap.size, 5, none⟩ (.bool false)) := ⟨_, rfl⟩
    rw [← hW6] at HISL HBEL ⊢
    clear hS HBES hW6 b5 z0 z1 z2 z3 z4 z5 zl zf0 zf1 zf2 zf3 zf4 zf5
    refine wpAnyH_done (by kernel_rfl) ?_ _
    have HI6 : Hid (Blk W6 w1.heap.size 59 #[.slice Ab 0 cb, .slice (some ⟨gF', 0, none⟩) 0 0, .slice (some ⟨gB, 0, none⟩) 0 0, .int .i64 0, .slice none 0 0, .bool false] ∧ Below w.heap.size w W6) := Lib.hid ⟨by simpa using HISL, HBEL⟩
    clear HISL HBEL
    have q := HA.out W6 HI6.out.2
    have a5 := q.a.get 5 rfl
    have la := q.a.lt
    have h0 := q.h.get 0 rfl
    have lh := q.h.lt
    have b5 := HI6.out.1
    have z0 := b5.get 0 rfl
    have z1 := b5.get 1 rfl
    have z2 := b5.get 2 rfl
    have z3 := b5.get 3 rfl
    have z4 := b5.get 4 rfl
    have z5 := b5.get 5 rfl
    have zl := b5.lt
    clear b5 q
    go_upto_region 4 with (fail)
    go_quiet (exact Calls.quiet_of (contains0Q _ _ _))
    have HI7 : Hid (Blk (W6.drewN nq) w1.heap.size 59 #[.slice Ab 0 cb, .slice (some ⟨gF', 0, none⟩) 0 0, .slice (some ⟨gB, 0, none⟩) 0 0, .int .i64 0, .slice none 0 0, .bool false] ∧ Below w.heap.size w (W6.drewN nq)) := Lib.hid ⟨HI6.out.1.drewN _, below_drVN HI6.out.2 _⟩
    obtain ⟨W7, hW7⟩ : ∃ W, W = W6.drewN nq := ⟨_, rfl⟩
    rw [← hW7] at HI7 ⊢
    clear hW7 a5 la h0 lh z0 z1 z2 z3 z4 z5 zl
    have b5 := HI7.out.1
    have z0 := b5.get 0 rfl
    have z4 := b5.get 4 rfl
    have zl := b5.lt
    clear b5
    go_wp2_with fail
    refine wp_loop0 ?_
    have q := HA.out W7 HI7.out.2
    have a6 := q.a.get 6 rfl
    have la := q.a.lt
    have f4 : W7.cell? ⟨gF, 4, none⟩ = some (.slice none 0 0) := q.f.get 4 rfl
    have lf := q.f.lt
    clear q
    go_upto_region 13 with (fail)
    go_quiet (exact Calls.quiet_of (lines0Q _))
    go_wp2_with fail
    go_ret
    exact ⟨rfl, below_drVN HI7.out.2 _⟩
end
end Go.Proofs.YtjhfcpadnofdnaaGreat
