/- The program's valid, of a tree of one node: content, useds. -/
import Derived.Test.YtjhfcpadnofdnaaGreatVob
import Derived.Test.YtjhfcpadnofdnaaGreatAsb
import Derived.Test.YtjhfcpadnofdnaaGreatRgh
set_option linter.unusedSimpArgs false
set_option linter.unusedVariables false
namespace Go.Proofs.YtjhfcpadnofdnaaGreat
open Go.RowKit
attribute [local go_sem] block_of_add
theorem below_drV (w : World) : Below w.heap.size w w.drew := by
  have h := Below.refl w.heap.size w
  exact ⟨h.os, h.tape, h.output, h.size, h.block⟩
theorem eqCnV (a1 a2 a3 a4 b1 b2 b3 b4 : Int) (w : World) : (Op.equalIn 10000 38 (.agg #[.int .i64 a1, .int .i64 a2, .int .i64 a3, .int .i64 a4]) (.agg #[.int .i64 b1, .int .i64 b2, .int .i64 b3, .int .i64 b4])).run Tryz.prog w = .ok (a1 == b1 && a2 == b2 && a3 == b3 && a4 == b4) w := by
  have u2 := Tryz.underlying2
  have g2 := Tryz.isAgg2
  have z2 := Tryz.sizeOf2
  have hS : Tryz.prog.underlying 38 = some (.struct (Tryz.prog.fieldsOf 38)) := by kernel_rfl
  have hp : Tryz.prog.stoodInHeld 38 = false := by kernel_rfl
  rw [show (10000 : Nat) = 9999 + 1 from rfl, run_equalIn_agg w 9999 38 _ _ hS hp]
  simp only [Program.fieldsOf, Tryz.underlying38]
  go_simp
  by_cases h1 : a1 = b1 <;> by_cases h2 : a2 = b2 <;> by_cases h3 : a3 = b3 <;> by_cases h4 : a4 = b4 <;> simp [h1, h2, h3, h4]
theorem guardCnV (op : BinOp) (x y : Operand) (xs ys : Array Value) (w : World) : (eqGuard op 38 x y (.agg xs) (.agg ys)).run Tryz.prog w = .ok () w := run_eqGuard_agg w op _ x y xs ys (by kernel_rfl)
attribute [local go_sem] eqCnV guardCnV eqUdV guardUdV
/-- An asker of a tree of one node and its table. -/
structure AskV (ga gN gC gU gH gF gK : Nat) (v uw : Int) (W : World) : Prop where
  n : Blk W gN 69 (ndsCells l1V).toArray
  c : Blk W gC 38 #[.int .i64 0, .int .i64 0, .int .i64 0, .int .i64 0]
  u : Blk W gU 40 #[.int .i64 uw, .int .i64 0, .int .i64 0]
  h : Blk W gH 2 #[.int .i64 0]
  f : Blk W gF 43 frV
  k : Blk W gK 50 #[.slice none 0 0]
  a : Blk W ga 85 #[.slice (some ⟨gN, 0, none⟩) 1 1, .slice none 0 0, .int .i64 v, .slice (some ⟨gC, 0, none⟩) 1 1, .slice (some ⟨gU, 0, none⟩) 1 1, .slice (some ⟨gH, 0, none⟩) 1 1, .slice (some ⟨gF, 0, none⟩) 1 1, .slice (some ⟨gK, 0, none⟩) 1 1]
section
variable {ga gN gC gU gH gF gK : Nat} {v uw : Int} {w : World}
theorem AskV.below {W W' : World} (q : AskV ga gN gC gU gH gF gK v uw W) (hb : Below W.heap.size W W') : AskV ga gN gC gU gH gF gK v uw W' :=
  ⟨q.n.below hb q.n.lt, q.c.below hb q.c.lt, q.u.below hb q.u.lt, q.h.below hb q.h.lt, q.f.below hb q.f.lt, q.k.below hb q.k.lt, q.a.below hb q.a.lt⟩
theorem AskV.reads {W : World} (q : AskV ga gN gC gU gH gF gK v uw W) : Reads W W.heap.size 44 (some ⟨gN, 0, none⟩) l1V.length (ndsCells l1V) := Reads.of_blkC q.n rfl
theorem l1V_uv : ∀ x ∈ l1V, ∃ Au nu cu, x.s.uv = .slice Au nu cu := by
  intro x hx
  simp only [l1V, List.mem_cons, List.not_mem_nil, or_false] at hx
  subst hx
  exact ⟨_, _, _, rfl⟩
set_option maxHeartbeats 1000000 in
theorem vgot_one (q : AskV ga gN gC gU gH gF gK v uw w) : Calls Tryz.prog 98 #[.pointer (some ⟨ga, 0, none⟩), .int .i64 0] w fun e w' => e = .returned (.slice none 0 0) ∧ w = w' := by
  have a7 := q.a.get 7 rfl
  have la := q.a.lt
  have k0 := q.k.get 0 rfl
  have lk := q.k.lt
  clear q
  go_enter Tryz.func98, Tryz.ntmps98
  go_wp2_with fail
  refine wp_loop0 ?_
  go_wp2_with fail
  go_ret
  exact ⟨rfl, rfl⟩
set_option maxRecDepth 100000 in
set_option maxHeartbeats 4000000 in
theorem vcontent_one (q : AskV ga gN gC gU gH gF gK v uw w) : Calls Tryz.prog 52 #[.pointer (some ⟨ga, 0, none⟩), .int .i64 0] w fun e w' => e = .returned (.bool true) ∧ Below w.heap.size w w' := by
  have HA : Hid (∀ W', Below w.heap.size w W' → AskV ga gN gC gU gH gF gK v uw W') := Lib.hid (fun W' h => q.below h)
  have HGOT := Lib.hid (fun W' (h : Below w.heap.size w W') => vgot_one (HA.out W' h))
  have HNODE := Lib.hid (fun W' (h : Below w.heap.size w W') => cnode_one gN v none 0 W' (HA.out W' h).n Reads.none_)
  have HLA := Lib.hid q.a.lt
  clear q
  go_enter Tryz.func52, Tryz.ntmps52
  go_upto_region 1 with (fail)
  refine wp_region_S (fun b d u W' => Below w.heap.size w W' ∧ (d = true → ∃ gA, u = .pointer (some ⟨gA, 0, none⟩) ∧ w.heap.size ≤ gA ∧ Blk W' gA 38 #[.int .i64 0, .int .i64 0, .int .i64 0, .int .i64 0])) 20 19 5 false false (by kernel_rfl) (by kernel_rfl) (by kernel_rfl) (⟨below_drV w, fun h => absurd h (by decide)⟩) ?_
  refine wpAnyS_take (i := 0) (v := ?_) rfl (by kernel_rfl) (by kernel_rfl) (by kernel_rfl) (fun _ _ _ h => h) (by rfl) (gives_pureF (by rfl) (by kernel_rfl) ?_) ?_
  rotate_left
  · intro d' u' W' hS'
    have q := HA.out _ hS'.1
    have a0 := q.a.get 0 rfl
    have a1 := q.a.get 1 rfl
    have a2 := q.a.get 2 rfl
    have a4 := q.a.get 4 rfl
    have a7 := q.a.get 7 rfl
    have la := q.a.lt
    have k0 := q.k.get 0 rfl
    have lk := q.k.lt
    have u0 := q.u.get 0 rfl
    have u1 := q.u.get 1 rfl
    have u2 := q.u.get 2 rfl
    have lu := q.u.lt
    clear q
    go_simp
    rfl
  try simp only [Act.put, List.setIfInBounds_toArray, List.set_cons_zero, List.set_cons_succ, List.getElem_toArray, List.getElem_cons_zero, List.getElem_cons_succ]
  refine wpAnyS_take (i := 1) (v := ?_) rfl (by kernel_rfl) (by kernel_rfl) (by kernel_rfl) (fun _ _ _ h => h) (by rfl) (gives_pureF (by rfl) (by kernel_rfl) ?_) ?_
  rotate_left
  · intro d' u' W' hS'
    have q := HA.out _ hS'.1
    have a0 := q.a.get 0 rfl
    have a1 := q.a.get 1 rfl
    have a2 := q.a.get 2 rfl
    have a4 := q.a.get 4 rfl
    have a7 := q.a.get 7 rfl
    have la := q.a.lt
    have k0 := q.k.get 0 rfl
    have lk := q.k.lt
    have u0 := q.u.get 0 rfl
    have u1 := q.u.get 1 rfl
    have u2 := q.u.get 2 rfl
    have lu := q.u.lt
    clear q
    go_simp
    rfl
  try simp only [Act.put, List.setIfInBounds_toArray, List.set_cons_zero, List.set_cons_succ, List.getElem_toArray, List.getElem_cons_zero, List.getElem_cons_succ]
  refine wpAnyS_take (i := 2) (v := ?_) rfl (by kernel_rfl) (by kernel_rfl) (by kernel_rfl) (fun _ _ _ h => h) (by rfl) (gives_pureF (by rfl) (by kernel_rfl) ?_) ?_
  rotate_left
  · intro d' u' W' hS'
    have q := HA.out _ hS'.1
    have a0 := q.a.get 0 rfl
    have a1 := q.a.get 1 rfl
    have a2 := q.a.get 2 rfl
    have a4 := q.a.get 4 rfl
    have a7 := q.a.get 7 rfl
    have la := q.a.lt
    have k0 := q.k.get 0 rfl
    have lk := q.k.lt
    have u0 := q.u.get 0 rfl
    have u1 := q.u.get 1 rfl
    have u2 := q.u.get 2 rfl
    have lu := q.u.lt
    clear q
    go_simp
    rfl
  try simp only [Act.put, List.setIfInBounds_toArray, List.set_cons_zero, List.set_cons_succ, List.getElem_toArray, List.getElem_cons_zero, List.getElem_cons_succ]
  refine wpAnyS_take (i := 3) (v := ?_) rfl (by kernel_rfl) (by kernel_rfl) (by kernel_rfl) (fun _ _ _ h => h) (by rfl) (gives_pureF (by rfl) (by kernel_rfl) ?_) ?_
  rotate_left
  · intro d' u' W' hS'
    have q := HA.out _ hS'.1
    have a0 := q.a.get 0 rfl
    have a1 := q.a.get 1 rfl
    have a2 := q.a.get 2 rfl
    have a4 := q.a.get 4 rfl
    have a7 := q.a.get 7 rfl
    have la := q.a.lt
    have k0 := q.k.get 0 rfl
    have lk := q.k.lt
    have u0 := q.u.get 0 rfl
    have u1 := q.u.get 1 rfl
    have u2 := q.u.get 2 rfl
    have lu := q.u.lt
    clear q
    go_simp
    rfl
  try simp only [Act.put, List.setIfInBounds_toArray, List.set_cons_zero, List.set_cons_succ, List.getElem_toArray, List.getElem_cons_zero, List.getElem_cons_succ]
  refine wpAnyS_take (i := 4) (v := ?_) rfl (by kernel_rfl) (by kernel_rfl) (by kernel_rfl) (fun _ _ _ h => h) (by rfl) (gives_pureF (by rfl) (by kernel_rfl) ?_) ?_
  rotate_left
  · intro d' u' W' hS'
    have q := HA.out _ hS'.1
    have a0 := q.a.get 0 rfl
    have a1 := q.a.get 1 rfl
    have a2 := q.a.get 2 rfl
    have a4 := q.a.get 4 rfl
    have a7 := q.a.get 7 rfl
    have la := q.a.lt
    have k0 := q.k.get 0 rfl
    have lk := q.k.lt
    have u0 := q.u.get 0 rfl
    have u1 := q.u.get 1 rfl
    have u2 := q.u.get 2 rfl
    have lu := q.u.lt
    clear q
    go_simp
    rfl
  try simp only [Act.put, List.setIfInBounds_toArray, List.set_cons_zero, List.set_cons_succ, List.getElem_toArray, List.getElem_cons_zero, List.getElem_cons_succ]
  refine wpAnyS_take (i := 5) (v := ?_) rfl (by kernel_rfl) (by kernel_rfl) (by kernel_rfl) (fun _ _ _ h => h) (by rfl) (gives_pureF (by rfl) (by kernel_rfl) ?_) ?_
  rotate_left
  · intro d' u' W' hS'
    have q := HA.out _ hS'.1
    have a0 := q.a.get 0 rfl
    have a1 := q.a.get 1 rfl
    have a2 := q.a.get 2 rfl
    have a4 := q.a.get 4 rfl
    have a7 := q.a.get 7 rfl
    have la := q.a.lt
    have k0 := q.k.get 0 rfl
    have lk := q.k.lt
    have u0 := q.u.get 0 rfl
    have u1 := q.u.get 1 rfl
    have u2 := q.u.get 2 rfl
    have lu := q.u.lt
    clear q
    go_simp
    rfl
  try simp only [Act.put, List.setIfInBounds_toArray, List.set_cons_zero, List.set_cons_succ, List.getElem_toArray, List.getElem_cons_zero, List.getElem_cons_succ]
  refine wpAnyS_take (i := 6) (v := ?_) rfl (by kernel_rfl) (by kernel_rfl) (by kernel_rfl) (fun _ _ _ h => h) (by rfl) (gives_pureF (by rfl) (by kernel_rfl) ?_) ?_
  rotate_left
  · intro d' u' W' hS'
    have q := HA.out _ hS'.1
    have a0 := q.a.get 0 rfl
    have a1 := q.a.get 1 rfl
    have a2 := q.a.get 2 rfl
    have a4 := q.a.get 4 rfl
    have a7 := q.a.get 7 rfl
    have la := q.a.lt
    have k0 := q.k.get 0 rfl
    have lk := q.k.lt
    have u0 := q.u.get 0 rfl
    have u1 := q.u.get 1 rfl
    have u2 := q.u.get 2 rfl
    have lu := q.u.lt
    clear q
    go_simp
    rfl
  try simp only [Act.put, List.setIfInBounds_toArray, List.set_cons_zero, List.set_cons_succ, List.getElem_toArray, List.getElem_cons_zero, List.getElem_cons_succ]
  refine wpAnyS_take (i := 7) (v := ?_) rfl (by kernel_rfl) (by kernel_rfl) (by kernel_rfl) (fun _ _ _ h => h) (by rfl) (gives_pureF (by rfl) (by kernel_rfl) ?_) ?_
  rotate_left
  · intro d' u' W' hS'
    have q := HA.out _ hS'.1
    have a0 := q.a.get 0 rfl
    have a1 := q.a.get 1 rfl
    have a2 := q.a.get 2 rfl
    have a4 := q.a.get 4 rfl
    have a7 := q.a.get 7 rfl
    have la := q.a.lt
    have k0 := q.k.get 0 rfl
    have lk := q.k.lt
    have u0 := q.u.get 0 rfl
    have u1 := q.u.get 1 rfl
    have u2 := q.u.get 2 rfl
    have lu := q.u.lt
    clear q
    go_simp
    rfl
  try simp only [Act.put, List.setIfInBounds_toArray, List.set_cons_zero, List.set_cons_succ, List.getElem_toArray, List.getElem_cons_zero, List.getElem_cons_succ]
  refine wpAnyS_take (i := 8) (v := ?_) rfl (by kernel_rfl) (by kernel_rfl) (by kernel_rfl) (fun _ _ _ h => h) (by rfl) (gives_pureF (by rfl) (by kernel_rfl) ?_) ?_
  rotate_left
  · intro d' u' W' hS'
    have q := HA.out _ hS'.1
    have a0 := q.a.get 0 rfl
    have a1 := q.a.get 1 rfl
    have a2 := q.a.get 2 rfl
    have a4 := q.a.get 4 rfl
    have a7 := q.a.get 7 rfl
    have la := q.a.lt
    have k0 := q.k.get 0 rfl
    have lk := q.k.lt
    have u0 := q.u.get 0 rfl
    have u1 := q.u.get 1 rfl
    have u2 := q.u.get 2 rfl
    have lu := q.u.lt
    clear q
    go_simp
    rfl
  try simp only [Act.put, List.setIfInBounds_toArray, List.set_cons_zero, List.set_cons_succ, List.getElem_toArray, List.getElem_cons_zero, List.getElem_cons_succ]
  refine wpAnyS_take (i := 9) (v := ?_) rfl (by kernel_rfl) (by kernel_rfl) (by kernel_rfl) (fun _ _ _ h => h) (by rfl) (gives_pureF (by rfl) (by kernel_rfl) ?_) ?_
  rotate_left
  · intro d' u' W' hS'
    have q := HA.out _ hS'.1
    have a0 := q.a.get 0 rfl
    have a1 := q.a.get 1 rfl
    have a2 := q.a.get 2 rfl
    have a4 := q.a.get 4 rfl
    have a7 := q.a.get 7 rfl
    have la := q.a.lt
    have k0 := q.k.get 0 rfl
    have lk := q.k.lt
    have u0 := q.u.get 0 rfl
    have u1 := q.u.get 1 rfl
    have u2 := q.u.get 2 rfl
    have lu := q.u.lt
    clear q
    go_simp
    rfl
  try simp only [Act.put, List.setIfInBounds_toArray, List.set_cons_zero, List.set_cons_succ, List.getElem_toArray, List.getElem_cons_zero, List.getElem_cons_succ]
  refine wpAnyS_take (i := 10) (v := ?_) rfl (by kernel_rfl) (by kernel_rfl) (by kernel_rfl) (fun _ _ _ h => h) (by rfl) (gives_pureF (by rfl) (by kernel_rfl) ?_) ?_
  rotate_left
  · intro d' u' W' hS'
    have q := HA.out _ hS'.1
    have a0 := q.a.get 0 rfl
    have a1 := q.a.get 1 rfl
    have a2 := q.a.get 2 rfl
    have a4 := q.a.get 4 rfl
    have a7 := q.a.get 7 rfl
    have la := q.a.lt
    have k0 := q.k.get 0 rfl
    have lk := q.k.lt
    have u0 := q.u.get 0 rfl
    have u1 := q.u.get 1 rfl
    have u2 := q.u.get 2 rfl
    have lu := q.u.lt
    clear q
    go_simp
    rfl
  try simp only [Act.put, List.setIfInBounds_toArray, List.set_cons_zero, List.set_cons_succ, List.getElem_toArray, List.getElem_cons_zero, List.getElem_cons_succ]
  refine wpAnyS_take (i := 11) (v := ?_) rfl (by kernel_rfl) (by kernel_rfl) (by kernel_rfl) (fun _ _ _ h => h) (by rfl) (gives_pureF (by rfl) (by kernel_rfl) ?_) ?_
  rotate_left
  · intro d' u' W' hS'
    have q := HA.out _ hS'.1
    have a0 := q.a.get 0 rfl
    have a1 := q.a.get 1 rfl
    have a2 := q.a.get 2 rfl
    have a4 := q.a.get 4 rfl
    have a7 := q.a.get 7 rfl
    have la := q.a.lt
    have k0 := q.k.get 0 rfl
    have lk := q.k.lt
    have u0 := q.u.get 0 rfl
    have u1 := q.u.get 1 rfl
    have u2 := q.u.get 2 rfl
    have lu := q.u.lt
    clear q
    go_simp
    rfl
  try simp only [Act.put, List.setIfInBounds_toArray, List.set_cons_zero, List.set_cons_succ, List.getElem_toArray, List.getElem_cons_zero, List.getElem_cons_succ]
  refine wpAnyS_take (i := 12) (v := ?_) rfl (by kernel_rfl) (by kernel_rfl) (by kernel_rfl) (fun _ _ _ h => h) (by rfl) (gives_pureF (by rfl) (by kernel_rfl) ?_) ?_
  rotate_left
  · intro d' u' W' hS'
    have q := HA.out _ hS'.1
    have a0 := q.a.get 0 rfl
    have a1 := q.a.get 1 rfl
    have a2 := q.a.get 2 rfl
    have a4 := q.a.get 4 rfl
    have a7 := q.a.get 7 rfl
    have la := q.a.lt
    have k0 := q.k.get 0 rfl
    have lk := q.k.lt
    have u0 := q.u.get 0 rfl
    have u1 := q.u.get 1 rfl
    have u2 := q.u.get 2 rfl
    have lu := q.u.lt
    clear q
    go_simp
    rfl
  try simp only [Act.put, List.setIfInBounds_toArray, List.set_cons_zero, List.set_cons_succ, List.getElem_toArray, List.getElem_cons_zero, List.getElem_cons_succ]
  refine wpAnyS_take (i := 13) (v := ?_) rfl (by kernel_rfl) (by kernel_rfl) (by kernel_rfl) (fun _ _ _ h => h) (by rfl) (gives_pureF (by rfl) (by kernel_rfl) ?_) ?_
  rotate_left
  · intro d' u' W' hS'
    have q := HA.out _ hS'.1
    have a0 := q.a.get 0 rfl
    have a1 := q.a.get 1 rfl
    have a2 := q.a.get 2 rfl
    have a4 := q.a.get 4 rfl
    have a7 := q.a.get 7 rfl
    have la := q.a.lt
    have k0 := q.k.get 0 rfl
    have lk := q.k.lt
    have u0 := q.u.get 0 rfl
    have u1 := q.u.get 1 rfl
    have u2 := q.u.get 2 rfl
    have lu := q.u.lt
    clear q
    go_simp
    rfl
  try simp only [Act.put, List.setIfInBounds_toArray, List.set_cons_zero, List.set_cons_succ, List.getElem_toArray, List.getElem_cons_zero, List.getElem_cons_succ]
  refine wpAnyS_take (i := 14) (v := _) rfl (by kernel_rfl) (by kernel_rfl) (by kernel_rfl) (fun _ _ _ h => h) (by rfl) (gives_callF (by rfl) (by kernel_rfl) _ _ ?_ (fun d' u' W' hS' => ((HGOT.out W' hS'.1).mono fun e w2 h => ⟨h.1, h.2 ▸ hS'⟩))) ?_
  · intro W'
    first | rfl | kernel_rfl
  try simp only [Act.put, List.setIfInBounds_toArray, List.set_cons_zero, List.set_cons_succ, List.getElem_toArray, List.getElem_cons_zero, List.getElem_cons_succ]
  refine wpAnyS_take (i := 15) (v := _) rfl (by kernel_rfl) (by kernel_rfl) (by kernel_rfl) (fun _ _ _ h => h) (by rfl) (gives_callF (by rfl) (by kernel_rfl) _ _ ?_ (fun d' u' W' hS' => ((HNODE.out W' hS'.1).mono fun e w2 h => ⟨h.1, hS'.1.trans (h.2.mono hS'.1.size), fun hd => by obtain ⟨gA, e1, e2, e3⟩ := hS'.2 hd; exact ⟨gA, e1, e2, e3.below h.2 e3.lt⟩⟩))) ?_
  · intro W'
    first | rfl | kernel_rfl
  try simp only [Act.put, List.setIfInBounds_toArray, List.set_cons_zero, List.set_cons_succ, List.getElem_toArray, List.getElem_cons_zero, List.getElem_cons_succ]
  refine wpAnyS_take (i := 16) (v := ?_) rfl (by kernel_rfl) (by kernel_rfl) (by kernel_rfl) (fun _ _ _ h => h) (by rfl) (gives_pureF (by rfl) (by kernel_rfl) ?_) ?_
  rotate_left
  · intro d' u' W' hS'
    have q := HA.out _ hS'.1
    have a0 := q.a.get 0 rfl
    have a1 := q.a.get 1 rfl
    have a2 := q.a.get 2 rfl
    have a4 := q.a.get 4 rfl
    have a7 := q.a.get 7 rfl
    have la := q.a.lt
    have k0 := q.k.get 0 rfl
    have lk := q.k.lt
    have u0 := q.u.get 0 rfl
    have u1 := q.u.get 1 rfl
    have u2 := q.u.get 2 rfl
    have lu := q.u.lt
    clear q
    go_simp
    rfl
  try simp only [Act.put, List.setIfInBounds_toArray, List.set_cons_zero, List.set_cons_succ, List.getElem_toArray, List.getElem_cons_zero, List.getElem_cons_succ]
  refine wpAnyS_take (i := 17) (v := ?_) rfl (by kernel_rfl) (by kernel_rfl) (by kernel_rfl) (fun _ _ _ h => h) (by rfl) (gives_pureF (by rfl) (by kernel_rfl) ?_) ?_
  rotate_left
  · intro d' u' W' hS'
    have q := HA.out _ hS'.1
    have a0 := q.a.get 0 rfl
    have a1 := q.a.get 1 rfl
    have a2 := q.a.get 2 rfl
    have a4 := q.a.get 4 rfl
    have a7 := q.a.get 7 rfl
    have la := q.a.lt
    have k0 := q.k.get 0 rfl
    have lk := q.k.lt
    have u0 := q.u.get 0 rfl
    have u1 := q.u.get 1 rfl
    have u2 := q.u.get 2 rfl
    have lu := q.u.lt
    clear q
    go_simp
    rfl
  try simp only [Act.put, List.setIfInBounds_toArray, List.set_cons_zero, List.set_cons_succ, List.getElem_toArray, List.getElem_cons_zero, List.getElem_cons_succ]
  refine wpAnyS_take (i := 18) (v := ?_) rfl (by kernel_rfl) (by kernel_rfl) (by kernel_rfl) (fun _ _ _ h => h) (by rfl) (gives_pure (by rfl) ?_) ?_
  rotate_left
  · intro b' d' u' W' hS'
    have q := HA.out _ hS'.1
    have a0 := q.a.get 0 rfl
    have a1 := q.a.get 1 rfl
    have a2 := q.a.get 2 rfl
    have a4 := q.a.get 4 rfl
    have a7 := q.a.get 7 rfl
    have la := q.a.lt
    have k0 := q.k.get 0 rfl
    have lk := q.k.lt
    have u0 := q.u.get 0 rfl
    have u1 := q.u.get 1 rfl
    have u2 := q.u.get 2 rfl
    have lu := q.u.lt
    clear q
    go_simp
    rfl
  try simp only [Act.put, List.setIfInBounds_toArray, List.set_cons_zero, List.set_cons_succ, List.getElem_toArray, List.getElem_cons_zero, List.getElem_cons_succ]
  refine wpAnyS_alloc (i := 19) (b := false) (.cells #[.int .i64 0, .int .i64 0, .int .i64 0, .int .i64 0] 38) rfl (by kernel_rfl) (by rfl) (by rfl) (by kernel_rfl) ?_ (fun u' W' hS' => ⟨hS'.1.alloc hS'.1.size _, fun _ => ⟨_, rfl, hS'.1.size, Blk.new _ _ _⟩⟩) (fun gA => ?_)
  · intro W'
    first | rfl | kernel_rfl
  try simp only [Act.put, List.setIfInBounds_toArray, List.set_cons_zero, List.set_cons_succ, List.getElem_toArray, List.getElem_cons_zero, List.getElem_cons_succ]
  refine wpAnyS_store (i := 20) (d := true) (fun W' => (((W'.setCell ⟨gA, 0, none⟩ (.int .i64 0)).setCell ⟨gA, 1, none⟩ (.int .i64 0)).setCell ⟨gA, 2, none⟩ (.int .i64 0)).setCell ⟨gA, 3, none⟩ (.int .i64 0)) rfl (by kernel_rfl) (by rfl) (by rfl) (by kernel_rfl) rfl ?_ (fun W' hS' => (by obtain ⟨gA', e1, e2, e3⟩ := hS'.2 rfl; have e4 : gA = gA' := (by injection e1 with e1; injection e1 with e1; injection e1); subst e4; exact ⟨(((hS'.1.setCell (p := ⟨gA, 0, none⟩) e2 _).setCell (p := ⟨gA, 1, none⟩) e2 _).setCell (p := ⟨gA, 2, none⟩) e2 _).setCell (p := ⟨gA, 3, none⟩) e2 _, fun _ => ⟨gA, rfl, e2, (((e3.set_ 0 _).set_ 1 _).set_ 2 _).set_ 3 _⟩⟩)) ?_
  · intro W' hS'
    obtain ⟨gA', e1, e2, e3⟩ := hS'.2 rfl
    have e4 : gA = gA' := by injection e1 with e1; injection e1 with e1; injection e1
    subst e4
    have z0 := e3.get 0 rfl
    have z1 := e3.get 1 rfl
    have z2 := e3.get 2 rfl
    have z3 := e3.get 3 rfl
    have lz := e3.lt
    have f0 := e3.frozen 0
    have f1 := e3.frozen 1
    have f2 := e3.frozen 2
    have f3 := e3.frozen 3
    go_simp
    try rfl
  try simp only [Act.put, List.setIfInBounds_toArray, List.set_cons_zero, List.set_cons_succ, List.getElem_toArray, List.getElem_cons_zero, List.getElem_cons_succ]
  refine wpAnyS_take (i := 21) (v := ?_) rfl (by kernel_rfl) (by kernel_rfl) (by kernel_rfl) (fun _ _ _ h => h) (by rfl) (gives_pure (by rfl) ?_) ?_
  rotate_left
  · intro b' d' u' W' hS'
    have q := HA.out _ hS'.1
    have a0 := q.a.get 0 rfl
    have a1 := q.a.get 1 rfl
    have a2 := q.a.get 2 rfl
    have a4 := q.a.get 4 rfl
    have a7 := q.a.get 7 rfl
    have la := q.a.lt
    have k0 := q.k.get 0 rfl
    have lk := q.k.lt
    have u0 := q.u.get 0 rfl
    have u1 := q.u.get 1 rfl
    have u2 := q.u.get 2 rfl
    have lu := q.u.lt
    clear q
    go_simp
    rfl
  try simp only [Act.put, List.setIfInBounds_toArray, List.set_cons_zero, List.set_cons_succ, List.getElem_toArray, List.getElem_cons_zero, List.getElem_cons_succ]
  refine wpAnyS_done (b := true) (d := true) (by kernel_rfl) (by kernel_rfl) (by kernel_rfl) rfl (fun w3 hS => ?_) _
  obtain ⟨gA', e1, e2, e3⟩ := hS.2 rfl
  have e4 : gA = gA' := by injection e1 with e1; injection e1 with e1; injection e1
  subst e4
  have HB3 := Lib.hid hS.1
  have z0 := e3.get 0 rfl
  have z1 := e3.get 1 rfl
  have z2 := e3.get 2 rfl
  have z3 := e3.get 3 rfl
  have lz := e3.lt
  have q := HA.out _ hS.1
  have a3 := q.a.get 3 rfl
  have la := q.a.lt
  have c0 := q.c.get 0 rfl
  have c1 := q.c.get 1 rfl
  have c2 := q.c.get 2 rfl
  have c3 := q.c.get 3 rfl
  have lc := q.c.lt
  clear q hS e3 e2
  go_upto_region 2 with (fail)
  go_quiet (fail)
  go_wp2_with fail
  go_ret
  exact ⟨rfl, below_drVN HB3.out _⟩
/-- What the asker is asked of: the room for the node 0. -/
theorem usedVV (hv : usedN (flowN (styK 1 0) v) = (v, 0, 0)) (ho : overN (flowN (styK 1 0) v) = false) : usedV (flowN (styK 1 0) v) = .tuple #[.agg #[.int .i64 v, .int .i64 0, .int .i64 0], .bool false] := by
  unfold usedN at hv
  injection hv with a1 a2
  injection a2 with a2 a3
  unfold usedV
  rw [a1, a2, a3, ho]
theorem vfirst_call (hv : usedV (flowN (styK 1 0) v) = .tuple #[.agg #[.int .i64 v, .int .i64 0, .int .i64 0], .bool false]) (hc : CB v) {W : World} (hn : Blk W gN 69 (ndsCells l1V).toArray) :
    Calls Tryz.prog 99 #[.agg #[.slice (some ⟨gN, 0, none⟩) 1 1, .slice none 0 0, .int .i64 v]] W fun e w' => e = .returned (.tuple #[.agg #[.int .i64 v, .int .i64 0, .int .i64 0], .bool false]) ∧ Below W.heap.size W w' := by
  have h := afirst_any l1V (by decide) (by decide) (some ⟨gN, 0, none⟩) none 1 0 0 v W (Reads.of_blkC hn rfl) (styK_w 1 0) hc
  rw [show l1V[0].s = styK 1 0 from rfl, hv] at h
  exact h
theorem vkids_call (hc : CB uw) {W : World} (hn : Blk W gN 69 (ndsCells l1V).toArray) (Ag : Option Addr) (cg : Nat) (hg : Reads W W.heap.size 4 Ag 0 (cnsCells [])) :
    Calls Tryz.prog 100 #[.agg #[.slice (some ⟨gN, 0, none⟩) 1 1, .slice none 0 0, .int .i64 v], .int .i64 0, .agg #[.int .i64 uw, .int .i64 0, .int .i64 0], .slice none 0 0, .slice Ag 0 cg] W fun e w' => (∃ gu gb, e = .returned (.tuple #[.slice (some ⟨gu, 0, none⟩) 0 0, .slice (some ⟨gb, 0, none⟩) 0 0])) ∧ Below W.heap.size W w' := by
  have h := akids_any l1V 0 (by decide) (by decide) (some ⟨gN, 0, none⟩) none none Ag 1 0 0 0 cg v uw 0 0 [] [] W (Reads.of_blkC hn rfl) l1V_uv 1 (by decide) rfl Reads.none_ (by simp) (by simp) hg hc (by simp) (by simp)
  exact h.mono fun e w' ⟨⟨gu, gb, he, _⟩, hb⟩ => ⟨⟨gu, gb, he⟩, hb⟩
set_option maxRecDepth 100000 in
set_option maxHeartbeats 4000000 in
theorem vuseds_one (hv : usedV (flowN (styK 1 0) v) = .tuple #[.agg #[.int .i64 v, .int .i64 0, .int .i64 0], .bool false]) (hc : CB v) (hcu : CB uw) (q : AskV ga gN gC gU gH gF gK v uw w) : Calls Tryz.prog 53 #[.pointer (some ⟨ga, 0, none⟩), .int .i64 0] w fun e w' => e = .returned (.bool (v == uw)) ∧ Below w.heap.size w w' := by
  have HA : Hid (∀ W', Below w.heap.size w W' → AskV ga gN gC gU gH gF gK v uw W') := Lib.hid (fun W' h => q.below h)
  have HGOT := Lib.hid (fun W' (h : Below w.heap.size w W') => vgot_one (HA.out W' h))
  have HFIR := Lib.hid (vfirst_call hv hc q.n)
  have HKIDS := Lib.hid (fun W' (h : Below w.heap.size w W') => vkids_call (v := v) hcu (HA.out W' h).n none 0 Reads.none_)
  have a0 := q.a.get 0 rfl
  have a1 := q.a.get 1 rfl
  have a2 := q.a.get 2 rfl
  have la := q.a.lt
  clear q hv hc hcu
  go_enter Tryz.func53, Tryz.ntmps53
  go_wp2_with fail
  refine HFIR.out.mono ?_
  rintro e w1 ⟨rfl, hb1⟩
  have HB1 := Lib.hid hb1
  clear hb1 a0 a1 a2 la
  go_upto_region 3 with (fail)
  obtain ⟨w2, hw2⟩ : ∃ W, W = w1.alloc (.cells #[.int .i64 v, .int .i64 0, .int .i64 0] 40) := ⟨_, rfl⟩
  have HB2 : Hid (Below w.heap.size w w2) := Lib.hid (by rw [hw2]; exact HB1.out.alloc HB1.out.size _)
  have b5 : Blk w2 w1.heap.size 40 #[.int .i64 v, .int .i64 0, .int .i64 0] := by rw [hw2]; exact Blk.new _ _ _
  have z0 := b5.get 0 rfl
  have z1 := b5.get 1 rfl
  have z2 := b5.get 2 rfl
  have zl := b5.lt
  rw [← hw2]
  have q := HA.out w2 HB2.out
  have a4 := q.a.get 4 rfl
  have la := q.a.lt
  have u0 := q.u.get 0 rfl
  have u1 := q.u.get 1 rfl
  have u2 := q.u.get 2 rfl
  have lu := q.u.lt
  clear q hw2 b5
  by_cases hvu : v = uw
  rotate_left
  · have e1 : (v == uw) = false := beq_eq_false_iff_ne.2 hvu
    go_quiet (fail)
    go_wp2_with fail
    go_ret
    exact ⟨by rw [e1] <;> rfl, below_drVN HB2.out _⟩
  have e1 : (v == uw) = true := beq_iff_eq.2 hvu
  clear hvu
  go_quiet (fail)
  have HB3 := Lib.hid (below_drVN HB2.out nq)
  obtain ⟨w3, hw3⟩ : ∃ W, W = w2.drewN nq := ⟨_, rfl⟩
  rw [← hw3] at HB3 ⊢
  clear hw3 a4 la u0 u1 u2 lu z0 z1 z2 zl
  have q := HA.out w3 HB3.out
  have a7 := q.a.get 7 rfl
  have la := q.a.lt
  have k0 := q.k.get 0 rfl
  have lk := q.k.lt
  clear q
  go_upto_region 6 with (fail)
  have E0 : Below w3.heap.size w3 w3.drew := (Below.refl _ _).drew
  refine wp_region_held_drew (S := fun W => Below w3.heap.size w3 W) (by kernel_rfl) E0 (fun hS => ?_)
  refine wpAnyH_take (i := 0) (v := ?_) rfl (by kernel_rfl) (by kernel_rfl) (by kernel_rfl) (fun _ _ _ h => h) (Or.inl ⟨by rfl, ?_⟩) hS ?_
  rotate_left
  · intro W' hS'
    have q := HA.out _ (HB3.out.trans (hS'.mono HB3.out.size))
    have a0 := q.a.get 0 rfl
    have a1 := q.a.get 1 rfl
    have a2 := q.a.get 2 rfl
    have a4 := q.a.get 4 rfl
    have la := q.a.lt
    have u0 := q.u.get 0 rfl
    have u1 := q.u.get 1 rfl
    have u2 := q.u.get 2 rfl
    have lu := q.u.lt
    clear q
    go_simp
    rfl
  try simp only [Act.put, List.setIfInBounds_toArray, List.set_cons_zero, List.set_cons_succ, List.getElem_toArray, List.getElem_cons_zero, List.getElem_cons_succ]
  refine wpAnyH_take (i := 1) (v := ?_) rfl (by kernel_rfl) (by kernel_rfl) (by kernel_rfl) (fun _ _ _ h => h) (Or.inl ⟨by rfl, ?_⟩) hS ?_
  rotate_left
  · intro W' hS'
    have q := HA.out _ (HB3.out.trans (hS'.mono HB3.out.size))
    have a0 := q.a.get 0 rfl
    have a1 := q.a.get 1 rfl
    have a2 := q.a.get 2 rfl
    have a4 := q.a.get 4 rfl
    have la := q.a.lt
    have u0 := q.u.get 0 rfl
    have u1 := q.u.get 1 rfl
    have u2 := q.u.get 2 rfl
    have lu := q.u.lt
    clear q
    go_simp
    rfl
  try simp only [Act.put, List.setIfInBounds_toArray, List.set_cons_zero, List.set_cons_succ, List.getElem_toArray, List.getElem_cons_zero, List.getElem_cons_succ]
  refine wpAnyH_take (i := 2) (v := ?_) rfl (by kernel_rfl) (by kernel_rfl) (by kernel_rfl) (fun _ _ _ h => h) (Or.inl ⟨by rfl, ?_⟩) hS ?_
  rotate_left
  · intro W' hS'
    have q := HA.out _ (HB3.out.trans (hS'.mono HB3.out.size))
    have a0 := q.a.get 0 rfl
    have a1 := q.a.get 1 rfl
    have a2 := q.a.get 2 rfl
    have a4 := q.a.get 4 rfl
    have la := q.a.lt
    have u0 := q.u.get 0 rfl
    have u1 := q.u.get 1 rfl
    have u2 := q.u.get 2 rfl
    have lu := q.u.lt
    clear q
    go_simp
    rfl
  try simp only [Act.put, List.setIfInBounds_toArray, List.set_cons_zero, List.set_cons_succ, List.getElem_toArray, List.getElem_cons_zero, List.getElem_cons_succ]
  refine wpAnyH_take (i := 3) (v := ?_) rfl (by kernel_rfl) (by kernel_rfl) (by kernel_rfl) (fun _ _ _ h => h) (Or.inl ⟨by rfl, ?_⟩) hS ?_
  rotate_left
  · intro W' hS'
    have q := HA.out _ (HB3.out.trans (hS'.mono HB3.out.size))
    have a0 := q.a.get 0 rfl
    have a1 := q.a.get 1 rfl
    have a2 := q.a.get 2 rfl
    have a4 := q.a.get 4 rfl
    have la := q.a.lt
    have u0 := q.u.get 0 rfl
    have u1 := q.u.get 1 rfl
    have u2 := q.u.get 2 rfl
    have lu := q.u.lt
    clear q
    go_simp
    rfl
  try simp only [Act.put, List.setIfInBounds_toArray, List.set_cons_zero, List.set_cons_succ, List.getElem_toArray, List.getElem_cons_zero, List.getElem_cons_succ]
  refine wpAnyH_take (i := 4) (v := ?_) rfl (by kernel_rfl) (by kernel_rfl) (by kernel_rfl) (fun _ _ _ h => h) (Or.inl ⟨by rfl, ?_⟩) hS ?_
  rotate_left
  · intro W' hS'
    have q := HA.out _ (HB3.out.trans (hS'.mono HB3.out.size))
    have a0 := q.a.get 0 rfl
    have a1 := q.a.get 1 rfl
    have a2 := q.a.get 2 rfl
    have a4 := q.a.get 4 rfl
    have la := q.a.lt
    have u0 := q.u.get 0 rfl
    have u1 := q.u.get 1 rfl
    have u2 := q.u.get 2 rfl
    have lu := q.u.lt
    clear q
    go_simp
    rfl
  try simp only [Act.put, List.setIfInBounds_toArray, List.set_cons_zero, List.set_cons_succ, List.getElem_toArray, List.getElem_cons_zero, List.getElem_cons_succ]
  refine wpAnyH_take (i := 5) (v := ?_) rfl (by kernel_rfl) (by kernel_rfl) (by kernel_rfl) (fun _ _ _ h => h) (Or.inl ⟨by rfl, ?_⟩) hS ?_
  rotate_left
  · intro W' hS'
    have q := HA.out _ (HB3.out.trans (hS'.mono HB3.out.size))
    have a0 := q.a.get 0 rfl
    have a1 := q.a.get 1 rfl
    have a2 := q.a.get 2 rfl
    have a4 := q.a.get 4 rfl
    have la := q.a.lt
    have u0 := q.u.get 0 rfl
    have u1 := q.u.get 1 rfl
    have u2 := q.u.get 2 rfl
    have lu := q.u.lt
    clear q
    go_simp
    rfl
  try simp only [Act.put, List.setIfInBounds_toArray, List.set_cons_zero, List.set_cons_succ, List.getElem_toArray, List.getElem_cons_zero, List.getElem_cons_succ]
  refine wpAnyH_take (i := 6) (v := ?_) rfl (by kernel_rfl) (by kernel_rfl) (by kernel_rfl) (fun _ _ _ h => h) (Or.inl ⟨by rfl, ?_⟩) hS ?_
  rotate_left
  · intro W' hS'
    have q := HA.out _ (HB3.out.trans (hS'.mono HB3.out.size))
    have a0 := q.a.get 0 rfl
    have a1 := q.a.get 1 rfl
    have a2 := q.a.get 2 rfl
    have a4 := q.a.get 4 rfl
    have la := q.a.lt
    have u0 := q.u.get 0 rfl
    have u1 := q.u.get 1 rfl
    have u2 := q.u.get 2 rfl
    have lu := q.u.lt
    clear q
    go_simp
    rfl
  try simp only [Act.put, List.setIfInBounds_toArray, List.set_cons_zero, List.set_cons_succ, List.getElem_toArray, List.getElem_cons_zero, List.getElem_cons_succ]
  refine wpAnyH_take (i := 7) (v := ?_) rfl (by kernel_rfl) (by kernel_rfl) (by kernel_rfl) (fun _ _ _ h => h) (Or.inl ⟨by rfl, ?_⟩) hS ?_
  rotate_left
  · intro W' hS'
    have q := HA.out _ (HB3.out.trans (hS'.mono HB3.out.size))
    have a0 := q.a.get 0 rfl
    have a1 := q.a.get 1 rfl
    have a2 := q.a.get 2 rfl
    have a4 := q.a.get 4 rfl
    have la := q.a.lt
    have u0 := q.u.get 0 rfl
    have u1 := q.u.get 1 rfl
    have u2 := q.u.get 2 rfl
    have lu := q.u.lt
    clear q
    go_simp
    rfl
  try simp only [Act.put, List.setIfInBounds_toArray, List.set_cons_zero, List.set_cons_succ, List.getElem_toArray, List.getElem_cons_zero, List.getElem_cons_succ]
  refine wpAnyH_take (i := 8) (v := ?_) rfl (by kernel_rfl) (by kernel_rfl) (by kernel_rfl) (fun _ _ _ h => h) (Or.inl ⟨by rfl, ?_⟩) hS ?_
  rotate_left
  · intro W' hS'
    have q := HA.out _ (HB3.out.trans (hS'.mono HB3.out.size))
    have a0 := q.a.get 0 rfl
    have a1 := q.a.get 1 rfl
    have a2 := q.a.get 2 rfl
    have a4 := q.a.get 4 rfl
    have la := q.a.lt
    have u0 := q.u.get 0 rfl
    have u1 := q.u.get 1 rfl
    have u2 := q.u.get 2 rfl
    have lu := q.u.lt
    clear q
    go_simp
    rfl
  try simp only [Act.put, List.setIfInBounds_toArray, List.set_cons_zero, List.set_cons_succ, List.getElem_toArray, List.getElem_cons_zero, List.getElem_cons_succ]
  refine wpAnyH_take (i := 9) (v := ?_) rfl (by kernel_rfl) (by kernel_rfl) (by kernel_rfl) (fun _ _ _ h => h) (Or.inl ⟨by rfl, ?_⟩) hS ?_
  rotate_left
  · intro W' hS'
    have q := HA.out _ (HB3.out.trans (hS'.mono HB3.out.size))
    have a0 := q.a.get 0 rfl
    have a1 := q.a.get 1 rfl
    have a2 := q.a.get 2 rfl
    have a4 := q.a.get 4 rfl
    have la := q.a.lt
    have u0 := q.u.get 0 rfl
    have u1 := q.u.get 1 rfl
    have u2 := q.u.get 2 rfl
    have lu := q.u.lt
    clear q
    go_simp
    rfl
  try simp only [Act.put, List.setIfInBounds_toArray, List.set_cons_zero, List.set_cons_succ, List.getElem_toArray, List.getElem_cons_zero, List.getElem_cons_succ]
  refine wpAnyH_take (i := 10) (v := ?_) rfl (by kernel_rfl) (by kernel_rfl) (by kernel_rfl) (fun _ _ _ h => h) (Or.inl ⟨by rfl, ?_⟩) hS ?_
  rotate_left
  · intro W' hS'
    have q := HA.out _ (HB3.out.trans (hS'.mono HB3.out.size))
    have a0 := q.a.get 0 rfl
    have a1 := q.a.get 1 rfl
    have a2 := q.a.get 2 rfl
    have a4 := q.a.get 4 rfl
    have la := q.a.lt
    have u0 := q.u.get 0 rfl
    have u1 := q.u.get 1 rfl
    have u2 := q.u.get 2 rfl
    have lu := q.u.lt
    clear q
    go_simp
    rfl
  try simp only [Act.put, List.setIfInBounds_toArray, List.set_cons_zero, List.set_cons_succ, List.getElem_toArray, List.getElem_cons_zero, List.getElem_cons_succ]
  refine wpAnyH_take (i := 11) (v := ?_) rfl (by kernel_rfl) (by kernel_rfl) (by kernel_rfl) (fun _ _ _ h => h) (Or.inl ⟨by rfl, ?_⟩) hS ?_
  rotate_left
  · intro W' hS'
    have q := HA.out _ (HB3.out.trans (hS'.mono HB3.out.size))
    have a0 := q.a.get 0 rfl
    have a1 := q.a.get 1 rfl
    have a2 := q.a.get 2 rfl
    have a4 := q.a.get 4 rfl
    have la := q.a.lt
    have u0 := q.u.get 0 rfl
    have u1 := q.u.get 1 rfl
    have u2 := q.u.get 2 rfl
    have lu := q.u.lt
    clear q
    go_simp
    rfl
  try simp only [Act.put, List.setIfInBounds_toArray, List.set_cons_zero, List.set_cons_succ, List.getElem_toArray, List.getElem_cons_zero, List.getElem_cons_succ]
  refine wpAnyH_take (i := 12) (v := ?_) rfl (by kernel_rfl) (by kernel_rfl) (by kernel_rfl) (fun _ _ _ h => h) (Or.inl ⟨by rfl, ?_⟩) hS ?_
  rotate_left
  · intro W' hS'
    have q := HA.out _ (HB3.out.trans (hS'.mono HB3.out.size))
    have a0 := q.a.get 0 rfl
    have a1 := q.a.get 1 rfl
    have a2 := q.a.get 2 rfl
    have a4 := q.a.get 4 rfl
    have la := q.a.lt
    have u0 := q.u.get 0 rfl
    have u1 := q.u.get 1 rfl
    have u2 := q.u.get 2 rfl
    have lu := q.u.lt
    clear q
    go_simp
    rfl
  try simp only [Act.put, List.setIfInBounds_toArray, List.set_cons_zero, List.set_cons_succ, List.getElem_toArray, List.getElem_cons_zero, List.getElem_cons_succ]
  refine wpAnyH_take (i := 13) (v := ?_) rfl (by kernel_rfl) (by kernel_rfl) (by kernel_rfl) (fun _ _ _ h => h) (Or.inl ⟨by rfl, ?_⟩) hS ?_
  rotate_left
  · intro W' hS'
    have q := HA.out _ (HB3.out.trans (hS'.mono HB3.out.size))
    have a0 := q.a.get 0 rfl
    have a1 := q.a.get 1 rfl
    have a2 := q.a.get 2 rfl
    have a4 := q.a.get 4 rfl
    have la := q.a.lt
    have u0 := q.u.get 0 rfl
    have u1 := q.u.get 1 rfl
    have u2 := q.u.get 2 rfl
    have lu := q.u.lt
    clear q
    go_simp
    rfl
  try simp only [Act.put, List.setIfInBounds_toArray, List.set_cons_zero, List.set_cons_succ, List.getElem_toArray, List.getElem_cons_zero, List.getElem_cons_succ]
  refine wpAnyH_take (i := 14) (v := ?_) rfl (by kernel_rfl) (by kernel_rfl) (by kernel_rfl) (fun _ _ _ h => h) (Or.inl ⟨by rfl, ?_⟩) hS ?_
  rotate_left
  · intro W' hS'
    have q := HA.out _ (HB3.out.trans (hS'.mono HB3.out.size))
    have a0 := q.a.get 0 rfl
    have a1 := q.a.get 1 rfl
    have a2 := q.a.get 2 rfl
    have a4 := q.a.get 4 rfl
    have la := q.a.lt
    have u0 := q.u.get 0 rfl
    have u1 := q.u.get 1 rfl
    have u2 := q.u.get 2 rfl
    have lu := q.u.lt
    clear q
    go_simp
    rfl
  try simp only [Act.put, List.setIfInBounds_toArray, List.set_cons_zero, List.set_cons_succ, List.getElem_toArray, List.getElem_cons_zero, List.getElem_cons_succ]
  refine wpAnyH_take (i := 15) (v := ?_) rfl (by kernel_rfl) (by kernel_rfl) (by kernel_rfl) (fun _ _ _ h => h) (Or.inl ⟨by rfl, ?_⟩) hS ?_
  rotate_left
  · intro W' hS'
    have q := HA.out _ (HB3.out.trans (hS'.mono HB3.out.size))
    have a0 := q.a.get 0 rfl
    have a1 := q.a.get 1 rfl
    have a2 := q.a.get 2 rfl
    have a4 := q.a.get 4 rfl
    have la := q.a.lt
    have u0 := q.u.get 0 rfl
    have u1 := q.u.get 1 rfl
    have u2 := q.u.get 2 rfl
    have lu := q.u.lt
    clear q
    go_simp
    rfl
  try simp only [Act.put, List.setIfInBounds_toArray, List.set_cons_zero, List.set_cons_succ, List.getElem_toArray, List.getElem_cons_zero, List.getElem_cons_succ]
  refine wpAnyH_ready (rs := [16]) (by kernel_rfl) (by simp) (AllReadyH.cons rfl (fun K hK => ?_) AllReadyH.nil)
  go_simp
  refine (HGOT.out _ (HB3.out.trans (hS.mono HB3.out.size))).mono ?_
  rintro e w8 ⟨rfl, rfl⟩
  refine hK.out _ _ hS (fun hS => ?_)
  try simp only [Act.put, List.setIfInBounds_toArray, List.set_cons_zero, List.set_cons_succ, List.getElem_toArray, List.getElem_cons_zero, List.getElem_cons_succ]
  clear hK
  refine wpAnyH_ready (rs := [17]) (by kernel_rfl) (by simp) (AllReadyH.cons rfl (fun K hK => ?_) AllReadyH.nil)
  go_simp
  refine (HKIDS.out _ (HB3.out.trans (hS.mono HB3.out.size))).mono ?_
  rintro e w9 ⟨⟨gu, gb, rfl⟩, hbb⟩
  have hS9 : Below w3.heap.size w3 w9 := hS.trans (hbb.mono hS.size)
  clear hbb
  refine hK.out _ _ hS9 (fun hS => ?_)
  try simp only [Act.put, List.setIfInBounds_toArray, List.set_cons_zero, List.set_cons_succ, List.getElem_toArray, List.getElem_cons_zero, List.getElem_cons_succ]
  clear hK
  refine wpAnyH_take (i := 18) (v := ?_) rfl (by kernel_rfl) (by kernel_rfl) (by kernel_rfl) (fun _ _ _ h => h) (Or.inl ⟨by rfl, ?_⟩) hS ?_
  rotate_left
  · intro W' hS'
    have q := HA.out _ (HB3.out.trans (hS'.mono HB3.out.size))
    have a0 := q.a.get 0 rfl
    have a1 := q.a.get 1 rfl
    have a2 := q.a.get 2 rfl
    have a4 := q.a.get 4 rfl
    have la := q.a.lt
    have u0 := q.u.get 0 rfl
    have u1 := q.u.get 1 rfl
    have u2 := q.u.get 2 rfl
    have lu := q.u.lt
    clear q
    go_simp
    rfl
  try simp only [Act.put, List.setIfInBounds_toArray, List.set_cons_zero, List.set_cons_succ, List.getElem_toArray, List.getElem_cons_zero, List.getElem_cons_succ]
  refine wpAnyH_take (i := 19) (v := ?_) rfl (by kernel_rfl) (by kernel_rfl) (by kernel_rfl) (fun _ _ _ h => h) (Or.inl ⟨by rfl, ?_⟩) hS ?_
  rotate_left
  · intro W' hS'
    have q := HA.out _ (HB3.out.trans (hS'.mono HB3.out.size))
    have a0 := q.a.get 0 rfl
    have a1 := q.a.get 1 rfl
    have a2 := q.a.get 2 rfl
    have a4 := q.a.get 4 rfl
    have la := q.a.lt
    have u0 := q.u.get 0 rfl
    have u1 := q.u.get 1 rfl
    have u2 := q.u.get 2 rfl
    have lu := q.u.lt
    clear q
    go_simp
    rfl
  try simp only [Act.put, List.setIfInBounds_toArray, List.set_cons_zero, List.set_cons_succ, List.getElem_toArray, List.getElem_cons_zero, List.getElem_cons_succ]
  refine wpAnyH_take (i := 20) (v := ?_) rfl (by kernel_rfl) (by kernel_rfl) (by kernel_rfl) (fun _ _ _ h => h) (Or.inl ⟨by rfl, ?_⟩) hS ?_
  rotate_left
  · intro W' hS'
    have q := HA.out _ (HB3.out.trans (hS'.mono HB3.out.size))
    have a0 := q.a.get 0 rfl
    have a1 := q.a.get 1 rfl
    have a2 := q.a.get 2 rfl
    have a4 := q.a.get 4 rfl
    have la := q.a.lt
    have u0 := q.u.get 0 rfl
    have u1 := q.u.get 1 rfl
    have u2 := q.u.get 2 rfl
    have lu := q.u.lt
    clear q
    go_simp
    rfl
  try simp only [Act.put, List.setIfInBounds_toArray, List.set_cons_zero, List.set_cons_succ, List.getElem_toArray, List.getElem_cons_zero, List.getElem_cons_succ]
  refine wpAnyH_take (i := 21) (v := ?_) rfl (by kernel_rfl) (by kernel_rfl) (by kernel_rfl) (fun _ _ _ h => h) (Or.inl ⟨by rfl, ?_⟩) hS ?_
  rotate_left
  · intro W' hS'
    have q := HA.out _ (HB3.out.trans (hS'.mono HB3.out.size))
    have a0 := q.a.get 0 rfl
    have a1 := q.a.get 1 rfl
    have a2 := q.a.get 2 rfl
    have a4 := q.a.get 4 rfl
    have la := q.a.lt
    have u0 := q.u.get 0 rfl
    have u1 := q.u.get 1 rfl
    have u2 := q.u.get 2 rfl
    have lu := q.u.lt
    clear q
    go_simp
    rfl
  try simp only [Act.put, List.setIfInBounds_toArray, List.set_cons_zero, List.set_cons_succ, List.getElem_toArray, List.getElem_cons_zero, List.getElem_cons_succ]
  refine wpAnyH_take (i := 22) (v := ?_) rfl (by kernel_rfl) (by kernel_rfl) (by kernel_rfl) (fun _ _ _ h => h) (Or.inl ⟨by rfl, ?_⟩) hS ?_
  rotate_left
  · intro W' hS'
    have q := HA.out _ (HB3.out.trans (hS'.mono HB3.out.size))
    have a0 := q.a.get 0 rfl
    have a1 := q.a.get 1 rfl
    have a2 := q.a.get 2 rfl
    have a4 := q.a.get 4 rfl
    have la := q.a.lt
    have u0 := q.u.get 0 rfl
    have u1 := q.u.get 1 rfl
    have u2 := q.u.get 2 rfl
    have lu := q.u.lt
    clear q
    go_simp
    rfl
  try simp only [Act.put, List.setIfInBounds_toArray, List.set_cons_zero, List.set_cons_succ, List.getElem_toArray, List.getElem_cons_zero, List.getElem_cons_succ]
  refine wpAnyH_done (by kernel_rfl) ?_ _
  have HB9 := Lib.hid (HB3.out.trans (hS.mono HB3.out.size))
  clear hS a7 la k0 lk
  go_wp2_with fail
  refine (contains0 _ _ _).mono ?_
  rintro e w10 ⟨rfl, rfl⟩
  go_wp2_with fail
  refine wp_loop0 ?_
  go_wp2_with fail
  go_ret
  exact ⟨by rw [e1] <;> rfl, HB9.out⟩
end
end Go.Proofs.YtjhfcpadnofdnaaGreat
