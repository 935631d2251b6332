/- Contracts: the document's deque, its small functions. -/
import Derived.Test.YtdigjppdgiapfaaDso
set_option linter.unusedSimpArgs false
set_option linter.unusedVariables false
namespace Go.Proofs.Ytdigjppdgiapfaa
open Go.RowKit
attribute [local go_sem] block_of_add
attribute [local go_sem ↓] Go.wp_at_zero Go.wp_at_succ

/-- The document's operation: kind, next step, what it knows. -/
structure Rop where
  K : Nat
  nx : Nat
  b : Int
  t : Int
  x : Int
  won : Bool
  how : Nat
def rfCells (rd : Nat) (r : Rop) : Array Value := #[.pointer (some ⟨rd, 0, none⟩), .int .i64 r.K, .int .i64 r.nx, .int .i64 r.b, .int .i64 r.t, .int .i64 r.x, .bool r.won, .int .u8 r.how]
def RfAt (w : World) (ro rd : Nat) (r : Rop) : Prop := Blk w ro 64 (rfCells rd r)
def rhCells (rc n : Nat) (ow : Int) : Array Value := #[.slice (some ⟨rc, 0, none⟩) (2 + n) (2 + n), .int .i64 n, .int .i64 ow]
structure RqAt (w : World) (rd rc : Nat) (d : Dq) (ow : Int) : Prop where
  hdr : Blk w rd 62 (rhCells rc d.sl.length ow)
  cel : Blk w rc 3 (dqCells d).toArray
theorem RqAt.kp {w w' : World} {bad : Nat → Prop} {rd rc : Nat} {d : Dq} {ow : Int} (h : RqAt w rd rc d ow) (hk : Kp bad w w') (h1 : ¬ bad rd) (h2 : ¬ bad rc) : RqAt w' rd rc d ow := ⟨h.hdr.kp hk h1, h.cel.kp hk h2⟩
theorem RqAt.at_ {w : World} {rd rc : Nat} {d : Dq} {ow : Int} (h : RqAt w rd rc d ow) (i : Nat) {v : Value} (hv : (dqCells d)[i]? = some v) : w.cell? ⟨rc, i, none⟩ = some v := (h.cel.cell i).trans (by simpa using hv)
theorem RqAt.ne {w : World} {ro rd rc : Nat} {d : Dq} {ow : Int} {r : Rop} (h : RqAt w rd rc d ow) (ho : RfAt w ro rd r) : ro ≠ rd ∧ ro ≠ rc ∧ rd ≠ rc := ⟨Blk.ne_ ho h.hdr (by decide), Blk.ne_ ho h.cel (by decide), Blk.ne_ h.hdr h.cel (by decide)⟩
theorem Blk.c8 {w : World} {g : Nat} {t : TypeId} {a b c d e f x y : Value} (h : Blk w g t #[a, b, c, d, e, f, x, y]) : w.cell? ⟨g, 0, none⟩ = some a ∧ w.cell? ⟨g, 1, none⟩ = some b ∧ w.cell? ⟨g, 2, none⟩ = some c ∧ w.cell? ⟨g, 3, none⟩ = some d ∧ w.cell? ⟨g, 4, none⟩ = some e ∧ w.cell? ⟨g, 5, none⟩ = some f ∧ w.cell? ⟨g, 6, none⟩ = some x ∧ w.cell? ⟨g, 7, none⟩ = some y :=
  ⟨h.cell 0, h.cell 1, h.cell 2, h.cell 3, h.cell 4, h.cell 5, h.cell 6, h.cell 7⟩
theorem Drawn.refl (w : World) : Drawn w w := ⟨rfl, rfl, rfl, rfl⟩
theorem Drawn.of (w : World) : Drawn w w.drew := ⟨rfl, rfl, rfl, rfl⟩
theorem Drawn.ofN (w : World) (n : Nat) : Drawn w (w.drewN n) := ⟨rfl, rfl, rfl, rfl⟩
theorem Drawn.rules {w W : World} (h : Drawn w W) : (∀ p, W.cell? p = w.cell? p) ∧ (∀ p, W.frozen? p = w.frozen? p) ∧ W.heap.size = w.heap.size :=
  ⟨fun p => World.cell?_of_block (w := w) (by rw [h.heap]), fun p => World.frozen?_of_block (w := w) (by rw [h.heap]), by rw [h.heap]⟩
theorem drawn_box (w : World) (n : Nat) (T : TypeId) (a b a' b' : Value) : Drawn (w.alloc (.cells #[a', b'] T)) ((((w.alloc (.cells #[a, b] T)).drewN n).setCell ⟨w.heap.size, 0, none⟩ a').setCell ⟨w.heap.size, 1, none⟩ b') := by
  refine ⟨?_, rfl, rfl, rfl⟩
  show (((w.alloc (.cells #[a, b] T)).setCell ⟨w.heap.size, 0, none⟩ a').setCell ⟨w.heap.size, 1, none⟩ b').heap = _
  rw [World.setCell_alloc_new, World.setCell_alloc_new]; simp
section
variable (ro rd rc : Nat) (d : Dq) (ow : Int) (r : Rop) (w : World) (hd : RqAt w rd rc d ow) (ho : RfAt w ro rd r)
include hd ho
set_option maxRecDepth 100000 in
set_option maxHeartbeats 400000 in
theorem load_r (i : Nat) (x : Int) (hi : i < 2 + d.sl.length) (hx : (dqCells d)[i]? = some (.int .i64 x)) :
    Calls Try.prog 37 #[.pointer (some ⟨ro, 0, none⟩), .int .i64 i] w fun e w' => e = .returned (.tuple #[.agg #[.int .u8 1, .int .i64 i], .int .i64 x]) ∧ Drawn (w.alloc (.cells #[.int .u8 1, .int .i64 i] 44)) w' := by
  have q := Blk.c8 ho
  have h := Blk.c3 hd.hdr
  have lo := Blk.lt ho
  have ld := hd.hdr.lt
  have lc := hd.cel.lt
  have zo := Blk.frozen ho
  have zd := hd.hdr.frozen
  have zc := hd.cel.frozen
  have hne := hd.ne ho
  have hc := hd.at_ i hx
  have hi' : (i : Int) < 2 + (d.sl.length : Int) := by omega
  have hi0 : (0 : Int) ≤ (i : Int) := by omega
  clear hx zo zd zc
  clear hd ho
  go_enter Try.func37, Try.ntmps37
  go_wp2_with fail
  go_region
  all_goals
    go_wp2_with fail
    exact bodyPost_ret (v := .tuple #[.agg #[.int .u8 1, .int .i64 i], .int .i64 x]) (by simp [results, Try.results37, go_sem]) rfl ⟨rfl, ⟨rfl, rfl, rfl, rfl⟩⟩
set_option maxRecDepth 100000 in
set_option maxHeartbeats 400000 in
theorem store_r (i : Nat) (x : Int) (u : Value) (hi : i < 2 + d.sl.length) (hx : (dqCells d)[i]? = some u) :
    Calls Try.prog 39 #[.pointer (some ⟨ro, 0, none⟩), .int .i64 i, .int .i64 x] w fun e w' => e = .returned (.agg #[.int .u8 2, .int .i64 i]) ∧ Drawn ((w.setCell ⟨rc, i, none⟩ (.int .i64 x)).alloc (.cells #[.int .u8 2, .int .i64 i] 44)) w' := by
  have q := Blk.c8 ho
  have h := Blk.c3 hd.hdr
  have lo := Blk.lt ho
  have ld := hd.hdr.lt
  have lc := hd.cel.lt
  have zo := Blk.frozen ho
  have zd := hd.hdr.frozen
  have zc := hd.cel.frozen
  have hne := hd.ne ho
  have hc := hd.at_ i hx
  have hi' : (i : Int) < 2 + (d.sl.length : Int) := by omega
  have hi0 : (0 : Int) ≤ (i : Int) := by omega
  have zci := zc i
  clear hx zo zd zc
  clear hd ho
  go_enter Try.func39, Try.ntmps39
  go_wp2_with fail
  exact bodyPost_ret (v := .agg #[.int .u8 2, .int .i64 i]) (by simp [results, Try.results39, go_sem]) rfl ⟨rfl, ⟨rfl, rfl, rfl, rfl⟩⟩
set_option maxRecDepth 100000 in
set_option maxHeartbeats 400000 in
theorem slot_r (n : Int) (h0 : 0 ≤ n) (hn : 0 < d.sl.length) (hl : d.sl.length ≤ 1000000) :
    Calls Try.prog 40 #[.pointer (some ⟨ro, 0, none⟩), .int .i64 n] w fun e w' => e = .returned (.int .i64 (2 + (d.ix n : Int))) ∧ w' = w := by
  have q := Blk.c8 ho
  have h := Blk.c3 hd.hdr
  have lo := Blk.lt ho
  have ld := hd.hdr.lt
  have lc := hd.cel.lt
  have zo := Blk.frozen ho
  have zd := hd.hdr.frozen
  have zc := hd.cel.frozen
  have hne := hd.ne ho
  have hz : ((d.sl.length : Int) == 0) = false := by simp; intro h; simp [h] at hn
  have hz2 : ¬ (d.sl.length : Int) = 0 := by omega
  have hm : Int.tmod n (d.sl.length : Int) = (d.ix n : Int) := by
    rw [Int.tmod_eq_emod_of_nonneg h0]; unfold Dq.ix slIx
    have h1 := Int.emod_nonneg n (show (d.sl.length : Int) ≠ 0 by omega)
    omega
  have hm2 : n % (d.sl.length : Int) = (d.ix n : Int) := by rw [← hm, Int.tmod_eq_emod_of_nonneg h0]
  have hix := ix_lt d.sl hn n
  have hix2 : (d.ix n : Int) ≤ 1000000 := by unfold Dq.ix; omega
  have hix3 : (0 : Int) ≤ (d.ix n : Int) := by omega
  have hw1 : IntKind.i64.wrap (d.ix n : Int) = (d.ix n : Int) := IntWalk.i64_in _ ⟨by omega, by omega⟩
  have hw2 : IntKind.i64.wrap (2 + (d.ix n : Int)) = 2 + (d.ix n : Int) := IntWalk.i64_in _ ⟨by omega, by omega⟩
  clear zo zd zc hn hix hne
  clear hd ho
  go_enter Try.func40, Try.ntmps40
  go_wp2_with fail
  go_ret
  exact ⟨rfl, rfl⟩
set_option maxRecDepth 100000 in
set_option maxHeartbeats 400000 in
theorem swap_hit (t : Int) (ht : r.t = t) (hx : d.top = t) (b0 : -1000000 ≤ t) (b1 : t ≤ 1000000) :
    Calls Try.prog 41 #[.pointer (some ⟨ro, 0, none⟩)] w fun e w' => e = .returned (.tuple #[.agg #[.int .u8 3, .int .i64 0], .bool true]) ∧ Drawn ((((w.alloc (.cells #[.int .u8 0, .int .i64 0] 44)).setCell ⟨rc, 0, none⟩ (.int .i64 (t + 1))).setCell ⟨w.heap.size, 0, none⟩ (.int .u8 3)).setCell ⟨w.heap.size, 1, none⟩ (.int .i64 0)) w' := by
  have q := Blk.c8 ho
  have h := Blk.c3 hd.hdr
  have lo := Blk.lt ho
  have ld := hd.hdr.lt
  have lc := hd.cel.lt
  have zo := Blk.frozen ho
  have zd := hd.hdr.frozen
  have zc := hd.cel.frozen
  have hne := hd.ne ho
  have hc := hd.at_ 0 (v := .int .i64 t) (by rw [← hx]; rfl)
  rw [ht] at q
  have hi' : (0 : Int) < 2 + (d.sl.length : Int) := by omega
  have hwr : IntKind.i64.wrap (t + 1) = t + 1 := IntWalk.i64_in _ ⟨by omega, by omega⟩
  have zc0 := zc 0
  clear hx zo zd zc ht
  clear hd ho
  go_enter Try.func41, Try.ntmps41
  go_wp2_with fail
  go_quiet (fail)
  go_wp2_with fail
  go_region
  all_goals
    go_wp2_with fail
    exact bodyPost_ret (v := .tuple #[.agg #[.int .u8 3, .int .i64 0], .bool true]) (by simp [results, Try.results41, go_sem]) rfl ⟨rfl, ⟨rfl, rfl, rfl, rfl⟩⟩
set_option maxRecDepth 100000 in
set_option maxHeartbeats 400000 in
theorem swap_miss (t : Int) (ht : r.t = t) (s : Int) (hx : d.top = s) (hst : ¬ s = t) :
    Calls Try.prog 41 #[.pointer (some ⟨ro, 0, none⟩)] w fun e w' => e = .returned (.tuple #[.agg #[.int .u8 4, .int .i64 0], .bool false]) ∧ Drawn (w.alloc (.cells #[.int .u8 4, .int .i64 0] 44)) w' := by
  have q := Blk.c8 ho
  have h := Blk.c3 hd.hdr
  have lo := Blk.lt ho
  have ld := hd.hdr.lt
  have lc := hd.cel.lt
  have zo := Blk.frozen ho
  have zd := hd.hdr.frozen
  have zc := hd.cel.frozen
  have hne := hd.ne ho
  have hc := hd.at_ 0 (v := .int .i64 s) (by rw [← hx]; rfl)
  rw [ht] at q
  have hi' : (0 : Int) < 2 + (d.sl.length : Int) := by omega
  clear hx zo zd zc ht
  clear hd ho
  go_enter Try.func41, Try.ntmps41
  go_wp2_with fail
  go_quiet (fail)
  go_wp2_with fail
  exact bodyPost_ret (v := .tuple #[.agg #[.int .u8 4, .int .i64 0], .bool false]) (by simp [results, Try.results41, go_sem]) rfl ⟨rfl, drawn_box _ _ _ _ _ _ _⟩
set_option maxRecDepth 100000 in
set_option maxHeartbeats 400000 in
theorem ends_own (how : Nat) (hk : r.K ≤ 1) (w0 : -1000 ≤ ow) (w1 : ow ≤ 1000) :
    Calls Try.prog 38 #[.pointer (some ⟨ro, 0, none⟩), .int .u8 how] w fun e w' => e = .returned (.tuple #[]) ∧ Drawn (((w.setCell ⟨ro, 7, none⟩ (.int .u8 how)).setCell ⟨ro, 2, none⟩ (.int .i64 0)).setCell ⟨rd, 2, none⟩ (.int .i64 (ow - 1))) w' := by
  have q := Blk.c8 ho
  have h := Blk.c3 hd.hdr
  have lo := Blk.lt ho
  have ld := hd.hdr.lt
  have lc := hd.cel.lt
  have zo := Blk.frozen ho
  have zd := hd.hdr.frozen
  have zc := hd.cel.frozen
  have hne := hd.ne ho
  have hk1 : ((r.K : Int) == 2) = false := by simp; omega
  have hk2 : ((r.K : Int) != 2) = true := by simp; omega
  have hwr : IntKind.i64.wrap (ow - 1) = ow - 1 := IntWalk.i64_in _ ⟨by omega, by omega⟩
  have zo7 := zo 7
  have zo2 := zo 2
  have zd2 := zd 2
  clear zo zd zc hk
  clear hd ho
  go_enter Try.func38, Try.ntmps38
  go_wp2_with fail
  go_end0
  exact ⟨rfl, ⟨rfl, rfl, rfl, rfl⟩⟩
set_option maxRecDepth 100000 in
set_option maxHeartbeats 400000 in
theorem ends_th (how : Nat) (hk : r.K = 2) (w0 : -1000 ≤ ow) (w1 : ow ≤ 1000) :
    Calls Try.prog 38 #[.pointer (some ⟨ro, 0, none⟩), .int .u8 how] w fun e w' => e = .returned (.tuple #[]) ∧ Drawn ((w.setCell ⟨ro, 7, none⟩ (.int .u8 how)).setCell ⟨ro, 2, none⟩ (.int .i64 0)) w' := by
  have q := Blk.c8 ho
  have h := Blk.c3 hd.hdr
  have lo := Blk.lt ho
  have ld := hd.hdr.lt
  have lc := hd.cel.lt
  have zo := Blk.frozen ho
  have zd := hd.hdr.frozen
  have zc := hd.cel.frozen
  have hne := hd.ne ho
  have hk1 : ((r.K : Int) == 2) = true := by simp; omega
  have hk2 : ((r.K : Int) != 2) = false := by simp; omega
  have hwr : IntKind.i64.wrap (ow - 1) = ow - 1 := IntWalk.i64_in _ ⟨by omega, by omega⟩
  have zo7 := zo 7
  have zo2 := zo 2
  have zd2 := zd 2
  clear zo zd zc hk
  clear hd ho
  go_enter Try.func38, Try.ntmps38
  go_wp2_with fail
  go_end0
  exact ⟨rfl, ⟨rfl, rfl, rfl, rfl⟩⟩
end
end Go.Proofs.Ytdigjppdgiapfaa
