/- Contracts: the steps of an operation on a deque. -/
import Derived.Test.YtdigjppdgiapfaaProg
import Derived.Test.YtdigjppdgiapfaaKp
import Derived.Test.YtdigjppdgiapfaaDqi
import Derived.Laws.LoneSync
import Derived.Deep.RegionHeld3
import Derived.StillTailTactics
import Derived.Deep.DrawnRows
set_option linter.unusedSimpArgs false
set_option linter.unusedVariables false
namespace Go.Proofs.Ytdigjppdgiapfaa
open Go.RowKit
attribute [local go_sem] block_of_add
attribute [local go_sem ↓] Go.wp_at_zero Go.wp_at_succ

def dqCells (d : Dq) : List Value := [.int .i64 d.top, .int .i64 d.bot] ++ d.sl.map (Value.int .i64)
structure DqAt (w : World) (gd gc : Nat) (d : Dq) (own : Value) : Prop where
  hdr : Blk w gd 60 #[.slice (some ⟨gc, 0, none⟩) (2 + d.sl.length) (2 + d.sl.length), own]
  cel : Blk w gc 73 (dqCells d).toArray
def nextV : Nat → Value
  | 1 => .func (.func 33) #[] #[]
  | 2 => .func (.func 44) #[] #[]
  | 3 => .func (.func 48) #[] #[]
  | 4 => .func (.func 53) #[] #[]
  | 5 => .func (.func 27) #[] #[]
  | 6 => .func (.func 36) #[] #[]
  | 7 => .func (.func 46) #[] #[]
  | 8 => .func (.func 51) #[] #[]
  | 9 => .func (.func 55) #[] #[]
  | 10 => .func (.func 58) #[] #[]
  | 11 => .func (.func 34) #[] #[]
  | 12 => .func (.func 45) #[] #[]
  | 13 => .func (.func 50) #[] #[]
  | 14 => .func (.func 54) #[] #[]
  | _ => .nilFunc
def opCells (gd : Nat) (o : Dop) : Array Value := #[.pointer (some ⟨gd, 0, none⟩), nextV o.pc, .int .i64 o.b, .int .i64 o.t, .int .i64 o.x, .bool o.sw, .int .u8 o.how]
def OpAt (w : World) (go gd : Nat) (o : Dop) : Prop := Blk w go 67 (opCells gd o)

theorem cel_at {w : World} {gd gc : Nat} {d : Dq} {own : Value} (h : DqAt w gd gc d own) (i : Nat) {v : Value} (hv : (dqCells d)[i]? = some v) : w.cell? ⟨gc, i, none⟩ = some v := (h.cel.cell i).trans (by simpa using hv)

theorem load64 (a : Addr) (x : Int) (w : World) (hc : w.cell? a = some (.int .i64 x)) : (callFunc 42 #[.pointer (some a)]).run Try.prog w = .ok (.value (.int .i64 x)) w :=
  run_call_load Try.func42 (by kernel_rfl) (by kernel_rfl) (by kernel_rfl) .i64 (by kernel_rfl) hc

theorem store64 (a : Addr) (x : Int) (u : Value) (w : World) (hc : w.cell? a = some u) (hz : w.frozen? a = false) : (callFunc 56 #[.pointer (some a), .int .i64 x]).run Try.prog w = .ok (.value (.tuple #[])) (w.setCell a (.int .i64 x)) :=
  run_call_store Try.func56 (by kernel_rfl) (by kernel_rfl) (by kernel_rfl) (by kernel_rfl) hc hz
theorem cas_hit (a : Addr) (x y : Int) (w : World) (hc : w.cell? a = some (.int .i64 x)) (hz : w.frozen? a = false) : (callFunc 60 #[.pointer (some a), .int .i64 x, .int .i64 y]).run Try.prog w = .ok (.value (.bool true)) (w.setCell a (.int .i64 y)) :=
  run_call_cas_hit Try.func60 (by kernel_rfl) (by kernel_rfl) (by kernel_rfl) .i64 (by kernel_rfl) hc hz
theorem cas_miss (a : Addr) (x o y : Int) (w : World) (hc : w.cell? a = some (.int .i64 x)) (hz : w.frozen? a = false) (hne : ¬ x = o) : (callFunc 60 #[.pointer (some a), .int .i64 o, .int .i64 y]).run Try.prog w = .ok (.value (.bool false)) w :=
  run_call_cas_miss Try.func60 (by kernel_rfl) (by kernel_rfl) (by kernel_rfl) .i64 (by kernel_rfl) hc hz hne

set_option maxRecDepth 100000 in
set_option maxHeartbeats 400000 in
theorem casm_hit (g : Nat) (x y : Int) (w : World) (hc : w.cell? ⟨g, 0, none⟩ = some (.int .i64 x)) (hz : w.frozen? ⟨g, 0, none⟩ = false) :
    Calls Try.prog 59 #[.pointer (some ⟨g, 0, none⟩), .int .i64 x, .int .i64 y] w fun e w' => e = .returned (.bool true) ∧ w.setCell ⟨g, 0, none⟩ (.int .i64 y) = w' := by
  have hld := cas_hit ⟨g, 0, none⟩ x y w hc hz
  go_enter Try.func59, Try.ntmps59
  go_wp2
  go_ret
  exact ⟨rfl, rfl⟩
set_option maxRecDepth 100000 in
set_option maxHeartbeats 400000 in
theorem casm_miss (g : Nat) (x o y : Int) (w : World) (hc : w.cell? ⟨g, 0, none⟩ = some (.int .i64 x)) (hz : w.frozen? ⟨g, 0, none⟩ = false) (hne : ¬ x = o) :
    Calls Try.prog 59 #[.pointer (some ⟨g, 0, none⟩), .int .i64 o, .int .i64 y] w fun e w' => e = .returned (.bool false) ∧ w = w' := by
  have hld := cas_miss ⟨g, 0, none⟩ x o y w hc hz hne
  clear hne
  go_enter Try.func59, Try.ntmps59
  go_wp2
  go_ret
  exact ⟨rfl, rfl⟩

theorem DqAt.kp {w w' : World} {bad : Nat → Prop} {gd gc : Nat} {d : Dq} {own : Value} (h : DqAt w gd gc d own) (hk : Kp bad w w') (h1 : ¬ bad gd) (h2 : ¬ bad gc) : DqAt w' gd gc d own := ⟨h.hdr.kp hk h1, h.cel.kp hk h2⟩
theorem DqAt.ne {w : World} {go gd gc : Nat} {d : Dq} {own : Value} {o : Dop} (h : DqAt w gd gc d own) (ho : OpAt w go gd o) : go ≠ gd ∧ go ≠ gc ∧ gd ≠ gc := ⟨Blk.ne_ ho h.hdr (by decide), Blk.ne_ ho h.cel (by decide), Blk.ne_ h.hdr h.cel (by decide)⟩
/-- A store into a cell of the deque. -/
theorem DqAt.set_ {w : World} {gd gc : Nat} {d d' : Dq} {own : Value} (h : DqAt w gd gc d own) (i : Nat) (v : Value) (hd : dqCells d' = (dqCells d).set i v) (hl : d'.sl.length = d.sl.length) : DqAt (w.setCell ⟨gc, i, none⟩ v) gd gc d' own :=
  ⟨by rw [hl]; exact h.hdr.far (p := ⟨gc, i, none⟩) (Blk.ne_ h.hdr h.cel (by decide)) v, by have := h.cel.set_ i v; rw [hd]; simpa using this⟩

section
variable (go gd gc : Nat) (d : Dq) (own : Value) (o : Dop) (w : World) (hd : DqAt w gd gc d own) (ho : OpAt w go gd o)
include hd ho
set_option maxRecDepth 100000 in
set_option maxHeartbeats 400000 in
theorem load_any (i : Nat) (x : Int) (hi : i < 2 + d.sl.length) (hx : (dqCells d)[i]? = some (.int .i64 x)) :
    Calls Try.prog 35 #[.pointer (some ⟨go, 0, none⟩), .int .i64 i] w fun e w' => e = .returned (.tuple #[.int .i64 x, .agg #[.int .u8 1, .int .i64 i]]) ∧ w.alloc (.cells #[.int .u8 1, .int .i64 i] 44) = w' := by
  have h0 := ho.get 0 (v := .pointer (some ⟨gd, 0, none⟩)) rfl
  have h1 := hd.hdr.c2.1
  have h2 := cel_at hd i hx
  have l0 := Blk.lt ho
  have l1 := hd.hdr.lt
  have l2 := hd.cel.lt
  have hld := load64 ⟨gc, i, none⟩ x
  have hi' : (i : Int) < 2 + (d.sl.length : Int) := by omega
  clear hx hd ho
  go_enter Try.func35, Try.ntmps35
  go_wp2
  exact bodyPost_ret (v := .tuple #[.int .i64 x, .agg #[.int .u8 1, .int .i64 i]]) (by simp [results, Try.results35, go_sem]) rfl ⟨rfl, rfl⟩
set_option maxRecDepth 100000 in
set_option maxHeartbeats 400000 in
theorem store_any (i : Nat) (x : Int) (u : Value) (hi : i < 2 + d.sl.length) (hx : (dqCells d)[i]? = some u) :
    Calls Try.prog 47 #[.pointer (some ⟨go, 0, none⟩), .int .i64 i, .int .i64 x] w fun e w' => e = .returned (.agg #[.int .u8 2, .int .i64 i]) ∧ (w.setCell ⟨gc, i, none⟩ (.int .i64 x)).alloc (.cells #[.int .u8 2, .int .i64 i] 44) = w' := by
  have h0 := ho.get 0 (v := .pointer (some ⟨gd, 0, none⟩)) rfl
  have h1 := hd.hdr.c2.1
  have h2 := cel_at hd i hx
  have l0 := Blk.lt ho
  have l1 := hd.hdr.lt
  have l2 := hd.cel.lt
  have f2 := hd.cel.frozen i
  have hld := store64 ⟨gc, i, none⟩ x u
  have hi' : (i : Int) < 2 + (d.sl.length : Int) := by omega
  clear hx hd ho
  go_enter Try.func47, Try.ntmps47
  go_wp2
  go_end0
  go_wp2
  exact bodyPost_ret (v := .agg #[.int .u8 2, .int .i64 i]) (by simp [results, Try.results47, go_sem]) rfl ⟨rfl, rfl⟩
set_option maxRecDepth 100000 in
set_option maxHeartbeats 400000 in
theorem up_hit (t : Int) (ht : o.t = t) (hx : d.top = t) (b0 : -1000000 ≤ t) (b1 : t ≤ 1000000) :
    Calls Try.prog 57 #[.pointer (some ⟨go, 0, none⟩)] w fun e w' => e = .returned (.tuple #[.bool true, .agg #[.int .u8 3, .int .i64 0]]) ∧ DqAt w' gd gc ⟨t + 1, d.bot, d.sl⟩ own ∧ OpAt w' go gd o ∧ Kp (fun k => k = gc) w w' := by
  have h0 := ho.get 0 (v := .pointer (some ⟨gd, 0, none⟩)) rfl
  have h3 := ho.get 3 (v := .int .i64 t) (by rw [← ht]; rfl)
  have h1 := hd.hdr.c2.1
  have h2 := cel_at hd 0 (v := .int .i64 t) (by rw [← hx]; rfl)
  have l0 := Blk.lt ho
  have l1 := hd.hdr.lt
  have l2 := hd.cel.lt
  have f2 := hd.cel.frozen 0
  have hi' : (0 : Int) < 2 + (d.sl.length : Int) := by omega
  have hne := hd.ne ho
  have HD := Lib.hid hd
  have HO := Lib.hid ho
  have HN := Lib.hid hne
  have HX := Lib.hid hx
  have hwr : IntKind.i64.wrap (t + 1) = t + 1 := IntWalk.i64_in _ ⟨by omega, by omega⟩
  clear hx hd ho ht hne
  go_enter Try.func57, Try.ntmps57
  go_wp2
  obtain ⟨W0, hW0⟩ : ∃ W0, W0 = w.alloc (.cells #[.int .u8 0, .int .i64 0] 44) := ⟨_, rfl⟩
  rw [← hW0]
  refine wp_region_still_tail 17 (by kernel_rfl) (by kernel_rfl) ?_
  change wpStill _ _ W0.drew _ _ _
  obtain ⟨W1, hW1⟩ : ∃ W1, W1 = W0.drew := ⟨_, rfl⟩
  rw [← hW1]
  have hbk : Kp (fun _ => False) w W1 := by rw [hW1, hW0]; exact ((Kp.refl _ w).alloc _).drew
  have k0 : W1.cell? ⟨go, 0, none⟩ = some (.pointer (some ⟨gd, 0, none⟩)) := (hbk.cell l0 id).trans h0
  have k3 : W1.cell? ⟨go, 3, none⟩ = some (.int .i64 t) := (hbk.cell l0 id).trans h3
  have k1 : W1.cell? ⟨gd, 0, none⟩ = some (.slice (some ⟨gc, 0, none⟩) (2 + d.sl.length) (2 + d.sl.length)) := (hbk.cell l1 id).trans h1
  have k2 := (hbk.cell (p := ⟨gc, 0, none⟩) l2 id).trans h2
  have k4 : W1.frozen? ⟨gc, 0, none⟩ = false := (hbk.frozen l2 id).trans f2
  have hz1 : w.heap.size < W1.heap.size := by rw [hW1, hW0]; simp
  have hA : Blk W1 w.heap.size 44 #[.int .u8 0, .int .i64 0] := by rw [hW1, hW0]; exact (Blk.new _ _ _).drew
  have HA := Lib.hid hA
  have HK := Lib.hid hbk
  have a0 := hA.c2
  have a1 := hA.frozen 0
  have a2 := hA.frozen 1
  have HW1 := Lib.hid hW1
  clear h0 h1 h2 h3 hW0 hW1 hA f2
  simp only [List.take_succ_cons, List.take_zero, List.drop_succ_cons, List.drop_zero]
  repeat still_step
  refine wpStill_nil ?_
  change wpList _ _ _ _ _ W0.drew
  rw [← HW1.out]
  go_wp2_with fail
  refine (casm_hit gc t (t + 1) W1 k2 k4).mono ?_
  rintro e w' ⟨rfl, rfl⟩
  go_wp2_with fail
  have B1 := (HA.out.far (p := ⟨gc, 0, none⟩) (by dsimp only; omega) (.int .i64 (t + 1))).set_ 0 (.int .u8 3)
  have B2 := B1.set_ 1 (.int .i64 0)
  have c0 := B1.get 0 (v := .int .u8 3) rfl
  have c1 := B2.get 1 (v := .int .i64 0) rfl
  refine bodyPost_ret (v := .tuple #[.bool true, .agg #[.int .u8 3, .int .i64 0]]) ?_ rfl ⟨rfl, ?_⟩
  · simp [results, Try.results57, go_sem, c0, c1]
  · obtain ⟨n1, n2, n3⟩ := HN.out
    have hd1 := (HD.out.kp HK.out id id).set_ (d' := ⟨t + 1, d.bot, d.sl⟩) 0 (.int .i64 (t + 1)) rfl rfl
    have hk1 : Kp (fun k => k = gc) w (W1.setCell ⟨gc, 0, none⟩ (.int .i64 (t + 1))) := (HK.out.mono (bad' := fun k => k = gc) fun k h => h.elim).setCell (p := ⟨gc, 0, none⟩) (.inl rfl) _
    have hk2 : Kp (fun k => k = w.heap.size) (W1.setCell ⟨gc, 0, none⟩ (.int .i64 (t + 1))) (((W1.setCell ⟨gc, 0, none⟩ (.int .i64 (t + 1))).setCell ⟨w.heap.size, 0, none⟩ (.int .u8 3)).setCell ⟨w.heap.size, 1, none⟩ (.int .i64 0)) := ((Kp.refl (fun k => k = w.heap.size) _).setCell (p := ⟨w.heap.size, 0, none⟩) (.inl rfl) _).setCell (p := ⟨w.heap.size, 1, none⟩) (.inl rfl) _
    exact ⟨hd1.kp hk2 (by omega) (by omega), ((HO.out.kp HK.out id).far (p := ⟨gc, 0, none⟩) n2 _).kp hk2 (by omega), hk1.trans' hk2 (fun i h e => by omega)⟩
set_option maxRecDepth 100000 in
set_option maxHeartbeats 400000 in
theorem up_miss (t : Int) (ht : o.t = t) (s : Int) (hx : d.top = s) (hst : ¬ s = t) (b0 : -1000000 ≤ t) (b1 : t ≤ 1000000) :
    Calls Try.prog 57 #[.pointer (some ⟨go, 0, none⟩)] w fun e w' => e = .returned (.tuple #[.bool false, .agg #[.int .u8 4, .int .i64 0]]) ∧ DqAt w' gd gc d own ∧ OpAt w' go gd o ∧ Kp (fun k => k = gc) w w' := by
  have h0 := ho.get 0 (v := .pointer (some ⟨gd, 0, none⟩)) rfl
  have h3 := ho.get 3 (v := .int .i64 t) (by rw [← ht]; rfl)
  have h1 := hd.hdr.c2.1
  have h2 := cel_at hd 0 (v := .int .i64 s) (by rw [← hx]; rfl)
  have l0 := Blk.lt ho
  have l1 := hd.hdr.lt
  have l2 := hd.cel.lt
  have f2 := hd.cel.frozen 0
  have hi' : (0 : Int) < 2 + (d.sl.length : Int) := by omega
  have hne := hd.ne ho
  have HD := Lib.hid hd
  have HO := Lib.hid ho
  have HN := Lib.hid hne
  have HX := Lib.hid hst
  clear hst
  have hwr : IntKind.i64.wrap (t + 1) = t + 1 := IntWalk.i64_in _ ⟨by omega, by omega⟩
  clear hx hd ho ht hne
  go_enter Try.func57, Try.ntmps57
  go_wp2
  obtain ⟨W0, hW0⟩ : ∃ W0, W0 = w.alloc (.cells #[.int .u8 0, .int .i64 0] 44) := ⟨_, rfl⟩
  rw [← hW0]
  refine wp_region_still_tail 17 (by kernel_rfl) (by kernel_rfl) ?_
  change wpStill _ _ W0.drew _ _ _
  obtain ⟨W1, hW1⟩ : ∃ W1, W1 = W0.drew := ⟨_, rfl⟩
  rw [← hW1]
  have hbk : Kp (fun _ => False) w W1 := by rw [hW1, hW0]; exact ((Kp.refl _ w).alloc _).drew
  have k0 : W1.cell? ⟨go, 0, none⟩ = some (.pointer (some ⟨gd, 0, none⟩)) := (hbk.cell l0 id).trans h0
  have k3 : W1.cell? ⟨go, 3, none⟩ = some (.int .i64 t) := (hbk.cell l0 id).trans h3
  have k1 : W1.cell? ⟨gd, 0, none⟩ = some (.slice (some ⟨gc, 0, none⟩) (2 + d.sl.length) (2 + d.sl.length)) := (hbk.cell l1 id).trans h1
  have k2 := (hbk.cell (p := ⟨gc, 0, none⟩) l2 id).trans h2
  have k4 : W1.frozen? ⟨gc, 0, none⟩ = false := (hbk.frozen l2 id).trans f2
  have hz1 : w.heap.size < W1.heap.size := by rw [hW1, hW0]; simp
  have hA : Blk W1 w.heap.size 44 #[.int .u8 0, .int .i64 0] := by rw [hW1, hW0]; exact (Blk.new _ _ _).drew
  have HA := Lib.hid hA
  have HK := Lib.hid hbk
  have a0 := hA.c2
  have a1 := hA.frozen 0
  have a2 := hA.frozen 1
  have HW1 := Lib.hid hW1
  clear h0 h1 h2 h3 hW0 hW1 hA f2
  simp only [List.take_succ_cons, List.take_zero, List.drop_succ_cons, List.drop_zero]
  repeat still_step
  refine wpStill_nil ?_
  change wpList _ _ _ _ _ W0.drew
  rw [← HW1.out]
  go_wp2_with fail
  refine (casm_miss gc s t (t + 1) W1 k2 k4 HX.out).mono ?_
  rintro e w' ⟨rfl, rfl⟩
  go_wp2_with fail
  have B1 := HA.out.set_ 0 (.int .u8 4)
  have B2 := B1.set_ 1 (.int .i64 0)
  have c0 := B1.get 0 (v := .int .u8 4) rfl
  have c1 := B2.get 1 (v := .int .i64 0) rfl
  refine bodyPost_ret (v := .tuple #[.bool false, .agg #[.int .u8 4, .int .i64 0]]) ?_ rfl ⟨rfl, ?_⟩
  · simp [results, Try.results57, go_sem, c0, c1]
  · obtain ⟨n1, n2, n3⟩ := HN.out
    have hk2 : Kp (fun k => k = w.heap.size) W1 ((W1.setCell ⟨w.heap.size, 0, none⟩ (.int .u8 4)).setCell ⟨w.heap.size, 1, none⟩ (.int .i64 0)) := ((Kp.refl (fun k => k = w.heap.size) _).setCell (p := ⟨w.heap.size, 0, none⟩) (.inl rfl) _).setCell (p := ⟨w.heap.size, 1, none⟩) (.inl rfl) _
    exact ⟨(HD.out.kp HK.out id id).kp hk2 (by omega) (by omega), (HO.out.kp HK.out id).kp hk2 (by omega), (HK.out.mono fun k h => h.elim).trans' hk2 (fun i h e => by omega)⟩
end

set_option maxRecDepth 100000 in
set_option maxHeartbeats 400000 in
theorem slot_any (gd gc : Nat) (d : Dq) (own : Value) (w : World) (hd : DqAt w gd gc d own) (n : Int) (hn0 : 0 ≤ n) (hn : 0 < d.sl.length) (hn2 : d.sl.length ≤ 1000000) :
    Calls Try.prog 32 #[.pointer (some ⟨gd, 0, none⟩), .int .i64 n] w fun e w' => e = .returned (.int .i64 (2 + (d.ix n : Int))) ∧ w = w' := by
  have h1 := hd.hdr.c2.1
  have e : n % (d.sl.length : Int) = (d.ix n : Int) := by
    have := Int.emod_nonneg n (show (d.sl.length : Int) ≠ 0 by omega)
    unfold Dq.ix slIx; omega
  have b := ix_lt d.sl hn n
  have HE := Lib.hid e
  have hz : ¬ (d.sl.length : Int) = 0 := by omega
  have hi : 1 ≤ (d.sl.length : Int) := by omega
  have hr : 2 + (d.sl.length : Int) - 2 = (d.sl.length : Int) := by omega
  have h3 := Int.emod_lt_of_pos n (show (0 : Int) < (d.sl.length : Int) by omega)
  have h4 := Int.emod_nonneg n hz
  clear hd e
  go_enter Try.func32, Try.ntmps32
  go_wp2
  go_ret
  exact ⟨by rw [← HE.out]; rfl, rfl⟩
end Go.Proofs.Ytdigjppdgiapfaa
