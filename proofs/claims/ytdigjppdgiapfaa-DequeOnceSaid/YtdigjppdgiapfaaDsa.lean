/- Contracts: the steps of an operation on a deque. -/
import Derived.Test.YtdigjppdgiapfaaDst
import Derived.BigQuiet
import Derived.Deep.QuietTactic
import Derived.Laws.EntriesVeiled
set_option linter.unusedSimpArgs false
set_option linter.unusedVariables false
namespace Go.Proofs.Ytdigjppdgiapfaa
open Go.RowKit
attribute [local go_sem] block_of_add
attribute [local go_sem ↓] Go.wp_at_zero Go.wp_at_succ

/-- What a step leaves. -/
structure Stepped (w w' : World) (go gd gc : Nat) (own : Value) (r : Dq × Dop × Nat × Int) (e : Ending) : Prop where
  e : e = .returned (.agg #[.int .u8 r.2.2.1, .int .i64 r.2.2.2])
  d : DqAt w' gd gc r.1 own
  o : OpAt w' go gd r.2.1
  k : Kp (fun k => k = gc ∨ k = go) w w'
/-- A world and itself behind draws. -/
structure Drawn (w W : World) : Prop where
  heap : W.heap = w.heap
  os : W.os = w.os
  tape : W.tape = w.tape
  output : W.output = w.output
theorem Drawn.blk {w W : World} (h : Drawn w W) {g : Nat} {t : TypeId} {cs : Array Value} (b : Blk w g t cs) : Blk W g t cs := by unfold Blk; rw [h.heap]; exact b
theorem Drawn.kp {bad : Nat → Prop} {a w W : World} (h : Drawn w W) (k : Kp bad a w) : Kp bad a W := ⟨h.os.trans k.os, h.tape.trans k.tape, h.output.trans k.output, by rw [h.heap]; exact k.size, fun i h1 h2 => by rw [h.heap]; exact k.block i h1 h2⟩
theorem region_tail {P : Program} {id : Nat} {Q : Exit → Act → World → Prop} {a : Act} {w : World} {l : List Oper} (n : Nat) (hm : P.follows .mixedOrders = true) (hB : Region.lexTailB .any l.toArray n = true)
    (h : ∀ W, Drawn w W → wpStill P l.toArray W (fun a' => wpList P l.toArray Q (l.drop n) a' W) (l.take n) a) : (Code.region id l.toArray true).wp P Q a w :=
  wp_region_still_tail n hm hB (h _ ⟨rfl, rfl, rfl, rfl⟩)
theorem res_acc {fn : Func} {tmps : Array Value} {s : Nat} {g : Nat} {W : World} {a b : Value} (hr : fn.results = #[.cell s 44]) (ht : tmps[s]? = some (.pointer (some ⟨g, 0, none⟩))) (hb : Blk W g 44 #[a, b]) : (results fn tmps).run Try.prog W = .ok (.agg #[a, b]) W := by
  obtain ⟨h0, h1⟩ := hb.c2
  have hz := Try.sizeOf44
  have ha := Try.isAgg44
  simp [results, hr, ht, go_sem, h0, h1, hz, ha]
theorem Blk.conv {w : World} {g : Nat} {t : TypeId} {cs cs' : Array Value} (h : Blk w g t cs) (e : cs = cs') : Blk w g t cs' := e ▸ h
theorem op_b (d : Dop) (gd : Nat) : opCells gd d = #[.pointer (some ⟨gd, 0, none⟩), nextV d.pc, .int .i64 d.b, .int .i64 d.t, .int .i64 d.x, .bool d.sw, .int .u8 d.how] := rfl

theorem store_rel (go gd gc : Nat) (d d' : Dq) (own : Value) (o : Dop) (w : World) (hd : DqAt w gd gc d own) (ho : OpAt w go gd o) (i : Nat) (x : Int) (u : Value) (hi : i < 2 + d.sl.length) (hu : (dqCells d)[i]? = some u) (hc : dqCells d' = (dqCells d).set i (.int .i64 x)) (hl : d'.sl.length = d.sl.length) :
    Calls Try.prog 47 #[.pointer (some ⟨go, 0, none⟩), .int .i64 i, .int .i64 x] w fun e w' => e = .returned (.agg #[.int .u8 2, .int .i64 i]) ∧ DqAt w' gd gc d' own ∧ OpAt w' go gd o ∧ Kp (fun k => k = gc) w w' :=
  (store_any go gd gc d own o w hd ho i x u hi hu).mono fun e w' ⟨he, hw⟩ => by
    subst hw
    obtain ⟨n1, n2, n3⟩ := hd.ne ho
    exact ⟨he, (hd.set_ i _ hc hl).kp (bad := fun _ => False) ((Kp.refl _ _).alloc _) id id, (Blk.far (p := ⟨gc, i, none⟩) ho n2 _).alloc _, ((Kp.refl (fun k => k = gc) w).setCell (p := ⟨gc, i, none⟩) (.inl rfl) _).alloc _⟩
theorem room_any (gd gc : Nat) (d : Dq) (own : Value) (w : World) (hd : DqAt w gd gc d own) (hl : d.sl.length ≤ 1000000) : Calls Try.prog 43 #[.pointer (some ⟨gd, 0, none⟩)] w fun e w' => e = .returned (.int .i64 d.sl.length) ∧ w' = w := by
  have h1 := hd.hdr.c2.1
  have hr : 2 + (d.sl.length : Int) - 2 = (d.sl.length : Int) := by omega
  clear hd
  go_enter Try.func43, Try.ntmps43
  go_wp2
  go_ret
  exact ⟨rfl, rfl⟩
set_option maxRecDepth 100000 in
set_option maxHeartbeats 400000 in
theorem end_any (go gd : Nat) (o : Dop) (h : Nat) (w : World) (ho : OpAt w go gd o) :
    Calls Try.prog 49 #[.pointer (some ⟨go, 0, none⟩), .int .u8 h] w fun e w' => e = .returned (.tuple #[]) ∧ (w.setCell ⟨go, 1, none⟩ .nilFunc).setCell ⟨go, 6, none⟩ (.int .u8 h) = w' := by
  have g1 := ho.get 1 (v := nextV o.pc) rfl
  have g6 := ho.get 6 (v := .int .u8 o.how) rfl
  have z1 := ho.frozen 1
  have z6 := ho.frozen 6
  clear ho
  go_enter Try.func49, Try.ntmps49
  go_wp2
  go_end0
  exact ⟨rfl, rfl⟩
theorem end_rel (go gd : Nat) (o : Dop) (h : Nat) (w : World) (ho : OpAt w go gd o) :
    Calls Try.prog 49 #[.pointer (some ⟨go, 0, none⟩), .int .u8 h] w fun e w' => e = .returned (.tuple #[]) ∧ OpAt w' go gd { o with pc := 0, how := h } ∧ Kp (fun k => k = go) w w' :=
  (end_any go gd o h w ho).mono fun e w' ⟨he, hw⟩ => by
    subst hw
    exact ⟨he, Blk.conv (Blk.set_ (Blk.set_ ho 1 _) 6 _) rfl, ((Kp.refl (fun k => k = go) w).setCell (p := ⟨go, 1, none⟩) (.inl rfl) _).setCell (p := ⟨go, 6, none⟩) (.inl rfl) _⟩

section
variable (go gd gc : Nat) (d : Dq) (own : Value) (o : Dop) (w : World) (hd : DqAt w gd gc d own) (ho : OpAt w go gd o)
include hd ho
set_option maxRecDepth 100000 in
set_option maxHeartbeats 800000 in
theorem pushBottom_any (hp : o.pc = 1) :
    Calls Try.prog 33 #[.pointer (some ⟨go, 0, none⟩)] w fun e w' => Stepped w w' go gd gc own (dstep d o) e := by
  have h0 := ho.get 0 (v := .pointer (some ⟨gd, 0, none⟩)) rfl
  have g1 := ho.get 1 (v := nextV o.pc) rfl
  have g2 := ho.get 2 (v := .int .i64 o.b) rfl
  have g3 := ho.get 3 (v := .int .i64 o.t) rfl
  have g4 := ho.get 4 (v := .int .i64 o.x) rfl
  have g5 := ho.get 5 (v := .bool o.sw) rfl
  have g6 := ho.get 6 (v := .int .u8 o.how) rfl
  have z1 := ho.frozen 1
  have z2 := ho.frozen 2
  have z3 := ho.frozen 3
  have z4 := ho.frozen 4
  have z5 := ho.frozen 5
  have z6 := ho.frozen 6
  have l0 := Blk.lt ho
  have l1 := hd.hdr.lt
  have l2 := hd.cel.lt
  have hne := hd.ne ho
  have HD := Lib.hid hd
  have HO := Lib.hid ho
  have HN := Lib.hid hne
  have HS : Hid (dstep d o = (d, { o with b := d.bot, pc := 2 }, 1, 1)) := Lib.hid (by simp only [dstep, hp])
  have HC := Lib.hid (load_any go gd gc d own o (w.alloc (.cells #[.int .u8 0, .int .i64 0] 44)) (hd.kp ((Kp.refl (fun _ => False) w).alloc _) id id) (ho.kp ((Kp.refl (fun _ => False) w).alloc _) id) 1 d.bot (by omega) rfl)
  clear hd ho hne hp
  go_enter Try.func33, Try.ntmps33
  go_wp2_with fail
  refine HC.out.mono ?_
  rintro e w' ⟨rfl, rfl⟩
  go_wp2_with fail
  have HOB : Blk w go 67 (opCells gd o) := HO.out
  have n1 := HN.out.1
  have n2 := HN.out.2.1
  have n3 := HN.out.2.2
  have m1 := Ne.symm n1
  have m2 := Ne.symm n2
  have m3 := Ne.symm n3
  rw [HS.out]
  refine bodyPost_ret (v := .agg #[.int .u8 1, .int .i64 1]) (res_acc Try.results33 rfl ?hbx) rfl ⟨rfl, ⟨?_, ?_⟩, ?_, ?_⟩
  case hbx =>
    apply Blk.conv
    · repeat (with_reducible first | exact HOB | (apply Blk.at_; simp; done) | apply Blk.alloc | apply Blk.set_ | (apply Blk.far; any_goals (first | (dsimp only; assumption) | (dsimp only; omega))))
    · first | rfl | simp
  · apply Blk.conv
    · repeat (with_reducible first | exact HD.out.hdr | (apply Blk.at_; simp; done) | apply Blk.alloc | apply Blk.set_ | (apply Blk.far; any_goals (first | (dsimp only; assumption) | (dsimp only; omega))))
    · first | rfl | simp [dqCells, Dq.put, opCells, nextV]
  · apply Blk.conv
    · repeat (with_reducible first | exact HD.out.cel | (apply Blk.at_; simp; done) | apply Blk.alloc | apply Blk.set_ | (apply Blk.far; any_goals (first | (dsimp only; assumption) | (dsimp only; omega))))
    · first | rfl | simp [dqCells, Dq.put, opCells, nextV]
  · apply Blk.conv
    · repeat (with_reducible first | exact HOB | (apply Blk.at_; simp; done) | apply Blk.alloc | apply Blk.set_ | (apply Blk.far; any_goals (first | (dsimp only; assumption) | (dsimp only; omega))))
    · first | rfl | simp [dqCells, Dq.put, opCells, nextV]
  · repeat (first | with_reducible exact Kp.refl _ _ | with_reducible refine Kp.alloc ?_ _ | (with_reducible refine Kp.setCell ?_ ?_ _; rotate_left; first | exact .inl (.inl rfl) | exact .inl (.inr rfl) | (right; dsimp only; simp; try omega)))
set_option maxRecDepth 100000 in
set_option maxHeartbeats 800000 in
theorem popTop_any (hp : o.pc = 7) :
    Calls Try.prog 46 #[.pointer (some ⟨go, 0, none⟩)] w fun e w' => Stepped w w' go gd gc own (dstep d o) e := by
  have h0 := ho.get 0 (v := .pointer (some ⟨gd, 0, none⟩)) rfl
  have g1 := ho.get 1 (v := nextV o.pc) rfl
  have g2 := ho.get 2 (v := .int .i64 o.b) rfl
  have g3 := ho.get 3 (v := .int .i64 o.t) rfl
  have g4 := ho.get 4 (v := .int .i64 o.x) rfl
  have g5 := ho.get 5 (v := .bool o.sw) rfl
  have g6 := ho.get 6 (v := .int .u8 o.how) rfl
  have z1 := ho.frozen 1
  have z2 := ho.frozen 2
  have z3 := ho.frozen 3
  have z4 := ho.frozen 4
  have z5 := ho.frozen 5
  have z6 := ho.frozen 6
  have l0 := Blk.lt ho
  have l1 := hd.hdr.lt
  have l2 := hd.cel.lt
  have hne := hd.ne ho
  have HD := Lib.hid hd
  have HO := Lib.hid ho
  have HN := Lib.hid hne
  have HS : Hid (dstep d o = (d, { o with t := d.top, pc := 8 }, 1, 0)) := Lib.hid (by simp only [dstep, hp])
  have HC := Lib.hid (load_any go gd gc d own o (w.alloc (.cells #[.int .u8 0, .int .i64 0] 44)) (hd.kp ((Kp.refl (fun _ => False) w).alloc _) id id) (ho.kp ((Kp.refl (fun _ => False) w).alloc _) id) 0 d.top (by omega) rfl)
  clear hd ho hne hp
  go_enter Try.func46, Try.ntmps46
  go_wp2_with fail
  refine HC.out.mono ?_
  rintro e w' ⟨rfl, rfl⟩
  go_wp2_with fail
  have HOB : Blk w go 67 (opCells gd o) := HO.out
  have n1 := HN.out.1
  have n2 := HN.out.2.1
  have n3 := HN.out.2.2
  have m1 := Ne.symm n1
  have m2 := Ne.symm n2
  have m3 := Ne.symm n3
  rw [HS.out]
  refine bodyPost_ret (v := .agg #[.int .u8 1, .int .i64 0]) (res_acc Try.results46 rfl ?hbx) rfl ⟨rfl, ⟨?_, ?_⟩, ?_, ?_⟩
  case hbx =>
    apply Blk.conv
    · repeat (with_reducible first | exact HOB | (apply Blk.at_; simp; done) | apply Blk.alloc | apply Blk.set_ | (apply Blk.far; any_goals (first | (dsimp only; assumption) | (dsimp only; omega))))
    · first | rfl | simp
  · apply Blk.conv
    · repeat (with_reducible first | exact HD.out.hdr | (apply Blk.at_; simp; done) | apply Blk.alloc | apply Blk.set_ | (apply Blk.far; any_goals (first | (dsimp only; assumption) | (dsimp only; omega))))
    · first | rfl | simp [dqCells, Dq.put, opCells, nextV]
  · apply Blk.conv
    · repeat (with_reducible first | exact HD.out.cel | (apply Blk.at_; simp; done) | apply Blk.alloc | apply Blk.set_ | (apply Blk.far; any_goals (first | (dsimp only; assumption) | (dsimp only; omega))))
    · first | rfl | simp [dqCells, Dq.put, opCells, nextV]
  · apply Blk.conv
    · repeat (with_reducible first | exact HOB | (apply Blk.at_; simp; done) | apply Blk.alloc | apply Blk.set_ | (apply Blk.far; any_goals (first | (dsimp only; assumption) | (dsimp only; omega))))
    · first | rfl | simp [dqCells, Dq.put, opCells, nextV]
  · repeat (first | with_reducible exact Kp.refl _ _ | with_reducible refine Kp.alloc ?_ _ | (with_reducible refine Kp.setCell ?_ ?_ _; rotate_left; first | exact .inl (.inl rfl) | exact .inl (.inr rfl) | (right; dsimp only; simp; try omega)))
set_option maxRecDepth 100000 in
set_option maxHeartbeats 800000 in
theorem stealTop_any (hp : o.pc = 11) :
    Calls Try.prog 34 #[.pointer (some ⟨go, 0, none⟩)] w fun e w' => Stepped w w' go gd gc own (dstep d o) e := by
  have h0 := ho.get 0 (v := .pointer (some ⟨gd, 0, none⟩)) rfl
  have g1 := ho.get 1 (v := nextV o.pc) rfl
  have g2 := ho.get 2 (v := .int .i64 o.b) rfl
  have g3 := ho.get 3 (v := .int .i64 o.t) rfl
  have g4 := ho.get 4 (v := .int .i64 o.x) rfl
  have g5 := ho.get 5 (v := .bool o.sw) rfl
  have g6 := ho.get 6 (v := .int .u8 o.how) rfl
  have z1 := ho.frozen 1
  have z2 := ho.frozen 2
  have z3 := ho.frozen 3
  have z4 := ho.frozen 4
  have z5 := ho.frozen 5
  have z6 := ho.frozen 6
  have l0 := Blk.lt ho
  have l1 := hd.hdr.lt
  have l2 := hd.cel.lt
  have hne := hd.ne ho
  have HD := Lib.hid hd
  have HO := Lib.hid ho
  have HN := Lib.hid hne
  have HS : Hid (dstep d o = (d, { o with t := d.top, pc := 12 }, 1, 0)) := Lib.hid (by simp only [dstep, hp])
  have HC := Lib.hid (load_any go gd gc d own o (w.alloc (.cells #[.int .u8 0, .int .i64 0] 44)) (hd.kp ((Kp.refl (fun _ => False) w).alloc _) id id) (ho.kp ((Kp.refl (fun _ => False) w).alloc _) id) 0 d.top (by omega) rfl)
  clear hd ho hne hp
  go_enter Try.func34, Try.ntmps34
  go_wp2_with fail
  refine HC.out.mono ?_
  rintro e w' ⟨rfl, rfl⟩
  go_wp2_with fail
  have HOB : Blk w go 67 (opCells gd o) := HO.out
  have n1 := HN.out.1
  have n2 := HN.out.2.1
  have n3 := HN.out.2.2
  have m1 := Ne.symm n1
  have m2 := Ne.symm n2
  have m3 := Ne.symm n3
  rw [HS.out]
  refine bodyPost_ret (v := .agg #[.int .u8 1, .int .i64 0]) (res_acc Try.results34 rfl ?hbx) rfl ⟨rfl, ⟨?_, ?_⟩, ?_, ?_⟩
  case hbx =>
    apply Blk.conv
    · repeat (with_reducible first | exact HOB | (apply Blk.at_; simp; done) | apply Blk.alloc | apply Blk.set_ | (apply Blk.far; any_goals (first | (dsimp only; assumption) | (dsimp only; omega))))
    · first | rfl | simp
  · apply Blk.conv
    · repeat (with_reducible first | exact HD.out.hdr | (apply Blk.at_; simp; done) | apply Blk.alloc | apply Blk.set_ | (apply Blk.far; any_goals (first | (dsimp only; assumption) | (dsimp only; omega))))
    · first | rfl | simp [dqCells, Dq.put, opCells, nextV]
  · apply Blk.conv
    · repeat (with_reducible first | exact HD.out.cel | (apply Blk.at_; simp; done) | apply Blk.alloc | apply Blk.set_ | (apply Blk.far; any_goals (first | (dsimp only; assumption) | (dsimp only; omega))))
    · first | rfl | simp [dqCells, Dq.put, opCells, nextV]
  · apply Blk.conv
    · repeat (with_reducible first | exact HOB | (apply Blk.at_; simp; done) | apply Blk.alloc | apply Blk.set_ | (apply Blk.far; any_goals (first | (dsimp only; assumption) | (dsimp only; omega))))
    · first | rfl | simp [dqCells, Dq.put, opCells, nextV]
  · repeat (first | with_reducible exact Kp.refl _ _ | with_reducible refine Kp.alloc ?_ _ | (with_reducible refine Kp.setCell ?_ ?_ _; rotate_left; first | exact .inl (.inl rfl) | exact .inl (.inr rfl) | (right; dsimp only; simp; try omega)))
end
end Go.Proofs.Ytdigjppdgiapfaa
