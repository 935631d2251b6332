/- Contracts: a deque's smaller functions. -/
import Derived.Test.YtdigjppdgiapfaaDso
set_option linter.unusedSimpArgs false
set_option linter.unusedVariables false
namespace Go.Proofs.Ytdigjppdgiapfaa
open Go.RowKit
attribute [local go_sem] block_of_add fn_some fn_nil fn_somen fn_niln
attribute [local go_sem ↓] Go.wp_at_zero Go.wp_at_succ

theorem next_some (n : Nat) (h1 : 1 ≤ n) (h2 : n ≤ 14) : ∃ F, nextV n = .func (.func F) #[] #[] := by
  have hq : n = 1 ∨ n = 2 ∨ n = 3 ∨ n = 4 ∨ n = 5 ∨ n = 6 ∨ n = 7 ∨ n = 8 ∨ n = 9 ∨ n = 10 ∨ n = 11 ∨ n = 12 ∨ n = 13 ∨ n = 14 := by omega
  rcases hq with rfl | rfl | rfl | rfl | rfl | rfl | rfl | rfl | rfl | rfl | rfl | rfl | rfl | rfl <;> exact ⟨_, rfl⟩
/-- The owner's last operation, none or done. -/
def Idle (w : World) (gd : Nat) (own : Value) : Prop := own = .pointer none ∨ ∃ go o, own = .pointer (some ⟨go, 0, none⟩) ∧ OpAt w go gd o ∧ o.pc = 0

set_option maxHeartbeats 400000 in
theorem none_nil (w : World) : Calls Try.prog 25 #[.pointer none] w fun e w' => e = .returned (.bool true) ∧ w' = w := by
  go_enter Try.func25, Try.ntmps25
  go_wp2
  go_ret
  exact ⟨rfl, rfl⟩
set_option maxHeartbeats 400000 in
theorem none_any (gd gc : Nat) (d : Dq) (own : Value) (w : World) (hd : DqAt w gd gc d own) (hn : 0 < d.sl.length) : Calls Try.prog 25 #[.pointer (some ⟨gd, 0, none⟩)] w fun e w' => e = .returned (.bool false) ∧ w' = w := by
  have h1 := hd.hdr.c2.1
  have hdec : decide (2 + (d.sl.length : Int) ≤ 2) = false := decide_eq_false (by omega)
  have hdec2 : ¬ 2 + (d.sl.length : Int) ≤ 2 := by omega
  have hdec3 : ¬ (d.sl.length : Int) ≤ 0 := by omega
  clear hd
  go_enter Try.func25, Try.ntmps25
  go_wp2
  go_ret
  exact ⟨rfl, rfl⟩
set_option maxHeartbeats 400000 in
theorem busy_nil (gd gc : Nat) (d : Dq) (w : World) (hd : DqAt w gd gc d (.pointer none)) : Calls Try.prog 26 #[.pointer (some ⟨gd, 0, none⟩)] w fun e w' => e = .returned (.bool false) ∧ w' = w := by
  have h1 := hd.hdr.c2.2
  clear hd
  go_enter Try.func26, Try.ntmps26
  go_wp2
  go_ret
  exact ⟨rfl, rfl⟩
set_option maxHeartbeats 400000 in
theorem busy_done (gd gc go : Nat) (d : Dq) (o : Dop) (w : World) (hd : DqAt w gd gc d (.pointer (some ⟨go, 0, none⟩))) (ho : OpAt w go gd o) (hp : o.pc = 0) : Calls Try.prog 26 #[.pointer (some ⟨gd, 0, none⟩)] w fun e w' => e = .returned (.bool false) ∧ w' = w := by
  have h1 := hd.hdr.c2.2
  have h2 := ho.get 1 (v := .nilFunc) (by simp [opCells, nextV, hp])
  clear hd ho hp
  go_enter Try.func26, Try.ntmps26
  go_wp2
  go_ret
  exact ⟨rfl, rfl⟩
set_option maxHeartbeats 400000 in
theorem busy_goes (gd gc go : Nat) (d : Dq) (o : Dop) (w : World) (hd : DqAt w gd gc d (.pointer (some ⟨go, 0, none⟩))) (ho : OpAt w go gd o) (hp : 1 ≤ o.pc) (hq : o.pc ≤ 14) : Calls Try.prog 26 #[.pointer (some ⟨gd, 0, none⟩)] w fun e w' => e = .returned (.bool true) ∧ w' = w := by
  have h1 := hd.hdr.c2.2
  obtain ⟨F, hF⟩ := next_some o.pc hp hq
  have h2 := ho.get 1 (v := .func (.func F) #[] #[]) (by simp [opCells, hF])
  clear hd ho hp hq hF
  go_enter Try.func26, Try.ntmps26
  go_wp2
  go_ret
  exact ⟨rfl, rfl⟩
theorem busy_idle (gd gc : Nat) (d : Dq) (own : Value) (w : World) (hd : DqAt w gd gc d own) (hi : Idle w gd own) : Calls Try.prog 26 #[.pointer (some ⟨gd, 0, none⟩)] w fun e w' => e = .returned (.bool false) ∧ w' = w := by
  rcases hi with rfl | ⟨go, o, rfl, ho, hp⟩
  · exact busy_nil gd gc d w hd
  · exact busy_done gd gc go d o w hd ho hp
set_option maxHeartbeats 400000 in
theorem told_nil (w : World) : Calls Try.prog 17 #[.pointer none] w fun e w' => e = .returned (.tuple #[.int .u8 0, .int .i64 0]) ∧ w' = w := by
  go_enter Try.func17, Try.ntmps17
  go_wp2_with fail
  exact bodyPost_ret (v := .tuple #[.int .u8 0, .int .i64 0]) (by simp [results, Try.results17, go_sem]) rfl ⟨rfl, rfl⟩
set_option maxHeartbeats 400000 in
theorem told_any (go gd : Nat) (o : Dop) (w : World) (ho : OpAt w go gd o) : Calls Try.prog 17 #[.pointer (some ⟨go, 0, none⟩)] w fun e w' => e = .returned (.tuple #[.int .u8 (told o).1, .int .i64 (told o).2]) ∧ Kp (fun _ => False) w w' := by
  have g4 := ho.get 4 (v := .int .i64 o.x) rfl
  by_cases h : o.how = 2
  · have g6 := ho.get 6 (v := .int .u8 2) (by simp [opCells, h])
    have HT : Hid (told o = (2, o.x)) := Lib.hid (by simp [told, h])
    clear ho h
    go_enter Try.func17, Try.ntmps17
    go_wp2_with fail
    go_quiet (fail)
    go_wp2_with fail
    refine bodyPost_ret (v := .tuple #[.int .u8 2, .int .i64 o.x]) (by simp [results, Try.results17, go_sem]) rfl ⟨by rw [HT.out]; rfl, ?_⟩
    exact (Kp.refl _ w).drewN _
  · have g6 := ho.get 6 (v := .int .u8 o.how) rfl
    have h1 : ((o.how : Int) == 2) = false := by simpa using (show ¬ (o.how : Int) = 2 by omega)
    have h2 : ¬ (o.how : Int) = 2 := by omega
    have HT : Hid (told o = (o.how, 0)) := Lib.hid (by simp [told, h])
    clear ho h
    go_enter Try.func17, Try.ntmps17
    go_wp2_with fail
    refine bodyPost_ret (v := .tuple #[.int .u8 o.how, .int .i64 0]) (by simp [results, Try.results17, go_sem]) rfl ⟨by rw [HT.out], ?_⟩
    exact Kp.refl _ w
set_option maxHeartbeats 400000 in
theorem tasks_nil (w : World) : Calls Try.prog 20 #[.pointer none] w fun e w' => e = .returned (.slice none 0 0) ∧ w' = w := by
  have HN := none_nil w
  go_enter Try.func20, Try.ntmps20
  go_wp2_with fail
  refine HN.mono ?_
  rintro e w' ⟨rfl, rfl⟩
  go_wp2
  go_ret
  exact ⟨rfl, rfl⟩

set_option maxHeartbeats 400000 in
theorem step_nil (w : World) : Calls Try.prog 15 #[.pointer none] w fun e w' => e = .returned (.agg #[.int .u8 0, .int .i64 0]) ∧ Kp (fun _ => False) w w' := by
  go_enter Try.func15, Try.ntmps15
  go_wp2_with fail
  refine bodyPost_ret (v := .agg #[.int .u8 0, .int .i64 0]) (res_acc Try.results15 rfl ?hbx) rfl ⟨rfl, (Kp.refl _ w).alloc _⟩
  exact Blk.new _ _ _
set_option maxHeartbeats 400000 in
theorem push_nil (x : Int) (w : World) : Calls Try.prog 23 #[.pointer none, .int .i64 x] w fun e w' => e = .returned (.tuple #[.pointer none, .int .i64 2]) ∧ w' = w := by
  have HN := none_nil w
  go_enter Try.func23, Try.ntmps23
  go_wp2_with fail
  refine HN.mono ?_
  rintro e w' ⟨rfl, rfl⟩
  go_wp2_with fail
  exact bodyPost_ret (v := .tuple #[.pointer none, .int .i64 2]) (by simp [results, Try.results23, go_sem]) rfl ⟨rfl, rfl⟩
set_option maxHeartbeats 400000 in
theorem pop_nil (w : World) : Calls Try.prog 14 #[.pointer none] w fun e w' => e = .returned (.tuple #[.pointer none, .int .i64 2]) ∧ w' = w := by
  have HN := none_nil w
  go_enter Try.func14, Try.ntmps14
  go_wp2_with fail
  refine HN.mono ?_
  rintro e w' ⟨rfl, rfl⟩
  go_wp2_with fail
  exact bodyPost_ret (v := .tuple #[.pointer none, .int .i64 2]) (by simp [results, Try.results14, go_sem]) rfl ⟨rfl, rfl⟩
set_option maxHeartbeats 400000 in
theorem steal_nil (w : World) : Calls Try.prog 24 #[.pointer none] w fun e w' => e = .returned (.tuple #[.pointer none, .int .i64 2]) ∧ w' = w := by
  have HN := none_nil w
  go_enter Try.func24, Try.ntmps24
  go_wp2_with fail
  refine HN.mono ?_
  rintro e w' ⟨rfl, rfl⟩
  go_wp2_with fail
  exact bodyPost_ret (v := .tuple #[.pointer none, .int .i64 2]) (by simp [results, Try.results24, go_sem]) rfl ⟨rfl, rfl⟩
/-- What a begun operation is: a block of its own; the deque's own is it, or stays. -/
structure Begun (w w' : World) (gd gc : Nat) (d : Dq) (own : Value) (o : Dop) (e : Ending) : Prop where
  e : e = .returned (.tuple #[.pointer (some ⟨w.heap.size, 0, none⟩), .int .i64 0])
  d : DqAt w' gd gc d own
  o : OpAt w' w.heap.size gd o
  k : Kp (fun k => k = gd) w w'
section
variable (gd gc : Nat) (d : Dq) (own : Value) (w : World) (hd : DqAt w gd gc d own) (hn : 0 < d.sl.length)
include hd hn
set_option maxHeartbeats 400000 in
theorem steal_any : Calls Try.prog 24 #[.pointer (some ⟨gd, 0, none⟩)] w fun e w' => Begun w w' gd gc d own opSteal e := by
  have HN := Lib.hid (none_any gd gc d own w hd hn)
  have HD := Lib.hid hd
  clear hd hn
  go_enter Try.func24, Try.ntmps24
  go_wp2_with fail
  refine HN.out.mono ?_
  rintro e w' ⟨rfl, rfl⟩
  go_wp2_with fail
  refine bodyPost_ret (v := .tuple #[.pointer (some ⟨w'.heap.size, 0, none⟩), .int .i64 0]) (by simp [results, Try.results24, go_sem]) rfl ⟨rfl, ?_, Blk.new _ _ _, (Kp.refl _ _).alloc _⟩
  exact HD.out.kp ((Kp.refl (fun _ => False) _).alloc _) id id
set_option maxHeartbeats 400000 in
theorem pop_any (hi : Idle w gd own) : Calls Try.prog 14 #[.pointer (some ⟨gd, 0, none⟩)] w fun e w' => Begun w w' gd gc d (.pointer (some ⟨w.heap.size, 0, none⟩)) opPop e := by
  have HN := Lib.hid (none_any gd gc d own w hd hn)
  have HB := Lib.hid (busy_idle gd gc d own w hd hi)
  have HD := Lib.hid hd
  have l1 := hd.hdr.lt
  have l2 := hd.cel.lt
  have c1 := hd.hdr.c2.2
  have f1 := hd.hdr.frozen 1
  have hne := Blk.ne_ hd.hdr hd.cel (by decide)
  have HE := Lib.hid hne
  clear hd hn hi hne
  go_enter Try.func14, Try.ntmps14
  go_wp2_with fail
  refine HN.out.mono ?_
  rintro e w' ⟨rfl, rfl⟩
  go_wp2_with fail
  refine HB.out.mono ?_
  rintro e w2 ⟨rfl, rfl⟩
  go_wp2_with fail
  have hne := HE.out
  refine bodyPost_ret (v := .tuple #[.pointer (some ⟨w2.heap.size, 0, none⟩), .int .i64 0]) (by simp [results, Try.results14, go_sem]) rfl ⟨rfl, ⟨?_, ?_⟩, ?_, ?_⟩
  · exact Blk.conv ((HD.out.hdr.set_ 1 _).alloc _) rfl
  · exact (HD.out.cel.far (p := ⟨gd, 1, none⟩) (Ne.symm hne) _).alloc _
  · exact Blk.at_ _ _ _ (by simp)
  · exact ((Kp.refl (fun k => k = gd) _).setCell (p := ⟨gd, 1, none⟩) (.inl rfl) _).alloc _
set_option maxHeartbeats 400000 in
theorem push_any (x : Int) (hx : 0 ≤ x) (hi : Idle w gd own) : Calls Try.prog 23 #[.pointer (some ⟨gd, 0, none⟩), .int .i64 x] w fun e w' => Begun w w' gd gc d (.pointer (some ⟨w.heap.size, 0, none⟩)) (opPush x) e := by
  have HN := Lib.hid (none_any gd gc d own w hd hn)
  have HB := Lib.hid (busy_idle gd gc d own w hd hi)
  have HD := Lib.hid hd
  have l1 := hd.hdr.lt
  have l2 := hd.cel.lt
  have c1 := hd.hdr.c2.2
  have f1 := hd.hdr.frozen 1
  have hne := Blk.ne_ hd.hdr hd.cel (by decide)
  have HE := Lib.hid hne
  have hx2 : decide (x < 0) = false := decide_eq_false (by omega)
  clear hd hn hi hne
  go_enter Try.func23, Try.ntmps23
  go_wp2_with fail
  refine HN.out.mono ?_
  rintro e w' ⟨rfl, rfl⟩
  go_wp2_with fail
  refine HB.out.mono ?_
  rintro e w2 ⟨rfl, rfl⟩
  go_wp2_with fail
  have hne := HE.out
  refine bodyPost_ret (v := .tuple #[.pointer (some ⟨w2.heap.size, 0, none⟩), .int .i64 0]) (by simp [results, Try.results23, go_sem]) rfl ⟨rfl, ⟨?_, ?_⟩, ?_, ?_⟩
  · exact Blk.conv ((HD.out.hdr.set_ 1 _).alloc _) rfl
  · exact (HD.out.cel.far (p := ⟨gd, 1, none⟩) (Ne.symm hne) _).alloc _
  · exact Blk.at_ _ _ _ (by simp)
  · exact ((Kp.refl (fun k => k = gd) _).setCell (p := ⟨gd, 1, none⟩) (.inl rfl) _).alloc _
set_option maxHeartbeats 400000 in
theorem push_neg (x : Int) (hx : x < 0) (hi : Idle w gd own) : Calls Try.prog 23 #[.pointer (some ⟨gd, 0, none⟩), .int .i64 x] w fun e w' => e = .returned (.tuple #[.pointer none, .int .i64 1]) ∧ w' = w := by
  have HN := Lib.hid (none_any gd gc d own w hd hn)
  have HB := Lib.hid (busy_idle gd gc d own w hd hi)
  have hx2 : decide (x < 0) = true := decide_eq_true (by omega)
  clear hd hn hi
  go_enter Try.func23, Try.ntmps23
  go_wp2_with fail
  refine HN.out.mono ?_
  rintro e w' ⟨rfl, rfl⟩
  go_wp2_with fail
  refine HB.out.mono ?_
  rintro e w2 ⟨rfl, rfl⟩
  go_wp2_with fail
  exact bodyPost_ret (v := .tuple #[.pointer none, .int .i64 1]) (by simp [results, Try.results23, go_sem]) rfl ⟨rfl, rfl⟩
end
section
set_option maxHeartbeats 400000 in
theorem pop_busy (gd gc go : Nat) (d : Dq) (o : Dop) (w : World) (hd : DqAt w gd gc d (.pointer (some ⟨go, 0, none⟩))) (hn : 0 < d.sl.length) (ho : OpAt w go gd o) (hp : 1 ≤ o.pc) (hq : o.pc ≤ 14) : Calls Try.prog 14 #[.pointer (some ⟨gd, 0, none⟩)] w fun e w' => e = .returned (.tuple #[.pointer none, .int .i64 3]) ∧ w' = w := by
  have HN := Lib.hid (none_any gd gc d _ w hd hn)
  have HB := Lib.hid (busy_goes gd gc go d o w hd ho hp hq)
  clear hd hn ho hp hq
  go_enter Try.func14, Try.ntmps14
  go_wp2_with fail
  refine HN.out.mono ?_
  rintro e w' ⟨rfl, rfl⟩
  go_wp2_with fail
  refine HB.out.mono ?_
  rintro e w2 ⟨rfl, rfl⟩
  go_wp2_with fail
  exact bodyPost_ret (v := .tuple #[.pointer none, .int .i64 3]) (by simp [results, Try.results14, go_sem]) rfl ⟨rfl, rfl⟩
end
end Go.Proofs.Ytdigjppdgiapfaa
