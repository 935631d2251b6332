/- Contracts: the law's anchor. -/
import Derived.Test.YtdigjppdgiapfaaDla
set_option linter.unusedSimpArgs false
set_option linter.unusedVariables false
namespace Go.Proofs.Ytdigjppdgiapfaa
open Go.RowKit
attribute [local go_sem] block_of_add fn_some fn_nil fn_somen fn_niln
attribute [local go_sem ↓] Go.wp_at_zero Go.wp_at_succ

def sD : Nat → Dq
  | 0 => ⟨0, 1, [7, 0]⟩
  | 1 => ⟨0, 1, [7, 0]⟩
  | 2 => ⟨0, 1, [7, 0]⟩
  | 3 => ⟨0, 1, [7, 0]⟩
  | _ => ⟨1, 1, [7, 0]⟩
def sO : Nat → Dop
  | 0 => ⟨11, 0, 0, 0, false, 0⟩
  | 1 => ⟨12, 0, 0, 0, false, 0⟩
  | 2 => ⟨13, 1, 0, 0, false, 0⟩
  | 3 => ⟨14, 1, 0, 7, false, 0⟩
  | _ => ⟨0, 1, 0, 7, false, 2⟩
theorem s_next (k : Nat) (h : k < 4) : ∃ a b, dstep (sD k) (sO k) = (sD (k + 1), sO (k + 1), a, b) := by
  have hq : k = 0 ∨ k = 1 ∨ k = 2 ∨ k = 3 := by omega
  rcases hq with rfl | rfl | rfl | rfl <;> exact ⟨_, _, rfl⟩
theorem s_can (k : Nat) (h : k < 4) : Can (sD k) (sO k) := by
  have hq : k = 0 ∨ k = 1 ∨ k = 2 ∨ k = 3 := by omega
  rcases hq with rfl | rfl | rfl | rfl <;> constructor <;> simp [sD, sO]
theorem Stepped.of {w w' : World} {go gd gc : Nat} {own : Value} {r r' : Dq × Dop × Nat × Int} {e : Ending} (h : Stepped w w' go gd gc own r e) (hr : r = r') : Stepped w w' go gd gc own r' e := hr ▸ h
section
variable (go gd gc : Nat) (own : Value) (w : World)
theorem wk1 (hd : DqAt w gd gc (Dq.made 2) own) (ho : OpAt w go gd (opPush 7)) : Calls Try.prog 15 #[.pointer (some ⟨go, 0, none⟩)] w fun e w' => Stepped w w' go gd gc own (Dq.made 2, ⟨2, 0, 0, 7, false, 0⟩, 1, 1) e :=
  (step_any go gd gc _ own _ w hd ho (by constructor <;> simp [Dq.made, opPush])).mono fun e w' h => h.of rfl
theorem wk2 (hd : DqAt w gd gc (Dq.made 2) own) (ho : OpAt w go gd ⟨2, 0, 0, 7, false, 0⟩) : Calls Try.prog 15 #[.pointer (some ⟨go, 0, none⟩)] w fun e w' => Stepped w w' go gd gc own (Dq.made 2, ⟨3, 0, 0, 7, false, 0⟩, 1, 0) e :=
  (step_any go gd gc _ own _ w hd ho (by constructor <;> simp [Dq.made])).mono fun e w' h => h.of rfl
theorem wk3 (hd : DqAt w gd gc (Dq.made 2) own) (ho : OpAt w go gd ⟨3, 0, 0, 7, false, 0⟩) : Calls Try.prog 15 #[.pointer (some ⟨go, 0, none⟩)] w fun e w' => Stepped w w' go gd gc own (⟨0, 0, [7, 0]⟩, ⟨4, 0, 0, 7, false, 0⟩, 2, 2) e :=
  (step_any go gd gc _ own _ w hd ho (by constructor <;> simp [Dq.made])).mono fun e w' h => h.of rfl
theorem wk4 (hd : DqAt w gd gc ⟨0, 0, [7, 0]⟩ own) (ho : OpAt w go gd ⟨4, 0, 0, 7, false, 0⟩) : Calls Try.prog 15 #[.pointer (some ⟨go, 0, none⟩)] w fun e w' => Stepped w w' go gd gc own (⟨0, 1, [7, 0]⟩, ⟨0, 0, 0, 7, false, 1⟩, 2, 1) e :=
  (step_any go gd gc _ own _ w hd ho (by constructor <;> simp)).mono fun e w' h => h.of rfl
end
theorem new_var (n : Nat) (h1 : 1 ≤ n) (h2 : n ≤ 65536) (w : World) : Calls Try.prog 9 #[.int .i64 (n : Int)] w fun e w' => ∃ gd gc, e = .returned (.tuple #[.pointer (some ⟨gd, 0, none⟩), .int .i64 0]) ∧ w.heap.size ≤ gd ∧ w.heap.size ≤ gc ∧ DqAt w' gd gc (Dq.made n) (.pointer none) ∧ Kp (fun _ => False) w w' :=
  (new_any n h1 h2 w).mono fun e w' ⟨he, hd, hk⟩ => ⟨_, _, he, by omega, by omega, hd, hk⟩
theorem Begun.var {w w' : World} {gd gc : Nat} {d : Dq} {own : Nat → Value} {o : Dop} {e : Ending} (h : Begun w w' gd gc d (own w.heap.size) o e) : ∃ go, e = .returned (.tuple #[.pointer (some ⟨go, 0, none⟩), .int .i64 0]) ∧ w.heap.size ≤ go ∧ DqAt w' gd gc d (own go) ∧ OpAt w' go gd o ∧ Kp (fun k => k = gd) w w' :=
  ⟨_, h.e, Nat.le_refl _, h.d, h.o, h.k⟩
set_option maxHeartbeats 1000000 in
theorem works_any (w : World) : Calls Try.prog 8 #[] w fun e w' => e = .returned (.bool true) ∧ Kp (fun _ => False) w w' := by
  have HNew : Hid (Calls Try.prog 9 #[.int .i64 2] w fun e w' => ∃ gd gc, e = .returned (.tuple #[.pointer (some ⟨gd, 0, none⟩), .int .i64 0]) ∧ w.heap.size ≤ gd ∧ w.heap.size ≤ gc ∧ DqAt w' gd gc (Dq.made 2) (.pointer none) ∧ Kp (fun _ => False) w w') := Lib.hid (new_var 2 (by omega) (by omega) w)
  go_enter Try.func8, Try.ntmps8
  go_wp2_with fail
  refine HNew.out.mono ?_
  rintro e w1 ⟨gd, gc, rfl, hgd, hgc, hd, hk⟩
  have HD := Lib.hid hd
  have HK := Lib.hid hk
  have HP := Lib.hid (push_any gd gc _ _ w1 HD.out (by simp [Dq.made]) 7 (by omega) (.inl rfl))
  clear hd hk
  go_wp2_with fail
  refine HP.out.mono ?_
  intro e w2 hb
  obtain ⟨go, rfl, hgo, hd, ho, hk⟩ := Begun.var (own := fun g => .pointer (some ⟨g, 0, none⟩)) hb
  have HD2 := Lib.hid hd
  have HO2 := Lib.hid ho
  have HK2 : Hid (Kp (fun _ => False) w w2) := Lib.hid (HK.out.trans' hk (fun i h e => by omega))
  have HG : Hid (w.heap.size ≤ go) := Lib.hid (Nat.le_trans HK.out.size hgo)
  clear hd ho hk HD HP HK hb
  have H1 := Lib.hid (wk1 go gd gc _ w2 HD2.out HO2.out)
  go_wp2_with fail
  refine H1.out.mono ?_
  rintro e w3 ⟨rfl, hd, ho, hk⟩
  have HD3 := Lib.hid hd
  have HO3 := Lib.hid ho
  have HK3 := Lib.hid hk
  clear hd ho hk
  have H2 := Lib.hid (wk2 go gd gc _ w3 HD3.out HO3.out)
  go_wp2_with fail
  refine H2.out.mono ?_
  rintro e w4 ⟨rfl, hd, ho, hk⟩
  have HD4 := Lib.hid hd
  have HO4 := Lib.hid ho
  have HK4 := Lib.hid hk
  clear hd ho hk
  have H3 := Lib.hid (wk3 go gd gc _ w4 HD4.out HO4.out)
  go_wp2_with fail
  refine H3.out.mono ?_
  rintro e w5 ⟨rfl, hd, ho, hk⟩
  have HD5 := Lib.hid hd
  have HO5 := Lib.hid ho
  have HK5 := Lib.hid hk
  clear hd ho hk
  have H4 := Lib.hid (wk4 go gd gc _ w5 HD5.out HO5.out)
  go_wp2_with fail
  refine H4.out.mono ?_
  rintro e w6 ⟨rfl, hd, ho, hk⟩
  have HD6 := Lib.hid hd
  have HO6 := Lib.hid ho
  have HK6 : Hid (Kp (fun _ => False) w w6) := Lib.hid (HK2.out.trans' (((HK3.out.trans HK4.out).trans HK5.out).trans hk) (fun i h e => by have := HG.out; omega))
  clear hd ho hk HD2 HO2 HD3 HO3 HK3 HD4 HO4 HK4 HD5 HO5 HK5 H1 H2 H3 H4
  go_wp2_with fail
  obtain ⟨W7, hW7⟩ : ∃ W, W = w6.alloc (.cells #[.int .u8 1, .int .i64 1, .int .u8 1, .int .i64 0, .int .u8 2, .int .i64 2, .int .u8 2, .int .i64 1] 44) := ⟨_, rfl⟩
  rw [← hW7]
  obtain ⟨ga, hga⟩ : ∃ ga, ga = w6.heap.size := ⟨_, rfl⟩
  have hb7 : Blk W7 ga 44 #[.int .u8 1, .int .i64 1, .int .u8 1, .int .i64 0, .int .u8 2, .int .i64 2, .int .u8 2, .int .i64 1] := by rw [hW7, hga]; exact Blk.new _ _ _
  have HD7 : Hid (DqAt W7 gd gc ⟨0, 1, [7, 0]⟩ (.pointer (some ⟨go, 0, none⟩))) := Lib.hid (by rw [hW7]; exact HD6.out.kp ((Kp.refl (fun _ => False) w6).alloc _) id id)
  have HO7 : Hid (OpAt W7 go gd ⟨0, 0, 0, 7, false, 1⟩) := Lib.hid (by rw [hW7]; exact Blk.alloc HO6.out _)
  have HK7 : Hid (Kp (fun _ => False) w W7) := Lib.hid (by rw [hW7]; exact HK6.out.alloc _)
  have HB7 := Lib.hid hb7
  have HGA := Lib.hid hga
  simp only [← hga]
  clear hW7 HD6 HO6 HK6 hb7 hga
  have HT : Hid (Calls Try.prog 17 #[.pointer (some ⟨go, 0, none⟩)] W7 fun e w' => e = .returned (.tuple #[.int .u8 1, .int .i64 0]) ∧ Kp (fun _ => False) W7 w') := Lib.hid (told_any go gd _ W7 HO7.out)
  refine HT.out.mono ?_
  rintro e w8 ⟨rfl, hk⟩
  have HD8 := Lib.hid (HD7.out.kp hk id id)
  have HB8 := Lib.hid (HB7.out.kp hk id)
  have HK8 := Lib.hid (HK7.out.trans hk)
  clear hk HD7 HO7 HK7 HB7 HT
  have HS := Lib.hid (steal_any gd gc _ _ w8 HD8.out (by simp))
  go_wp2_with fail
  refine HS.out.mono ?_
  intro e w9 hb
  obtain ⟨gs, rfl, hgs, hd, ho, hk⟩ := Begun.var (own := fun _ => .pointer (some ⟨go, 0, none⟩)) hb
  have hb9 := HB8.out.kp hk (Blk.ne_ HB8.out HD8.out.hdr (by decide))
  have HD9 := Lib.hid hd
  have HO9 := Lib.hid ho
  have HK9 : Hid (Kp (fun _ => False) w w9) := Lib.hid (HK8.out.trans' hk (fun i h e => by omega))
  have HGS : Hid (w.heap.size ≤ gs) := Lib.hid (Nat.le_trans HK8.out.size hgs)
  have a0 := hb9.get 0 (v := .int .u8 1) rfl
  have a1 := hb9.get 1 (v := .int .i64 1) rfl
  have a4 := hb9.get 4 (v := .int .u8 2) rfl
  have a5 := hb9.get 5 (v := .int .i64 2) rfl
  clear hd ho hk HB8 HD8 HK8 hb hb9
  go_wp2_with fail
  clear a0 a1 a4 a5
  go_loopw [8] (fun i wr => ∃ k : Nat, k ≤ 4 ∧ i = .int .i64 k ∧ DqAt wr gd gc (sD k) (.pointer (some ⟨go, 0, none⟩)) ∧ OpAt wr gs gd (sO k) ∧ Kp (fun k => k = gc ∨ k = gs) w9 wr) (fun i _ => 4 - (intOf i).toNat)
  case atStart => exact ⟨0, by omega, rfl, HD9.out, HO9.out, Kp.refl _ _⟩
  case round =>
    obtain ⟨k, hk, rfl, hd, ho, hkk⟩ := hrel
    by_cases hlt : k < 4
    · have HSt := Lib.hid (step_any gs gd gc _ _ _ wr hd ho (s_can k hlt))
      have HK := Lib.hid hkk
      have hd1 : decide ((k : Int) < 4) = true := decide_eq_true (by omega)
      clear hd ho hkk
      go_wp2_with fail
      refine HSt.out.mono ?_
      intro e w10 hst
      obtain ⟨a, b, hn⟩ := s_next k hlt
      rw [hn] at hst
      obtain ⟨rfl, hd, ho, hk2⟩ := hst
      have H1 := Lib.hid hd
      have H2 := Lib.hid ho
      have H3 := Lib.hid (HK.out.trans hk2)
      clear hd ho hk2 hn
      go_wp2_with fail
      go_roundw
      case rel => exact ⟨k + 1, by omega, by go_num, H1.out, H2.out, H3.out⟩
      case measure => simp [intOf]; omega
    · obtain rfl : k = 4 := by omega
      have HT : Hid (Calls Try.prog 17 #[.pointer (some ⟨gs, 0, none⟩)] wr fun e w' => e = .returned (.tuple #[.int .u8 2, .int .i64 7]) ∧ Kp (fun _ => False) wr w') := Lib.hid (told_any gs gd _ wr ho)
      have H1 := Lib.hid hd
      have H3 : Hid (Kp (fun _ => False) w wr) := Lib.hid (HK9.out.trans' hkk (fun i h e => by have := HGS.out; omega))
      clear hd ho hkk hlt hk
      go_wp2_with fail
      refine HT.out.mono ?_
      rintro e w11 ⟨rfl, hk2⟩
      have HTk : Hid (Calls Try.prog 20 #[.pointer (some ⟨gd, 0, none⟩)] w11 fun e w' => ∃ A c, e = .returned (.slice A 0 c) ∧ Below w11.heap.size w11 w') := Lib.hid ((tasks_any gd gc _ _ w11 (H1.out.kp hk2 id id) (by simp [sD]) (by simp [sD]) (by simp [sD]) (by simp [sD]) (by simp [sD])).mono fun e w' ⟨A, c, he, _, hB⟩ => ⟨A, c, he, hB⟩)
      have H4 := Lib.hid (H3.out.trans hk2)
      clear hk2
      go_wp2_with fail
      refine HTk.out.mono ?_
      rintro e w12 ⟨A, c, rfl, hB⟩
      have H5 := Lib.hid (H4.out.trans (Kp.of_below hB _))
      clear hB
      go_wp2_with fail
      go_ret
      exact ⟨rfl, H5.out⟩
end Go.Proofs.Ytdigjppdgiapfaa
