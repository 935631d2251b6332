/- Contracts: a step of an operation on a deque. -/
import Derived.Test.YtdigjppdgiapfaaDsb
import Derived.Test.YtdigjppdgiapfaaDsc
import Derived.Test.YtdigjppdgiapfaaDsd
import Derived.Test.YtdigjppdgiapfaaDse
import Derived.Test.YtdigjppdgiapfaaDsf
import Derived.Test.YtdigjppdgiapfaaDsg
import Derived.Test.YtdigjppdgiapfaaDsh
import Derived.Test.YtdigjppdgiapfaaDsi
import Derived.Test.YtdigjppdgiapfaaDsm
set_option linter.unusedSimpArgs false
set_option linter.unusedVariables false
namespace Go.Proofs.Ytdigjppdgiapfaa
open Go.RowKit
attribute [local go_sem] block_of_add
attribute [local go_sem ↓] Go.wp_at_zero Go.wp_at_succ

theorem fn_some (F : FuncId) (w : World) : (binOp .eql 65 (.func (.func F) #[] #[]) .nilFunc).run Try.prog w = .ok (.bool false) w := by kernel_rfl
theorem fn_nil (w : World) : (binOp .eql 65 .nilFunc .nilFunc).run Try.prog w = .ok (.bool true) w := by kernel_rfl
theorem fn_somen (F : FuncId) (w : World) : (binOp .neq 65 (.func (.func F) #[] #[]) .nilFunc).run Try.prog w = .ok (.bool true) w := by kernel_rfl
theorem fn_niln (w : World) : (binOp .neq 65 .nilFunc .nilFunc).run Try.prog w = .ok (.bool false) w := by kernel_rfl
attribute [local go_sem] fn_some fn_nil
theorem step_via (F : FuncId) (eg : ∀ args w, (callFunc F args).run Try.prog w = .ok (.enter F args) w) (go : Nat) (w : World) (g1 : w.cell? ⟨go, 1, none⟩ = some (.func (.func F) #[] #[])) (lg : go < w.heap.size) (Q : Value → World → Prop)
    (HC : Calls Try.prog F #[.pointer (some ⟨go, 0, none⟩)] (w.alloc (.cells #[.int .u8 0, .int .i64 0] 44)) fun e w' => ∃ (a b : Int), e = .returned (.agg #[.int .u8 a, .int .i64 b]) ∧ Blk w' w.heap.size 44 #[.int .u8 0, .int .i64 0] ∧ Q (.agg #[.int .u8 a, .int .i64 b]) ((w'.setCell ⟨w.heap.size, 0, none⟩ (.int .u8 a)).setCell ⟨w.heap.size, 1, none⟩ (.int .i64 b))) :
    Calls Try.prog 15 #[.pointer (some ⟨go, 0, none⟩)] w fun e w' => ∃ v, e = .returned v ∧ Q v w' := by
  have HC' := Lib.hid HC
  clear HC
  go_enter Try.func15, Try.ntmps15
  go_wp2_with fail
  refine HC'.out.mono ?_
  rintro e w' ⟨a, b, rfl, hb, hQ⟩
  have b0 := hb.c2
  have b1 := hb.frozen 0
  have b2 := hb.frozen 1
  have hz := hb.lt
  have HQ := Lib.hid hQ
  have HB := Lib.hid hb
  clear hQ hb
  go_wp2_with fail
  refine bodyPost_ret (v := .agg #[.int .u8 a, .int .i64 b]) (res_acc Try.results15 rfl ?hbx) rfl ⟨_, rfl, HQ.out⟩
  exact Blk.conv ((HB.out.set_ 0 _).set_ 1 _) rfl
theorem step_done (go : Nat) (w : World) (g1 : w.cell? ⟨go, 1, none⟩ = some .nilFunc) (lg : go < w.heap.size) (Q : Value → World → Prop)
    (hQ : Q (.agg #[.int .u8 0, .int .i64 0]) (w.alloc (.cells #[.int .u8 0, .int .i64 0] 44))) :
    Calls Try.prog 15 #[.pointer (some ⟨go, 0, none⟩)] w fun e w' => ∃ v, e = .returned v ∧ Q v w' := by
  have HQ := Lib.hid hQ
  clear hQ
  go_enter Try.func15, Try.ntmps15
  go_wp2_with fail
  refine bodyPost_ret (v := .agg #[.int .u8 0, .int .i64 0]) (res_acc Try.results15 rfl ?hbx) rfl ⟨_, rfl, HQ.out⟩
  exact Blk.new _ _ _
/-- What a step asks of the numbers. -/
structure Can (d : Dq) (o : Dop) : Prop where
  n : 0 < d.sl.length
  l : d.sl.length ≤ 1000000
  pc : o.pc ≤ 14
  b0 : -1000000 ≤ o.b
  b1 : o.b ≤ 1000000
  t0 : -1000000 ≤ o.t
  t1 : o.t ≤ 1000000
  d0 : -1000000 ≤ d.top
  d1 : d.top ≤ 1000000
  e0 : -1000000 ≤ d.bot
  e1 : d.bot ≤ 1000000
  p3 : o.pc = 3 → 0 ≤ o.b
  p8 : o.pc = 8 → ¬ o.b < o.t → 0 ≤ o.b
  p13 : o.pc = 13 → 0 ≤ o.t
section
variable (go gd gc : Nat) (d : Dq) (own : Value) (o : Dop) (w : World) (hd : DqAt w gd gc d own) (ho : OpAt w go gd o)
include hd ho
theorem step_put {w' : World} {e : Ending} (r : Dq × Dop × Nat × Int) (h : Stepped (w.alloc (.cells #[.int .u8 0, .int .i64 0] 44)) w' go gd gc own r e) :
    ∃ (a b : Int), e = .returned (.agg #[.int .u8 a, .int .i64 b]) ∧ Blk w' w.heap.size 44 #[.int .u8 0, .int .i64 0] ∧ Stepped w ((w'.setCell ⟨w.heap.size, 0, none⟩ (.int .u8 a)).setCell ⟨w.heap.size, 1, none⟩ (.int .i64 b)) go gd gc own r (.returned (.agg #[.int .u8 a, .int .i64 b])) := by
  obtain ⟨he, hd', ho', hk⟩ := h
  have lc := hd.cel.lt
  have ld := hd.hdr.lt
  have lo := Blk.lt ho
  refine ⟨_, _, he, (Blk.new w _ _).kp hk (by omega), ?_⟩
  have hk2 : Kp (fun k => k = w.heap.size) w' ((w'.setCell ⟨w.heap.size, 0, none⟩ (.int .u8 r.2.2.1)).setCell ⟨w.heap.size, 1, none⟩ (.int .i64 r.2.2.2)) := ((Kp.refl (fun k => k = w.heap.size) w').setCell (p := ⟨w.heap.size, 0, none⟩) (.inl rfl) _).setCell (p := ⟨w.heap.size, 1, none⟩) (.inl rfl) _
  exact ⟨rfl, hd'.kp hk2 (by omega) (by omega), Blk.kp ho' hk2 (by omega), (((Kp.refl (fun k => k = gc ∨ k = go) w).alloc _).trans hk).trans' hk2 (fun i h e => by omega)⟩
theorem step_any (hc : Can d o) : Calls Try.prog 15 #[.pointer (some ⟨go, 0, none⟩)] w fun e w' => Stepped w w' go gd gc own (dstep d o) e := by
  have g1 := ho.get 1 (v := nextV o.pc) rfl
  have l0 := Blk.lt ho
  have hd1 : DqAt (w.alloc (.cells #[.int .u8 0, .int .i64 0] 44)) gd gc d own := hd.kp ((Kp.refl (fun _ => False) w).alloc _) id id
  have ho1 : OpAt (w.alloc (.cells #[.int .u8 0, .int .i64 0] 44)) go gd o := Blk.alloc ho _
  have via : ∀ F : FuncId, w.cell? ⟨go, 1, none⟩ = some (.func (.func F) #[] #[]) → (∀ args w, (callFunc F args).run Try.prog w = .ok (.enter F args) w) → Calls Try.prog F #[.pointer (some ⟨go, 0, none⟩)] (w.alloc (.cells #[.int .u8 0, .int .i64 0] 44)) (fun e w' => Stepped (w.alloc (.cells #[.int .u8 0, .int .i64 0] 44)) w' go gd gc own (dstep d o) e) →
      Calls Try.prog 15 #[.pointer (some ⟨go, 0, none⟩)] w fun e w' => Stepped w w' go gd gc own (dstep d o) e := fun F hg eg h =>
    (step_via F eg go w hg l0 (fun v w' => Stepped w w' go gd gc own (dstep d o) (.returned v)) (h.mono fun e w' hs => step_put go gd gc d own o w hd ho (dstep d o) hs)).mono fun e w' ⟨v, he, hs⟩ => he ▸ hs
  obtain ⟨n, l, pc, b0, b1, t0, t1, d0, d1, e0, e1, p3, p8, p13⟩ := hc
  have hq : o.pc = 0 ∨ o.pc = 1 ∨ o.pc = 2 ∨ o.pc = 3 ∨ o.pc = 4 ∨ o.pc = 5 ∨ o.pc = 6 ∨ o.pc = 7 ∨ o.pc = 8 ∨ o.pc = 9 ∨ o.pc = 10 ∨ o.pc = 11 ∨ o.pc = 12 ∨ o.pc = 13 ∨ o.pc = 14 := by omega
  rcases hq with hp | hp | hp | hp | hp | hp | hp | hp | hp | hp | hp | hp | hp | hp | hp
  · rw [hp] at g1
    refine (step_done go w g1 l0 (fun v w' => Stepped w w' go gd gc own (dstep d o) (.returned v)) ?_).mono fun e w' ⟨v, he, hs⟩ => he ▸ hs
    have hs : dstep d o = (d, o, 0, 0) := by simp only [dstep, hp]
    rw [hs]
    exact ⟨rfl, hd1, ho1, (Kp.refl _ w).alloc _⟩
  · exact via 33 (by rw [g1, hp]; rfl) (fun _ _ => by kernel_rfl) (pushBottom_any go gd gc d own o _ hd1 ho1 hp)
  · exact via 44 (by rw [g1, hp]; rfl) (fun _ _ => by kernel_rfl) (pushTop_any go gd gc d own o _ hd1 ho1 hp l b0 b1 d0 d1)
  · exact via 48 (by rw [g1, hp]; rfl) (fun _ _ => by kernel_rfl) (pushTask_any go gd gc d own o _ hd1 ho1 hp (p3 hp) n l)
  · exact via 53 (by rw [g1, hp]; rfl) (fun _ _ => by kernel_rfl) (pushEnd_any go gd gc d own o _ hd1 ho1 hp b0 b1)
  · exact via 27 (by rw [g1, hp]; rfl) (fun _ _ => by kernel_rfl) (popBottom_any go gd gc d own o _ hd1 ho1 hp e0 e1)
  · exact via 36 (by rw [g1, hp]; rfl) (fun _ _ => by kernel_rfl) (popLess_any go gd gc d own o _ hd1 ho1 hp)
  · exact via 46 (by rw [g1, hp]; rfl) (fun _ _ => by kernel_rfl) (popTop_any go gd gc d own o _ hd1 ho1 hp)
  · exact via 51 (by rw [g1, hp]; rfl) (fun _ _ => by kernel_rfl) (popTask_any go gd gc d own o _ hd1 ho1 hp (p8 hp) b0 b1 n l)
  · exact via 55 (by rw [g1, hp]; rfl) (fun _ _ => by kernel_rfl) (popSwap_any go gd gc d own o _ hd1 ho1 hp t0 t1)
  · exact via 58 (by rw [g1, hp]; rfl) (fun _ _ => by kernel_rfl) (popEnd_any go gd gc d own o _ hd1 ho1 hp b0 b1)
  · exact via 34 (by rw [g1, hp]; rfl) (fun _ _ => by kernel_rfl) (stealTop_any go gd gc d own o _ hd1 ho1 hp)
  · exact via 45 (by rw [g1, hp]; rfl) (fun _ _ => by kernel_rfl) (stealBottom_any go gd gc d own o _ hd1 ho1 hp)
  · exact via 50 (by rw [g1, hp]; rfl) (fun _ _ => by kernel_rfl) (stealTask_any go gd gc d own o _ hd1 ho1 hp (p13 hp) n l)
  · exact via 54 (by rw [g1, hp]; rfl) (fun _ _ => by kernel_rfl) (stealSwap_any go gd gc d own o _ hd1 ho1 hp t0 t1)
end
end Go.Proofs.Ytdigjppdgiapfaa
