/- Contracts: the document's styles: Box. -/
import Derived.Test.YtbopeofglhkffaaProg
import Derived.Test.YtbopeofglhkffaaApp
import Derived.Deep.DeepCutAuto
import Derived.Deep.CutRange
set_option linter.unusedSimpArgs false
set_option linter.unusedVariables false
namespace Go.Proofs.Ytbopeofglhkffaa
open Go.RowKit
attribute [local go_sem] block_of_add
def mayF (k n : Int) (b : Bool) : Bool :=
  if k = 0 then n == 0 else if k = 1 then decide (n ≤ 1099511627776) && decide ((if b then -1099511627776 else 0) ≤ n) else if k = 2 then decide (n ≤ 100000) && decide ((if b then -100000 else 0) ≤ n) else false
theorem mayF_bd {k n : Int} {b : Bool} (h : mayF k n b = true) : (if b then -1099511627776 else 0) ≤ n ∧ n ≤ 1099511627776 := by
  unfold mayF at h
  by_cases h0 : k = 0
  · rw [if_pos h0] at h; simp at h; cases b <;> simp <;> omega
  · rw [if_neg h0] at h
    by_cases h1 : k = 1
    · rw [if_pos h1] at h; cases b <;> simp at h ⊢ <;> omega
    · rw [if_neg h1] at h
      by_cases h2 : k = 2
      · rw [if_pos h2] at h; cases b <;> simp at h ⊢ <;> omega
      · rw [if_neg h2] at h; cases h
set_option maxHeartbeats 1000000 in
theorem may_any (k n : Int) (b : Bool) (w : World) :
    Calls Try.prog 95 #[.agg #[.int .u8 k, .int .i64 n], .bool b] w fun e w' => e = .returned (.bool (mayF k n b)) ∧ w.alloc (.cells #[.int .u8 k, .int .i64 n] 47) = w' := by
  by_cases h0 : k = 0
  · have e0 : (k == 0) = true := beq_iff_eq.2 h0
    have HF : Hid (mayF k n b = (n == 0)) := Lib.hid (by unfold mayF; rw [if_pos h0])
    clear h0
    cases b
    all_goals
      go_enter Try.func95, Try.ntmps95
      go_wp2
      go_ret
      exact ⟨by rw [HF.out]; rfl, rfl⟩
  have e0 : (k == 0) = false := beq_eq_false_iff_ne.2 h0
  by_cases h1 : k = 1
  · have e1 : (k == 1) = true := beq_iff_eq.2 h1
    cases b
    · have HF : Hid (mayF k n false = (decide (n ≤ 1099511627776) && decide (0 ≤ n))) := Lib.hid (by unfold mayF; rw [if_neg h0, if_pos h1]; rfl)
      clear h0 h1
      cases h2 : decide (n ≤ 1099511627776) <;> cases h3 : decide (0 ≤ n)
      all_goals
        go_enter Try.func95, Try.ntmps95
        go_wp2
        go_ret
        exact ⟨by rw [HF.out]; simp [h2, h3], rfl⟩
    · have HF : Hid (mayF k n true = (decide (n ≤ 1099511627776) && decide (-1099511627776 ≤ n))) := Lib.hid (by unfold mayF; rw [if_neg h0, if_pos h1]; rfl)
      clear h0 h1
      cases h2 : decide (n ≤ 1099511627776) <;> cases h3 : decide (-1099511627776 ≤ n)
      all_goals
        go_enter Try.func95, Try.ntmps95
        go_wp2
        go_ret
        exact ⟨by rw [HF.out]; simp [h2, h3], rfl⟩
  have e1 : (k == 1) = false := beq_eq_false_iff_ne.2 h1
  by_cases h5 : k = 2
  · have e2 : (k == 2) = true := beq_iff_eq.2 h5
    cases b
    · have HF : Hid (mayF k n false = (decide (n ≤ 100000) && decide (0 ≤ n))) := Lib.hid (by unfold mayF; rw [if_neg h0, if_neg h1, if_pos h5]; rfl)
      clear h0 h1 h5
      cases h2 : decide (n ≤ 100000) <;> cases h3 : decide (0 ≤ n)
      all_goals
        go_enter Try.func95, Try.ntmps95
        go_wp2
        go_ret
        exact ⟨by rw [HF.out]; simp [h2, h3], rfl⟩
    · have HF : Hid (mayF k n true = (decide (n ≤ 100000) && decide (-100000 ≤ n))) := Lib.hid (by unfold mayF; rw [if_neg h0, if_neg h1, if_pos h5]; rfl)
      clear h0 h1 h5
      cases h2 : decide (n ≤ 100000) <;> cases h3 : decide (-100000 ≤ n)
      all_goals
        go_enter Try.func95, Try.ntmps95
        go_wp2
        go_ret
        exact ⟨by rw [HF.out]; simp [h2, h3], rfl⟩
  have e2 : (k == 2) = false := beq_eq_false_iff_ne.2 h5
  have HF : Hid (mayF k n b = false) := Lib.hid (by unfold mayF; rw [if_neg h0, if_neg h1, if_neg h5])
  clear h0 h1 h5
  cases b
  all_goals
    go_enter Try.func95, Try.ntmps95
    go_wp2
    go_ret
    exact ⟨by rw [HF.out]; rfl, rfl⟩
end Go.Proofs.Ytbopeofglhkffaa
set_option linter.unusedSimpArgs false
set_option linter.unusedVariables false
namespace Go.Proofs.Ytbopeofglhkffaa
open Go.RowKit
attribute [local go_sem] block_of_add
def mgAt (s : Sty) : Nat → Ln | 0 => s.m0 | 1 => s.m1 | 2 => s.m2 | _ => s.m3
def bdAt (s : Sty) : Nat → Int | 0 => s.b0 | 1 => s.b1 | 2 => s.b2 | _ => s.b3
def pdAt (s : Sty) : Nat → Int | 0 => s.p0 | 1 => s.p1 | 2 => s.p2 | _ => s.p3
theorem four {k : Nat} (h : k < 4) : k = 0 ∨ k = 1 ∨ k = 2 ∨ k = 3 := by omega
theorem mg_k (s : Sty) {k : Nat} (h : k < 4) : (styCells s).toArray[16 + k * 2]? = some (.int .u8 (mgAt s k).k) ∧ (styCells s).toArray[16 + k * 2 + 1]? = some (.int .i64 (mgAt s k).n) ∧ (styCells s).toArray[24 + k]? = some (.int .i64 (bdAt s k)) ∧ (styCells s).toArray[28 + k]? = some (.int .i64 (pdAt s k)) := by
  rcases four h with rfl | rfl | rfl | rfl <;> exact ⟨rfl, rfl, rfl, rfl⟩
def wdAt (s : Sty) : Nat → Ln | 0 => s.w | 1 => s.minw | 2 => s.maxw | _ => s.basis
def hgAt (s : Sty) : Nat → Ln | 0 => s.h | 1 => s.minh | _ => s.maxh
def wdBlk (s : Sty) : Array Value := #[.int .u8 s.w.k, .int .i64 s.w.n, .int .u8 s.minw.k, .int .i64 s.minw.n, .int .u8 s.maxw.k, .int .i64 s.maxw.n, .int .u8 s.basis.k, .int .i64 s.basis.n]
def hgBlk (s : Sty) : Array Value := #[.int .u8 s.h.k, .int .i64 s.h.n, .int .u8 s.minh.k, .int .i64 s.minh.n, .int .u8 s.maxh.k, .int .i64 s.maxh.n]
theorem wd_k (s : Sty) {k : Nat} (h : k < 4) : (wdBlk s)[k * 2]? = some (.int .u8 (wdAt s k).k) ∧ (wdBlk s)[k * 2 + 1]? = some (.int .i64 (wdAt s k).n) := by
  rcases four h with rfl | rfl | rfl | rfl <;> exact ⟨rfl, rfl⟩
theorem hg_k (s : Sty) {k : Nat} (h : k < 3) : (hgBlk s)[k * 2]? = some (.int .u8 (hgAt s k).k) ∧ (hgBlk s)[k * 2 + 1]? = some (.int .i64 (hgAt s k).n) := by
  have : k = 0 ∨ k = 1 ∨ k = 2 := by omega
  rcases this with rfl | rfl | rfl <;> exact ⟨rfl, rfl⟩
/-- What the first loop has seen of edge k. -/
def EdOk (s : Sty) (k : Nat) : Prop := mayF (mgAt s k).k (mgAt s k).n true = true ∧ 0 ≤ bdAt s k ∧ bdAt s k ≤ 1099511627776 ∧ 0 ≤ pdAt s k ∧ pdAt s k ≤ 1099511627776
theorem ed_styB {s : Sty} (h1 : ∀ j, j < 4 → EdOk s j) (h2 : ∀ j, j < 4 → mayF (wdAt s j).k (wdAt s j).n false = true) : StyB s := by
  have a1 := h1 1 (by omega)
  have a3 := h1 3 (by omega)
  have w0 := mayF_bd (h2 0 (by omega))
  have w1 := mayF_bd (h2 1 (by omega))
  have w2 := mayF_bd (h2 2 (by omega))
  have e1 := mayF_bd a1.1
  have e3 := mayF_bd a3.1
  simp [mgAt, wdAt] at w0 w1 w2 e1 e3
  exact ⟨w0, w2, w1, e1, e3, ⟨a1.2.1, a1.2.2.1⟩, ⟨a3.2.1, a3.2.2.1⟩, ⟨a1.2.2.2.1, a1.2.2.2.2⟩, ⟨a3.2.2.2.1, a3.2.2.2.2⟩⟩
theorem mayF_p {k n : Int} {b : Bool} (h : mayF k n b = true) : k = 2 → -100000 ≤ n ∧ n ≤ 100000 := fun h2 => by
  unfold mayF at h
  rw [if_neg (by omega), if_neg (by omega), if_pos h2] at h
  cases b <;> simp at h <;> omega
/-- A style with its lengths' limits. -/
structure StyL (s : Sty) : Prop where
  b : StyB s
  lim : ∀ x, x = s.w ∨ x = s.maxw ∨ x = s.minw ∨ x = s.m1 ∨ x = s.m3 ∨ x = s.basis → (-1099511627776 ≤ x.n ∧ x.n ≤ 1099511627776) ∧ (x.k = 2 → -100000 ≤ x.n ∧ x.n ≤ 100000)
theorem ed_styL {s : Sty} (h1 : ∀ j, j < 4 → EdOk s j) (h2 : ∀ j, j < 4 → mayF (wdAt s j).k (wdAt s j).n false = true) : StyL s := by
  refine ⟨ed_styB h1 h2, fun x hx => ?_⟩
  have key : ∀ {b : Bool} {y : Ln}, mayF y.k y.n b = true → (-1099511627776 ≤ y.n ∧ y.n ≤ 1099511627776) ∧ (y.k = 2 → -100000 ≤ y.n ∧ y.n ≤ 100000) := fun {b y} h => by
    have h3 := mayF_bd h
    refine ⟨?_, mayF_p h⟩
    cases b <;> simp at h3 <;> omega
  rcases hx with rfl | rfl | rfl | rfl | rfl | rfl
  · exact key (h2 0 (by omega))
  · exact key (h2 2 (by omega))
  · exact key (h2 1 (by omega))
  · exact key (h1 1 (by omega)).1
  · exact key (h1 3 (by omega)).1
  · exact key (h2 3 (by omega))
/-- The factors of a box. -/
def GrS (s : Sty) : Prop := (0 ≤ s.grow ∧ s.grow ≤ 60) ∧ 0 ≤ s.shrink ∧ s.shrink ≤ 60
structure BoolAns (p : Prop) (w w' : World) (e : Ending) : Prop where
  ex : ∃ b, e = .returned (.bool b) ∧ (b = true → p)
  b : Below w.heap.size w w'
set_option maxRecDepth 100000 in
set_option maxHeartbeats 2000000 in
theorem box_any (s : Sty) (w : World) {Au : Option Addr} {nu cu : Nat} (huv : s.uv = .slice Au nu cu) :
    Calls Try.prog 82 #[.agg (styCells s).toArray] w fun e w' => BoolAns (StyL s ∧ GrS s) w w' e := by
  have HB0 : Hid (Blk (w.alloc (.cells (styCells s).toArray 52)) w.heap.size 52 (styCells s).toArray) := Lib.hid (Blk.new _ _ _)
  have HM := Lib.hid (fun W k n b => may_any k n b W)
  go_enter Try.func82, Try.ntmps82
  go_wp2_with fail
  go_loopw [3] (fun kv wr => ∃ k : Nat, k ≤ 4 ∧ kv = .int .i64 k ∧ Hid ((∀ j, j < k → EdOk s j) ∧ Below w.heap.size w wr ∧ Blk wr w.heap.size 52 (styCells s).toArray)) (fun kv _ => 4 - (intOf kv).toNat)
  case atStart => exact ⟨0, by omega, rfl, Lib.hid ⟨fun j h => by omega, (Below.refl _ _).alloc (Nat.le_refl _) _, HB0.out⟩⟩
  case round =>
    obtain ⟨k, hk, rfl, H⟩ := hrel
    by_cases hlt : k < 4
    · obtain ⟨m1, m2, m3, m4⟩ := mg_k s hlt
      have c1 := H.out.2.2.get _ m1
      have c2 := H.out.2.2.get _ m2
      have c3 := H.out.2.2.get _ m3
      have c4 := H.out.2.2.get _ m4
      have lb := H.out.2.2.lt
      have d0 : decide ((k : Int) < 4) = true := decide_eq_true (by omega)
      have hk4 : (k : Int) < 4 := by omega
      obtain ⟨mk, hmk⟩ : ∃ x, x = (mgAt s k).k := ⟨_, rfl⟩
      obtain ⟨mn, hmn⟩ : ∃ x, x = (mgAt s k).n := ⟨_, rfl⟩
      obtain ⟨bd, hbd⟩ : ∃ x, x = bdAt s k := ⟨_, rfl⟩
      obtain ⟨pd, hpd⟩ : ∃ x, x = pdAt s k := ⟨_, rfl⟩
      rw [← hmk] at c1
      rw [← hmn] at c2
      rw [← hbd] at c3
      rw [← hpd] at c4
      have HE : Hid (EdOk s k ↔ (mayF mk mn true = true ∧ 0 ≤ bd ∧ bd ≤ 1099511627776 ∧ 0 ≤ pd ∧ pd ≤ 1099511627776)) := Lib.hid (by unfold EdOk; rw [hmk, hmn, hbd, hpd])
      clear m1 m2 m3 m4 hmk hmn hbd hpd
      go_wp2_with fail
      refine (HM.out _ mk mn true).mono ?_
      rintro e w1 ⟨rfl, rfl⟩
      have HB1 := Lib.hid (H.out.2.1.alloc H.out.2.1.size (.cells #[.int .u8 mk, .int .i64 mn] 47))
      have HB2 := Lib.hid (H.out.2.2.alloc (.cells #[.int .u8 mk, .int .i64 mn] 47))
      cases h1 : mayF mk mn true
      · go_wp2_with fail
        go_ret
        exact ⟨⟨false, rfl, by simp⟩, HB1.out⟩
      cases h2 : decide (bd < 0)
      rotate_left
      · go_wp2_with fail
        go_ret
        exact ⟨⟨false, rfl, by simp⟩, HB1.out⟩
      cases h3 : decide (1099511627776 < bd)
      rotate_left
      · go_wp2_with fail
        go_ret
        exact ⟨⟨false, rfl, by simp⟩, HB1.out⟩
      cases h4 : decide (pd < 0)
      rotate_left
      · go_wp2_with fail
        go_ret
        exact ⟨⟨false, rfl, by simp⟩, HB1.out⟩
      cases h5 : decide (1099511627776 < pd)
      rotate_left
      · go_wp2_with fail
        go_ret
        exact ⟨⟨false, rfl, by simp⟩, HB1.out⟩
      have HK := Lib.hid (HE.out.2 ⟨h1, by simpa using h2, by simpa using h3, by simpa using h4, by simpa using h5⟩)
      go_wp2_with fail
      go_roundw
      case rel => exact ⟨k + 1, by omega, by go_num, Lib.hid ⟨fun j hj => by
        by_cases he : j = k
        · rw [he]; exact HK.out
        · exact H.out.1 j (by omega), HB1.out, HB2.out⟩⟩
      case measure => simp [intOf]; omega
    · have d0 : decide ((k : Int) < 4) = false := decide_eq_false (by omega)
      have HE := Lib.hid (show ∀ j, j < 4 → EdOk s j from fun j hj => H.out.1 j (by omega))
      have c4 := H.out.2.2.get _ (sty_a4 s)
      have c5 := H.out.2.2.get _ (sty_a5 s)
      have c6 := H.out.2.2.get _ (sty_a6 s)
      have c7 := H.out.2.2.get _ (sty_a7 s)
      have c8 := H.out.2.2.get _ (sty_a8 s)
      have c9 := H.out.2.2.get _ (sty_a9 s)
      have c10 := H.out.2.2.get _ (sty_a10 s)
      have c11 := H.out.2.2.get _ (sty_a11 s)
      have c12 := H.out.2.2.get _ (sty_a12 s)
      have c13 := H.out.2.2.get _ (sty_a13 s)
      have c14 := H.out.2.2.get _ (sty_a14 s)
      have c15 := H.out.2.2.get _ (sty_a15 s)
      have c40 := H.out.2.2.get _ (sty_a40 s)
      have c41 := H.out.2.2.get _ (sty_a41 s)
      have lb := H.out.2.2.lt
      go_wp2_with fail
      obtain ⟨W, hW⟩ : ∃ W, W = (wr.alloc (.cells (wdBlk s) 47)).alloc (.cells (hgBlk s) 47) := ⟨_, rfl⟩
      obtain ⟨g1, hg1⟩ : ∃ g, g = wr.heap.size := ⟨_, rfl⟩
      obtain ⟨g2, hg2⟩ : ∃ g, g = g1 + 1 := ⟨_, rfl⟩
      have H0 : Hid (Below w.heap.size w W ∧ Blk W w.heap.size 52 (styCells s).toArray ∧ Blk W g1 47 (wdBlk s) ∧ Blk W g2 47 (hgBlk s)) := Lib.hid (by
        rw [hW]
        exact ⟨(H.out.2.1.alloc H.out.2.1.size _).alloc (by have := H.out.2.1.size; simp; omega) _, (H.out.2.2.alloc _).alloc _, (Blk.at_ _ _ _ hg1).alloc _, Blk.at_ _ _ _ (by rw [hg2, hg1]; simp)⟩)
      simp only [← hg1, ← hg2]
      rw [show (wr.alloc (.cells #[.int .u8 s.w.k, .int .i64 s.w.n, .int .u8 s.minw.k, .int .i64 s.minw.n, .int .u8 s.maxw.k, .int .i64 s.maxw.n, .int .u8 s.basis.k, .int .i64 s.basis.n] 47)).alloc (.cells #[.int .u8 s.h.k, .int .i64 s.h.n, .int .u8 s.minh.k, .int .i64 s.minh.n, .int .u8 s.maxh.k, .int .i64 s.maxh.n] 47) = W from hW.symm]
      clear hW hg1 hg2 c4 c5 c6 c7 c8 c9 c10 c11 c12 c13 c14 c15 c40 c41 lb H
      go_loopw [6] (fun kv wr => ∃ k : Nat, k ≤ 4 ∧ kv = .int .i64 k ∧ Hid ((∀ j, j < k → mayF (wdAt s j).k (wdAt s j).n false = true) ∧ Below w.heap.size w wr ∧ Blk wr w.heap.size 52 (styCells s).toArray ∧ Blk wr g1 47 (wdBlk s) ∧ Blk wr g2 47 (hgBlk s))) (fun kv _ => 4 - (intOf kv).toNat)
      case atStart => exact ⟨0, by omega, rfl, Lib.hid ⟨fun j h => by omega, H0.out⟩⟩
      case round =>
        obtain ⟨k, hk, rfl, H⟩ := hrel
        by_cases hlt : k < 4
        · obtain ⟨m1, m2⟩ := wd_k s hlt
          have c1 := H.out.2.2.2.1.get _ m1
          have c2 := H.out.2.2.2.1.get _ m2
          have d0 : decide ((k : Int) < 4) = true := decide_eq_true (by omega)
          have hk4 : (k : Int) < 4 := by omega
          obtain ⟨mk, hmk⟩ : ∃ x, x = (wdAt s k).k := ⟨_, rfl⟩
          obtain ⟨mn, hmn⟩ : ∃ x, x = (wdAt s k).n := ⟨_, rfl⟩
          rw [← hmk] at c1
          rw [← hmn] at c2
          have HQ : Hid (mayF mk mn false = true → mayF (wdAt s k).k (wdAt s k).n false = true) := Lib.hid (by rw [hmk, hmn]; exact id)
          clear m1 m2 hmk hmn
          go_wp2_with fail
          refine (HM.out _ mk mn false).mono ?_
          rintro e w1 ⟨rfl, rfl⟩
          have HB1 := Lib.hid (H.out.2.1.alloc H.out.2.1.size (.cells #[.int .u8 mk, .int .i64 mn] 47))
          cases h1 : mayF mk mn false
          · go_wp2_with fail
            go_ret
            exact ⟨⟨false, rfl, by simp⟩, HB1.out⟩
          have HK := Lib.hid (HQ.out h1)
          go_wp2_with fail
          go_roundw
          case rel => exact ⟨k + 1, by omega, by go_num, Lib.hid ⟨fun j hj => by
            by_cases he : j = k
            · rw [he]; exact HK.out
            · exact H.out.1 j (by omega), HB1.out, H.out.2.2.1.alloc _, H.out.2.2.2.1.alloc _, H.out.2.2.2.2.alloc _⟩⟩
          case measure => simp [intOf]; omega
        · have d0 : decide ((k : Int) < 4) = false := decide_eq_false (by omega)
          have HW4 := Lib.hid (show ∀ j, j < 4 → mayF (wdAt s j).k (wdAt s j).n false = true from fun j hj => H.out.1 j (by omega))
          have H1 := Lib.hid H.out.2
          clear H
          go_wp2_with fail
          go_loopw [7] (fun kv wr => ∃ k : Nat, k ≤ 3 ∧ kv = .int .i64 k ∧ Hid (Below w.heap.size w wr ∧ Blk wr w.heap.size 52 (styCells s).toArray ∧ Blk wr g1 47 (wdBlk s) ∧ Blk wr g2 47 (hgBlk s))) (fun kv _ => 3 - (intOf kv).toNat)
          case atStart => exact ⟨0, by omega, rfl, H1⟩
          case round =>
            obtain ⟨k, hk, rfl, H⟩ := hrel
            by_cases hlt : k < 3
            · obtain ⟨m1, m2⟩ := hg_k s hlt
              have c1 := H.out.2.2.2.get _ m1
              have c2 := H.out.2.2.2.get _ m2
              have lg := H.out.2.2.2.lt
              have d0 : decide ((k : Int) < 3) = true := decide_eq_true (by omega)
              have hk4 : (k : Int) < 3 := by omega
              obtain ⟨mk, hmk⟩ : ∃ x, x = (hgAt s k).k := ⟨_, rfl⟩
              obtain ⟨mn, hmn⟩ : ∃ x, x = (hgAt s k).n := ⟨_, rfl⟩
              rw [← hmk] at c1
              rw [← hmn] at c2
              clear m1 m2 hmk hmn
              go_wp2_with fail
              refine (HM.out _ mk mn false).mono ?_
              rintro e w1 ⟨rfl, rfl⟩
              have HB1 := Lib.hid (H.out.1.alloc H.out.1.size (.cells #[.int .u8 mk, .int .i64 mn] 47))
              cases h1 : mayF mk mn false
              · go_wp2_with fail
                go_ret
                exact ⟨⟨false, rfl, by simp⟩, HB1.out⟩
              cases h2 : (mk == 2)
              rotate_left
              · go_wp2_with fail
                go_ret
                exact ⟨⟨false, rfl, by simp⟩, HB1.out⟩
              go_wp2_with fail
              go_roundw
              case rel => exact ⟨k + 1, by omega, by go_num, Lib.hid ⟨HB1.out, H.out.2.1.alloc _, H.out.2.2.1.alloc _, H.out.2.2.2.alloc _⟩⟩
              case measure => simp [intOf]; omega
            · have d0 : decide ((k : Int) < 3) = false := decide_eq_false (by omega)
              have hbx := H.out.2.1
              have c2 := hbx.get _ (sty_a2 s)
              have c3 := hbx.get _ (sty_a3 s)
              have c32 := hbx.get _ (sty_a32 s)
              have c33 := hbx.get _ (sty_a33 s)
              have c35 := hbx.get _ (sty_a35 s)
              have c36 := hbx.get _ (sty_a36 s)
              have c37 := hbx.get _ (sty_a37 s)
              have c38 := hbx.get _ (sty_a38 s)
              have c39 := hbx.get _ (sty_a39 s)
              have c42 := hbx.get _ (sty_a42 s)
              rw [huv] at c42
              clear hbx
              go_upto_region 18 with (fail)
              go_cut [8] (fun s8 wx => (∃ b, s8 = .bool b) ∧ wr = wx)
              case first =>
                go_wp2_with fail
                all_goals (go_meet; case rel => exact ⟨⟨_, rfl⟩, rfl⟩)
              case rest =>
                obtain ⟨⟨x8, rfl⟩, rfl⟩ := hcut
                go_upto_region 19 with (fail)
                go_cut [9] (fun s9 wx => (∃ b, s9 = .bool b) ∧ wr = wx)
                case first =>
                  go_wp2_with fail
                  all_goals (go_meet; case rel => exact ⟨⟨_, rfl⟩, rfl⟩)
                case rest =>
                  obtain ⟨⟨x9, rfl⟩, rfl⟩ := hcut
                  go_upto_region 20 with (fail)
                  go_cut [10] (fun s10 wx => (∃ b, s10 = .bool b ∧ Hid (b = true → GrS s)) ∧ wr = wx)
                  case first =>
                    cases g1 : decide ((0 : Int) ≤ s.grow) <;> cases g2 : decide (s.grow ≤ 60) <;> cases g3 : decide ((0 : Int) ≤ s.shrink) <;> cases g4 : decide (s.shrink ≤ 60)
                    all_goals
                      go_wp2_with fail
                      go_meet
                      case rel => exact ⟨⟨_, rfl, Lib.hid (fun h => by first | (simp at h; done) | exact ⟨⟨of_decide_eq_true g1, of_decide_eq_true g2⟩, of_decide_eq_true g3, of_decide_eq_true g4⟩)⟩, rfl⟩
                  case rest =>
                    obtain ⟨⟨x10, rfl, HGR⟩, rfl⟩ := hcut
                    cases x10
                    · go_wp2_with fail
                      all_goals (go_ret; exact ⟨⟨_, rfl, fun h => by simp at h⟩, H.out.1⟩)
                    · go_wp2_with fail
                      all_goals (go_ret; exact ⟨⟨_, rfl, fun _ => ⟨ed_styL HE.out HW4.out, HGR.out (by simp)⟩⟩, H.out.1⟩)
end Go.Proofs.Ytbopeofglhkffaa
