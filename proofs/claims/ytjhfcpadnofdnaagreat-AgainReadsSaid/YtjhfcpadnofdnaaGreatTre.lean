/- Contracts: the document's styles: Right. -/
import Derived.Test.YtjhfcpadnofdnaaGreatTrc
set_option linter.unusedSimpArgs false
set_option linter.unusedVariables false
namespace Go.Proofs.YtjhfcpadnofdnaaGreat
open Go.RowKit
attribute [local go_sem] block_of_add
structure BoolIff (p : Prop) (w w' : World) (e : Ending) : Prop where
  ex : ∃ b, e = .returned (.bool b) ∧ (b = true ↔ p)
  b : Below w.heap.size w w'
def HgX (s : Sty) (j : Nat) : Prop := mayF (hgAt s j).k (hgAt s j).n false = true ∧ (hgAt s j).k ≠ 2
def SideX (s : Sty) : Prop := s.float ≤ 2 ∧ s.clear ≤ 3
def PlX (s : Sty) : Prop := s.align ≤ 2 ∧ s.justify ≤ 3 ∧ s.items ≤ 3
def LnX (s : Sty) (nu : Nat) : Prop := 0 ≤ s.line ∧ s.line ≤ 1099511627776 ∧ -1048576 ≤ s.order ∧ s.order ≤ 1048576 ∧ nu = 0
/-- A box's style that may be. -/
structure BoxX (s : Sty) (nu : Nat) : Prop where
  ed : ∀ j, j < 4 → EdOk s j
  wd : ∀ j, j < 4 → mayF (wdAt s j).k (wdAt s j).n false = true
  hg : ∀ j, j < 3 → HgX s j
  sd : SideX s
  pl : PlX s
  gr : GrS s
  ln : LnX s nu
set_option maxRecDepth 100000 in
set_option maxHeartbeats 2000000 in
theorem boxX_any (s : Sty) (w : World) {Au : Option Addr} {nu cu : Nat} (huv : s.uv = .slice Au nu cu) :
    Calls Tryz.prog 114 #[.agg (styCells s).toArray] w fun e w' => BoolIff (BoxX s nu) w w' e := by
  have HB0 : Hid (Blk (w.alloc (.cells (styCells s).toArray 67)) w.heap.size 67 (styCells s).toArray) := Lib.hid (Blk.new _ _ _)
  have HM := Lib.hid (fun W k n b => may_any k n b W)
  go_enter Tryz.func114, Tryz.ntmps114
  go_wp2_with fail
  go_loopw [3] (fun kv wr => ∃ k : Nat, k ≤ 4 ∧ kv = .int .i64 k ∧ Hid ((∀ j, j < k → EdOk s j) ∧ Below w.heap.size w wr ∧ Blk wr w.heap.size 67 (styCells s).toArray)) (fun kv _ => 4 - (intOf kv).toNat)
  case atStart => exact ⟨0, by omega, rfl, Lib.hid ⟨fun j h => by omega, (Below.refl _ _).alloc (Nat.le_refl _) _, HB0.out⟩⟩
  case round =>
    obtain ⟨k, hk, rfl, H⟩ := hrel
    by_cases hlt : k < 4
    · obtain ⟨m1, m2, m3, m4⟩ := mg_k s hlt
      have c1 := H.out.2.2.get _ m1
      have c2 := H.out.2.2.get _ m2
      have c3 := H.out.2.2.get _ m3
      have c4 := H.out.2.2.get _ m4
      have lb := H.out.2.2.lt
      have d0 : decide ((k : Int) < 4) = true := decide_eq_true (by omega)
      have hk4 : (k : Int) < 4 := by omega
      obtain ⟨mk, hmk⟩ : ∃ x, x = (mgAt s k).k := ⟨_, rfl⟩
      obtain ⟨mn, hmn⟩ : ∃ x, x = (mgAt s k).n := ⟨_, rfl⟩
      obtain ⟨bd, hbd⟩ : ∃ x, x = bdAt s k := ⟨_, rfl⟩
      obtain ⟨pd, hpd⟩ : ∃ x, x = pdAt s k := ⟨_, rfl⟩
      rw [← hmk] at c1
      rw [← hmn] at c2
      rw [← hbd] at c3
      rw [← hpd] at c4
      have HE : Hid (EdOk s k ↔ (mayF mk mn true = true ∧ 0 ≤ bd ∧ bd ≤ 1099511627776 ∧ 0 ≤ pd ∧ pd ≤ 1099511627776)) := Lib.hid (by unfold EdOk; rw [hmk, hmn, hbd, hpd])
      clear m1 m2 m3 m4 hmk hmn hbd hpd
      go_wp2_with fail
      refine (HM.out _ mk mn true).mono ?_
      rintro e w1 ⟨rfl, rfl⟩
      have HB1 := Lib.hid (H.out.2.1.alloc H.out.2.1.size (.cells #[.int .u8 mk, .int .i64 mn] 62))
      have HB2 := Lib.hid (H.out.2.2.alloc (.cells #[.int .u8 mk, .int .i64 mn] 62))
      cases h1 : mayF mk mn true
      · have HNO := Lib.hid (show ¬ BoxX s nu from fun h => by have := (HE.out.1 (h.ed k hlt)).1; rw [h1] at this; cases this)
        go_wp2_with fail
        go_ret
        exact ⟨⟨false, rfl, fun h => by simp at h, fun h => absurd h HNO.out⟩, HB1.out⟩
      cases h2 : decide (bd < 0)
      rotate_left
      · have HNO := Lib.hid (show ¬ BoxX s nu from fun h => by have := (HE.out.1 (h.ed k hlt)).2; have := of_decide_eq_true h2; omega)
        go_wp2_with fail
        go_ret
        exact ⟨⟨false, rfl, fun h => by simp at h, fun h => absurd h HNO.out⟩, HB1.out⟩
      cases h3 : decide (1099511627776 < bd)
      rotate_left
      · have HNO := Lib.hid (show ¬ BoxX s nu from fun h => by have := (HE.out.1 (h.ed k hlt)).2; have := of_decide_eq_true h3; omega)
        go_wp2_with fail
        go_ret
        exact ⟨⟨false, rfl, fun h => by simp at h, fun h => absurd h HNO.out⟩, HB1.out⟩
      cases h4 : decide (pd < 0)
      rotate_left
      · have HNO := Lib.hid (show ¬ BoxX s nu from fun h => by have := (HE.out.1 (h.ed k hlt)).2; have := of_decide_eq_true h4; omega)
        go_wp2_with fail
        go_ret
        exact ⟨⟨false, rfl, fun h => by simp at h, fun h => absurd h HNO.out⟩, HB1.out⟩
      cases h5 : decide (1099511627776 < pd)
      rotate_left
      · have HNO := Lib.hid (show ¬ BoxX s nu from fun h => by have := (HE.out.1 (h.ed k hlt)).2; have := of_decide_eq_true h5; omega)
        go_wp2_with fail
        go_ret
        exact ⟨⟨false, rfl, fun h => by simp at h, fun h => absurd h HNO.out⟩, HB1.out⟩
      have HK := Lib.hid (HE.out.2 ⟨h1, by simpa using h2, by simpa using h3, by simpa using h4, by simpa using h5⟩)
      go_wp2_with fail
      go_roundw
      case rel => exact ⟨k + 1, by omega, by go_num, Lib.hid ⟨fun j hj => by
        by_cases he : j = k
        · rw [he]; exact HK.out
        · exact H.out.1 j (by omega), HB1.out, HB2.out⟩⟩
      case measure => simp [intOf]; omega
    · have d0 : decide ((k : Int) < 4) = false := decide_eq_false (by omega)
      have HE := Lib.hid (show ∀ j, j < 4 → EdOk s j from fun j hj => H.out.1 j (by omega))
      have c4 := H.out.2.2.get _ (sty_a4 s)
      have c5 := H.out.2.2.get _ (sty_a5 s)
      have c6 := H.out.2.2.get _ (sty_a6 s)
      have c7 := H.out.2.2.get _ (sty_a7 s)
      have c8 := H.out.2.2.get _ (sty_a8 s)
      have c9 := H.out.2.2.get _ (sty_a9 s)
      have c10 := H.out.2.2.get _ (sty_a10 s)
      have c11 := H.out.2.2.get _ (sty_a11 s)
      have c12 := H.out.2.2.get _ (sty_a12 s)
      have c13 := H.out.2.2.get _ (sty_a13 s)
      have c14 := H.out.2.2.get _ (sty_a14 s)
      have c15 := H.out.2.2.get _ (sty_a15 s)
      have c40 := H.out.2.2.get _ (sty_a40 s)
      have c41 := H.out.2.2.get _ (sty_a41 s)
      have lb := H.out.2.2.lt
      go_wp2_with fail
      obtain ⟨W, hW⟩ : ∃ W, W = (wr.alloc (.cells (wdBlk s) 62)).alloc (.cells (hgBlk s) 62) := ⟨_, rfl⟩
      obtain ⟨g1, hg1⟩ : ∃ g, g = wr.heap.size := ⟨_, rfl⟩
      obtain ⟨g2, hg2⟩ : ∃ g, g = g1 + 1 := ⟨_, rfl⟩
      have H0 : Hid (Below w.heap.size w W ∧ Blk W w.heap.size 67 (styCells s).toArray ∧ Blk W g1 62 (wdBlk s) ∧ Blk W g2 62 (hgBlk s)) := Lib.hid (by
        rw [hW]
        exact ⟨(H.out.2.1.alloc H.out.2.1.size _).alloc (by have := H.out.2.1.size; simp; omega) _, (H.out.2.2.alloc _).alloc _, (Blk.at_ _ _ _ hg1).alloc _, Blk.at_ _ _ _ (by rw [hg2, hg1]; simp)⟩)
      simp only [← hg1, ← hg2]
      rw [show (wr.alloc (.cells #[.int .u8 s.w.k, .int .i64 s.w.n, .int .u8 s.minw.k, .int .i64 s.minw.n, .int .u8 s.maxw.k, .int .i64 s.maxw.n, .int .u8 s.basis.k, .int .i64 s.basis.n] 62)).alloc (.cells #[.int .u8 s.h.k, .int .i64 s.h.n, .int .u8 s.minh.k, .int .i64 s.minh.n, .int .u8 s.maxh.k, .int .i64 s.maxh.n] 62) = W from hW.symm]
      clear hW hg1 hg2 c4 c5 c6 c7 c8 c9 c10 c11 c12 c13 c14 c15 c40 c41 lb H
      go_loopw [6] (fun kv wr => ∃ k : Nat, k ≤ 4 ∧ kv = .int .i64 k ∧ Hid ((∀ j, j < k → mayF (wdAt s j).k (wdAt s j).n false = true) ∧ Below w.heap.size w wr ∧ Blk wr w.heap.size 67 (styCells s).toArray ∧ Blk wr g1 62 (wdBlk s) ∧ Blk wr g2 62 (hgBlk s))) (fun kv _ => 4 - (intOf kv).toNat)
      case atStart => exact ⟨0, by omega, rfl, Lib.hid ⟨fun j h => by omega, H0.out⟩⟩
      case round =>
        obtain ⟨k, hk, rfl, H⟩ := hrel
        by_cases hlt : k < 4
        · obtain ⟨m1, m2⟩ := wd_k s hlt
          have c1 := H.out.2.2.2.1.get _ m1
          have c2 := H.out.2.2.2.1.get _ m2
          have d0 : decide ((k : Int) < 4) = true := decide_eq_true (by omega)
          have hk4 : (k : Int) < 4 := by omega
          obtain ⟨mk, hmk⟩ : ∃ x, x = (wdAt s k).k := ⟨_, rfl⟩
          obtain ⟨mn, hmn⟩ : ∃ x, x = (wdAt s k).n := ⟨_, rfl⟩
          rw [← hmk] at c1
          rw [← hmn] at c2
          have HQ : Hid (mayF mk mn false = true ↔ mayF (wdAt s k).k (wdAt s k).n false = true) := Lib.hid (by rw [hmk, hmn])
          clear m1 m2 hmk hmn
          go_wp2_with fail
          refine (HM.out _ mk mn false).mono ?_
          rintro e w1 ⟨rfl, rfl⟩
          have HB1 := Lib.hid (H.out.2.1.alloc H.out.2.1.size (.cells #[.int .u8 mk, .int .i64 mn] 62))
          cases h1 : mayF mk mn false
          · have HNO := Lib.hid (show ¬ BoxX s nu from fun h => by have := HQ.out.2 (h.wd k hlt); rw [h1] at this; cases this)
            go_wp2_with fail
            go_ret
            exact ⟨⟨false, rfl, fun h => by simp at h, fun h => absurd h HNO.out⟩, HB1.out⟩
          have HK := Lib.hid (HQ.out.1 h1)
          go_wp2_with fail
          go_roundw
          case rel => exact ⟨k + 1, by omega, by go_num, Lib.hid ⟨fun j hj => by
            by_cases he : j = k
            · rw [he]; exact HK.out
            · exact H.out.1 j (by omega), HB1.out, H.out.2.2.1.alloc _, H.out.2.2.2.1.alloc _, H.out.2.2.2.2.alloc _⟩⟩
          case measure => simp [intOf]; omega
        · have d0 : decide ((k : Int) < 4) = false := decide_eq_false (by omega)
          have HW4 := Lib.hid (show ∀ j, j < 4 → mayF (wdAt s j).k (wdAt s j).n false = true from fun j hj => H.out.1 j (by omega))
          have H1 := Lib.hid H.out.2
          clear H
          go_wp2_with fail
          go_loopw [7] (fun kv wr => ∃ k : Nat, k ≤ 3 ∧ kv = .int .i64 k ∧ Hid ((∀ j, j < k → HgX s j) ∧ Below w.heap.size w wr ∧ Blk wr w.heap.size 67 (styCells s).toArray ∧ Blk wr g1 62 (wdBlk s) ∧ Blk wr g2 62 (hgBlk s))) (fun kv _ => 3 - (intOf kv).toNat)
          case atStart => exact ⟨0, by omega, rfl, Lib.hid ⟨fun j h => by omega, H1.out⟩⟩
          case round =>
            obtain ⟨k, hk, rfl, H⟩ := hrel
            by_cases hlt : k < 3
            · obtain ⟨m1, m2⟩ := hg_k s hlt
              have c1 := H.out.2.2.2.2.get _ m1
              have c2 := H.out.2.2.2.2.get _ m2
              have lg := H.out.2.2.2.2.lt
              have d0 : decide ((k : Int) < 3) = true := decide_eq_true (by omega)
              have hk4 : (k : Int) < 3 := by omega
              obtain ⟨mk, hmk⟩ : ∃ x, x = (hgAt s k).k := ⟨_, rfl⟩
              obtain ⟨mn, hmn⟩ : ∃ x, x = (hgAt s k).n := ⟨_, rfl⟩
              rw [← hmk] at c1
              rw [← hmn] at c2
              have HQ : Hid (HgX s k ↔ mayF mk mn false = true ∧ mk ≠ 2) := Lib.hid (by unfold HgX; rw [hmk, hmn])
              clear m1 m2 hmk hmn
              go_wp2_with fail
              refine (HM.out _ mk mn false).mono ?_
              rintro e w1 ⟨rfl, rfl⟩
              have HB1 := Lib.hid (H.out.2.1.alloc H.out.2.1.size (.cells #[.int .u8 mk, .int .i64 mn] 62))
              cases h1 : mayF mk mn false
              · have HNO := Lib.hid (show ¬ BoxX s nu from fun h => by have := (HQ.out.1 (h.hg k hlt)).1; rw [h1] at this; cases this)
                go_wp2_with fail
                go_ret
                exact ⟨⟨false, rfl, fun h => by simp at h, fun h => absurd h HNO.out⟩, HB1.out⟩
              cases h2 : (mk == 2)
              rotate_left
              · have HNO := Lib.hid (show ¬ BoxX s nu from fun h => (HQ.out.1 (h.hg k hlt)).2 (by simpa using h2))
                go_wp2_with fail
                go_ret
                exact ⟨⟨false, rfl, fun h => by simp at h, fun h => absurd h HNO.out⟩, HB1.out⟩
              have HK := Lib.hid (HQ.out.2 ⟨h1, by simpa using h2⟩)
              go_wp2_with fail
              go_roundw
              case rel => exact ⟨k + 1, by omega, by go_num, Lib.hid ⟨fun j hj => by
                by_cases he : j = k
                · rw [he]; exact HK.out
                · exact H.out.1 j (by omega), HB1.out, H.out.2.2.1.alloc _, H.out.2.2.2.1.alloc _, H.out.2.2.2.2.alloc _⟩⟩
              case measure => simp [intOf]; omega
            · have d0 : decide ((k : Int) < 3) = false := decide_eq_false (by omega)
              have HG3 := Lib.hid (show ∀ j, j < 3 → HgX s j from fun j hj => H.out.1 j (by omega))
              have hbx := H.out.2.2.1
              have c2 := hbx.get _ (sty_a2 s)
              have c3 := hbx.get _ (sty_a3 s)
              have c32 := hbx.get _ (sty_a32 s)
              have c33 := hbx.get _ (sty_a33 s)
              have c35 := hbx.get _ (sty_a35 s)
              have c36 := hbx.get _ (sty_a36 s)
              have c37 := hbx.get _ (sty_a37 s)
              have c38 := hbx.get _ (sty_a38 s)
              have c39 := hbx.get _ (sty_a39 s)
              have c42 := hbx.get _ (sty_a42 s)
              rw [huv] at c42
              clear hbx
              have HBW := Lib.hid H.out.2.1
              go_upto_region 18 with (fail)
              go_cut [8] (fun s8 wx => (∃ b, s8 = .bool b ∧ Hid (b = true ↔ SideX s)) ∧ wr = wx)
              case first =>
                cases g1 : decide (s.float ≤ 2) <;> cases g2 : decide (s.clear ≤ 3)
                all_goals
                  go_wp2_with fail
                  go_meet
                  case rel => exact ⟨⟨_, rfl, Lib.hid (by first | (simp only [decide_eq_false_iff_not, decide_eq_true_eq] at g1 g2) ; unfold SideX; simp <;> omega)⟩, rfl⟩
              case rest =>
                obtain ⟨⟨x8, rfl, HX8⟩, rfl⟩ := hcut
                go_upto_region 19 with (fail)
                go_cut [9] (fun s9 wx => (∃ b, s9 = .bool b ∧ Hid (b = true ↔ PlX s)) ∧ wr = wx)
                case first =>
                  cases g1 : decide (s.align ≤ 2) <;> cases g2 : decide (s.justify ≤ 3) <;> cases g3 : decide (s.items ≤ 3)
                  all_goals
                    go_wp2_with fail
                    go_meet
                    case rel => exact ⟨⟨_, rfl, Lib.hid (by simp only [decide_eq_false_iff_not, decide_eq_true_eq] at g1 g2 g3; unfold PlX; simp <;> omega)⟩, rfl⟩
                case rest =>
                  obtain ⟨⟨x9, rfl, HX9⟩, rfl⟩ := hcut
                  go_upto_region 20 with (fail)
                  go_cut [10] (fun s10 wx => (∃ b, s10 = .bool b ∧ Hid (b = true ↔ GrS s)) ∧ wr = wx)
                  case first =>
                    cases g1 : decide ((0 : Int) ≤ s.grow) <;> cases g2 : decide (s.grow ≤ 60) <;> cases g3 : decide ((0 : Int) ≤ s.shrink) <;> cases g4 : decide (s.shrink ≤ 60)
                    all_goals
                      go_wp2_with fail
                      go_meet
                      case rel => exact ⟨⟨_, rfl, Lib.hid (by simp only [decide_eq_false_iff_not, decide_eq_true_eq] at g1 g2 g3 g4; unfold GrS; simp <;> omega)⟩, rfl⟩
                  case rest =>
                    obtain ⟨⟨x10, rfl, HX10⟩, rfl⟩ := hcut
                    have HP : Hid (BoxX s nu ↔ (x8 = true ∧ x9 = true ∧ x10 = true ∧ LnX s nu)) := Lib.hid ⟨fun h => ⟨HX8.out.2 h.sd, HX9.out.2 h.pl, HX10.out.2 h.gr, h.ln⟩, fun h => ⟨HE.out, HW4.out, HG3.out, HX8.out.1 h.1, HX9.out.1 h.2.1, HX10.out.1 h.2.2.1, h.2.2.2⟩⟩
                    cases x8
                    · go_wp2_with fail
                      go_ret; exact ⟨⟨_, rfl, fun h => by simp at h, fun h => by have := (HP.out.1 h).1; simp at this⟩, HBW.out⟩
                    cases x9
                    · go_wp2_with fail
                      go_ret; exact ⟨⟨_, rfl, fun h => by simp at h, fun h => by have := (HP.out.1 h).2.1; simp at this⟩, HBW.out⟩
                    cases x10
                    · go_wp2_with fail
                      go_ret; exact ⟨⟨_, rfl, fun h => by simp at h, fun h => by have := (HP.out.1 h).2.2.1; simp at this⟩, HBW.out⟩
                    cases g1 : decide ((0 : Int) ≤ s.line)
                    · have HNO := Lib.hid (show ¬ BoxX s nu from fun h => by have := h.ln.1; have := of_decide_eq_false g1; omega)
                      go_wp2_with fail
                      go_ret; exact ⟨⟨_, rfl, fun h => by simp at h, fun h => absurd h HNO.out⟩, HBW.out⟩
                    cases g2 : decide (s.line ≤ 1099511627776)
                    · have HNO := Lib.hid (show ¬ BoxX s nu from fun h => by have := h.ln.2.1; have := of_decide_eq_false g2; omega)
                      go_wp2_with fail
                      go_ret; exact ⟨⟨_, rfl, fun h => by simp at h, fun h => absurd h HNO.out⟩, HBW.out⟩
                    cases g3 : decide ((-1048576 : Int) ≤ s.order)
                    · have HNO := Lib.hid (show ¬ BoxX s nu from fun h => by have := h.ln.2.2.1; have := of_decide_eq_false g3; omega)
                      go_wp2_with fail
                      go_ret; exact ⟨⟨_, rfl, fun h => by simp at h, fun h => absurd h HNO.out⟩, HBW.out⟩
                    cases g4 : decide (s.order ≤ 1048576)
                    · have HNO := Lib.hid (show ¬ BoxX s nu from fun h => by have := h.ln.2.2.2.1; have := of_decide_eq_false g4; omega)
                      go_wp2_with fail
                      go_ret; exact ⟨⟨_, rfl, fun h => by simp at h, fun h => absurd h HNO.out⟩, HBW.out⟩
                    by_cases g5 : nu = 0
                    · have e5 : ((nu : Int) == 0) = true := beq_iff_eq.2 (by omega)
                      have e5' : (nu == 0) = true := beq_iff_eq.2 g5
                      have HY := Lib.hid (HP.out.2 ⟨rfl, rfl, rfl, of_decide_eq_true g1, of_decide_eq_true g2, of_decide_eq_true g3, of_decide_eq_true g4, g5⟩)
                      clear g5
                      go_wp2_with fail
                      go_ret; exact ⟨⟨_, rfl, fun _ => HY.out, fun _ => rfl⟩, HBW.out⟩
                    · have e5 : ((nu : Int) == 0) = false := beq_eq_false_iff_ne.2 (by omega)
                      have e5' : (nu == 0) = false := beq_eq_false_iff_ne.2 g5
                      have HNO := Lib.hid (show ¬ BoxX s nu from fun h => g5 h.ln.2.2.2.2)
                      clear g5
                      go_wp2_with fail
                      go_ret; exact ⟨⟨_, rfl, fun h => by simp at h, fun h => absurd h HNO.out⟩, HBW.out⟩
end Go.Proofs.YtjhfcpadnofdnaaGreat
namespace Go.Proofs.YtjhfcpadnofdnaaGreat
open Go.RowKit
attribute [local go_sem] block_of_add
theorem el_len : El Tryz.prog 259 62 (.agg #[.int .u8 0, .int .i64 0]) 2 16 := ⟨Tryz.underlying259, by kernel_rfl, rfl, by decide⟩
def lnCells (l : List Ln) : List Value := l.flatMap fun x => [.int .u8 x.k, .int .i64 x.n]
def lns (s : Sty) (k : Nat) : List Ln := [s.w, s.h, s.minw, s.maxw, s.minh, s.maxh, s.basis] ++ (List.range k).map (mgAt s)
theorem lns_len (s : Sty) (k : Nat) : (lns s k).length = 7 + k := by simp [lns]; omega
theorem lns_succ (s : Sty) (k : Nat) : lnCells (lns s k) ++ [.int .u8 (mgAt s k).k, .int .i64 (mgAt s k).n] = lnCells (lns s (k + 1)) := by
  simp [lns, lnCells, List.range_succ]
theorem lnCells_at (l : List Ln) : ∀ (k i : Nat) (hk : k < l.length), i < 2 → (lnCells l)[k * 2 + i]? = ([Value.int .u8 l[k].k, .int .i64 l[k].n])[i]? := by
  induction l with
  | nil => intro k i hk; simp at hk
  | cons a t ih =>
    intro k i hk hi
    have hc : lnCells (a :: t) = [Value.int .u8 a.k, .int .i64 a.n] ++ lnCells t := by simp [lnCells]
    rw [hc]
    rcases k with _ | k
    · rw [List.getElem?_append_left (by simp; omega)]; simp
    · rw [List.getElem?_append_right (by simp; omega), show (k + 1) * 2 + i - ([Value.int .u8 a.k, Value.int .i64 a.n] : List Value).length = k * 2 + i by simp; omega, ih k i (by simpa using hk) hi]
      simp
theorem app_box {w2 w4 : World} {B : Nat} {ov : Value} {e : TypeId} {size n : Nat} {xs : List Value} {g : Nat} {t : TypeId} {cs : Array Value} (ho : w2.ownsRow B e size ov n xs) (hg : w2.grownBy w4 ov.ownBlock) (hb : Blk w2 g t cs) (hl : g < B) : Blk w4 g t cs := hb.grown hg (own_far ho hl)
end Go.Proofs.YtjhfcpadnofdnaaGreat
set_option linter.unusedSimpArgs false
set_option linter.unusedVariables false
namespace Go.Proofs.YtjhfcpadnofdnaaGreat
open Go.RowKit
attribute [local go_sem] block_of_add
theorem sty_range (W : World) (g : Nat) (s : Sty) (hb : Blk W g 67 (styCells s).toArray) : W.rangeAt g 0 (styCells s) := fun j v hv => by rw [Nat.zero_add]; exact hb.get j (by simpa using hv)
/-- What a style that is right is. -/
structure StyR (s : Sty) : Prop where
  b : StyB s
  lim : ∀ x, x = s.w ∨ x = s.maxw ∨ x = s.minw ∨ x = s.m1 ∨ x = s.m3 ∨ x = s.basis → (-1099511627776 ≤ x.n ∧ x.n ≤ 1099511627776) ∧ (x.k = 2 → -100000 ≤ x.n ∧ x.n ≤ 100000)
  k : s.kind = 1 ∨ s.kind = 2 ∨ s.kind = 3
  gr : s.kind ≠ 3 → GrS s
end Go.Proofs.YtjhfcpadnofdnaaGreat
