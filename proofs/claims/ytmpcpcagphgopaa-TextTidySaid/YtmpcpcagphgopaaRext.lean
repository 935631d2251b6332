/- The contract of jambref06.Extent. -/
import Derived.Test.YtmpcpcagphgopaaExt
import Derived.Deep.RegionLaw
set_option linter.unusedSimpArgs false
set_option linter.unusedVariables false
namespace Go.Proofs.Ytmpcpcagphgopaa
open Go.RowKit
attribute [local go_sem] block_of_add

theorem max_ite (a b : Int) : (if a < b then b else a) = max a b := by rw [Int.max_def]; split <;> split <;> omega
theorem i64s_two (rl : List Int) (a b : Int) : i64s (rl ++ [a, b]) = i64s rl ++ [.int .i64 a, .int .i64 b] := by simp [i64s]
theorem rest_go {l : List Wd} {q : Nat} {s X : Int} (hq : q < l.length) (hf : ¬ 0 < l[q].forced) (h : s + restAt l q = X) : s + (l[q].w + l[q].gap) + restAt l (q + 1) = X := by
  rw [restAt_at l hq, if_neg hf] at h; omega
theorem rest_stop {l : List Wd} {q : Nat} {s X : Int} (hq : q = l.length ∨ ∃ h : q < l.length, 0 < l[q].forced) (h : s + restAt l q = X) : s = X := by
  rcases hq with rfl | ⟨h1, h2⟩
  · rw [restAt_end l (Nat.le_refl _)] at h; omega
  · rw [restAt_at l h1, if_pos h2] at h; omega

set_option maxRecDepth 100000 in
set_option maxHeartbeats 4000000 in
theorem rext_any (l : List Wd) (A : Option Addr) (c : Nat) (w : World) (hl : Ws64 l) (hn : l.length ≤ 500000) (hr : Reads w w.heap.size 5 A l.length (wdsCells l)) :
    Calls Try.prog 17 #[.slice A l.length c] w fun e w' => e = .returned (.tuple #[.int .i64 (extF l).1, .int .i64 (extF l).2.1, .bool (extF l).2.2]) ∧ Below w.heap.size w w' := by
  have HL := Lib.hid hr
  clear hr
  go_enter Try.func17, Try.ntmps17
  go_wp2_with fail
  go_loopw [5, 6, 7, 8] (fun s g f i wr => ∃ k : Nat, k ≤ l.length ∧ i = .int .i64 k ∧ s = .int .i64 (exAt l k).least ∧ g = .int .i64 (refG l k).1 ∧ f = .bool (refG l k).2 ∧ Below w.heap.size w wr) (fun _ _ _ i _ => l.length - (intOf i).toNat)
  case atStart => exact ⟨0, by omega, rfl, rfl, rfl, rfl, Below.refl _ _⟩
  case round =>
    obtain ⟨k, hk, rfl, rfl, rfl, rfl, hw⟩ := hrel
    by_cases hlt : k < l.length
    · obtain ⟨ad, rfl, hab, a0, a1, a2, a3, a4⟩ := (HL.out.below hw).wd rfl hlt
      have hX := hl.at_ hlt
      have HLL := Lib.hid (exLeast_at l hlt)
      have HGO := Lib.hid (refG_go l hlt)
      have HNEW := Lib.hid (refG_new l hlt)
      obtain ⟨x, hx⟩ : ∃ x, l[k] = x := ⟨_, rfl⟩
      rw [hx] at a0 a1 a2 a3 a4 hX HLL HGO HNEW
      clear hx
      clear a0 a1 a3
      obtain ⟨m, hm⟩ : ∃ m, (exAt l k).least = m := ⟨_, rfl⟩
      rw [hm] at HLL
      simp only [hm]
      clear hm
      obtain ⟨gg, hgg⟩ : ∃ gg, (refG l k).1 = gg := ⟨_, rfl⟩
      obtain ⟨fb, hfb⟩ : ∃ fb, (refG l k).2 = fb := ⟨_, rfl⟩
      have HGF := Lib.hid (And.intro hgg hfb)
      rw [hgg, hfb] at HNEW
      simp only [hgg, hfb]
      clear hgg hfb
      by_cases hk0 : k = 0
      · have HE : Hid (exLeast k m x = x.w) := Lib.hid (by simp [exLeast, hk0])
        have HS : Hid (starts k x = true) := Lib.hid (by simp [starts, hk0])
        have e0 : ((k : Int) == 0) = true := by simp [hk0]
        have e1 : decide ((0 : Int) < (k : Int)) = false := by simp [hk0]
        have hk1 : k ≤ 0 := by omega
        clear hk0
        go_wp2_with fail
        obtain ⟨wo, hwo⟩ : ∃ wo : World, wo = wr := ⟨_, rfl⟩
        subst hwo
        have hwl := hw.size
        have hr0 : (wo.alloc (.cells #[.int .i64 x.w] 2)).ownsRow w.heap.size 2 1 (.slice (some ⟨wo.heap.size, 0, none⟩) 1 1) 1 (i64s [x.w]) := World.ownsRow_lit wo #[.int .i64 x.w] 1 hwl (by decide) rfl
        have hb0 : Below w.heap.size w (wo.alloc (.cells #[.int .i64 x.w] 2)) := hw.alloc hwl _
        have HNW := HNEW.out HS.out
        obtain ⟨X, hXX⟩ : ∃ X, x.w + restAt l (k + 1) = X := ⟨_, rfl⟩
        rw [hXX] at HNW
        have HN2 := Lib.hid HNW
        have HXX := Lib.hid hXX
        clear HNW hXX a2 a4 e0 e1
        go_loopw [9, 10] (fun r q wr => ∃ (z : Nat) (rl : List Int), k < z ∧ z ≤ l.length ∧ q = .int .i64 z ∧ wr.ownsRow w.heap.size 2 1 r rl.length (i64s rl) ∧ I64s rl ∧ rl.length ≤ 2 * z ∧ rl.sum + restAt l z = X ∧ Below w.heap.size w wr) (fun _ q _ => l.length - (intOf q).toNat)
        case atStart => exact ⟨k + 1, [x.w], by omega, by omega, by go_num, hr0, by intro y hy; rw [List.mem_singleton] at hy; subst hy; exact hX.1, by simp; omega, by rw [← HXX.out]; simp, hb0⟩
        case round =>
          clear hr0 hb0 hw
          obtain ⟨z, rl, hz0, hz1, rfl, hown, hrl, hrn, hsum, hw⟩ := hrel
          obtain ⟨Ar, cr, rfl⟩ := own_form hown
          have HSUM := Lib.hid hsum
          clear hsum
          by_cases hzl : z < l.length
          · obtain ⟨ad', he, hab', b0, b1, b2, b3, b4⟩ := (HL.out.below hw).wd rfl hzl
            injection he with he
            subst he
            have hzz : (z : Int) < (l.length : Int) := by omega
            have hY := hl.at_ hzl
            have HGO2 := Lib.hid (fun hf => rest_go (X := X) hzl hf HSUM.out)
            have HST2 := Lib.hid (fun hf : 0 < l[z].forced => rest_stop (.inr ⟨hzl, hf⟩) HSUM.out)
            obtain ⟨y, hy⟩ : ∃ y, l[z] = y := ⟨_, rfl⟩
            rw [hy] at b2 b3 b4 hY HGO2 HST2
            clear hy b0 b1 hab'
            by_cases hf2 : 0 < y.forced
            · have e4 : decide (y.forced ≤ 0) = false := decide_eq_false (by omega)
              have HT := Lib.hid (HST2.out hf2)
              have hnn : rl.length ≤ 1048000 := by omega
              have HC := Lib.hid (rsum_any rl Ar cr _ hrl hnn (Reads.of_own hown))
              rw [HT.out] at HC
              have HN3 : Hid (refG l (k + 1) = (max gg (cutF X), fb || cutB X)) := HN2
              obtain ⟨ob, hob⟩ : ∃ ob, cutB X = ob := ⟨_, rfl⟩
              rw [hob] at HC HN3
              clear hob
              go_wp2_with fail
              refine HC.out.mono ?_
              rintro e W1 ⟨rfl, hB1⟩
              have hw1 := hw.trans (hB1.mono hw.size)
              cases ob <;> cases fb
              all_goals
                go_wp2_with fail
                go_roundw
                case rel => exact ⟨k + 1, by omega, by go_num, by rw [HLL.out, HE.out], by rw [HN3.out, max_ite], by rw [HN3.out]; rfl, hw1⟩
                case measure => simp [intOf]; omega
            · have e4 : decide (y.forced ≤ 0) = true := decide_eq_true (by omega)
              have HQ := Lib.hid (HGO2.out hf2)
              have hmix : Try.prog.follows .mixedOrders = true := by kernel_rfl
              have hownD : wr.drew.ownsRow w.heap.size 2 1 (.slice Ar rl.length cr) rl.length (i64s rl) := hown
              have hwD := hw.drew
              clear hf2
              go_wp2_with fail
              go_region_law (refine step_app (m := 2) rfl _ _ rfl el_i64 hownD hwD.size rfl [_, _] rfl (by simp) (by simp [Value.oneCell']) (by omega) (by omega) ?_; intro A' c' w' hown' hB hg _)
              all_goals
                go_wp2_with fail
                go_roundw
                case rel => exact ⟨z + 1, rl ++ [y.w, y.gap], by omega, by omega, by go_num, by rw [i64s_two, List.length_append]; exact hown', by intro v hv; rcases List.mem_append.1 hv with hv | hv; exact hrl v hv; simp at hv; rcases hv with rfl | rfl; exact hY.1; exact hY.2, by simp; omega, by rw [List.sum_append]; simpa using HQ.out, hB _ _ (Nat.le_refl _) hwD⟩
                case measure => simp [intOf]; omega
          · obtain rfl : z = l.length := by omega
            have HT := Lib.hid (rest_stop (.inl rfl) HSUM.out)
            have hnn : rl.length ≤ 1048000 := by omega
            have HC := Lib.hid (rsum_any rl Ar cr _ hrl hnn (Reads.of_own hown))
            rw [HT.out] at HC
            have HN3 : Hid (refG l (k + 1) = (max gg (cutF X), fb || cutB X)) := HN2
            obtain ⟨ob, hob⟩ : ∃ ob, cutB X = ob := ⟨_, rfl⟩
            rw [hob] at HC HN3
            clear hob
            go_wp2_with fail
            refine HC.out.mono ?_
            rintro e W1 ⟨rfl, hB1⟩
            have hw1 := hw.trans (hB1.mono hw.size)
            cases ob <;> cases fb
            all_goals
              go_wp2_with fail
              go_roundw
              case rel => exact ⟨k + 1, by omega, by go_num, by rw [HLL.out, HE.out], by rw [HN3.out, max_ite], by rw [HN3.out]; rfl, hw1⟩
              case measure => simp [intOf]; omega
      · have e0 : ((k : Int) == 0) = false := by simp [hk0]
        have e1 : decide ((0 : Int) < (k : Int)) = true := by simp; omega
        by_cases hlw : m < x.w
        · have HE : Hid (exLeast k m x = x.w) := Lib.hid (by simp [exLeast, hlw])
          have e2 : decide (m < x.w) = true := decide_eq_true hlw
          by_cases hf : 0 < x.forced
          · have HS : Hid (starts k x = true) := Lib.hid (by simp [starts, hf])
            have e3 : decide (x.forced ≤ 0) = false := decide_eq_false (by omega)
            go_wp2_with fail
            obtain ⟨wo, hwo⟩ : ∃ wo : World, wo = wr := ⟨_, rfl⟩
            subst hwo
            have hwl := hw.size
            have hr0 : (wo.alloc (.cells #[.int .i64 x.w] 2)).ownsRow w.heap.size 2 1 (.slice (some ⟨wo.heap.size, 0, none⟩) 1 1) 1 (i64s [x.w]) := World.ownsRow_lit wo #[.int .i64 x.w] 1 hwl (by decide) rfl
            have hb0 : Below w.heap.size w (wo.alloc (.cells #[.int .i64 x.w] 2)) := hw.alloc hwl _
            have HNW := HNEW.out HS.out
            obtain ⟨X, hXX⟩ : ∃ X, x.w + restAt l (k + 1) = X := ⟨_, rfl⟩
            rw [hXX] at HNW
            have HN2 := Lib.hid HNW
            have HXX := Lib.hid hXX
            clear HNW hXX a2 a4 e0 e1
            go_loopw [9, 10] (fun r q wr => ∃ (z : Nat) (rl : List Int), k < z ∧ z ≤ l.length ∧ q = .int .i64 z ∧ wr.ownsRow w.heap.size 2 1 r rl.length (i64s rl) ∧ I64s rl ∧ rl.length ≤ 2 * z ∧ rl.sum + restAt l z = X ∧ Below w.heap.size w wr) (fun _ q _ => l.length - (intOf q).toNat)
            case atStart => exact ⟨k + 1, [x.w], by omega, by omega, by go_num, hr0, by intro y hy; rw [List.mem_singleton] at hy; subst hy; exact hX.1, by simp; omega, by rw [← HXX.out]; simp, hb0⟩
            case round =>
              clear hr0 hb0 hw
              obtain ⟨z, rl, hz0, hz1, rfl, hown, hrl, hrn, hsum, hw⟩ := hrel
              obtain ⟨Ar, cr, rfl⟩ := own_form hown
              have HSUM := Lib.hid hsum
              clear hsum
              by_cases hzl : z < l.length
              · obtain ⟨ad', he, hab', b0, b1, b2, b3, b4⟩ := (HL.out.below hw).wd rfl hzl
                injection he with he
                subst he
                have hzz : (z : Int) < (l.length : Int) := by omega
                have hY := hl.at_ hzl
                have HGO2 := Lib.hid (fun hf => rest_go (X := X) hzl hf HSUM.out)
                have HST2 := Lib.hid (fun hf : 0 < l[z].forced => rest_stop (.inr ⟨hzl, hf⟩) HSUM.out)
                obtain ⟨y, hy⟩ : ∃ y, l[z] = y := ⟨_, rfl⟩
                rw [hy] at b2 b3 b4 hY HGO2 HST2
                clear hy b0 b1 hab'
                by_cases hf2 : 0 < y.forced
                · have e4 : decide (y.forced ≤ 0) = false := decide_eq_false (by omega)
                  have HT := Lib.hid (HST2.out hf2)
                  have hnn : rl.length ≤ 1048000 := by omega
                  have HC := Lib.hid (rsum_any rl Ar cr _ hrl hnn (Reads.of_own hown))
                  rw [HT.out] at HC
                  have HN3 : Hid (refG l (k + 1) = (max gg (cutF X), fb || cutB X)) := HN2
                  obtain ⟨ob, hob⟩ : ∃ ob, cutB X = ob := ⟨_, rfl⟩
                  rw [hob] at HC HN3
                  clear hob
                  go_wp2_with fail
                  refine HC.out.mono ?_
                  rintro e W1 ⟨rfl, hB1⟩
                  have hw1 := hw.trans (hB1.mono hw.size)
                  cases ob <;> cases fb
                  all_goals
                    go_wp2_with fail
                    go_roundw
                    case rel => exact ⟨k + 1, by omega, by go_num, by rw [HLL.out, HE.out], by rw [HN3.out, max_ite], by rw [HN3.out]; rfl, hw1⟩
                    case measure => simp [intOf]; omega
                · have e4 : decide (y.forced ≤ 0) = true := decide_eq_true (by omega)
                  have HQ := Lib.hid (HGO2.out hf2)
                  have hmix : Try.prog.follows .mixedOrders = true := by kernel_rfl
                  have hownD : wr.drew.ownsRow w.heap.size 2 1 (.slice Ar rl.length cr) rl.length (i64s rl) := hown
                  have hwD := hw.drew
                  clear hf2
                  go_wp2_with fail
                  go_region_law (refine step_app (m := 2) rfl _ _ rfl el_i64 hownD hwD.size rfl [_, _] rfl (by simp) (by simp [Value.oneCell']) (by omega) (by omega) ?_; intro A' c' w' hown' hB hg _)
                  all_goals
                    go_wp2_with fail
                    go_roundw
                    case rel => exact ⟨z + 1, rl ++ [y.w, y.gap], by omega, by omega, by go_num, by rw [i64s_two, List.length_append]; exact hown', by intro v hv; rcases List.mem_append.1 hv with hv | hv; exact hrl v hv; simp at hv; rcases hv with rfl | rfl; exact hY.1; exact hY.2, by simp; omega, by rw [List.sum_append]; simpa using HQ.out, hB _ _ (Nat.le_refl _) hwD⟩
                    case measure => simp [intOf]; omega
              · obtain rfl : z = l.length := by omega
                have HT := Lib.hid (rest_stop (.inl rfl) HSUM.out)
                have hnn : rl.length ≤ 1048000 := by omega
                have HC := Lib.hid (rsum_any rl Ar cr _ hrl hnn (Reads.of_own hown))
                rw [HT.out] at HC
                have HN3 : Hid (refG l (k + 1) = (max gg (cutF X), fb || cutB X)) := HN2
                obtain ⟨ob, hob⟩ : ∃ ob, cutB X = ob := ⟨_, rfl⟩
                rw [hob] at HC HN3
                clear hob
                go_wp2_with fail
                refine HC.out.mono ?_
                rintro e W1 ⟨rfl, hB1⟩
                have hw1 := hw.trans (hB1.mono hw.size)
                cases ob <;> cases fb
                all_goals
                  go_wp2_with fail
                  go_roundw
                  case rel => exact ⟨k + 1, by omega, by go_num, by rw [HLL.out, HE.out], by rw [HN3.out, max_ite], by rw [HN3.out]; rfl, hw1⟩
                  case measure => simp [intOf]; omega
          · have HS : Hid (starts k x = false) := Lib.hid (by simp [starts, hf, hk0])
            have e3 : decide (x.forced ≤ 0) = true := decide_eq_true (by omega)
            go_wp2_with fail
            go_roundw
            case rel => exact ⟨k + 1, by omega, by go_num, by rw [HLL.out, HE.out], by rw [HGO.out HS.out, HGF.out.1], by rw [HGO.out HS.out, HGF.out.2], hw⟩
            case measure => simp [intOf]; omega
        · have HE : Hid (exLeast k m x = m) := Lib.hid (by simp [exLeast, hlw, hk0])
          have e2 : decide (m < x.w) = false := decide_eq_false hlw
          by_cases hf : 0 < x.forced
          · have HS : Hid (starts k x = true) := Lib.hid (by simp [starts, hf])
            have e3 : decide (x.forced ≤ 0) = false := decide_eq_false (by omega)
            go_wp2_with fail
            obtain ⟨wo, hwo⟩ : ∃ wo : World, wo = wr := ⟨_, rfl⟩
            subst hwo
            have hwl := hw.size
            have hr0 : (wo.alloc (.cells #[.int .i64 x.w] 2)).ownsRow w.heap.size 2 1 (.slice (some ⟨wo.heap.size, 0, none⟩) 1 1) 1 (i64s [x.w]) := World.ownsRow_lit wo #[.int .i64 x.w] 1 hwl (by decide) rfl
            have hb0 : Below w.heap.size w (wo.alloc (.cells #[.int .i64 x.w] 2)) := hw.alloc hwl _
            have HNW := HNEW.out HS.out
            obtain ⟨X, hXX⟩ : ∃ X, x.w + restAt l (k + 1) = X := ⟨_, rfl⟩
            rw [hXX] at HNW
            have HN2 := Lib.hid HNW
            have HXX := Lib.hid hXX
            clear HNW hXX a2 a4 e0 e1
            go_loopw [9, 10] (fun r q wr => ∃ (z : Nat) (rl : List Int), k < z ∧ z ≤ l.length ∧ q = .int .i64 z ∧ wr.ownsRow w.heap.size 2 1 r rl.length (i64s rl) ∧ I64s rl ∧ rl.length ≤ 2 * z ∧ rl.sum + restAt l z = X ∧ Below w.heap.size w wr) (fun _ q _ => l.length - (intOf q).toNat)
            case atStart => exact ⟨k + 1, [x.w], by omega, by omega, by go_num, hr0, by intro y hy; rw [List.mem_singleton] at hy; subst hy; exact hX.1, by simp; omega, by rw [← HXX.out]; simp, hb0⟩
            case round =>
              clear hr0 hb0 hw
              obtain ⟨z, rl, hz0, hz1, rfl, hown, hrl, hrn, hsum, hw⟩ := hrel
              obtain ⟨Ar, cr, rfl⟩ := own_form hown
              have HSUM := Lib.hid hsum
              clear hsum
              by_cases hzl : z < l.length
              · obtain ⟨ad', he, hab', b0, b1, b2, b3, b4⟩ := (HL.out.below hw).wd rfl hzl
                injection he with he
                subst he
                have hzz : (z : Int) < (l.length : Int) := by omega
                have hY := hl.at_ hzl
                have HGO2 := Lib.hid (fun hf => rest_go (X := X) hzl hf HSUM.out)
                have HST2 := Lib.hid (fun hf : 0 < l[z].forced => rest_stop (.inr ⟨hzl, hf⟩) HSUM.out)
                obtain ⟨y, hy⟩ : ∃ y, l[z] = y := ⟨_, rfl⟩
                rw [hy] at b2 b3 b4 hY HGO2 HST2
                clear hy b0 b1 hab'
                by_cases hf2 : 0 < y.forced
                · have e4 : decide (y.forced ≤ 0) = false := decide_eq_false (by omega)
                  have HT := Lib.hid (HST2.out hf2)
                  have hnn : rl.length ≤ 1048000 := by omega
                  have HC := Lib.hid (rsum_any rl Ar cr _ hrl hnn (Reads.of_own hown))
                  rw [HT.out] at HC
                  have HN3 : Hid (refG l (k + 1) = (max gg (cutF X), fb || cutB X)) := HN2
                  obtain ⟨ob, hob⟩ : ∃ ob, cutB X = ob := ⟨_, rfl⟩
                  rw [hob] at HC HN3
                  clear hob
                  go_wp2_with fail
                  refine HC.out.mono ?_
                  rintro e W1 ⟨rfl, hB1⟩
                  have hw1 := hw.trans (hB1.mono hw.size)
                  cases ob <;> cases fb
                  all_goals
                    go_wp2_with fail
                    go_roundw
                    case rel => exact ⟨k + 1, by omega, by go_num, by rw [HLL.out, HE.out], by rw [HN3.out, max_ite], by rw [HN3.out]; rfl, hw1⟩
                    case measure => simp [intOf]; omega
                · have e4 : decide (y.forced ≤ 0) = true := decide_eq_true (by omega)
                  have HQ := Lib.hid (HGO2.out hf2)
                  have hmix : Try.prog.follows .mixedOrders = true := by kernel_rfl
                  have hownD : wr.drew.ownsRow w.heap.size 2 1 (.slice Ar rl.length cr) rl.length (i64s rl) := hown
                  have hwD := hw.drew
                  clear hf2
                  go_wp2_with fail
                  go_region_law (refine step_app (m := 2) rfl _ _ rfl el_i64 hownD hwD.size rfl [_, _] rfl (by simp) (by simp [Value.oneCell']) (by omega) (by omega) ?_; intro A' c' w' hown' hB hg _)
                  all_goals
                    go_wp2_with fail
                    go_roundw
                    case rel => exact ⟨z + 1, rl ++ [y.w, y.gap], by omega, by omega, by go_num, by rw [i64s_two, List.length_append]; exact hown', by intro v hv; rcases List.mem_append.1 hv with hv | hv; exact hrl v hv; simp at hv; rcases hv with rfl | rfl; exact hY.1; exact hY.2, by simp; omega, by rw [List.sum_append]; simpa using HQ.out, hB _ _ (Nat.le_refl _) hwD⟩
                    case measure => simp [intOf]; omega
              · obtain rfl : z = l.length := by omega
                have HT := Lib.hid (rest_stop (.inl rfl) HSUM.out)
                have hnn : rl.length ≤ 1048000 := by omega
                have HC := Lib.hid (rsum_any rl Ar cr _ hrl hnn (Reads.of_own hown))
                rw [HT.out] at HC
                have HN3 : Hid (refG l (k + 1) = (max gg (cutF X), fb || cutB X)) := HN2
                obtain ⟨ob, hob⟩ : ∃ ob, cutB X = ob := ⟨_, rfl⟩
                rw [hob] at HC HN3
                clear hob
                go_wp2_with fail
                refine HC.out.mono ?_
                rintro e W1 ⟨rfl, hB1⟩
                have hw1 := hw.trans (hB1.mono hw.size)
                cases ob <;> cases fb
                all_goals
                  go_wp2_with fail
                  go_roundw
                  case rel => exact ⟨k + 1, by omega, by go_num, by rw [HLL.out, HE.out], by rw [HN3.out, max_ite], by rw [HN3.out]; rfl, hw1⟩
                  case measure => simp [intOf]; omega
          · have HS : Hid (starts k x = false) := Lib.hid (by simp [starts, hf, hk0])
            have e3 : decide (x.forced ≤ 0) = true := decide_eq_true (by omega)
            go_wp2_with fail
            go_roundw
            case rel => exact ⟨k + 1, by omega, by go_num, by rw [HLL.out, HE.out], by rw [HGO.out HS.out, HGF.out.1], by rw [HGO.out HS.out, HGF.out.2], hw⟩
            case measure => simp [intOf]; omega
    · obtain rfl : k = l.length := by omega
      have HG := Lib.hid (refG_end l)
      go_wp2_with fail
      refine bodyPost_ret (v := .tuple #[.int .i64 (exAt l l.length).least, .int .i64 (refG l l.length).1, .bool (refG l l.length).2]) (by simp [results, Try.results17, go_sem]) rfl ⟨?_, hw⟩
      rw [HG.out]; rfl
end Go.Proofs.Ytmpcpcagphgopaa
