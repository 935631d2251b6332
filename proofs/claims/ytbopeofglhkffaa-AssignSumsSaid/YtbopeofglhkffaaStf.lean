/- Stable sorting, walked: merging in place. -/
import Derived.Test.YtbopeofglhkffaaSte
set_option linter.unusedSimpArgs false
set_option linter.unusedVariables false
namespace Go.Proofs.Ytbopeofglhkffaa
open Go.RowKit
attribute [local go_sem] block_of_add
/-- What a merge says. -/
def MrgOk (gk N g n c : Nat) (o : Nat → Int) (k : Nat) : Prop := ∀ (a m b : Nat) (d : Nat → Nat) (w : World), b - a ≤ k → a < m → m < b → b ≤ n → Srt o d a m → Srt o d m b → Crs o d a m b → DAt N g n d w w → CmpOk gk g N o w →
    Calls Try.prog 106 #[.slice (some ⟨g, 0, none⟩) n c, .int .i64 a, .int .i64 m, .int .i64 b, (.func (.func 85) #[] #[.pointer (some ⟨gk, 0, none⟩)])] w fun e w' => e = .returned (.tuple #[]) ∧ ∃ d', DAt N g n d' w w' ∧ Srt o d' a b ∧ Pin a b d d'
/-- Where the search stands. -/
structure SymI (o : Nat → Int) (d : Nat → Nat) (lo hi p s r : Nat) : Prop where
  l : ∀ c, lo ≤ c → c < s → lexLt o (d c) (d (p - c))
  r : ∀ c, r ≤ c → c < hi → lexLt o (d (p - c)) (d c)
set_option maxRecDepth 100000 in
set_option maxHeartbeats 8000000 in
theorem sym3_any (gk N g n c k a m b : Nat) (d : Nat → Nat) (o : Nat → Int) (w : World) (hn : n ≤ 1000000) (ih : MrgOk gk N g n c o k) (hk : b - a ≤ k + 1) (h1 : a < m) (h2 : m < b) (h3 : b ≤ n) (he1 : m ≠ a + 1) (he2 : b ≠ m + 1) (s1 : Srt o d a m) (s2 : Srt o d m b) (cr : Crs o d a m b) (hd : DAt N g n d w w) (hc : CmpOk gk g N o w) :
    Calls Try.prog 106 #[.slice (some ⟨g, 0, none⟩) n c, .int .i64 a, .int .i64 m, .int .i64 b, (.func (.func 85) #[] #[.pointer (some ⟨gk, 0, none⟩)])] w fun e w' => e = .returned (.tuple #[]) ∧ ∃ d', DAt N g n d' w w' ∧ Srt o d' a b ∧ Pin a b d d' := by
  have HD0 := Lib.hid hd
  have HC := Lib.hid hc
  have HS1 := Lib.hid s1
  have HS2 := Lib.hid s2
  have HCX := Lib.hid cr
  have IH := Lib.hid ih
  clear hd hc s1 s2 cr ih
  obtain ⟨l9, hl9⟩ : ∃ l9, l9 = m - a := ⟨_, rfl⟩
  have wa : IntKind.i64.wrap ((m : Int) - (a : Int)) = (l9 : Int) := by rw [IntWalk.i64_in _ ⟨by omega, by omega⟩]; omega
  have wa1 : ((l9 : Int) == 1) = false := beq_eq_false_iff_ne.2 (by omega)
  obtain ⟨l8, hl8⟩ : ∃ l8, l8 = b - m := ⟨_, rfl⟩
  have wb : IntKind.i64.wrap ((b : Int) - (m : Int)) = (l8 : Int) := by rw [IntWalk.i64_in _ ⟨by omega, by omega⟩]; omega
  have wb1 : ((l8 : Int) == 1) = false := beq_eq_false_iff_ne.2 (by omega)
  clear hl9 hl8
  obtain ⟨tM, htM⟩ : ∃ t, t = a + b := ⟨_, rfl⟩
  obtain ⟨M, hh⟩ : ∃ h, h = (a + b) / 2 := ⟨_, rfl⟩
  have wtM : IntKind.i64.wrap ((a : Int) + (b : Int)) = (tM : Int) := by rw [IntWalk.i64_in _ ⟨by omega, by omega⟩]; omega
  have wuM : IntKind.u64.wrap (tM : Int) = (tM : Int) := by rw [htM]; simp [IntKind.wrap, IntKind.signed, IntKind.bits]; omega
  have wdM : (tM : Int) / 2 = (M : Int) := by omega
  have whM : IntKind.i64.wrap (M : Int) = (M : Int) := IntWalk.i64_in _ ⟨by omega, by omega⟩
  have HM := Lib.hid hh
  have hbM : M + M ≤ a + b ∧ a + b ≤ M + M + 1 := by omega
  clear htM hh
  obtain ⟨nn, hnn⟩ : ∃ nn, nn = M + m := ⟨_, rfl⟩
  have wn : IntKind.i64.wrap ((M : Int) + (m : Int)) = (nn : Int) := by rw [hnn, IntWalk.i64_in _ ⟨by omega, by omega⟩]; omega
  obtain ⟨p, hp⟩ : ∃ p, nn = p + 1 := ⟨nn - 1, by omega⟩
  have wp : IntKind.i64.wrap ((nn : Int) - 1) = (p : Int) := by rw [IntWalk.i64_in _ ⟨by omega, by omega⟩]; omega
  obtain ⟨lo, hlo⟩ : ∃ lo, lo = if M < m then M + m - b else a := ⟨_, rfl⟩
  obtain ⟨hi, hhi⟩ : ∃ hi, hi = if M < m then M else m := ⟨_, rfl⟩
  have hnb : nn = M + m ∧ nn = p + 1 := ⟨hnn, hp⟩
  have hlh : a ≤ lo ∧ lo ≤ hi ∧ hi ≤ m ∧ hi ≤ M ∧ (∀ c, lo ≤ c → c < hi → m ≤ p - c ∧ p - c < b ∧ c < m) := by
    have e : p = M + m - 1 := by omega
    rw [hlo, hhi]
    by_cases hMm : M < m
    · rw [if_pos hMm, if_pos hMm]; exact ⟨by omega, by omega, by omega, by omega, fun c q1 q2 => by omega⟩
    · rw [if_neg hMm, if_neg hMm]; exact ⟨by omega, by omega, by omega, by omega, fun c q1 q2 => by omega⟩
  have HLO := Lib.hid (And.intro hlo hhi)
  have HNN := Lib.hid hnb
  have hpb : nn ≤ p + 1 ∧ p + 1 ≤ nn := by omega
  have hnm : nn ≤ M + m ∧ M + m ≤ nn := by omega
  have HLH := Lib.hid hlh
  clear hnn hp hlo hhi hnb hlh
  go_enter Try.func106, Try.ntmps106
  go_upto_if 140 with (fail)
  go_cut [20, 21] (fun q20 q21 wx => q20 = .int .i64 lo ∧ q21 = .int .i64 hi ∧ w = wx)
  case first => as_aux_lemma =>
    by_cases hMm : M < m
    · have g0 : decide ((M : Int) < (m : Int)) = true := decide_eq_true (by omega)
      have g0' : decide (M < m) = true := decide_eq_true hMm
      obtain ⟨l7, hl7⟩ : ∃ l7, l7 = nn - b := ⟨_, rfl⟩
      have w7 : IntKind.i64.wrap ((nn : Int) - (b : Int)) = (l7 : Int) := by rw [IntWalk.i64_in _ ⟨by omega, by omega⟩]; omega
      have e7 : Hid (l7 = lo ∧ M = hi) := Lib.hid (by rw [HLO.out.1, HLO.out.2, if_pos hMm, if_pos hMm]; omega)
      clear hl7
      go_wp2_with fail
      go_meet
      exact ⟨by rw [e7.out.1], by rw [e7.out.2], rfl⟩
    · have g0 : decide ((M : Int) < (m : Int)) = false := decide_eq_false (by omega)
      have g0' : decide (M < m) = false := decide_eq_false hMm
      have e7 : Hid (a = lo ∧ m = hi) := Lib.hid (by rw [HLO.out.1, HLO.out.2, if_neg hMm, if_neg hMm]; omega)
      go_wp2_with fail
      go_meet
      exact ⟨by rw [e7.out.1], by rw [e7.out.2], rfl⟩
  case rest =>
    obtain ⟨rfl, rfl, rfl⟩ := hcut
    have hlo1 : a ≤ lo ∧ lo ≤ hi ∧ hi ≤ m ∧ hi ≤ M := ⟨HLH.out.1, HLH.out.2.1, HLH.out.2.2.1, HLH.out.2.2.2.1⟩
    go_wp2_with fail
    go_loopw [20, 21, 23] (fun iv jv hv wr => ∃ i j : Nat, (lo ≤ i ∧ i ≤ j ∧ j ≤ hi) ∧ iv = .int .i64 i ∧ jv = .int .i64 j ∧ Hid (SymI o d lo hi p i j ∧ DAt N g n d w wr)) (fun iv jv _ _ => (intOf jv).toNat - (intOf iv).toNat)
    case atStart => exact ⟨lo, hi, by omega, rfl, rfl, Lib.hid ⟨⟨fun c h1 h2 => by omega, fun c h1 h2 => by omega⟩, HD0.out⟩⟩
    case round =>
      obtain ⟨i, j, ⟨b1, b2, b3⟩, rfl, rfl, HJ⟩ := hrel
      by_cases hij : i < j
      · have g0 : decide ((i : Int) < (j : Int)) = true := decide_eq_true (by omega)
        have g0' : decide (i < j) = true := decide_eq_true hij
        obtain ⟨t, ht⟩ : ∃ t, t = i + j := ⟨_, rfl⟩
        obtain ⟨h, hh⟩ : ∃ h, h = (i + j) / 2 := ⟨_, rfl⟩
        have wt : IntKind.i64.wrap ((i : Int) + (j : Int)) = (t : Int) := by rw [IntWalk.i64_in _ ⟨by omega, by omega⟩]; omega
        have wu : IntKind.u64.wrap (t : Int) = (t : Int) := by rw [ht]; simp [IntKind.wrap, IntKind.signed, IntKind.bits]; omega
        have wd : (t : Int) / 2 = (h : Int) := by omega
        have wh : IntKind.i64.wrap (h : Int) = (h : Int) := IntWalk.i64_in _ ⟨by omega, by omega⟩
        have HH := Lib.hid hh
        have hb : h + h ≤ i + j ∧ i + j ≤ h + h + 1 := by omega
        clear ht hh
        have hhx := HLH.out.2.2.2.2 h (by omega) (by omega)
        obtain ⟨q, hq⟩ : ∃ q, q = p - h := ⟨_, rfl⟩
        have wq : IntKind.i64.wrap ((p : Int) - (h : Int)) = (q : Int) := by rw [IntWalk.i64_in _ ⟨by omega, by omega⟩]; omega
        have hqb : m ≤ q ∧ q < b ∧ h < m ∧ q + h = p := by omega
        have HQ := Lib.hid hq
        clear hq hhx
        have hhn : h < n := by omega
        have hqn : q < n := by omega
        have hhi : (h : Int) < (n : Int) := by omega
        have hqi : (q : Int) < (n : Int) := by omega
        obtain ⟨h9, hh9⟩ : ∃ h9, h9 = h + 1 := ⟨_, rfl⟩
        have wh1 : IntKind.i64.wrap ((h : Int) + 1) = (h9 : Int) := by rw [hh9, IntWalk.i64_in _ ⟨by omega, by omega⟩]; omega
        have hb9 : h + 1 ≤ h9 ∧ h9 ≤ h + 1 := by omega
        clear hh9
        have c1 := HJ.out.2.get hqn
        have c2 := HJ.out.2.get hhn
        have hm1 : d h < N := HJ.out.2.m h hhn
        have hm2 : d q < N := HJ.out.2.m q hqn
        have hg := HJ.out.2.lt
        have hgd : g < wr.drew.heap.size := hg
        have HCR := Lib.hid (fun W hW => HC.out.run W (d q) (d h) hW hm2 hm1)
        have HKP := Lib.hid HJ.out.2.k
        go_upto_region 35 with (fail)
        cases hl : decide (o (d q) < o (d h))
        · as_aux_lemma =>
          have e3 : decide (cmpI (o (d q)) (o (d h)) < 0) = false := by rw [cmp_lt]; exact hl
          have HL := Lib.hid (of_decide_eq_false hl)
          go_region_held (fun W => W.cell? ⟨g, q, none⟩ = some (.int .i64 (d q : Nat)) ∧ W.cell? ⟨g, h, none⟩ = some (.int .i64 (d h : Nat))) (first | go_keep | exact ⟨by assumption, by assumption⟩) (first | (go_at_call 85; refine (HCR.out _ HKP.out.drew).mono ?_; rintro e w3 ⟨rfl, hb3⟩; have q1 := (hb3.cell (p := ⟨g, q, none⟩) hgd).trans c1; have q2 := (hb3.cell (p := ⟨g, h, none⟩) hgd).trans c2; have HB3 := Lib.hid hb3; clear hb3))
          all_goals
            have HD3 := Lib.hid (HJ.out.2.drew.bel HB3.out)
            go_wp2_with fail
            go_roundw
            case rel =>
              refine ⟨h9, j, by omega, rfl, rfl, Lib.hid ⟨⟨fun x k1 k2 => ?_, HJ.out.1.r⟩, HD3.out⟩⟩
              obtain ⟨x1, x2, x3⟩ := HLH.out.2.2.2.2 x k1 (by omega)
              have hx := HNN.out
              have y1 := HS1.out.le (show a ≤ x by omega) (show x ≤ h by omega) hqb.2.2.1
              have y2 := HS2.out.le hqb.1 (show q ≤ p - x by omega) x2
              have y3 := HL.out
              exact HCX.out.lex (by omega) x3 x1 x2 (by omega)
            case measure => simp [intOf] <;> omega
        · as_aux_lemma =>
          have e3 : decide (cmpI (o (d q)) (o (d h)) < 0) = true := by rw [cmp_lt]; exact hl
          have HL := Lib.hid (of_decide_eq_true hl)
          go_region_held (fun W => W.cell? ⟨g, q, none⟩ = some (.int .i64 (d q : Nat)) ∧ W.cell? ⟨g, h, none⟩ = some (.int .i64 (d h : Nat))) (first | go_keep | exact ⟨by assumption, by assumption⟩) (first | (go_at_call 85; refine (HCR.out _ HKP.out.drew).mono ?_; rintro e w3 ⟨rfl, hb3⟩; have q1 := (hb3.cell (p := ⟨g, q, none⟩) hgd).trans c1; have q2 := (hb3.cell (p := ⟨g, h, none⟩) hgd).trans c2; have HB3 := Lib.hid hb3; clear hb3))
          all_goals
            have HD3 := Lib.hid (HJ.out.2.drew.bel HB3.out)
            go_wp2_with fail
            go_roundw
            case rel =>
              refine ⟨i, h, by omega, rfl, rfl, Lib.hid ⟨⟨HJ.out.1.l, fun x k1 k2 => ?_⟩, HD3.out⟩⟩
              obtain ⟨x1, x2, x3⟩ := HLH.out.2.2.2.2 x (by omega) k2
              have y1 := HS1.out.le (show a ≤ h by omega) k1 x3
              have y2 := HS2.out.le x1 (show p - x ≤ q by omega) hqb.2.1
              have y3 := HL.out
              left; omega
            case measure => simp [intOf] <;> omega
      · have g0 : decide ((i : Int) < (j : Int)) = false := decide_eq_false (by omega)
        have g0' : decide (i < j) = false := decide_eq_false hij
        have hji : j = i := by omega
        have HSY : Hid (Sym o d a m b i) := Lib.hid (by
          have hM := HM.out
          have hlo := HLO.out
          have hx := HNN.out
          rw [hM] at hlo hx
          have hl := HJ.out.1.l
          have hr := HJ.out.1.r
          rw [hji] at hr
          have ep : (a + b) / 2 + m - 1 = p := by omega
          refine ⟨h1, h2, by rw [← hlo.1]; exact b1, by rw [← hlo.2]; omega, fun c q1 q2 => ?_, fun c q1 q2 => ?_⟩
          · rw [ep]; exact hl c (by rw [hlo.1]; exact q1) q2
          · rw [ep]; exact hr c q1 (by rw [hlo.2]; exact q2))
        obtain ⟨E, hE⟩ : ∃ E, E = nn - i := ⟨_, rfl⟩
        have wE : IntKind.i64.wrap ((nn : Int) - (i : Int)) = (E : Int) := by rw [IntWalk.i64_in _ ⟨by omega, by omega⟩]; omega
        have hEb : E + i = nn := by omega
        have HED : Hid (E = (a + b) / 2 + m - i) := Lib.hid (by rw [hE, ← HM.out, HNN.out.1])
        have hns := HSY.out.nums
        rw [← HM.out, ← show E = M + m - i by omega] at hns
        clear hE hji
        have H7 : Hid (Srt o (rot d i m E) a i ∧ Srt o (rot d i m E) i M ∧ Crs o (rot d i m E) a i M ∧ Srt o (rot d i m E) M E ∧ Srt o (rot d i m E) E b ∧ Crs o (rot d i m E) M E b ∧ ∀ p q, a ≤ p → p < M → M ≤ q → q < b → lexLt o (rot d i m E p) (rot d i m E q)) := Lib.hid (by
          have h := HSY.out.halves HS1.out HS2.out HCX.out
          rw [← HED.out, ← HM.out] at h
          exact h)
        have hEb2 : m ≤ E ∧ M ≤ E ∧ E ≤ b ∧ i ≤ M ∧ i ≤ m ∧ a ≤ i := by omega
        have hMb : a < M ∧ M < b := by omega
        have HPR : Hid (Pin a b d (rot d i m E)) := Lib.hid ((Pin.rot d (by omega) (by omega)).mono (by omega) (by omega))
        clear hns
        obtain ⟨D1, hD1⟩ : ∃ D1, D1 = rot d i m E := ⟨_, rfl⟩
        rw [← hD1] at H7 HPR
        have HD1 := Lib.hid hD1
        clear hD1
        go_upto_region 39 with (fail)
        go_cut [185] (fun q wx => ∃ bb : Bool, q = .bool bb ∧ Hid (bb = (decide (i < m) && decide (m < E))) ∧ wr = wx)
        case first => as_aux_lemma =>
          by_cases hA : i < m
          · have a1 : decide ((i : Int) < (m : Int)) = true := decide_eq_true (by omega)
            have a1' : decide (i < m) = true := decide_eq_true (by omega)
            by_cases hB : m < E
            · have a2 : decide ((m : Int) < (E : Int)) = true := decide_eq_true (by omega)
              have a2' : decide (m < E) = true := decide_eq_true (by omega)
              go_wp2_with fail
              go_meet
              exact ⟨true, rfl, Lib.hid (by simp [hA, hB]), rfl⟩
            · have a2 : decide ((m : Int) < (E : Int)) = false := decide_eq_false (by omega)
              have a2' : decide (m < E) = false := decide_eq_false (by omega)
              go_wp2_with fail
              go_meet
              exact ⟨false, rfl, Lib.hid (by simp [hA, hB]), rfl⟩
          · have a1 : decide ((i : Int) < (m : Int)) = false := decide_eq_false (by omega)
            have a1' : decide (i < m) = false := decide_eq_false (by omega)
            go_wp2_with fail
            go_meet
            exact ⟨false, rfl, Lib.hid (by simp [hA]), rfl⟩
        case rest =>
          obtain ⟨bb, rfl, HBB, rfl⟩ := hcut
          go_upto_if 185 with (fail)
          go_cut [24] (fun q24 wx => q24 = .int .i64 E ∧ Hid (DAt N g n D1 w wx))
          case first => as_aux_lemma =>
            cases bb
            · as_aux_lemma =>
              have hf : ¬ (i < m ∧ m < E) := by have h := HBB.out; simp at h; omega
              have HX : Hid (D1 = d) := Lib.hid (by
                rw [HD1.out]
                by_cases hx : m ≤ i
                · exact rot_none d i m E (.inl hx) (by omega) (by omega)
                · exact rot_none d i m E (.inr (by omega)) (by omega) (by omega))
              go_wp2_with fail
              go_meet
              exact ⟨rfl, Lib.hid (by rw [HX.out]; exact HJ.out.2)⟩
            · as_aux_lemma =>
              have ht : i < m ∧ m < E := by have h := HBB.out; simpa using h
              have HX := Lib.hid (rotate_any N g n c i m E d (.func (.func 85) #[] #[.pointer (some ⟨gk, 0, none⟩)]) wr hn ht.1 ht.2 (by omega) HJ.out.2.self)
              clear ht
              go_wp2_with fail
              refine HX.out.mono ?_
              rintro e w3 ⟨rfl, hk3⟩
              have HK3 := Lib.hid hk3
              clear hk3
              go_wp2_with fail
              go_meet
              exact ⟨rfl, Lib.hid (by rw [HD1.out]; exact HJ.out.2.trans HK3.out)⟩
          case rest =>
            obtain ⟨rfl, HA⟩ := hcut
            go_upto_region 41 with (fail)
            go_cut [199] (fun q wx => ∃ bb : Bool, q = .bool bb ∧ Hid (bb = (decide (a < i) && decide (i < M))) ∧ wc = wx)
            case first => as_aux_lemma =>
              by_cases hA : a < i
              · have a1 : decide ((a : Int) < (i : Int)) = true := decide_eq_true (by omega)
                have a1' : decide (a < i) = true := decide_eq_true (by omega)
                by_cases hB : i < M
                · have a2 : decide ((i : Int) < (M : Int)) = true := decide_eq_true (by omega)
                  have a2' : decide (i < M) = true := decide_eq_true (by omega)
                  go_wp2_with fail
                  go_meet
                  exact ⟨true, rfl, Lib.hid (by simp [hA, hB]), rfl⟩
                · have a2 : decide ((i : Int) < (M : Int)) = false := decide_eq_false (by omega)
                  have a2' : decide (i < M) = false := decide_eq_false (by omega)
                  go_wp2_with fail
                  go_meet
                  exact ⟨false, rfl, Lib.hid (by simp [hA, hB]), rfl⟩
              · have a1 : decide ((a : Int) < (i : Int)) = false := decide_eq_false (by omega)
                have a1' : decide (a < i) = false := decide_eq_false (by omega)
                go_wp2_with fail
                go_meet
                exact ⟨false, rfl, Lib.hid (by simp [hA]), rfl⟩
            case rest =>
              obtain ⟨bb, rfl, HBB, rfl⟩ := hcut
              go_upto_if 199 with (fail)
              go_cut [24] (fun q24 wx => q24 = .int .i64 E ∧ Hid (∃ d2, DAt N g n d2 w wx ∧ Srt o d2 a M ∧ Pin a M D1 d2))
              case first => as_aux_lemma =>
                cases bb
                · as_aux_lemma =>
                  have hf : ¬ (a < i ∧ i < M) := by have h := HBB.out; simp at h; omega
                  have HX : Hid (Srt o D1 a M) := Lib.hid (by
                    by_cases hx : i = a
                    · have h := H7.out.2.1; rw [hx] at h; exact h
                    · have h := H7.out.1; rw [show i = M by omega] at h; exact h)
                  go_wp2_with fail
                  go_meet
                  exact ⟨rfl, Lib.hid ⟨D1, HA.out, HX.out, Pin.refl _ _ _⟩⟩
                · as_aux_lemma =>
                  have ht : a < i ∧ i < M := by have h := HBB.out; simpa using h
                  have HX := Lib.hid (IH.out a i M D1 wc (by omega) ht.1 ht.2 (by omega) H7.out.1 H7.out.2.1 H7.out.2.2.1 HA.out.self (HC.out.kp HA.out.k))
                  clear ht
                  go_wp2_with fail
                  refine HX.out.mono ?_
                  rintro e w3 ⟨rfl, d2, hk3, hs3, hp3⟩
                  have HK3 := Lib.hid (And.intro (HA.out.trans hk3) (And.intro hs3 hp3))
                  clear hk3 hs3 hp3
                  go_wp2_with fail
                  go_meet
                  exact ⟨rfl, Lib.hid ⟨d2, HK3.out⟩⟩
              case rest =>
                obtain ⟨rfl, HB0⟩ := hcut
                obtain ⟨d2, hb1, hb2, hb3⟩ := HB0.out
                have HD2 := Lib.hid hb1
                have HL2 := Lib.hid hb2
                have HP2 := Lib.hid hb3
                clear HB0 hb1 hb2 hb3
                have H8 : Hid (Srt o d2 M E ∧ Srt o d2 E b ∧ Crs o d2 M E b) := Lib.hid ⟨H7.out.2.2.2.1.out HP2.out.out (.inr (by omega)), H7.out.2.2.2.2.1.out HP2.out.out (.inr (by omega)), fun p q q1 q2 q3 q4 => by
                  rw [HP2.out.out p (by omega), HP2.out.out q (by omega)]; exact H7.out.2.2.2.2.2.1 p q q1 q2 q3 q4⟩
                have HFIN : ∀ (d3 : Nat → Nat), Srt o d3 M b → Pin M b d2 d3 → Hid (Srt o d3 a b ∧ Pin a b d d3) := fun d3 s3 p3 => Lib.hid (by
                  obtain ⟨f1, f2⟩ := srt_halves (d1 := D1) (d2 := d2) (d3 := d3) (show a ≤ M by omega) (show M ≤ b by omega) H7.out.2.2.2.2.2.2 HP2.out HL2.out p3 s3
                  exact ⟨f1, HPR.out.trans f2⟩)
                have HFN := Lib.hid HFIN
                clear HFIN
                go_upto_region 43 with (fail)
                go_cut [213] (fun q wx => ∃ bb : Bool, q = .bool bb ∧ Hid (bb = (decide (M < E) && decide (E < b))) ∧ wc = wx)
                case first => as_aux_lemma =>
                  by_cases hA : M < E
                  · have a1 : decide ((M : Int) < (E : Int)) = true := decide_eq_true (by omega)
                    have a1' : decide (M < E) = true := decide_eq_true (by omega)
                    by_cases hB : E < b
                    · have a2 : decide ((E : Int) < (b : Int)) = true := decide_eq_true (by omega)
                      have a2' : decide (E < b) = true := decide_eq_true (by omega)
                      go_wp2_with fail
                      go_meet
                      exact ⟨true, rfl, Lib.hid (by simp [hA, hB]), rfl⟩
                    · have a2 : decide ((E : Int) < (b : Int)) = false := decide_eq_false (by omega)
                      have a2' : decide (E < b) = false := decide_eq_false (by omega)
                      go_wp2_with fail
                      go_meet
                      exact ⟨false, rfl, Lib.hid (by simp [hA, hB]), rfl⟩
                  · have a1 : decide ((M : Int) < (E : Int)) = false := decide_eq_false (by omega)
                    have a1' : decide (M < E) = false := decide_eq_false (by omega)
                    go_wp2_with fail
                    go_meet
                    exact ⟨false, rfl, Lib.hid (by simp [hA]), rfl⟩
                case rest =>
                  obtain ⟨bb, rfl, HBB, rfl⟩ := hcut
                  cases bb
                  · as_aux_lemma =>
                    have hf : ¬ (M < E ∧ E < b) := by have h := HBB.out; simp at h; omega
                    have HX : Hid (Srt o d2 M b) := Lib.hid (by
                      by_cases hx : E = M
                      · have h := H8.out.2.1; rw [hx] at h; exact h
                      · have h := H8.out.1; rw [show E = b by omega] at h; exact h)
                    go_wp2_with fail
                    go_end0
                    exact ⟨rfl, d2, HD2.out, (HFN.out d2 HX.out (Pin.refl _ _ _)).out⟩
                  · as_aux_lemma =>
                    have ht : M < E ∧ E < b := by have h := HBB.out; simpa using h
                    have HX := Lib.hid (IH.out M E b d2 wc (by omega) ht.1 ht.2 h3 H8.out.1 H8.out.2.1 H8.out.2.2 HD2.out.self (HC.out.kp HD2.out.k))
                    clear ht
                    go_wp2_with fail
                    refine HX.out.mono ?_
                    rintro e w3 ⟨rfl, d3, hk3, hs3, hp3⟩
                    have HK3 := Lib.hid (And.intro (HD2.out.trans hk3) (HFN.out d3 hs3 hp3).out)
                    clear hk3 hs3 hp3
                    go_wp2_with fail
                    go_end0
                    exact ⟨rfl, d3, HK3.out⟩
theorem symMerge_any (gk N g n c : Nat) (o : Nat → Int) (hn : n ≤ 1000000) : ∀ k, MrgOk gk N g n c o k
  | 0 => fun a m b d w h0 h1 h2 h3 s1 s2 cr hd hc => by omega
  | k + 1 => fun a m b d w h0 h1 h2 h3 s1 s2 cr hd hc => by
    by_cases he1 : m = a + 1
    · exact sym1_any gk N g n c a m b d o w hn h1 h2 h3 he1 s1 s2 cr hd hc
    · by_cases he2 : b = m + 1
      · exact sym2_any gk N g n c a m b d o w hn h1 h2 h3 he1 he2 s1 s2 cr hd hc
      · exact sym3_any gk N g n c k a m b d o w hn (symMerge_any gk N g n c o hn k) h0 h1 h2 h3 he1 he2 s1 s2 cr hd hc
end Go.Proofs.Ytbopeofglhkffaa
