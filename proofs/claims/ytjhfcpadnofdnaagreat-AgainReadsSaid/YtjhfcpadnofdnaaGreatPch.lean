/- The program's trees: whole, stands. -/
import Derived.Test.YtjhfcpadnofdnaaGreatPsz
import Derived.Test.YtjhfcpadnofdnaaGreatCpl
import Derived.Test.YtjhfcpadnofdnaaGreatRtg
import Derived.Deep.DeepCutAuto
import Derived.Deep.CutRange
set_option linter.unusedSimpArgs false
set_option linter.unusedVariables false
namespace Go.Proofs.YtjhfcpadnofdnaaGreat
open Go.RowKit
attribute [local go_sem] block_of_add
/-- What stands ahead of the nodes. -/
def WholeE (l : List Nd) (adv : List Int) (view : Int) : Prop := (0 < l.length ∧ l.length ≤ 65536) ∧ adv.length ≤ 4096 ∧ (0 ≤ view ∧ view ≤ 1099511627776) ∧ ∀ (j : Nat) (h : j < adv.length), 0 ≤ adv[j] ∧ adv[j] ≤ 1099511627776
structure WholeAns (l : List Nd) (adv : List Int) (view : Int) (w w' : World) (e : Ending) : Prop where
  ex : ∃ r : Int, e = .returned (.int .i64 r) ∧ (r = 0 ↔ WholeE l adv view)
  b : Below w.heap.size w w'
section
variable (l : List Nd) (adv : List Int) (A A2 : Option Addr) (c c2 : Nat) (view : Int) (w : World)
set_option maxRecDepth 100000 in
set_option maxHeartbeats 1000000 in
theorem whole_any (ha : Reads w w.heap.size 1 A2 adv.length (i64s adv)) (hal : adv.length ≤ 4294967296) :
    Calls Tryz.prog 116 #[.agg #[.slice A l.length c, .slice A2 adv.length c2, .int .i64 view]] w fun e w' => WholeAns l adv view w w' e := by
  have HA := Lib.hid ha
  have HB0 : Hid (Blk (w.alloc (.cells #[.slice A l.length c, .slice A2 adv.length c2, .int .i64 view] 25)) w.heap.size 25 #[.slice A l.length c, .slice A2 adv.length c2, .int .i64 view]) := Lib.hid (Blk.new _ _ _)
  have HB1 : Hid (Below w.heap.size w (w.alloc (.cells #[.slice A l.length c, .slice A2 adv.length c2, .int .i64 view] 25))) := Lib.hid ((Below.refl _ _).alloc (Nat.le_refl _) _)
  clear ha
  cases h1 : decide (65536 < l.length)
  rotate_left
  · have HNO := Lib.hid (show ¬ WholeE l adv view from fun h => by have := h.1.2; have := of_decide_eq_true h1; omega)
    have h1' : decide ((65536 : Int) < (l.length : Int)) = true := decide_eq_true (by have := of_decide_eq_true h1; omega)
    go_enter Tryz.func116, Tryz.ntmps116
    go_wp2_with fail
    go_ret
    exact ⟨⟨7, rfl, fun h => by omega, fun h => absurd h HNO.out⟩, HB1.out⟩
  have h1' : decide ((65536 : Int) < (l.length : Int)) = false := decide_eq_false (by have := of_decide_eq_false h1; omega)
  have H1 := Lib.hid (of_decide_eq_false h1)
  cases h2 : decide (4096 < adv.length)
  rotate_left
  · have HNO := Lib.hid (show ¬ WholeE l adv view from fun h => by have := h.2.1; have := of_decide_eq_true h2; omega)
    have h2' : decide ((4096 : Int) < (adv.length : Int)) = true := decide_eq_true (by have := of_decide_eq_true h2; omega)
    go_enter Tryz.func116, Tryz.ntmps116
    go_wp2_with fail
    go_ret
    exact ⟨⟨7, rfl, fun h => by omega, fun h => absurd h HNO.out⟩, HB1.out⟩
  have h2' : decide ((4096 : Int) < (adv.length : Int)) = false := decide_eq_false (by have := of_decide_eq_false h2; omega)
  have H2 := Lib.hid (of_decide_eq_false h2)
  by_cases h3 : l.length = 0
  · have HNO := Lib.hid (show ¬ WholeE l adv view from fun h => by have := h.1.1; omega)
    have h3' : ((l.length : Int) == 0) = true := beq_iff_eq.2 (by omega)
    have h3'' : (l.length == 0) = true := beq_iff_eq.2 h3
    clear h3
    go_enter Tryz.func116, Tryz.ntmps116
    go_wp2_with fail
    go_ret
    exact ⟨⟨6, rfl, fun h => by omega, fun h => absurd h HNO.out⟩, HB1.out⟩
  have h3' : ((l.length : Int) == 0) = false := beq_eq_false_iff_ne.2 (by omega)
  have h3'' : (l.length == 0) = false := beq_eq_false_iff_ne.2 h3
  have H3 := Lib.hid h3
  clear h3
  cases h4 : decide (view < 0)
  rotate_left
  · have HNO := Lib.hid (show ¬ WholeE l adv view from fun h => by have := h.2.2.1.1; have := of_decide_eq_true h4; omega)
    go_enter Tryz.func116, Tryz.ntmps116
    go_wp2_with fail
    go_ret
    exact ⟨⟨6, rfl, fun h => by omega, fun h => absurd h HNO.out⟩, HB1.out⟩
  cases h5 : decide (1099511627776 < view)
  rotate_left
  · have HNO := Lib.hid (show ¬ WholeE l adv view from fun h => by have := h.2.2.1.2; have := of_decide_eq_true h5; omega)
    go_enter Tryz.func116, Tryz.ntmps116
    go_wp2_with fail
    go_ret
    exact ⟨⟨6, rfl, fun h => by omega, fun h => absurd h HNO.out⟩, HB1.out⟩
  have H45 := Lib.hid (And.intro (of_decide_eq_false h4) (of_decide_eq_false h5))
  go_enter Tryz.func116, Tryz.ntmps116
  go_wp2_with fail
  clear h1 h1' h2 h2' h3' h3'' h4 h5
  go_loopw [32] (fun iv wr => ∃ k : Nat, k ≤ adv.length ∧ iv = .int .i64 k ∧ Hid ((∀ (j : Nat) (h : j < adv.length), j < k → 0 ≤ adv[j] ∧ adv[j] ≤ 1099511627776) ∧ Below w.heap.size w wr)) (fun iv _ => adv.length - (intOf iv).toNat)
  case atStart => exact ⟨0, by omega, rfl, Lib.hid ⟨fun j h h2 => by omega, HB1.out⟩⟩
  case round =>
    obtain ⟨k, hk, rfl, H⟩ := hrel
    by_cases hlt : k < adv.length
    · have d0 : decide ((k : Int) < (adv.length : Int)) = true := decide_eq_true (by omega)
      have d0' : decide (k < adv.length) = true := decide_eq_true hlt
      have hwk : IntKind.i64.wrap ((k : Int) + 1) = (k : Int) + 1 := IntWalk.i64_in _ ⟨by omega, by omega⟩
      obtain ⟨ad, u, rfl, hab, hx, hc⟩ := (HA.out.below H.out.2).at_ hlt
      have hu : u = .int .i64 adv[k] := by simpa [i64s, hlt] using hx.symm
      subst hu
      obtain ⟨a, ha⟩ : ∃ a, a = adv[k] := ⟨_, rfl⟩
      rw [← ha] at hc
      have HAK := Lib.hid ha
      clear ha hx hab
      cases g1 : decide (a < 0)
      rotate_left
      · have HNO := Lib.hid (show ¬ WholeE l adv view from fun h => by have := (h.2.2.2 k hlt).1; rw [← HAK.out] at this; have := of_decide_eq_true g1; omega)
        go_wp2_with fail
        go_ret
        exact ⟨⟨6, rfl, fun h => by omega, fun h => absurd h HNO.out⟩, H.out.2⟩
      cases g2 : decide (1099511627776 < a)
      rotate_left
      · have HNO := Lib.hid (show ¬ WholeE l adv view from fun h => by have := (h.2.2.2 k hlt).2; rw [← HAK.out] at this; have := of_decide_eq_true g2; omega)
        go_wp2_with fail
        go_ret
        exact ⟨⟨6, rfl, fun h => by omega, fun h => absurd h HNO.out⟩, H.out.2⟩
      have HG := Lib.hid (And.intro (of_decide_eq_false g1) (of_decide_eq_false g2))
      go_wp2_with fail
      go_roundw
      case rel => exact ⟨k + 1, by omega, by go_num, Lib.hid ⟨fun j h h2 => by
        by_cases hj : j = k
        · subst hj; have := HG.out; have := HAK.out; omega
        · exact H.out.1 j h (by omega), H.out.2⟩⟩
      case measure => simp [intOf]; omega
    · have d0 : decide ((k : Int) < (adv.length : Int)) = false := decide_eq_false (by omega)
      have d0' : decide (k < adv.length) = false := decide_eq_false hlt
      have HY := Lib.hid (show WholeE l adv view from ⟨⟨by have := H3.out; omega, by have := H1.out; omega⟩, by have := H2.out; omega, by have := H45.out; omega, fun j h => H.out.1 j h (by omega)⟩)
      go_wp2_with fail
      go_ret
      exact ⟨⟨0, rfl, fun _ => HY.out, fun _ => rfl⟩, H.out.2⟩
end
section
variable (l : List Nd) (A A2 : Option Addr) (c m c2 : Nat) (view : Int) (w : World)
structure StandAns (l : List Nd) (i : Nat) (x : Nd) (w w' : World) (e : Ending) : Prop where
  ex : ∃ b, e = .returned (.bool b) ∧ (b = true ↔ StandX l i x)
  b : Below w.heap.size w w'
set_option maxRecDepth 100000 in
set_option maxHeartbeats 2000000 in
theorem stands_any (i : Nat) (hi : i < l.length) (hn : l.length ≤ 65536) (hr : Reads w w.heap.size 44 A l.length (ndsCells l)) (hp : ParOk l i l[i].parent) (hk : ∀ (j : Nat) (h : j < l.length), j < i → l[j].s.kind = 1 ∨ l[j].s.kind = 2 ∨ l[j].s.kind = 3) :
    Calls Tryz.prog 118 #[.agg #[.slice A l.length c, .slice A2 m c2, .int .i64 view], .int .i64 i] w fun e w' => StandAns l i l[i] w w' e := by
  obtain ⟨x, hx⟩ : ∃ x, x = l[i] := ⟨_, rfl⟩
  obtain ⟨ad, rfl, hnd⟩ := hr.nd rfl hi
  obtain ⟨y0, y1, y2, y3⟩ := nd_cG hnd
  have y4 : w.cell? ⟨ad.block, (ad.add (i * 44)).off + 1 + 3, none⟩ = some (.int .u8 l[i].s.clear) := by
    have e : (ad.add (i * 44)).block = ad.block := block_of_add _ _
    have g := hnd.range
    rw [e] at g
    exact g 3 _ rfl
  have hb : ad.block < w.heap.size := by have := hnd.lt; rwa [block_of_add] at this
  have HR := Lib.hid hr
  have hii : (i : Int) < (l.length : Int) := by omega
  have HB1 : Hid (Below w.heap.size w (w.alloc (.cells #[.slice (some ad) l.length c, .slice A2 m c2, .int .i64 view] 25))) := Lib.hid ((Below.refl _ _).alloc (Nat.le_refl _) _)
  rw [← hx] at y0 y1 y2 y3 y4 hp ⊢
  have HP := Lib.hid hp
  have HK := Lib.hid hk
  obtain ⟨P, hP⟩ : ∃ P, P = x.parent := ⟨_, rfl⟩
  obtain ⟨kd, hkd⟩ : ∃ P, P = x.s.kind := ⟨_, rfl⟩
  obtain ⟨fl, hfl⟩ : ∃ P, P = x.s.float := ⟨_, rfl⟩
  obtain ⟨cl, hcl⟩ : ∃ P, P = x.s.clear := ⟨_, rfl⟩
  rw [← hP] at y0
  rw [← hkd] at y1
  rw [← hfl] at y3
  rw [← hcl] at y4
  have HL := Lib.hid (And.intro hP (And.intro hkd (And.intro hfl hcl)))
  clear hnd hr hp hk hx hP hkd hfl hcl y2
  go_enter Tryz.func118, Tryz.ntmps118
  go_upto_region 2 with (fail)
  go_cut [6] (fun s6 wx => ∃ b, s6 = .bool b ∧ Hid (b = false ↔ fl = 0 ∧ cl = 0) ∧ (w.alloc (.cells #[.slice (some ad) l.length c, .slice A2 m c2, .int .i64 view] 25)) = wx)
  case first =>
    by_cases f0 : fl = 0
    · have f1 : (fl == 0) = true := beq_iff_eq.2 f0
      have f2 : (fl != 0) = false := by rw [bne, f1]; rfl
      have F0 := Lib.hid f0
      clear f0
      by_cases g0 : cl = 0
      · have g1 : (cl == 0) = true := beq_iff_eq.2 g0
        have g2 : (cl != 0) = false := by rw [bne, g1]; rfl
        have G0 := Lib.hid g0
        clear g0
        go_wp2_with fail
        go_meet
        case rel => exact ⟨false, rfl, Lib.hid ⟨fun _ => ⟨F0.out, G0.out⟩, fun _ => rfl⟩, rfl⟩
      · have g1 : (cl == 0) = false := beq_eq_false_iff_ne.2 g0
        have g2 : (cl != 0) = true := by rw [bne, g1]; rfl
        have G0 := Lib.hid g0
        clear g0
        go_wp2_with fail
        go_meet
        case rel => exact ⟨true, rfl, Lib.hid ⟨by simp, fun h => absurd h.2 G0.out⟩, rfl⟩
    · have f1 : (fl == 0) = false := beq_eq_false_iff_ne.2 f0
      have f2 : (fl != 0) = true := by rw [bne, f1]; rfl
      have F0 := Lib.hid f0
      clear f0
      go_wp2_with fail
      go_meet
      case rel => exact ⟨true, rfl, Lib.hid ⟨by simp, fun h => absurd h.1 F0.out⟩, rfl⟩
  case rest =>
    obtain ⟨lo, rfl, HLO, rfl⟩ := hcut
    by_cases hi0 : i = 0
    · have e0 : ((i : Int) == 0) = true := beq_iff_eq.2 (by omega)
      have e0' : (i == 0) = true := beq_iff_eq.2 hi0
      have HX : Hid (StandX l i x ↔ kd = 1 ∧ lo = false) := Lib.hid (by unfold StandX; rw [if_pos hi0, HLO.out, ← HL.out.2.1, ← HL.out.2.2.1, ← HL.out.2.2.2])
      clear hi0
      by_cases k1 : kd = 1
      · have k1' : (kd == 1) = true := beq_iff_eq.2 k1
        have K1 := Lib.hid k1
        clear k1
        cases lo
        · go_wp2_with fail
          go_ret
          exact ⟨⟨true, rfl, fun _ => HX.out.2 ⟨K1.out, by simp⟩, fun _ => rfl⟩, HB1.out⟩
        · go_wp2_with fail
          go_ret
          exact ⟨⟨false, rfl, fun h => by simp at h, fun h => by have := (HX.out.1 h).2; simp at this⟩, HB1.out⟩
      · have k1' : (kd == 1) = false := beq_eq_false_iff_ne.2 k1
        have K1 := Lib.hid k1
        clear k1
        go_wp2_with fail
        go_ret
        exact ⟨⟨false, rfl, fun h => by simp at h, fun h => absurd (HX.out.1 h).1 K1.out⟩, HB1.out⟩
    · have e0 : ((i : Int) == 0) = false := beq_eq_false_iff_ne.2 (by omega)
      have e0' : (i == 0) = false := beq_eq_false_iff_ne.2 hi0
      have hpo := HP.out
      unfold ParOk at hpo
      rw [← HL.out.1] at hpo
      obtain ⟨q, hq⟩ := Int.eq_ofNat_of_zero_le (show 0 ≤ P by omega)
      have hqi : q < i := by omega
      have hql : q < l.length := by omega
      have hqi2 : (q : Int) < (l.length : Int) := by omega
      obtain ⟨y, hy⟩ : ∃ y, y = l[q] := ⟨_, rfl⟩
      have HY : Hid (l[q]? = some y) := Lib.hid (by rw [hy]; exact List.getElem?_eq_getElem hql)
      have hky := HK.out q hql hqi
      rw [← hy] at hky
      obtain ⟨ad2, e2, hnq⟩ := HR.out.nd rfl hql
      injection e2 with e2
      subst e2
      have z0 : w.cell? ⟨ad.block, (ad.add (q * 44)).off + 1, none⟩ = some (.int .u8 y.s.kind) := by rw [hy]; exact (nd_cG hnq).2.1
      obtain ⟨ky, hkk⟩ : ∃ P, P = y.s.kind := ⟨_, rfl⟩
      rw [← hkk] at z0 hky
      subst hq
      have HX : Hid (StandX l i x ↔ (ky = 2 ∧ kd ≠ 3 ∧ lo = false) ∨ (ky = 1 ∧ ∀ z, l[q + 1]? = some z → (kd = 3 ↔ z.s.kind = 3))) := Lib.hid (by
        unfold StandX
        rw [if_neg hi0]
        constructor
        · intro h
          rcases h q HL.out.1.symm y HY.out with h | h
          · exact .inl ⟨by rw [hkk]; exact h.1, by rw [HL.out.2.1]; exact h.2.1, HLO.out.2 ⟨by rw [HL.out.2.2.1]; exact h.2.2.1, by rw [HL.out.2.2.2]; exact h.2.2.2⟩⟩
          · exact .inr ⟨by rw [hkk]; exact h.1, fun z hz => by rw [HL.out.2.1]; exact h.2 z hz⟩
        · intro h p hp' y' hy'
          have hpq : p = q := by have := HL.out.1; omega
          subst hpq
          have : y' = y := by have := HY.out; rw [hy'] at this; injection this
          subst this
          rcases h with h | h
          · have hlo := HLO.out.1 h.2.2
            exact .inl ⟨by rw [← hkk]; exact h.1, by rw [← HL.out.2.1]; exact h.2.1, by rw [← HL.out.2.2.1]; exact hlo.1, by rw [← HL.out.2.2.2]; exact hlo.2⟩
          · exact .inr ⟨by rw [← hkk]; exact h.1, fun z hz => by rw [← HL.out.2.1]; exact h.2 z hz⟩)
      have hq1 : q + 1 < l.length := by omega
      obtain ⟨z, hz⟩ : ∃ z, z = l[q + 1] := ⟨_, rfl⟩
      have HZ : Hid (l[q + 1]? = some z) := Lib.hid (by rw [hz]; exact List.getElem?_eq_getElem hq1)
      obtain ⟨ad3, e3, hn1⟩ := HR.out.nd rfl hq1
      injection e3 with e3
      subst e3
      have z1 : w.cell? ⟨ad.block, (ad.add ((q + 1) * 44)).off + 1, none⟩ = some (.int .u8 z.s.kind) := by rw [hz]; exact (nd_cG hn1).2.1
      obtain ⟨kz, hkz⟩ : ∃ P, P = z.s.kind := ⟨_, rfl⟩
      rw [← hkz] at z1
      have HKZ := Lib.hid hkz
      have HKK := Lib.hid hky
      have hwq : IntKind.i64.wrap ((q : Int) + 1) = ((q + 1 : Nat) : Int) := by rw [IntWalk.i64_in _ ⟨by omega, by omega⟩]; omega
      have hq1i : ((q + 1 : Nat) : Int) < (l.length : Int) := by omega
      clear hnq hn1 hy hz hkk hkz hky hpo hi0 hqi
      by_cases k2 : ky = 2
      · have k2' : (ky == 2) = true := beq_iff_eq.2 k2
        have K2 := Lib.hid k2
        clear k2
        by_cases k3 : kd = 3
        · have k3' : (kd == 3) = true := beq_iff_eq.2 k3
          have k3'' : (kd != 3) = false := by rw [bne, k3']; rfl
          have K3 := Lib.hid k3
          clear k3
          go_wp2_with fail
          go_ret
          exact ⟨⟨false, rfl, fun h => by simp at h, fun h => by rcases HX.out.1 h with h | h; (exact absurd K3.out h.2.1); (have := K2.out; omega)⟩, HB1.out⟩
        · have k3' : (kd == 3) = false := beq_eq_false_iff_ne.2 k3
          have k3'' : (kd != 3) = true := by rw [bne, k3']; rfl
          have K3 := Lib.hid k3
          clear k3
          cases lo
          · go_wp2_with fail
            go_ret
            exact ⟨⟨true, rfl, fun _ => HX.out.2 (.inl ⟨K2.out, K3.out, by simp⟩), fun _ => rfl⟩, HB1.out⟩
          · go_wp2_with fail
            go_ret
            exact ⟨⟨false, rfl, fun h => by simp at h, fun h => by rcases HX.out.1 h with h | h; (have := h.2.2; simp at this); (have := K2.out; omega)⟩, HB1.out⟩
      · have k2' : (ky == 2) = false := beq_eq_false_iff_ne.2 k2
        have K2 := Lib.hid k2
        clear k2
        by_cases k1 : ky = 1
        · have k1' : (ky == 1) = true := beq_iff_eq.2 k1
          have K1 := Lib.hid k1
          clear k1
          have HX2 : Hid (StandX l i x ↔ (kd = 3 ↔ kz = 3)) := Lib.hid (by
            rw [HX.out]
            constructor
            · rintro (h | h)
              · exact absurd h.1 K2.out
              · rw [HKZ.out]; exact h.2 z HZ.out
            · intro h
              exact .inr ⟨K1.out, fun z' hz' => by have := HZ.out; rw [hz'] at this; injection this with this; rw [this, ← HKZ.out]; exact h⟩)
          by_cases a3 : kd = 3
          all_goals
            by_cases b3 : kz = 3
            all_goals
              first
              | have a3' : (kd == 3) = true := beq_iff_eq.2 a3
              | have a3' : (kd == 3) = false := beq_eq_false_iff_ne.2 a3
              first
              | have b3' : (kz == 3) = true := beq_iff_eq.2 b3
              | have b3' : (kz == 3) = false := beq_eq_false_iff_ne.2 b3
              have HAB := Lib.hid (And.intro a3 b3)
              clear a3 b3
              go_wp2_with fail
              go_ret
              refine ⟨⟨_, rfl, ?_⟩, HB1.out⟩
              rw [HX2.out]
              have hab := HAB.out
              simp [hab.1, hab.2]
        · have k1' : (ky == 1) = false := beq_eq_false_iff_ne.2 k1
          have K1 := Lib.hid k1
          clear k1
          go_wp2_with fail
          go_ret
          exact ⟨⟨false, rfl, fun h => by simp at h, fun h => by rcases HX.out.1 h with h | h; exact absurd h.1 K2.out; exact absurd h.1 K1.out⟩, HB1.out⟩
end
end Go.Proofs.YtjhfcpadnofdnaaGreat
