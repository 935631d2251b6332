/- Which cases chapter 19's laws look at: jamblaw13.LenMay, jamblaw13.May, jamblaw19.May. -/
import Derived.Test.YtdnpobfnkdllmaaItg
import Derived.Test.YtdnpobfnkdllmaaTrc
import Derived.Test.YtdnpobfnkdllmaaMay
set_option linter.unusedSimpArgs false
set_option linter.unusedVariables false
namespace Go.Proofs.Ytdnpobfnkdllmaa
open Go.RowKit
attribute [local go_sem] block_of_add

set_option maxRecDepth 100000 in
set_option maxHeartbeats 1000000 in
theorem lenMay_any (k n : Int) (b : Bool) (w : World) :
    Calls Try.prog 41 #[.agg #[.int .u8 k, .int .i64 n], .int .i64 (if b then -1099511627776 else 0)] w fun e w' => e = .returned (.bool (mayF k n b)) ∧ w.alloc (.cells #[.int .u8 k, .int .i64 n] 27) = w' := by
  by_cases h0 : k = 0
  · have e0 : (k == 0) = true := beq_iff_eq.2 h0
    have HF : Hid (mayF k n b = (n == 0)) := Lib.hid (by unfold mayF; rw [if_pos h0])
    clear h0
    cases b
    all_goals
      go_enter Try.func41, Try.ntmps41
      go_wp2
      go_ret
      exact ⟨by rw [HF.out]; rfl, rfl⟩
  have e0 : (k == 0) = false := beq_eq_false_iff_ne.2 h0
  by_cases h1 : k = 1
  · have e1 : (k == 1) = true := beq_iff_eq.2 h1
    cases b
    · have HF : Hid (mayF k n false = (decide (n ≤ 1099511627776) && decide (0 ≤ n))) := Lib.hid (by unfold mayF; rw [if_neg h0, if_pos h1]; rfl)
      clear h0 h1
      cases h2 : decide (n ≤ 1099511627776) <;> cases h3 : decide (0 ≤ n)
      all_goals
        go_enter Try.func41, Try.ntmps41
        go_wp2
        go_ret
        exact ⟨by rw [HF.out]; simp [h2, h3], rfl⟩
    · have HF : Hid (mayF k n true = (decide (n ≤ 1099511627776) && decide (-1099511627776 ≤ n))) := Lib.hid (by unfold mayF; rw [if_neg h0, if_pos h1]; rfl)
      clear h0 h1
      cases h2 : decide (n ≤ 1099511627776) <;> cases h3 : decide (-1099511627776 ≤ n)
      all_goals
        go_enter Try.func41, Try.ntmps41
        go_wp2
        go_ret
        exact ⟨by rw [HF.out]; simp [h2, h3], rfl⟩
  have e1 : (k == 1) = false := beq_eq_false_iff_ne.2 h1
  by_cases h5 : k = 2
  · have e2 : (k == 2) = true := beq_iff_eq.2 h5
    cases b
    · have HF : Hid (mayF k n false = (decide (n ≤ 100000) && decide (0 ≤ n))) := Lib.hid (by unfold mayF; rw [if_neg h0, if_neg h1, if_pos h5]; rfl)
      clear h0 h1 h5
      cases h2 : decide (n ≤ 100000) <;> cases h3 : decide (0 ≤ n)
      all_goals
        go_enter Try.func41, Try.ntmps41
        go_wp2
        go_ret
        exact ⟨by rw [HF.out]; simp [h2, h3], rfl⟩
    · have HF : Hid (mayF k n true = (decide (n ≤ 100000) && decide (-100000 ≤ n))) := Lib.hid (by unfold mayF; rw [if_neg h0, if_neg h1, if_pos h5]; rfl)
      clear h0 h1 h5
      cases h2 : decide (n ≤ 100000) <;> cases h3 : decide (-100000 ≤ n)
      all_goals
        go_enter Try.func41, Try.ntmps41
        go_wp2
        go_ret
        exact ⟨by rw [HF.out]; simp [h2, h3], rfl⟩
  have e2 : (k == 2) = false := beq_eq_false_iff_ne.2 h5
  have HF : Hid (mayF k n b = false) := Lib.hid (by unfold mayF; rw [if_neg h0, if_neg h1, if_neg h5])
  clear h0 h1 h5
  cases b
  all_goals
    go_enter Try.func41, Try.ntmps41
    go_wp2
    go_ret
    exact ⟨by rw [HF.out]; rfl, rfl⟩
theorem mayF_M {l : Ln} {b : Bool} (h : mayF l.k l.n b = true) : LnM l := by
  have h1 := mayF_bd h
  refine ⟨by cases b <;> simp at h1 <;> omega, fun e => ?_⟩
  unfold mayF at h
  rw [e] at h
  cases b <;> simp at h <;> omega
/-- What jamblaw13.May has seen of a style. -/
structure S13 (s : Sty) : Prop where
  ed : ∀ j, j < 4 → EdOk s j
  w : mayF s.w.k s.w.n false = true
  minw : mayF s.minw.k s.minw.n false = true
  maxw : mayF s.maxw.k s.maxw.n false = true
theorem S13.styB {s : Sty} (h : S13 s) : StyB s := by
  have a1 := h.ed 1 (by omega)
  have a3 := h.ed 3 (by omega)
  have w0 := mayF_bd h.w
  have w1 := mayF_bd h.minw
  have w2 := mayF_bd h.maxw
  have e1 := mayF_bd a1.1
  have e3 := mayF_bd a3.1
  simp [mgAt] at w0 w1 w2 e1 e3
  exact ⟨w0, w2, w1, e1, e3, ⟨a1.2.1, a1.2.2.1⟩, ⟨a3.2.1, a3.2.2.1⟩, ⟨a1.2.2.2.1, a1.2.2.2.2⟩, ⟨a3.2.2.2.1, a3.2.2.2.2⟩⟩
/-- What jamblaw19.May has seen of a child's style. -/
structure S19 (s : Sty) : Prop where
  st : S13 s
  basis : mayF s.basis.k s.basis.n false = true
  grow : 0 ≤ s.grow ∧ s.grow ≤ 60
  shrink : 0 ≤ s.shrink ∧ s.shrink ≤ 60
theorem S19.x {s : Sty} (h : S19 s) : StX s :=
  ⟨⟨mayF_M (l := mgAt s 1) (h.st.ed 1 (by omega)).1, mayF_M (l := mgAt s 3) (h.st.ed 3 (by omega)).1, mayF_M h.st.w, mayF_M h.basis, mayF_M h.st.maxw, mayF_M h.st.minw, h.st.styB⟩, h.grow, h.shrink⟩
structure May19 (c : Int) (l : List Sty) (got : List Cn) : Prop where
  n : l.length ≤ 60
  c : CB c
  got : MayOk got
  l : ∀ (i : Nat) (h : i < l.length), S19 l[i]
theorem May19.g {c : Int} {l : List Sty} {got : List Cn} (h : May19 c l got) : ∀ x ∈ got, 0 ≤ x.greatest ∧ x.greatest ≤ 1099511627776 := fun x hx => by
  obtain ⟨i, hi, rfl⟩ := List.mem_iff_getElem.1 hx
  exact h.got.b i hi 1 (by omega)
theorem May19.x {c : Int} {l : List Sty} {got : List Cn} (h : May19 c l got) : ∀ s ∈ l, StX s := fun x hx => by
  obtain ⟨i, hi, rfl⟩ := List.mem_iff_getElem.1 hx
  exact (h.l i hi).x
set_option maxRecDepth 100000 in
set_option maxHeartbeats 2000000 in
theorem may13_any (s : Sty) (w : World) {Au : Option Addr} {nu cu : Nat} (huv : s.uv = .slice Au nu cu) :
    Calls Try.prog 40 #[.agg (styCells s).toArray] w fun e w' => BoolAns (S13 s) w w' e := by
  have HB0 : Hid (Blk (w.alloc (.cells (styCells s).toArray 32)) w.heap.size 32 (styCells s).toArray) := Lib.hid (Blk.new _ _ _)
  have HMt := Lib.hid (fun W k n => lenMay_any k n true W)
  have HMf := Lib.hid (fun W k n => lenMay_any k n false W)
  simp only [Bool.false_eq_true, if_true, if_false] at HMt HMf
  go_enter Try.func40, Try.ntmps40
  go_wp2_with fail
  go_loopw [3] (fun kv wr => ∃ k : Nat, k ≤ 4 ∧ kv = .int .i64 k ∧ Hid ((∀ j, j < k → EdOk s j) ∧ Below w.heap.size w wr ∧ Blk wr w.heap.size 32 (styCells s).toArray)) (fun kv _ => 4 - (intOf kv).toNat)
  case atStart => exact ⟨0, by omega, rfl, Lib.hid ⟨fun j h => by omega, (Below.refl _ _).alloc (Nat.le_refl _) _, HB0.out⟩⟩
  case round =>
    obtain ⟨k, hk, rfl, H⟩ := hrel
    by_cases hlt : k < 4
    · obtain ⟨m1, m2, m3, m4⟩ := mg_k s hlt
      have c1 := H.out.2.2.get _ m1
      have c2 := H.out.2.2.get _ m2
      have c3 := H.out.2.2.get _ m3
      have c4 := H.out.2.2.get _ m4
      have lb := H.out.2.2.lt
      have d0 : decide ((k : Int) < 4) = true := decide_eq_true (by omega)
      have hk4 : (k : Int) < 4 := by omega
      obtain ⟨mk, hmk⟩ : ∃ x, x = (mgAt s k).k := ⟨_, rfl⟩
      obtain ⟨mn, hmn⟩ : ∃ x, x = (mgAt s k).n := ⟨_, rfl⟩
      obtain ⟨bd, hbd⟩ : ∃ x, x = bdAt s k := ⟨_, rfl⟩
      obtain ⟨pd, hpd⟩ : ∃ x, x = pdAt s k := ⟨_, rfl⟩
      rw [← hmk] at c1
      rw [← hmn] at c2
      rw [← hbd] at c3
      rw [← hpd] at c4
      have HE : Hid (EdOk s k ↔ (mayF mk mn true = true ∧ 0 ≤ bd ∧ bd ≤ 1099511627776 ∧ 0 ≤ pd ∧ pd ≤ 1099511627776)) := Lib.hid (by unfold EdOk; rw [hmk, hmn, hbd, hpd])
      clear m1 m2 m3 m4 hmk hmn hbd hpd
      go_wp2_with fail
      refine (HMt.out _ mk mn).mono ?_
      rintro e w1 ⟨rfl, rfl⟩
      have HB1 := Lib.hid (H.out.2.1.alloc H.out.2.1.size (.cells #[.int .u8 mk, .int .i64 mn] 27))
      have HB2 := Lib.hid (H.out.2.2.alloc (.cells #[.int .u8 mk, .int .i64 mn] 27))
      cases h1 : mayF mk mn true
      · go_wp2_with fail
        go_ret
        exact ⟨⟨false, rfl, by simp⟩, HB1.out⟩
      cases h2 : decide (bd < 0)
      rotate_left
      · go_wp2_with fail
        go_ret
        exact ⟨⟨false, rfl, by simp⟩, HB1.out⟩
      cases h3 : decide (1099511627776 < bd)
      rotate_left
      · go_wp2_with fail
        go_ret
        exact ⟨⟨false, rfl, by simp⟩, HB1.out⟩
      cases h4 : decide (pd < 0)
      rotate_left
      · go_wp2_with fail
        go_ret
        exact ⟨⟨false, rfl, by simp⟩, HB1.out⟩
      cases h5 : decide (1099511627776 < pd)
      rotate_left
      · go_wp2_with fail
        go_ret
        exact ⟨⟨false, rfl, by simp⟩, HB1.out⟩
      have HK := Lib.hid (HE.out.2 ⟨h1, by simpa using h2, by simpa using h3, by simpa using h4, by simpa using h5⟩)
      go_wp2_with fail
      go_roundw
      case rel => exact ⟨k + 1, by omega, by go_num, Lib.hid ⟨fun j hj => by
        by_cases he : j = k
        · rw [he]; exact HK.out
        · exact H.out.1 j (by omega), HB1.out, HB2.out⟩⟩
      case measure => simp [intOf]; omega
    · have d0 : decide ((k : Int) < 4) = false := decide_eq_false (by omega)
      have HE := Lib.hid (show ∀ j, j < 4 → EdOk s j from fun j hj => H.out.1 j (by omega))
      have c4 := H.out.2.2.get _ (sty_a4 s)
      have c5 := H.out.2.2.get _ (sty_a5 s)
      have c8 := H.out.2.2.get _ (sty_a8 s)
      have c9 := H.out.2.2.get _ (sty_a9 s)
      have c10 := H.out.2.2.get _ (sty_a10 s)
      have c11 := H.out.2.2.get _ (sty_a11 s)
      have lb := H.out.2.2.lt
      obtain ⟨wk, hwk⟩ : ∃ x, x = s.w.k := ⟨_, rfl⟩
      obtain ⟨wn, hwn⟩ : ∃ x, x = s.w.n := ⟨_, rfl⟩
      obtain ⟨ik, hik⟩ : ∃ x, x = s.minw.k := ⟨_, rfl⟩
      obtain ⟨jn, hin⟩ : ∃ x, x = s.minw.n := ⟨_, rfl⟩
      obtain ⟨ak, hak⟩ : ∃ x, x = s.maxw.k := ⟨_, rfl⟩
      obtain ⟨an, han⟩ : ∃ x, x = s.maxw.n := ⟨_, rfl⟩
      rw [← hwk] at c4
      rw [← hwn] at c5
      rw [← hik] at c8
      rw [← hin] at c9
      rw [← hak] at c10
      rw [← han] at c11
      have HB0 := Lib.hid H.out.2.1
      have HQ : Hid (mayF wk wn false = true → mayF ik jn false = true → mayF ak an false = true → S13 s) := Lib.hid (by
        rw [hwk, hwn, hik, hin, hak, han]; exact fun a b c => ⟨HE.out, a, b, c⟩)
      clear hwk hwn hik hin hak han H HE
      go_wp2_with fail
      refine (HMf.out _ wk wn).mono ?_
      rintro e w1 ⟨rfl, rfl⟩
      have HB1 := Lib.hid (bal HB0.out (.cells #[.int .u8 wk, .int .i64 wn] 27))
      cases h1 : mayF wk wn false
      · go_wp2_with fail
        go_ret
        exact ⟨⟨false, rfl, by simp⟩, HB1.out⟩
      go_wp2_with fail
      refine (HMf.out _ ik jn).mono ?_
      rintro e w1 ⟨rfl, rfl⟩
      have HB2 := Lib.hid (bal HB1.out (.cells #[.int .u8 ik, .int .i64 jn] 27))
      cases h2 : mayF ik jn false
      · go_wp2_with fail
        go_ret
        exact ⟨⟨false, rfl, by simp⟩, HB2.out⟩
      go_wp2_with fail
      refine (HMf.out _ ak an).mono ?_
      rintro e w1 ⟨rfl, rfl⟩
      have HB3 := Lib.hid (bal HB2.out (.cells #[.int .u8 ak, .int .i64 an] 27))
      go_wp2_with fail
      go_ret
      exact ⟨⟨_, rfl, fun h3 => HQ.out h1 h2 h3⟩, HB3.out⟩
/-- The cells of a case. -/
def caseCells (s : Sty) (c : Int) (A : Option Addr) (n ck : Nat) (Ag : Option Addr) (m cg : Nat) : List Value := styCells s ++ [.int .i64 c, .slice A n ck, .slice Ag m cg]
set_option maxRecDepth 100000 in
set_option maxHeartbeats 2000000 in
theorem may19_any (s : Sty) (c : Int) (l : List Sty) (got : List Cn) (A Ag : Option Addr) (ck cg : Nat) (w : World) (hr : Reads w w.heap.size 43 A l.length (stysCells l)) (huv : ∀ s ∈ l, ∃ Au nu cu, s.uv = .slice Au nu cu) (hg : Reads w w.heap.size 4 Ag got.length (cnsCells got)) :
    Calls Try.prog 15 #[.agg (caseCells s c A l.length ck Ag got.length cg).toArray] w fun e w' => BoolAns (May19 c l got) w w' e := by
  have HR := Lib.hid hr
  have HG := Lib.hid hg
  have HUV := Lib.hid huv
  clear hr hg huv
  have HC0 : Hid (Blk (w.alloc (.cells (caseCells s c A l.length ck Ag got.length cg).toArray 45)) w.heap.size 45 (caseCells s c A l.length ck Ag got.length cg).toArray) := Lib.hid (Blk.new _ _ _)
  obtain ⟨n, hne⟩ : ∃ n, n = l.length := ⟨_, rfl⟩
  rw [← hne] at HR HC0 ⊢
  have HN := Lib.hid hne
  clear hne
  have HB0 := Lib.hid (bal (Below.refl w.heap.size w) (.cells (caseCells s c A n ck Ag got.length cg).toArray 45))
  go_enter Try.func15, Try.ntmps15
  go_upto_region 1 with (fail)
  obtain ⟨w1, hw1⟩ : ∃ w1, w1 = w.alloc (.cells (caseCells s c A n ck Ag got.length cg).toArray 45) := ⟨_, rfl⟩
  obtain ⟨gc, hgc⟩ : ∃ gc, gc = w.heap.size := ⟨_, rfl⟩
  have HGC := Lib.hid (show w.heap.size ≤ gc by omega)
  have HE : Hid (w.alloc (.cells (caseCells s c A n ck Ag got.length cg).toArray 45) = w1) := Lib.hid hw1.symm
  rw [← hw1] at HC0 HB0
  rw [← hgc] at HC0 ⊢
  first | rw [HE.out] | (rw [show (w.alloc _) = w1 from HE.out])
  clear HE hw1 hgc
  have c43 : w1.cell? ⟨gc, 43, none⟩ = some (.int .i64 c) := HC0.out.get 43 rfl
  have c44 : w1.cell? ⟨gc, 44, none⟩ = some (.slice A n ck) := HC0.out.get 44 rfl
  have c45 : w1.cell? ⟨gc, 45, none⟩ = some (.slice Ag got.length cg) := HC0.out.get 45 rfl
  by_cases h1 : 60 < n
  · have d1 : decide ((60 : Int) < (n : Int)) = true := decide_eq_true (by omega)
    have d1' : decide (60 < n) = true := decide_eq_true h1
    have d1'' : (60 : Int) < (n : Int) := by omega
    go_wp2_with fail
    go_ret
    exact ⟨⟨false, rfl, by simp⟩, HB0.out⟩
  have d1 : decide ((60 : Int) < (n : Int)) = false := decide_eq_false (by omega)
  have d1' : decide (60 < n) = false := decide_eq_false h1
  have d1'' : (n : Int) ≤ 60 := by omega
  cases h2 : decide (c < 0)
  rotate_left
  · go_wp2_with fail
    go_ret
    exact ⟨⟨false, rfl, by simp⟩, HB0.out⟩
  cases h3 : decide (1099511627776 < c)
  rotate_left
  · go_wp2_with fail
    go_ret
    exact ⟨⟨false, rfl, by simp⟩, HB0.out⟩
  go_wp2_with fail
  clear c43 c44 c45
  refine (may_any17 got Ag cg w1 ((HG.out.below HB0.out).more HB0.out.size)).mono ?_
  rintro e w2 ⟨⟨bb, rfl, hbb⟩, hb2⟩
  have HB2 := Lib.hid (And.intro (HB0.out.trans (hb2.mono HB0.out.size)) (HC0.out.below hb2 HC0.out.lt))
  have HGM := Lib.hid hbb
  clear hbb hb2
  cases bb
  · go_wp2_with fail
    go_ret
    exact ⟨⟨false, rfl, by simp⟩, HB2.out.1⟩
  have HCB := Lib.hid (show CB c from ⟨by have := of_decide_eq_false h2; have := of_decide_eq_false h3; omega⟩)
  clear h2 h3
  go_wp2_with fail
  go_loopw [3] (fun kv wr => ∃ i : Nat, i ≤ n ∧ kv = .int .i64 i ∧ Hid ((∀ (j : Nat) (h : j < l.length), j < i → S19 l[j]) ∧ Below w.heap.size w wr ∧ Blk wr gc 45 (caseCells s c A n ck Ag got.length cg).toArray)) (fun kv _ => n - (intOf kv).toNat)
  case atStart => exact ⟨0, by omega, rfl, Lib.hid ⟨fun j h h2 => by omega, HB2.out⟩⟩
  case round =>
    obtain ⟨i, hi, rfl, H⟩ := hrel
    have c44 : wr.cell? ⟨gc, 44, none⟩ = some (.slice A n ck) := H.out.2.2.get 44 rfl
    by_cases hlt : i < n
    rotate_left
    · have g0 : decide ((i : Int) < (n : Int)) = false := decide_eq_false (by omega)
      have g0' : decide (i < n) = false := decide_eq_false hlt
      have HF : Hid (May19 c l got) := Lib.hid ⟨by rw [← HN.out]; omega, HCB.out, HGM.out (by simp), fun j h => H.out.1 j h (by rw [← HN.out] at h; omega)⟩
      go_wp2_with fail
      go_ret
      exact ⟨⟨true, rfl, fun _ => HF.out⟩, H.out.2.1⟩
    have g0 : decide ((i : Int) < (n : Int)) = true := decide_eq_true (by omega)
    have g0' : decide (i < n) = true := decide_eq_true hlt
    have hki : (i : Int) < (n : Int) := by omega
    have hk0 : (0 : Int) ≤ (i : Int) := by omega
    have wk : IntKind.i64.wrap ((i : Int) + 1) = (i : Int) + 1 := IntWalk.i64_in _ ⟨by omega, by omega⟩
    have hil : i < l.length := by rw [← HN.out]; exact hlt
    obtain ⟨ad, rfl, hst⟩ := HR.out.st HN.out hil
    obtain ⟨x, hxe⟩ : ∃ x, x = l[i] := ⟨_, rfl⟩
    have HLD : Hid (∀ j u, (styCells x)[j]? = some u → wr.cell? ((ad.add (i * 43)).add j) = some u) := Lib.hid (fun j u hu => by
      obtain ⟨ad', e, hb, hcc⟩ := (HR.out.below H.out.2.1).2 (by omega)
      injection e with e; subst e
      have hj : j < 43 := by have := (List.getElem?_eq_some_iff.1 hu).1; rw [sty_len] at this; exact this
      rw [add_of_add]
      exact hcc _ u (by rw [stysCells_at l i j hil hj, ← hxe]; exact hu))
    obtain ⟨Au, nu, cu, huv⟩ := HUV.out l[i] (List.getElem_mem hil)
    rw [← hxe] at huv
    have HO := Lib.hid (Sty.one x huv)
    have HX := Lib.hid hxe
    have HMY := Lib.hid (fun W => may13_any x W huv)
    clear hst hxe huv
    go_upto_region 7 with (first
      | refine wpList_load_at rfl 32 _ rfl _ rfl (styCells x) _ HLD.out Try.underlying32 rfl (by kernel_rfl) ?_
      | refine wpList_store_new rfl 32 _ _ rfl _ (by simp) (styCells x).toArray rfl rfl 32 _ (by kernel_rfl) rfl HO.out ?_)
    have H3 : Hid (Below w.heap.size w (wr.alloc (.cells (styCells x).toArray 32)) ∧ Blk (wr.alloc (.cells (styCells x).toArray 32)) gc 45 (caseCells s c (some ad) n ck Ag got.length cg).toArray ∧ Blk (wr.alloc (.cells (styCells x).toArray 32)) wr.heap.size 32 (styCells x).toArray) := Lib.hid ⟨bal H.out.2.1 _, H.out.2.2.alloc _, Blk.new _ _ _⟩
    obtain ⟨gs, hgs⟩ : ∃ gs, gs = wr.heap.size := ⟨_, rfl⟩
    obtain ⟨w3, hw3⟩ : ∃ w3, w3 = wr.alloc (.cells (styCells x).toArray 32) := ⟨_, rfl⟩
    rw [← hw3, ← hgs] at H3
    rw [← hw3, ← hgs]
    clear hw3 hgs c44
    have HRG := Lib.hid (sty_rngB H3.out.2.2)
    go_wp2_with (refine wpList_load_mid rfl 32 (.tmp 4) rfl gs 0 rfl (styCells x) _ HRG.out Try.underlying32 rfl (by kernel_rfl) ?_)
    refine (HMY.out _).mono ?_
    rintro e w4 ⟨⟨b1, rfl, hb1⟩, hb4⟩
    have H4 := Lib.hid (And.intro (H3.out.1.trans (hb4.mono H3.out.1.size)) (And.intro (H3.out.2.1.below hb4 H3.out.2.1.lt) (H3.out.2.2.below hb4 H3.out.2.2.lt)))
    have HB1 := Lib.hid hb1
    clear hb1 hb4 HRG
    cases b1
    · go_wp2_with fail
      go_ret
      exact ⟨⟨false, rfl, by simp⟩, H4.out.1⟩
    obtain ⟨bk, hbk⟩ : ∃ bk, bk = x.basis.k := ⟨_, rfl⟩
    obtain ⟨bn, hbn⟩ : ∃ bn, bn = x.basis.n := ⟨_, rfl⟩
    obtain ⟨gr, hgr⟩ : ∃ gr, gr = x.grow := ⟨_, rfl⟩
    obtain ⟨sh, hsh⟩ : ∃ sh, sh = x.shrink := ⟨_, rfl⟩
    have c40 : w4.cell? ⟨gs, 40, none⟩ = some (.int .u8 bk) := by rw [hbk]; exact H4.out.2.2.get 40 rfl
    have c41 : w4.cell? ⟨gs, 41, none⟩ = some (.int .i64 bn) := by rw [hbn]; exact H4.out.2.2.get 41 rfl
    have c38 : w4.cell? ⟨gs, 38, none⟩ = some (.int .i64 gr) := by rw [hgr]; exact H4.out.2.2.get 38 rfl
    have c39 : w4.cell? ⟨gs, 39, none⟩ = some (.int .i64 sh) := by rw [hsh]; exact H4.out.2.2.get 39 rfl
    have lb := H4.out.2.2.lt
    have HMf := Lib.hid (fun W => lenMay_any bk bn false W)
    simp only [Bool.false_eq_true, if_false] at HMf
    have HQ : Hid (mayF bk bn false = true → 0 ≤ gr ∧ gr ≤ 60 → 0 ≤ sh ∧ sh ≤ 60 → S19 l[i]) := Lib.hid (by
      rw [← HX.out, hbk, hbn, hgr, hsh]; exact fun a b c => ⟨HB1.out (by simp), a, b, c⟩)
    clear hbk hbn hgr hsh
    go_wp2_with fail
    refine (HMf.out _).mono ?_
    rintro e w5 ⟨rfl, rfl⟩
    have H5 := Lib.hid (And.intro (bal H4.out.1 (.cells #[.int .u8 bk, .int .i64 bn] 27)) (H4.out.2.1.alloc (.cells #[.int .u8 bk, .int .i64 bn] 27)))
    cases m1 : mayF bk bn false
    · go_wp2_with fail
      go_ret
      exact ⟨⟨false, rfl, by simp⟩, H5.out.1⟩
    cases m2 : decide (gr < 0)
    rotate_left
    · go_wp2_with fail
      go_ret
      exact ⟨⟨false, rfl, by simp⟩, H5.out.1⟩
    cases m3 : decide (60 < gr)
    rotate_left
    · go_wp2_with fail
      go_ret
      exact ⟨⟨false, rfl, by simp⟩, H5.out.1⟩
    cases m4 : decide (sh < 0)
    rotate_left
    · go_wp2_with fail
      go_ret
      exact ⟨⟨false, rfl, by simp⟩, H5.out.1⟩
    cases m5 : decide (60 < sh)
    rotate_left
    · go_wp2_with fail
      go_ret
      exact ⟨⟨false, rfl, by simp⟩, H5.out.1⟩
    have HS := Lib.hid (HQ.out m1 ⟨by simpa using m2, by simpa using m3⟩ ⟨by simpa using m4, by simpa using m5⟩)
    go_wp2_with fail
    go_roundw
    case rel => exact ⟨i + 1, by omega, by go_num, Lib.hid ⟨fun j h hj => by
      by_cases he : j = i
      · subst he; exact HS.out
      · exact H.out.1 j h (by omega), H5.out.1, H5.out.2⟩⟩
    case measure => simp [intOf]; omega
end Go.Proofs.Ytdnpobfnkdllmaa
