/- Trees: the open nodes of Check's walk: plain. -/
import Derived.Test.YtjhfcpadnofdnaaGreatTrf
import Derived.Test.YtjhfcpadnofdnaaGreatApp
import Derived.Test.YtjhfcpadnofdnaaGreatCrf
set_option linter.unusedSimpArgs false
set_option linter.unusedVariables false
namespace Go.Proofs.YtjhfcpadnofdnaaGreat
open Go.RowKit
attribute [local go_sem] block_of_add
structure CheckOk (l : List Nd) (adv : List Int) (view : Int) : Prop where
  n : 0 < l.length ∧ l.length ≤ 65536
  m : adv.length ≤ 4096
  v : 0 ≤ view ∧ view ≤ 1099511627776
  a : ∀ (j : Nat) (h : j < adv.length), 0 ≤ adv[j] ∧ adv[j] ≤ 1099511627776
  nd : ∀ (i : Nat) (h : i < l.length), NdOk l i l[i]
structure CheckAns (l : List Nd) (adv : List Int) (view : Int) (w w' : World) (e : Ending) : Prop where
  ex : ∃ n r : Int, e = .returned (.tuple #[.int .i64 n, .int .i64 r]) ∧ (r = 0 → CheckOk l adv view)
  b : Below w.heap.size w w'
section
variable (l : List Nd) (adv : List Int) (A A2 : Option Addr) (c c2 : Nat) (view : Int) (w : World)
end
end Go.Proofs.YtjhfcpadnofdnaaGreat
set_option linter.unusedSimpArgs false
set_option linter.unusedVariables false
namespace Go.Proofs.YtjhfcpadnofdnaaGreat
open Go.RowKit
attribute [local go_sem] block_of_add
def unF (l : List Nd) : Nat := (l.map fun x => x.s.units.length).sum
/-- A tree that may be, small. -/
structure SmallOk (l : List Nd) (adv : List Int) (view : Int) : Prop where
  ok : CheckOk l adv view
  n : l.length ≤ 300
  u : unF l ≤ 4000
section
variable (l : List Nd) (adv : List Int) (A A2 : Option Addr) (c c2 : Nat) (view : Int) (w : World)
end
end Go.Proofs.YtjhfcpadnofdnaaGreat
namespace Go.Proofs.YtjhfcpadnofdnaaGreat
open Go.RowKit
attribute [local go_sem] block_of_add
/-- A tree that may be, exactly. -/
structure CheckE (l : List Nd) (adv : List Int) (view : Int) : Prop where
  n : 0 < l.length ∧ l.length ≤ 65536
  m : adv.length ≤ 4096
  v : 0 ≤ view ∧ view ≤ 1099511627776
  a : ∀ (j : Nat) (h : j < adv.length), 0 ≤ adv[j] ∧ adv[j] ≤ 1099511627776
  nd : ∀ (i : Nat) (h : i < l.length), NdE l i l[i]
structure CheckEx (l : List Nd) (adv : List Int) (view : Int) (w w' : World) (e : Ending) : Prop where
  ex : ∃ n r : Int, e = .returned (.tuple #[.int .i64 n, .int .i64 r]) ∧ (r = 0 ↔ CheckE l adv view)
  b : Below w.heap.size w w'
section
variable (l : List Nd) (adv : List Int) (A A2 : Option Addr) (c c2 : Nat) (view : Int) (w : World)
set_option maxRecDepth 100000 in
set_option maxHeartbeats 1000000 in
theorem checkX_any (hr : Reads w w.heap.size 44 A l.length (ndsCells l)) (ha : Reads w w.heap.size 1 A2 adv.length (i64s adv)) (hu : ∀ x ∈ l, ∃ Au cu, x.s.uv = .slice Au x.s.units.length cu) :
    Calls Tryz.prog 15 #[.agg #[.slice A l.length c, .slice A2 adv.length c2, .int .i64 view]] w fun e w' => CheckEx l adv view w w' e := by
  have HR := Lib.hid hr
  have HA := Lib.hid ha
  have HB0 : Hid (Blk (w.alloc (.cells #[.slice A l.length c, .slice A2 adv.length c2, .int .i64 view] 25)) w.heap.size 25 #[.slice A l.length c, .slice A2 adv.length c2, .int .i64 view]) := Lib.hid (Blk.new _ _ _)
  have HB1 : Hid (Below w.heap.size w (w.alloc (.cells #[.slice A l.length c, .slice A2 adv.length c2, .int .i64 view] 25))) := Lib.hid ((Below.refl _ _).alloc (Nat.le_refl _) _)
  have HNO := Lib.hid (fun (hn : l.length ≤ 4294967296) W (i : Nat) (hi : i < l.length) (hb : Below w.heap.size w W) => by
    obtain ⟨Au, cu, huv⟩ := hu l[i] (List.getElem_mem hi)
    exact nodeX_any l A A2 c adv.length c2 view W i hi hn ((hr.below hb).more hb.size) huv)
  clear hr ha hu
  cases h1 : decide (65536 < l.length)
  rotate_left
  · have HN1X := Lib.hid (show ¬ l.length ≤ 65536 from by have := of_decide_eq_true h1; omega)
    have h1' : decide ((65536 : Int) < (l.length : Int)) = true := decide_eq_true (by have := of_decide_eq_true h1; omega)
    go_enter Tryz.func15, Tryz.ntmps15
    go_wp2_with fail
    go_ret2
    exact ⟨⟨_, 7, rfl, fun h => by omega, fun h => absurd h.n.2 HN1X.out⟩, HB1.out⟩
  have h1' : decide ((65536 : Int) < (l.length : Int)) = false := decide_eq_false (by have := of_decide_eq_false h1; omega)
  have H1 := Lib.hid (of_decide_eq_false h1)
  cases h2 : decide (4096 < adv.length)
  rotate_left
  · have HN2X := Lib.hid (show ¬ adv.length ≤ 4096 from by have := of_decide_eq_true h2; omega)
    have h2' : decide ((4096 : Int) < (adv.length : Int)) = true := decide_eq_true (by have := of_decide_eq_true h2; omega)
    go_enter Tryz.func15, Tryz.ntmps15
    go_wp2_with fail
    go_ret2
    exact ⟨⟨_, 7, rfl, fun h => by omega, fun h => absurd h.m HN2X.out⟩, HB1.out⟩
  have h2' : decide ((4096 : Int) < (adv.length : Int)) = false := decide_eq_false (by have := of_decide_eq_false h2; omega)
  have H2 := Lib.hid (of_decide_eq_false h2)
  by_cases h3 : l.length = 0
  · have h3' : ((l.length : Int) == 0) = true := beq_iff_eq.2 (by omega)
    have h3'' : (l.length == 0) = true := beq_iff_eq.2 h3
    have HN3X := Lib.hid (show ¬ 0 < l.length from by omega)
    clear h3
    go_enter Tryz.func15, Tryz.ntmps15
    go_wp2_with fail
    go_ret2
    exact ⟨⟨_, 6, rfl, fun h => by omega, fun h => absurd h.n.1 HN3X.out⟩, HB1.out⟩
  have h3' : ((l.length : Int) == 0) = false := beq_eq_false_iff_ne.2 (by omega)
  have h3'' : (l.length == 0) = false := beq_eq_false_iff_ne.2 h3
  have H3 := Lib.hid h3
  clear h3
  cases h4 : decide (view < 0)
  rotate_left
  · go_enter Tryz.func15, Tryz.ntmps15
    go_wp2_with fail
    go_ret2
    exact ⟨⟨_, 6, rfl, fun h => by omega, fun h => absurd h.v.1 (by have := of_decide_eq_true h4; omega)⟩, HB1.out⟩
  cases h5 : decide (1099511627776 < view)
  rotate_left
  · go_enter Tryz.func15, Tryz.ntmps15
    go_wp2_with fail
    go_ret2
    exact ⟨⟨_, 6, rfl, fun h => by omega, fun h => absurd h.v.2 (by have := of_decide_eq_true h5; omega)⟩, HB1.out⟩
  have H45 := Lib.hid (And.intro (of_decide_eq_false h4) (of_decide_eq_false h5))
  have HN1 := Lib.hid (HNO.out (by have := H1.out; omega))
  go_enter Tryz.func15, Tryz.ntmps15
  go_wp2_with fail
  clear h1 h1' h2 h2' h3' h3'' h4 h5
  go_loopw [4] (fun iv wr => ∃ k : Nat, k ≤ adv.length ∧ iv = .int .i64 k ∧ Hid ((∀ (j : Nat) (h : j < adv.length), j < k → 0 ≤ adv[j] ∧ adv[j] ≤ 1099511627776) ∧ Below w.heap.size w wr ∧ Blk wr w.heap.size 25 #[.slice A l.length c, .slice A2 adv.length c2, .int .i64 view])) (fun iv _ => adv.length - (intOf iv).toNat)
  case atStart => exact ⟨0, by omega, rfl, Lib.hid ⟨fun j h h2 => by omega, HB1.out, HB0.out⟩⟩
  case round =>
    obtain ⟨k, hk, rfl, H⟩ := hrel
    have bt := H.out.2.2.c3
    by_cases hlt : k < adv.length
    · have d0 : decide ((k : Int) < (adv.length : Int)) = true := decide_eq_true (by omega)
      have d0' : decide (k < adv.length) = true := decide_eq_true hlt
      have hwk : IntKind.i64.wrap ((k : Int) + 1) = (k : Int) + 1 := IntWalk.i64_in _ ⟨by omega, by have := H2.out; omega⟩
      obtain ⟨ad, u, rfl, hab, hx, hc⟩ := (HA.out.below H.out.2.1).at_ hlt
      have hu : u = .int .i64 adv[k] := by simpa [i64s, hlt] using hx.symm
      subst hu
      obtain ⟨a, ha⟩ : ∃ a, a = adv[k] := ⟨_, rfl⟩
      rw [← ha] at hc
      have HAK := Lib.hid ha
      clear ha hx hab
      cases g1 : decide (a < 0)
      rotate_left
      · go_wp2_with fail
        go_ret2
        exact ⟨⟨_, 6, rfl, fun h => by omega, fun h => by have := (h.a k hlt).1; rw [← HAK.out] at this; have := of_decide_eq_true g1; omega⟩, H.out.2.1⟩
      cases g2 : decide (1099511627776 < a)
      rotate_left
      · go_wp2_with fail
        go_ret2
        exact ⟨⟨_, 6, rfl, fun h => by omega, fun h => by have := (h.a k hlt).2; rw [← HAK.out] at this; have := of_decide_eq_true g2; omega⟩, H.out.2.1⟩
      have HG := Lib.hid (And.intro (of_decide_eq_false g1) (of_decide_eq_false g2))
      go_wp2_with fail
      go_roundw
      case rel => exact ⟨k + 1, by omega, by go_num, Lib.hid ⟨fun j h h2 => by
        by_cases hj : j = k
        · subst hj; have := HG.out; have := HAK.out; omega
        · exact H.out.1 j h (by omega), H.out.2.1, H.out.2.2⟩⟩
      case measure => simp [intOf]; omega
    · have d0 : decide ((k : Int) < (adv.length : Int)) = false := decide_eq_false (by omega)
      have d0' : decide (k < adv.length) = false := decide_eq_false hlt
      have HL := Lib.hid (show k = adv.length by omega)
      go_wp2_with fail
      go_loopw [5] (fun iv wr => ∃ i : Nat, i ≤ l.length ∧ iv = .int .i64 i ∧ Hid ((∀ (j : Nat) (h : j < l.length), j < i → NdE l j l[j]) ∧ Below w.heap.size w wr ∧ Blk wr w.heap.size 25 #[.slice A l.length c, .slice A2 adv.length c2, .int .i64 view])) (fun iv _ => l.length - (intOf iv).toNat)
      case atStart => exact ⟨0, by omega, rfl, Lib.hid ⟨fun j h h2 => by omega, H.out.2⟩⟩
      case round =>
        obtain ⟨i, hi, rfl, H6⟩ := hrel
        have HK := Lib.hid (fun j h => H.out.1 j h (by have := HL.out; omega))
        clear bt
        have bt := H6.out.2.2.c3
        by_cases hlt : i < l.length
        · have d0 : decide ((i : Int) < (l.length : Int)) = true := decide_eq_true (by omega)
          have d0' : decide (i < l.length) = true := decide_eq_true hlt
          have hwk : IntKind.i64.wrap ((i : Int) + 1) = (i : Int) + 1 := IntWalk.i64_in _ ⟨by omega, by have := H1.out; omega⟩
          go_wp2_with fail
          refine (HN1.out _ i hlt H6.out.2.1).mono ?_
          rintro e w2 ⟨⟨r, rfl, hr⟩, hb⟩
          have HB2 := Lib.hid hb
          have HRR := Lib.hid hr
          clear hb hr
          by_cases hr0 : r = 0
          · have e1 : (r == 0) = true := beq_iff_eq.2 hr0
            have e2 : (r != 0) = false := by rw [bne, e1]; rfl
            have HR0 := Lib.hid (HRR.out.1 hr0)
            clear hr0
            go_wp2_with fail
            go_roundw
            case rel => exact ⟨i + 1, by omega, by go_num, Lib.hid ⟨fun j h h2 => by
              by_cases hj : j = i
              · subst hj; exact HR0.out
              · exact H6.out.1 j h (by omega), H6.out.2.1.trans (HB2.out.mono H6.out.2.1.size), H6.out.2.2.below HB2.out H6.out.2.2.lt⟩⟩
            case measure => simp [intOf]; omega
          · have e1 : (r == 0) = false := beq_eq_false_iff_ne.2 hr0
            have e2 : (r != 0) = true := by rw [bne, e1]; rfl
            go_wp2_with fail
            go_ret2
            exact ⟨⟨_, r, rfl, fun h => absurd h hr0, fun h => HRR.out.2 (h.nd i hlt)⟩, H6.out.2.1.trans (HB2.out.mono H6.out.2.1.size)⟩
        · have d0 : decide ((i : Int) < (l.length : Int)) = false := decide_eq_false (by omega)
          have d0' : decide (i < l.length) = false := decide_eq_false hlt
          go_wp2_with fail
          go_ret2
          exact ⟨⟨_, 0, rfl, fun _ => ⟨⟨by have := H3.out; omega, by have := H1.out; omega⟩, by have := H2.out; omega, by have := H45.out; omega, HK.out, fun j h => H6.out.1 j h (by omega)⟩, fun _ => rfl⟩, H6.out.2.1⟩
end
end Go.Proofs.YtjhfcpadnofdnaaGreat
namespace Go.Proofs.YtjhfcpadnofdnaaGreat
/-- A node and its ancestors, the nearest first. -/
def stF (l : List Nd) (j : Nat) : List Int := (j : Int) :: anc l j
theorem anc_lt (l : List Nd) : ∀ (i : Nat) (x : Int), x ∈ anc l i → 0 ≤ x ∧ x < i := by
  intro i
  induction i using Nat.strongRecOn with
  | ind i ih =>
    intro x hx
    have hp := parF_lt l i
    by_cases h0 : parF l i < 0
    · rw [anc_none h0] at hx; cases hx
    · obtain ⟨p, hpe⟩ := Int.eq_ofNat_of_zero_le (show 0 ≤ parF l i by omega)
      rw [anc_some hpe] at hx
      rcases List.mem_cons.1 hx with h | h
      · omega
      · have := ih p (by omega) x h; omega
theorem st_lt (l : List Nd) {i : Nat} {x : Int} (h : x ∈ stF l i) : 0 ≤ x ∧ x ≤ i := by
  rcases List.mem_cons.1 h with h | h
  · omega
  · have := anc_lt l i x h; omega
theorem st_some {l : List Nd} {i p : Nat} (h : parF l i = p) : stF l i = (i : Int) :: stF l p := by unfold stF; rw [anc_some h]
/-- Behind a member of the open nodes stand its own ancestors. -/
theorem st_split (l : List Nd) : ∀ (i p : Nat), (p : Int) ∈ stF l i → ∃ pre, stF l i = pre ++ stF l p ∧ ∀ y ∈ pre, (p : Int) < y := by
  intro i
  induction i using Nat.strongRecOn with
  | ind i ih =>
    intro p h
    rcases List.mem_cons.1 h with h | h
    · obtain rfl : p = i := by omega
      exact ⟨[], rfl, by simp⟩
    · by_cases h0 : parF l i < 0
      · rw [anc_none h0] at h; cases h
      · obtain ⟨q, hq⟩ := Int.eq_ofNat_of_zero_le (show 0 ≤ parF l i by omega)
        have hlt := parF_lt l i
        rw [anc_some hq] at h
        obtain ⟨pre, h1, h2⟩ := ih q (by omega) p h
        have hpq := st_lt l (show (p : Int) ∈ stF l q from h)
        refine ⟨(i : Int) :: pre, by rw [st_some hq, h1]; rfl, fun y hy => ?_⟩
        rcases List.mem_cons.1 hy with h | h
        · omega
        · exact h2 y h
theorem st_sub (l : List Nd) {i p : Nat} (h : (p : Int) ∈ stF l i) {x : Int} (hx : x ∈ stF l p) : x ∈ stF l i := by
  obtain ⟨pre, h1, _⟩ := st_split l i p h
  rw [h1]; exact List.mem_append.2 (.inr hx)
theorem par_of {l : List Nd} {i : Nat} (hi : i < l.length) (h0 : 0 < i) (h : ParOk l i l[i].parent) : ∃ p : Nat, l[i].parent = p ∧ p < i ∧ parF l i = p ∧ (p : Int) ∈ stF l (i - 1) := by
  rcases h with h | ⟨_, h1, h2, h3⟩
  · omega
  · obtain ⟨p, hp⟩ := Int.eq_ofNat_of_zero_le h1
    have hpi : p < i := by omega
    refine ⟨p, hp, hpi, ?_, ?_⟩
    · unfold parF; rw [List.getElem?_eq_getElem hi]; simp only [hp]; rw [if_pos ⟨by omega, by omega⟩]
    · rcases h3 with h3 | h3
      · unfold stF; rw [List.mem_cons]; left; omega
      · rw [hp] at h3; exact List.mem_cons_of_mem _ h3
/-- The node behind a box that is still open is its child. -/
theorem first_child {l : List Nd} {i p : Nat} (hi : i ≤ l.length) (ho : ∀ (j : Nat) (h : j < l.length), j < i → ParOk l j l[j].parent) (hpi : p + 1 < i) (hm : (p : Int) ∈ stF l (i - 1)) : parF l (p + 1) = p := by
  obtain ⟨q, h1, h2, h3, h4⟩ := par_of (show p + 1 < l.length by omega) (by omega) (ho (p + 1) (by omega) hpi)
  by_cases hq : q = p
  · rw [h3, hq]
  · exfalso
    have key : ∀ d m : Nat, m = p + 1 + d → m < i → ¬ (p : Int) ∈ stF l m := by
      intro d
      induction d with
      | zero =>
        intro m e hmi hp
        obtain rfl : m = p + 1 := by omega
        rw [st_some h3] at hp
        rcases List.mem_cons.1 hp with h | h
        · omega
        · have := st_lt l h; omega
      | succ d ih =>
        intro m e hmi hp
        obtain ⟨r, a1, a2, a3, a4⟩ := par_of (show m < l.length by omega) (by omega) (ho m (by omega) hmi)
        rw [st_some a3] at hp
        rcases List.mem_cons.1 hp with h | h
        · omega
        · exact ih (m - 1) (by omega) (by omega) (st_sub l a4 h)
    exact key (i - 1 - (p + 1)) (i - 1) (by omega) (by omega) hm
/-- May a node stand in its parent, as the program asks it? -/
def StandX (l : List Nd) (i : Nat) (x : Nd) : Prop :=
  if i = 0 then x.s.kind = 1 ∧ x.s.float = 0 ∧ x.s.clear = 0
  else ∀ p : Nat, x.parent = p → ∀ y, l[p]? = some y → (y.s.kind = 2 ∧ x.s.kind ≠ 3 ∧ x.s.float = 0 ∧ x.s.clear = 0) ∨ (y.s.kind = 1 ∧ ∀ z, l[p + 1]? = some z → (x.s.kind = 3 ↔ z.s.kind = 3))
theorem right_kind {s : Sty} {nu : Nat} (h : RightX s nu) : s.kind = 1 ∨ s.kind = 2 ∨ s.kind = 3 := by rcases h with h | h <;> omega
theorem stand_iff {l : List Nd} {i : Nat} (hi : i < l.length) (ho : ∀ (j : Nat) (h : j < l.length), j < i → NdE l j l[j]) (hp : ParOk l i l[i].parent) :
    StandX l i l[i] ↔ ((i = 0 → l[i].s.kind = 1 ∧ l[i].s.float = 0 ∧ l[i].s.clear = 0) ∧ (∀ p : Nat, 0 < i → l[i].parent = p → ∀ y, l[p]? = some y → y.s.kind ≠ 3 ∧ (y.s.kind = 2 → l[i].s.kind ≠ 3 ∧ l[i].s.float = 0 ∧ l[i].s.clear = 0) ∧ (y.s.kind ≠ 2 → ∀ k z, p < k → k < i → parF l k = p → (∀ j, p < j → j < k → parF l j ≠ p) → l[k]? = some z → (z.s.kind = 3 ↔ l[i].s.kind = 3)))) := by
  by_cases h0 : i = 0
  · unfold StandX
    rw [if_pos h0]
    constructor
    · intro h; exact ⟨fun _ => h, fun p hp => by omega⟩
    · intro h; exact h.1 h0
  · obtain ⟨p, h1, h2, h3, h4⟩ := par_of hi (by omega) hp
    have hpl : p < l.length := by omega
    have hky := right_kind (ho p hpl h2).sty
    have hy : l[p]? = some l[p] := List.getElem?_eq_getElem hpl
    have hfc : ∀ k, p < k → k < i → parF l k = p → (∀ j, p < j → j < k → parF l j ≠ p) → k = p + 1 := by
      intro k a1 a2 a3 a4
      by_cases hk : k = p + 1
      · exact hk
      · exact absurd (first_child (by omega) (fun j h hj => (ho j h hj).par) (by omega) h4) (a4 (p + 1) (by omega) (by omega))
    unfold StandX
    rw [if_neg h0]
    constructor
    · intro h
      refine ⟨fun h' => absurd h' h0, fun p' _ e y ey => ?_⟩
      obtain rfl : p' = p := by omega
      rcases h p' e y ey with hh | hh
      · exact ⟨by omega, fun _ => hh.2, fun hn => absurd hh.1 hn⟩
      · refine ⟨by omega, fun h2 => by omega, fun _ k z a1 a2 a3 a4 a5 => ?_⟩
        obtain rfl := hfc k a1 a2 a3 a4
        exact (hh.2 z a5).symm
    · intro h p' e y ey
      obtain rfl : p' = p := by omega
      obtain ⟨b1, b2, b3⟩ := h.2 p' (by omega) e y ey
      obtain rfl : y = l[p'] := by rw [hy] at ey; injection ey with ey; exact ey.symm
      by_cases k2 : l[p'].s.kind = 2
      · exact .inl ⟨k2, b2 k2⟩
      · refine .inr ⟨by omega, fun z ez => ?_⟩
        by_cases hlt : p' + 1 < i
        · have hf := first_child (by omega) (fun j h hj => (ho j h hj).par) hlt h4
          exact (b3 k2 (p' + 1) z (by omega) hlt hf (fun j j1 j2 => by omega) ez).symm
        · obtain rfl : i = p' + 1 := by omega
          rw [List.getElem?_eq_getElem hi] at ez; injection ez with ez; rw [ez]
theorem ndE_iff {l : List Nd} {i : Nat} (hi : i < l.length) (ho : ∀ (j : Nat) (h : j < l.length), j < i → NdE l j l[j]) :
    NdE l i l[i] ↔ (ParOk l i l[i].parent ∧ l[i].s.units.length ≤ 65536 ∧ (anc l i).length < 512 ∧ RightX l[i].s l[i].s.units.length ∧ StandX l i l[i]) := by
  constructor
  · intro h; exact ⟨h.par, h.run, h.deep, h.sty, (stand_iff hi ho h.par).2 ⟨h.top, h.up⟩⟩
  · rintro ⟨a, b, c, d, e⟩
    have := (stand_iff hi ho a).1 e
    exact ⟨a, b, c, d, this.1, this.2⟩
/-! What stands weaker. -/
end Go.Proofs.YtjhfcpadnofdnaaGreat
