/- Contracts: jamblaw17.May. -/
import Derived.Test.YtbopeofglhkffaaBta
import Derived.Test.YtbopeofglhkffaaAsr
import Derived.Test.YtbopeofglhkffaaTrc
import Derived.Test.YtbopeofglhkffaaTrp
import Derived.Test.YtbopeofglhkffaaWs
set_option linter.unusedSimpArgs false
set_option linter.unusedVariables false
namespace Go.Proofs.Ytbopeofglhkffaa
open Go.RowKit
/-- What jambref21.Kids answers. -/
structure KR (n : Nat) (pU : Nat → Int × Int × Int) (pB : Nat → Bool) (w w' : World) (e : Ending) : Prop where
  ex : ∃ Au cu Ab cb, e = .returned (.tuple #[.slice Au n cu, .slice Ab n cb]) ∧ Reads w' w'.heap.size 3 Au n (triC pU n) ∧ Reads w' w'.heap.size 1 Ab n (booC pB n)
  b : Below w.heap.size w w'
theorem both21 (l : List Nd) (adv : List Int) (vw : Int) (hok : SmallOk l adv vw) (hu : ∀ x ∈ l, ∃ Au nu cu, x.s.uv = .slice Au nu cu) (i : Nat) (hi : i < l.length) (n : Nat) (ks : List Int) (hks : ks = kidsF l i) (hn : n = ks.length) (m : Nat) (xs : List Cn) (hm : m = xs.length) (hxl : m ≤ n)
    (hx : ∀ x ∈ xs, (0 ≤ x.least ∧ x.least ≤ 1099511627776) ∧ 0 ≤ x.greatest ∧ x.greatest ≤ 1099511627776) (ln : Nat) (hln : ln = l.length) (u1 u2 u3 : Int) (hc : CB u1) (A A2 : Option Addr) (c m2 c2 : Nat) (view : Int) :
    ∃ (pU : Nat → Int × Int × Int) (pB : Nat → Bool),
      (∀ (W : World) (Ak Ag : Option Addr) (ck cg : Nat), Reads W W.heap.size 44 A ln (ndsCells l) → Reads W W.heap.size 1 Ak n (i64s ks) → Reads W W.heap.size 4 Ag m (cnsCells xs) →
        Calls Try.prog 11 #[.agg #[.slice A ln c, .slice A2 m2 c2, .int .i64 view], .int .i64 (i : Int), .agg #[.int .i64 u1, .int .i64 u2, .int .i64 u3], .slice Ak n ck, .slice Ag m cg] W fun e w' => KA n pU pB W w' e) ∧
      (∀ (W : World) (Ak Ag : Option Addr) (ck cg : Nat), Reads W W.heap.size 44 A ln (ndsCells l) → Reads W W.heap.size 1 Ak n (i64s ks) → Reads W W.heap.size 4 Ag m (cnsCells xs) →
        Calls Try.prog 12 #[.agg #[.slice A ln c, .slice A2 m2 c2, .int .i64 view], .int .i64 (i : Int), .agg #[.int .i64 u1, .int .i64 u2, .int .i64 u3], .slice Ak n ck, .slice Ag m cg] W fun e w' => KR n pU pB W w' e) := by
  subst hln
  subst hm
  subst hn
  have hl := hok.n
  have hkn : ∀ k ∈ ks, 0 ≤ k ∧ k < (l.length : Int) := fun k hk => by
    rw [hks] at hk
    obtain ⟨q, hq, rfl, _⟩ := kid_of hk
    omega
  have hkl : ks.length ≤ 1000 := by
    have := kidsF_len l i
    rw [← hks] at this
    omega
  have hw : ∀ k ∈ ks, StW (sD l k) := fun k hk => by
    rw [hks] at hk
    obtain ⟨q, hq, _, e, _⟩ := kid_of hk
    rw [e]; exact lim_w2 (hok.ok.nd q hq).sty
  by_cases hk2 : l[i].s.kind = 2
  · have hx2 : ∀ k ∈ ks, (sD l k).kind ≠ 3 ∧ StX (sD l k) := fun k hk => by
      rw [hks] at hk
      have := flex_kid hok hi hk2 hk
      exact ⟨this.1, this.2.2⟩
    refine ⟨fun k => usedT (mainsM l[i].s u1 (ks.map (sD l)) xs k), fun k => usedB (mainsM l[i].s u1 (ks.map (sD l)) xs k), ?_, ?_⟩
    · intro W Ak Ag ck cg h1 h2 h3
      refine (fkids_any l i hi (by omega) A A2 Ak Ag c m2 c2 ck cg view u1 u2 u3 ks xs W h1 hu hk2 h2 hkn hkl h3 hc hx2 hx).mono fun e w' hh => ?_
      obtain ⟨⟨gu, gb, he, a, b, _, _⟩, h⟩ := hh
      rw [mainsM_all _ _ _ hxl] at a b
      exact ⟨⟨gu, gb, he, a, b⟩, h⟩
    · intro W Ak Ag ck cg h1 h2 h3
      refine (rkids_any l i hi (by omega) A A2 Ak Ag c m2 c2 ck cg view u1 u2 u3 ks xs W h1 hu 2 (.inr rfl) hk2 h2 hkn (by omega) h3 hc (fun h => absurd rfl h) (fun _ => ⟨hkl, fun k hk => (hx2 k hk).2⟩) hx).mono fun e w' hh => ?_
      obtain ⟨⟨Au, cu, Ab, cb, he, a, b⟩, h⟩ := hh.2 rfl
      exact ⟨⟨Au, cu, Ab, cb, he, a, b⟩, h⟩
  · refine ⟨fun k => kidU (sD l (ksAt ks k)) u1 (gAt xs k), fun k => kidB (sD l (ksAt ks k)) u1 (gAt xs k), ?_, ?_⟩
    · intro W Ak Ag ck cg h1 h2 h3
      refine (akids_any l i hi (by omega) A A2 Ak Ag c m2 c2 ck cg view u1 u2 u3 ks xs W h1 hu l[i].s.kind hk2 rfl h2 hkn (by omega) h3 hc (fun k hk _ => hw k hk) hx).mono fun e w' hh => ?_
      obtain ⟨⟨gu, gb, he, a, b, _, _⟩, h⟩ := hh
      exact ⟨⟨gu, gb, he, a, b⟩, h⟩
    · intro W Ak Ag ck cg h1 h2 h3
      refine (rkids_any l i hi (by omega) A A2 Ak Ag c m2 c2 ck cg view u1 u2 u3 ks xs W h1 hu l[i].s.kind (.inl hk2) rfl h2 hkn (by omega) h3 hc (fun _ k hk _ => hw k hk) (fun h => absurd h hk2) hx).mono fun e w' hh => ?_
      obtain ⟨⟨Au, cu, Ab, cb, he, a, b⟩, h⟩ := hh.1 hk2
      exact ⟨⟨Au, cu, Ab, cb, he, a, b⟩, h⟩
end Go.Proofs.Ytbopeofglhkffaa
namespace Go.Proofs.Ytbopeofglhkffaa
open Go.RowKit
attribute [local go_sem] block_of_add
def quad (x : Cn) : List Int := [x.least, x.greatest, x.ol, x.og]
/-- Contents within the bound. -/
def CnB (M : Int) (x : Cn) : Prop := ∀ (k : Nat) (h : k < 4), 0 ≤ (quad x)[k] ∧ (quad x)[k] ≤ M
structure MayOk (got : List Cn) : Prop where
  n : got.length ≤ 400
  b : ∀ (i : Nat) (h : i < got.length), CnB 1099511627776 got[i]
/-- A content that is read. -/
structure ConS (ad : Addr) (i : Nat) (x : Cn) (W : World) : Prop where
  lt : ad.block < W.heap.size
  c0 : W.cell? (ad.add (i * 4)) = some (.int .i64 x.least)
  c1 : W.cell? ⟨ad.block, (ad.add (i * 4)).off + 1, none⟩ = some (.int .i64 x.greatest)
  c2 : W.cell? ⟨ad.block, (ad.add (i * 4)).off + 2, none⟩ = some (.int .i64 x.ol)
  c3 : W.cell? ⟨ad.block, (ad.add (i * 4)).off + 3, none⟩ = some (.int .i64 x.og)
theorem ConS.below {ad : Addr} {i : Nat} {x : Cn} {W W' : World} (h : ConS ad i x W) (hb : Below W.heap.size W W') : ConS ad i x W' :=
  ⟨Nat.lt_of_lt_of_le h.lt hb.size, (hb.cell (p := ad.add (i * 4)) (by rw [block_of_add]; exact h.lt)).trans h.c0, (hb.cell (p := ⟨ad.block, (ad.add (i * 4)).off + 1, none⟩) h.lt).trans h.c1, (hb.cell (p := ⟨ad.block, (ad.add (i * 4)).off + 2, none⟩) h.lt).trans h.c2, (hb.cell (p := ⟨ad.block, (ad.add (i * 4)).off + 3, none⟩) h.lt).trans h.c3⟩
section
variable (got : List Cn) (A : Option Addr) (c : Nat) (w : World)
set_option maxRecDepth 100000 in
set_option maxHeartbeats 1000000 in
theorem may_any17 (hg : Reads w w.heap.size 4 A got.length (cnsCells got)) :
    Calls Try.prog 6 #[.slice A got.length c] w fun e w' => BoolAns (MayOk got) w w' e := by
  have HG := Lib.hid hg
  clear hg
  cases h1 : decide (400 < got.length)
  rotate_left
  · have h1' : decide ((400 : Int) < (got.length : Int)) = true := decide_eq_true (by have := of_decide_eq_true h1; omega)
    go_enter Try.func6, Try.ntmps6
    go_wp2_with fail
    go_ret
    exact ⟨⟨false, rfl, by simp⟩, Below.refl _ _⟩
  have h1' : decide ((400 : Int) < (got.length : Int)) = false := decide_eq_false (by have := of_decide_eq_false h1; omega)
  have HN := Lib.hid (show got.length ≤ 400 by have := of_decide_eq_false h1; omega)
  go_enter Try.func6, Try.ntmps6
  go_wp2_with fail
  clear h1 h1'
  go_loopw [3, 4, 5] (fun iv v4 v5 wr => ∃ i : Nat, i ≤ got.length ∧ iv = .int .i64 i ∧ Hid ((∀ (j : Nat) (h : j < got.length), j < i → CnB 1099511627776 got[j]) ∧ Below w.heap.size w wr)) (fun iv _ _ _ => got.length - (intOf iv).toNat)
  case atStart => exact ⟨0, by omega, rfl, Lib.hid ⟨fun j h h2 => by omega, Below.refl _ _⟩⟩
  case round =>
    obtain ⟨i, hi, rfl, H⟩ := hrel
    have hwi : IntKind.i64.wrap ((i : Int) + 1) = (i : Int) + 1 := IntWalk.i64_in _ ⟨by omega, by have := HN.out; omega⟩
    by_cases hil : i < got.length
    rotate_left
    · have d0 : decide ((i : Int) < (got.length : Int)) = false := decide_eq_false (by omega)
      have d0' : decide (i < got.length) = false := decide_eq_false hil
      go_wp2_with fail
      go_ret
      exact ⟨⟨true, rfl, fun _ => ⟨HN.out, fun j h => H.out.1 j h (by omega)⟩⟩, H.out.2⟩
    have d0 : decide ((i : Int) < (got.length : Int)) = true := decide_eq_true (by omega)
    have d0' : decide (i < got.length) = true := decide_eq_true hil
    have hii : (i : Int) < (got.length : Int) := by omega
    obtain ⟨ad, hA, hab, x0, x1, x2, x3⟩ := (HG.out.below H.out.2).cn rfl hil
    subst hA
    obtain ⟨x, hx⟩ : ∃ x, x = got[i] := ⟨_, rfl⟩
    rw [← hx] at x0 x1 x2 x3
    have HX := Lib.hid hx
    have HS0 : Hid (ConS ad i x wr) := Lib.hid ⟨Nat.lt_of_lt_of_le hab H.out.2.size, x0, x1, x2, x3⟩
    clear hx x0 x1 x2 x3 hab
    go_upto_region 6 with (fail)
    refine wp_region_held_drew (S := ConS ad i x) (by kernel_rfl) (HS0.out.below (Below.refl _ _).drew) (fun hS => ?_)
    refine wpAnyH_pre (j := 0) (by kernel_rfl) ?_
    iterate 20
      refine wpAnyH_nx (v := ?_) rfl (by kernel_rfl) (by kernel_rfl) (by kernel_rfl) (fun _ _ _ h => h) (Or.inl ⟨by rfl, ?_⟩) hS ?_
      rotate_left
      · rintro W' ⟨lt', c0', c1', c2', c3'⟩
        go_simp
        rfl
      try simp only [Act.put, List.setIfInBounds_toArray, List.set_cons_zero, List.set_cons_succ, List.getElem_toArray, List.getElem_cons_zero, List.getElem_cons_succ]
    refine wpAnyH_ready (rs := [20]) (by kernel_rfl) (by simp) (AllReadyH.cons rfl (fun K hK => ?_) AllReadyH.nil)
    go_simp
    refine hK.out _ _ (hS.below ((Below.refl _ _).alloc (Nat.le_refl _) _)) (fun hS => ?_)
    try simp only [Act.put, List.setIfInBounds_toArray, List.set_cons_zero, List.set_cons_succ, List.getElem_toArray, List.getElem_cons_zero, List.getElem_cons_succ]
    clear hK
    refine wpAnyH_take (i := 21) (v := ?_) rfl (by kernel_rfl) (by kernel_rfl) (by kernel_rfl) (fun _ _ _ h => h) (Or.inl ⟨by rfl, ?_⟩) hS ?_
    rotate_left
    · rintro W' ⟨lt', c0', c1', c2', c3'⟩
      go_simp
      rfl
    try simp only [Act.put, List.setIfInBounds_toArray, List.set_cons_zero, List.set_cons_succ, List.getElem_toArray, List.getElem_cons_zero, List.getElem_cons_succ]
    refine wpAnyH_done (by kernel_rfl) ?_ _
    have HQ : Hid (Blk ((wr.alloc (.cells #[.int .i64 x.least, .int .i64 x.greatest, .int .i64 x.ol, .int .i64 x.og] 2)).drew) wr.heap.size 2 (i64s (quad x)).toArray ∧ Below w.heap.size w ((wr.alloc (.cells #[.int .i64 x.least, .int .i64 x.greatest, .int .i64 x.ol, .int .i64 x.og] 2)).drew)) := Lib.hid ⟨(Blk.new wr _ _).drew, (H.out.2.alloc H.out.2.size _).drew⟩
    clear hS
    go_wp2_with fail
    obtain ⟨wq, hwq⟩ : ∃ wq, wq = ((wr.alloc (.cells #[.int .i64 x.least, .int .i64 x.greatest, .int .i64 x.ol, .int .i64 x.og] 2)).drew) := ⟨_, rfl⟩
    rw [← hwq] at HQ
    rw [← hwq]
    clear hwq
    go_loopw [5] (fun kv wx => ∃ k : Nat, k ≤ 4 ∧ kv = .int .i64 k ∧ Hid (∀ (j : Nat) (h : j < 4), j < k → 0 ≤ (quad x)[j] ∧ (quad x)[j] ≤ 1099511627776) ∧ wq = wx) (fun kv _ => 4 - (intOf kv).toNat)
    case atStart => exact ⟨0, by omega, rfl, Lib.hid (fun j h h2 => by omega), rfl⟩
    case round =>
      obtain ⟨k, hk, rfl, H2, rfl⟩ := hrel
      have hwk : IntKind.i64.wrap ((k : Int) + 1) = (k : Int) + 1 := IntWalk.i64_in _ ⟨by omega, by omega⟩
      by_cases hk4 : k < 4
      · have g0 : decide ((k : Int) < 4) = true := decide_eq_true (by omega)
        have g0' : decide (k < 4) = true := decide_eq_true hk4
        have hki : (k : Int) < 4 := by omega
        obtain ⟨v, hv⟩ : ∃ v, v = (quad x)[k]'(by exact hk4) := ⟨_, rfl⟩
        have vq : wq.cell? ⟨wr.heap.size, k, none⟩ = some (.int .i64 v) := HQ.out.1.get k (by
          rw [List.getElem?_toArray, i64s, List.getElem?_map, List.getElem?_eq_getElem (show k < (quad x).length from hk4), hv]; rfl)
        have HVV := Lib.hid hv
        clear hv
        cases c1 : decide (v < 0)
        rotate_left
        · go_wp2_with fail
          go_ret
          exact ⟨⟨false, rfl, by simp⟩, HQ.out.2⟩
        cases c2 : decide (1099511627776 < v)
        rotate_left
        · go_wp2_with fail
          go_ret
          exact ⟨⟨false, rfl, by simp⟩, HQ.out.2⟩
        have HC := Lib.hid (show 0 ≤ v ∧ v ≤ 1099511627776 by have := of_decide_eq_false c1; have := of_decide_eq_false c2; omega)
        go_wp2_with fail
        go_roundw
        case rel => exact ⟨k + 1, by omega, by go_num, Lib.hid (fun j h h2 => by
          by_cases hj : j = k
          · subst hj; rw [← HVV.out]; exact HC.out
          · exact H2.out j h (by omega)), trivial⟩
        case measure => simp [intOf]; omega
      · have g0 : decide ((k : Int) < 4) = false := decide_eq_false (by omega)
        have g0' : decide (k < 4) = false := decide_eq_false hk4
        have HXX : Hid (CnB 1099511627776 got[i]) := Lib.hid (by rw [← HX.out]; exact fun j h => H2.out j h (by omega))
        go_wp2_with fail
        go_roundw
        case rel => exact ⟨i + 1, by omega, by go_num, Lib.hid ⟨fun j h h2 => by
          by_cases hj : j = i
          · subst hj; exact HXX.out
          · exact H.out.1 j h (by omega), HQ.out.2⟩⟩
        case measure => simp [intOf]; omega
end
end Go.Proofs.Ytbopeofglhkffaa
