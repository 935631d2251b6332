/- Items of a row: fit. -/
import Derived.Test.YtbopeofglhkffaaIte
import Derived.Test.YtbopeofglhkffaaMt
import Derived.Deep.LoopGhost
import Derived.Test.YtbopeofglhkffaaWs
set_option linter.unusedSimpArgs false
set_option linter.unusedVariables false
namespace Go.Proofs.Ytbopeofglhkffaa
open Go.RowKit
attribute [local go_sem] block_of_add run_store_hi run_store_lo
theorem cmpI_z (a : Int) (h : cmpI a 0 = 0) : a = 0 := by
  unfold cmpI at h
  split at h
  · omega
  · split at h <;> omega
theorem sign_b (a : Int) (w : World) : Calls Try.prog 62 #[.agg #[hiOf a, loOf a]] w (AnsB (.int .i64 (cmpI a 0)) w) :=
  (sign_any a w).mono fun _ _ ⟨he, hw⟩ => ⟨he, hw ▸ bal (bal (bal (Below.refl _ _) _) _) _⟩
def sumK (M : Nat → It) (f : It → Int) (ks : List Nat) (i : Nat) : Int := ((ks.take i).map fun k => f (M k)).sum
theorem sumK_succ (M : Nat → It) (f : It → Int) (ks : List Nat) (i : Nat) (h : i < ks.length) : sumK M f ks (i + 1) = sumK M f ks i + f (M ks[i]) := by
  unfold sumK; rw [List.take_succ_eq_append_getElem h, List.map_append, List.sum_append]; simp
theorem sumK_bd (M : Nat → It) (f : It → Int) (ks : List Nat) (b : Int) (h : ∀ k ∈ ks, -b ≤ f (M k) ∧ f (M k) ≤ b) (hb : 0 ≤ b) (i : Nat) : -(b * (ks.length : Int)) ≤ sumK M f ks i ∧ sumK M f ks i ≤ b * ks.length := by
  have h1 := sum_abs (ks.take i) (fun k => f (M k)) b fun k hk => h k (List.mem_of_mem_take hk)
  have h2 : b * ((ks.take i).length : Int) ≤ b * ks.length := Int.mul_le_mul_of_nonneg_left (by have := List.length_take_le i ks; have := List.length_take (i := i) (l := ks); omega) hb
  unfold sumK; omega
/-- Two wide variables of fit's own, and the items. -/
structure F1I (g4 g5 n : Nat) (B : Nat → Nat) (M : Nat → It) (rm gs : Int) (w W : World) : Prop where
  rm : Blk W g4 87 #[hiOf rm, loOf rm]
  gs : Blk W g5 87 #[hiOf gs, loOf gs]
  its : Its n B M W
  k : Kp (isB n B) w W
  lt : ∀ k, k < n → B k < w.heap.size
  o4 : w.heap.size ≤ g4
  o5 : w.heap.size ≤ g5
  ne : g4 ≠ g5
section
variable {g4 g5 n kk : Nat} {B : Nat → Nat} {M : Nat → It} {y : It} {rm gs z : Int} {w W W' : World}
theorem F1I.bel (h : F1I g4 g5 n B M rm gs w W) (hb : Below W.heap.size W W') : F1I g4 g5 n B M rm gs w W' :=
  ⟨h.rm.below hb h.rm.lt, h.gs.below hb h.gs.lt, h.its.bel hb, h.k.trans (Kp.of_below hb _), h.lt, h.o4, h.o5, h.ne⟩
theorem F1I.putR (h : F1I g4 g5 n B M rm gs w W) : F1I g4 g5 n B M z gs w ((W.setCell ⟨g4, 0, none⟩ (hiOf z)).setCell ⟨g4, 1, none⟩ (loOf z)) :=
  ⟨(h.rm.set_ 0 _).set_ 1 _, (h.gs.far (Ne.symm h.ne) _).far (Ne.symm h.ne) _, ⟨fun k hk => ((h.its.b k hk).far (by have := h.lt k hk; have := h.o4; show B k ≠ g4; omega) _).far (by have := h.lt k hk; have := h.o4; show B k ≠ g4; omega) _, h.its.inj⟩,
    (h.k.setCell (p := ⟨g4, 0, none⟩) (.inr h.o4) _).setCell (p := ⟨g4, 1, none⟩) (.inr h.o4) _, h.lt, h.o4, h.o5, h.ne⟩
theorem F1I.putG (h : F1I g4 g5 n B M rm gs w W) : F1I g4 g5 n B M rm z w ((W.setCell ⟨g5, 0, none⟩ (hiOf z)).setCell ⟨g5, 1, none⟩ (loOf z)) :=
  ⟨(h.rm.far h.ne _).far h.ne _, (h.gs.set_ 0 _).set_ 1 _, ⟨fun k hk => ((h.its.b k hk).far (by have := h.lt k hk; have := h.o5; show B k ≠ g5; omega) _).far (by have := h.lt k hk; have := h.o5; show B k ≠ g5; omega) _, h.its.inj⟩,
    (h.k.setCell (p := ⟨g5, 0, none⟩) (.inr h.o5) _).setCell (p := ⟨g5, 1, none⟩) (.inr h.o5) _, h.lt, h.o4, h.o5, h.ne⟩
theorem F1I.putI (h : F1I g4 g5 n B M rm gs w W) (hk : kk < n) (i : Nat) (u v : Value) (e : ((itCells (M kk)).toArray.setIfInBounds i u).setIfInBounds (i + 1) v = (itCells y).toArray) : F1I g4 g5 n B (fun j => if j = kk then y else M j) rm gs w ((W.setCell ⟨B kk, i, none⟩ u).setCell ⟨B kk, i + 1, none⟩ v) := by
  have hl := h.lt kk hk
  have h4 := h.o4
  have h5 := h.o5
  refine ⟨(h.rm.far (by show g4 ≠ B kk; omega) _).far (by show g4 ≠ B kk; omega) _, (h.gs.far (by show g5 ≠ B kk; omega) _).far (by show g5 ≠ B kk; omega) _, h.its.upd hk ((h.its.b kk hk).it_set2 i u v e) (fun j hj hne => ?_), (h.k.setCell (p := ⟨B kk, i, none⟩) (.inl ⟨kk, hk, rfl⟩) _).setCell (p := ⟨B kk, i + 1, none⟩) (.inl ⟨kk, hk, rfl⟩) _, h.lt, h.o4, h.o5, h.ne⟩
  have hn : B j ≠ B kk := fun e => hne (h.its.inj j kk hj hk e)
  exact ((h.its.b j hj).far hn _).far hn _
theorem F1I.turn (h : F1I g4 g5 n B M rm gs w W) (hk : kk < n) (ht : Turn (B kk) y W W') : F1I g4 g5 n B (fun j => if j = kk then y else M j) rm gs w W' := by
  have hl := h.lt kk hk
  have h4 := h.o4
  have h5 := h.o5
  exact ⟨h.rm.kp ht.k (by omega), h.gs.kp ht.k (by omega), ht.its h.its hk, h.k.trans (ht.kp hk), h.lt, h.o4, h.o5, h.ne⟩
end
theorem F1I.kp {g4 g5 n : Nat} {B : Nat → Nat} {M M2 : Nat → It} {rm gs : Int} {w W W' : World} (h : F1I g4 g5 n B M rm gs w W) (hk : Kp (isB n B) W W') (hi : Its n B M2 W') : F1I g4 g5 n B M2 rm gs w W' :=
  ⟨h.rm.kp hk (fun ⟨k, hk, e⟩ => by have := h.lt k hk; have := h.o4; omega), h.gs.kp hk (fun ⟨k, hk, e⟩ => by have := h.lt k hk; have := h.o5; omega), hi, h.k.trans hk, h.lt, h.o4, h.o5, h.ne⟩
/-- With the rest, and those that are not held. -/
structure F4I (g4 g5 g11 n : Nat) (B : Nat → Nat) (M : Nat → It) (rm gs rs : Int) (oth : List Nat) (v : Value) (w W : World) : Prop where
  f : F1I g4 g5 n B M rm gs w W
  rs : Blk W g11 87 #[hiOf rs, loOf rs]
  own : W.ownsRow w.heap.size 82 1 v oth.length (ptrC B oth)
  o : w.heap.size ≤ g11
  n4 : g11 ≠ g4
  n5 : g11 ≠ g5
section
variable {g4 g5 g11 n kk : Nat} {B : Nat → Nat} {M : Nat → It} {rm gs rs z : Int} {oth : List Nat} {v v' : Value} {w W W' : World}
theorem F4I.bel (h : F4I g4 g5 g11 n B M rm gs rs oth v w W) (hb : Below W.heap.size W W') : F4I g4 g5 g11 n B M rm gs rs oth v w W' :=
  ⟨h.f.bel hb, h.rs.below hb h.rs.lt, own_below h.own hb, h.o, h.n4, h.n5⟩
theorem F4I.put (h : F4I g4 g5 g11 n B M rm gs rs oth v w W) : F4I g4 g5 g11 n B M rm gs z oth v w ((W.setCell ⟨g11, 0, none⟩ (hiOf z)).setCell ⟨g11, 1, none⟩ (loOf z)) := by
  have hb : v.ownBlock ≠ some g11 := own_blk_ne h.own h.rs (by decide)
  exact ⟨⟨(h.f.rm.far (Ne.symm h.n4) _).far (Ne.symm h.n4) _, (h.f.gs.far (Ne.symm h.n5) _).far (Ne.symm h.n5) _, ⟨fun k hk => ((h.f.its.b k hk).far (by have := h.f.lt k hk; have := h.o; show B k ≠ g11; omega) _).far (by have := h.f.lt k hk; have := h.o; show B k ≠ g11; omega) _, h.f.its.inj⟩,
    (h.f.k.setCell (p := ⟨g11, 0, none⟩) (.inr h.o) _).setCell (p := ⟨g11, 1, none⟩) (.inr h.o) _, h.f.lt, h.f.o4, h.f.o5, h.f.ne⟩, (h.rs.set_ 0 _).set_ 1 _, ownsRow_setCell_other (ownsRow_setCell_other h.own (a := ⟨g11, 0, none⟩) hb _) (a := ⟨g11, 1, none⟩) hb _, h.o, h.n4, h.n5⟩
theorem F4I.add (h : F4I g4 g5 g11 n B M rm gs rs oth v w W) (ho : W'.ownsRow w.heap.size 82 1 v' (oth.length + 1) (ptrC B oth ++ [.pointer (some ⟨B kk, 0, none⟩)])) (hg : W.grownBy W' v.ownBlock) : F4I g4 g5 g11 n B M rm gs rs (oth ++ [kk]) v' w W' := by
  have ne : ∀ {g : Nat} {cs : Array Value}, Blk W g 87 cs → some g ≠ v.ownBlock := fun hb e => own_blk_ne h.own hb (by decide) e.symm
  refine ⟨⟨h.f.rm.grown hg (ne h.f.rm), h.f.gs.grown hg (ne h.f.gs), ⟨fun k hk => (h.f.its.b k hk).grown hg (fun e => by have := (h.own.lt (B k) e.symm).1; have := h.f.lt k hk; omega), h.f.its.inj⟩, h.f.k.grown hg (fun g e => .inr (h.own.lt g e).1), h.f.lt, h.f.o4, h.f.o5, h.f.ne⟩, h.rs.grown hg (ne h.rs), ?_, h.o, h.n4, h.n5⟩
  have e1 : ptrC B (oth ++ [kk]) = ptrC B oth ++ [.pointer (some ⟨B kk, 0, none⟩)] := by simp [ptrC]
  rw [e1, List.length_append]; exact ho
end
theorem othM_take (M : Nat → It) (ks : List Nat) (i : Nat) (h : i < ks.length) : othM M (ks.take (i + 1)) = if (M ks[i]).held then othM M (ks.take i) else othM M (ks.take i) ++ [ks[i]] := by
  unfold othM
  rw [List.take_succ_eq_append_getElem h, List.filter_append]
  cases hh : (M ks[i]).held
  · simp [List.filter_cons, hh]
  · simp [List.filter_cons, hh]
theorem restM_take (room : Int) (M : Nat → It) (ks : List Nat) (i : Nat) (h : i < ks.length) : restM room M (ks.take (i + 1)) = restM room M (ks.take i) - (if (M ks[i]).held then (M ks[i]).width else (M ks[i]).base) := by
  unfold restM sumM
  rw [List.take_succ_eq_append_getElem h, List.map_append, List.sum_append]; simp; omega
theorem restK_bd {grows : Bool} {room : Int} {M M' : Nat → It} {ks : List Nat} (h : ∀ k ∈ ks, FitB (M k)) (hr : RdB grows M M' ks) (i : Nat) : room - 9223372036854775807 * ks.length ≤ restM room M' (ks.take i) ∧ restM room M' (ks.take i) ≤ room + 9223372036854775807 * ks.length := by
  have h1 := sum_abs (ks.take i) (fun k => if (M' k).held then (M' k).width else (M' k).base) 9223372036854775807 fun k hk => by
    have hk' := List.mem_of_mem_take hk
    have hb := (h k hk').base
    have hs := (hr.same k hk').base
    cases hh : (M' k).held
    · simp only [Bool.false_eq_true, if_false]; omega
    · simp only [if_true]
      rcases hr.wd with hw | hw
      · have := hw k hk' hh; omega
      · have := (hw k hk').2; omega
  have h2 : ((ks.take i).length : Int) ≤ ks.length := by have := List.length_take (i := i) (l := ks); omega
  unfold restM sumM
  have e : ((ks.take i).map fun k => (fun x : It => if x.held = true then x.width else x.base) (M' k)).sum = ((ks.take i).map fun k => if (M' k).held = true then (M' k).width else (M' k).base).sum := rfl
  rw [e]; omega
set_option maxRecDepth 100000 in
set_option maxHeartbeats 4000000 in
theorem fit_any (n : Nat) (B : Nat → Nat) (M : Nat → It) (ks : List Nat) (c : Int) (A : Option Addr) (ca : Nat) (w : World) (hm : ks.length ≤ 1000) (hd : ks.Nodup) (ho : ∀ k ∈ ks, k < n) (hp : PtrAt w n B A ks) (hi : Its n B M w) (hb : ∀ k ∈ ks, FitB (M k)) (hc : CB c) :
    Calls Try.prog 39 #[.slice A ks.length ca, .int .i64 c] w fun e w' => e = .returned (.tuple #[]) ∧ Its n B (fitM c M ks) w' ∧ Kp (isB n B) w w' := by
  have HP := Lib.hid hp
  have HI := Lib.hid hi
  have HFB := Lib.hid hb
  have HO := Lib.hid ho
  have HD := Lib.hid hd
  have hcb := hc.b
  have HSB := Lib.hid (sumK_bd M It.sides ks 30000000000000 (fun k hk => (hb k hk).sides) (by decide))
  have HGB := Lib.hid (sumK_bd M It.guess ks 10995116277760 (fun k hk => ⟨by have := (hb k hk).guess; omega, (hb k hk).guess.2⟩) (by decide))
  have HRM := Lib.hid (room_bd hb hc)
  clear hp hi hb ho hd hc
  obtain ⟨m, hme⟩ : ∃ m, m = ks.length := ⟨_, rfl⟩
  rw [← hme] at hm HSB HGB HRM ⊢
  have HM := Lib.hid hme
  clear hme
  go_enter Try.func39, Try.ntmps39
  go_step3
  go_wp2_with (go_at_call 58; refine (of_b _ c (by omega) (by omega)).mono ?_; rintro e w1 ⟨rfl, hb1⟩; have HB1 := Lib.hid hb1; clear hb1)
  obtain ⟨g4, hg4⟩ : ∃ g4, g4 = w1.heap.size := ⟨_, rfl⟩
  obtain ⟨g5, hg5⟩ : ∃ g5, g5 = g4 + 1 := ⟨_, rfl⟩
  have HF0 : Hid (F1I g4 g5 n B M c 0 w ((w1.alloc (.cells #[hiOf c, loOf c] 87)).alloc (.cells #[.int .i64 0, .int .u64 0] 87))) := Lib.hid
    ⟨(Blk.at_ _ _ _ hg4).alloc _, Blk.at_ _ _ _ (by rw [hg5, hg4]; simp), (HI.out.bel HB1.out).bel (bal (bal (Below.refl _ _) _) _), ((Kp.of_below HB1.out _).alloc _).alloc _, fun k hk => (HI.out.b k hk).lt, by rw [hg4]; exact HB1.out.size, by have := HB1.out.size; omega, by omega⟩
  obtain ⟨w2, hw2⟩ : ∃ w2, w2 = ((w1.alloc (.cells #[hiOf c, loOf c] 87)).alloc (.cells #[.int .i64 0, .int .u64 0] 87)) := ⟨_, rfl⟩
  rw [← hw2] at HF0 ⊢
  rw [← hg4]
  rw [← hg5]
  clear hg4 hg5 hw2 HB1
  go_loopw [19] (fun kv wr => ∃ i : Nat, i ≤ m ∧ kv = .int .i64 i ∧ Hid (F1I g4 g5 n B M (c - sumK M It.sides ks i) (sumK M It.guess ks i) w wr)) (fun kv _ => m - (intOf kv).toNat)
  case atStart => exact ⟨0, by omega, rfl, Lib.hid (by rw [show sumK M It.sides ks 0 = 0 by simp [sumK], show sumK M It.guess ks 0 = 0 by simp [sumK], Int.sub_zero]; exact HF0.out)⟩
  case round =>
    obtain ⟨i, hi, rfl, HH⟩ := hrel
    have hsb := HSB.out i
    have hgb := HGB.out i
    by_cases hlt : i < m
    · have g0 : decide ((i : Int) < (m : Int)) = true := decide_eq_true (by omega)
      have g0' : decide (i < m) = true := decide_eq_true hlt
      have hki : (i : Int) < (m : Int) := by omega
      have hk0 : (0 : Int) ≤ (i : Int) := by omega
      have wk : IntKind.i64.wrap ((i : Int) + 1) = (i : Int) + 1 := IntWalk.i64_in _ ⟨by omega, by omega⟩
      have hil : i < ks.length := by rw [← HM.out]; exact hlt
      obtain ⟨ad, rfl, hc⟩ := (HP.out.kp HH.out.k).at_ hil
      obtain ⟨kk, hkk⟩ : ∃ kk, kk = ks[i] := ⟨_, rfl⟩
      rw [← hkk] at hc
      have hmem : kk ∈ ks := by rw [hkk]; exact List.getElem_mem hil
      have hkn := HO.out kk hmem
      have hsi := (HFB.out kk hmem).sides
      have hgu := (HFB.out kk hmem).guess
      have HS1 : Hid (sumK M It.sides ks (i + 1) = sumK M It.sides ks i + (M kk).sides ∧ sumK M It.guess ks (i + 1) = sumK M It.guess ks i + (M kk).guess) := Lib.hid ⟨by rw [sumK_succ M It.sides ks i hil, ← hkk], by rw [sumK_succ M It.guess ks i hil, ← hkk]⟩
      clear hkk
      obtain ⟨si, hsie⟩ : ∃ si, si = (M kk).sides := ⟨_, rfl⟩
      obtain ⟨gu, hgue⟩ : ∃ gu, gu = (M kk).guess := ⟨_, rfl⟩
      obtain ⟨rm, hrm⟩ : ∃ rm, rm = c - sumK M It.sides ks i := ⟨_, rfl⟩
      obtain ⟨gs, hgs⟩ : ∃ gs, gs = sumK M It.guess ks i := ⟨_, rfl⟩
      rw [← hsie] at hsi HS1
      rw [← hgue] at hgu HS1
      rw [← hrm, ← hgs] at HH
      have hrb : -40000000000000000 ≤ rm ∧ rm ≤ 40000000000000000 ∧ -40000000000000000 ≤ gs ∧ gs ≤ 40000000000000000 := by rw [hrm, hgs]; omega
      have HRE : Hid (rm - si = c - sumK M It.sides ks (i + 1) ∧ gs + gu = sumK M It.guess ks (i + 1)) := Lib.hid ⟨by rw [HS1.out.1, hrm]; omega, by rw [HS1.out.2, hgs]⟩
      have HSI := Lib.hid (And.intro hsie hgue)
      clear hsie hgue hrm hgs hsb hgb HS1
      have wv : W128 (rm - si) := ⟨by omega, by omega⟩
      have wv2 : W128 (gs + gu) := ⟨by omega, by omega⟩
      go_upto_region 5 with (fail)
      clear hc
      have E0 : F1I g4 g5 n B M rm gs w wr.drew := HH.out.bel (Below.refl _ _).drew
      refine wp_region_S (fun b _ _ W => F1I g4 g5 n B M (if b then rm - si else rm) gs w W) 6 1000 100000 false true (by kernel_rfl) (by kernel_rfl) (by kernel_rfl) (E0) ?_
      refine wpAnyS_pre (j := 0) (by kernel_rfl) ?_
      iterate 5
        refine wpAnyS_nx (v := ?_) rfl (by kernel_rfl) (by kernel_rfl) (by kernel_rfl) (fun _ _ _ h => h) (by rfl) (gives_pureF (by rfl) (by kernel_rfl) ?_) ?_
        rotate_left
        · intro d' u' W' hS'
          have h1 : W'.cell? ⟨g4, 0, none⟩ = some (hiOf rm) := hS'.rm.get 0 rfl
          have h2 : W'.cell? ⟨g4, 1, none⟩ = some (loOf rm) := hS'.rm.get 1 rfl
          have h3 := (hS'.its.b kk hkn).get 46 (it_sidesh _)
          have h4 := (hS'.its.b kk hkn).get 47 (it_sidesl _)
          rw [← HSI.out.1] at h3 h4
          go_simp
          rfl
        try simp only [Act.put, List.setIfInBounds_toArray, List.set_cons_zero, List.set_cons_succ, List.getElem_toArray, List.getElem_cons_zero, List.getElem_cons_succ]
      refine wpAnyS_take (i := 5) (v := _) rfl (by kernel_rfl) (by kernel_rfl) (by kernel_rfl) (fun _ _ _ h => h) (by rfl) (gives_callF (by rfl) (by kernel_rfl) _ _ ?_ (fun d' u' W' hS' => (minus_b W' rm si wv).mono fun e W2 ⟨he, hb⟩ => ⟨he, hS'.bel hb⟩)) ?_
      · intro W'
        first | rfl | kernel_rfl
      try simp only [Act.put, List.setIfInBounds_toArray, List.set_cons_zero, List.set_cons_succ, List.getElem_toArray, List.getElem_cons_zero, List.getElem_cons_succ]
      refine wpAnyS_store (i := 6) (d := true) (fun W' => (W'.setCell ⟨g4, 0, none⟩ (hiOf (rm - si))).setCell ⟨g4, 1, none⟩ (loOf (rm - si))) rfl (by kernel_rfl) (by rfl) (by rfl) (by kernel_rfl) rfl ?_ (fun W' hS' => hS'.putR) ?_
      · intro W' hS'
        have h1 : W'.cell? ⟨g4, 0, none⟩ = some (hiOf rm) := hS'.rm.get 0 rfl
        have h2 : W'.cell? ⟨g4, 1, none⟩ = some (loOf rm) := hS'.rm.get 1 rfl
        have q3 := hS'.rm.frozen 0
        have q4 := hS'.rm.frozen 1
        go_simp
        try rfl
      try simp only [Act.put, List.setIfInBounds_toArray, List.set_cons_zero, List.set_cons_succ, List.getElem_toArray, List.getElem_cons_zero, List.getElem_cons_succ]
      refine wpAnyS_done (b := true) (d := true) (by kernel_rfl) (by kernel_rfl) (by kernel_rfl) rfl (fun wS hS => ?_) _
      have H5 := Lib.hid (show F1I g4 g5 n B M (rm - si) gs w wS from hS)
      clear hS E0
      go_upto_region 6 with (fail)
      have E0 : F1I g4 g5 n B M (rm - si) gs w wS.drew := H5.out.bel (Below.refl _ _).drew
      refine wp_region_S (fun b _ _ W => F1I g4 g5 n B M (rm - si) (if b then gs + gu else gs) w W) 7 1000 100000 false true (by kernel_rfl) (by kernel_rfl) (by kernel_rfl) (E0) ?_
      refine wpAnyS_pre (j := 0) (by kernel_rfl) ?_
      iterate 5
        refine wpAnyS_nx (v := ?_) rfl (by kernel_rfl) (by kernel_rfl) (by kernel_rfl) (fun _ _ _ h => h) (by rfl) (gives_pureF (by rfl) (by kernel_rfl) ?_) ?_
        rotate_left
        · intro d' u' W' hS'
          have h1 : W'.cell? ⟨g5, 0, none⟩ = some (hiOf gs) := hS'.gs.get 0 rfl
          have h2 : W'.cell? ⟨g5, 1, none⟩ = some (loOf gs) := hS'.gs.get 1 rfl
          have h3 := (hS'.its.b kk hkn).get 49 (it_guess _)
          rw [← HSI.out.2] at h3
          go_simp
          rfl
        try simp only [Act.put, List.setIfInBounds_toArray, List.set_cons_zero, List.set_cons_succ, List.getElem_toArray, List.getElem_cons_zero, List.getElem_cons_succ]
      refine wpAnyS_take (i := 5) (v := _) rfl (by kernel_rfl) (by kernel_rfl) (by kernel_rfl) (fun _ _ _ h => h) (by rfl) (gives_callF (by rfl) (by kernel_rfl) _ _ ?_ (fun d' u' W' hS' => (of_b W' gu (by omega) (by omega)).mono fun e W2 ⟨he, hb⟩ => ⟨he, hS'.bel hb⟩)) ?_
      · intro W'
        first | rfl | kernel_rfl
      try simp only [Act.put, List.setIfInBounds_toArray, List.set_cons_zero, List.set_cons_succ, List.getElem_toArray, List.getElem_cons_zero, List.getElem_cons_succ]
      refine wpAnyS_take (i := 6) (v := _) rfl (by kernel_rfl) (by kernel_rfl) (by kernel_rfl) (fun _ _ _ h => h) (by rfl) (gives_callF (by rfl) (by kernel_rfl) _ _ ?_ (fun d' u' W' hS' => (plus_b W' gs gu wv2).mono fun e W2 ⟨he, hb⟩ => ⟨he, hS'.bel hb⟩)) ?_
      · intro W'
        first | rfl | kernel_rfl
      try simp only [Act.put, List.setIfInBounds_toArray, List.set_cons_zero, List.set_cons_succ, List.getElem_toArray, List.getElem_cons_zero, List.getElem_cons_succ]
      refine wpAnyS_store (i := 7) (d := true) (fun W' => (W'.setCell ⟨g5, 0, none⟩ (hiOf (gs + gu))).setCell ⟨g5, 1, none⟩ (loOf (gs + gu))) rfl (by kernel_rfl) (by rfl) (by rfl) (by kernel_rfl) rfl ?_ (fun W' hS' => hS'.putG) ?_
      · intro W' hS'
        have h1 : W'.cell? ⟨g5, 0, none⟩ = some (hiOf gs) := hS'.gs.get 0 rfl
        have h2 : W'.cell? ⟨g5, 1, none⟩ = some (loOf gs) := hS'.gs.get 1 rfl
        have q3 := hS'.gs.frozen 0
        have q4 := hS'.gs.frozen 1
        go_simp
        try rfl
      try simp only [Act.put, List.setIfInBounds_toArray, List.set_cons_zero, List.set_cons_succ, List.getElem_toArray, List.getElem_cons_zero, List.getElem_cons_succ]
      refine wpAnyS_done (b := true) (d := true) (by kernel_rfl) (by kernel_rfl) (by kernel_rfl) rfl (fun wT hT => ?_) _
      have H6 := Lib.hid (show F1I g4 g5 n B M (rm - si) (gs + gu) w wT from hT)
      rw [HRE.out.1, HRE.out.2] at H6
      clear hT E0 wv wv2
      go_wp2_with fail
      go_roundw
      case rel => exact ⟨i + 1, by omega, by go_num, H6⟩
      case measure => simp [intOf] <;> omega
    · have g0 : decide ((i : Int) < (m : Int)) = false := decide_eq_false (by omega)
      have g0' : decide (i < m) = false := decide_eq_false hlt
      have hkn : i = m := by omega
      rw [hkn] at HH hsb hgb
      clear hkn hlt
      have HRO : Hid (c - sumK M It.sides ks m = roomM c M ks) := Lib.hid (by unfold sumK roomM sumM; rw [HM.out, List.take_length])
      obtain ⟨rm, hrm⟩ : ∃ rm, rm = roomM c M ks := ⟨_, rfl⟩
      obtain ⟨gs, hgs⟩ : ∃ gs, gs = sumK M It.guess ks m := ⟨_, rfl⟩
      obtain ⟨gr, hgr⟩ : ∃ gr, gr = growsM c M ks := ⟨_, rfl⟩
      have e8 : decide (cmpI gs rm < 0) = gr := by
        rw [hgr]
        unfold growsM
        rw [← hrm, hgs]
        have : sumK M It.guess ks m = sumM M It.guess ks := by unfold sumK sumM; rw [HM.out, List.take_length]
        rw [this]
        unfold cmpI
        by_cases h : sumM M It.guess ks < rm
        · rw [if_pos h]; simp [h]
        · rw [if_neg h]; split <;> simp [h]
      rw [HRO.out, ← hrm, ← hgs] at HH
      have HRM2 : Hid (rm = roomM c M ks) := Lib.hid hrm
      have HGR : Hid (gr = growsM c M ks) := Lib.hid hgr
      have hrb : -40000000000000000 ≤ rm ∧ rm ≤ 40000000000000000 := by rw [hrm]; have := HRM.out; omega
      clear hrm hgs hgr hsb hgb
      have q1 := HH.out.gs.get 0 (v := hiOf gs) rfl
      have q2 := HH.out.gs.get 1 (v := loOf gs) rfl
      have q3 := HH.out.rm.get 0 (v := hiOf rm) rfl
      have q4 := HH.out.rm.get 1 (v := loOf rm) rfl
      go_upto_region 9 with (go_at_call 59; refine (against_b _ gs rm).mono ?_; rintro e w3 ⟨rfl, hb3⟩; have H8 := Lib.hid (HH.out.bel hb3); clear hb3 q1 q2 q3 q4)
      clear e8
      go_wp2_with fail
      go_loopw [43] (fun kv wx => ∃ i : Nat, i ≤ m ∧ kv = .int .i64 i ∧ Hid (F1I g4 g5 n B (onK (fun _ => startI gr) M ks i) rm gs w wx)) (fun kv _ => m - (intOf kv).toNat)
      case atStart => exact ⟨0, by omega, rfl, Lib.hid (by rw [onK_zero]; exact H8.out)⟩
      case round =>
        obtain ⟨i, hi, rfl, HX⟩ := hrel
        by_cases hlt : i < m
        · have g0 : decide ((i : Int) < (m : Int)) = true := decide_eq_true (by omega)
          have g0' : decide (i < m) = true := decide_eq_true hlt
          have hki : (i : Int) < (m : Int) := by omega
          have hk0 : (0 : Int) ≤ (i : Int) := by omega
          have wk : IntKind.i64.wrap ((i : Int) + 1) = (i : Int) + 1 := IntWalk.i64_in _ ⟨by omega, by omega⟩
          have hil : i < ks.length := by rw [← HM.out]; exact hlt
          obtain ⟨ad, rfl, hc⟩ := (HP.out.kp HX.out.k).at_ hil
          obtain ⟨kk, hkk⟩ : ∃ kk, kk = ks[i] := ⟨_, rfl⟩
          rw [← hkk] at hc
          have hmem : kk ∈ ks := by rw [hkk]; exact List.getElem_mem hil
          have hkn := HO.out kk hmem
          have hfb := HFB.out kk hmem
          have hgu := hfb.guess
          have hba := hfb.base
          have hgw := hfb.grow
          have hsh := hfb.shrink
          have HFA := Lib.hid (facI_bd (grows := gr) hfb)
          have HMK : Hid (onK (fun _ => startI gr) M ks i kk = M kk) := Lib.hid (by rw [hkk]; exact onK_at _ M HD.out hil)
          have HSC : Hid (onK (fun _ => startI gr) M ks (i + 1) = fun k => if k = kk then startI gr (M k) else onK (fun _ => startI gr) M ks i k) := Lib.hid (by rw [onK_succ _ M ks i hil, hkk])
          clear hkk hfb
          obtain ⟨x, hx⟩ : ∃ x, x = M kk := ⟨_, rfl⟩
          rw [← hx] at hgu hba hgw hsh HFA HMK
          have HXX := Lib.hid hx
          clear hx
          obtain ⟨gu, hgue⟩ : ∃ gu, gu = x.guess := ⟨_, rfl⟩
          obtain ⟨bs, hbse⟩ : ∃ bs, bs = x.base := ⟨_, rfl⟩
          obtain ⟨gw, hgwe⟩ : ∃ gw, gw = x.s.grow := ⟨_, rfl⟩
          obtain ⟨sh, hshe⟩ : ∃ sh, sh = x.s.shrink := ⟨_, rfl⟩
          obtain ⟨fa, hfae⟩ : ∃ fa, fa = facI gr x := ⟨_, rfl⟩
          rw [← hgue] at hgu
          rw [← hbse] at hba
          rw [← hgwe] at hgw
          rw [← hshe] at hsh
          rw [← hfae] at HFA
          have HGU := Lib.hid hgue
          have HBS := Lib.hid hbse
          have HGW := Lib.hid hgwe
          have HSH := Lib.hid hshe
          have HFE := Lib.hid hfae
          clear hgue hbse hgwe hshe hfae
          obtain ⟨Mi, hMi⟩ : ∃ Mi, Mi = onK (fun _ => startI gr) M ks i := ⟨_, rfl⟩
          rw [← hMi] at HX HMK HSC
          clear hMi
          have HXI : Hid (Blk wr (B kk) 89 (itCells x).toArray) := Lib.hid (by have := HX.out.its.b kk hkn; rw [HMK.out] at this; exact this)
          cases gr
          · have hfe : fa = sh * bs := by rw [HFE.out, HSH.out, HBS.out]; rfl
            have HEQ := Lib.hid hfe
            have HTM := Lib.hid (fun W => times_b W sh bs ⟨by omega, by omega⟩ ⟨by omega, by omega⟩)
            rw [← hfe] at HTM
            clear hfe
            go_upto_region 14 with (fail)
            clear hc
            have E0 : F1I g4 g5 n B Mi rm gs w wr.drew := HX.out.bel (Below.refl _ _).drew
            refine wp_region_S (fun b _ _ W => F1I g4 g5 n B (if b then (fun j => if j = kk then { x with factor := fa } else Mi j) else Mi) rm gs w W) 13 1000 100000 false true (by kernel_rfl) (by kernel_rfl) (by kernel_rfl) (E0) ?_
            refine wpAnyS_pre (j := 0) (by kernel_rfl) ?_
            iterate 10
              refine wpAnyS_nx (v := ?_) rfl (by kernel_rfl) (by kernel_rfl) (by kernel_rfl) (fun _ _ _ h => h) (by rfl) (gives_pureF (by rfl) (by kernel_rfl) ?_) ?_
              rotate_left
              · intro d' u' W' hS'
                have hI : Blk W' (B kk) 89 (itCells x).toArray := HMK.out ▸ hS'.its.b kk hkn
                have h1 : W'.cell? ⟨B kk, 39, none⟩ = some (.int .i64 sh) := by rw [HSH.out]; exact hI.get 39 (it_shrink x)
                have h2 : W'.cell? ⟨B kk, 48, none⟩ = some (.int .i64 bs) := by rw [HBS.out]; exact hI.get 48 (it_base x)
                clear hI
                go_simp
                rfl
              try simp only [Act.put, List.setIfInBounds_toArray, List.set_cons_zero, List.set_cons_succ, List.getElem_toArray, List.getElem_cons_zero, List.getElem_cons_succ]
            refine wpAnyS_take (i := 10) (v := _) rfl (by kernel_rfl) (by kernel_rfl) (by kernel_rfl) (fun _ _ _ h => h) (by rfl) (gives_callF (by rfl) (by kernel_rfl) _ _ ?_ (fun d' u' W' hS' => (HTM.out W').mono fun e W2 ⟨he, hb⟩ => ⟨he, hS'.bel hb⟩)) ?_
            · intro W'
              first | rfl | kernel_rfl
            try simp only [Act.put, List.setIfInBounds_toArray, List.set_cons_zero, List.set_cons_succ, List.getElem_toArray, List.getElem_cons_zero, List.getElem_cons_succ]
            refine wpAnyS_pre (j := 11) (by kernel_rfl) ?_
            iterate 2
              refine wpAnyS_nx (v := ?_) rfl (by kernel_rfl) (by kernel_rfl) (by kernel_rfl) (fun _ _ _ h => h) (by rfl) (gives_pureF (by rfl) (by kernel_rfl) ?_) ?_
              rotate_left
              · intro d' u' W' hS'
                have hI : Blk W' (B kk) 89 (itCells x).toArray := HMK.out ▸ hS'.its.b kk hkn
                have h1 : W'.cell? ⟨B kk, 39, none⟩ = some (.int .i64 sh) := by rw [HSH.out]; exact hI.get 39 (it_shrink x)
                have h2 : W'.cell? ⟨B kk, 48, none⟩ = some (.int .i64 bs) := by rw [HBS.out]; exact hI.get 48 (it_base x)
                clear hI
                go_simp
                rfl
              try simp only [Act.put, List.setIfInBounds_toArray, List.set_cons_zero, List.set_cons_succ, List.getElem_toArray, List.getElem_cons_zero, List.getElem_cons_succ]
            refine wpAnyS_store (i := 13) (d := true) (fun W' => (W'.setCell ⟨B kk, 50, none⟩ (hiOf fa)).setCell ⟨B kk, 51, none⟩ (loOf fa)) rfl (by kernel_rfl) (by rfl) (by rfl) (by kernel_rfl) rfl ?_ (fun W' hS' => hS'.putI hkn 50 (hiOf fa) (loOf fa) (by show _ = (itCells { x with factor := fa }).toArray; simp only [Bool.false_eq_true, if_false]; rw [HMK.out]; rfl)) ?_
            · intro W' hS'
              have hI : Blk W' (B kk) 89 (itCells x).toArray := HMK.out ▸ hS'.its.b kk hkn
              have h1 := hI.get 50 (it_factorh x)
              have h2 := hI.get 51 (it_factorl x)
              have q3 := hI.frozen 50
              have q4 := hI.frozen 51
              clear hI
              go_simp
              try rfl
            try simp only [Act.put, List.setIfInBounds_toArray, List.set_cons_zero, List.set_cons_succ, List.getElem_toArray, List.getElem_cons_zero, List.getElem_cons_succ]
            refine wpAnyS_done (b := true) (d := true) (by kernel_rfl) (by kernel_rfl) (by kernel_rfl) rfl (fun w5 h5 => ?_) _
            have H5 := Lib.hid (show F1I g4 g5 n B (fun j => if j = kk then { x with factor := fa } else Mi j) rm gs w w5 from h5)
            clear h5 E0
            go_upto_region 15 with (fail)
            obtain ⟨M5, hM5⟩ : ∃ M5, M5 = (fun j => if j = kk then { x with factor := fa } else Mi j) := ⟨_, rfl⟩
            rw [← hM5] at H5
            have HM5 : Hid (M5 kk = { x with factor := fa }) := Lib.hid (by rw [hM5]; simp)
            have HM5o : Hid (∀ k, k ≠ kk → M5 k = Mi k) := Lib.hid (fun k hk => by rw [hM5]; simp [hk])
            clear hM5
            have E0 : F1I g4 g5 n B M5 rm gs w w5.drew := H5.out.bel (Below.refl _ _).drew
            by_cases f0 : fa = 0
            · have e0 : (cmpI fa 0 == 0) = true := beq_iff_eq.2 (by rw [f0]; rfl)
              have HSTP : Hid (stopI false x = true) := Lib.hid (by unfold stopI; rw [← HFE.out, decide_eq_true f0]; rfl)
              clear f0
              have HF5 : Hid (∀ W', F1I g4 g5 n B M5 rm gs w W' → W'.cell? ⟨B kk, 50, none⟩ = some (hiOf fa) ∧ W'.cell? ⟨B kk, 51, none⟩ = some (loOf fa) ∧ W'.cell? ⟨B kk, 49, none⟩ = some (.int .i64 gu) ∧ W'.cell? ⟨B kk, 48, none⟩ = some (.int .i64 bs)) := Lib.hid (fun W' hS' => by
                have h := (HM5.out ▸ hS'.its.b kk hkn : Blk W' (B kk) _ (itCells { x with factor := fa }).toArray)
                exact ⟨h.get 50 (it_factorh _), h.get 51 (it_factorl _), by rw [HGU.out]; exact h.get 49 (it_guess _), by rw [HBS.out]; exact h.get 48 (it_base _)⟩)
              refine wp_region_S (fun _ _ _ W => F1I g4 g5 n B M5 rm gs w W) 1000 1000 100000 true true (by kernel_rfl) (by kernel_rfl) (by kernel_rfl) (E0) ?_
              refine wpAnyS_pre (j := 0) (by kernel_rfl) ?_
              iterate 4
                refine wpAnyS_nx (v := ?_) rfl (by kernel_rfl) (by kernel_rfl) (by kernel_rfl) (fun _ _ _ h => h) (by rfl) (gives_pure (by rfl) ?_) ?_
                rotate_left
                · intro b' d' u' W' hS'
                  obtain ⟨h1, h2, h3, h4⟩ := HF5.out W' hS'
                  go_simp
                  rfl
                try simp only [Act.put, List.setIfInBounds_toArray, List.set_cons_zero, List.set_cons_succ, List.getElem_toArray, List.getElem_cons_zero, List.getElem_cons_succ]
              refine wpAnyS_take (i := 4) (v := _) rfl (by kernel_rfl) (by kernel_rfl) (by kernel_rfl) (fun _ _ _ h => h) (by rfl) (gives_call (by rfl) _ _ ?_ (fun b' d' u' W' hS' => (sign_b fa W').mono fun e W2 ⟨he, hb⟩ => ⟨he, hS'.bel hb⟩)) ?_
              · intro W'
                first | rfl | kernel_rfl
              try simp only [Act.put, List.setIfInBounds_toArray, List.set_cons_zero, List.set_cons_succ, List.getElem_toArray, List.getElem_cons_zero, List.getElem_cons_succ]
              refine wpAnyS_pre (j := 5) (by kernel_rfl) ?_
              iterate 2
                refine wpAnyS_nx (v := ?_) rfl (by kernel_rfl) (by kernel_rfl) (by kernel_rfl) (fun _ _ _ h => h) (by rfl) (gives_pure (by rfl) ?_) ?_
                rotate_left
                · intro b' d' u' W' hS'
                  obtain ⟨h1, h2, h3, h4⟩ := HF5.out W' hS'
                  go_simp
                  rfl
                try simp only [Act.put, List.setIfInBounds_toArray, List.set_cons_zero, List.set_cons_succ, List.getElem_toArray, List.getElem_cons_zero, List.getElem_cons_succ]
              refine wpAnyS_take (i := 7) (v := undef) rfl (by kernel_rfl) (by kernel_rfl) (by kernel_rfl) (fun _ _ _ h => h) (by rfl) (gives_unwanted (by rfl)) ?_
              try simp only [Act.put, List.setIfInBounds_toArray, List.set_cons_zero, List.set_cons_succ, List.getElem_toArray, List.getElem_cons_zero, List.getElem_cons_succ]
              refine wpAnyS_take (i := 8) (v := undef) rfl (by kernel_rfl) (by kernel_rfl) (by kernel_rfl) (fun _ _ _ h => h) (by rfl) (gives_unwanted (by rfl)) ?_
              try simp only [Act.put, List.setIfInBounds_toArray, List.set_cons_zero, List.set_cons_succ, List.getElem_toArray, List.getElem_cons_zero, List.getElem_cons_succ]
              refine wpAnyS_take (i := 9) (v := undef) rfl (by kernel_rfl) (by kernel_rfl) (by kernel_rfl) (fun _ _ _ h => h) (by rfl) (gives_unwanted (by rfl)) ?_
              try simp only [Act.put, List.setIfInBounds_toArray, List.set_cons_zero, List.set_cons_succ, List.getElem_toArray, List.getElem_cons_zero, List.getElem_cons_succ]
              refine wpAnyS_take (i := 10) (v := undef) rfl (by kernel_rfl) (by kernel_rfl) (by kernel_rfl) (fun _ _ _ h => h) (by rfl) (gives_unwanted (by rfl)) ?_
              try simp only [Act.put, List.setIfInBounds_toArray, List.set_cons_zero, List.set_cons_succ, List.getElem_toArray, List.getElem_cons_zero, List.getElem_cons_succ]
              refine wpAnyS_take (i := 11) (v := undef) rfl (by kernel_rfl) (by kernel_rfl) (by kernel_rfl) (fun _ _ _ h => h) (by rfl) (gives_unwanted (by rfl)) ?_
              try simp only [Act.put, List.setIfInBounds_toArray, List.set_cons_zero, List.set_cons_succ, List.getElem_toArray, List.getElem_cons_zero, List.getElem_cons_succ]
              refine wpAnyS_take (i := 12) (v := undef) rfl (by kernel_rfl) (by kernel_rfl) (by kernel_rfl) (fun _ _ _ h => h) (by rfl) (gives_unwanted (by rfl)) ?_
              try simp only [Act.put, List.setIfInBounds_toArray, List.set_cons_zero, List.set_cons_succ, List.getElem_toArray, List.getElem_cons_zero, List.getElem_cons_succ]
              refine wpAnyS_take (i := 13) (v := undef) rfl (by kernel_rfl) (by kernel_rfl) (by kernel_rfl) (fun _ _ _ h => h) (by rfl) (gives_unwanted (by rfl)) ?_
              try simp only [Act.put, List.setIfInBounds_toArray, List.set_cons_zero, List.set_cons_succ, List.getElem_toArray, List.getElem_cons_zero, List.getElem_cons_succ]
              refine wpAnyS_take (i := 14) (v := undef) rfl (by kernel_rfl) (by kernel_rfl) (by kernel_rfl) (fun _ _ _ h => h) (by rfl) (gives_unwanted (by rfl)) ?_
              try simp only [Act.put, List.setIfInBounds_toArray, List.set_cons_zero, List.set_cons_succ, List.getElem_toArray, List.getElem_cons_zero, List.getElem_cons_succ]
              refine wpAnyS_take (i := 15) (v := undef) rfl (by kernel_rfl) (by kernel_rfl) (by kernel_rfl) (fun _ _ _ h => h) (by rfl) (gives_unwanted (by rfl)) ?_
              try simp only [Act.put, List.setIfInBounds_toArray, List.set_cons_zero, List.set_cons_succ, List.getElem_toArray, List.getElem_cons_zero, List.getElem_cons_succ]
              refine wpAnyS_take (i := 16) (v := undef) rfl (by kernel_rfl) (by kernel_rfl) (by kernel_rfl) (fun _ _ _ h => h) (by rfl) (gives_unwanted (by rfl)) ?_
              try simp only [Act.put, List.setIfInBounds_toArray, List.set_cons_zero, List.set_cons_succ, List.getElem_toArray, List.getElem_cons_zero, List.getElem_cons_succ]
              refine wpAnyS_take (i := 17) (v := undef) rfl (by kernel_rfl) (by kernel_rfl) (by kernel_rfl) (fun _ _ _ h => h) (by rfl) (gives_unwanted (by rfl)) ?_
              try simp only [Act.put, List.setIfInBounds_toArray, List.set_cons_zero, List.set_cons_succ, List.getElem_toArray, List.getElem_cons_zero, List.getElem_cons_succ]
              refine wpAnyS_take (i := 18) (v := undef) rfl (by kernel_rfl) (by kernel_rfl) (by kernel_rfl) (fun _ _ _ h => h) (by rfl) (gives_unwanted (by rfl)) ?_
              try simp only [Act.put, List.setIfInBounds_toArray, List.set_cons_zero, List.set_cons_succ, List.getElem_toArray, List.getElem_cons_zero, List.getElem_cons_succ]
              refine wpAnyS_pre (j := 19) (by kernel_rfl) ?_
              iterate 2
                refine wpAnyS_nx (v := ?_) rfl (by kernel_rfl) (by kernel_rfl) (by kernel_rfl) (fun _ _ _ h => h) (by rfl) (gives_pure (by rfl) ?_) ?_
                rotate_left
                · intro b' d' u' W' hS'
                  obtain ⟨h1, h2, h3, h4⟩ := HF5.out W' hS'
                  go_simp
                  rfl
                try simp only [Act.put, List.setIfInBounds_toArray, List.set_cons_zero, List.set_cons_succ, List.getElem_toArray, List.getElem_cons_zero, List.getElem_cons_succ]
              refine wpAnyS_take (i := 21) (v := undef) rfl (by kernel_rfl) (by kernel_rfl) (by kernel_rfl) (fun _ _ _ h => h) (by rfl) (gives_unwanted (by rfl)) ?_
              try simp only [Act.put, List.setIfInBounds_toArray, List.set_cons_zero, List.set_cons_succ, List.getElem_toArray, List.getElem_cons_zero, List.getElem_cons_succ]
              refine wpAnyS_take (i := 22) (v := undef) rfl (by kernel_rfl) (by kernel_rfl) (by kernel_rfl) (fun _ _ _ h => h) (by rfl) (gives_unwanted (by rfl)) ?_
              try simp only [Act.put, List.setIfInBounds_toArray, List.set_cons_zero, List.set_cons_succ, List.getElem_toArray, List.getElem_cons_zero, List.getElem_cons_succ]
              refine wpAnyS_take (i := 23) (v := undef) rfl (by kernel_rfl) (by kernel_rfl) (by kernel_rfl) (fun _ _ _ h => h) (by rfl) (gives_unwanted (by rfl)) ?_
              try simp only [Act.put, List.setIfInBounds_toArray, List.set_cons_zero, List.set_cons_succ, List.getElem_toArray, List.getElem_cons_zero, List.getElem_cons_succ]
              refine wpAnyS_take (i := 24) (v := undef) rfl (by kernel_rfl) (by kernel_rfl) (by kernel_rfl) (fun _ _ _ h => h) (by rfl) (gives_unwanted (by rfl)) ?_
              try simp only [Act.put, List.setIfInBounds_toArray, List.set_cons_zero, List.set_cons_succ, List.getElem_toArray, List.getElem_cons_zero, List.getElem_cons_succ]
              refine wpAnyS_take (i := 25) (v := undef) rfl (by kernel_rfl) (by kernel_rfl) (by kernel_rfl) (fun _ _ _ h => h) (by rfl) (gives_unwanted (by rfl)) ?_
              try simp only [Act.put, List.setIfInBounds_toArray, List.set_cons_zero, List.set_cons_succ, List.getElem_toArray, List.getElem_cons_zero, List.getElem_cons_succ]
              refine wpAnyS_take (i := 26) (v := undef) rfl (by kernel_rfl) (by kernel_rfl) (by kernel_rfl) (fun _ _ _ h => h) (by rfl) (gives_unwanted (by rfl)) ?_
              try simp only [Act.put, List.setIfInBounds_toArray, List.set_cons_zero, List.set_cons_succ, List.getElem_toArray, List.getElem_cons_zero, List.getElem_cons_succ]
              refine wpAnyS_take (i := 27) (v := undef) rfl (by kernel_rfl) (by kernel_rfl) (by kernel_rfl) (fun _ _ _ h => h) (by rfl) (gives_unwanted (by rfl)) ?_
              try simp only [Act.put, List.setIfInBounds_toArray, List.set_cons_zero, List.set_cons_succ, List.getElem_toArray, List.getElem_cons_zero, List.getElem_cons_succ]
              refine wpAnyS_take (i := 28) (v := undef) rfl (by kernel_rfl) (by kernel_rfl) (by kernel_rfl) (fun _ _ _ h => h) (by rfl) (gives_unwanted (by rfl)) ?_
              try simp only [Act.put, List.setIfInBounds_toArray, List.set_cons_zero, List.set_cons_succ, List.getElem_toArray, List.getElem_cons_zero, List.getElem_cons_succ]
              refine wpAnyS_take (i := 29) (v := undef) rfl (by kernel_rfl) (by kernel_rfl) (by kernel_rfl) (fun _ _ _ h => h) (by rfl) (gives_unwanted (by rfl)) ?_
              try simp only [Act.put, List.setIfInBounds_toArray, List.set_cons_zero, List.set_cons_succ, List.getElem_toArray, List.getElem_cons_zero, List.getElem_cons_succ]
              refine wpAnyS_take (i := 30) (v := undef) rfl (by kernel_rfl) (by kernel_rfl) (by kernel_rfl) (fun _ _ _ h => h) (by rfl) (gives_unwanted (by rfl)) ?_
              try simp only [Act.put, List.setIfInBounds_toArray, List.set_cons_zero, List.set_cons_succ, List.getElem_toArray, List.getElem_cons_zero, List.getElem_cons_succ]
              refine wpAnyS_take (i := 31) (v := undef) rfl (by kernel_rfl) (by kernel_rfl) (by kernel_rfl) (fun _ _ _ h => h) (by rfl) (gives_unwanted (by rfl)) ?_
              try simp only [Act.put, List.setIfInBounds_toArray, List.set_cons_zero, List.set_cons_succ, List.getElem_toArray, List.getElem_cons_zero, List.getElem_cons_succ]
              refine wpAnyS_take (i := 32) (v := undef) rfl (by kernel_rfl) (by kernel_rfl) (by kernel_rfl) (fun _ _ _ h => h) (by rfl) (gives_unwanted (by rfl)) ?_
              try simp only [Act.put, List.setIfInBounds_toArray, List.set_cons_zero, List.set_cons_succ, List.getElem_toArray, List.getElem_cons_zero, List.getElem_cons_succ]
              refine wpAnyS_take (i := 33) (v := undef) rfl (by kernel_rfl) (by kernel_rfl) (by kernel_rfl) (fun _ _ _ h => h) (by rfl) (gives_unwanted (by rfl)) ?_
              try simp only [Act.put, List.setIfInBounds_toArray, List.set_cons_zero, List.set_cons_succ, List.getElem_toArray, List.getElem_cons_zero, List.getElem_cons_succ]
              refine wpAnyS_take (i := 34) (v := ?_) rfl (by kernel_rfl) (by kernel_rfl) (by kernel_rfl) (fun _ _ _ h => h) (by rfl) (gives_pure (by rfl) ?_) ?_
              rotate_left
              · intro b' d' u' W' hS'
                obtain ⟨h1, h2, h3, h4⟩ := HF5.out W' hS'
                go_simp
                rfl
              try simp only [Act.put, List.setIfInBounds_toArray, List.set_cons_zero, List.set_cons_succ, List.getElem_toArray, List.getElem_cons_zero, List.getElem_cons_succ]
              refine wpAnyS_done (b := true) (d := true) (by kernel_rfl) (by kernel_rfl) (by kernel_rfl) rfl (fun wS hS => ?_) _
              have H9 := Lib.hid hS
              clear hS E0
              have q1 : wS.cell? ⟨B kk, 49, none⟩ = some (.int .i64 gu) := by rw [HGU.out]; exact (HM5.out ▸ H9.out.its.b kk hkn : Blk wS (B kk) _ (itCells { x with factor := fa }).toArray).get 49 (it_guess _)
              have HXB : Hid (Blk wS (B kk) 89 (itCells { x with factor := fa }).toArray) := Lib.hid (HM5.out ▸ H9.out.its.b kk hkn)
              go_wp2_with (first | (go_at_call 58; refine (of_b _ gu (by omega) (by omega)).mono ?_; rintro e w6 ⟨rfl, hb6⟩; have H10 := Lib.hid (H9.out.bel hb6); have HB6 := Lib.hid (HXB.out.below hb6 HXB.out.lt); clear hb6 q1) | (go_at_call 63; refine (hold_any (B kk) _ gu _ HB6.out).mono ?_; rintro e w7 ⟨rfl, ht⟩; have HT := Lib.hid ht; clear ht))
              go_roundw
              case rel =>
                refine ⟨i + 1, by omega, by go_num, Lib.hid ?_⟩
                have hf := H10.out.turn hkn HT.out
                have e : (fun j => if j = kk then ({ ({ x with factor := fa } : It) with held := true, width := gu } : It) else M5 j) = onK (fun _ => startI false) M ks (i + 1) := by
                  rw [HSC.out]
                  funext k
                  by_cases e : k = kk
                  · subst e
                    simp only [if_true]
                    rw [← HXX.out]
                    unfold startI
                    rw [if_pos HSTP.out, ← HFE.out, HGU.out]
                  · simp only [if_neg e]
                    exact HM5o.out k e
                rw [← e]
                exact hf
              case measure => simp [intOf] <;> omega
            · have e0 : (cmpI fa 0 == 0) = false := beq_eq_false_iff_ne.2 (fun e => f0 (cmpI_z _ e))
              by_cases f1 : bs < gu
              · have e1 : decide (bs < gu) = true := decide_eq_true f1
                have HSTP : Hid (stopI false x = true) := Lib.hid (by unfold stopI; rw [← HGU.out, ← HBS.out, decide_eq_true f1]; simp)
                clear f0 f1
                have HF5 : Hid (∀ W', F1I g4 g5 n B M5 rm gs w W' → W'.cell? ⟨B kk, 50, none⟩ = some (hiOf fa) ∧ W'.cell? ⟨B kk, 51, none⟩ = some (loOf fa) ∧ W'.cell? ⟨B kk, 49, none⟩ = some (.int .i64 gu) ∧ W'.cell? ⟨B kk, 48, none⟩ = some (.int .i64 bs)) := Lib.hid (fun W' hS' => by
                  have h := (HM5.out ▸ hS'.its.b kk hkn : Blk W' (B kk) _ (itCells { x with factor := fa }).toArray)
                  exact ⟨h.get 50 (it_factorh _), h.get 51 (it_factorl _), by rw [HGU.out]; exact h.get 49 (it_guess _), by rw [HBS.out]; exact h.get 48 (it_base _)⟩)
                refine wp_region_S (fun _ _ _ W => F1I g4 g5 n B M5 rm gs w W) 1000 1000 100000 true true (by kernel_rfl) (by kernel_rfl) (by kernel_rfl) (E0) ?_
                refine wpAnyS_pre (j := 0) (by kernel_rfl) ?_
                iterate 4
                  refine wpAnyS_nx (v := ?_) rfl (by kernel_rfl) (by kernel_rfl) (by kernel_rfl) (fun _ _ _ h => h) (by rfl) (gives_pure (by rfl) ?_) ?_
                  rotate_left
                  · intro b' d' u' W' hS'
                    obtain ⟨h1, h2, h3, h4⟩ := HF5.out W' hS'
                    go_simp
                    rfl
                  try simp only [Act.put, List.setIfInBounds_toArray, List.set_cons_zero, List.set_cons_succ, List.getElem_toArray, List.getElem_cons_zero, List.getElem_cons_succ]
                refine wpAnyS_take (i := 4) (v := _) rfl (by kernel_rfl) (by kernel_rfl) (by kernel_rfl) (fun _ _ _ h => h) (by rfl) (gives_call (by rfl) _ _ ?_ (fun b' d' u' W' hS' => (sign_b fa W').mono fun e W2 ⟨he, hb⟩ => ⟨he, hS'.bel hb⟩)) ?_
                · intro W'
                  first | rfl | kernel_rfl
                try simp only [Act.put, List.setIfInBounds_toArray, List.set_cons_zero, List.set_cons_succ, List.getElem_toArray, List.getElem_cons_zero, List.getElem_cons_succ]
                refine wpAnyS_pre (j := 5) (by kernel_rfl) ?_
                iterate 4
                  refine wpAnyS_nx (v := ?_) rfl (by kernel_rfl) (by kernel_rfl) (by kernel_rfl) (fun _ _ _ h => h) (by rfl) (gives_pure (by rfl) ?_) ?_
                  rotate_left
                  · intro b' d' u' W' hS'
                    obtain ⟨h1, h2, h3, h4⟩ := HF5.out W' hS'
                    go_simp
                    rfl
                  try simp only [Act.put, List.setIfInBounds_toArray, List.set_cons_zero, List.set_cons_succ, List.getElem_toArray, List.getElem_cons_zero, List.getElem_cons_succ]
                refine wpAnyS_take (i := 9) (v := undef) rfl (by kernel_rfl) (by kernel_rfl) (by kernel_rfl) (fun _ _ _ h => h) (by rfl) (gives_unwanted (by rfl)) ?_
                try simp only [Act.put, List.setIfInBounds_toArray, List.set_cons_zero, List.set_cons_succ, List.getElem_toArray, List.getElem_cons_zero, List.getElem_cons_succ]
                refine wpAnyS_take (i := 10) (v := undef) rfl (by kernel_rfl) (by kernel_rfl) (by kernel_rfl) (fun _ _ _ h => h) (by rfl) (gives_unwanted (by rfl)) ?_
                try simp only [Act.put, List.setIfInBounds_toArray, List.set_cons_zero, List.set_cons_succ, List.getElem_toArray, List.getElem_cons_zero, List.getElem_cons_succ]
                refine wpAnyS_take (i := 11) (v := undef) rfl (by kernel_rfl) (by kernel_rfl) (by kernel_rfl) (fun _ _ _ h => h) (by rfl) (gives_unwanted (by rfl)) ?_
                try simp only [Act.put, List.setIfInBounds_toArray, List.set_cons_zero, List.set_cons_succ, List.getElem_toArray, List.getElem_cons_zero, List.getElem_cons_succ]
                refine wpAnyS_take (i := 12) (v := undef) rfl (by kernel_rfl) (by kernel_rfl) (by kernel_rfl) (fun _ _ _ h => h) (by rfl) (gives_unwanted (by rfl)) ?_
                try simp only [Act.put, List.setIfInBounds_toArray, List.set_cons_zero, List.set_cons_succ, List.getElem_toArray, List.getElem_cons_zero, List.getElem_cons_succ]
                refine wpAnyS_take (i := 13) (v := undef) rfl (by kernel_rfl) (by kernel_rfl) (by kernel_rfl) (fun _ _ _ h => h) (by rfl) (gives_unwanted (by rfl)) ?_
                try simp only [Act.put, List.setIfInBounds_toArray, List.set_cons_zero, List.set_cons_succ, List.getElem_toArray, List.getElem_cons_zero, List.getElem_cons_succ]
                refine wpAnyS_take (i := 14) (v := undef) rfl (by kernel_rfl) (by kernel_rfl) (by kernel_rfl) (fun _ _ _ h => h) (by rfl) (gives_unwanted (by rfl)) ?_
                try simp only [Act.put, List.setIfInBounds_toArray, List.set_cons_zero, List.set_cons_succ, List.getElem_toArray, List.getElem_cons_zero, List.getElem_cons_succ]
                refine wpAnyS_take (i := 15) (v := undef) rfl (by kernel_rfl) (by kernel_rfl) (by kernel_rfl) (fun _ _ _ h => h) (by rfl) (gives_unwanted (by rfl)) ?_
                try simp only [Act.put, List.setIfInBounds_toArray, List.set_cons_zero, List.set_cons_succ, List.getElem_toArray, List.getElem_cons_zero, List.getElem_cons_succ]
                refine wpAnyS_take (i := 16) (v := undef) rfl (by kernel_rfl) (by kernel_rfl) (by kernel_rfl) (fun _ _ _ h => h) (by rfl) (gives_unwanted (by rfl)) ?_
                try simp only [Act.put, List.setIfInBounds_toArray, List.set_cons_zero, List.set_cons_succ, List.getElem_toArray, List.getElem_cons_zero, List.getElem_cons_succ]
                refine wpAnyS_take (i := 17) (v := undef) rfl (by kernel_rfl) (by kernel_rfl) (by kernel_rfl) (fun _ _ _ h => h) (by rfl) (gives_unwanted (by rfl)) ?_
                try simp only [Act.put, List.setIfInBounds_toArray, List.set_cons_zero, List.set_cons_succ, List.getElem_toArray, List.getElem_cons_zero, List.getElem_cons_succ]
                refine wpAnyS_pre (j := 18) (by kernel_rfl) ?_
                iterate 17
                  refine wpAnyS_nx (v := ?_) rfl (by kernel_rfl) (by kernel_rfl) (by kernel_rfl) (fun _ _ _ h => h) (by rfl) (gives_pure (by rfl) ?_) ?_
                  rotate_left
                  · intro b' d' u' W' hS'
                    obtain ⟨h1, h2, h3, h4⟩ := HF5.out W' hS'
                    go_simp
                    rfl
                  try simp only [Act.put, List.setIfInBounds_toArray, List.set_cons_zero, List.set_cons_succ, List.getElem_toArray, List.getElem_cons_zero, List.getElem_cons_succ]
                refine wpAnyS_done (b := true) (d := true) (by kernel_rfl) (by kernel_rfl) (by kernel_rfl) rfl (fun wS hS => ?_) _
                have H9 := Lib.hid hS
                clear hS E0
                have q1 : wS.cell? ⟨B kk, 49, none⟩ = some (.int .i64 gu) := by rw [HGU.out]; exact (HM5.out ▸ H9.out.its.b kk hkn : Blk wS (B kk) _ (itCells { x with factor := fa }).toArray).get 49 (it_guess _)
                have HXB : Hid (Blk wS (B kk) 89 (itCells { x with factor := fa }).toArray) := Lib.hid (HM5.out ▸ H9.out.its.b kk hkn)
                go_wp2_with (first | (go_at_call 58; refine (of_b _ gu (by omega) (by omega)).mono ?_; rintro e w6 ⟨rfl, hb6⟩; have H10 := Lib.hid (H9.out.bel hb6); have HB6 := Lib.hid (HXB.out.below hb6 HXB.out.lt); clear hb6 q1) | (go_at_call 63; refine (hold_any (B kk) _ gu _ HB6.out).mono ?_; rintro e w7 ⟨rfl, ht⟩; have HT := Lib.hid ht; clear ht))
                go_roundw
                case rel =>
                  refine ⟨i + 1, by omega, by go_num, Lib.hid ?_⟩
                  have hf := H10.out.turn hkn HT.out
                  have e : (fun j => if j = kk then ({ ({ x with factor := fa } : It) with held := true, width := gu } : It) else M5 j) = onK (fun _ => startI false) M ks (i + 1) := by
                    rw [HSC.out]
                    funext k
                    by_cases e : k = kk
                    · subst e
                      simp only [if_true]
                      rw [← HXX.out]
                      unfold startI
                      rw [if_pos HSTP.out, ← HFE.out, HGU.out]
                    · simp only [if_neg e]
                      exact HM5o.out k e
                  rw [← e]
                  exact hf
                case measure => simp [intOf] <;> omega
              · have e1 : decide (bs < gu) = false := decide_eq_false f1
                have HSTP : Hid (stopI false x = false) := Lib.hid (by unfold stopI; rw [← HFE.out, ← HGU.out, ← HBS.out, decide_eq_false f1, decide_eq_false f0]; rfl)
                clear f0 f1
                have HF5 : Hid (∀ W', F1I g4 g5 n B M5 rm gs w W' → W'.cell? ⟨B kk, 50, none⟩ = some (hiOf fa) ∧ W'.cell? ⟨B kk, 51, none⟩ = some (loOf fa) ∧ W'.cell? ⟨B kk, 49, none⟩ = some (.int .i64 gu) ∧ W'.cell? ⟨B kk, 48, none⟩ = some (.int .i64 bs)) := Lib.hid (fun W' hS' => by
                  have h := (HM5.out ▸ hS'.its.b kk hkn : Blk W' (B kk) _ (itCells { x with factor := fa }).toArray)
                  exact ⟨h.get 50 (it_factorh _), h.get 51 (it_factorl _), by rw [HGU.out]; exact h.get 49 (it_guess _), by rw [HBS.out]; exact h.get 48 (it_base _)⟩)
                refine wp_region_S (fun _ _ _ W => F1I g4 g5 n B M5 rm gs w W) 1000 1000 100000 true true (by kernel_rfl) (by kernel_rfl) (by kernel_rfl) (E0) ?_
                refine wpAnyS_pre (j := 0) (by kernel_rfl) ?_
                iterate 4
                  refine wpAnyS_nx (v := ?_) rfl (by kernel_rfl) (by kernel_rfl) (by kernel_rfl) (fun _ _ _ h => h) (by rfl) (gives_pure (by rfl) ?_) ?_
                  rotate_left
                  · intro b' d' u' W' hS'
                    obtain ⟨h1, h2, h3, h4⟩ := HF5.out W' hS'
                    go_simp
                    rfl
                  try simp only [Act.put, List.setIfInBounds_toArray, List.set_cons_zero, List.set_cons_succ, List.getElem_toArray, List.getElem_cons_zero, List.getElem_cons_succ]
                refine wpAnyS_take (i := 4) (v := _) rfl (by kernel_rfl) (by kernel_rfl) (by kernel_rfl) (fun _ _ _ h => h) (by rfl) (gives_call (by rfl) _ _ ?_ (fun b' d' u' W' hS' => (sign_b fa W').mono fun e W2 ⟨he, hb⟩ => ⟨he, hS'.bel hb⟩)) ?_
                · intro W'
                  first | rfl | kernel_rfl
                try simp only [Act.put, List.setIfInBounds_toArray, List.set_cons_zero, List.set_cons_succ, List.getElem_toArray, List.getElem_cons_zero, List.getElem_cons_succ]
                refine wpAnyS_pre (j := 5) (by kernel_rfl) ?_
                iterate 4
                  refine wpAnyS_nx (v := ?_) rfl (by kernel_rfl) (by kernel_rfl) (by kernel_rfl) (fun _ _ _ h => h) (by rfl) (gives_pure (by rfl) ?_) ?_
                  rotate_left
                  · intro b' d' u' W' hS'
                    obtain ⟨h1, h2, h3, h4⟩ := HF5.out W' hS'
                    go_simp
                    rfl
                  try simp only [Act.put, List.setIfInBounds_toArray, List.set_cons_zero, List.set_cons_succ, List.getElem_toArray, List.getElem_cons_zero, List.getElem_cons_succ]
                refine wpAnyS_take (i := 9) (v := undef) rfl (by kernel_rfl) (by kernel_rfl) (by kernel_rfl) (fun _ _ _ h => h) (by rfl) (gives_unwanted (by rfl)) ?_
                try simp only [Act.put, List.setIfInBounds_toArray, List.set_cons_zero, List.set_cons_succ, List.getElem_toArray, List.getElem_cons_zero, List.getElem_cons_succ]
                refine wpAnyS_take (i := 10) (v := undef) rfl (by kernel_rfl) (by kernel_rfl) (by kernel_rfl) (fun _ _ _ h => h) (by rfl) (gives_unwanted (by rfl)) ?_
                try simp only [Act.put, List.setIfInBounds_toArray, List.set_cons_zero, List.set_cons_succ, List.getElem_toArray, List.getElem_cons_zero, List.getElem_cons_succ]
                refine wpAnyS_take (i := 11) (v := undef) rfl (by kernel_rfl) (by kernel_rfl) (by kernel_rfl) (fun _ _ _ h => h) (by rfl) (gives_unwanted (by rfl)) ?_
                try simp only [Act.put, List.setIfInBounds_toArray, List.set_cons_zero, List.set_cons_succ, List.getElem_toArray, List.getElem_cons_zero, List.getElem_cons_succ]
                refine wpAnyS_take (i := 12) (v := undef) rfl (by kernel_rfl) (by kernel_rfl) (by kernel_rfl) (fun _ _ _ h => h) (by rfl) (gives_unwanted (by rfl)) ?_
                try simp only [Act.put, List.setIfInBounds_toArray, List.set_cons_zero, List.set_cons_succ, List.getElem_toArray, List.getElem_cons_zero, List.getElem_cons_succ]
                refine wpAnyS_take (i := 13) (v := undef) rfl (by kernel_rfl) (by kernel_rfl) (by kernel_rfl) (fun _ _ _ h => h) (by rfl) (gives_unwanted (by rfl)) ?_
                try simp only [Act.put, List.setIfInBounds_toArray, List.set_cons_zero, List.set_cons_succ, List.getElem_toArray, List.getElem_cons_zero, List.getElem_cons_succ]
                refine wpAnyS_take (i := 14) (v := undef) rfl (by kernel_rfl) (by kernel_rfl) (by kernel_rfl) (fun _ _ _ h => h) (by rfl) (gives_unwanted (by rfl)) ?_
                try simp only [Act.put, List.setIfInBounds_toArray, List.set_cons_zero, List.set_cons_succ, List.getElem_toArray, List.getElem_cons_zero, List.getElem_cons_succ]
                refine wpAnyS_take (i := 15) (v := undef) rfl (by kernel_rfl) (by kernel_rfl) (by kernel_rfl) (fun _ _ _ h => h) (by rfl) (gives_unwanted (by rfl)) ?_
                try simp only [Act.put, List.setIfInBounds_toArray, List.set_cons_zero, List.set_cons_succ, List.getElem_toArray, List.getElem_cons_zero, List.getElem_cons_succ]
                refine wpAnyS_take (i := 16) (v := undef) rfl (by kernel_rfl) (by kernel_rfl) (by kernel_rfl) (fun _ _ _ h => h) (by rfl) (gives_unwanted (by rfl)) ?_
                try simp only [Act.put, List.setIfInBounds_toArray, List.set_cons_zero, List.set_cons_succ, List.getElem_toArray, List.getElem_cons_zero, List.getElem_cons_succ]
                refine wpAnyS_take (i := 17) (v := undef) rfl (by kernel_rfl) (by kernel_rfl) (by kernel_rfl) (fun _ _ _ h => h) (by rfl) (gives_unwanted (by rfl)) ?_
                try simp only [Act.put, List.setIfInBounds_toArray, List.set_cons_zero, List.set_cons_succ, List.getElem_toArray, List.getElem_cons_zero, List.getElem_cons_succ]
                refine wpAnyS_pre (j := 18) (by kernel_rfl) ?_
                iterate 17
                  refine wpAnyS_nx (v := ?_) rfl (by kernel_rfl) (by kernel_rfl) (by kernel_rfl) (fun _ _ _ h => h) (by rfl) (gives_pure (by rfl) ?_) ?_
                  rotate_left
                  · intro b' d' u' W' hS'
                    obtain ⟨h1, h2, h3, h4⟩ := HF5.out W' hS'
                    go_simp
                    rfl
                  try simp only [Act.put, List.setIfInBounds_toArray, List.set_cons_zero, List.set_cons_succ, List.getElem_toArray, List.getElem_cons_zero, List.getElem_cons_succ]
                refine wpAnyS_done (b := true) (d := true) (by kernel_rfl) (by kernel_rfl) (by kernel_rfl) rfl (fun wS hS => ?_) _
                have H9 := Lib.hid hS
                clear hS E0
                go_wp2_with fail
                go_roundw
                case rel =>
                  refine ⟨i + 1, by omega, by go_num, Lib.hid ?_⟩
                  have e : M5 = onK (fun _ => startI false) M ks (i + 1) := by
                    rw [HSC.out]
                    funext k
                    by_cases e : k = kk
                    · subst e
                      simp only [if_true]
                      rw [← HXX.out, HM5.out]
                      unfold startI
                      rw [if_neg (by rw [HSTP.out]; decide), ← HFE.out]
                    · simp only [if_neg e]
                      exact HM5o.out k e
                  rw [← e]
                  exact H9.out
                case measure => simp [intOf] <;> omega
          · have hfe : fa = gw := by rw [HFE.out, HGW.out]; rfl
            have HEQ := Lib.hid hfe
            clear hfe
            have q1 : wr.cell? ⟨B kk, 38, none⟩ = some (.int .i64 gw) := by rw [HGW.out]; exact HXI.out.get 38 (it_grow x)
            go_upto_region 15 with (go_at_call 58; refine (of_b _ gw (by omega) (by omega)).mono ?_; rintro e w4 ⟨rfl, hb4⟩; have H4 := Lib.hid (HX.out.bel hb4); have HB4 := Lib.hid (HXI.out.below hb4 HXI.out.lt); clear hb4 q1; have q1 := HB4.out.get 50 (it_factorh _); have q2 := HB4.out.get 51 (it_factorl _); have q3 := HB4.out.frozen 50; have q4 := HB4.out.frozen 51)
            clear hc q1 q2 q3 q4
            have H5 := Lib.hid (H4.out.putI hkn 50 (hiOf gw) (loOf gw) (y := { x with factor := fa }) (by rw [HMK.out, HEQ.out]; rfl))
            obtain ⟨w5, hw5⟩ : ∃ w5, w5 = (w4.setCell ⟨B kk, 50, none⟩ (hiOf gw)).setCell ⟨B kk, 50 + 1, none⟩ (loOf gw) := ⟨_, rfl⟩
            rw [← hw5] at H5
            have hw5' : w5 = (w4.setCell ⟨B kk, 50, none⟩ (hiOf gw)).setCell ⟨B kk, 51, none⟩ (loOf gw) := hw5
            rw [← hw5']
            clear hw5 hw5'
            obtain ⟨M5, hM5⟩ : ∃ M5, M5 = (fun j => if j = kk then { x with factor := fa } else Mi j) := ⟨_, rfl⟩
            rw [← hM5] at H5
            have HM5 : Hid (M5 kk = { x with factor := fa }) := Lib.hid (by rw [hM5]; simp)
            have HM5o : Hid (∀ k, k ≠ kk → M5 k = Mi k) := Lib.hid (fun k hk => by rw [hM5]; simp [hk])
            clear hM5
            have E0 : F1I g4 g5 n B M5 rm gs w w5.drew := H5.out.bel (Below.refl _ _).drew
            by_cases f0 : fa = 0
            · have e0 : (cmpI fa 0 == 0) = true := beq_iff_eq.2 (by rw [f0]; rfl)
              have HSTP : Hid (stopI true x = true) := Lib.hid (by unfold stopI; rw [← HFE.out, decide_eq_true f0]; rfl)
              clear f0
              have HF5 : Hid (∀ W', F1I g4 g5 n B M5 rm gs w W' → W'.cell? ⟨B kk, 50, none⟩ = some (hiOf fa) ∧ W'.cell? ⟨B kk, 51, none⟩ = some (loOf fa) ∧ W'.cell? ⟨B kk, 49, none⟩ = some (.int .i64 gu) ∧ W'.cell? ⟨B kk, 48, none⟩ = some (.int .i64 bs)) := Lib.hid (fun W' hS' => by
                have h := (HM5.out ▸ hS'.its.b kk hkn : Blk W' (B kk) _ (itCells { x with factor := fa }).toArray)
                exact ⟨h.get 50 (it_factorh _), h.get 51 (it_factorl _), by rw [HGU.out]; exact h.get 49 (it_guess _), by rw [HBS.out]; exact h.get 48 (it_base _)⟩)
              refine wp_region_S (fun _ _ _ W => F1I g4 g5 n B M5 rm gs w W) 1000 1000 100000 true true (by kernel_rfl) (by kernel_rfl) (by kernel_rfl) (E0) ?_
              refine wpAnyS_pre (j := 0) (by kernel_rfl) ?_
              iterate 4
                refine wpAnyS_nx (v := ?_) rfl (by kernel_rfl) (by kernel_rfl) (by kernel_rfl) (fun _ _ _ h => h) (by rfl) (gives_pure (by rfl) ?_) ?_
                rotate_left
                · intro b' d' u' W' hS'
                  obtain ⟨h1, h2, h3, h4⟩ := HF5.out W' hS'
                  go_simp
                  rfl
                try simp only [Act.put, List.setIfInBounds_toArray, List.set_cons_zero, List.set_cons_succ, List.getElem_toArray, List.getElem_cons_zero, List.getElem_cons_succ]
              refine wpAnyS_take (i := 4) (v := _) rfl (by kernel_rfl) (by kernel_rfl) (by kernel_rfl) (fun _ _ _ h => h) (by rfl) (gives_call (by rfl) _ _ ?_ (fun b' d' u' W' hS' => (sign_b fa W').mono fun e W2 ⟨he, hb⟩ => ⟨he, hS'.bel hb⟩)) ?_
              · intro W'
                first | rfl | kernel_rfl
              try simp only [Act.put, List.setIfInBounds_toArray, List.set_cons_zero, List.set_cons_succ, List.getElem_toArray, List.getElem_cons_zero, List.getElem_cons_succ]
              refine wpAnyS_pre (j := 5) (by kernel_rfl) ?_
              iterate 2
                refine wpAnyS_nx (v := ?_) rfl (by kernel_rfl) (by kernel_rfl) (by kernel_rfl) (fun _ _ _ h => h) (by rfl) (gives_pure (by rfl) ?_) ?_
                rotate_left
                · intro b' d' u' W' hS'
                  obtain ⟨h1, h2, h3, h4⟩ := HF5.out W' hS'
                  go_simp
                  rfl
                try simp only [Act.put, List.setIfInBounds_toArray, List.set_cons_zero, List.set_cons_succ, List.getElem_toArray, List.getElem_cons_zero, List.getElem_cons_succ]
              refine wpAnyS_take (i := 7) (v := undef) rfl (by kernel_rfl) (by kernel_rfl) (by kernel_rfl) (fun _ _ _ h => h) (by rfl) (gives_unwanted (by rfl)) ?_
              try simp only [Act.put, List.setIfInBounds_toArray, List.set_cons_zero, List.set_cons_succ, List.getElem_toArray, List.getElem_cons_zero, List.getElem_cons_succ]
              refine wpAnyS_take (i := 8) (v := undef) rfl (by kernel_rfl) (by kernel_rfl) (by kernel_rfl) (fun _ _ _ h => h) (by rfl) (gives_unwanted (by rfl)) ?_
              try simp only [Act.put, List.setIfInBounds_toArray, List.set_cons_zero, List.set_cons_succ, List.getElem_toArray, List.getElem_cons_zero, List.getElem_cons_succ]
              refine wpAnyS_take (i := 9) (v := undef) rfl (by kernel_rfl) (by kernel_rfl) (by kernel_rfl) (fun _ _ _ h => h) (by rfl) (gives_unwanted (by rfl)) ?_
              try simp only [Act.put, List.setIfInBounds_toArray, List.set_cons_zero, List.set_cons_succ, List.getElem_toArray, List.getElem_cons_zero, List.getElem_cons_succ]
              refine wpAnyS_take (i := 10) (v := undef) rfl (by kernel_rfl) (by kernel_rfl) (by kernel_rfl) (fun _ _ _ h => h) (by rfl) (gives_unwanted (by rfl)) ?_
              try simp only [Act.put, List.setIfInBounds_toArray, List.set_cons_zero, List.set_cons_succ, List.getElem_toArray, List.getElem_cons_zero, List.getElem_cons_succ]
              refine wpAnyS_take (i := 11) (v := undef) rfl (by kernel_rfl) (by kernel_rfl) (by kernel_rfl) (fun _ _ _ h => h) (by rfl) (gives_unwanted (by rfl)) ?_
              try simp only [Act.put, List.setIfInBounds_toArray, List.set_cons_zero, List.set_cons_succ, List.getElem_toArray, List.getElem_cons_zero, List.getElem_cons_succ]
              refine wpAnyS_take (i := 12) (v := undef) rfl (by kernel_rfl) (by kernel_rfl) (by kernel_rfl) (fun _ _ _ h => h) (by rfl) (gives_unwanted (by rfl)) ?_
              try simp only [Act.put, List.setIfInBounds_toArray, List.set_cons_zero, List.set_cons_succ, List.getElem_toArray, List.getElem_cons_zero, List.getElem_cons_succ]
              refine wpAnyS_take (i := 13) (v := undef) rfl (by kernel_rfl) (by kernel_rfl) (by kernel_rfl) (fun _ _ _ h => h) (by rfl) (gives_unwanted (by rfl)) ?_
              try simp only [Act.put, List.setIfInBounds_toArray, List.set_cons_zero, List.set_cons_succ, List.getElem_toArray, List.getElem_cons_zero, List.getElem_cons_succ]
              refine wpAnyS_take (i := 14) (v := undef) rfl (by kernel_rfl) (by kernel_rfl) (by kernel_rfl) (fun _ _ _ h => h) (by rfl) (gives_unwanted (by rfl)) ?_
              try simp only [Act.put, List.setIfInBounds_toArray, List.set_cons_zero, List.set_cons_succ, List.getElem_toArray, List.getElem_cons_zero, List.getElem_cons_succ]
              refine wpAnyS_take (i := 15) (v := undef) rfl (by kernel_rfl) (by kernel_rfl) (by kernel_rfl) (fun _ _ _ h => h) (by rfl) (gives_unwanted (by rfl)) ?_
              try simp only [Act.put, List.setIfInBounds_toArray, List.set_cons_zero, List.set_cons_succ, List.getElem_toArray, List.getElem_cons_zero, List.getElem_cons_succ]
              refine wpAnyS_take (i := 16) (v := undef) rfl (by kernel_rfl) (by kernel_rfl) (by kernel_rfl) (fun _ _ _ h => h) (by rfl) (gives_unwanted (by rfl)) ?_
              try simp only [Act.put, List.setIfInBounds_toArray, List.set_cons_zero, List.set_cons_succ, List.getElem_toArray, List.getElem_cons_zero, List.getElem_cons_succ]
              refine wpAnyS_take (i := 17) (v := undef) rfl (by kernel_rfl) (by kernel_rfl) (by kernel_rfl) (fun _ _ _ h => h) (by rfl) (gives_unwanted (by rfl)) ?_
              try simp only [Act.put, List.setIfInBounds_toArray, List.set_cons_zero, List.set_cons_succ, List.getElem_toArray, List.getElem_cons_zero, List.getElem_cons_succ]
              refine wpAnyS_take (i := 18) (v := undef) rfl (by kernel_rfl) (by kernel_rfl) (by kernel_rfl) (fun _ _ _ h => h) (by rfl) (gives_unwanted (by rfl)) ?_
              try simp only [Act.put, List.setIfInBounds_toArray, List.set_cons_zero, List.set_cons_succ, List.getElem_toArray, List.getElem_cons_zero, List.getElem_cons_succ]
              refine wpAnyS_pre (j := 19) (by kernel_rfl) ?_
              iterate 2
                refine wpAnyS_nx (v := ?_) rfl (by kernel_rfl) (by kernel_rfl) (by kernel_rfl) (fun _ _ _ h => h) (by rfl) (gives_pure (by rfl) ?_) ?_
                rotate_left
                · intro b' d' u' W' hS'
                  obtain ⟨h1, h2, h3, h4⟩ := HF5.out W' hS'
                  go_simp
                  rfl
                try simp only [Act.put, List.setIfInBounds_toArray, List.set_cons_zero, List.set_cons_succ, List.getElem_toArray, List.getElem_cons_zero, List.getElem_cons_succ]
              refine wpAnyS_take (i := 21) (v := undef) rfl (by kernel_rfl) (by kernel_rfl) (by kernel_rfl) (fun _ _ _ h => h) (by rfl) (gives_unwanted (by rfl)) ?_
              try simp only [Act.put, List.setIfInBounds_toArray, List.set_cons_zero, List.set_cons_succ, List.getElem_toArray, List.getElem_cons_zero, List.getElem_cons_succ]
              refine wpAnyS_take (i := 22) (v := undef) rfl (by kernel_rfl) (by kernel_rfl) (by kernel_rfl) (fun _ _ _ h => h) (by rfl) (gives_unwanted (by rfl)) ?_
              try simp only [Act.put, List.setIfInBounds_toArray, List.set_cons_zero, List.set_cons_succ, List.getElem_toArray, List.getElem_cons_zero, List.getElem_cons_succ]
              refine wpAnyS_take (i := 23) (v := undef) rfl (by kernel_rfl) (by kernel_rfl) (by kernel_rfl) (fun _ _ _ h => h) (by rfl) (gives_unwanted (by rfl)) ?_
              try simp only [Act.put, List.setIfInBounds_toArray, List.set_cons_zero, List.set_cons_succ, List.getElem_toArray, List.getElem_cons_zero, List.getElem_cons_succ]
              refine wpAnyS_take (i := 24) (v := undef) rfl (by kernel_rfl) (by kernel_rfl) (by kernel_rfl) (fun _ _ _ h => h) (by rfl) (gives_unwanted (by rfl)) ?_
              try simp only [Act.put, List.setIfInBounds_toArray, List.set_cons_zero, List.set_cons_succ, List.getElem_toArray, List.getElem_cons_zero, List.getElem_cons_succ]
              refine wpAnyS_take (i := 25) (v := undef) rfl (by kernel_rfl) (by kernel_rfl) (by kernel_rfl) (fun _ _ _ h => h) (by rfl) (gives_unwanted (by rfl)) ?_
              try simp only [Act.put, List.setIfInBounds_toArray, List.set_cons_zero, List.set_cons_succ, List.getElem_toArray, List.getElem_cons_zero, List.getElem_cons_succ]
              refine wpAnyS_take (i := 26) (v := undef) rfl (by kernel_rfl) (by kernel_rfl) (by kernel_rfl) (fun _ _ _ h => h) (by rfl) (gives_unwanted (by rfl)) ?_
              try simp only [Act.put, List.setIfInBounds_toArray, List.set_cons_zero, List.set_cons_succ, List.getElem_toArray, List.getElem_cons_zero, List.getElem_cons_succ]
              refine wpAnyS_take (i := 27) (v := undef) rfl (by kernel_rfl) (by kernel_rfl) (by kernel_rfl) (fun _ _ _ h => h) (by rfl) (gives_unwanted (by rfl)) ?_
              try simp only [Act.put, List.setIfInBounds_toArray, List.set_cons_zero, List.set_cons_succ, List.getElem_toArray, List.getElem_cons_zero, List.getElem_cons_succ]
              refine wpAnyS_take (i := 28) (v := undef) rfl (by kernel_rfl) (by kernel_rfl) (by kernel_rfl) (fun _ _ _ h => h) (by rfl) (gives_unwanted (by rfl)) ?_
              try simp only [Act.put, List.setIfInBounds_toArray, List.set_cons_zero, List.set_cons_succ, List.getElem_toArray, List.getElem_cons_zero, List.getElem_cons_succ]
              refine wpAnyS_take (i := 29) (v := undef) rfl (by kernel_rfl) (by kernel_rfl) (by kernel_rfl) (fun _ _ _ h => h) (by rfl) (gives_unwanted (by rfl)) ?_
              try simp only [Act.put, List.setIfInBounds_toArray, List.set_cons_zero, List.set_cons_succ, List.getElem_toArray, List.getElem_cons_zero, List.getElem_cons_succ]
              refine wpAnyS_take (i := 30) (v := undef) rfl (by kernel_rfl) (by kernel_rfl) (by kernel_rfl) (fun _ _ _ h => h) (by rfl) (gives_unwanted (by rfl)) ?_
              try simp only [Act.put, List.setIfInBounds_toArray, List.set_cons_zero, List.set_cons_succ, List.getElem_toArray, List.getElem_cons_zero, List.getElem_cons_succ]
              refine wpAnyS_take (i := 31) (v := undef) rfl (by kernel_rfl) (by kernel_rfl) (by kernel_rfl) (fun _ _ _ h => h) (by rfl) (gives_unwanted (by rfl)) ?_
              try simp only [Act.put, List.setIfInBounds_toArray, List.set_cons_zero, List.set_cons_succ, List.getElem_toArray, List.getElem_cons_zero, List.getElem_cons_succ]
              refine wpAnyS_take (i := 32) (v := undef) rfl (by kernel_rfl) (by kernel_rfl) (by kernel_rfl) (fun _ _ _ h => h) (by rfl) (gives_unwanted (by rfl)) ?_
              try simp only [Act.put, List.setIfInBounds_toArray, List.set_cons_zero, List.set_cons_succ, List.getElem_toArray, List.getElem_cons_zero, List.getElem_cons_succ]
              refine wpAnyS_take (i := 33) (v := undef) rfl (by kernel_rfl) (by kernel_rfl) (by kernel_rfl) (fun _ _ _ h => h) (by rfl) (gives_unwanted (by rfl)) ?_
              try simp only [Act.put, List.setIfInBounds_toArray, List.set_cons_zero, List.set_cons_succ, List.getElem_toArray, List.getElem_cons_zero, List.getElem_cons_succ]
              refine wpAnyS_take (i := 34) (v := ?_) rfl (by kernel_rfl) (by kernel_rfl) (by kernel_rfl) (fun _ _ _ h => h) (by rfl) (gives_pure (by rfl) ?_) ?_
              rotate_left
              · intro b' d' u' W' hS'
                obtain ⟨h1, h2, h3, h4⟩ := HF5.out W' hS'
                go_simp
                rfl
              try simp only [Act.put, List.setIfInBounds_toArray, List.set_cons_zero, List.set_cons_succ, List.getElem_toArray, List.getElem_cons_zero, List.getElem_cons_succ]
              refine wpAnyS_done (b := true) (d := true) (by kernel_rfl) (by kernel_rfl) (by kernel_rfl) rfl (fun wS hS => ?_) _
              have H9 := Lib.hid hS
              clear hS E0
              have q1 : wS.cell? ⟨B kk, 49, none⟩ = some (.int .i64 gu) := by rw [HGU.out]; exact (HM5.out ▸ H9.out.its.b kk hkn : Blk wS (B kk) _ (itCells { x with factor := fa }).toArray).get 49 (it_guess _)
              have HXB : Hid (Blk wS (B kk) 89 (itCells { x with factor := fa }).toArray) := Lib.hid (HM5.out ▸ H9.out.its.b kk hkn)
              go_wp2_with (first | (go_at_call 58; refine (of_b _ gu (by omega) (by omega)).mono ?_; rintro e w6 ⟨rfl, hb6⟩; have H10 := Lib.hid (H9.out.bel hb6); have HB6 := Lib.hid (HXB.out.below hb6 HXB.out.lt); clear hb6 q1) | (go_at_call 63; refine (hold_any (B kk) _ gu _ HB6.out).mono ?_; rintro e w7 ⟨rfl, ht⟩; have HT := Lib.hid ht; clear ht))
              go_roundw
              case rel =>
                refine ⟨i + 1, by omega, by go_num, Lib.hid ?_⟩
                have hf := H10.out.turn hkn HT.out
                have e : (fun j => if j = kk then ({ ({ x with factor := fa } : It) with held := true, width := gu } : It) else M5 j) = onK (fun _ => startI true) M ks (i + 1) := by
                  rw [HSC.out]
                  funext k
                  by_cases e : k = kk
                  · subst e
                    simp only [if_true]
                    rw [← HXX.out]
                    unfold startI
                    rw [if_pos HSTP.out, ← HFE.out, HGU.out]
                  · simp only [if_neg e]
                    exact HM5o.out k e
                rw [← e]
                exact hf
              case measure => simp [intOf] <;> omega
            · have e0 : (cmpI fa 0 == 0) = false := beq_eq_false_iff_ne.2 (fun e => f0 (cmpI_z _ e))
              by_cases f1 : gu < bs
              · have e1 : decide (gu < bs) = true := decide_eq_true f1
                have HSTP : Hid (stopI true x = true) := Lib.hid (by unfold stopI; rw [← HGU.out, ← HBS.out, decide_eq_true f1]; simp)
                clear f0 f1
                have HF5 : Hid (∀ W', F1I g4 g5 n B M5 rm gs w W' → W'.cell? ⟨B kk, 50, none⟩ = some (hiOf fa) ∧ W'.cell? ⟨B kk, 51, none⟩ = some (loOf fa) ∧ W'.cell? ⟨B kk, 49, none⟩ = some (.int .i64 gu) ∧ W'.cell? ⟨B kk, 48, none⟩ = some (.int .i64 bs)) := Lib.hid (fun W' hS' => by
                  have h := (HM5.out ▸ hS'.its.b kk hkn : Blk W' (B kk) _ (itCells { x with factor := fa }).toArray)
                  exact ⟨h.get 50 (it_factorh _), h.get 51 (it_factorl _), by rw [HGU.out]; exact h.get 49 (it_guess _), by rw [HBS.out]; exact h.get 48 (it_base _)⟩)
                refine wp_region_S (fun _ _ _ W => F1I g4 g5 n B M5 rm gs w W) 1000 1000 100000 true true (by kernel_rfl) (by kernel_rfl) (by kernel_rfl) (E0) ?_
                refine wpAnyS_pre (j := 0) (by kernel_rfl) ?_
                iterate 4
                  refine wpAnyS_nx (v := ?_) rfl (by kernel_rfl) (by kernel_rfl) (by kernel_rfl) (fun _ _ _ h => h) (by rfl) (gives_pure (by rfl) ?_) ?_
                  rotate_left
                  · intro b' d' u' W' hS'
                    obtain ⟨h1, h2, h3, h4⟩ := HF5.out W' hS'
                    go_simp
                    rfl
                  try simp only [Act.put, List.setIfInBounds_toArray, List.set_cons_zero, List.set_cons_succ, List.getElem_toArray, List.getElem_cons_zero, List.getElem_cons_succ]
                refine wpAnyS_take (i := 4) (v := _) rfl (by kernel_rfl) (by kernel_rfl) (by kernel_rfl) (fun _ _ _ h => h) (by rfl) (gives_call (by rfl) _ _ ?_ (fun b' d' u' W' hS' => (sign_b fa W').mono fun e W2 ⟨he, hb⟩ => ⟨he, hS'.bel hb⟩)) ?_
                · intro W'
                  first | rfl | kernel_rfl
                try simp only [Act.put, List.setIfInBounds_toArray, List.set_cons_zero, List.set_cons_succ, List.getElem_toArray, List.getElem_cons_zero, List.getElem_cons_succ]
                refine wpAnyS_pre (j := 5) (by kernel_rfl) ?_
                iterate 16
                  refine wpAnyS_nx (v := ?_) rfl (by kernel_rfl) (by kernel_rfl) (by kernel_rfl) (fun _ _ _ h => h) (by rfl) (gives_pure (by rfl) ?_) ?_
                  rotate_left
                  · intro b' d' u' W' hS'
                    obtain ⟨h1, h2, h3, h4⟩ := HF5.out W' hS'
                    go_simp
                    rfl
                  try simp only [Act.put, List.setIfInBounds_toArray, List.set_cons_zero, List.set_cons_succ, List.getElem_toArray, List.getElem_cons_zero, List.getElem_cons_succ]
                refine wpAnyS_take (i := 21) (v := undef) rfl (by kernel_rfl) (by kernel_rfl) (by kernel_rfl) (fun _ _ _ h => h) (by rfl) (gives_unwanted (by rfl)) ?_
                try simp only [Act.put, List.setIfInBounds_toArray, List.set_cons_zero, List.set_cons_succ, List.getElem_toArray, List.getElem_cons_zero, List.getElem_cons_succ]
                refine wpAnyS_take (i := 22) (v := undef) rfl (by kernel_rfl) (by kernel_rfl) (by kernel_rfl) (fun _ _ _ h => h) (by rfl) (gives_unwanted (by rfl)) ?_
                try simp only [Act.put, List.setIfInBounds_toArray, List.set_cons_zero, List.set_cons_succ, List.getElem_toArray, List.getElem_cons_zero, List.getElem_cons_succ]
                refine wpAnyS_take (i := 23) (v := undef) rfl (by kernel_rfl) (by kernel_rfl) (by kernel_rfl) (fun _ _ _ h => h) (by rfl) (gives_unwanted (by rfl)) ?_
                try simp only [Act.put, List.setIfInBounds_toArray, List.set_cons_zero, List.set_cons_succ, List.getElem_toArray, List.getElem_cons_zero, List.getElem_cons_succ]
                refine wpAnyS_take (i := 24) (v := undef) rfl (by kernel_rfl) (by kernel_rfl) (by kernel_rfl) (fun _ _ _ h => h) (by rfl) (gives_unwanted (by rfl)) ?_
                try simp only [Act.put, List.setIfInBounds_toArray, List.set_cons_zero, List.set_cons_succ, List.getElem_toArray, List.getElem_cons_zero, List.getElem_cons_succ]
                refine wpAnyS_take (i := 25) (v := undef) rfl (by kernel_rfl) (by kernel_rfl) (by kernel_rfl) (fun _ _ _ h => h) (by rfl) (gives_unwanted (by rfl)) ?_
                try simp only [Act.put, List.setIfInBounds_toArray, List.set_cons_zero, List.set_cons_succ, List.getElem_toArray, List.getElem_cons_zero, List.getElem_cons_succ]
                refine wpAnyS_take (i := 26) (v := undef) rfl (by kernel_rfl) (by kernel_rfl) (by kernel_rfl) (fun _ _ _ h => h) (by rfl) (gives_unwanted (by rfl)) ?_
                try simp only [Act.put, List.setIfInBounds_toArray, List.set_cons_zero, List.set_cons_succ, List.getElem_toArray, List.getElem_cons_zero, List.getElem_cons_succ]
                refine wpAnyS_take (i := 27) (v := undef) rfl (by kernel_rfl) (by kernel_rfl) (by kernel_rfl) (fun _ _ _ h => h) (by rfl) (gives_unwanted (by rfl)) ?_
                try simp only [Act.put, List.setIfInBounds_toArray, List.set_cons_zero, List.set_cons_succ, List.getElem_toArray, List.getElem_cons_zero, List.getElem_cons_succ]
                refine wpAnyS_take (i := 28) (v := undef) rfl (by kernel_rfl) (by kernel_rfl) (by kernel_rfl) (fun _ _ _ h => h) (by rfl) (gives_unwanted (by rfl)) ?_
                try simp only [Act.put, List.setIfInBounds_toArray, List.set_cons_zero, List.set_cons_succ, List.getElem_toArray, List.getElem_cons_zero, List.getElem_cons_succ]
                refine wpAnyS_take (i := 29) (v := undef) rfl (by kernel_rfl) (by kernel_rfl) (by kernel_rfl) (fun _ _ _ h => h) (by rfl) (gives_unwanted (by rfl)) ?_
                try simp only [Act.put, List.setIfInBounds_toArray, List.set_cons_zero, List.set_cons_succ, List.getElem_toArray, List.getElem_cons_zero, List.getElem_cons_succ]
                refine wpAnyS_take (i := 30) (v := undef) rfl (by kernel_rfl) (by kernel_rfl) (by kernel_rfl) (fun _ _ _ h => h) (by rfl) (gives_unwanted (by rfl)) ?_
                try simp only [Act.put, List.setIfInBounds_toArray, List.set_cons_zero, List.set_cons_succ, List.getElem_toArray, List.getElem_cons_zero, List.getElem_cons_succ]
                refine wpAnyS_take (i := 31) (v := undef) rfl (by kernel_rfl) (by kernel_rfl) (by kernel_rfl) (fun _ _ _ h => h) (by rfl) (gives_unwanted (by rfl)) ?_
                try simp only [Act.put, List.setIfInBounds_toArray, List.set_cons_zero, List.set_cons_succ, List.getElem_toArray, List.getElem_cons_zero, List.getElem_cons_succ]
                refine wpAnyS_take (i := 32) (v := undef) rfl (by kernel_rfl) (by kernel_rfl) (by kernel_rfl) (fun _ _ _ h => h) (by rfl) (gives_unwanted (by rfl)) ?_
                try simp only [Act.put, List.setIfInBounds_toArray, List.set_cons_zero, List.set_cons_succ, List.getElem_toArray, List.getElem_cons_zero, List.getElem_cons_succ]
                refine wpAnyS_take (i := 33) (v := undef) rfl (by kernel_rfl) (by kernel_rfl) (by kernel_rfl) (fun _ _ _ h => h) (by rfl) (gives_unwanted (by rfl)) ?_
                try simp only [Act.put, List.setIfInBounds_toArray, List.set_cons_zero, List.set_cons_succ, List.getElem_toArray, List.getElem_cons_zero, List.getElem_cons_succ]
                refine wpAnyS_take (i := 34) (v := ?_) rfl (by kernel_rfl) (by kernel_rfl) (by kernel_rfl) (fun _ _ _ h => h) (by rfl) (gives_pure (by rfl) ?_) ?_
                rotate_left
                · intro b' d' u' W' hS'
                  obtain ⟨h1, h2, h3, h4⟩ := HF5.out W' hS'
                  go_simp
                  rfl
                try simp only [Act.put, List.setIfInBounds_toArray, List.set_cons_zero, List.set_cons_succ, List.getElem_toArray, List.getElem_cons_zero, List.getElem_cons_succ]
                refine wpAnyS_done (b := true) (d := true) (by kernel_rfl) (by kernel_rfl) (by kernel_rfl) rfl (fun wS hS => ?_) _
                have H9 := Lib.hid hS
                clear hS E0
                have q1 : wS.cell? ⟨B kk, 49, none⟩ = some (.int .i64 gu) := by rw [HGU.out]; exact (HM5.out ▸ H9.out.its.b kk hkn : Blk wS (B kk) _ (itCells { x with factor := fa }).toArray).get 49 (it_guess _)
                have HXB : Hid (Blk wS (B kk) 89 (itCells { x with factor := fa }).toArray) := Lib.hid (HM5.out ▸ H9.out.its.b kk hkn)
                go_wp2_with (first | (go_at_call 58; refine (of_b _ gu (by omega) (by omega)).mono ?_; rintro e w6 ⟨rfl, hb6⟩; have H10 := Lib.hid (H9.out.bel hb6); have HB6 := Lib.hid (HXB.out.below hb6 HXB.out.lt); clear hb6 q1) | (go_at_call 63; refine (hold_any (B kk) _ gu _ HB6.out).mono ?_; rintro e w7 ⟨rfl, ht⟩; have HT := Lib.hid ht; clear ht))
                go_roundw
                case rel =>
                  refine ⟨i + 1, by omega, by go_num, Lib.hid ?_⟩
                  have hf := H10.out.turn hkn HT.out
                  have e : (fun j => if j = kk then ({ ({ x with factor := fa } : It) with held := true, width := gu } : It) else M5 j) = onK (fun _ => startI true) M ks (i + 1) := by
                    rw [HSC.out]
                    funext k
                    by_cases e : k = kk
                    · subst e
                      simp only [if_true]
                      rw [← HXX.out]
                      unfold startI
                      rw [if_pos HSTP.out, ← HFE.out, HGU.out]
                    · simp only [if_neg e]
                      exact HM5o.out k e
                  rw [← e]
                  exact hf
                case measure => simp [intOf] <;> omega
              · have e1 : decide (gu < bs) = false := decide_eq_false f1
                have HSTP : Hid (stopI true x = false) := Lib.hid (by unfold stopI; rw [← HFE.out, ← HGU.out, ← HBS.out, decide_eq_false f1, decide_eq_false f0]; rfl)
                clear f0 f1
                have HF5 : Hid (∀ W', F1I g4 g5 n B M5 rm gs w W' → W'.cell? ⟨B kk, 50, none⟩ = some (hiOf fa) ∧ W'.cell? ⟨B kk, 51, none⟩ = some (loOf fa) ∧ W'.cell? ⟨B kk, 49, none⟩ = some (.int .i64 gu) ∧ W'.cell? ⟨B kk, 48, none⟩ = some (.int .i64 bs)) := Lib.hid (fun W' hS' => by
                  have h := (HM5.out ▸ hS'.its.b kk hkn : Blk W' (B kk) _ (itCells { x with factor := fa }).toArray)
                  exact ⟨h.get 50 (it_factorh _), h.get 51 (it_factorl _), by rw [HGU.out]; exact h.get 49 (it_guess _), by rw [HBS.out]; exact h.get 48 (it_base _)⟩)
                refine wp_region_S (fun _ _ _ W => F1I g4 g5 n B M5 rm gs w W) 1000 1000 100000 true true (by kernel_rfl) (by kernel_rfl) (by kernel_rfl) (E0) ?_
                refine wpAnyS_pre (j := 0) (by kernel_rfl) ?_
                iterate 4
                  refine wpAnyS_nx (v := ?_) rfl (by kernel_rfl) (by kernel_rfl) (by kernel_rfl) (fun _ _ _ h => h) (by rfl) (gives_pure (by rfl) ?_) ?_
                  rotate_left
                  · intro b' d' u' W' hS'
                    obtain ⟨h1, h2, h3, h4⟩ := HF5.out W' hS'
                    go_simp
                    rfl
                  try simp only [Act.put, List.setIfInBounds_toArray, List.set_cons_zero, List.set_cons_succ, List.getElem_toArray, List.getElem_cons_zero, List.getElem_cons_succ]
                refine wpAnyS_take (i := 4) (v := _) rfl (by kernel_rfl) (by kernel_rfl) (by kernel_rfl) (fun _ _ _ h => h) (by rfl) (gives_call (by rfl) _ _ ?_ (fun b' d' u' W' hS' => (sign_b fa W').mono fun e W2 ⟨he, hb⟩ => ⟨he, hS'.bel hb⟩)) ?_
                · intro W'
                  first | rfl | kernel_rfl
                try simp only [Act.put, List.setIfInBounds_toArray, List.set_cons_zero, List.set_cons_succ, List.getElem_toArray, List.getElem_cons_zero, List.getElem_cons_succ]
                refine wpAnyS_pre (j := 5) (by kernel_rfl) ?_
                iterate 19
                  refine wpAnyS_nx (v := ?_) rfl (by kernel_rfl) (by kernel_rfl) (by kernel_rfl) (fun _ _ _ h => h) (by rfl) (gives_pure (by rfl) ?_) ?_
                  rotate_left
                  · intro b' d' u' W' hS'
                    obtain ⟨h1, h2, h3, h4⟩ := HF5.out W' hS'
                    go_simp
                    rfl
                  try simp only [Act.put, List.setIfInBounds_toArray, List.set_cons_zero, List.set_cons_succ, List.getElem_toArray, List.getElem_cons_zero, List.getElem_cons_succ]
                refine wpAnyS_take (i := 24) (v := undef) rfl (by kernel_rfl) (by kernel_rfl) (by kernel_rfl) (fun _ _ _ h => h) (by rfl) (gives_unwanted (by rfl)) ?_
                try simp only [Act.put, List.setIfInBounds_toArray, List.set_cons_zero, List.set_cons_succ, List.getElem_toArray, List.getElem_cons_zero, List.getElem_cons_succ]
                refine wpAnyS_take (i := 25) (v := undef) rfl (by kernel_rfl) (by kernel_rfl) (by kernel_rfl) (fun _ _ _ h => h) (by rfl) (gives_unwanted (by rfl)) ?_
                try simp only [Act.put, List.setIfInBounds_toArray, List.set_cons_zero, List.set_cons_succ, List.getElem_toArray, List.getElem_cons_zero, List.getElem_cons_succ]
                refine wpAnyS_take (i := 26) (v := undef) rfl (by kernel_rfl) (by kernel_rfl) (by kernel_rfl) (fun _ _ _ h => h) (by rfl) (gives_unwanted (by rfl)) ?_
                try simp only [Act.put, List.setIfInBounds_toArray, List.set_cons_zero, List.set_cons_succ, List.getElem_toArray, List.getElem_cons_zero, List.getElem_cons_succ]
                refine wpAnyS_take (i := 27) (v := undef) rfl (by kernel_rfl) (by kernel_rfl) (by kernel_rfl) (fun _ _ _ h => h) (by rfl) (gives_unwanted (by rfl)) ?_
                try simp only [Act.put, List.setIfInBounds_toArray, List.set_cons_zero, List.set_cons_succ, List.getElem_toArray, List.getElem_cons_zero, List.getElem_cons_succ]
                refine wpAnyS_take (i := 28) (v := undef) rfl (by kernel_rfl) (by kernel_rfl) (by kernel_rfl) (fun _ _ _ h => h) (by rfl) (gives_unwanted (by rfl)) ?_
                try simp only [Act.put, List.setIfInBounds_toArray, List.set_cons_zero, List.set_cons_succ, List.getElem_toArray, List.getElem_cons_zero, List.getElem_cons_succ]
                refine wpAnyS_take (i := 29) (v := undef) rfl (by kernel_rfl) (by kernel_rfl) (by kernel_rfl) (fun _ _ _ h => h) (by rfl) (gives_unwanted (by rfl)) ?_
                try simp only [Act.put, List.setIfInBounds_toArray, List.set_cons_zero, List.set_cons_succ, List.getElem_toArray, List.getElem_cons_zero, List.getElem_cons_succ]
                refine wpAnyS_take (i := 30) (v := undef) rfl (by kernel_rfl) (by kernel_rfl) (by kernel_rfl) (fun _ _ _ h => h) (by rfl) (gives_unwanted (by rfl)) ?_
                try simp only [Act.put, List.setIfInBounds_toArray, List.set_cons_zero, List.set_cons_succ, List.getElem_toArray, List.getElem_cons_zero, List.getElem_cons_succ]
                refine wpAnyS_take (i := 31) (v := undef) rfl (by kernel_rfl) (by kernel_rfl) (by kernel_rfl) (fun _ _ _ h => h) (by rfl) (gives_unwanted (by rfl)) ?_
                try simp only [Act.put, List.setIfInBounds_toArray, List.set_cons_zero, List.set_cons_succ, List.getElem_toArray, List.getElem_cons_zero, List.getElem_cons_succ]
                refine wpAnyS_take (i := 32) (v := undef) rfl (by kernel_rfl) (by kernel_rfl) (by kernel_rfl) (fun _ _ _ h => h) (by rfl) (gives_unwanted (by rfl)) ?_
                try simp only [Act.put, List.setIfInBounds_toArray, List.set_cons_zero, List.set_cons_succ, List.getElem_toArray, List.getElem_cons_zero, List.getElem_cons_succ]
                refine wpAnyS_pre (j := 33) (by kernel_rfl) ?_
                iterate 2
                  refine wpAnyS_nx (v := ?_) rfl (by kernel_rfl) (by kernel_rfl) (by kernel_rfl) (fun _ _ _ h => h) (by rfl) (gives_pure (by rfl) ?_) ?_
                  rotate_left
                  · intro b' d' u' W' hS'
                    obtain ⟨h1, h2, h3, h4⟩ := HF5.out W' hS'
                    go_simp
                    rfl
                  try simp only [Act.put, List.setIfInBounds_toArray, List.set_cons_zero, List.set_cons_succ, List.getElem_toArray, List.getElem_cons_zero, List.getElem_cons_succ]
                refine wpAnyS_done (b := true) (d := true) (by kernel_rfl) (by kernel_rfl) (by kernel_rfl) rfl (fun wS hS => ?_) _
                have H9 := Lib.hid hS
                clear hS E0
                go_wp2_with fail
                go_roundw
                case rel =>
                  refine ⟨i + 1, by omega, by go_num, Lib.hid ?_⟩
                  have e : M5 = onK (fun _ => startI true) M ks (i + 1) := by
                    rw [HSC.out]
                    funext k
                    by_cases e : k = kk
                    · subst e
                      simp only [if_true]
                      rw [← HXX.out, HM5.out]
                      unfold startI
                      rw [if_neg (by rw [HSTP.out]; decide), ← HFE.out]
                    · simp only [if_neg e]
                      exact HM5o.out k e
                  rw [← e]
                  exact H9.out
                case measure => simp [intOf] <;> omega
        · have g0 : decide ((i : Int) < (m : Int)) = false := decide_eq_false (by omega)
          have g0' : decide (i < m) = false := decide_eq_false hlt
          have hkn : i = m := by omega
          rw [hkn] at HX
          clear hkn hlt
          have HST : Hid (onK (fun _ => startI gr) M ks m = startM gr M ks) := Lib.hid (by rw [HM.out, onK_all]; rfl)
          rw [HST.out] at HX
          have HRB := Lib.hid (RdB.start (grows := gr) HFB.out)
          have HLO : Hid (loopM m rm gr (startM gr M ks) ks = fitM c M ks) := Lib.hid (by
            unfold fitM; rw [← HRM2.out, ← HGR.out, HM.out])
          have H0 : Hid (∃ M', RdB gr M M' ks ∧ loopM m rm gr M' ks = fitM c M ks ∧ F1I g4 g5 n B M' rm gs w wr) := Lib.hid ⟨_, HRB.out, HLO.out, HX.out⟩
          go_wp2_with fail
          go_step3
          go_wp2_with fail
          go_loopg [11, 12] (m + 1) (fun q v11 v12 wx => Hid (∃ M', (othM M' ks).length < q ∧ RdB gr M M' ks ∧ loopM m rm gr M' ks = fitM c M ks ∧ F1I g4 g5 n B M' rm gs w wx))
          case atStart =>
            obtain ⟨M', h1, h2, h3⟩ := H0.out
            exact Lib.hid ⟨M', by have := List.length_filter_le (fun k => !(M' k).held) ks; have := HM.out; unfold othM; omega, h1, h2, h3⟩
          case round =>
            obtain ⟨M', hq, hrd, hlo, hf⟩ := hrel.out
            have HQ := Lib.hid hq
            have HRD := Lib.hid hrd
            have HLP := Lib.hid hlo
            have HF := Lib.hid hf
            clear hq hrd hlo hf
            have q1 := HF.out.rm.get 0 (v := hiOf rm) rfl
            have q2 := HF.out.rm.get 1 (v := loOf rm) rfl
            obtain ⟨g11, hg11⟩ : ∃ g11, g11 = wr.heap.size := ⟨_, rfl⟩
            have HG0 : Hid (F4I g4 g5 g11 n B M' rm gs rm [] (.slice none 0 0) w (wr.alloc (.cells #[hiOf rm, loOf rm] 87))) := Lib.hid
              ⟨HF.out.bel (bal (Below.refl _ _) _), Blk.at_ _ _ _ hg11, World.ownsRow_nil _ _ _ _, by rw [hg11]; exact HF.out.k.size, by have := HF.out.rm.lt; omega, by have := HF.out.gs.lt; omega⟩
            obtain ⟨w5, hw5⟩ : ∃ w5, w5 = wr.alloc (.cells #[hiOf rm, loOf rm] 87) := ⟨_, rfl⟩
            go_upto_region 20 with (fail)
            rw [← hg11]
            rw [← hw5] at HG0 ⊢
            clear hg11 hw5 q1 q2
            go_wp2_with fail
            go_loopw [12, 116] (fun v kv wy => ∃ i : Nat, i ≤ m ∧ kv = .int .i64 i ∧ Hid (F4I g4 g5 g11 n B M' rm gs (restM rm M' (ks.take i)) (othM M' (ks.take i)) v w wy)) (fun _ kv _ => m - (intOf kv).toNat)
            case atStart => exact ⟨0, by omega, rfl, Lib.hid (by rw [show restM rm M' (ks.take 0) = rm by simp [restM, sumM], show othM M' (ks.take 0) = [] by simp [othM]]; exact HG0.out)⟩
            case round =>
              obtain ⟨i, hi, rfl, HY⟩ := hrel
              obtain ⟨Ao, co, hv⟩ := own_form HY.out.own
              subst hv
              by_cases hlt : i < m
              · have g0 : decide ((i : Int) < (m : Int)) = true := decide_eq_true (by omega)
                have g0' : decide (i < m) = true := decide_eq_true hlt
                have hki : (i : Int) < (m : Int) := by omega
                have hk0 : (0 : Int) ≤ (i : Int) := by omega
                have wk : IntKind.i64.wrap ((i : Int) + 1) = (i : Int) + 1 := IntWalk.i64_in _ ⟨by omega, by omega⟩
                have hil : i < ks.length := by rw [← HM.out]; exact hlt
                obtain ⟨ad, rfl, hc⟩ := (HP.out.kp HY.out.f.k).at_ hil
                obtain ⟨kk, hkk⟩ : ∃ kk, kk = ks[i] := ⟨_, rfl⟩
                rw [← hkk] at hc
                have hmem : kk ∈ ks := by rw [hkk]; exact List.getElem_mem hil
                have hkn := HO.out kk hmem
                have hba := (HFB.out kk hmem).base
                have hsb := (HRD.out.same kk hmem).base
                have hrk := restK_bd (room := rm) HFB.out HRD.out i
                have hrk1 := restK_bd (room := rm) HFB.out HRD.out (i + 1)
                rw [← HM.out] at hrk hrk1
                have HOT := Lib.hid (othM_take M' ks i hil)
                have HRT := Lib.hid (restM_take rm M' ks i hil)
                rw [← hkk] at HOT HRT
                clear hkk
                obtain ⟨x, hx⟩ : ∃ x, x = M' kk := ⟨_, rfl⟩
                rw [← hx] at HOT HRT hsb
                have HIX : Hid (Blk wr (B kk) 89 (itCells x).toArray) := Lib.hid (by rw [hx]; exact HY.out.f.its.b kk hkn)
                have HXX := Lib.hid hx
                clear hx
                have q5 := HIX.out.get 56 (it_held x)
                obtain ⟨rs, hrs⟩ : ∃ rs, rs = restM rm M' (ks.take i) := ⟨_, rfl⟩
                obtain ⟨oth, hoth⟩ : ∃ oth, oth = othM M' (ks.take i) := ⟨_, rfl⟩
                have hol : oth.length ≤ i := by rw [hoth]; unfold othM; exact Nat.le_trans (List.length_filter_le _ _) (List.length_take_le _ _)
                obtain ⟨rs1, hrs1⟩ : ∃ rs1, rs1 = restM rm M' (ks.take (i + 1)) := ⟨_, rfl⟩
                rw [← hrs] at HY hrk HRT
                rw [← hoth] at HY HOT
                rw [← hoth]
                rw [← hrs1] at hrk1 HRT
                have HRS1 := Lib.hid hrs1
                clear hrs hoth hrs1
                cases hh : x.held
                · rw [hh] at q5 HOT HRT
                  obtain ⟨bs, hbs⟩ : ∃ bs, bs = x.base := ⟨_, rfl⟩
                  rw [← hbs] at hsb
                  have HBS := Lib.hid hbs
                  have HR1 : Hid (rs - bs = rs1) := Lib.hid (by rw [HRT.out]; simp [hbs])
                  have hbb : -10995116277760 ≤ bs ∧ bs ≤ 10995116277760 := by omega
                  clear hbs hh hsb hba
                  have wv : W128 (rs - bs) := ⟨by omega, by omega⟩
                  go_upto_region 25 with (fail)
                  clear q5 hc
                  have E0 : F4I g4 g5 g11 n B M' rm gs rs oth (.slice Ao oth.length co) w wr.drew := HY.out.bel (Below.refl _ _).drew
                  refine wp_region_S (fun b _ _ W => F4I g4 g5 g11 n B M' rm gs (if b then rs - bs else rs) oth (.slice Ao oth.length co) w W) 7 1000 100000 false true (by kernel_rfl) (by kernel_rfl) (by kernel_rfl) (E0) ?_
                  refine wpAnyS_pre (j := 0) (by kernel_rfl) ?_
                  iterate 5
                    refine wpAnyS_nx (v := ?_) rfl (by kernel_rfl) (by kernel_rfl) (by kernel_rfl) (fun _ _ _ h => h) (by rfl) (gives_pureF (by rfl) (by kernel_rfl) ?_) ?_
                    rotate_left
                    · intro d' u' W' hS'
                      have h1 : W'.cell? ⟨g11, 0, none⟩ = some (hiOf rs) := hS'.rs.get 0 rfl
                      have h2 : W'.cell? ⟨g11, 1, none⟩ = some (loOf rs) := hS'.rs.get 1 rfl
                      have hI : Blk W' (B kk) 89 (itCells x).toArray := HXX.out ▸ hS'.f.its.b kk hkn
                      have h3 : W'.cell? ⟨B kk, 48, none⟩ = some (.int .i64 bs) := by rw [HBS.out]; exact hI.get 48 (it_base x)
                      clear hI
                      go_simp
                      rfl
                    try simp only [Act.put, List.setIfInBounds_toArray, List.set_cons_zero, List.set_cons_succ, List.getElem_toArray, List.getElem_cons_zero, List.getElem_cons_succ]
                  refine wpAnyS_take (i := 5) (v := _) rfl (by kernel_rfl) (by kernel_rfl) (by kernel_rfl) (fun _ _ _ h => h) (by rfl) (gives_callF (by rfl) (by kernel_rfl) _ _ ?_ (fun d' u' W' hS' => (of_b W' bs (by omega) (by omega)).mono fun e W2 ⟨he, hb⟩ => ⟨he, hS'.bel hb⟩)) ?_
                  · intro W'
                    first | rfl | kernel_rfl
                  try simp only [Act.put, List.setIfInBounds_toArray, List.set_cons_zero, List.set_cons_succ, List.getElem_toArray, List.getElem_cons_zero, List.getElem_cons_succ]
                  refine wpAnyS_take (i := 6) (v := _) rfl (by kernel_rfl) (by kernel_rfl) (by kernel_rfl) (fun _ _ _ h => h) (by rfl) (gives_callF (by rfl) (by kernel_rfl) _ _ ?_ (fun d' u' W' hS' => (minus_b W' rs bs wv).mono fun e W2 ⟨he, hb⟩ => ⟨he, hS'.bel hb⟩)) ?_
                  · intro W'
                    first | rfl | kernel_rfl
                  try simp only [Act.put, List.setIfInBounds_toArray, List.set_cons_zero, List.set_cons_succ, List.getElem_toArray, List.getElem_cons_zero, List.getElem_cons_succ]
                  refine wpAnyS_store (i := 7) (d := true) (fun W' => (W'.setCell ⟨g11, 0, none⟩ (hiOf (rs - bs))).setCell ⟨g11, 1, none⟩ (loOf (rs - bs))) rfl (by kernel_rfl) (by rfl) (by rfl) (by kernel_rfl) rfl ?_ (fun W' hS' => hS'.put) ?_
                  · intro W' hS'
                    have h1 : W'.cell? ⟨g11, 0, none⟩ = some (hiOf rs) := hS'.rs.get 0 rfl
                    have h2 : W'.cell? ⟨g11, 1, none⟩ = some (loOf rs) := hS'.rs.get 1 rfl
                    have q3 := hS'.rs.frozen 0
                    have q4 := hS'.rs.frozen 1
                    go_simp
                    try rfl
                  try simp only [Act.put, List.setIfInBounds_toArray, List.set_cons_zero, List.set_cons_succ, List.getElem_toArray, List.getElem_cons_zero, List.getElem_cons_succ]
                  refine wpAnyS_done (b := true) (d := true) (by kernel_rfl) (by kernel_rfl) (by kernel_rfl) rfl (fun wS hS => ?_) _
                  have H25 := Lib.hid (show F4I g4 g5 g11 n B M' rm gs (rs - bs) oth (.slice Ao oth.length co) w wS from hS)
                  rw [HR1.out] at H25
                  clear hS E0 wv
                  have h9 : oth.length + 1 ≤ 4294967296 := by omega
                  have HBZ := Lib.hid (show w.heap.size ≤ wS.heap.size from H25.out.f.k.size)
                  have HON : Hid (othM M' (ks.take (i + 1)) = oth ++ [kk]) := Lib.hid (by rw [HOT.out]; simp)
                  go_wp2_with (at_builtin; refine wpList_app (m := 1) rfl _ _ rfl el_ptr H25.out.own HBZ.out rfl [.pointer (some ⟨B kk, 0, none⟩)] rfl rfl (by simp [Value.oneCell']) h9 (by omega) ?_; intro A6 c6 w6 hown6 _ hg6 _; have H26 := Lib.hid (H25.out.add hown6 hg6); clear hown6 hg6)
                  go_roundw
                  case rel => exact ⟨i + 1, by omega, by go_num, Lib.hid (by rw [HON.out, ← HRS1.out]; exact H26.out)⟩
                  case measure => simp [intOf] <;> omega
                · rw [hh] at q5 HOT HRT
                  obtain ⟨wd, hwd⟩ : ∃ wd, wd = x.width := ⟨_, rfl⟩
                  have HWD := Lib.hid hwd
                  have HR1 : Hid (rs - wd = rs1) := Lib.hid (by rw [HRT.out]; simp [hwd])
                  have HON : Hid (othM M' (ks.take (i + 1)) = oth) := Lib.hid (by rw [HOT.out]; simp)
                  have wv : W128 (rs - wd) := by rw [HR1.out]; exact ⟨by omega, by omega⟩
                  clear hwd hh
                  go_upto_region 24 with (fail)
                  clear q5 hc
                  have E0 : F4I g4 g5 g11 n B M' rm gs rs oth (.slice Ao oth.length co) w wr.drew := HY.out.bel (Below.refl _ _).drew
                  refine wp_region_S (fun b _ _ W => F4I g4 g5 g11 n B M' rm gs (if b then rs - wd else rs) oth (.slice Ao oth.length co) w W) 6 1000 100000 false true (by kernel_rfl) (by kernel_rfl) (by kernel_rfl) (E0) ?_
                  refine wpAnyS_pre (j := 0) (by kernel_rfl) ?_
                  iterate 5
                    refine wpAnyS_nx (v := ?_) rfl (by kernel_rfl) (by kernel_rfl) (by kernel_rfl) (fun _ _ _ h => h) (by rfl) (gives_pureF (by rfl) (by kernel_rfl) ?_) ?_
                    rotate_left
                    · intro d' u' W' hS'
                      have h1 : W'.cell? ⟨g11, 0, none⟩ = some (hiOf rs) := hS'.rs.get 0 rfl
                      have h2 : W'.cell? ⟨g11, 1, none⟩ = some (loOf rs) := hS'.rs.get 1 rfl
                      have hI : Blk W' (B kk) 89 (itCells x).toArray := HXX.out ▸ hS'.f.its.b kk hkn
                      have h3 : W'.cell? ⟨B kk, 54, none⟩ = some (hiOf wd) := by rw [HWD.out]; exact hI.get 54 (it_widthh x)
                      have h4 : W'.cell? ⟨B kk, 55, none⟩ = some (loOf wd) := by rw [HWD.out]; exact hI.get 55 (it_widthl x)
                      clear hI
                      go_simp
                      rfl
                    try simp only [Act.put, List.setIfInBounds_toArray, List.set_cons_zero, List.set_cons_succ, List.getElem_toArray, List.getElem_cons_zero, List.getElem_cons_succ]
                  refine wpAnyS_take (i := 5) (v := _) rfl (by kernel_rfl) (by kernel_rfl) (by kernel_rfl) (fun _ _ _ h => h) (by rfl) (gives_callF (by rfl) (by kernel_rfl) _ _ ?_ (fun d' u' W' hS' => (minus_b W' rs wd wv).mono fun e W2 ⟨he, hb⟩ => ⟨he, hS'.bel hb⟩)) ?_
                  · intro W'
                    first | rfl | kernel_rfl
                  try simp only [Act.put, List.setIfInBounds_toArray, List.set_cons_zero, List.set_cons_succ, List.getElem_toArray, List.getElem_cons_zero, List.getElem_cons_succ]
                  refine wpAnyS_store (i := 6) (d := true) (fun W' => (W'.setCell ⟨g11, 0, none⟩ (hiOf (rs - wd))).setCell ⟨g11, 1, none⟩ (loOf (rs - wd))) rfl (by kernel_rfl) (by rfl) (by rfl) (by kernel_rfl) rfl ?_ (fun W' hS' => hS'.put) ?_
                  · intro W' hS'
                    have h1 : W'.cell? ⟨g11, 0, none⟩ = some (hiOf rs) := hS'.rs.get 0 rfl
                    have h2 : W'.cell? ⟨g11, 1, none⟩ = some (loOf rs) := hS'.rs.get 1 rfl
                    have q3 := hS'.rs.frozen 0
                    have q4 := hS'.rs.frozen 1
                    go_simp
                    try rfl
                  try simp only [Act.put, List.setIfInBounds_toArray, List.set_cons_zero, List.set_cons_succ, List.getElem_toArray, List.getElem_cons_zero, List.getElem_cons_succ]
                  refine wpAnyS_done (b := true) (d := true) (by kernel_rfl) (by kernel_rfl) (by kernel_rfl) rfl (fun wS hS => ?_) _
                  have H25 := Lib.hid (show F4I g4 g5 g11 n B M' rm gs (rs - wd) oth (.slice Ao oth.length co) w wS from hS)
                  rw [HR1.out] at H25
                  clear hS E0 wv
                  go_wp2_with fail
                  go_roundw
                  case rel => exact ⟨i + 1, by omega, by go_num, Lib.hid (by rw [HON.out, ← HRS1.out]; exact H25.out)⟩
                  case measure => simp [intOf] <;> omega
              · have g0 : decide ((i : Int) < (m : Int)) = false := decide_eq_false (by omega)
                have g0' : decide (i < m) = false := decide_eq_false hlt
                have hkn : i = m := by omega
                have htk : ks.take i = ks := by rw [hkn, HM.out, List.take_length]
                rw [htk] at HY ⊢
                clear hkn hlt htk
                by_cases ho : othM M' ks = []
                · have e0 : (((othM M' ks).length : Int) == 0) = true := by rw [ho]; rfl
                  have HE : Hid (fitM c M ks = M') := Lib.hid (by rw [← HLP.out, loop_done _ _ _ _ _ ho])
                  clear ho
                  go_wp2_with fail
                  rw [Exit.noGoto_normal]
                  go_end0
                  rw [HE.out]
                  exact ⟨rfl, HY.out.f.its, HY.out.f.k⟩
                · have hl0 : (othM M' ks).length ≠ 0 := fun e => ho (List.eq_nil_of_length_eq_zero e)
                  have e0 : (((othM M' ks).length : Int) == 0) = false := beq_eq_false_iff_ne.2 (by omega)
                  have HOE := Lib.hid ho
                  have hrb2 := rest_bd (room := rm) HFB.out HRD.out ho
                  rw [← HM.out] at hrb2
                  have hoc : ∀ k ∈ othM M' ks, k ∈ ks ∧ (M' k).held = false := fun k hk => by
                    obtain ⟨h1, h2⟩ := List.mem_filter.1 hk
                    exact ⟨h1, by simpa using h2⟩
                  have hof : ∀ k ∈ othM M' ks, FacB (M' k) := fun k hk => by
                    obtain ⟨h1, h2⟩ := hoc k hk
                    have hb := HFB.out k h1
                    refine ⟨?_, by rw [(HRD.out.same k h1).base]; exact hb.base⟩
                    rw [HRD.out.fac k h1]
                    exact ⟨facI_nn hb (HRD.out.un k h1 h2), (facI_bd hb).2⟩
                  have hon : ∀ k ∈ othM M' ks, k < n := fun k hk => HO.out k (hoc k hk).1
                  have hod : (othM M' ks).Nodup := HD.out.sublist List.filter_sublist
                  have hom : (othM M' ks).length ≤ 100000 := by have := List.length_filter_le (fun k => !(M' k).held) ks; have := HM.out; unfold othM; omega
                  have hpt : PtrAt wr n B Ao (othM M' ks) := ⟨Reads.of_own HY.out.own, fun ad e => fun ⟨k, hk, e2⟩ => by
                    have := (HY.out.own.lt ad.block (by rw [e]; rfl)).1
                    have := HY.out.f.lt k hk
                    omega⟩
                  obtain ⟨rs, hrs⟩ : ∃ rs, rs = restM rm M' ks := ⟨_, rfl⟩
                  have hrs2 : -4000000000000000000 ≤ rs ∧ rs ≤ 4000000000000000000 := by rw [hrs]; omega
                  have hab := fun k hk => aim_bd (grows := gr) (M := M') (oth := othM M' ks) hrs2 (fun k hk => (hof k hk).factor.1) (fun k hk => (hof k hk).base) (fun k hk => fac_le M' _ (fun k hk => (hof k hk).factor.1) k hk) k hk
                  have HNX : Hid (RdB gr M (roundM rm gr M' ks) ks ∧ loopM m rm gr (roundM rm gr M' ks) ks = fitM c M ks ∧ (othM (roundM rm gr M' ks) ks).length < (othM M' ks).length) := Lib.hid
                    ⟨HRD.out.round HFB.out ho (fun k hk => by have := hab k hk; rw [hrs] at this; omega), by rw [← loop_step rm gr M' ks m (by have := List.length_filter_le (fun k => !(M' k).held) ks; have := HM.out; unfold othM; omega) ho]; exact HLP.out, round_less rm gr M' ks ho⟩
                  obtain ⟨oth, hoth⟩ : ∃ oth, oth = othM M' ks := ⟨_, rfl⟩
                  have HRD2 : Hid (roundM rm gr M' ks = holdM (aimsM M' oth rs gr) oth) := Lib.hid (by unfold roundM; rw [← hoth, ← hrs])
                  have hai : ∀ k ∈ oth, AimB (aimsM M' oth rs gr k) := fun k hk => by
                    have hk2 := hk
                    rw [hoth] at hk2
                    obtain ⟨h1, _⟩ := hoc k hk2
                    have hb := HFB.out k h1
                    have hs := HRD.out.same k h1
                    have ha := hab k hk2
                    rw [← hoth] at ha
                    unfold aimsM
                    rw [if_pos hk]
                    exact ⟨by show LnM (M' k).s.maxw; rw [hs.s]; exact hb.maxw, by show LnM (M' k).s.minw; rw [hs.s]; exact hb.minw, by show CB (M' k).c; rw [hs.c]; exact hb.c, by show -9223372036854775808 ≤ aimF M' oth rs gr k ∧ aimF M' oth rs gr k ≤ 9223372036854775807; omega⟩
                  have hlq := HQ.out
                  rw [← hrs] at HY
                  rw [← hoth] at HY hof hon hod hom hpt e0 HNX hlq
                  rw [← hoth]
                  have HAI := Lib.hid (aims_any n B M' oth rs gr Ao co wr hom hod hon hpt HY.out.f.its hof hrs2)
                  have HHS := Lib.hid (fun W (hi : Its n B (aimsM M' oth rs gr) W) (hk : Kp (isB n B) wr W) => holdSome_any n B (aimsM M' oth rs gr) oth Ao co W hom hod hon (hpt.kp hk) hi hai)
                  have HLQ := Lib.hid hlq
                  clear hoth hrs hof hon hod hom hpt hoc hl0 hab hai ho hrb2 hrs2 hlq
                  have q1 := HY.out.rs.get 0 (v := hiOf rs) rfl
                  have q2 := HY.out.rs.get 1 (v := loOf rs) rfl
                  go_wp2_with (first
                    | (go_at_call 64; refine HAI.out.mono ?_; rintro e w8 ⟨rfl, hi8, hk8⟩; have H8 := Lib.hid (And.intro hi8 hk8); clear hi8 hk8 q1 q2)
                    | (go_at_call 65; refine (HHS.out _ H8.out.1 H8.out.2).mono ?_; rintro e w9 ⟨rfl, hi9, hk9⟩; have H9 := Lib.hid (And.intro hi9 hk9); clear hi9 hk9))
                  go_roundg (gk - 1)
                  case measure => have := HLQ.out; omega
                  case rel =>
                    refine Lib.hid ⟨roundM rm gr M' ks, ?_, HNX.out.1, HNX.out.2.1, ?_⟩
                    · have := HNX.out.2.2; have := HLQ.out; omega
                    · rw [HRD2.out]; exact HY.out.f.kp (H8.out.2.trans H9.out.2) H9.out.1
end Go.Proofs.Ytbopeofglhkffaa
