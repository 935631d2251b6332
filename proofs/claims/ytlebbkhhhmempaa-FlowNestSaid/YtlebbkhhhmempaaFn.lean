/- Contracts: contents of flow's walk. -/
import Derived.Test.YtlebbkhhhmempaaFm
set_option linter.unusedSimpArgs false
set_option linter.unusedVariables false
namespace Go.Proofs.Ytlebbkhhhmempaa
open Go.RowKit
attribute [local go_sem] block_of_add fld_w fld_l
/-- What one child does. -/
def stepC (n : Nat) (l : List Nd) (us : List Ud) (hs : List Int) (i : Nat) (x : Int) (k : Wk) (kid : Int) : Option Wk :=
  match styF l kid.toNat with
  | none => none
  | some s =>
    if s.float ≠ 0 then floatF us hs s k kid.toNat x (usF us i).w
    else match openF us s k kid.toNat x with
      | none => none
      | some k1 => match contF n l us hs k1 kid.toNat (x + (usF us kid.toNat).left) with
        | none => none
        | some k2 => leaveF s k2 kid.toNat (mgF s.m2)
theorem contF_succ (n : Nat) (l : List Nd) (us : List Ud) (hs : List Int) (k : Wk) (i : Nat) (x : Int) : contF (n + 1) l us hs k i x = (kidsF l i).foldlM (stepC n l us hs i x) k := rfl
theorem floatF_wkB {us : List Ud} {hs : List Int} {s : Sty} {k k' : Wk} {i : Nat} {x wide : Int} (h : floatF us hs s k i x wide = some k') : wkB k' = true := by
  unfold floatF at h
  simp only at h
  split at h
  · obtain ⟨a, b⟩ := chk_p h; rw [b]; exact a
  · simp at h
theorem leaveF_wkB {s : Sty} {k k' : Wk} {i : Nat} {b : Int} (h : leaveF s k i b = some k') : wkB k' = true := by
  have c : ∀ {k2 : Wk}, chk k2 = some k' → wkB k' = true := fun h => by obtain ⟨a, b⟩ := chk_p h; rw [b]; exact a
  unfold leaveF at h
  split at h
  · simp at h
  · split at h
    · split at h
      · simp at h
      · exact c h
    · split at h
      · exact c h
      · simp only at h
        generalize (if 0 < floorF s then settleF k else k) = k1 at h
        split at h
        · simp at h
        · split at h
          · exact c h
          · exact c h
theorem openF_wkB {us : List Ud} {s : Sty} {k k' : Wk} {i : Nat} {x : Int} (h : openF us s k i x = some k') : wkB k' = true := by
  have c : ∀ {k2 : Wk}, chk k2 = some k' → wkB k' = true := fun h => by obtain ⟨a, b⟩ := chk_p h; rw [b]; exact a
  unfold openF at h
  split at h
  · simp at h
  · simp only at h
    split at h
    · exact c h
    · split at h
      · exact c h
      · exact c h
theorem stepC_wkB {n : Nat} {l : List Nd} {us : List Ud} {hs : List Int} {i : Nat} {x : Int} {k k' : Wk} {kid : Int} (h : stepC n l us hs i x k kid = some k') : wkB k' = true := by
  unfold stepC at h
  split at h
  · simp at h
  · split at h
    · exact floatF_wkB h
    · split at h
      · simp at h
      · split at h
        · simp at h
        · exact leaveF_wkB h
theorem fold_wkB {n : Nat} {l : List Nd} {us : List Ud} {hs : List Int} {i : Nat} {x : Int} : ∀ (ks : List Int) {k k' : Wk}, wkB k = true → ks.foldlM (stepC n l us hs i x) k = some k' → wkB k' = true := by
  intro ks
  induction ks with
  | nil => intro k k' hk h; simp at h; rw [← h]; exact hk
  | cons a t ih =>
    intro k k' hk h
    rw [List.foldlM_cons] at h
    cases hs' : stepC n l us hs i x k a with
    | none => rw [hs'] at h; simp at h
    | some k1 => rw [hs'] at h; exact ih (stepC_wkB hs') h
theorem contF_wkB {n : Nat} {l : List Nd} {us : List Ud} {hs : List Int} {i : Nat} {x : Int} {k k' : Wk} (hk : wkB k = true) (h : contF n l us hs k i x = some k') : wkB k' = true := by
  cases n with
  | zero => simp [contF] at h
  | succ n => exact fold_wkB _ hk h
theorem WkI.kr {C : Cx} (hC : CxOk C) {k : Wk} {Af Ao : Option Addr} {cf co : Nat} {W : World} (h : WkI C k Af cf Ao co W) (p : Nat) (hp : p < C.l.length) : ∃ A c, W.cell? ⟨C.gk, p, none⟩ = some (.slice A (kidsF C.l p).length c) ∧ ∀ j (hj : j < (kidsF C.l p).length), ∃ ad : Addr, A = some ad ∧ ad.block < C.w0.heap.size ∧ ¬ cxBad C ad.block ∧ C.w0.cell? (ad.add j) = some (.int .i64 (kidsF C.l p)[j]) := by
  obtain ⟨A, c, h1, h2⟩ := hC.kd p hp
  refine ⟨A, c, (h.kp.cell (p := ⟨C.gk, p, none⟩) hC.gk.2.2 (fun hb => by rcases hb with hb | hb; exact hC.gk.1 hb; exact hC.gk.2.1 hb)).trans h1, fun j hj => ?_⟩
  obtain ⟨ad, e, n1, n2, lt, hc⟩ := h2 j hj
  have hnb : ¬ cxBad C ad.block := fun hb => by rcases hb with hb | hb; exact n1 hb; exact n2 hb
  exact ⟨ad, e, lt, hnb, hc⟩
set_option maxRecDepth 100000 in
set_option maxHeartbeats 2000000 in
theorem contents_any (C : Cx) (hC : CxOk C) : ∀ (n : Nat) (k : Wk) (Af Ao : Option Addr) (cf co : Nat) (W : World) (i : Nat) (x : Int) (k' : Wk), WkI C k Af cf Ao co W → wkB k = true → i < C.l.length → contF n C.l C.us C.hs k i x = some k' →
    Calls Try.prog 44 #[.pointer (some ⟨C.bw, 0, none⟩), .int .i64 i, .int .i64 x] W fun e w' => (∃ v, e = .returned v) ∧ ∃ Af' cf' Ao' co', WkI C k' Af' cf' Ao' co' w' := by
  intro n
  induction n with
  | zero => intro k Af Ao cf co W i x k' _ _ _ h; simp [contF] at h
  | succ n ih =>
    intro k Af Ao cf co W i x k' h hwb hi hk'
    rw [contF_succ] at hk'
    obtain ⟨A, c, g1, g2⟩ := h.kr hC i hi
    have HKM : Hid (∀ v ∈ kidsF C.l i, ∃ m : Nat, v = m ∧ m < C.l.length ∧ i < m) := Lib.hid (fun v hv => by
      obtain ⟨m, a, b, c, d⟩ := kids_mem hv
      exact ⟨m, a, b, d⟩)
    obtain ⟨ks, hks⟩ : ∃ ks, ks = kidsF C.l i := ⟨_, rfl⟩
    rw [← hks] at hk' HKM g1 g2
    have HG2 := Lib.hid g2
    have HK := Lib.hid hk'
    have HWB := Lib.hid hwb
    have HKL : Hid (ks.length ≤ 4096) := Lib.hid (by rw [hks]; exact Nat.le_trans (by unfold kidsF; rw [List.length_map]; have := List.length_filter_le (fun j => parF C.l j == (i : Int)) (List.range C.l.length); rw [List.length_range] at this; exact this) hC.n2)
    have HUS := Lib.hid (fun W' (hb : Below W.heap.size W W') => used_any C k Af Ao cf co W' hC (h.below hb) i hi)
    have HI := Lib.hid h
    have HC := Lib.hid hC
    have hn2 := hC.n2
    obtain ⟨c0, c1, c2, c3, c4, c5, c6, c7, c8, c9, c10, c11, c12⟩ := h.cs
    have v1 : IntKind.i64.wrap ((i : Int) - 0) = (i : Int) := IntWalk.i64_in _ ⟨by omega, by omega⟩
    have v2 : IntKind.i64.wrap (i : Int) = (i : Int) := IntWalk.i64_in _ ⟨by omega, by omega⟩
    have hi2 : (i : Int) < (C.l.length : Int) := by omega
    obtain ⟨wd, hwd⟩ : ∃ wd, wd = (usF C.us i).w := ⟨_, rfl⟩
    have HWD := Lib.hid hwd
    obtain ⟨u2, hu2⟩ : ∃ u2, u2 = (usF C.us i).left := ⟨_, rfl⟩
    obtain ⟨u3, hu3⟩ : ∃ u3, u3 = (usF C.us i).right := ⟨_, rfl⟩
    rw [← hwd, ← hu2, ← hu3] at HUS
    clear h hC hk' hwb g2 hks hwd hu2 hu3
    go_enter Try.func44, Try.ntmps44
    go_wp2_with fail
    go_quiet (fail)
    go_upto_region 2 with (go_at_call 69; refine (HUS.out _ (below_dr (Below.refl _ _) _)).mono ?_; rintro e w1 ⟨rfl, hb1⟩; have HI1 := Lib.hid (HI.out.below ((below_dr (Below.refl W.heap.size W) _).trans (hb1.mono (Nat.le_refl _)))); clear hb1)
    clear c0 c1 c2 c3 c4 c5 c6 c7 c8 c9 c10 c11 c12 g1 v1 v2 hi2
    have HST : Hid (∀ m, m < C.l.length → ∃ ad : Addr, C.A = some ad ∧ ∀ k Af cf Ao co W', WkI C k Af cf Ao co W' → W'.cell? ⟨ad.block, (ad.add (m * 44)).off + 1, none⟩ = some (.int .u8 1)) := Lib.hid (fun m hm => by
      obtain ⟨ad, e, -, -, -, -⟩ := WkI.nd C k Af Ao cf co W HC.out HI.out m hm
      refine ⟨ad, e, fun k Af cf Ao co W' h => ?_⟩
      obtain ⟨ad', e', -, -, -, hnd⟩ := WkI.nd C k Af Ao cf co W' HC.out h m hm
      rw [e] at e'
      injection e' with e'
      subst e'
      have := (nd_c hnd).2.1
      rw [(HC.out.sty _ (List.getElem_mem hm)).1.kind] at this
      exact this)
    have HK1 : Hid (∃ Af cf Ao co, WkI C k Af cf Ao co w1) := Lib.hid ⟨_, _, _, _, HI1.out⟩
    by_cases hne : 0 < ks.length
    · have d1 : decide ((0 : Int) < (ks.length : Int)) = true := decide_eq_true (by omega)
      have d1' : decide (0 < ks.length) = true := decide_eq_true hne
      obtain ⟨m, hm, hml, him⟩ := HKM.out _ (List.getElem_mem hne)
      obtain ⟨ad, hA, hb, hnb, hc⟩ := HG2.out 0 hne
      subst hA
      obtain ⟨an, hAn, hkd⟩ := HST.out m hml
      have y0 := hkd _ _ _ _ _ _ HI1.out
      have k0 := (HI1.out.kp.cell (p := ad.add 0) (by rw [block_of_add]; exact hb) (by rw [block_of_add]; exact hnb)).trans hc
      rw [hm] at k0
      have k0' : w1.cell? ad = some (.int .i64 (m : Int)) := k0
      have hm2 : (m : Int) < (C.l.length : Int) := by omega
      have hne2 : (0 : Int) < (ks.length : Int) := by omega
      obtain ⟨c0, c1, c2, c3, c4, c5, c6, c7, c8, c9, c10, c11, c12⟩ := HI1.out.cs
      rw [hAn] at c0
      clear hb hnb hc hkd hm him
      go_upto_region 2 with (fail)
      go_quiet (fail)
      have HI2 := Lib.hid (HI1.out.below (below_dr (Below.refl _ _) nq))
      clear y0 k0 k0' hm2 hne2 c0 c1 c2 c3 c4 c5 c6 c7 c8 c9 c10 c11 c12
      go_wp2_with fail
      generalize w1.drewN nq = w2 at HI2 ⊢
      go_loopw [118] (fun q wr => ∃ j : Nat, j ≤ ks.length ∧ q = .int .i64 j ∧ Hid (∃ kj Af cf Ao co, (ks.drop j).foldlM (stepC n C.l C.us C.hs i x) kj = some k' ∧ WkI C kj Af cf Ao co wr ∧ wkB kj = true)) (fun q _ => ks.length - (intOf q).toNat)
      case atStart => exact ⟨0, by omega, rfl, Lib.hid ⟨k, _, _, _, _, HK.out, HI2.out, HWB.out⟩⟩
      case round =>
        obtain ⟨j, hj, rfl, HR⟩ := hrel
        obtain ⟨kj, Afj, cfj, Aoj, coj, hfold, hij, hbj⟩ := HR.out
        by_cases hlt : j < ks.length
        · have e0 : decide ((j : Int) < (ks.length : Int)) = true := decide_eq_true (by omega)
          have e0' : decide (j < ks.length) = true := decide_eq_true hlt
          have hwk : IntKind.i64.wrap ((j : Int) + 1) = (j : Int) + 1 := IntWalk.i64_in _ ⟨by omega, by have := HKL.out; omega⟩
          obtain ⟨m', hm', hml', him'⟩ := HKM.out _ (List.getElem_mem hlt)
          obtain ⟨ad', hA', hb', hnb', hc'⟩ := HG2.out j hlt
          cases hA'
          have kc := (hij.kp.cell (p := ad.add j) (by rw [block_of_add]; exact hb') (by rw [block_of_add]; exact hnb')).trans hc'
          rw [hm'] at kc
          rw [List.drop_eq_getElem_cons hlt, List.foldlM_cons, hm'] at hfold
          obtain ⟨k1, hstep, hrest⟩ : ∃ k1, stepC n C.l C.us C.hs i x kj (m' : Int) = some k1 ∧ (ks.drop (j + 1)).foldlM (stepC n C.l C.us C.hs i x) k1 = some k' := by
            cases hs : stepC n C.l C.us C.hs i x kj (m' : Int) with
            | none => rw [hs] at hfold; simp at hfold
            | some k1 => rw [hs] at hfold; exact ⟨k1, rfl, hfold⟩
          have HREST := Lib.hid hrest
          have HB1 : Hid (wkB k1 = true) := Lib.hid (stepC_wkB hstep)
          have hsf : styF C.l m' = some C.l[m'].s := by unfold styF; rw [List.getElem?_eq_getElem hml']; rfl
          unfold stepC at hstep
          rw [Int.toNat_natCast, hsf] at hstep
          simp only at hstep
          have HKI := Lib.hid (kind_any C kj Afj Aoj cfj coj wr HC.out hij m' hml' (by omega))
          have HIJ := Lib.hid hij
          have HBJ := Lib.hid hbj
          have hadl : ad.block < wr.heap.size := Nat.lt_of_lt_of_le hb' hij.size
          by_cases hf : C.l[m'].s.float = 0
          · rw [if_neg (by simp [hf])] at hstep
            have HEN : Hid (∀ Af cf Ao co W', WkI C kj Af cf Ao co W' → Calls Try.prog 76 #[.pointer (some ⟨C.bw, 0, none⟩), .int .i64 m', .int .i64 x] W' fun e w' => (∃ v, e = .returned v) ∧ ∃ Af' cf' Ao' co', WkI C k1 Af' cf' Ao' co' w') := Lib.hid (fun Af cf Ao co W' h => by
              cases ho : openF C.us C.l[m'].s kj m' x with
              | none => rw [ho] at hstep; simp at hstep
              | some k3 =>
                rw [ho] at hstep
                simp only at hstep
                cases hc : contF n C.l C.us C.hs k3 m' (x + (usF C.us m').left) with
                | none => rw [hc] at hstep; simp at hstep
                | some k4 =>
                  rw [hc] at hstep
                  simp only at hstep
                  have hw3 := openF_wkB ho
                  exact enter_any C kj Af Ao cf co W' HC.out h m' hml' (by omega) x HBJ.out k3 k4 k1 ho (fun Af cf Ao co W' h => ih k3 Af Ao cf co W' m' _ k4 h hw3 hml' hc) (contF_wkB hw3 hc) hstep)
            rw [if_pos hf] at HKI
            clear hstep hij hbj hfold hrest hm' him' hb' hnb' hc' hsf HR hf
            go_wp2_with (first
              | (go_at_call 73; refine HKI.out.mono ?_; rintro e w3 ⟨rfl, hb3⟩; have q3 := Lib.hid (HEN.out _ _ _ _ _ (HIJ.out.below hb3)); clear hb3)
              | (go_at_call 76; refine q3.out.mono ?_; rintro e w4 ⟨⟨_, rfl⟩, hi4⟩; have HI4 := Lib.hid hi4; clear hi4))
            apply_assumption
            go_wp2_with (go_at_call 76; refine q3.out.mono ?_; rintro e w4 ⟨⟨_, rfl⟩, hi4⟩; have HI4 := Lib.hid hi4; clear hi4)
            apply_assumption
            go_wp2_with (go_at_call 76; refine q3.out.mono ?_; rintro e w4 ⟨⟨_, rfl⟩, hi4⟩; have HI4 := Lib.hid hi4; clear hi4)
            apply_assumption
            go_wp2_with (go_at_call 76; refine q3.out.mono ?_; rintro e w4 ⟨⟨_, rfl⟩, hi4⟩; have HI4 := Lib.hid hi4; clear hi4)
            go_roundw
            case rel => obtain ⟨a1, a2, a3, a4, h4⟩ := HI4.out; exact ⟨j + 1, by omega, by go_num, Lib.hid ⟨k1, a1, a2, a3, a4, HREST.out, h4, HB1.out⟩⟩
            case measure => simp [intOf]; omega
          · rw [if_pos (by simpa using hf)] at hstep
            have hfl : C.l[m'].s.float = 1 ∨ C.l[m'].s.float = 2 := by rcases (HC.out.sty _ (List.getElem_mem hml')).2.1 with h | h | h; exact absurd h hf; exact .inl h; exact .inr h
            have HEN := Lib.hid (fun Af cf Ao co W' (h : WkI C kj Af cf Ao co W') => float_any C kj Af Ao cf co W' HC.out h m' hml' (by omega) x (usF C.us i).w HBJ.out hfl k1 hstep)
            rw [← HWD.out] at HEN
            rw [if_neg hf] at HKI
            clear hstep hij hbj hfold hrest hm' him' hb' hnb' hc' hsf HR hf hfl
            go_wp2_with (first
              | (go_at_call 73; refine HKI.out.mono ?_; rintro e w3 ⟨rfl, hb3⟩; have q3 := Lib.hid (HEN.out _ _ _ _ _ (HIJ.out.below hb3)); clear hb3)
              | (go_at_call 74; refine q3.out.mono ?_; rintro e w4 ⟨⟨_, rfl⟩, hi4⟩; have HI4 := Lib.hid hi4; clear hi4))
            apply_assumption
            go_wp2_with (go_at_call 74; refine q3.out.mono ?_; rintro e w4 ⟨⟨_, rfl⟩, hi4⟩; have HI4 := Lib.hid hi4; clear hi4)
            go_roundw
            case rel => obtain ⟨a1, a2, a3, a4, h4⟩ := HI4.out; exact ⟨j + 1, by omega, by go_num, Lib.hid ⟨k1, a1, a2, a3, a4, HREST.out, h4, HB1.out⟩⟩
            case measure => simp [intOf]; omega
        · have e0 : decide ((j : Int) < (ks.length : Int)) = false := decide_eq_false (by omega)
          have e0' : decide (j < ks.length) = false := decide_eq_false hlt
          have HEQ : Hid (kj = k') := Lib.hid (by rw [List.drop_of_length_le (by omega)] at hfold; simpa using hfold)
          have HIJ := Lib.hid hij
          clear hfold hij hbj HR
          go_wp2_with fail
          go_end0
          exact ⟨⟨_, rfl⟩, _, _, _, _, by rw [← HEQ.out]; exact HIJ.out⟩
    · have d1 : decide ((0 : Int) < (ks.length : Int)) = false := decide_eq_false (by omega)
      have d1' : decide (0 < ks.length) = false := decide_eq_false hne
      go_upto_region 2 with (fail)
      go_quiet (fail)
      have HI2 := Lib.hid (HI1.out.below (below_dr (Below.refl _ _) nq))
      go_wp2_with fail
      generalize w1.drewN nq = w2 at HI2 ⊢
      go_loopw [118] (fun q wr => ∃ j : Nat, j ≤ ks.length ∧ q = .int .i64 j ∧ Hid (∃ kj Af cf Ao co, (ks.drop j).foldlM (stepC n C.l C.us C.hs i x) kj = some k' ∧ WkI C kj Af cf Ao co wr ∧ wkB kj = true)) (fun q _ => ks.length - (intOf q).toNat)
      case atStart => exact ⟨0, by omega, rfl, Lib.hid ⟨k, _, _, _, _, HK.out, HI2.out, HWB.out⟩⟩
      case round =>
        obtain ⟨j, hj, rfl, HR⟩ := hrel
        obtain ⟨kj, Afj, cfj, Aoj, coj, hfold, hij, hbj⟩ := HR.out
        by_cases hlt : j < ks.length
        · exact absurd hlt (by omega)
        · have e0 : decide ((j : Int) < (ks.length : Int)) = false := decide_eq_false (by omega)
          have e0' : decide (j < ks.length) = false := decide_eq_false hlt
          have HEQ : Hid (kj = k') := Lib.hid (by rw [List.drop_of_length_le (by omega)] at hfold; simpa using hfold)
          have HIJ := Lib.hid hij
          clear hfold hij hbj HR
          go_wp2_with fail
          go_end0
          exact ⟨⟨_, rfl⟩, _, _, _, _, by rw [← HEQ.out]; exact HIJ.out⟩
end Go.Proofs.Ytlebbkhhhmempaa
