/- The law FlowClear, walked. -/
import Derived.Test.YtlebbkhhhmempaaLcm
import Derived.Lib.MinMax
set_option linter.unusedSimpArgs false
set_option linter.unusedVariables false
namespace Go.Proofs.Ytlebbkhhhmempaa
open Go.RowKit
attribute [local go_sem] block_of_add
set_option maxRecDepth 100000 in
set_option maxHeartbeats 4000000 in
theorem flowClear_any (l : List N3) (A : Option Addr) (c : Nat) (clr : Nat) (w : World) (hl : ∀ r ∈ l, U8r r) (hr : Reads w w.heap.size 3 A l.length (l.flatMap r3b)) (hclr : clr < 256) :
    Calls Try.prog 7 #[.slice A l.length c, .int .u8 clr] w fun e w' => e = .returned (.bool true) ∧ Below w.heap.size w w' := by
  have HR := Lib.hid hr
  have HI := Lib.hid hl
  clear hr hl
  go_enter Try.func7, Try.ntmps7
  by_cases hn : 40 < l.length
  · have d0 : decide ((40 : Int) < (l.length : Int)) = true := decide_eq_true (by omega)
    go_wp2_with (go_at_call 18; refine (works22_any _).mono ?_; rintro e w1 ⟨rfl, hb⟩)
    go_ret
    exact ⟨rfl, hb⟩
  have HN : Hid (l.length ≤ 40) := Lib.hid (by omega)
  have d00 : decide ((40 : Int) < (l.length : Int)) = false := decide_eq_false (by omega)
  clear hn
  go_upto_region 5 with (fail)
  clear d00
  go_loopw [5, 6] (fun q3 q4 wr => ∃ (j : Nat) (AR : Option Addr) (cR : Nat), j ≤ l.length ∧ q3 = .slice AR j cR ∧ q4 = .int .i64 (j : Int) ∧ Hid (RwC w l j AR cR wr)) (fun _ q _ => l.length - (intOf q).toNat)
  case atStart => exact ⟨0, none, 0, by omega, rfl, rfl, Lib.hid ⟨own_nil _ _ _ _, Below.refl _ _⟩⟩
  case round =>
    obtain ⟨j, AR, cR, hj, rfl, rfl, HJ⟩ := hrel
    by_cases hlt : j < l.length
    · have d0 : decide ((j : Int) < (l.length : Int)) = true := decide_eq_true (by omega)
      have hwk : IntKind.i64.wrap ((j : Int) + 1) = (j : Int) + 1 := IntWalk.i64_in _ ⟨by omega, by have := HN.out; omega⟩
      have HROW := Lib.hid (HR.out.row8 rfl hlt HJ.out.b)
      obtain ⟨ad, hA, hb, HX⟩ := HROW.out
      have HXX := Lib.hid HX
      clear HROW HX
      have HIN := Lib.hid (HI.out _ (List.getElem_mem hlt))
      have HTK := Lib.hid (rc_take l j hlt)
      obtain ⟨r, hrr⟩ : ∃ r, r = l[j] := ⟨_, rfl⟩
      rw [← hrr] at HXX HIN HTK
      clear hrr
      obtain ⟨x, y, z⟩ := r
      have hin := HIN.out
      unfold U8r at hin
      dsimp only at hin
      obtain ⟨i0, i1, i2⟩ := hin
      have hw1 : IntKind.i64.wrap (x : Int) = (x : Int) := IntWalk.i64_in _ ⟨by omega, by omega⟩
      have hw2 : IntKind.i64.wrap (y : Int) = (y : Int) := IntWalk.i64_in _ ⟨by omega, by omega⟩
      have hw3 : IntKind.i64.wrap ((x : Int) + 1) = (x : Int) + 1 := IntWalk.i64_in _ ⟨by omega, by omega⟩
      have ht1 : (y : Int).tmod 32 = (y : Int) % 32 := Int.tmod_eq_emod_of_nonneg (by omega)
      clear i0 i1 i2
      subst hA
      have hj2 : (j : Int) < (l.length : Int) := by omega
      have hbw : ad.block < wr.heap.size := Nat.lt_of_lt_of_le hb HJ.out.b.size
      have HSZ := Lib.hid HJ.out.b.size
      go_upto_region 7 with (fail)
      have HJD : Hid (wr.drew.ownsRow w.heap.size 46 3 (.slice AR j cR) j (((l.take j).map fcR).flatMap r3C)) := Lib.hid (own_below HJ.out.o (Below.refl _ _).drew)
      have HS0 : Hid (∀ W', Below w.heap.size wr W' → W'.cell? (ad.add (j * 3)) = some (.int .u8 x) ∧ W'.cell? ⟨ad.block, (ad.add (j * 3)).off + 1, none⟩ = some (.int .u8 y)) := Lib.hid (fun W' hb => ⟨(HXX.out W' hb).1, (HXX.out W' hb).2.1⟩)
      have hj9 : j + 1 ≤ 4294967296 := by have := HN.out; omega
      refine wp_region_held_drew (S := (fun W' => W'.cell? (ad.add (j * 3)) = some (.int .u8 x) ∧ W'.cell? ⟨ad.block, (ad.add (j * 3)).off + 1, none⟩ = some (.int .u8 y))) (by kernel_rfl) (HS0.out _ ((Below.refl _ _).drew)) (fun hS => ?_)
      refine wpAnyH_take (i := 0) (v := ?_) rfl (by kernel_rfl) (by kernel_rfl) (by kernel_rfl) (fun _ _ _ h => h) (Or.inl ⟨by rfl, ?_⟩) hS ?_
      rotate_left
      · intro W' hS'
        go_simp
        rfl
      try simp only [Act.put, List.setIfInBounds_toArray, List.set_cons_zero, List.set_cons_succ, List.getElem_toArray, List.getElem_cons_zero, List.getElem_cons_succ]
      refine wpAnyH_take (i := 1) (v := ?_) rfl (by kernel_rfl) (by kernel_rfl) (by kernel_rfl) (fun _ _ _ h => h) (Or.inl ⟨by rfl, ?_⟩) hS ?_
      rotate_left
      · intro W' hS'
        go_simp
        rfl
      try simp only [Act.put, List.setIfInBounds_toArray, List.set_cons_zero, List.set_cons_succ, List.getElem_toArray, List.getElem_cons_zero, List.getElem_cons_succ]
      refine wpAnyH_take (i := 2) (v := ?_) rfl (by kernel_rfl) (by kernel_rfl) (by kernel_rfl) (fun _ _ _ h => h) (Or.inl ⟨by rfl, ?_⟩) hS ?_
      rotate_left
      · intro W' hS'
        go_simp
        rfl
      try simp only [Act.put, List.setIfInBounds_toArray, List.set_cons_zero, List.set_cons_succ, List.getElem_toArray, List.getElem_cons_zero, List.getElem_cons_succ]
      refine wpAnyH_take (i := 3) (v := ?_) rfl (by kernel_rfl) (by kernel_rfl) (by kernel_rfl) (fun _ _ _ h => h) (Or.inl ⟨by rfl, ?_⟩) hS ?_
      rotate_left
      · intro W' hS'
        go_simp
        rfl
      try simp only [Act.put, List.setIfInBounds_toArray, List.set_cons_zero, List.set_cons_succ, List.getElem_toArray, List.getElem_cons_zero, List.getElem_cons_succ]
      refine wpAnyH_take (i := 4) (v := ?_) rfl (by kernel_rfl) (by kernel_rfl) (by kernel_rfl) (fun _ _ _ h => h) (Or.inl ⟨by rfl, ?_⟩) hS ?_
      rotate_left
      · intro W' hS'
        go_simp
        rfl
      try simp only [Act.put, List.setIfInBounds_toArray, List.set_cons_zero, List.set_cons_succ, List.getElem_toArray, List.getElem_cons_zero, List.getElem_cons_succ]
      refine wpAnyH_take (i := 5) (v := ?_) rfl (by kernel_rfl) (by kernel_rfl) (by kernel_rfl) (fun _ _ _ h => h) (Or.inl ⟨by rfl, ?_⟩) hS ?_
      rotate_left
      · intro W' hS'
        go_simp
        rfl
      try simp only [Act.put, List.setIfInBounds_toArray, List.set_cons_zero, List.set_cons_succ, List.getElem_toArray, List.getElem_cons_zero, List.getElem_cons_succ]
      refine wpAnyH_take (i := 6) (v := ?_) rfl (by kernel_rfl) (by kernel_rfl) (by kernel_rfl) (fun _ _ _ h => h) (Or.inl ⟨by rfl, ?_⟩) hS ?_
      rotate_left
      · intro W' hS'
        go_simp
        rfl
      try simp only [Act.put, List.setIfInBounds_toArray, List.set_cons_zero, List.set_cons_succ, List.getElem_toArray, List.getElem_cons_zero, List.getElem_cons_succ]
      refine wpAnyH_take (i := 7) (v := ?_) rfl (by kernel_rfl) (by kernel_rfl) (by kernel_rfl) (fun _ _ _ h => h) (Or.inl ⟨by rfl, ?_⟩) hS ?_
      rotate_left
      · intro W' hS'
        go_simp
        rfl
      try simp only [Act.put, List.setIfInBounds_toArray, List.set_cons_zero, List.set_cons_succ, List.getElem_toArray, List.getElem_cons_zero, List.getElem_cons_succ]
      refine wpAnyH_take (i := 8) (v := ?_) rfl (by kernel_rfl) (by kernel_rfl) (by kernel_rfl) (fun _ _ _ h => h) (Or.inl ⟨by rfl, ?_⟩) hS ?_
      rotate_left
      · intro W' hS'
        go_simp
        rfl
      try simp only [Act.put, List.setIfInBounds_toArray, List.set_cons_zero, List.set_cons_succ, List.getElem_toArray, List.getElem_cons_zero, List.getElem_cons_succ]
      refine wpAnyH_take (i := 9) (v := ?_) rfl (by kernel_rfl) (by kernel_rfl) (by kernel_rfl) (fun _ _ _ h => h) (Or.inl ⟨by rfl, ?_⟩) hS ?_
      rotate_left
      · intro W' hS'
        go_simp
        rfl
      try simp only [Act.put, List.setIfInBounds_toArray, List.set_cons_zero, List.set_cons_succ, List.getElem_toArray, List.getElem_cons_zero, List.getElem_cons_succ]
      refine wpAnyH_take (i := 10) (v := ?_) rfl (by kernel_rfl) (by kernel_rfl) (by kernel_rfl) (fun _ _ _ h => h) (Or.inl ⟨by rfl, ?_⟩) hS ?_
      rotate_left
      · intro W' hS'
        go_simp
        rfl
      try simp only [Act.put, List.setIfInBounds_toArray, List.set_cons_zero, List.set_cons_succ, List.getElem_toArray, List.getElem_cons_zero, List.getElem_cons_succ]
      refine wpAnyH_take (i := 11) (v := ?_) rfl (by kernel_rfl) (by kernel_rfl) (by kernel_rfl) (fun _ _ _ h => h) (Or.inl ⟨by rfl, ?_⟩) hS ?_
      rotate_left
      · intro W' hS'
        go_simp
        rfl
      try simp only [Act.put, List.setIfInBounds_toArray, List.set_cons_zero, List.set_cons_succ, List.getElem_toArray, List.getElem_cons_zero, List.getElem_cons_succ]
      refine wpAnyH_take (i := 12) (v := ?_) rfl (by kernel_rfl) (by kernel_rfl) (by kernel_rfl) (fun _ _ _ h => h) (Or.inl ⟨by rfl, ?_⟩) hS ?_
      rotate_left
      · intro W' hS'
        go_simp
        rfl
      try simp only [Act.put, List.setIfInBounds_toArray, List.set_cons_zero, List.set_cons_succ, List.getElem_toArray, List.getElem_cons_zero, List.getElem_cons_succ]
      refine wpAnyH_take (i := 13) (v := ?_) rfl (by kernel_rfl) (by kernel_rfl) (by kernel_rfl) (fun _ _ _ h => h) (Or.inl ⟨by rfl, ?_⟩) hS ?_
      rotate_left
      · intro W' hS'
        go_simp
        rfl
      try simp only [Act.put, List.setIfInBounds_toArray, List.set_cons_zero, List.set_cons_succ, List.getElem_toArray, List.getElem_cons_zero, List.getElem_cons_succ]
      refine wpAnyH_take (i := 14) (v := ?_) rfl (by kernel_rfl) (by kernel_rfl) (by kernel_rfl) (fun _ _ _ h => h) (Or.inl ⟨by rfl, ?_⟩) hS ?_
      rotate_left
      · intro W' hS'
        go_simp
        rfl
      try simp only [Act.put, List.setIfInBounds_toArray, List.set_cons_zero, List.set_cons_succ, List.getElem_toArray, List.getElem_cons_zero, List.getElem_cons_succ]
      refine wpAnyH_take (i := 15) (v := ?_) rfl (by kernel_rfl) (by kernel_rfl) (by kernel_rfl) (fun _ _ _ h => h) (Or.inl ⟨by rfl, ?_⟩) hS ?_
      rotate_left
      · intro W' hS'
        go_simp
        rfl
      try simp only [Act.put, List.setIfInBounds_toArray, List.set_cons_zero, List.set_cons_succ, List.getElem_toArray, List.getElem_cons_zero, List.getElem_cons_succ]
      refine wpAnyH_ready (rs := [16]) (by kernel_rfl) (by simp) (AllReadyH.cons rfl (fun K hK => ?_) AllReadyH.nil)
      go_simp
      refine hK.out _ _ (HS0.out _ (((Below.refl _ _).drew).alloc HSZ.out _)) (fun hS => ?_)
      try simp only [Act.put, List.setIfInBounds_toArray, List.set_cons_zero, List.set_cons_succ, List.getElem_toArray, List.getElem_cons_zero, List.getElem_cons_succ]
      clear hK
      refine wpAnyH_ready (rs := [17]) (by kernel_rfl) (by simp) (AllReadyH.cons rfl (fun K hK => ?_) AllReadyH.nil)
      refine step_appG (m := 1) rfl _ _ rfl el_row3 HJD.out HSZ.out rfl [.int .i64 ((x : Int) + 1), .int .i64 ((y : Int) % 32), .int .i64 0] rfl rfl rfl (by simp [Value.oneCell']) hj9 (by omega) ?_
      intro A' c' w7 hown hB hg hob
      have HB7 := Lib.hid (hB _ _ (Nat.le_refl _) ((Below.refl w.heap.size wr).drew))
      have HJ7 := Lib.hid hown
      clear hown hB hg hob
      refine hK.out _ _ (HS0.out _ HB7.out) (fun hS => ?_)
      try simp only [Act.put, List.setIfInBounds_toArray, List.set_cons_zero, List.set_cons_succ, List.getElem_toArray, List.getElem_cons_zero, List.getElem_cons_succ]
      clear hK
      refine wpAnyH_take (i := 18) (v := ?_) rfl (by kernel_rfl) (by kernel_rfl) (by kernel_rfl) (fun _ _ _ h => h) (Or.inl ⟨by rfl, ?_⟩) hS ?_
      rotate_left
      · intro W' hS'
        go_simp
        rfl
      try simp only [Act.put, List.setIfInBounds_toArray, List.set_cons_zero, List.set_cons_succ, List.getElem_toArray, List.getElem_cons_zero, List.getElem_cons_succ]
      refine wpAnyH_done (by kernel_rfl) ?_ _
      clear hS
      have HJN : Hid (RwC w l (j + 1) A' c' w7) := Lib.hid ⟨by rw [HTK.out]; exact HJ7.out, HJ.out.b.trans HB7.out⟩
      go_wp2_with fail
      go_roundw
      case rel => exact ⟨j + 1, A', c', by omega, rfl, by go_num, HJN⟩
      case measure => simp [intOf]; omega
    · have d0 : decide ((j : Int) < (l.length : Int)) = false := decide_eq_false (by omega)
      have HJL : Hid (j = l.length) := Lib.hid (by omega)
      have HRS : Hid ((l.map fcR ++ [((7, 5, 0) : Int × Int × Int)]).length = j + 1) := Lib.hid (by simp; exact HJL.out.symm)
      have HO : Hid (wr.ownsRow w.heap.size 46 3 (.slice AR j cR) j ((l.map fcR).flatMap r3C)) := Lib.hid (by have := HJ.out.o; rw [HJL.out, List.take_length, ← HJL.out] at this; exact this)
      have HBW := Lib.hid HJ.out.b
      have HSZ := Lib.hid HJ.out.b.size
      have HJ40 : Hid (j ≤ 40) := Lib.hid (by have := HN.out; omega)
      have hj9 : j + 1 ≤ 4294967296 := by have := HJ40.out; omega
      clear HJ
      go_upto_region 9 with (at_builtin; refine wpList_appG (m := 1) rfl _ _ rfl el_row3 HO.out HSZ.out rfl [.int .i64 7, .int .i64 5, .int .i64 0] rfl rfl rfl (by simp [Value.oneCell']) hj9 (by omega) ?_; intro A1 c1 w1 hown hB hg hob; have HO1 := Lib.hid hown; have HB1 := Lib.hid (hB _ _ (Nat.le_refl _) HBW.out); clear hown hB hg hob)
      have HO1' : Hid (w1.ownsRow w.heap.size 46 3 (.slice A1 (j + 1) c1) (j + 1) ((l.map fcR ++ [((7, 5, 0) : Int × Int × Int)]).flatMap r3C)) := Lib.hid (by rw [List.flatMap_append]; exact HO1.out)
      obtain ⟨gR, hA1, _, _⟩ := own_some HO1'.out (by omega)
      subst hA1
      clear HO1 HO HBW HSZ
      have q1 := Lib.hid (tower22s_any (l.map fcR ++ [((7, 5, 0) : Int × Int × Int)]) _ (j + 1) c1 w1 HRS.out (by have := HJ40.out; omega) (Reads.of_own HO1'.out))
      go_upto_region 10 with (go_at_call 19; refine q1.out.mono ?_; rintro e w2 ⟨gN, cN, gU, cU, rfl, hn, hu, hb⟩; have HN2 := Lib.hid hn; have HU2 := Lib.hid hu; have HB2 := Lib.hid hb; clear hn hu hb)
      obtain ⟨gT, HGT⟩ : ∃ gT, Hid (gT = w2.heap.size) := ⟨_, Lib.hid rfl⟩
      obtain ⟨w3, hw3⟩ : ∃ w3, w3 = w2.alloc (.cells #[.slice (some ⟨gN, 0, none⟩) (j + 1 + 1) cN, .slice none 0 0, .int .i64 100] 25) := ⟨_, rfl⟩
      have HBA : Hid (Below w2.heap.size w2 w3) := Lib.hid (by rw [hw3]; exact (Below.refl _ _).alloc (Nat.le_refl _) _)
      have HTB3 : Hid (Blk w3 gT 25 #[.slice (some ⟨gN, 0, none⟩) (j + 1 + 1) cN, .slice none 0 0, .int .i64 100]) := Lib.hid (by rw [hw3, HGT.out]; exact Blk.new _ _ _)
      have HW3 : Hid (Below w.heap.size w w3) := Lib.hid ((HB1.out.trans (HB2.out.mono HB1.out.size)).trans (HBA.out.mono (Nat.le_trans HB1.out.size HB2.out.size)))
      have HN3 := Lib.hid (own_mono (own_below HN2.out HBA.out) HB1.out.size)
      have HU3 := Lib.hid (own_mono (own_below HU2.out HBA.out) HB1.out.size)
      have HR3 := Lib.hid (own_below (own_below HO1'.out HB2.out) HBA.out)
      have HGTL : Hid (w.heap.size ≤ gT) := Lib.hid (by rw [HGT.out]; exact Nat.le_trans HB1.out.size HB2.out.size)
      rw [← hw3, ← HGT.out]
      clear hw3 HN2 HU2 HB2 HBA HGT q1 HO1' HB1
      obtain ⟨t0, t1, t2⟩ := HTB3.out.c3
      have hmk : ∀ W : World, (Instr.makeSlice 23 (.int .i64 ((j : Int) + 1 + 1)) (.int .i64 ((j : Int) + 1 + 1))).run Try.prog W = .ok (.slice (some ⟨W.heap.size, 0, none⟩) (j + 1 + 1) (j + 1 + 1)) (W.alloc (.cells ((List.replicate (j + 1 + 1) (0 : Int)).map (Value.int .i64)).toArray 2)) := fun W => by have := make_i64T (j + 1 + 1) (by have := HJ40.out; omega) W; simpa using this
      go_upto_region 12 with (fail)
      clear hmk t0 t1 t2
      obtain ⟨gH, HGH⟩ : ∃ gH, Hid (gH = w3.heap.size) := ⟨_, Lib.hid rfl⟩
      obtain ⟨w4, hw4⟩ : ∃ w4, w4 = w3.alloc (.cells (Array.replicate (j + 1 + 1) (.int .i64 0)) 2) := ⟨_, rfl⟩
      rw [← hw4, ← HGH.out]
      have HF0 : Hid (FcI w (j + 1 + 1) gT gN cN gU cU gH gR c1 (ndsCells (twL 0 0 (rsJ l 0))) (udsCells (usJ l 0)) ((hsJ l 0).map (Value.int .i64)) ((l.map fcR ++ [((7, 5, 0) : Int × Int × Int)]).flatMap r3C) w4) := Lib.hid (by
        have hBA : Below w3.heap.size w3 w4 := by rw [hw4]; exact (Below.refl _ _).alloc (Nat.le_refl _) _
        refine ⟨HTB3.out.below hBA HTB3.out.lt, ?_, ?_, ?_, own_below HR3.out hBA, HW3.out.trans (hBA.mono HW3.out.size), HGTL.out⟩
        · rw [← rs0]; exact own_below HN3.out hBA
        · rw [us0, ← HJL.out]; exact own_below HU3.out hBA
        · rw [hs0, ← HJL.out, hw4, HGH.out]
          have h := World.ownsRow_lit (base := w.heap.size) (e := 2) (size := 1) w3 (Array.replicate (j + 1 + 1) (.int .i64 0)) (j + 1 + 1) HW3.out.size (by have := HJ40.out; unfold maxLen; omega) (by simp)
          simpa using h)
      clear hw4 HTB3 HN3 HU3 HR3 HW3 HGTL HGH
      go_loopw [10] (fun q10 wr => ∃ (i : Nat), i ≤ j ∧ q10 = .int .i64 (i : Int) ∧ Hid (FcI w (j + 1 + 1) gT gN cN gU cU gH gR c1 (ndsCells (twL 0 0 (rsJ l i))) (udsCells (usJ l i)) ((hsJ l i).map (Value.int .i64)) ((l.map fcR ++ [((7, 5, 0) : Int × Int × Int)]).flatMap r3C) wr)) (fun q _ => j - (intOf q).toNat)
      case atStart => exact ⟨0, by omega, rfl, HF0⟩
      case round =>
        obtain ⟨i, hi, rfl, HF⟩ := hrel
        by_cases hij : i < j
        · have d0 : decide ((i : Int) < (l.length : Int)) = true := decide_eq_true (by rw [← HJL.out]; omega)
          have hil : i < l.length := by rw [← HJL.out]; exact hij
          have hwk : IntKind.i64.wrap ((i : Int) + 1) = (i : Int) + 1 := IntWalk.i64_in _ ⟨by omega, by have := HJ40.out; omega⟩
          have HND := Lib.hid (nds_step l i hil)
          have HUD := Lib.hid (uds_step l i hil)
          have HHD := Lib.hid (hs_step l i hil)
          have HIN := Lib.hid (HI.out _ (List.getElem_mem hil))
          obtain ⟨ad, hA, hb, HX⟩ := HR.out.row8 rfl hil (Below.refl w.heap.size w)
          have HXX := Lib.hid HX
          clear HX
          have HRW : Hid (∀ W', FcI w (j + 1 + 1) gT gN cN gU cU gH gR c1 (ndsCells (twL 0 0 (rsJ l i))) (udsCells (usJ l i)) ((hsJ l i).map (Value.int .i64)) ((l.map fcR ++ [((7, 5, 0) : Int × Int × Int)]).flatMap r3C) W' → True) := Lib.hid (fun _ _ => trivial)
          have HRC : Hid (∀ (nd ud hd : List Value) W', FcI w (j + 1 + 1) gT gN cN gU cU gH gR c1 nd ud hd ((l.map fcR ++ [((7, 5, 0) : Int × Int × Int)]).flatMap r3C) W' → W'.cell? ⟨gR, i * 3, none⟩ = some (.int .i64 (((l[i]).1 : Int) + 1))) := Lib.hid (fun nd ud hd W' h => by
            have := (row_c h.r (by rw [HRS.out]; rfl) i (by show i < j + 1; omega)).1
            rw [this]
            unfold rAt
            rw [List.getElem?_append_left (by rw [List.length_map]; exact hil), List.getElem?_map, List.getElem?_eq_getElem hil]; rfl)
          obtain ⟨r, hrr⟩ : ∃ r, r = l[i] := ⟨_, rfl⟩
          rw [← hrr] at HXX HIN HND HUD HHD HRC
          clear hrr HRW
          obtain ⟨x, y, z⟩ := r
          have hin := HIN.out
          unfold U8r at hin
          dsimp only at hin HND HUD HHD HRC
          obtain ⟨i0, i1, i2⟩ := hin
          have hwz : IntKind.i64.wrap (z : Int) = (z : Int) := IntWalk.i64_in _ ⟨by omega, by omega⟩
          have ht1 : (z : Int).tmod 3 = (z : Int) % 3 := Int.tmod_eq_emod_of_nonneg (by omega)
          have ht2 : (z : Int).tdiv 3 = (z : Int) / 3 := Int.tdiv_eq_ediv_of_nonneg (by omega)
          subst hA
          have hij2 : (i : Int) < (l.length : Int) := by omega
          have hi3 : (i : Int) + 1 < (j : Int) + 1 + 1 := by omega
          have hi4 : i + 1 < j + 1 + 1 := by omega
          have HAD := Lib.hid hb
          have hbw : ad.block < wr.heap.size := Nat.lt_of_lt_of_le hb HF.out.b.size
          obtain ⟨t0, t1, t2⟩ := HF.out.t.c3
          obtain ⟨x0, x1, x2⟩ := HXX.out wr HF.out.b
          obtain ⟨v0, c0⟩ := HF.out.xN ((i + 1) * 44 + 3) (by omega)
          have fN := HF.out.n.frozenAt
          go_upto_region 16 with (fail)
          obtain ⟨w5, hw5⟩ : ∃ w5, w5 = wr.setCell ⟨gN, (i + 1) * 44 + 1 + 2, none⟩ (.int .u8 ((z : Int) % 3)) := ⟨_, rfl⟩
          have HF5 : Hid (FcI w (j + 1 + 1) gT gN cN gU cU gH gR c1 (ndsCells (twL 0 0 (rsJ l (i + 1)))) (udsCells (usJ l i)) ((hsJ l i).map (Value.int .i64)) ((l.map fcR ++ [((7, 5, 0) : Int × Int × Int)]).flatMap r3C) w5) := Lib.hid (by rw [hw5, HND.out]; exact HF.out.setN ((i + 1) * 44 + 3) (.int .u8 ((z : Int) % 3)))
          have c5 : w5.cell? ⟨gN, (i + 1) * 44 + 1 + 2, none⟩ = some (.int .u8 ((z : Int) % 3)) := by
            have h := HF5.out.n.cellAt ((i + 1) * 44 + 3) (by omega)
            rw [HND.out, List.getElem?_set_self (by rw [HF.out.n.1]; omega)] at h
            exact h
          rw [← hw5]
          clear hw5 t0 t1 t2 c0 fN x0 x1 x2 hbw
          by_cases hz : z % 3 = 0
          · have e0 : ((z : Int) % 3 != 0) = false := by simp; omega
            rw [if_pos hz] at HUD HHD
            go_wp2_with fail
            go_roundw
            case rel => exact ⟨i + 1, by omega, by go_num, Lib.hid (by rw [HUD.out, HHD.out]; exact HF5.out)⟩
            case measure => simp [intOf]; omega
          · have e0 : ((z : Int) % 3 != 0) = true := by simp; omega
            rw [if_neg hz] at HUD HHD
            have y0 := HRC.out _ _ _ _ HF5.out
            obtain ⟨v1, h0⟩ := HF5.out.xH (i + 1) (by omega)
            have fH := HF5.out.h.frozenAt
            have hi5 : (i : Int) < (j : Int) + 1 := by omega
            have hi6 : i < j + 1 := by omega
            go_upto_region 18 with (fail)
            obtain ⟨w6, hw6⟩ : ∃ w6, w6 = w5.setCell ⟨gH, i + 1, none⟩ (.int .i64 ((x : Int) + 1)) := ⟨_, rfl⟩
            have HF6 : Hid (FcI w (j + 1 + 1) gT gN cN gU cU gH gR c1 (ndsCells (twL 0 0 (rsJ l (i + 1)))) (udsCells (usJ l i)) ((hsJ l (i + 1)).map (Value.int .i64)) ((l.map fcR ++ [((7, 5, 0) : Int × Int × Int)]).flatMap r3C) w6) := Lib.hid (by rw [hw6, HHD.out]; exact HF5.out.setH (i + 1) (.int .i64 ((x : Int) + 1)))
            rw [← hw6]
            clear hw6 y0 h0 fH c5
            obtain ⟨x0, x1, x2⟩ := HXX.out w6 HF6.out.b
            have hbw : ad.block < w6.heap.size := Nat.lt_of_lt_of_le HAD.out HF6.out.b.size
            obtain ⟨v2, u0⟩ := HF6.out.xU ((i + 1) * 3) (by omega)
            have fU := HF6.out.u.frozenAt
            go_upto_region 13 with (fail)
            obtain ⟨w7, hw7⟩ : ∃ w7, w7 = w6.setCell ⟨gU, (i + 1) * 3, none⟩ (.int .i64 ((z : Int) / 3)) := ⟨_, rfl⟩
            have HF7 : Hid (FcI w (j + 1 + 1) gT gN cN gU cU gH gR c1 (ndsCells (twL 0 0 (rsJ l (i + 1)))) (udsCells (usJ l (i + 1))) ((hsJ l (i + 1)).map (Value.int .i64)) ((l.map fcR ++ [((7, 5, 0) : Int × Int × Int)]).flatMap r3C) w7) := Lib.hid (by rw [hw7, HUD.out]; exact HF6.out.setU ((i + 1) * 3) (.int .i64 ((z : Int) / 3)))
            rw [← hw7]
            clear hw7 x0 x1 x2 hbw u0 fU
            go_wp2_with fail
            go_roundw
            case rel => exact ⟨i + 1, by omega, by go_num, HF7⟩
            case measure => simp [intOf]; omega
        · have d0 : decide ((i : Int) < (l.length : Int)) = false := decide_eq_false (by rw [← HJL.out]; omega)
          have HIJ : Hid (i = j) := Lib.hid (by omega)
          obtain ⟨side, hs4, hside⟩ : ∃ side : Nat, side < 4 ∧ (clr : Int).tmod 4 = (side : Int) := ⟨clr % 4, Nat.mod_lt _ (by decide), by rw [Int.tmod_eq_emod_of_nonneg (by omega)]; simp⟩
          have HS4 := Lib.hid hs4
          have hwl : IntKind.i64.wrap ((j : Int) + 1 + 1 - 1) = (j : Int) + 1 := by rw [show (j : Int) + 1 + 1 - 1 = (j : Int) + 1 by omega]; exact IntWalk.i64_in _ ⟨by omega, by have := HJ40.out; omega⟩
          obtain ⟨t0, t1, t2⟩ := HF.out.t.c3
          obtain ⟨v0, c0⟩ := HF.out.xN ((j + 1) * 44 + 4) (by omega)
          have fN := HF.out.n.frozenAt
          have hi3 : (j : Int) + 1 < (j : Int) + 1 + 1 := by omega
          have hi4 : j + 1 < j + 1 + 1 := by omega
          go_upto_region 21 with (fail)
          obtain ⟨w8, hw8⟩ : ∃ w8, w8 = wr.setCell ⟨gN, (j + 1) * 44 + 1 + 3, none⟩ (.int .u8 (side : Int)) := ⟨_, rfl⟩
          have HF8 : Hid (FcI w (j + 1 + 1) gT gN cN gU cU gH gR c1 (ndsCells (twL 0 0 (rsC l side))) (udsCells (usJ l l.length)) ((hsJ l l.length).map (Value.int .i64)) ((l.map fcR ++ [((7, 5, 0) : Int × Int × Int)]).flatMap r3C) w8) := Lib.hid (by
            have h := HF.out.setN ((j + 1) * 44 + 4) (.int .u8 (side : Int))
            rw [HIJ.out, HJL.out, ← nds_last, ← HJL.out] at h
            rw [hw8, ← HJL.out]; exact h)
          rw [← hw8]
          clear hw8 t0 t1 t2 c0 fN hside hwl hi3 hi4 HF HIJ
          obtain ⟨fs, bs, C, E, hfc, hblk⟩ := fc_any l side HI.out HN.out hs4
          have HFC := Lib.hid hfc
          have q8 := Lib.hid (hblk (some ⟨gN, 0, none⟩) (some ⟨gU, 0, none⟩) (some ⟨gH, 0, none⟩) cN cU (j + 1 + 1) w8 (by rw [← HJL.out]; exact Reads.of_own HF8.out.n) (by have := Reads.of_own HF8.out.u; rw [← HJL.out] at this ⊢; exact this) (by have := Reads.of_own HF8.out.h; rw [← HJL.out] at this ⊢; exact this))
          rw [← HJL.out] at q8
          clear hblk hfc hs4
          obtain ⟨HH, HHH⟩ : ∃ HH, Hid (HH = bs.foldl max (C + 7)) := ⟨_, Lib.hid rfl⟩
          rw [← HHH.out] at q8
          obtain ⟨t0, t1, t2⟩ := HF8.out.t.c3
          go_upto_region 22 with (go_at_call 20; refine q8.out.mono ?_; rintro e w9 ⟨Ab, cb, gF, gB, rfl, hf, hb⟩; have HG9 := Lib.hid hf; have HF9 := Lib.hid (HF8.out.bel hb); clear hf hb)
          clear q8 t0 t1 t2 HF8
          obtain ⟨gI, HGI⟩ : ∃ gI, Hid (gI = w9.heap.size) := ⟨_, Lib.hid rfl⟩
          obtain ⟨w10, hw10⟩ : ∃ w10, w10 = w9.alloc (.cells #[.slice Ab (j + 1) cb, .slice (some ⟨gF, 0, none⟩) (j + 1) (j + 1), .slice (some ⟨gB, 0, none⟩) (j + 1) (j + 1), .int .i64 HH, .slice none 0 0, .bool false] 52) := ⟨_, rfl⟩
          have HBA : Hid (Below w9.heap.size w9 w10) := Lib.hid (by rw [hw10]; exact (Below.refl _ _).alloc (Nat.le_refl _) _)
          have HIB : Hid (Blk w10 gI 52 #[.slice Ab (j + 1) cb, .slice (some ⟨gF, 0, none⟩) (j + 1) (j + 1), .slice (some ⟨gB, 0, none⟩) (j + 1) (j + 1), .int .i64 HH, .slice none 0 0, .bool false]) := Lib.hid (by rw [hw10, HGI.out]; exact Blk.new _ _ _)
          have HF10 := Lib.hid (HF9.out.bel HBA.out)
          have HG10 := Lib.hid (HG9.out.below HBA.out HG9.out.lt)
          rw [← hw10, ← HGI.out]
          clear hw10 HG9 HF9 HBA HGI
          have i1 := HIB.out.get 1 (v := .slice (some ⟨gF, 0, none⟩) (j + 1) (j + 1)) rfl
          have e1 : ((j : Int) + 1 != (j : Int) + 1) = false := by simp
          have hwl : IntKind.i64.wrap ((j : Int) + 1 - 1) = (j : Int) := by rw [show (j : Int) + 1 - 1 = (j : Int) by omega]; exact IntWalk.i64_in _ ⟨by omega, by have := HJ40.out; omega⟩
          obtain ⟨f0, f1, f2, f3, f4⟩ := frag_c HG10.out j (by omega)
          have hla := HFC.out.last
          rw [← HJL.out] at hla
          have hcb := HFC.out.c
          have heb := HFC.out.e
          rw [hla.1] at f1
          rw [hla.2] at f3
          obtain ⟨fx, hfx⟩ : ∃ fx, fx = (fs j).x := ⟨_, rfl⟩
          obtain ⟨fw, hfw⟩ : ∃ fw, fw = (fs j).w := ⟨_, rfl⟩
          rw [← hfx] at f0
          rw [← hfw] at f2
          clear hfx hfw hla
          have hwC : IntKind.i64.wrap (C + 7) = C + 7 := IntWalk.i64_in _ ⟨by omega, by omega⟩
          have hj5 : (j : Int) < (j : Int) + 1 := by omega
          have hj6 : j < j + 1 := by omega
          have hgf := HG10.out.lt
          have hgi := HIB.out.lt
          clear hcb heb
          go_upto_region 28 with (fail)
          obtain ⟨gL, HGL⟩ : ∃ gL, Hid (gL = w10.heap.size) := ⟨_, Lib.hid rfl⟩
          obtain ⟨w11, hw11⟩ : ∃ w11, w11 = w10.alloc (.cells #[.int .i64 fx, .int .i64 C, .int .i64 fw, .int .i64 7, .slice none 0 0] 58) := ⟨_, rfl⟩
          have HBA : Hid (Below w10.heap.size w10 w11) := Lib.hid (by rw [hw11]; exact (Below.refl _ _).alloc (Nat.le_refl _) _)
          have HLB : Hid (Blk w11 gL 58 #[.int .i64 fx, .int .i64 C, .int .i64 fw, .int .i64 7, .slice none 0 0]) := Lib.hid (by rw [hw11, HGL.out]; exact Blk.new _ _ _)
          have HF11 := Lib.hid (HF10.out.bel HBA.out)
          have HG11 := Lib.hid (HG10.out.below HBA.out HG10.out.lt)
          have HI11 := Lib.hid (HIB.out.below HBA.out HIB.out.lt)
          rw [← hw11, ← HGL.out]
          clear hw11 i1 e1 hwl f0 f1 f2 f3 f4 hwC hj5 hj6 hgf hgi HGL HBA HIB HF10 HG10
          go_loopw [15, 16, 17] (fun q15 q16 q17 wr => ∃ (k : Nat), k ≤ j ∧ q15 = .int .i64 (((l.map rF).take k).foldl endR 0) ∧ q16 = .int .i64 ((bs.take k).foldl max (C + 7)) ∧ q17 = .int .i64 (k : Int) ∧ Hid (Below w11.heap.size w11 wr)) (fun _ _ q _ => j - (intOf q).toNat)
          case atStart => exact ⟨0, by omega, rfl, rfl, rfl, Lib.hid (Below.refl _ _)⟩
          case round =>
            obtain ⟨k, hk, rfl, rfl, rfl, HBr⟩ := hrel
            by_cases hkj : k < j
            · have d0 : decide ((k : Int) < (l.length : Int)) = true := decide_eq_true (by rw [← HJL.out]; omega)
              have hkl : k < l.length := by rw [← HJL.out]; exact hkj
              have hwk : IntKind.i64.wrap ((k : Int) + 1) = (k : Int) + 1 := IntWalk.i64_in _ ⟨by omega, by have := HJ40.out; omega⟩
              have HFr := Lib.hid (HF11.out.bel HBr.out)
              obtain ⟨hk1, hks⟩ := rsC_at l side k hkl
              have HRG : Hid (wr.rangeAt gN ((k + 1) * 44 + 1) (styCells (twS (rF l[k])))) := Lib.hid (by rw [← hks]; exact node_rng HFr.out.n (by rw [twL_len]; unfold rsC; simp; exact HJL.out.symm) (k + 1) hk1)
              clear hk1 hks
              obtain ⟨h1, h2, h3⟩ := HFC.out.fr k hkl
              have hbd := HFC.out.bd k
              have HTS : Hid ((bs.take (k + 1)).foldl max (C + 7) = max ((bs.take k).foldl max (C + 7)) ((fs k).y + (fs k).h)) := Lib.hid (by
                rw [List.take_add_one, h1, List.foldl_append]; rfl)
              obtain ⟨r, hr⟩ : ∃ r, r = l[k] := ⟨_, rfl⟩
              rw [← hr] at HRG h2 h3
              clear hr h1
              obtain ⟨x, y, z⟩ := r
              dsimp only at h2 h3
              have HO := Lib.hid (Sty.one (twS (rF (x, y, z))) (A := none) (n := 0) (c := 0) rfl)
              obtain ⟨M, hM⟩ : ∃ M, M = (bs.take k).foldl max (C + 7) := ⟨_, rfl⟩
              obtain ⟨E1, hE1⟩ : ∃ E1, E1 = ((l.map rF).take k).foldl endR 0 := ⟨_, rfl⟩
              obtain ⟨f, hf⟩ : ∃ f, f = fs k := ⟨_, rfl⟩
              have HFRG : Hid (∀ W', Below w11.heap.size w11 W' → W'.cell? ⟨gF, k * 5 + 1, none⟩ = some (.int .i64 f.y) ∧ W'.cell? ⟨gF, k * 5 + 3, none⟩ = some (.int .i64 f.h)) := Lib.hid (fun W' hb => by
                rw [hf]
                have h := frag_c (HG11.out.below hb HG11.out.lt) k (by omega)
                exact ⟨h.2.1, h.2.2.2.1⟩)
              rw [← hM] at HTS ⊢
              rw [← hE1] at h3 ⊢
              rw [← hf] at HTS h2 h3 hbd
              have H2 := Lib.hid h2
              have H3 := Lib.hid h3
              have HM := Lib.hid hM
              have HE1 := Lib.hid hE1
              clear hM hE1 hf h2 h3
              obtain ⟨fx1, fy, fw1, fh⟩ := f
              dsimp only at hbd
              have hwb : IntKind.i64.wrap (fy + fh) = fy + fh := IntWalk.i64_in _ ⟨by omega, by omega⟩
              clear hbd
              obtain ⟨t0, t1, t2⟩ := HFr.out.t.c3
              have hi3 : (k : Int) + 1 < (j : Int) + 1 + 1 := by omega
              have hi4 : k + 1 < j + 1 + 1 := by omega
              go_upto_region 30 with (fail)
              refine wp_region_lit ?_
              refine wpList_val (v := ?_) (w' := wr) rfl ?_ ?_
              rotate_left
              · go_simp
                rfl
              try simp only [Act.put, List.setIfInBounds_toArray, List.set_cons_zero, List.set_cons_succ, List.getElem_toArray, List.getElem_cons_zero, List.getElem_cons_succ]
              refine wpList_val (v := ?_) (w' := wr) rfl ?_ ?_
              rotate_left
              · go_simp
                rfl
              try simp only [Act.put, List.setIfInBounds_toArray, List.set_cons_zero, List.set_cons_succ, List.getElem_toArray, List.getElem_cons_zero, List.getElem_cons_succ]
              refine wpList_val (v := ?_) (w' := wr) rfl ?_ ?_
              rotate_left
              · go_simp
                rfl
              try simp only [Act.put, List.setIfInBounds_toArray, List.set_cons_zero, List.set_cons_succ, List.getElem_toArray, List.getElem_cons_zero, List.getElem_cons_succ]
              refine wpList_val (v := ?_) (w' := wr) rfl ?_ ?_
              rotate_left
              · go_simp
                rfl
              try simp only [Act.put, List.setIfInBounds_toArray, List.set_cons_zero, List.set_cons_succ, List.getElem_toArray, List.getElem_cons_zero, List.getElem_cons_succ]
              refine wpList_val (v := ?_) (w' := wr) rfl ?_ ?_
              rotate_left
              · go_simp
                rfl
              try simp only [Act.put, List.setIfInBounds_toArray, List.set_cons_zero, List.set_cons_succ, List.getElem_toArray, List.getElem_cons_zero, List.getElem_cons_succ]
              refine wpList_val (v := ?_) (w' := wr) rfl ?_ ?_
              rotate_left
              · go_simp
                rfl
              try simp only [Act.put, List.setIfInBounds_toArray, List.set_cons_zero, List.set_cons_succ, List.getElem_toArray, List.getElem_cons_zero, List.getElem_cons_succ]
              refine wpList_load_mid rfl 69 (.tmp 153) rfl gN ((k + 1) * 44 + 1) rfl (styCells (twS (rF (x, y, z)))) _ HRG.out Try.underlying69 rfl (by kernel_rfl) ?_
              try simp only [Act.put, List.setIfInBounds_toArray, List.set_cons_zero, List.set_cons_succ, List.getElem_toArray, List.getElem_cons_zero, List.getElem_cons_succ]
              go_upto_region 31 with (refine wpList_store_new rfl 69 _ _ rfl _ rfl (styCells (twS (rF (x, y, z)))).toArray rfl rfl 69 _ (by kernel_rfl) rfl HO.out ?_)
              obtain ⟨gX, HGX⟩ : ∃ gX, Hid (gX = wr.heap.size) := ⟨_, Lib.hid rfl⟩
              obtain ⟨w12, hw12⟩ : ∃ w12, w12 = wr.alloc (.cells (styCells (twS (rF (x, y, z)))).toArray 69) := ⟨_, rfl⟩
              have HXB : Hid (Blk w12 gX 69 (styCells (twS (rF (x, y, z)))).toArray) := Lib.hid (by rw [hw12, HGX.out]; exact Blk.new _ _ _)
              have HB12 : Hid (Below w11.heap.size w11 w12) := Lib.hid (by rw [hw12]; exact HBr.out.alloc HBr.out.size _)
              rw [← hw12, ← HGX.out]
              clear hw12 t0 t1 t2 hi3 hi4 HRG HGX HFr
              go_upto_region 31 with (fail)
              have hkj1 : (k : Int) < (j : Int) + 1 := by omega
              have hkj2 : k < j + 1 := by omega
              refine wp_region_S (fun _ _ _ W => Below w12.heap.size w12 W) 1000 1000 100000 true true (by kernel_rfl) (by kernel_rfl) (by kernel_rfl) ((Below.refl _ _).drew) ?_
              refine wpAnyS_take (i := 0) (v := ?_) rfl (by kernel_rfl) (by kernel_rfl) (by kernel_rfl) (fun _ _ _ h => h) (by rfl) (gives_pure (by rfl) ?_) ?_
              rotate_left
              · intro b' d' u' W' hS'
                have hq := HB12.out.trans (Below.mono hS' HB12.out.size)
                obtain ⟨f1, f3⟩ := HFRG.out W' hq
                have i1 := (HI11.out.below hq HI11.out.lt).get 1 (v := .slice (some ⟨gF, 0, none⟩) (j + 1) (j + 1)) rfl
                go_simp
                rfl
              try simp only [Act.put, List.setIfInBounds_toArray, List.set_cons_zero, List.set_cons_succ, List.getElem_toArray, List.getElem_cons_zero, List.getElem_cons_succ]
              refine wpAnyS_take (i := 1) (v := ?_) rfl (by kernel_rfl) (by kernel_rfl) (by kernel_rfl) (fun _ _ _ h => h) (by rfl) (gives_pure (by rfl) ?_) ?_
              rotate_left
              · intro b' d' u' W' hS'
                have hq := HB12.out.trans (Below.mono hS' HB12.out.size)
                obtain ⟨f1, f3⟩ := HFRG.out W' hq
                have i1 := (HI11.out.below hq HI11.out.lt).get 1 (v := .slice (some ⟨gF, 0, none⟩) (j + 1) (j + 1)) rfl
                go_simp
                rfl
              try simp only [Act.put, List.setIfInBounds_toArray, List.set_cons_zero, List.set_cons_succ, List.getElem_toArray, List.getElem_cons_zero, List.getElem_cons_succ]
              refine wpAnyS_take (i := 2) (v := ?_) rfl (by kernel_rfl) (by kernel_rfl) (by kernel_rfl) (fun _ _ _ h => h) (by rfl) (gives_pure (by rfl) ?_) ?_
              rotate_left
              · intro b' d' u' W' hS'
                have hq := HB12.out.trans (Below.mono hS' HB12.out.size)
                obtain ⟨f1, f3⟩ := HFRG.out W' hq
                have i1 := (HI11.out.below hq HI11.out.lt).get 1 (v := .slice (some ⟨gF, 0, none⟩) (j + 1) (j + 1)) rfl
                go_simp
                rfl
              try simp only [Act.put, List.setIfInBounds_toArray, List.set_cons_zero, List.set_cons_succ, List.getElem_toArray, List.getElem_cons_zero, List.getElem_cons_succ]
              refine wpAnyS_take (i := 3) (v := ?_) rfl (by kernel_rfl) (by kernel_rfl) (by kernel_rfl) (fun _ _ _ h => h) (by rfl) (gives_pure (by rfl) ?_) ?_
              rotate_left
              · intro b' d' u' W' hS'
                have hq := HB12.out.trans (Below.mono hS' HB12.out.size)
                obtain ⟨f1, f3⟩ := HFRG.out W' hq
                have i1 := (HI11.out.below hq HI11.out.lt).get 1 (v := .slice (some ⟨gF, 0, none⟩) (j + 1) (j + 1)) rfl
                go_simp
                rfl
              try simp only [Act.put, List.setIfInBounds_toArray, List.set_cons_zero, List.set_cons_succ, List.getElem_toArray, List.getElem_cons_zero, List.getElem_cons_succ]
              refine wpAnyS_take (i := 4) (v := ?_) rfl (by kernel_rfl) (by kernel_rfl) (by kernel_rfl) (fun _ _ _ h => h) (by rfl) (gives_pure (by rfl) ?_) ?_
              rotate_left
              · intro b' d' u' W' hS'
                have hq := HB12.out.trans (Below.mono hS' HB12.out.size)
                obtain ⟨f1, f3⟩ := HFRG.out W' hq
                have i1 := (HI11.out.below hq HI11.out.lt).get 1 (v := .slice (some ⟨gF, 0, none⟩) (j + 1) (j + 1)) rfl
                go_simp
                rfl
              try simp only [Act.put, List.setIfInBounds_toArray, List.set_cons_zero, List.set_cons_succ, List.getElem_toArray, List.getElem_cons_zero, List.getElem_cons_succ]
              refine wpAnyS_take (i := 5) (v := ?_) rfl (by kernel_rfl) (by kernel_rfl) (by kernel_rfl) (fun _ _ _ h => h) (by rfl) (gives_pure (by rfl) ?_) ?_
              rotate_left
              · intro b' d' u' W' hS'
                have hq := HB12.out.trans (Below.mono hS' HB12.out.size)
                obtain ⟨f1, f3⟩ := HFRG.out W' hq
                have i1 := (HI11.out.below hq HI11.out.lt).get 1 (v := .slice (some ⟨gF, 0, none⟩) (j + 1) (j + 1)) rfl
                go_simp
                rfl
              try simp only [Act.put, List.setIfInBounds_toArray, List.set_cons_zero, List.set_cons_succ, List.getElem_toArray, List.getElem_cons_zero, List.getElem_cons_succ]
              refine wpAnyS_take (i := 6) (v := ?_) rfl (by kernel_rfl) (by kernel_rfl) (by kernel_rfl) (fun _ _ _ h => h) (by rfl) (gives_pure (by rfl) ?_) ?_
              rotate_left
              · intro b' d' u' W' hS'
                have hq := HB12.out.trans (Below.mono hS' HB12.out.size)
                obtain ⟨f1, f3⟩ := HFRG.out W' hq
                have i1 := (HI11.out.below hq HI11.out.lt).get 1 (v := .slice (some ⟨gF, 0, none⟩) (j + 1) (j + 1)) rfl
                go_simp
                rfl
              try simp only [Act.put, List.setIfInBounds_toArray, List.set_cons_zero, List.set_cons_succ, List.getElem_toArray, List.getElem_cons_zero, List.getElem_cons_succ]
              refine wpAnyS_take (i := 7) (v := ?_) rfl (by kernel_rfl) (by kernel_rfl) (by kernel_rfl) (fun _ _ _ h => h) (by rfl) (gives_pure (by rfl) ?_) ?_
              rotate_left
              · intro b' d' u' W' hS'
                have hq := HB12.out.trans (Below.mono hS' HB12.out.size)
                obtain ⟨f1, f3⟩ := HFRG.out W' hq
                have i1 := (HI11.out.below hq HI11.out.lt).get 1 (v := .slice (some ⟨gF, 0, none⟩) (j + 1) (j + 1)) rfl
                go_simp
                rfl
              try simp only [Act.put, List.setIfInBounds_toArray, List.set_cons_zero, List.set_cons_succ, List.getElem_toArray, List.getElem_cons_zero, List.getElem_cons_succ]
              refine wpAnyS_take (i := 8) (v := ?_) rfl (by kernel_rfl) (by kernel_rfl) (by kernel_rfl) (fun _ _ _ h => h) (by rfl) (gives_pure (by rfl) ?_) ?_
              rotate_left
              · intro b' d' u' W' hS'
                have hq := HB12.out.trans (Below.mono hS' HB12.out.size)
                obtain ⟨f1, f3⟩ := HFRG.out W' hq
                have i1 := (HI11.out.below hq HI11.out.lt).get 1 (v := .slice (some ⟨gF, 0, none⟩) (j + 1) (j + 1)) rfl
                go_simp
                rfl
              try simp only [Act.put, List.setIfInBounds_toArray, List.set_cons_zero, List.set_cons_succ, List.getElem_toArray, List.getElem_cons_zero, List.getElem_cons_succ]
              refine wpAnyS_take (i := 9) (v := ?_) rfl (by kernel_rfl) (by kernel_rfl) (by kernel_rfl) (fun _ _ _ h => h) (by rfl) (gives_pure (by rfl) ?_) ?_
              rotate_left
              · intro b' d' u' W' hS'
                have hq := HB12.out.trans (Below.mono hS' HB12.out.size)
                obtain ⟨f1, f3⟩ := HFRG.out W' hq
                have i1 := (HI11.out.below hq HI11.out.lt).get 1 (v := .slice (some ⟨gF, 0, none⟩) (j + 1) (j + 1)) rfl
                go_simp
                rfl
              try simp only [Act.put, List.setIfInBounds_toArray, List.set_cons_zero, List.set_cons_succ, List.getElem_toArray, List.getElem_cons_zero, List.getElem_cons_succ]
              refine wpAnyS_take (i := 10) (v := ?_) rfl (by kernel_rfl) (by kernel_rfl) (by kernel_rfl) (fun _ _ _ h => h) (by rfl) (gives_pure (by rfl) ?_) ?_
              rotate_left
              · intro b' d' u' W' hS'
                have hq := HB12.out.trans (Below.mono hS' HB12.out.size)
                obtain ⟨f1, f3⟩ := HFRG.out W' hq
                have i1 := (HI11.out.below hq HI11.out.lt).get 1 (v := .slice (some ⟨gF, 0, none⟩) (j + 1) (j + 1)) rfl
                go_simp
                rfl
              try simp only [Act.put, List.setIfInBounds_toArray, List.set_cons_zero, List.set_cons_succ, List.getElem_toArray, List.getElem_cons_zero, List.getElem_cons_succ]
              refine wpAnyS_take (i := 11) (v := ?_) rfl (by kernel_rfl) (by kernel_rfl) (by kernel_rfl) (fun _ _ _ h => h) (by rfl) (gives_pure (by rfl) ?_) ?_
              rotate_left
              · intro b' d' u' W' hS'
                have hq := HB12.out.trans (Below.mono hS' HB12.out.size)
                obtain ⟨f1, f3⟩ := HFRG.out W' hq
                have i1 := (HI11.out.below hq HI11.out.lt).get 1 (v := .slice (some ⟨gF, 0, none⟩) (j + 1) (j + 1)) rfl
                go_simp
                rfl
              try simp only [Act.put, List.setIfInBounds_toArray, List.set_cons_zero, List.set_cons_succ, List.getElem_toArray, List.getElem_cons_zero, List.getElem_cons_succ]
              refine wpAnyS_take (i := 12) (v := ?_) rfl (by kernel_rfl) (by kernel_rfl) (by kernel_rfl) (fun _ _ _ h => h) (by rfl) (gives_pure (by rfl) ?_) ?_
              rotate_left
              · intro b' d' u' W' hS'
                have hq := HB12.out.trans (Below.mono hS' HB12.out.size)
                obtain ⟨f1, f3⟩ := HFRG.out W' hq
                have i1 := (HI11.out.below hq HI11.out.lt).get 1 (v := .slice (some ⟨gF, 0, none⟩) (j + 1) (j + 1)) rfl
                go_simp
                rfl
              try simp only [Act.put, List.setIfInBounds_toArray, List.set_cons_zero, List.set_cons_succ, List.getElem_toArray, List.getElem_cons_zero, List.getElem_cons_succ]
              refine wpAnyS_take (i := 13) (v := ?_) rfl (by kernel_rfl) (by kernel_rfl) (by kernel_rfl) (fun _ _ _ h => h) (by rfl) (gives_pure (by rfl) ?_) ?_
              rotate_left
              · intro b' d' u' W' hS'
                have hq := HB12.out.trans (Below.mono hS' HB12.out.size)
                obtain ⟨f1, f3⟩ := HFRG.out W' hq
                have i1 := (HI11.out.below hq HI11.out.lt).get 1 (v := .slice (some ⟨gF, 0, none⟩) (j + 1) (j + 1)) rfl
                go_simp
                rfl
              try simp only [Act.put, List.setIfInBounds_toArray, List.set_cons_zero, List.set_cons_succ, List.getElem_toArray, List.getElem_cons_zero, List.getElem_cons_succ]
              refine wpAnyS_done (b := true) (d := true) (by kernel_rfl) (by kernel_rfl) (by kernel_rfl) rfl (fun w31 h31 => ?_) _
              have H31 := Lib.hid (HB12.out.trans (h31.mono HB12.out.size))
              have HX31 := Lib.hid (HXB.out.below h31 HXB.out.lt)
              clear h31 HXB
              have x2 := HX31.out.get 2 (v := .int .u8 ((z : Int) % 3)) rfl
              obtain ⟨l0, l1⟩ : w31.cell? ⟨gL, 0, none⟩ = some (.int .i64 fx) ∧ w31.cell? ⟨gL, 1, none⟩ = some (.int .i64 C) := ⟨(HLB.out.below H31.out HLB.out.lt).get 0 rfl, (HLB.out.below H31.out HLB.out.lt).get 1 rfl⟩
              by_cases hz : z % 3 = 0
              · have e0 : ((z : Int) % 3 == 0) = true := by rw [beq_iff_eq]; omega
                go_wp2_with fail
                go_roundw
                case rel => exact ⟨k + 1, by omega, by rw [← H2.out hz], by rw [HTS.out], by go_num, H31⟩
                case measure => simp [intOf]; omega
              · have e0 : ((z : Int) % 3 == 0) = false := beq_eq_false_iff_ne.2 (by omega)
                have h3 := H3.out hz
                by_cases hs3 : side = 3
                · have e1 : ((side : Int) == 3) = true := by rw [beq_iff_eq]; omega
                  have e3 : decide (C < fy + fh) = false := decide_eq_false (by have := h3.2 (.inl hs3); dsimp only at this; omega)
                  go_wp2_with fail
                  go_roundw
                  case rel => exact ⟨k + 1, by omega, by rw [h3.1], by rw [HTS.out], by go_num, H31⟩
                  case measure => simp [intOf]; omega
                · have e1 : ((side : Int) == 3) = false := beq_eq_false_iff_ne.2 (by omega)
                  by_cases hsz : side = z % 3
                  · have e2 : ((side : Int) == (z : Int) % 3) = true := by rw [beq_iff_eq]; omega
                    have e3 : decide (C < fy + fh) = false := decide_eq_false (by have := h3.2 (.inr hsz); dsimp only at this; omega)
                    clear hsz
                    go_wp2_with fail
                    go_roundw
                    case rel => exact ⟨k + 1, by omega, by rw [h3.1], by rw [HTS.out], by go_num, H31⟩
                    case measure => simp [intOf]; omega
                  · have e2 : ((side : Int) == (z : Int) % 3) = false := beq_eq_false_iff_ne.2 (by omega)
                    go_wp2_with fail
                    refine ⟨⟨k + 1, by omega, by rw [h3.1], by rw [HTS.out], by go_num, H31⟩, ?_⟩
                    simp [intOf]; omega
            · have d0 : decide ((k : Int) < (l.length : Int)) = false := decide_eq_false (by rw [← HJL.out]; omega)
              have HKJ : Hid (k = j) := Lib.hid (by omega)
              have hE : ((l.map rF).take k).foldl endR 0 = E := by rw [HFC.out.e.2.2, HKJ.out, HJL.out, ← List.length_map (f := rF), List.take_length]
              have hM : (bs.take k).foldl max (C + 7) = HH := by rw [HHH.out, HKJ.out, HJL.out, ← HFC.out.len, List.take_length]
              rw [hE, hM]
              clear hE hM
              have hcb := HFC.out.c
              have heb := HFC.out.e
              have hwE : IntKind.i64.wrap (E + 5) = E + 5 := IntWalk.i64_in _ ⟨by omega, by omega⟩
              have e3 : decide (C < E + 5) = false := decide_eq_false (by omega)
              obtain ⟨l0, l1⟩ : wr.cell? ⟨gL, 0, none⟩ = some (.int .i64 fx) ∧ wr.cell? ⟨gL, 1, none⟩ = some (.int .i64 C) := ⟨(HLB.out.below HBr.out HLB.out.lt).get 0 rfl, (HLB.out.below HBr.out HLB.out.lt).get 1 rfl⟩
              have i3 := (HI11.out.below HBr.out HI11.out.lt).get 3 (v := .int .i64 HH) rfl
              have e4 : (HH == HH) = true := by simp
              have HWW := Lib.hid (HF11.out.b.trans (HBr.out.mono HF11.out.b.size))
              by_cases hs0 : side = 0
              · have e1 : ((side : Int) == 0) = true := by rw [beq_iff_eq]; omega
                have e2 : (C != E + 5) = false := by simp; exact hcb.2.2 hs0
                clear hcb heb
                go_wp2_with (go_at_call 18; refine (works22_any _).mono ?_; rintro e w40 ⟨rfl, hb⟩; have HW40 := Lib.hid (hb.mono HWW.out.size); clear hb)
                go_ret
                exact ⟨rfl, HWW.out.trans HW40.out⟩
              · have e1 : ((side : Int) == 0) = false := beq_eq_false_iff_ne.2 (by omega)
                clear hcb heb
                go_wp2_with (go_at_call 18; refine (works22_any _).mono ?_; rintro e w40 ⟨rfl, hb⟩; have HW40 := Lib.hid (hb.mono HWW.out.size); clear hb)
                go_ret
                exact ⟨rfl, HWW.out.trans HW40.out⟩
end Go.Proofs.Ytlebbkhhhmempaa
