/- The law FlowEnds, walked. -/
import Derived.Test.YtlebbkhhhmempaaToc
import Derived.Test.YtlebbkhhhmempaaLtk
import Derived.Lib.MinMax
set_option linter.unusedSimpArgs false
set_option linter.unusedVariables false
namespace Go.Proofs.Ytlebbkhhhmempaa
open Go.RowKit
attribute [local go_sem] block_of_add

set_option maxRecDepth 100000 in
set_option maxHeartbeats 4000000 in
theorem flowEnds_any (l : List (Int × Int × Int)) (A : Option Addr) (c : Nat) (cut : Nat) (w : World) (hl : ∀ r ∈ l, I16r r) (hr : Reads w w.heap.size 3 A l.length (l.flatMap r3h)) (hcut : cut < 256) :
    Calls Try.prog 6 #[.slice A l.length c, .int .u8 cut] w fun e w' => e = .returned (.bool true) ∧ Below w.heap.size w w' := by
  have HR := Lib.hid hr
  have HI := Lib.hid hl
  clear hr hl
  go_enter Try.func6, Try.ntmps6
  by_cases hn : 60 < l.length
  · have d0 : decide ((60 : Int) < (l.length : Int)) = true := decide_eq_true (by omega)
    go_wp2_with (go_at_call 18; refine (works22_any _).mono ?_; rintro e w1 ⟨rfl, hb⟩)
    go_ret
    exact ⟨rfl, hb⟩
  have HN : Hid (l.length ≤ 60) := Lib.hid (by omega)
  have d00 : decide ((60 : Int) < (l.length : Int)) = false := decide_eq_false (by omega)
  clear hn
  go_upto_region 5 with (fail)
  clear d00
  go_loopw [5, 6] (fun q3 q4 wr => ∃ (j : Nat) (AR : Option Addr) (cR : Nat), j ≤ l.length ∧ q3 = .slice AR j cR ∧ q4 = .int .i64 (j : Int) ∧ Hid (RwI w l feR j AR cR wr)) (fun _ q _ => l.length - (intOf q).toNat)
  case atStart => exact ⟨0, none, 0, by omega, rfl, rfl, Lib.hid ⟨own_nil _ _ _ _, Below.refl _ _⟩⟩
  case round =>
    obtain ⟨j, AR, cR, hj, rfl, rfl, HJ⟩ := hrel
    by_cases hlt : j < l.length
    · have d0 : decide ((j : Int) < (l.length : Int)) = true := decide_eq_true (by omega)
      have hwk : IntKind.i64.wrap ((j : Int) + 1) = (j : Int) + 1 := IntWalk.i64_in _ ⟨by omega, by have := HN.out; omega⟩
      have HROW := Lib.hid (HR.out.row16 rfl hlt HJ.out.b)
      obtain ⟨ad, hA, hb, HX⟩ := HROW.out
      have HXX := Lib.hid HX
      clear HROW HX
      have HIN := Lib.hid (HI.out _ (List.getElem_mem hlt))
      have HTK := Lib.hid (rw_take l feR j hlt)
      obtain ⟨r, hrr⟩ : ∃ r, r = l[j] := ⟨_, rfl⟩
      rw [← hrr] at HXX HIN HTK
      clear hrr
      obtain ⟨h, a, b⟩ := r
      have hin := HIN.out
      unfold I16r at hin
      dsimp only at hin
      obtain ⟨⟨i0, i1⟩, ⟨i2, i3⟩, i4, i5⟩ := hin
      have hw1 : IntKind.i64.wrap h = h := IntWalk.i64_in _ ⟨by omega, by omega⟩
      have hw2 : IntKind.i64.wrap a = a := IntWalk.i64_in _ ⟨by omega, by omega⟩
      have hw3 : IntKind.i64.wrap b = b := IntWalk.i64_in _ ⟨by omega, by omega⟩
      clear i0 i1 i2 i3 i4 i5
      subst hA
      have hj2 : (j : Int) < (l.length : Int) := by omega
      have hbw : ad.block < wr.heap.size := Nat.lt_of_lt_of_le hb HJ.out.b.size
      have HSZ := Lib.hid HJ.out.b.size
      go_upto_region 7 with (fail)
      have HJD : Hid (wr.drew.ownsRow w.heap.size 46 3 (.slice AR j cR) j (((l.take j).map feR).flatMap r3C)) := Lib.hid (own_below HJ.out.o (Below.refl _ _).drew)
      have HS0 : Hid (∀ W', Below w.heap.size wr W' → W'.cell? (ad.add (j * 3)) = some (.int .i16 h) ∧ W'.cell? ⟨ad.block, (ad.add (j * 3)).off + 1, none⟩ = some (.int .i16 a) ∧ W'.cell? ⟨ad.block, (ad.add (j * 3)).off + 2, none⟩ = some (.int .i16 b)) := Lib.hid (fun W' hb => HXX.out W' hb)
      have hj9 : j + 1 ≤ 4294967296 := by have := HN.out; omega
      refine wp_region_held_drew (S := (fun W' => W'.cell? (ad.add (j * 3)) = some (.int .i16 h) ∧ W'.cell? ⟨ad.block, (ad.add (j * 3)).off + 1, none⟩ = some (.int .i16 a) ∧ W'.cell? ⟨ad.block, (ad.add (j * 3)).off + 2, none⟩ = some (.int .i16 b))) (by kernel_rfl) (HS0.out _ ((Below.refl _ _).drew)) (fun hS => ?_)
      refine wpAnyH_take (i := 0) (v := ?_) rfl (by kernel_rfl) (by kernel_rfl) (by kernel_rfl) (fun _ _ _ h => h) (Or.inl ⟨by rfl, ?_⟩) hS ?_
      rotate_left
      · intro W' hS'
        go_simp
        rfl
      try simp only [Act.put, List.setIfInBounds_toArray, List.set_cons_zero, List.set_cons_succ, List.getElem_toArray, List.getElem_cons_zero, List.getElem_cons_succ]
      refine wpAnyH_take (i := 1) (v := ?_) rfl (by kernel_rfl) (by kernel_rfl) (by kernel_rfl) (fun _ _ _ h => h) (Or.inl ⟨by rfl, ?_⟩) hS ?_
      rotate_left
      · intro W' hS'
        go_simp
        rfl
      try simp only [Act.put, List.setIfInBounds_toArray, List.set_cons_zero, List.set_cons_succ, List.getElem_toArray, List.getElem_cons_zero, List.getElem_cons_succ]
      refine wpAnyH_take (i := 2) (v := ?_) rfl (by kernel_rfl) (by kernel_rfl) (by kernel_rfl) (fun _ _ _ h => h) (Or.inl ⟨by rfl, ?_⟩) hS ?_
      rotate_left
      · intro W' hS'
        go_simp
        rfl
      try simp only [Act.put, List.setIfInBounds_toArray, List.set_cons_zero, List.set_cons_succ, List.getElem_toArray, List.getElem_cons_zero, List.getElem_cons_succ]
      refine wpAnyH_take (i := 3) (v := ?_) rfl (by kernel_rfl) (by kernel_rfl) (by kernel_rfl) (fun _ _ _ h => h) (Or.inl ⟨by rfl, ?_⟩) hS ?_
      rotate_left
      · intro W' hS'
        go_simp
        rfl
      try simp only [Act.put, List.setIfInBounds_toArray, List.set_cons_zero, List.set_cons_succ, List.getElem_toArray, List.getElem_cons_zero, List.getElem_cons_succ]
      refine wpAnyH_take (i := 4) (v := ?_) rfl (by kernel_rfl) (by kernel_rfl) (by kernel_rfl) (fun _ _ _ h => h) (Or.inl ⟨by rfl, ?_⟩) hS ?_
      rotate_left
      · intro W' hS'
        go_simp
        rfl
      try simp only [Act.put, List.setIfInBounds_toArray, List.set_cons_zero, List.set_cons_succ, List.getElem_toArray, List.getElem_cons_zero, List.getElem_cons_succ]
      refine wpAnyH_take (i := 5) (v := ?_) rfl (by kernel_rfl) (by kernel_rfl) (by kernel_rfl) (fun _ _ _ h => h) (Or.inl ⟨by rfl, ?_⟩) hS ?_
      rotate_left
      · intro W' hS'
        go_simp
        rfl
      try simp only [Act.put, List.setIfInBounds_toArray, List.set_cons_zero, List.set_cons_succ, List.getElem_toArray, List.getElem_cons_zero, List.getElem_cons_succ]
      refine wpAnyH_take (i := 6) (v := ?_) rfl (by kernel_rfl) (by kernel_rfl) (by kernel_rfl) (fun _ _ _ h => h) (Or.inl ⟨by rfl, ?_⟩) hS ?_
      rotate_left
      · intro W' hS'
        go_simp
        rfl
      try simp only [Act.put, List.setIfInBounds_toArray, List.set_cons_zero, List.set_cons_succ, List.getElem_toArray, List.getElem_cons_zero, List.getElem_cons_succ]
      refine wpAnyH_take (i := 7) (v := ?_) rfl (by kernel_rfl) (by kernel_rfl) (by kernel_rfl) (fun _ _ _ h => h) (Or.inl ⟨by rfl, ?_⟩) hS ?_
      rotate_left
      · intro W' hS'
        go_simp
        rfl
      try simp only [Act.put, List.setIfInBounds_toArray, List.set_cons_zero, List.set_cons_succ, List.getElem_toArray, List.getElem_cons_zero, List.getElem_cons_succ]
      refine wpAnyH_take (i := 8) (v := ?_) rfl (by kernel_rfl) (by kernel_rfl) (by kernel_rfl) (fun _ _ _ h => h) (Or.inl ⟨by rfl, ?_⟩) hS ?_
      rotate_left
      · intro W' hS'
        go_simp
        rfl
      try simp only [Act.put, List.setIfInBounds_toArray, List.set_cons_zero, List.set_cons_succ, List.getElem_toArray, List.getElem_cons_zero, List.getElem_cons_succ]
      refine wpAnyH_take (i := 9) (v := ?_) rfl (by kernel_rfl) (by kernel_rfl) (by kernel_rfl) (fun _ _ _ h => h) (Or.inl ⟨by rfl, ?_⟩) hS ?_
      rotate_left
      · intro W' hS'
        go_simp
        rfl
      try simp only [Act.put, List.setIfInBounds_toArray, List.set_cons_zero, List.set_cons_succ, List.getElem_toArray, List.getElem_cons_zero, List.getElem_cons_succ]
      refine wpAnyH_take (i := 10) (v := ?_) rfl (by kernel_rfl) (by kernel_rfl) (by kernel_rfl) (fun _ _ _ h => h) (Or.inl ⟨by rfl, ?_⟩) hS ?_
      rotate_left
      · intro W' hS'
        go_simp
        rfl
      try simp only [Act.put, List.setIfInBounds_toArray, List.set_cons_zero, List.set_cons_succ, List.getElem_toArray, List.getElem_cons_zero, List.getElem_cons_succ]
      refine wpAnyH_take (i := 11) (v := ?_) rfl (by kernel_rfl) (by kernel_rfl) (by kernel_rfl) (fun _ _ _ h => h) (Or.inl ⟨by rfl, ?_⟩) hS ?_
      rotate_left
      · intro W' hS'
        go_simp
        rfl
      try simp only [Act.put, List.setIfInBounds_toArray, List.set_cons_zero, List.set_cons_succ, List.getElem_toArray, List.getElem_cons_zero, List.getElem_cons_succ]
      refine wpAnyH_take (i := 12) (v := ?_) rfl (by kernel_rfl) (by kernel_rfl) (by kernel_rfl) (fun _ _ _ h => h) (Or.inl ⟨by rfl, ?_⟩) hS ?_
      rotate_left
      · intro W' hS'
        go_simp
        rfl
      try simp only [Act.put, List.setIfInBounds_toArray, List.set_cons_zero, List.set_cons_succ, List.getElem_toArray, List.getElem_cons_zero, List.getElem_cons_succ]
      refine wpAnyH_take (i := 13) (v := ?_) rfl (by kernel_rfl) (by kernel_rfl) (by kernel_rfl) (fun _ _ _ h => h) (Or.inl ⟨by rfl, ?_⟩) hS ?_
      rotate_left
      · intro W' hS'
        go_simp
        rfl
      try simp only [Act.put, List.setIfInBounds_toArray, List.set_cons_zero, List.set_cons_succ, List.getElem_toArray, List.getElem_cons_zero, List.getElem_cons_succ]
      refine wpAnyH_take (i := 14) (v := ?_) rfl (by kernel_rfl) (by kernel_rfl) (by kernel_rfl) (fun _ _ _ h => h) (Or.inl ⟨by rfl, ?_⟩) hS ?_
      rotate_left
      · intro W' hS'
        go_simp
        rfl
      try simp only [Act.put, List.setIfInBounds_toArray, List.set_cons_zero, List.set_cons_succ, List.getElem_toArray, List.getElem_cons_zero, List.getElem_cons_succ]
      refine wpAnyH_take (i := 15) (v := ?_) rfl (by kernel_rfl) (by kernel_rfl) (by kernel_rfl) (fun _ _ _ h => h) (Or.inl ⟨by rfl, ?_⟩) hS ?_
      rotate_left
      · intro W' hS'
        go_simp
        rfl
      try simp only [Act.put, List.setIfInBounds_toArray, List.set_cons_zero, List.set_cons_succ, List.getElem_toArray, List.getElem_cons_zero, List.getElem_cons_succ]
      refine wpAnyH_take (i := 16) (v := ?_) rfl (by kernel_rfl) (by kernel_rfl) (by kernel_rfl) (fun _ _ _ h => h) (Or.inl ⟨by rfl, ?_⟩) hS ?_
      rotate_left
      · intro W' hS'
        go_simp
        rfl
      try simp only [Act.put, List.setIfInBounds_toArray, List.set_cons_zero, List.set_cons_succ, List.getElem_toArray, List.getElem_cons_zero, List.getElem_cons_succ]
      refine wpAnyH_take (i := 17) (v := ?_) rfl (by kernel_rfl) (by kernel_rfl) (by kernel_rfl) (fun _ _ _ h => h) (Or.inl ⟨by rfl, ?_⟩) hS ?_
      rotate_left
      · intro W' hS'
        go_simp
        rfl
      try simp only [Act.put, List.setIfInBounds_toArray, List.set_cons_zero, List.set_cons_succ, List.getElem_toArray, List.getElem_cons_zero, List.getElem_cons_succ]
      refine wpAnyH_take (i := 18) (v := ?_) rfl (by kernel_rfl) (by kernel_rfl) (by kernel_rfl) (fun _ _ _ h => h) (Or.inl ⟨by rfl, ?_⟩) hS ?_
      rotate_left
      · intro W' hS'
        go_simp
        rfl
      try simp only [Act.put, List.setIfInBounds_toArray, List.set_cons_zero, List.set_cons_succ, List.getElem_toArray, List.getElem_cons_zero, List.getElem_cons_succ]
      refine wpAnyH_take (i := 19) (v := ?_) rfl (by kernel_rfl) (by kernel_rfl) (by kernel_rfl) (fun _ _ _ h => h) (Or.inl ⟨by rfl, ?_⟩) hS ?_
      rotate_left
      · intro W' hS'
        go_simp
        rfl
      try simp only [Act.put, List.setIfInBounds_toArray, List.set_cons_zero, List.set_cons_succ, List.getElem_toArray, List.getElem_cons_zero, List.getElem_cons_succ]
      refine wpAnyH_take (i := 20) (v := ?_) rfl (by kernel_rfl) (by kernel_rfl) (by kernel_rfl) (fun _ _ _ h => h) (Or.inl ⟨by rfl, ?_⟩) hS ?_
      rotate_left
      · intro W' hS'
        go_simp
        rfl
      try simp only [Act.put, List.setIfInBounds_toArray, List.set_cons_zero, List.set_cons_succ, List.getElem_toArray, List.getElem_cons_zero, List.getElem_cons_succ]
      refine wpAnyH_ready (rs := [21]) (by kernel_rfl) (by simp) (AllReadyH.cons rfl (fun K hK => ?_) AllReadyH.nil)
      go_simp
      refine hK.out _ _ (HS0.out _ (((Below.refl _ _).drew).alloc HSZ.out _)) (fun hS => ?_)
      try simp only [Act.put, List.setIfInBounds_toArray, List.set_cons_zero, List.set_cons_succ, List.getElem_toArray, List.getElem_cons_zero, List.getElem_cons_succ]
      clear hK
      refine wpAnyH_ready (rs := [22]) (by kernel_rfl) (by simp) (AllReadyH.cons rfl (fun K hK => ?_) AllReadyH.nil)
      refine step_appG (m := 1) rfl _ _ rfl el_row3 HJD.out HSZ.out rfl [.int .i64 (max h (-1)), .int .i64 a, .int .i64 b] rfl rfl rfl (by simp [Value.oneCell']) hj9 (by omega) ?_
      intro A' c' w7 hown hB hg hob
      have HB7 := Lib.hid (hB _ _ (Nat.le_refl _) ((Below.refl w.heap.size wr).drew))
      have HJ7 := Lib.hid hown
      clear hown hB hg hob
      refine hK.out _ _ (HS0.out _ HB7.out) (fun hS => ?_)
      try simp only [Act.put, List.setIfInBounds_toArray, List.set_cons_zero, List.set_cons_succ, List.getElem_toArray, List.getElem_cons_zero, List.getElem_cons_succ]
      clear hK
      refine wpAnyH_take (i := 23) (v := ?_) rfl (by kernel_rfl) (by kernel_rfl) (by kernel_rfl) (fun _ _ _ h => h) (Or.inl ⟨by rfl, ?_⟩) hS ?_
      rotate_left
      · intro W' hS'
        go_simp
        rfl
      try simp only [Act.put, List.setIfInBounds_toArray, List.set_cons_zero, List.set_cons_succ, List.getElem_toArray, List.getElem_cons_zero, List.getElem_cons_succ]
      refine wpAnyH_done (by kernel_rfl) ?_ _
      clear hS
      have HJN : Hid (RwI w l feR (j + 1) A' c' w7) := Lib.hid ⟨by rw [HTK.out]; exact HJ7.out, HJ.out.b.trans HB7.out⟩
      go_wp2_with fail
      go_roundw
      case rel => exact ⟨j + 1, A', c', by omega, rfl, by go_num, HJN⟩
      case measure => simp [intOf]; omega
    · have d0 : decide ((j : Int) < (l.length : Int)) = false := decide_eq_false (by omega)
      have HJL : Hid (j = l.length) := Lib.hid (by omega)
      obtain ⟨R, HRR⟩ : ∃ R, Hid (R = l.map feR) := ⟨_, Lib.hid rfl⟩
      have HRL : Hid (R.length = j) := Lib.hid (by rw [HRR.out, List.length_map, HJL.out])
      have HRB : Hid (∀ r ∈ R, RowB r) := Lib.hid (by rw [HRR.out]; exact feR_B HI.out)
      have HO : Hid (wr.ownsRow w.heap.size 46 3 (.slice AR j cR) j (R.flatMap r3C)) := Lib.hid (by have := HJ.out.o; rw [HJL.out, List.take_length, ← HJL.out, ← HRR.out] at this; exact this)
      have HBW := Lib.hid HJ.out.b
      have HJ60 : Hid (j ≤ 60) := Lib.hid (by have := HN.out; omega)
      clear HJ HRR HI HR
      have hwc : IntKind.i64.wrap (cut : Int) = (cut : Int) := IntWalk.i64_in _ ⟨by omega, by omega⟩
      have hwj : IntKind.i64.wrap ((j : Int) + 1) = (j : Int) + 1 := IntWalk.i64_in _ ⟨by omega, by have := HJ60.out; omega⟩
      obtain ⟨kk, hkj, hkk⟩ : ∃ kk : Nat, kk ≤ j ∧ (cut : Int) % ((j : Int) + 1) = (kk : Int) := ⟨cut % (j + 1), Nat.le_of_lt_succ (Nat.mod_lt _ (Nat.succ_pos _)), by simp⟩
      go_upto_region 9 with (fail)
      rw [hkk]
      have HKJ := Lib.hid hkj
      clear hkk hwc hwj hkj
      have q1 := Lib.hid (tower22s_any R AR j cR wr HRL.out (by have := HJ60.out; omega) (Reads.of_own HO.out))
      go_upto_region 10 with (go_at_call 19; refine q1.out.mono ?_; rintro e w1 ⟨gN, cN, gU, cU, rfl, hn, hu, hb⟩; have HN1 := Lib.hid hn; have HU1 := Lib.hid hu; have HB1 := Lib.hid hb; clear hn hu hb)
      obtain ⟨gT, HGT⟩ : ∃ gT, Hid (gT = w1.heap.size) := ⟨_, Lib.hid rfl⟩
      obtain ⟨w2, hw2⟩ : ∃ w2, w2 = w1.alloc (.cells #[.slice (some ⟨gN, 0, none⟩) (j + 1) cN, .slice none 0 0, .int .i64 100] 25) := ⟨_, rfl⟩
      have HBA : Below w1.heap.size w1 w2 := by rw [hw2]; exact (Below.refl _ _).alloc (Nat.le_refl _) _
      have HTB2 : Hid (Blk w2 gT 25 #[.slice (some ⟨gN, 0, none⟩) (j + 1) cN, .slice none 0 0, .int .i64 100]) := Lib.hid (by rw [hw2, HGT.out]; exact Blk.new _ _ _)
      have HRN2 := Lib.hid (Reads.of_own (own_below HN1.out HBA))
      have HRU2 := Lib.hid (Reads.of_own (own_below HU1.out HBA))
      have HB2 := Lib.hid (HB1.out.trans (HBA.mono HB1.out.size))
      have HGTL : Hid (w.heap.size ≤ gT) := Lib.hid (by rw [HGT.out]; exact Nat.le_trans HBW.out.size HB1.out.size)
      rw [← hw2, ← HGT.out]
      clear HBA hw2 HN1 HU1 HB1 HGT q1
      have q2 := Lib.hid (tblockL_any 0 0 R j HRL.out (by have := HJ60.out; omega) HRB.out (by decide) (by decide) _ _ cN cU w2 HRN2.out HRU2.out)
      obtain ⟨t0, t1, t2⟩ := HTB2.out.c3
      have hgt : gT < w2.heap.size := HTB2.out.lt
      obtain ⟨HH, HHH⟩ : ∃ HH, Hid (HH = max 0 ((ysL R j).1 + sumF (ysL R j).2) + (0 + 0)) := ⟨_, Lib.hid rfl⟩
      rw [← HHH.out] at q2
      go_upto_region 11 with (go_at_call 20; refine q2.out.mono ?_; rintro e w3 ⟨Ab, cb, gF, gB, rfl, hf, hb⟩; have HF3 := Lib.hid hf; have HB3 := Lib.hid (HB2.out.trans (hb.mono HB2.out.size)); have HTB3 := Lib.hid (HTB2.out.below hb HTB2.out.lt); clear hf hb)
      clear q2 t0 t1 t2 hgt HRN2 HRU2 HTB2 HB2
      obtain ⟨gI, HGI⟩ : ∃ gI, Hid (gI = w3.heap.size) := ⟨_, Lib.hid rfl⟩
      obtain ⟨w4, hw4⟩ : ∃ w4, w4 = w3.alloc (.cells #[.slice Ab j cb, .slice (some ⟨gF, 0, none⟩) j j, .slice (some ⟨gB, 0, none⟩) j j, .int .i64 HH, .slice none 0 0, .bool false] 52) := ⟨_, rfl⟩
      have HBA : Hid (Below w3.heap.size w3 w4) := Lib.hid (by rw [hw4]; exact (Below.refl _ _).alloc (Nat.le_refl _) _)
      have HIB4 : Hid (Blk w4 gI 52 #[.slice Ab j cb, .slice (some ⟨gF, 0, none⟩) j j, .slice (some ⟨gB, 0, none⟩) j j, .int .i64 HH, .slice none 0 0, .bool false]) := Lib.hid (by rw [hw4, HGI.out]; exact Blk.new _ _ _)
      have HF4 := Lib.hid (HF3.out.below HBA.out HF3.out.lt)
      have HTB4 := Lib.hid (HTB3.out.below HBA.out HTB3.out.lt)
      have HB4 := Lib.hid (HB3.out.trans (HBA.out.mono HB3.out.size))
      have HO4 := Lib.hid (own_below HO.out HB4.out)
      have HW4 := Lib.hid (HBW.out.trans (HB4.out.mono HBW.out.size))
      rw [← hw4, ← HGI.out]
      clear hw4 HF3 HB3 HBA HGI HO HBW HB4 HTB3
      -- the second tower
      have q3 := Lib.hid (tower22s_any (R.take kk) AR kk cR w4 (by rw [List.length_take, HRL.out]; have := HKJ.out; omega) (by have := HKJ.out; have := HJ60.out; omega) (reads_takeR (Reads.of_own HO4.out) HRL.out HKJ.out))
      have hkc : kk ≤ cR := Nat.le_trans HKJ.out (own_cap HO4.out)
      have hkc2 : (kk : Int) ≤ (cR : Int) := by omega
      have hk0 : (0 : Int) ≤ (kk : Int) := by omega
      obtain ⟨t0, t1, t2⟩ := HTB4.out.c3
      go_upto_region 12 with (go_at_call 19; refine q3.out.mono ?_; rintro e w5 ⟨gM, cM, gV, cV, rfl, hn, hu, hb⟩; have HN5 := Lib.hid hn; have HU5 := Lib.hid hu; have HTB5 := Lib.hid (HTB4.out.below hb HTB4.out.lt); have HF5 := Lib.hid (HF4.out.below hb HF4.out.lt); have HIB5 := Lib.hid (HIB4.out.below hb HIB4.out.lt); have HW5 := Lib.hid (HW4.out.trans (hb.mono HW4.out.size)); have HLT := Lib.hid HTB4.out.lt; clear hn hu hb t0 t1 t2; obtain ⟨t0, t1, t2⟩ := HTB5.out.c3; have ft := HTB5.out.frozen)
      obtain ⟨w6, hw6⟩ : ∃ w6, w6 = (((w5.setCell ⟨gT, 0, none⟩ (.slice (some ⟨gM, 0, none⟩) (kk + 1) cM)).setCell ⟨gT, 1, none⟩ (.slice none 0 0)).setCell ⟨gT, 2, none⟩ (.int .i64 100)) := ⟨_, rfl⟩
      have HTB6 : Hid (Blk w6 gT 25 #[.slice (some ⟨gM, 0, none⟩) (kk + 1) cM, .slice none 0 0, .int .i64 100]) := Lib.hid (by rw [hw6]; exact ((HTB5.out.set_ 0 _).set_ 1 _).set_ 2 _)
      have HRN6 : Hid (Reads w6 w6.heap.size 44 (some ⟨gM, 0, none⟩) (kk + 1) (ndsCells (twL 0 0 ((R.take kk).map rwOf)))) := Lib.hid (by rw [hw6]; exact Reads.of_own (ownsRow_setCell_below (ownsRow_setCell_below (ownsRow_setCell_below HN5.out HLT.out _) HLT.out _) HLT.out _))
      have HRU6 : Hid (Reads w6 w6.heap.size 3 (some ⟨gV, 0, none⟩) (kk + 1) (udsCells (wkU (kk + 1)))) := Lib.hid (by rw [hw6]; exact Reads.of_own (ownsRow_setCell_below (ownsRow_setCell_below (ownsRow_setCell_below HU5.out HLT.out _) HLT.out _) HLT.out _))
      have hne1 := HIB5.out.ne_ HTB5.out (by decide)
      have hne2 := HF5.out.ne_ HTB5.out (by decide)
      have HIB6 : Hid (Blk w6 gI 52 #[.slice Ab j cb, .slice (some ⟨gF, 0, none⟩) j j, .slice (some ⟨gB, 0, none⟩) j j, .int .i64 HH, .slice none 0 0, .bool false]) := Lib.hid (by rw [hw6]; exact ((HIB5.out.far hne1 _).far hne1 _).far hne1 _)
      have HF6 : Hid (Blk w6 gF 58 (frsCells ((List.range j).map (tF 0 R))).toArray) := Lib.hid (by rw [hw6]; exact ((HF5.out.far hne2 _).far hne2 _).far hne2 _)
      have HW6 : Hid (Below w.heap.size w w6) := Lib.hid (by rw [hw6]; exact ((HW5.out.setCell (p := ⟨gT, 0, none⟩) HGTL.out _).setCell (p := ⟨gT, 1, none⟩) HGTL.out _).setCell (p := ⟨gT, 2, none⟩) HGTL.out _)
      rw [← hw6]
      clear hw6 hne1 hne2 t0 t1 t2 ft HTB5 HN5 HU5 HIB5 HF5 HW5 HTB4 HIB4 HF4 HW4 HO4 HLT q3 hkc hkc2 hk0
      have q4 := Lib.hid (tblockL_any 0 0 (R.take kk) kk (by rw [List.length_take, HRL.out]; have := HKJ.out; omega) (by have := HKJ.out; have := HJ60.out; omega) (fun r hr => HRB.out r (List.mem_of_mem_take hr)) (by decide) (by decide) _ _ cM cV w6 HRN6.out HRU6.out)
      obtain ⟨HG, HGG⟩ : ∃ HG, Hid (HG = max 0 ((ysL (R.take kk) kk).1 + sumF (ysL (R.take kk) kk).2) + (0 + 0)) := ⟨_, Lib.hid rfl⟩
      rw [← HGG.out] at q4
      obtain ⟨t0, t1, t2⟩ := HTB6.out.c3
      go_upto_region 13 with (go_at_call 20; refine q4.out.mono ?_; rintro e w7 ⟨Ab2, cb2, gF2, gB2, rfl, hf, hb⟩; have HG7 := Lib.hid hf; have HF7 := Lib.hid (HF6.out.below hb HF6.out.lt); have HIB7 := Lib.hid (HIB6.out.below hb HIB6.out.lt); have HW7 := Lib.hid (HW6.out.trans (hb.mono HW6.out.size)); clear hf hb)
      clear q4 t0 t1 t2 HRN6 HRU6 HTB6 HIB6 HF6 HW6
      obtain ⟨gJ, HGJ⟩ : ∃ gJ, Hid (gJ = w7.heap.size) := ⟨_, Lib.hid rfl⟩
      obtain ⟨w8, hw8⟩ : ∃ w8, w8 = w7.alloc (.cells #[.slice Ab2 kk cb2, .slice (some ⟨gF2, 0, none⟩) kk kk, .slice (some ⟨gB2, 0, none⟩) kk kk, .int .i64 HG, .slice none 0 0, .bool false] 52) := ⟨_, rfl⟩
      have HBA : Hid (Below w7.heap.size w7 w8) := Lib.hid (by rw [hw8]; exact (Below.refl _ _).alloc (Nat.le_refl _) _)
      have HJB8 : Hid (Blk w8 gJ 52 #[.slice Ab2 kk cb2, .slice (some ⟨gF2, 0, none⟩) kk kk, .slice (some ⟨gB2, 0, none⟩) kk kk, .int .i64 HG, .slice none 0 0, .bool false]) := Lib.hid (by rw [hw8, HGJ.out]; exact Blk.new _ _ _)
      have HIB8 := Lib.hid (HIB7.out.below HBA.out HIB7.out.lt)
      have HF8 := Lib.hid (HF7.out.below HBA.out HF7.out.lt)
      have HG8 := Lib.hid (HG7.out.below HBA.out HG7.out.lt)
      have HW8 := Lib.hid (HW7.out.trans (HBA.out.mono HW7.out.size))
      rw [← hw8, ← HGJ.out]
      clear hw8 HF7 HG7 HIB7 HW7 HBA HGJ
      have i1 := HIB8.out.get 1 (v := .slice (some ⟨gF, 0, none⟩) j j) rfl
      have j1 := HJB8.out.get 1 (v := .slice (some ⟨gF2, 0, none⟩) kk kk) rfl
      have e1 : ((j : Int) != (j : Int)) = false := by simp
      have e2 : ((kk : Int) != (kk : Int)) = false := by simp
      go_upto_region 16 with (fail)
      clear i1 j1 e1 e2
      go_loopw [12] (fun q12 wr2 => ∃ (i : Nat), i ≤ kk ∧ q12 = .int .i64 (i : Int) ∧ Hid (Below w8.heap.size w8 wr2)) (fun q _ => kk - (intOf q).toNat)
      case atStart => exact ⟨0, by omega, rfl, Lib.hid (Below.refl _ _)⟩
      case round =>
        obtain ⟨i, hi, rfl, HJ2⟩ := hrel
        by_cases hik : i < kk
        · have d0 : decide ((i : Int) < (kk : Int)) = true := decide_eq_true (by omega)
          have hwk : IntKind.i64.wrap ((i : Int) + 1) = (i : Int) + 1 := IntWalk.i64_in _ ⟨by omega, by have := HKJ.out; have := HJ60.out; omega⟩
          have hij : i < j := by have := HKJ.out; omega
          have hij2 : (i : Int) < (j : Int) := by omega
          have hik2 : (i : Int) < (kk : Int) := by omega
          obtain ⟨f, hf⟩ : ∃ f, f = tF 0 R i := ⟨_, rfl⟩
          have HRA : Hid (∀ W', Below w8.heap.size w8 W' → W'.rangeAt gF (i * 5) (frCells f)) := Lib.hid (fun W' hb => by rw [hf]; exact frag_rng (HF8.out.below hb HF8.out.lt) i hij)
          have HRC : Hid (∀ W', Below w8.heap.size w8 W' → W'.rangeAt gF2 (i * 5) (frCells f)) := Lib.hid (fun W' hb => by rw [hf, ← tF_take 0 R kk i hik]; exact frag_rng (HG8.out.below hb HG8.out.lt) i hik)
          clear hf
          have HSF := Lib.hid (fun W => sameFrag_any f W)
          obtain ⟨fx, fy, fw, fh⟩ := f
          go_upto_region 18 with (fail)
          refine wp_region_S (fun _ _ _ W => Below wr.heap.size wr W) 1000 1000 100000 true true (by kernel_rfl) (by kernel_rfl) (by kernel_rfl) ((Below.refl _ _).drew) ?_
          refine wpAnyS_take (i := 0) (v := ?_) rfl (by kernel_rfl) (by kernel_rfl) (by kernel_rfl) (fun _ _ _ h => h) (by rfl) (gives_pure (by rfl) ?_) ?_
          rotate_left
          · intro b' d' u' W' hS'
            have hq := HJ2.out.trans (Below.mono hS' HJ2.out.size)
            have i1 := (HIB8.out.below hq HIB8.out.lt).get 1 (v := .slice (some ⟨gF, 0, none⟩) j j) rfl
            have j1 := (HJB8.out.below hq HJB8.out.lt).get 1 (v := .slice (some ⟨gF2, 0, none⟩) kk kk) rfl
            go_simp
            rfl
          try simp only [Act.put, List.setIfInBounds_toArray, List.set_cons_zero, List.set_cons_succ, List.getElem_toArray, List.getElem_cons_zero, List.getElem_cons_succ]
          refine wpAnyS_take (i := 1) (v := ?_) rfl (by kernel_rfl) (by kernel_rfl) (by kernel_rfl) (fun _ _ _ h => h) (by rfl) (gives_pure (by rfl) ?_) ?_
          rotate_left
          · intro b' d' u' W' hS'
            have hq := HJ2.out.trans (Below.mono hS' HJ2.out.size)
            have i1 := (HIB8.out.below hq HIB8.out.lt).get 1 (v := .slice (some ⟨gF, 0, none⟩) j j) rfl
            have j1 := (HJB8.out.below hq HJB8.out.lt).get 1 (v := .slice (some ⟨gF2, 0, none⟩) kk kk) rfl
            go_simp
            rfl
          try simp only [Act.put, List.setIfInBounds_toArray, List.set_cons_zero, List.set_cons_succ, List.getElem_toArray, List.getElem_cons_zero, List.getElem_cons_succ]
          refine wpAnyS_take (i := 2) (v := ?_) rfl (by kernel_rfl) (by kernel_rfl) (by kernel_rfl) (fun _ _ _ h => h) (by rfl) (gives_pure (by rfl) ?_) ?_
          rotate_left
          · intro b' d' u' W' hS'
            have hq := HJ2.out.trans (Below.mono hS' HJ2.out.size)
            have i1 := (HIB8.out.below hq HIB8.out.lt).get 1 (v := .slice (some ⟨gF, 0, none⟩) j j) rfl
            have j1 := (HJB8.out.below hq HJB8.out.lt).get 1 (v := .slice (some ⟨gF2, 0, none⟩) kk kk) rfl
            go_simp
            rfl
          try simp only [Act.put, List.setIfInBounds_toArray, List.set_cons_zero, List.set_cons_succ, List.getElem_toArray, List.getElem_cons_zero, List.getElem_cons_succ]
          refine wpAnyS_take (i := 3) (v := ?_) rfl (by kernel_rfl) (by kernel_rfl) (by kernel_rfl) (fun _ _ _ h => h) (by rfl) (gives_pure (by rfl) ?_) ?_
          rotate_left
          · intro b' d' u' W' hS'
            have hq := HJ2.out.trans (Below.mono hS' HJ2.out.size)
            have i1 := (HIB8.out.below hq HIB8.out.lt).get 1 (v := .slice (some ⟨gF, 0, none⟩) j j) rfl
            have j1 := (HJB8.out.below hq HJB8.out.lt).get 1 (v := .slice (some ⟨gF2, 0, none⟩) kk kk) rfl
            go_simp
            rfl
          try simp only [Act.put, List.setIfInBounds_toArray, List.set_cons_zero, List.set_cons_succ, List.getElem_toArray, List.getElem_cons_zero, List.getElem_cons_succ]
          refine wpAnyS_take (i := 4) (v := .agg ([.int .i64 fx, .int .i64 fy, .int .i64 fw, .int .i64 fh, .slice none 0 0]).toArray) rfl (by kernel_rfl) (by kernel_rfl) (by kernel_rfl) (fun _ _ _ h => h) (by rfl) (gives_yields ?_) ?_
          · refine yieldsIf_load_mid (by rfl) 58 (.tmp 91) rfl (gF) (i * 5) rfl ([.int .i64 fx, .int .i64 fy, .int .i64 fw, .int .i64 fh, .slice none 0 0]) _ ?_ Try.underlying58 rfl (by kernel_rfl)
            rintro W' ⟨b', d', u', hS'⟩
            exact HRA.out W' (HJ2.out.trans (Below.mono hS' HJ2.out.size))
          try simp only [Act.put, List.setIfInBounds_toArray, List.set_cons_zero, List.set_cons_succ, List.getElem_toArray, List.getElem_cons_zero, List.getElem_cons_succ]
          refine wpAnyS_take (i := 5) (v := ?_) rfl (by kernel_rfl) (by kernel_rfl) (by kernel_rfl) (fun _ _ _ h => h) (by rfl) (gives_pure (by rfl) ?_) ?_
          rotate_left
          · intro b' d' u' W' hS'
            have hq := HJ2.out.trans (Below.mono hS' HJ2.out.size)
            have i1 := (HIB8.out.below hq HIB8.out.lt).get 1 (v := .slice (some ⟨gF, 0, none⟩) j j) rfl
            have j1 := (HJB8.out.below hq HJB8.out.lt).get 1 (v := .slice (some ⟨gF2, 0, none⟩) kk kk) rfl
            go_simp
            rfl
          try simp only [Act.put, List.setIfInBounds_toArray, List.set_cons_zero, List.set_cons_succ, List.getElem_toArray, List.getElem_cons_zero, List.getElem_cons_succ]
          refine wpAnyS_take (i := 6) (v := ?_) rfl (by kernel_rfl) (by kernel_rfl) (by kernel_rfl) (fun _ _ _ h => h) (by rfl) (gives_pure (by rfl) ?_) ?_
          rotate_left
          · intro b' d' u' W' hS'
            have hq := HJ2.out.trans (Below.mono hS' HJ2.out.size)
            have i1 := (HIB8.out.below hq HIB8.out.lt).get 1 (v := .slice (some ⟨gF, 0, none⟩) j j) rfl
            have j1 := (HJB8.out.below hq HJB8.out.lt).get 1 (v := .slice (some ⟨gF2, 0, none⟩) kk kk) rfl
            go_simp
            rfl
          try simp only [Act.put, List.setIfInBounds_toArray, List.set_cons_zero, List.set_cons_succ, List.getElem_toArray, List.getElem_cons_zero, List.getElem_cons_succ]
          refine wpAnyS_take (i := 7) (v := ?_) rfl (by kernel_rfl) (by kernel_rfl) (by kernel_rfl) (fun _ _ _ h => h) (by rfl) (gives_pure (by rfl) ?_) ?_
          rotate_left
          · intro b' d' u' W' hS'
            have hq := HJ2.out.trans (Below.mono hS' HJ2.out.size)
            have i1 := (HIB8.out.below hq HIB8.out.lt).get 1 (v := .slice (some ⟨gF, 0, none⟩) j j) rfl
            have j1 := (HJB8.out.below hq HJB8.out.lt).get 1 (v := .slice (some ⟨gF2, 0, none⟩) kk kk) rfl
            go_simp
            rfl
          try simp only [Act.put, List.setIfInBounds_toArray, List.set_cons_zero, List.set_cons_succ, List.getElem_toArray, List.getElem_cons_zero, List.getElem_cons_succ]
          refine wpAnyS_take (i := 8) (v := ?_) rfl (by kernel_rfl) (by kernel_rfl) (by kernel_rfl) (fun _ _ _ h => h) (by rfl) (gives_pure (by rfl) ?_) ?_
          rotate_left
          · intro b' d' u' W' hS'
            have hq := HJ2.out.trans (Below.mono hS' HJ2.out.size)
            have i1 := (HIB8.out.below hq HIB8.out.lt).get 1 (v := .slice (some ⟨gF, 0, none⟩) j j) rfl
            have j1 := (HJB8.out.below hq HJB8.out.lt).get 1 (v := .slice (some ⟨gF2, 0, none⟩) kk kk) rfl
            go_simp
            rfl
          try simp only [Act.put, List.setIfInBounds_toArray, List.set_cons_zero, List.set_cons_succ, List.getElem_toArray, List.getElem_cons_zero, List.getElem_cons_succ]
          refine wpAnyS_take (i := 9) (v := .agg ([.int .i64 fx, .int .i64 fy, .int .i64 fw, .int .i64 fh, .slice none 0 0]).toArray) rfl (by kernel_rfl) (by kernel_rfl) (by kernel_rfl) (fun _ _ _ h => h) (by rfl) (gives_yields ?_) ?_
          · refine yieldsIf_load_mid (by rfl) 58 (.tmp 96) rfl (gF2) (i * 5) rfl ([.int .i64 fx, .int .i64 fy, .int .i64 fw, .int .i64 fh, .slice none 0 0]) _ ?_ Try.underlying58 rfl (by kernel_rfl)
            rintro W' ⟨b', d', u', hS'⟩
            exact HRC.out W' (HJ2.out.trans (Below.mono hS' HJ2.out.size))
          try simp only [Act.put, List.setIfInBounds_toArray, List.set_cons_zero, List.set_cons_succ, List.getElem_toArray, List.getElem_cons_zero, List.getElem_cons_succ]
          refine wpAnyS_take (i := 10) (v := .bool true) rfl (by kernel_rfl) (by kernel_rfl) (by kernel_rfl) (fun _ _ _ h => h) (by rfl) (gives_call (by rfl) _ _ ?_ (fun b' d' u' W' hS' => (HSF.out W').mono (fun _ _ h => ⟨h.1, hS'.trans (h.2.mono hS'.size)⟩))) ?_
          · intro W'
            first | rfl | kernel_rfl
          try simp only [Act.put, List.setIfInBounds_toArray, List.set_cons_zero, List.set_cons_succ, List.getElem_toArray, List.getElem_cons_zero, List.getElem_cons_succ]
          refine wpAnyS_take (i := 11) (v := ?_) rfl (by kernel_rfl) (by kernel_rfl) (by kernel_rfl) (fun _ _ _ h => h) (by rfl) (gives_pure (by rfl) ?_) ?_
          rotate_left
          · intro b' d' u' W' hS'
            have hq := HJ2.out.trans (Below.mono hS' HJ2.out.size)
            have i1 := (HIB8.out.below hq HIB8.out.lt).get 1 (v := .slice (some ⟨gF, 0, none⟩) j j) rfl
            have j1 := (HJB8.out.below hq HJB8.out.lt).get 1 (v := .slice (some ⟨gF2, 0, none⟩) kk kk) rfl
            go_simp
            rfl
          try simp only [Act.put, List.setIfInBounds_toArray, List.set_cons_zero, List.set_cons_succ, List.getElem_toArray, List.getElem_cons_zero, List.getElem_cons_succ]
          refine wpAnyS_done (b := true) (d := true) (by kernel_rfl) (by kernel_rfl) (by kernel_rfl) rfl (fun w18 h18 => ?_) _
          have H18 := Lib.hid (HJ2.out.trans (h18.mono HJ2.out.size))
          clear h18
          go_wp2_with fail
          go_roundw
          case rel => exact ⟨i + 1, by omega, by go_num, H18⟩
          case measure => simp [intOf]; omega
        · have d0 : decide ((i : Int) < (kk : Int)) = false := decide_eq_false (by omega)
          go_wp2_with (go_at_call 18; refine (works22_any _).mono ?_; rintro e w9 ⟨rfl, hb⟩; have HW9 := Lib.hid (hb.mono (Nat.le_trans HW8.out.size HJ2.out.size)))
          go_ret
          exact ⟨rfl, (HW8.out.trans (HJ2.out.mono HW8.out.size)).trans HW9.out⟩
end Go.Proofs.Ytlebbkhhhmempaa
