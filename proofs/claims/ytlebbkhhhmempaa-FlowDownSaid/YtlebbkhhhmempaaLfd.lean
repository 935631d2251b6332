/- The law FlowDown, walked. -/
import Derived.Test.YtlebbkhhhmempaaToc
import Derived.Test.YtlebbkhhhmempaaLtk
import Derived.Lib.MinMax
set_option linter.unusedSimpArgs false
set_option linter.unusedVariables false
namespace Go.Proofs.Ytlebbkhhhmempaa
open Go.RowKit
attribute [local go_sem] block_of_add
theorem twL_roof (p q : Int) (rs : List Rw) : ndsCells (twL p q rs) = ((ndsCells (twL 0 0 rs)).set 25 (.int .i64 p)).set 31 (.int .i64 q) := rfl
theorem tF_roof (p : Int) (R : List (Int × Int × Int)) (i : Nat) : tF p R i = ⟨0, (tF 0 R i).y + p, 100, (tF 0 R i).h⟩ := by
  unfold tF; simp only [Int.add_zero]

set_option maxRecDepth 100000 in
set_option maxHeartbeats 4000000 in
theorem flowDown_any (l : List (Int × Int × Int)) (A : Option Addr) (c : Nat) (ro fl : Nat) (w : World) (hl : ∀ r ∈ l, I16r r) (hr : Reads w w.heap.size 3 A l.length (l.flatMap r3h)) (hro : ro < 65536) (hfl : fl < 65536) :
    Calls Try.prog 8 #[.slice A l.length c, .int .u16 ro, .int .u16 fl] w fun e w' => e = .returned (.bool true) ∧ Below w.heap.size w w' := by
  have HR := Lib.hid hr
  have HI := Lib.hid hl
  clear hr hl
  go_enter Try.func8, Try.ntmps8
  by_cases hn : 60 < l.length
  · have d0 : decide ((60 : Int) < (l.length : Int)) = true := decide_eq_true (by omega)
    go_wp2_with (go_at_call 18; refine (works22_any _).mono ?_; rintro e w1 ⟨rfl, hb⟩)
    go_ret
    exact ⟨rfl, hb⟩
  have HN : Hid (l.length ≤ 60) := Lib.hid (by omega)
  have d00 : decide ((60 : Int) < (l.length : Int)) = false := decide_eq_false (by omega)
  clear hn
  go_upto_region 5 with (fail)
  clear d00
  go_loopw [7, 8] (fun q3 q4 wr => ∃ (j : Nat) (AR : Option Addr) (cR : Nat), j ≤ l.length ∧ q3 = .slice AR j cR ∧ q4 = .int .i64 (j : Int) ∧ Hid (RwI w l feR j AR cR wr)) (fun _ q _ => l.length - (intOf q).toNat)
  case atStart => exact ⟨0, none, 0, by omega, rfl, rfl, Lib.hid ⟨own_nil _ _ _ _, Below.refl _ _⟩⟩
  case round =>
    obtain ⟨j, AR, cR, hj, rfl, rfl, HJ⟩ := hrel
    by_cases hlt : j < l.length
    · have d0 : decide ((j : Int) < (l.length : Int)) = true := decide_eq_true (by omega)
      have hwk : IntKind.i64.wrap ((j : Int) + 1) = (j : Int) + 1 := IntWalk.i64_in _ ⟨by omega, by have := HN.out; omega⟩
      have HROW := Lib.hid (HR.out.row16 rfl hlt HJ.out.b)
      obtain ⟨ad, hA, hb, HX⟩ := HROW.out
      have HXX := Lib.hid HX
      clear HROW HX
      have HIN := Lib.hid (HI.out _ (List.getElem_mem hlt))
      have HTK := Lib.hid (rw_take l feR j hlt)
      obtain ⟨r, hrr⟩ : ∃ r, r = l[j] := ⟨_, rfl⟩
      rw [← hrr] at HXX HIN HTK
      clear hrr
      obtain ⟨h, a, b⟩ := r
      have hin := HIN.out
      unfold I16r at hin
      dsimp only at hin
      obtain ⟨⟨i0, i1⟩, ⟨i2, i3⟩, i4, i5⟩ := hin
      have hw1 : IntKind.i64.wrap h = h := IntWalk.i64_in _ ⟨by omega, by omega⟩
      have hw2 : IntKind.i64.wrap a = a := IntWalk.i64_in _ ⟨by omega, by omega⟩
      have hw3 : IntKind.i64.wrap b = b := IntWalk.i64_in _ ⟨by omega, by omega⟩
      clear i0 i1 i2 i3 i4 i5
      subst hA
      have hj2 : (j : Int) < (l.length : Int) := by omega
      have hbw : ad.block < wr.heap.size := Nat.lt_of_lt_of_le hb HJ.out.b.size
      have HSZ := Lib.hid HJ.out.b.size
      go_upto_region 7 with (fail)
      have HJD : Hid (wr.drew.ownsRow w.heap.size 46 3 (.slice AR j cR) j (((l.take j).map feR).flatMap r3C)) := Lib.hid (own_below HJ.out.o (Below.refl _ _).drew)
      have HS0 : Hid (∀ W', Below w.heap.size wr W' → W'.cell? (ad.add (j * 3)) = some (.int .i16 h) ∧ W'.cell? ⟨ad.block, (ad.add (j * 3)).off + 1, none⟩ = some (.int .i16 a) ∧ W'.cell? ⟨ad.block, (ad.add (j * 3)).off + 2, none⟩ = some (.int .i16 b)) := Lib.hid (fun W' hb => HXX.out W' hb)
      have hj9 : j + 1 ≤ 4294967296 := by have := HN.out; omega
      refine wp_region_held_drew (S := (fun W' => W'.cell? (ad.add (j * 3)) = some (.int .i16 h) ∧ W'.cell? ⟨ad.block, (ad.add (j * 3)).off + 1, none⟩ = some (.int .i16 a) ∧ W'.cell? ⟨ad.block, (ad.add (j * 3)).off + 2, none⟩ = some (.int .i16 b))) (by kernel_rfl) (HS0.out _ ((Below.refl _ _).drew)) (fun hS => ?_)
      refine wpAnyH_take (i := 0) (v := ?_) rfl (by kernel_rfl) (by kernel_rfl) (by kernel_rfl) (fun _ _ _ h => h) (Or.inl ⟨by rfl, ?_⟩) hS ?_
      rotate_left
      · intro W' hS'
        go_simp
        rfl
      try simp only [Act.put, List.setIfInBounds_toArray, List.set_cons_zero, List.set_cons_succ, List.getElem_toArray, List.getElem_cons_zero, List.getElem_cons_succ]
      refine wpAnyH_take (i := 1) (v := ?_) rfl (by kernel_rfl) (by kernel_rfl) (by kernel_rfl) (fun _ _ _ h => h) (Or.inl ⟨by rfl, ?_⟩) hS ?_
      rotate_left
      · intro W' hS'
        go_simp
        rfl
      try simp only [Act.put, List.setIfInBounds_toArray, List.set_cons_zero, List.set_cons_succ, List.getElem_toArray, List.getElem_cons_zero, List.getElem_cons_succ]
      refine wpAnyH_take (i := 2) (v := ?_) rfl (by kernel_rfl) (by kernel_rfl) (by kernel_rfl) (fun _ _ _ h => h) (Or.inl ⟨by rfl, ?_⟩) hS ?_
      rotate_left
      · intro W' hS'
        go_simp
        rfl
      try simp only [Act.put, List.setIfInBounds_toArray, List.set_cons_zero, List.set_cons_succ, List.getElem_toArray, List.getElem_cons_zero, List.getElem_cons_succ]
      refine wpAnyH_take (i := 3) (v := ?_) rfl (by kernel_rfl) (by kernel_rfl) (by kernel_rfl) (fun _ _ _ h => h) (Or.inl ⟨by rfl, ?_⟩) hS ?_
      rotate_left
      · intro W' hS'
        go_simp
        rfl
      try simp only [Act.put, List.setIfInBounds_toArray, List.set_cons_zero, List.set_cons_succ, List.getElem_toArray, List.getElem_cons_zero, List.getElem_cons_succ]
      refine wpAnyH_take (i := 4) (v := ?_) rfl (by kernel_rfl) (by kernel_rfl) (by kernel_rfl) (fun _ _ _ h => h) (Or.inl ⟨by rfl, ?_⟩) hS ?_
      rotate_left
      · intro W' hS'
        go_simp
        rfl
      try simp only [Act.put, List.setIfInBounds_toArray, List.set_cons_zero, List.set_cons_succ, List.getElem_toArray, List.getElem_cons_zero, List.getElem_cons_succ]
      refine wpAnyH_take (i := 5) (v := ?_) rfl (by kernel_rfl) (by kernel_rfl) (by kernel_rfl) (fun _ _ _ h => h) (Or.inl ⟨by rfl, ?_⟩) hS ?_
      rotate_left
      · intro W' hS'
        go_simp
        rfl
      try simp only [Act.put, List.setIfInBounds_toArray, List.set_cons_zero, List.set_cons_succ, List.getElem_toArray, List.getElem_cons_zero, List.getElem_cons_succ]
      refine wpAnyH_take (i := 6) (v := ?_) rfl (by kernel_rfl) (by kernel_rfl) (by kernel_rfl) (fun _ _ _ h => h) (Or.inl ⟨by rfl, ?_⟩) hS ?_
      rotate_left
      · intro W' hS'
        go_simp
        rfl
      try simp only [Act.put, List.setIfInBounds_toArray, List.set_cons_zero, List.set_cons_succ, List.getElem_toArray, List.getElem_cons_zero, List.getElem_cons_succ]
      refine wpAnyH_take (i := 7) (v := ?_) rfl (by kernel_rfl) (by kernel_rfl) (by kernel_rfl) (fun _ _ _ h => h) (Or.inl ⟨by rfl, ?_⟩) hS ?_
      rotate_left
      · intro W' hS'
        go_simp
        rfl
      try simp only [Act.put, List.setIfInBounds_toArray, List.set_cons_zero, List.set_cons_succ, List.getElem_toArray, List.getElem_cons_zero, List.getElem_cons_succ]
      refine wpAnyH_take (i := 8) (v := ?_) rfl (by kernel_rfl) (by kernel_rfl) (by kernel_rfl) (fun _ _ _ h => h) (Or.inl ⟨by rfl, ?_⟩) hS ?_
      rotate_left
      · intro W' hS'
        go_simp
        rfl
      try simp only [Act.put, List.setIfInBounds_toArray, List.set_cons_zero, List.set_cons_succ, List.getElem_toArray, List.getElem_cons_zero, List.getElem_cons_succ]
      refine wpAnyH_take (i := 9) (v := ?_) rfl (by kernel_rfl) (by kernel_rfl) (by kernel_rfl) (fun _ _ _ h => h) (Or.inl ⟨by rfl, ?_⟩) hS ?_
      rotate_left
      · intro W' hS'
        go_simp
        rfl
      try simp only [Act.put, List.setIfInBounds_toArray, List.set_cons_zero, List.set_cons_succ, List.getElem_toArray, List.getElem_cons_zero, List.getElem_cons_succ]
      refine wpAnyH_take (i := 10) (v := ?_) rfl (by kernel_rfl) (by kernel_rfl) (by kernel_rfl) (fun _ _ _ h => h) (Or.inl ⟨by rfl, ?_⟩) hS ?_
      rotate_left
      · intro W' hS'
        go_simp
        rfl
      try simp only [Act.put, List.setIfInBounds_toArray, List.set_cons_zero, List.set_cons_succ, List.getElem_toArray, List.getElem_cons_zero, List.getElem_cons_succ]
      refine wpAnyH_take (i := 11) (v := ?_) rfl (by kernel_rfl) (by kernel_rfl) (by kernel_rfl) (fun _ _ _ h => h) (Or.inl ⟨by rfl, ?_⟩) hS ?_
      rotate_left
      · intro W' hS'
        go_simp
        rfl
      try simp only [Act.put, List.setIfInBounds_toArray, List.set_cons_zero, List.set_cons_succ, List.getElem_toArray, List.getElem_cons_zero, List.getElem_cons_succ]
      refine wpAnyH_take (i := 12) (v := ?_) rfl (by kernel_rfl) (by kernel_rfl) (by kernel_rfl) (fun _ _ _ h => h) (Or.inl ⟨by rfl, ?_⟩) hS ?_
      rotate_left
      · intro W' hS'
        go_simp
        rfl
      try simp only [Act.put, List.setIfInBounds_toArray, List.set_cons_zero, List.set_cons_succ, List.getElem_toArray, List.getElem_cons_zero, List.getElem_cons_succ]
      refine wpAnyH_take (i := 13) (v := ?_) rfl (by kernel_rfl) (by kernel_rfl) (by kernel_rfl) (fun _ _ _ h => h) (Or.inl ⟨by rfl, ?_⟩) hS ?_
      rotate_left
      · intro W' hS'
        go_simp
        rfl
      try simp only [Act.put, List.setIfInBounds_toArray, List.set_cons_zero, List.set_cons_succ, List.getElem_toArray, List.getElem_cons_zero, List.getElem_cons_succ]
      refine wpAnyH_take (i := 14) (v := ?_) rfl (by kernel_rfl) (by kernel_rfl) (by kernel_rfl) (fun _ _ _ h => h) (Or.inl ⟨by rfl, ?_⟩) hS ?_
      rotate_left
      · intro W' hS'
        go_simp
        rfl
      try simp only [Act.put, List.setIfInBounds_toArray, List.set_cons_zero, List.set_cons_succ, List.getElem_toArray, List.getElem_cons_zero, List.getElem_cons_succ]
      refine wpAnyH_take (i := 15) (v := ?_) rfl (by kernel_rfl) (by kernel_rfl) (by kernel_rfl) (fun _ _ _ h => h) (Or.inl ⟨by rfl, ?_⟩) hS ?_
      rotate_left
      · intro W' hS'
        go_simp
        rfl
      try simp only [Act.put, List.setIfInBounds_toArray, List.set_cons_zero, List.set_cons_succ, List.getElem_toArray, List.getElem_cons_zero, List.getElem_cons_succ]
      refine wpAnyH_take (i := 16) (v := ?_) rfl (by kernel_rfl) (by kernel_rfl) (by kernel_rfl) (fun _ _ _ h => h) (Or.inl ⟨by rfl, ?_⟩) hS ?_
      rotate_left
      · intro W' hS'
        go_simp
        rfl
      try simp only [Act.put, List.setIfInBounds_toArray, List.set_cons_zero, List.set_cons_succ, List.getElem_toArray, List.getElem_cons_zero, List.getElem_cons_succ]
      refine wpAnyH_take (i := 17) (v := ?_) rfl (by kernel_rfl) (by kernel_rfl) (by kernel_rfl) (fun _ _ _ h => h) (Or.inl ⟨by rfl, ?_⟩) hS ?_
      rotate_left
      · intro W' hS'
        go_simp
        rfl
      try simp only [Act.put, List.setIfInBounds_toArray, List.set_cons_zero, List.set_cons_succ, List.getElem_toArray, List.getElem_cons_zero, List.getElem_cons_succ]
      refine wpAnyH_take (i := 18) (v := ?_) rfl (by kernel_rfl) (by kernel_rfl) (by kernel_rfl) (fun _ _ _ h => h) (Or.inl ⟨by rfl, ?_⟩) hS ?_
      rotate_left
      · intro W' hS'
        go_simp
        rfl
      try simp only [Act.put, List.setIfInBounds_toArray, List.set_cons_zero, List.set_cons_succ, List.getElem_toArray, List.getElem_cons_zero, List.getElem_cons_succ]
      refine wpAnyH_take (i := 19) (v := ?_) rfl (by kernel_rfl) (by kernel_rfl) (by kernel_rfl) (fun _ _ _ h => h) (Or.inl ⟨by rfl, ?_⟩) hS ?_
      rotate_left
      · intro W' hS'
        go_simp
        rfl
      try simp only [Act.put, List.setIfInBounds_toArray, List.set_cons_zero, List.set_cons_succ, List.getElem_toArray, List.getElem_cons_zero, List.getElem_cons_succ]
      refine wpAnyH_take (i := 20) (v := ?_) rfl (by kernel_rfl) (by kernel_rfl) (by kernel_rfl) (fun _ _ _ h => h) (Or.inl ⟨by rfl, ?_⟩) hS ?_
      rotate_left
      · intro W' hS'
        go_simp
        rfl
      try simp only [Act.put, List.setIfInBounds_toArray, List.set_cons_zero, List.set_cons_succ, List.getElem_toArray, List.getElem_cons_zero, List.getElem_cons_succ]
      refine wpAnyH_ready (rs := [21]) (by kernel_rfl) (by simp) (AllReadyH.cons rfl (fun K hK => ?_) AllReadyH.nil)
      go_simp
      refine hK.out _ _ (HS0.out _ (((Below.refl _ _).drew).alloc HSZ.out _)) (fun hS => ?_)
      try simp only [Act.put, List.setIfInBounds_toArray, List.set_cons_zero, List.set_cons_succ, List.getElem_toArray, List.getElem_cons_zero, List.getElem_cons_succ]
      clear hK
      refine wpAnyH_ready (rs := [22]) (by kernel_rfl) (by simp) (AllReadyH.cons rfl (fun K hK => ?_) AllReadyH.nil)
      refine step_appG (m := 1) rfl _ _ rfl el_row3 HJD.out HSZ.out rfl [.int .i64 (max h (-1)), .int .i64 a, .int .i64 b] rfl rfl rfl (by simp [Value.oneCell']) hj9 (by omega) ?_
      intro A' c' w7 hown hB hg hob
      have HB7 := Lib.hid (hB _ _ (Nat.le_refl _) ((Below.refl w.heap.size wr).drew))
      have HJ7 := Lib.hid hown
      clear hown hB hg hob
      refine hK.out _ _ (HS0.out _ HB7.out) (fun hS => ?_)
      try simp only [Act.put, List.setIfInBounds_toArray, List.set_cons_zero, List.set_cons_succ, List.getElem_toArray, List.getElem_cons_zero, List.getElem_cons_succ]
      clear hK
      refine wpAnyH_take (i := 23) (v := ?_) rfl (by kernel_rfl) (by kernel_rfl) (by kernel_rfl) (fun _ _ _ h => h) (Or.inl ⟨by rfl, ?_⟩) hS ?_
      rotate_left
      · intro W' hS'
        go_simp
        rfl
      try simp only [Act.put, List.setIfInBounds_toArray, List.set_cons_zero, List.set_cons_succ, List.getElem_toArray, List.getElem_cons_zero, List.getElem_cons_succ]
      refine wpAnyH_done (by kernel_rfl) ?_ _
      clear hS
      have HJN : Hid (RwI w l feR (j + 1) A' c' w7) := Lib.hid ⟨by rw [HTK.out]; exact HJ7.out, HJ.out.b.trans HB7.out⟩
      go_wp2_with fail
      go_roundw
      case rel => exact ⟨j + 1, A', c', by omega, rfl, by go_num, HJN⟩
      case measure => simp [intOf]; omega
    · have d0 : decide ((j : Int) < (l.length : Int)) = false := decide_eq_false (by omega)
      have HJL : Hid (j = l.length) := Lib.hid (by omega)
      obtain ⟨R, HRR⟩ : ∃ R, Hid (R = l.map feR) := ⟨_, Lib.hid rfl⟩
      have HRL : Hid (R.length = j) := Lib.hid (by rw [HRR.out, List.length_map, HJL.out])
      have HRB : Hid (∀ r ∈ R, RowB r) := Lib.hid (by rw [HRR.out]; exact feR_B HI.out)
      have HO : Hid (wr.ownsRow w.heap.size 46 3 (.slice AR j cR) j (R.flatMap r3C)) := Lib.hid (by have := HJ.out.o; rw [HJL.out, List.take_length, ← HJL.out, ← HRR.out] at this; exact this)
      have HBW := Lib.hid HJ.out.b
      have HJ60 : Hid (j ≤ 60) := Lib.hid (by have := HN.out; omega)
      clear HJ HRR HI HR
      have hwr : IntKind.i64.wrap (ro : Int) = (ro : Int) := IntWalk.i64_in _ ⟨by omega, by omega⟩
      have hwf : IntKind.i64.wrap (fl : Int) = (fl : Int) := IntWalk.i64_in _ ⟨by omega, by omega⟩
      go_upto_region 8 with (fail)
      have q1 := Lib.hid (tower22s_any R AR j cR wr HRL.out (by have := HJ60.out; omega) (Reads.of_own HO.out))
      go_upto_region 9 with (go_at_call 19; refine q1.out.mono ?_; rintro e w1 ⟨gN, cN, gU, cU, rfl, hn, hu, hb⟩; have HN1 := Lib.hid hn; have HU1 := Lib.hid hu; have HB1 := Lib.hid hb; clear hn hu hb)
      obtain ⟨gT, HGT⟩ : ∃ gT, Hid (gT = w1.heap.size) := ⟨_, Lib.hid rfl⟩
      obtain ⟨w2, hw2⟩ : ∃ w2, w2 = w1.alloc (.cells #[.slice (some ⟨gN, 0, none⟩) (j + 1) cN, .slice none 0 0, .int .i64 100] 25) := ⟨_, rfl⟩
      have HBA : Below w1.heap.size w1 w2 := by rw [hw2]; exact (Below.refl _ _).alloc (Nat.le_refl _) _
      have HTB2 : Hid (Blk w2 gT 25 #[.slice (some ⟨gN, 0, none⟩) (j + 1) cN, .slice none 0 0, .int .i64 100]) := Lib.hid (by rw [hw2, HGT.out]; exact Blk.new _ _ _)
      have HN2 := Lib.hid (own_below HN1.out HBA)
      have HU2 := Lib.hid (own_below HU1.out HBA)
      have HRN2 := Lib.hid (Reads.of_own HN2.out)
      have HRU2 := Lib.hid (Reads.of_own HU2.out)
      have HB2 := Lib.hid (HB1.out.trans (HBA.mono HB1.out.size))
      have HGNL : Hid (w.heap.size ≤ gN) := Lib.hid (Nat.le_trans HBW.out.size (HN1.out.lt gN rfl).1)
      rw [← hw2, ← HGT.out]
      clear HBA hw2 HN1 HU1 HB1 HGT q1
      have q2 := Lib.hid (tblockL_any 0 0 R j HRL.out (by have := HJ60.out; omega) HRB.out (by decide) (by decide) _ _ cN cU w2 HRN2.out HRU2.out)
      obtain ⟨t0, t1, t2⟩ := HTB2.out.c3
      have hgt : gT < w2.heap.size := HTB2.out.lt
      obtain ⟨HH, HHH⟩ : ∃ HH, Hid (HH = max 0 ((ysL R j).1 + sumF (ysL R j).2) + (0 + 0)) := ⟨_, Lib.hid rfl⟩
      rw [← HHH.out] at q2
      go_upto_region 10 with (go_at_call 20; refine q2.out.mono ?_; rintro e w3 ⟨Ab, cb, gF, gB, rfl, hf, hb⟩; have HF3 := Lib.hid hf; have HB3 := Lib.hid (HB2.out.trans (hb.mono HB2.out.size)); have HTB3 := Lib.hid (HTB2.out.below hb HTB2.out.lt); have HN3 := Lib.hid (own_below HN2.out hb); have HU3 := Lib.hid (own_below HU2.out hb); clear hf hb)
      clear q2 t0 t1 t2 hgt HRN2 HRU2 HTB2 HB2 HN2 HU2
      obtain ⟨gI, HGI⟩ : ∃ gI, Hid (gI = w3.heap.size) := ⟨_, Lib.hid rfl⟩
      obtain ⟨w4, hw4⟩ : ∃ w4, w4 = w3.alloc (.cells #[.slice Ab j cb, .slice (some ⟨gF, 0, none⟩) j j, .slice (some ⟨gB, 0, none⟩) j j, .int .i64 HH, .slice none 0 0, .bool false] 52) := ⟨_, rfl⟩
      have HBA : Hid (Below w3.heap.size w3 w4) := Lib.hid (by rw [hw4]; exact (Below.refl _ _).alloc (Nat.le_refl _) _)
      have HIB4 : Hid (Blk w4 gI 52 #[.slice Ab j cb, .slice (some ⟨gF, 0, none⟩) j j, .slice (some ⟨gB, 0, none⟩) j j, .int .i64 HH, .slice none 0 0, .bool false]) := Lib.hid (by rw [hw4, HGI.out]; exact Blk.new _ _ _)
      have HF4 := Lib.hid (HF3.out.below HBA.out HF3.out.lt)
      have HTB4 := Lib.hid (HTB3.out.below HBA.out HTB3.out.lt)
      have HN4 := Lib.hid (own_below HN3.out HBA.out)
      have HU4 := Lib.hid (own_below HU3.out HBA.out)
      have HW4 := Lib.hid (HBW.out.trans ((HB3.out.trans (HBA.out.mono HB3.out.size)).mono HBW.out.size))
      rw [← hw4, ← HGI.out]
      clear hw4 HF3 HB3 HBA HGI HO HBW HTB3 HN3 HU3
      obtain ⟨t0, t1, t2⟩ := HTB4.out.c3
      have cN0 := HN4.out.cellAt 25 (by omega)
      have fN := HN4.out.frozenAt
      have cN1 : w4.cell? ⟨gN, 25, none⟩ = some (.int .i64 0) := cN0.trans rfl
      have hz1 : (0 : Int) < ((j : Int) + 1) := by omega
      have hz2 : 0 < j + 1 := by omega
      clear cN0
      go_upto_region 11 with (fail)
      have hn1 := own_blk_ne HN4.out HTB4.out (by decide)
      have hn2 := own_blk_ne HN4.out HIB4.out (by decide)
      have hn3 := own_blk_ne HN4.out HF4.out (by decide)
      have hn4 := own_apart HU4.out HN4.out (by decide)
      have HTB5 := Lib.hid (HTB4.out.far (p := ⟨gN, 25, none⟩) (fun e => hn1 (by rw [e]; rfl)) (.int .i64 (ro : Int)))
      have HIB5 := Lib.hid (HIB4.out.far (p := ⟨gN, 25, none⟩) (fun e => hn2 (by rw [e]; rfl)) (.int .i64 (ro : Int)))
      have HF5 := Lib.hid (HF4.out.far (p := ⟨gN, 25, none⟩) (fun e => hn3 (by rw [e]; rfl)) (.int .i64 (ro : Int)))
      have HN5 := Lib.hid (HN4.out.stored 25 (.int .i64 (ro : Int))).1
      have HU5 := Lib.hid (ownsRow_setCell_other HU4.out (a := ⟨gN, 25, none⟩) (apart_ne hn4 rfl) (.int .i64 (ro : Int)))
      have HW5 := Lib.hid (HW4.out.setCell (p := ⟨gN, 25, none⟩) HGNL.out (.int .i64 (ro : Int)))
      generalize World.setCell w4 ⟨gN, 25, none⟩ (.int .i64 (ro : Int)) = w5 at HTB5 HIB5 HF5 HN5 HU5 HW5 ⊢
      clear hn1 hn2 hn3 hn4 t0 t1 t2 cN1 fN HTB4 HIB4 HF4 HN4 HU4 HW4 hz1 hz2
      obtain ⟨t0, t1, t2⟩ := HTB5.out.c3
      have cN0 := HN5.out.cellAt 31 (by omega)
      have fN := HN5.out.frozenAt
      have cN1 : w5.cell? ⟨gN, 31, none⟩ = some (.int .i64 0) := cN0.trans rfl
      have hz1 : (0 : Int) < ((j : Int) + 1) := by omega
      have hz2 : 0 < j + 1 := by omega
      clear cN0
      go_upto_region 12 with (fail)
      have hn1 := own_blk_ne HN5.out HTB5.out (by decide)
      have hn2 := own_blk_ne HN5.out HIB5.out (by decide)
      have hn3 := own_blk_ne HN5.out HF5.out (by decide)
      have hn4 := own_apart HU5.out HN5.out (by decide)
      have HTB6 := Lib.hid (HTB5.out.far (p := ⟨gN, 31, none⟩) (fun e => hn1 (by rw [e]; rfl)) (.int .i64 (fl : Int)))
      have HIB6 := Lib.hid (HIB5.out.far (p := ⟨gN, 31, none⟩) (fun e => hn2 (by rw [e]; rfl)) (.int .i64 (fl : Int)))
      have HF6 := Lib.hid (HF5.out.far (p := ⟨gN, 31, none⟩) (fun e => hn3 (by rw [e]; rfl)) (.int .i64 (fl : Int)))
      have HN6 := Lib.hid (HN5.out.stored 31 (.int .i64 (fl : Int))).1
      have HU6 := Lib.hid (ownsRow_setCell_other HU5.out (a := ⟨gN, 31, none⟩) (apart_ne hn4 rfl) (.int .i64 (fl : Int)))
      have HW6 := Lib.hid (HW5.out.setCell (p := ⟨gN, 31, none⟩) HGNL.out (.int .i64 (fl : Int)))
      generalize World.setCell w5 ⟨gN, 31, none⟩ (.int .i64 (fl : Int)) = w6 at HTB6 HIB6 HF6 HN6 HU6 HW6 ⊢
      clear hn1 hn2 hn3 hn4 t0 t1 t2 cN1 fN HTB5 HIB5 HF5 HN5 HU5 HW5 hz1 hz2
      have HRN6 : Hid (Reads w6 w6.heap.size 44 (some ⟨gN, 0, none⟩) (j + 1) (ndsCells (twL (ro : Int) (fl : Int) (R.map rwOf)))) := Lib.hid (by rw [twL_roof]; exact Reads.of_own HN6.out)
      have HRU6 := Lib.hid (Reads.of_own HU6.out)
      have q4 := Lib.hid (tblockL_any (ro : Int) (fl : Int) R j HRL.out (by have := HJ60.out; omega) HRB.out ⟨by omega, by omega⟩ ⟨by omega, by omega⟩ _ _ cN cU w6 HRN6.out HRU6.out)
      obtain ⟨HG, HGG⟩ : ∃ HG, Hid (HG = max 0 ((ysL R j).1 + sumF (ysL R j).2) + ((ro : Int) + (fl : Int))) := ⟨_, Lib.hid rfl⟩
      rw [← HGG.out] at q4
      obtain ⟨t0, t1, t2⟩ := HTB6.out.c3
      go_upto_region 13 with (go_at_call 20; refine q4.out.mono ?_; rintro e w7 ⟨Ab2, cb2, gF2, gB2, rfl, hf, hb⟩; have HG7 := Lib.hid hf; have HF7 := Lib.hid (HF6.out.below hb HF6.out.lt); have HIB7 := Lib.hid (HIB6.out.below hb HIB6.out.lt); have HW7 := Lib.hid (HW6.out.trans (hb.mono HW6.out.size)); clear hf hb)
      clear q4 t0 t1 t2 HRN6 HRU6 HTB6 HIB6 HF6 HW6 HN6 HU6
      obtain ⟨gJ, HGJ⟩ : ∃ gJ, Hid (gJ = w7.heap.size) := ⟨_, Lib.hid rfl⟩
      obtain ⟨w8, hw8⟩ : ∃ w8, w8 = w7.alloc (.cells #[.slice Ab2 j cb2, .slice (some ⟨gF2, 0, none⟩) j j, .slice (some ⟨gB2, 0, none⟩) j j, .int .i64 HG, .slice none 0 0, .bool false] 52) := ⟨_, rfl⟩
      have HBA : Hid (Below w7.heap.size w7 w8) := Lib.hid (by rw [hw8]; exact (Below.refl _ _).alloc (Nat.le_refl _) _)
      have HJB8 : Hid (Blk w8 gJ 52 #[.slice Ab2 j cb2, .slice (some ⟨gF2, 0, none⟩) j j, .slice (some ⟨gB2, 0, none⟩) j j, .int .i64 HG, .slice none 0 0, .bool false]) := Lib.hid (by rw [hw8, HGJ.out]; exact Blk.new _ _ _)
      have HIB8 := Lib.hid (HIB7.out.below HBA.out HIB7.out.lt)
      have HF8 := Lib.hid (HF7.out.below HBA.out HF7.out.lt)
      have HG8 := Lib.hid (HG7.out.below HBA.out HG7.out.lt)
      have HW8 := Lib.hid (HW7.out.trans (HBA.out.mono HW7.out.size))
      rw [← hw8, ← HGJ.out]
      clear hw8 HF7 HG7 HIB7 HW7 HBA HGJ
      have i1 := HIB8.out.get 1 (v := .slice (some ⟨gF, 0, none⟩) j j) rfl
      have i3 := HIB8.out.get 3 (v := .int .i64 HH) rfl
      have j1 := HJB8.out.get 1 (v := .slice (some ⟨gF2, 0, none⟩) j j) rfl
      have j3 := HJB8.out.get 3 (v := .int .i64 HG) rfl
      have e1 : ((j : Int) != (j : Int)) = false := by simp
      have HYB := Lib.hid (ysL_B HRB.out j)
      have hyb := HYB.out.y
      have hmb := HYB.out.m
      have hlb := HYB.out.l
      have HHB : Hid (0 ≤ HH ∧ HH ≤ 4294967296) := Lib.hid (by rw [HHH.out]; unfold sumF; have := HJ60.out; rw [HRL.out] at hyb; omega)
      have hhb := HHB.out
      have hw1 : IntKind.i64.wrap (HH + (ro : Int)) = HH + (ro : Int) := IntWalk.i64_in _ ⟨by omega, by omega⟩
      have hw2 : IntKind.i64.wrap (HH + (ro : Int) + (fl : Int)) = HH + (ro : Int) + (fl : Int) := IntWalk.i64_in _ ⟨by omega, by omega⟩
      have e2 : (HG != HH + (ro : Int) + (fl : Int)) = false := by rw [HGG.out, HHH.out]; simp; omega
      clear hyb hmb hlb hhb HYB
      go_upto_region 16 with (fail)
      clear i1 i3 j1 j3 e1 e2 hw1 hw2
      go_loopw [13] (fun q13 wr2 => ∃ (i : Nat), i ≤ j ∧ q13 = .int .i64 (i : Int) ∧ Hid (Below w8.heap.size w8 wr2)) (fun q _ => j - (intOf q).toNat)
      case atStart => exact ⟨0, by omega, rfl, Lib.hid (Below.refl _ _)⟩
      case round =>
        obtain ⟨i, hi, rfl, HJ2⟩ := hrel
        by_cases hik : i < j
        · have d0 : decide ((i : Int) < (j : Int)) = true := decide_eq_true (by omega)
          have hwk : IntKind.i64.wrap ((i : Int) + 1) = (i : Int) + 1 := IntWalk.i64_in _ ⟨by omega, by have := HJ60.out; omega⟩
          have hij2 : (i : Int) < (j : Int) := by omega
          obtain ⟨f, hf⟩ : ∃ f, f = tF 0 R i := ⟨_, rfl⟩
          have HIBr := Lib.hid (HIB8.out.below HJ2.out HIB8.out.lt)
          have HJBr := Lib.hid (HJB8.out.below HJ2.out HJB8.out.lt)
          have HFr := Lib.hid (HF8.out.below HJ2.out HF8.out.lt)
          have HGr := Lib.hid (HG8.out.below HJ2.out HG8.out.lt)
          obtain ⟨f0, f1, f2, f3, f4⟩ := frag_c HFr.out i hik
          obtain ⟨g0, g1, g2, g3, g4⟩ := frag_c HGr.out i hik
          rw [tF_roof] at g0 g1 g2 g3
          rw [← hf] at f0 f1 f2 f3 g0 g1 g2 g3
          have HFX : Hid (f.x = 0 ∧ f.w = 100 ∧ -4294967296 ≤ f.y ∧ f.y ≤ 4294967296) := Lib.hid (by
            rw [hf]
            have h1 := (ysL_B HRB.out i).top (rAt_ok HRB.out i)
            have := HJ60.out
            rw [HRL.out] at h1
            unfold tF; dsimp only
            omega)
          clear hf
          obtain ⟨fx, fy, fw, fh⟩ := f
          obtain ⟨h1, h2, h3, h4⟩ := HFX.out
          dsimp only at h1 h2 h3 h4 f0 f1 f2 f3 g0 g1 g2 g3
          obtain rfl := h1
          obtain rfl := h2
          have hwy : IntKind.i64.wrap (fy + (ro : Int)) = fy + (ro : Int) := IntWalk.i64_in _ ⟨by omega, by omega⟩
          clear h3 h4
          have i1 := HIBr.out.get 1 (v := .slice (some ⟨gF, 0, none⟩) j j) rfl
          have j1 := HJBr.out.get 1 (v := .slice (some ⟨gF2, 0, none⟩) j j) rfl
          have e0 : (fy + (ro : Int) != fy + (ro : Int)) = false := by simp
          have e1 : (fh != fh) = false := by simp
          have l1 := HIBr.out.lt
          have l2 := HJBr.out.lt
          have l3 := HFr.out.lt
          have l4 := HGr.out.lt
          go_upto_region 20 with (fail)
          have HBX : Hid (∀ o o2 : Obj, Below w8.heap.size w8 ((wr.alloc o).alloc o2)) := Lib.hid (fun o o2 => (HJ2.out.alloc HJ2.out.size _).alloc (by have := HJ2.out.size; simp; omega) _)
          go_wp2_with fail
          go_roundw
          case rel => exact ⟨i + 1, by omega, by go_num, Lib.hid (HBX.out _ _)⟩
          case measure => simp [intOf]; omega
        · have d0 : decide ((i : Int) < (j : Int)) = false := decide_eq_false (by omega)
          go_wp2_with (go_at_call 18; refine (works22_any _).mono ?_; rintro e w9 ⟨rfl, hb⟩; have HW9 := Lib.hid (hb.mono (Nat.le_trans HW8.out.size HJ2.out.size)))
          go_ret
          exact ⟨rfl, (HW8.out.trans (HJ2.out.mono HW8.out.size)).trans HW9.out⟩
end Go.Proofs.Ytlebbkhhhmempaa
