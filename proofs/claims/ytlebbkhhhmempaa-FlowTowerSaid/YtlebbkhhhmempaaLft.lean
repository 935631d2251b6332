/- The law FlowTower, walked. -/
import Derived.Test.YtlebbkhhhmempaaToc
import Derived.Test.YtlebbkhhhmempaaLth
import Derived.Lib.MinMax
set_option linter.unusedSimpArgs false
set_option linter.unusedVariables false
namespace Go.Proofs.Ytlebbkhhhmempaa
open Go.RowKit
attribute [local go_sem] block_of_add
set_option maxRecDepth 100000 in
set_option maxHeartbeats 4000000 in
theorem flowTower_any (l : List (Int × Int × Int)) (A : Option Addr) (c : Nat) (w : World) (hl : ∀ r ∈ l, I16r r) (hr : Reads w w.heap.size 3 A l.length (l.flatMap r3h)) :
    Calls Try.prog 4 #[.slice A l.length c] w fun e w' => e = .returned (.bool true) ∧ Below w.heap.size w w' := by
  have HR := Lib.hid hr
  have HI := Lib.hid hl
  clear hr hl
  go_enter Try.func4, Try.ntmps4
  by_cases hn : 60 < l.length
  · have d0 : decide ((60 : Int) < (l.length : Int)) = true := decide_eq_true (by omega)
    go_wp2_with (go_at_call 18; refine (works22_any _).mono ?_; rintro e w1 ⟨rfl, hb⟩)
    go_ret
    exact ⟨rfl, hb⟩
  have HN : Hid (l.length ≤ 60) := Lib.hid (by omega)
  have d00 : decide ((60 : Int) < (l.length : Int)) = false := decide_eq_false (by omega)
  clear hn
  go_upto_region 5 with (fail)
  clear d00
  go_loopw [3, 4] (fun q3 q4 wr => ∃ (j : Nat) (AR : Option Addr) (cR : Nat), j ≤ l.length ∧ q3 = .slice AR j cR ∧ q4 = .int .i64 (j : Int) ∧ Hid (RwI w l ftR j AR cR wr)) (fun _ q _ => l.length - (intOf q).toNat)
  case atStart => exact ⟨0, none, 0, by omega, rfl, rfl, Lib.hid ⟨own_nil _ _ _ _, Below.refl _ _⟩⟩
  case round =>
    obtain ⟨j, AR, cR, hj, rfl, rfl, HJ⟩ := hrel
    by_cases hlt : j < l.length
    · have d0 : decide ((j : Int) < (l.length : Int)) = true := decide_eq_true (by omega)
      have hwk : IntKind.i64.wrap ((j : Int) + 1) = (j : Int) + 1 := IntWalk.i64_in _ ⟨by omega, by have := HN.out; omega⟩
      have HROW := Lib.hid (HR.out.row16 rfl hlt HJ.out.b)
      obtain ⟨ad, hA, hb, HX⟩ := HROW.out
      have HXX := Lib.hid HX
      clear HROW HX
      have HIN := Lib.hid (HI.out _ (List.getElem_mem hlt))
      have HTK := Lib.hid (rw_take l ftR j hlt)
      obtain ⟨r, hrr⟩ : ∃ r, r = l[j] := ⟨_, rfl⟩
      rw [← hrr] at HXX HIN HTK
      clear hrr
      obtain ⟨h, a, b⟩ := r
      obtain ⟨x0, x1, x2⟩ := HXX.out wr (Below.refl _ _)
      have hin := HIN.out
      unfold I16r at hin
      dsimp only at hin
      obtain ⟨⟨i0, i1⟩, ⟨i2, i3⟩, i4, i5⟩ := hin
      have hw1 : IntKind.i64.wrap h = h := IntWalk.i64_in _ ⟨by omega, by omega⟩
      have hw2 : IntKind.i64.wrap a = a := IntWalk.i64_in _ ⟨by omega, by omega⟩
      have hw3 : IntKind.i64.wrap b = b := IntWalk.i64_in _ ⟨by omega, by omega⟩
      clear i0 i1 i2 i3 i4 i5
      subst hA
      have hj2 : (j : Int) < (l.length : Int) := by omega
      have hbw : ad.block < wr.heap.size := Nat.lt_of_lt_of_le hb HJ.out.b.size
      have HSZ := Lib.hid HJ.out.b.size
      cases d1 : decide (h ≤ 0)
      all_goals
        obtain ⟨hv, HHV⟩ : ∃ hv, Hid (hv = if h ≤ 0 then -1 else h) := ⟨_, Lib.hid rfl⟩
        go_upto_region 10 with (fail)
        first
        | (have HV : Hid (hv = h) := Lib.hid (by rw [HHV.out, if_neg (of_decide_eq_false d1)])
           obtain rfl := HV.out
           clear HV)
        | (have HV : Hid (hv = -1) := Lib.hid (by rw [HHV.out, if_pos (of_decide_eq_true d1)])
           obtain rfl := HV.out
           clear HV)
        have HJD : Hid (wr.drew.ownsRow w.heap.size 46 3 (.slice AR j cR) j (((l.take j).map ftR).flatMap r3C)) := Lib.hid (own_below HJ.out.o (Below.refl _ _).drew)
        have HS0 : Hid (∀ W', Below w.heap.size wr W' → W'.cell? ⟨ad.block, (ad.add (j * 3)).off + 1, none⟩ = some (.int .i16 a) ∧ W'.cell? ⟨ad.block, (ad.add (j * 3)).off + 2, none⟩ = some (.int .i16 b)) := Lib.hid (fun W' hb => ⟨(HXX.out W' hb).2.1, (HXX.out W' hb).2.2⟩)
        have hj9 : j + 1 ≤ 4294967296 := by have := HN.out; omega
        first
        | (have _h := d1
           have hz : (-1 : Int) = -1 := rfl
           refine wp_region_held_drew (S := (fun W' => W'.cell? ⟨ad.block, (ad.add (j * 3)).off + 1, none⟩ = some (.int .i16 a) ∧ W'.cell? ⟨ad.block, (ad.add (j * 3)).off + 2, none⟩ = some (.int .i16 b))) (by kernel_rfl) (HS0.out _ ((Below.refl _ _).drew)) (fun hS => ?_)
           refine wpAnyH_take (i := 0) (v := ?_) rfl (by kernel_rfl) (by kernel_rfl) (by kernel_rfl) (fun _ _ _ h => h) (Or.inl ⟨by rfl, ?_⟩) hS ?_
           rotate_left
           · intro W' hS'
             go_simp
             rfl
           try simp only [Act.put, List.setIfInBounds_toArray, List.set_cons_zero, List.set_cons_succ, List.getElem_toArray, List.getElem_cons_zero, List.getElem_cons_succ]
           refine wpAnyH_take (i := 1) (v := ?_) rfl (by kernel_rfl) (by kernel_rfl) (by kernel_rfl) (fun _ _ _ h => h) (Or.inl ⟨by rfl, ?_⟩) hS ?_
           rotate_left
           · intro W' hS'
             go_simp
             rfl
           try simp only [Act.put, List.setIfInBounds_toArray, List.set_cons_zero, List.set_cons_succ, List.getElem_toArray, List.getElem_cons_zero, List.getElem_cons_succ]
           refine wpAnyH_take (i := 2) (v := ?_) rfl (by kernel_rfl) (by kernel_rfl) (by kernel_rfl) (fun _ _ _ h => h) (Or.inl ⟨by rfl, ?_⟩) hS ?_
           rotate_left
           · intro W' hS'
             go_simp
             rfl
           try simp only [Act.put, List.setIfInBounds_toArray, List.set_cons_zero, List.set_cons_succ, List.getElem_toArray, List.getElem_cons_zero, List.getElem_cons_succ]
           refine wpAnyH_take (i := 3) (v := ?_) rfl (by kernel_rfl) (by kernel_rfl) (by kernel_rfl) (fun _ _ _ h => h) (Or.inl ⟨by rfl, ?_⟩) hS ?_
           rotate_left
           · intro W' hS'
             go_simp
             rfl
           try simp only [Act.put, List.setIfInBounds_toArray, List.set_cons_zero, List.set_cons_succ, List.getElem_toArray, List.getElem_cons_zero, List.getElem_cons_succ]
           refine wpAnyH_take (i := 4) (v := ?_) rfl (by kernel_rfl) (by kernel_rfl) (by kernel_rfl) (fun _ _ _ h => h) (Or.inl ⟨by rfl, ?_⟩) hS ?_
           rotate_left
           · intro W' hS'
             go_simp
             rfl
           try simp only [Act.put, List.setIfInBounds_toArray, List.set_cons_zero, List.set_cons_succ, List.getElem_toArray, List.getElem_cons_zero, List.getElem_cons_succ]
           refine wpAnyH_take (i := 5) (v := ?_) rfl (by kernel_rfl) (by kernel_rfl) (by kernel_rfl) (fun _ _ _ h => h) (Or.inl ⟨by rfl, ?_⟩) hS ?_
           rotate_left
           · intro W' hS'
             go_simp
             rfl
           try simp only [Act.put, List.setIfInBounds_toArray, List.set_cons_zero, List.set_cons_succ, List.getElem_toArray, List.getElem_cons_zero, List.getElem_cons_succ]
           refine wpAnyH_take (i := 6) (v := ?_) rfl (by kernel_rfl) (by kernel_rfl) (by kernel_rfl) (fun _ _ _ h => h) (Or.inl ⟨by rfl, ?_⟩) hS ?_
           rotate_left
           · intro W' hS'
             go_simp
             rfl
           try simp only [Act.put, List.setIfInBounds_toArray, List.set_cons_zero, List.set_cons_succ, List.getElem_toArray, List.getElem_cons_zero, List.getElem_cons_succ]
           refine wpAnyH_take (i := 7) (v := ?_) rfl (by kernel_rfl) (by kernel_rfl) (by kernel_rfl) (fun _ _ _ h => h) (Or.inl ⟨by rfl, ?_⟩) hS ?_
           rotate_left
           · intro W' hS'
             go_simp
             rfl
           try simp only [Act.put, List.setIfInBounds_toArray, List.set_cons_zero, List.set_cons_succ, List.getElem_toArray, List.getElem_cons_zero, List.getElem_cons_succ]
           refine wpAnyH_take (i := 8) (v := ?_) rfl (by kernel_rfl) (by kernel_rfl) (by kernel_rfl) (fun _ _ _ h => h) (Or.inl ⟨by rfl, ?_⟩) hS ?_
           rotate_left
           · intro W' hS'
             go_simp
             rfl
           try simp only [Act.put, List.setIfInBounds_toArray, List.set_cons_zero, List.set_cons_succ, List.getElem_toArray, List.getElem_cons_zero, List.getElem_cons_succ]
           refine wpAnyH_take (i := 9) (v := ?_) rfl (by kernel_rfl) (by kernel_rfl) (by kernel_rfl) (fun _ _ _ h => h) (Or.inl ⟨by rfl, ?_⟩) hS ?_
           rotate_left
           · intro W' hS'
             go_simp
             rfl
           try simp only [Act.put, List.setIfInBounds_toArray, List.set_cons_zero, List.set_cons_succ, List.getElem_toArray, List.getElem_cons_zero, List.getElem_cons_succ]
           refine wpAnyH_take (i := 10) (v := ?_) rfl (by kernel_rfl) (by kernel_rfl) (by kernel_rfl) (fun _ _ _ h => h) (Or.inl ⟨by rfl, ?_⟩) hS ?_
           rotate_left
           · intro W' hS'
             go_simp
             rfl
           try simp only [Act.put, List.setIfInBounds_toArray, List.set_cons_zero, List.set_cons_succ, List.getElem_toArray, List.getElem_cons_zero, List.getElem_cons_succ]
           refine wpAnyH_take (i := 11) (v := ?_) rfl (by kernel_rfl) (by kernel_rfl) (by kernel_rfl) (fun _ _ _ h => h) (Or.inl ⟨by rfl, ?_⟩) hS ?_
           rotate_left
           · intro W' hS'
             go_simp
             rfl
           try simp only [Act.put, List.setIfInBounds_toArray, List.set_cons_zero, List.set_cons_succ, List.getElem_toArray, List.getElem_cons_zero, List.getElem_cons_succ]
           refine wpAnyH_take (i := 12) (v := ?_) rfl (by kernel_rfl) (by kernel_rfl) (by kernel_rfl) (fun _ _ _ h => h) (Or.inl ⟨by rfl, ?_⟩) hS ?_
           rotate_left
           · intro W' hS'
             go_simp
             rfl
           try simp only [Act.put, List.setIfInBounds_toArray, List.set_cons_zero, List.set_cons_succ, List.getElem_toArray, List.getElem_cons_zero, List.getElem_cons_succ]
           refine wpAnyH_take (i := 13) (v := ?_) rfl (by kernel_rfl) (by kernel_rfl) (by kernel_rfl) (fun _ _ _ h => h) (Or.inl ⟨by rfl, ?_⟩) hS ?_
           rotate_left
           · intro W' hS'
             go_simp
             rfl
           try simp only [Act.put, List.setIfInBounds_toArray, List.set_cons_zero, List.set_cons_succ, List.getElem_toArray, List.getElem_cons_zero, List.getElem_cons_succ]
           refine wpAnyH_take (i := 14) (v := ?_) rfl (by kernel_rfl) (by kernel_rfl) (by kernel_rfl) (fun _ _ _ h => h) (Or.inl ⟨by rfl, ?_⟩) hS ?_
           rotate_left
           · intro W' hS'
             go_simp
             rfl
           try simp only [Act.put, List.setIfInBounds_toArray, List.set_cons_zero, List.set_cons_succ, List.getElem_toArray, List.getElem_cons_zero, List.getElem_cons_succ]
           refine wpAnyH_ready (rs := [15]) (by kernel_rfl) (by simp) (AllReadyH.cons rfl (fun K hK => ?_) AllReadyH.nil)
           go_simp
           refine hK.out _ _ (HS0.out _ (((Below.refl _ _).drew).alloc HSZ.out _)) (fun hS => ?_)
           try simp only [Act.put, List.setIfInBounds_toArray, List.set_cons_zero, List.set_cons_succ, List.getElem_toArray, List.getElem_cons_zero, List.getElem_cons_succ]
           clear hK
           refine wpAnyH_ready (rs := [16]) (by kernel_rfl) (by simp) (AllReadyH.cons rfl (fun K hK => ?_) AllReadyH.nil)
           refine step_appG (m := 1) rfl _ _ rfl el_row3 HJD.out HSZ.out rfl [.int .i64 (-1), .int .i64 a, .int .i64 b] rfl rfl rfl (by simp [Value.oneCell']) hj9 (by omega) ?_
           intro A' c' w7 hown hB hg hob
           have HB7 := Lib.hid (hB _ _ (Nat.le_refl _) ((Below.refl w.heap.size wr).drew))
           have HJ7 := Lib.hid hown
           clear hown hB hg hob
           refine hK.out _ _ (HS0.out _ HB7.out) (fun hS => ?_)
           try simp only [Act.put, List.setIfInBounds_toArray, List.set_cons_zero, List.set_cons_succ, List.getElem_toArray, List.getElem_cons_zero, List.getElem_cons_succ]
           clear hK
           refine wpAnyH_take (i := 17) (v := ?_) rfl (by kernel_rfl) (by kernel_rfl) (by kernel_rfl) (fun _ _ _ h => h) (Or.inl ⟨by rfl, ?_⟩) hS ?_
           rotate_left
           · intro W' hS'
             go_simp
             rfl
           try simp only [Act.put, List.setIfInBounds_toArray, List.set_cons_zero, List.set_cons_succ, List.getElem_toArray, List.getElem_cons_zero, List.getElem_cons_succ]
           refine wpAnyH_done (by kernel_rfl) ?_ _)
        | (have _h := d1
           refine wp_region_held_drew (S := (fun W' => W'.cell? ⟨ad.block, (ad.add (j * 3)).off + 1, none⟩ = some (.int .i16 a) ∧ W'.cell? ⟨ad.block, (ad.add (j * 3)).off + 2, none⟩ = some (.int .i16 b))) (by kernel_rfl) (HS0.out _ ((Below.refl _ _).drew)) (fun hS => ?_)
           refine wpAnyH_take (i := 0) (v := ?_) rfl (by kernel_rfl) (by kernel_rfl) (by kernel_rfl) (fun _ _ _ h => h) (Or.inl ⟨by rfl, ?_⟩) hS ?_
           rotate_left
           · intro W' hS'
             go_simp
             rfl
           try simp only [Act.put, List.setIfInBounds_toArray, List.set_cons_zero, List.set_cons_succ, List.getElem_toArray, List.getElem_cons_zero, List.getElem_cons_succ]
           refine wpAnyH_take (i := 1) (v := ?_) rfl (by kernel_rfl) (by kernel_rfl) (by kernel_rfl) (fun _ _ _ h => h) (Or.inl ⟨by rfl, ?_⟩) hS ?_
           rotate_left
           · intro W' hS'
             go_simp
             rfl
           try simp only [Act.put, List.setIfInBounds_toArray, List.set_cons_zero, List.set_cons_succ, List.getElem_toArray, List.getElem_cons_zero, List.getElem_cons_succ]
           refine wpAnyH_take (i := 2) (v := ?_) rfl (by kernel_rfl) (by kernel_rfl) (by kernel_rfl) (fun _ _ _ h => h) (Or.inl ⟨by rfl, ?_⟩) hS ?_
           rotate_left
           · intro W' hS'
             go_simp
             rfl
           try simp only [Act.put, List.setIfInBounds_toArray, List.set_cons_zero, List.set_cons_succ, List.getElem_toArray, List.getElem_cons_zero, List.getElem_cons_succ]
           refine wpAnyH_take (i := 3) (v := ?_) rfl (by kernel_rfl) (by kernel_rfl) (by kernel_rfl) (fun _ _ _ h => h) (Or.inl ⟨by rfl, ?_⟩) hS ?_
           rotate_left
           · intro W' hS'
             go_simp
             rfl
           try simp only [Act.put, List.setIfInBounds_toArray, List.set_cons_zero, List.set_cons_succ, List.getElem_toArray, List.getElem_cons_zero, List.getElem_cons_succ]
           refine wpAnyH_take (i := 4) (v := ?_) rfl (by kernel_rfl) (by kernel_rfl) (by kernel_rfl) (fun _ _ _ h => h) (Or.inl ⟨by rfl, ?_⟩) hS ?_
           rotate_left
           · intro W' hS'
             go_simp
             rfl
           try simp only [Act.put, List.setIfInBounds_toArray, List.set_cons_zero, List.set_cons_succ, List.getElem_toArray, List.getElem_cons_zero, List.getElem_cons_succ]
           refine wpAnyH_take (i := 5) (v := ?_) rfl (by kernel_rfl) (by kernel_rfl) (by kernel_rfl) (fun _ _ _ h => h) (Or.inl ⟨by rfl, ?_⟩) hS ?_
           rotate_left
           · intro W' hS'
             go_simp
             rfl
           try simp only [Act.put, List.setIfInBounds_toArray, List.set_cons_zero, List.set_cons_succ, List.getElem_toArray, List.getElem_cons_zero, List.getElem_cons_succ]
           refine wpAnyH_take (i := 6) (v := ?_) rfl (by kernel_rfl) (by kernel_rfl) (by kernel_rfl) (fun _ _ _ h => h) (Or.inl ⟨by rfl, ?_⟩) hS ?_
           rotate_left
           · intro W' hS'
             go_simp
             rfl
           try simp only [Act.put, List.setIfInBounds_toArray, List.set_cons_zero, List.set_cons_succ, List.getElem_toArray, List.getElem_cons_zero, List.getElem_cons_succ]
           refine wpAnyH_take (i := 7) (v := ?_) rfl (by kernel_rfl) (by kernel_rfl) (by kernel_rfl) (fun _ _ _ h => h) (Or.inl ⟨by rfl, ?_⟩) hS ?_
           rotate_left
           · intro W' hS'
             go_simp
             rfl
           try simp only [Act.put, List.setIfInBounds_toArray, List.set_cons_zero, List.set_cons_succ, List.getElem_toArray, List.getElem_cons_zero, List.getElem_cons_succ]
           refine wpAnyH_take (i := 8) (v := ?_) rfl (by kernel_rfl) (by kernel_rfl) (by kernel_rfl) (fun _ _ _ h => h) (Or.inl ⟨by rfl, ?_⟩) hS ?_
           rotate_left
           · intro W' hS'
             go_simp
             rfl
           try simp only [Act.put, List.setIfInBounds_toArray, List.set_cons_zero, List.set_cons_succ, List.getElem_toArray, List.getElem_cons_zero, List.getElem_cons_succ]
           refine wpAnyH_take (i := 9) (v := ?_) rfl (by kernel_rfl) (by kernel_rfl) (by kernel_rfl) (fun _ _ _ h => h) (Or.inl ⟨by rfl, ?_⟩) hS ?_
           rotate_left
           · intro W' hS'
             go_simp
             rfl
           try simp only [Act.put, List.setIfInBounds_toArray, List.set_cons_zero, List.set_cons_succ, List.getElem_toArray, List.getElem_cons_zero, List.getElem_cons_succ]
           refine wpAnyH_take (i := 10) (v := ?_) rfl (by kernel_rfl) (by kernel_rfl) (by kernel_rfl) (fun _ _ _ h => h) (Or.inl ⟨by rfl, ?_⟩) hS ?_
           rotate_left
           · intro W' hS'
             go_simp
             rfl
           try simp only [Act.put, List.setIfInBounds_toArray, List.set_cons_zero, List.set_cons_succ, List.getElem_toArray, List.getElem_cons_zero, List.getElem_cons_succ]
           refine wpAnyH_take (i := 11) (v := ?_) rfl (by kernel_rfl) (by kernel_rfl) (by kernel_rfl) (fun _ _ _ h => h) (Or.inl ⟨by rfl, ?_⟩) hS ?_
           rotate_left
           · intro W' hS'
             go_simp
             rfl
           try simp only [Act.put, List.setIfInBounds_toArray, List.set_cons_zero, List.set_cons_succ, List.getElem_toArray, List.getElem_cons_zero, List.getElem_cons_succ]
           refine wpAnyH_take (i := 12) (v := ?_) rfl (by kernel_rfl) (by kernel_rfl) (by kernel_rfl) (fun _ _ _ h => h) (Or.inl ⟨by rfl, ?_⟩) hS ?_
           rotate_left
           · intro W' hS'
             go_simp
             rfl
           try simp only [Act.put, List.setIfInBounds_toArray, List.set_cons_zero, List.set_cons_succ, List.getElem_toArray, List.getElem_cons_zero, List.getElem_cons_succ]
           refine wpAnyH_take (i := 13) (v := ?_) rfl (by kernel_rfl) (by kernel_rfl) (by kernel_rfl) (fun _ _ _ h => h) (Or.inl ⟨by rfl, ?_⟩) hS ?_
           rotate_left
           · intro W' hS'
             go_simp
             rfl
           try simp only [Act.put, List.setIfInBounds_toArray, List.set_cons_zero, List.set_cons_succ, List.getElem_toArray, List.getElem_cons_zero, List.getElem_cons_succ]
           refine wpAnyH_take (i := 14) (v := ?_) rfl (by kernel_rfl) (by kernel_rfl) (by kernel_rfl) (fun _ _ _ h => h) (Or.inl ⟨by rfl, ?_⟩) hS ?_
           rotate_left
           · intro W' hS'
             go_simp
             rfl
           try simp only [Act.put, List.setIfInBounds_toArray, List.set_cons_zero, List.set_cons_succ, List.getElem_toArray, List.getElem_cons_zero, List.getElem_cons_succ]
           refine wpAnyH_ready (rs := [15]) (by kernel_rfl) (by simp) (AllReadyH.cons rfl (fun K hK => ?_) AllReadyH.nil)
           go_simp
           refine hK.out _ _ (HS0.out _ (((Below.refl _ _).drew).alloc HSZ.out _)) (fun hS => ?_)
           try simp only [Act.put, List.setIfInBounds_toArray, List.set_cons_zero, List.set_cons_succ, List.getElem_toArray, List.getElem_cons_zero, List.getElem_cons_succ]
           clear hK
           refine wpAnyH_ready (rs := [16]) (by kernel_rfl) (by simp) (AllReadyH.cons rfl (fun K hK => ?_) AllReadyH.nil)
           refine step_appG (m := 1) rfl _ _ rfl el_row3 HJD.out HSZ.out rfl [.int .i64 hv, .int .i64 a, .int .i64 b] rfl rfl rfl (by simp [Value.oneCell']) hj9 (by omega) ?_
           intro A' c' w7 hown hB hg hob
           have HB7 := Lib.hid (hB _ _ (Nat.le_refl _) ((Below.refl w.heap.size wr).drew))
           have HJ7 := Lib.hid hown
           clear hown hB hg hob
           refine hK.out _ _ (HS0.out _ HB7.out) (fun hS => ?_)
           try simp only [Act.put, List.setIfInBounds_toArray, List.set_cons_zero, List.set_cons_succ, List.getElem_toArray, List.getElem_cons_zero, List.getElem_cons_succ]
           clear hK
           refine wpAnyH_take (i := 17) (v := ?_) rfl (by kernel_rfl) (by kernel_rfl) (by kernel_rfl) (fun _ _ _ h => h) (Or.inl ⟨by rfl, ?_⟩) hS ?_
           rotate_left
           · intro W' hS'
             go_simp
             rfl
           try simp only [Act.put, List.setIfInBounds_toArray, List.set_cons_zero, List.set_cons_succ, List.getElem_toArray, List.getElem_cons_zero, List.getElem_cons_succ]
           refine wpAnyH_done (by kernel_rfl) ?_ _)
        clear hS
        have HJN : Hid (RwI w l ftR (j + 1) A' c' w7) := Lib.hid ⟨by rw [HTK.out]; have := HJ7.out; unfold ftR r3C; dsimp only; rw [← HHV.out]; exact this, HJ.out.b.trans HB7.out⟩
        go_wp2_with fail
        go_roundw
        case rel => exact ⟨j + 1, A', c', by omega, rfl, by go_num, HJN⟩
        case measure => simp [intOf]; omega
    · have d0 : decide ((j : Int) < (l.length : Int)) = false := decide_eq_false (by omega)
      have HJL : Hid (j = l.length) := Lib.hid (by omega)
      obtain ⟨R, HRR⟩ : ∃ R, Hid (R = l.map ftR) := ⟨_, Lib.hid rfl⟩
      have HRL : Hid (R.length = j) := Lib.hid (by rw [HRR.out, List.length_map, HJL.out])
      have HRB : Hid (∀ r ∈ R, RowB r) := Lib.hid (by rw [HRR.out]; exact ftR_B HI.out)
      have HO : Hid (wr.ownsRow w.heap.size 46 3 (.slice AR j cR) j (R.flatMap r3C)) := Lib.hid (by have := HJ.out.o; rw [HJL.out, List.take_length, ← HJL.out, ← HRR.out] at this; exact this)
      have HBW := Lib.hid HJ.out.b
      have HJ60 : Hid (j ≤ 60) := Lib.hid (by have := HN.out; omega)
      clear HJ HRR HI HR
      have q1 := Lib.hid (tower22s_any R AR j cR wr HRL.out (by have := HJ60.out; omega) (Reads.of_own HO.out))
      go_upto_region 12 with (go_at_call 19; refine q1.out.mono ?_; rintro e w1 ⟨gN, cN, gU, cU, rfl, hn, hu, hb⟩; have HN1 := Lib.hid hn; have HU1 := Lib.hid hu; have HB1 := Lib.hid hb; clear hn hu hb)
      obtain ⟨gT, HGT⟩ : ∃ gT, Hid (gT = w1.heap.size) := ⟨_, Lib.hid rfl⟩
      obtain ⟨w2, hw2⟩ : ∃ w2, w2 = w1.alloc (.cells #[.slice (some ⟨gN, 0, none⟩) (j + 1) cN, .slice none 0 0, .int .i64 100] 25) := ⟨_, rfl⟩
      have HBA : Below w1.heap.size w1 w2 := by rw [hw2]; exact (Below.refl _ _).alloc (Nat.le_refl _) _
      have HTB2 : Hid (Blk w2 gT 25 #[.slice (some ⟨gN, 0, none⟩) (j + 1) cN, .slice none 0 0, .int .i64 100]) := Lib.hid (by rw [hw2, HGT.out]; exact Blk.new _ _ _)
      have HRN2 := Lib.hid (Reads.of_own (own_below HN1.out HBA))
      have HRU2 := Lib.hid (Reads.of_own (own_below HU1.out HBA))
      have HB2 := Lib.hid (HB1.out.trans (HBA.mono HB1.out.size))
      rw [← hw2, ← HGT.out]
      clear HBA hw2 HN1 HU1 HB1 HGT q1
      have q2 := Lib.hid (tblockL_any 0 0 R j HRL.out (by have := HJ60.out; omega) HRB.out (by decide) (by decide) _ _ cN cU w2 HRN2.out HRU2.out)
      obtain ⟨t0, t1, t2⟩ := HTB2.out.c3
      have hgt : gT < w2.heap.size := HTB2.out.lt
      obtain ⟨HH, HHH⟩ : ∃ HH, Hid (HH = max 0 ((ysL R j).1 + sumF (ysL R j).2) + (0 + 0)) := ⟨_, Lib.hid rfl⟩
      rw [← HHH.out] at q2
      go_upto_region 13 with (go_at_call 20; refine q2.out.mono ?_; rintro e w3 ⟨Ab, cb, gF, gB, rfl, hf, hb⟩; have HF3 := Lib.hid hf; have HB3 := Lib.hid (HB2.out.trans (hb.mono HB2.out.size)); clear hf hb)
      clear q2 t0 t1 t2 hgt HRN2 HRU2 HTB2 HB2
      obtain ⟨gI, HGI⟩ : ∃ gI, Hid (gI = w3.heap.size) := ⟨_, Lib.hid rfl⟩
      obtain ⟨w4, hw4⟩ : ∃ w4, w4 = w3.alloc (.cells #[.slice Ab j cb, .slice (some ⟨gF, 0, none⟩) j j, .slice (some ⟨gB, 0, none⟩) j j, .int .i64 HH, .slice none 0 0, .bool false] 52) := ⟨_, rfl⟩
      have HBA : Hid (Below w3.heap.size w3 w4) := Lib.hid (by rw [hw4]; exact (Below.refl _ _).alloc (Nat.le_refl _) _)
      have HIB4 : Hid (Blk w4 gI 52 #[.slice Ab j cb, .slice (some ⟨gF, 0, none⟩) j j, .slice (some ⟨gB, 0, none⟩) j j, .int .i64 HH, .slice none 0 0, .bool false]) := Lib.hid (by rw [hw4, HGI.out]; exact Blk.new _ _ _)
      have HF4 := Lib.hid (HF3.out.below HBA.out HF3.out.lt)
      have HB4 := Lib.hid (HB3.out.trans (HBA.out.mono HB3.out.size))
      have HO4 := Lib.hid (own_below HO.out HB4.out)
      have HW4 := Lib.hid (HBW.out.trans (HB4.out.mono HBW.out.size))
      rw [← hw4, ← HGI.out]
      clear hw4 HF3 HB3 HBA HGI HO HBW HB4
      have i1 := HIB4.out.get 1 (v := .slice (some ⟨gF, 0, none⟩) j j) rfl
      have e1 : ((j : Int) != (j : Int)) = false := by simp
      go_upto_region 16 with (fail)
      clear i1 e1
      obtain ⟨gS, HGS⟩ : ∃ gS, Hid (gS = w4.heap.size) := ⟨_, Lib.hid rfl⟩
      have HGI : Hid (gI < gS ∧ gF < gS ∧ w.heap.size ≤ gS) := Lib.hid (by rw [HGS.out]; exact ⟨HIB4.out.lt, HF4.out.lt, HW4.out.size⟩)
      go_upto_region 18 with (fail)
      rw [← HGS.out]
      have HS5 : Hid (Blk (w4.alloc (.cells #[.int .i64 0, .int .i64 0] 55)) gS 55 #[.int .i64 0, .int .i64 0] ∧ Below gS w4 (w4.alloc (.cells #[.int .i64 0, .int .i64 0] 55))) := Lib.hid ⟨Blk.at_ _ _ _ HGS.out, (Below.refl _ _).alloc (by rw [HGS.out]; exact Nat.le_refl _) _⟩
      go_loopw [9, 11] (fun q9 q11 wr2 => ∃ (k : Nat) (y : Int) (s : Stt), k ≤ j ∧ q9 = .int .i64 y ∧ q11 = .int .i64 (k : Int) ∧ Hid ((y, s) = ysL R k) ∧ Hid (Blk wr2 gS 55 #[.int .i64 s.most, .int .i64 s.least] ∧ Below gS w4 wr2)) (fun _ q _ => j - (intOf q).toNat)
      case atStart => exact ⟨0, 0, ⟨0, 0⟩, by omega, rfl, rfl, Lib.hid rfl, HS5⟩
      case round =>
        obtain ⟨k, y, s, hk, rfl, rfl, HYS, HJ2⟩ := hrel
        have HGW : Hid (gS = w4.heap.size) := HGS
        by_cases hkj : k < j
        · have d0 : decide ((k : Int) < (j : Int)) = true := decide_eq_true (by omega)
          have hwk : IntKind.i64.wrap ((k : Int) + 1) = (k : Int) + 1 := IntWalk.i64_in _ ⟨by omega, by have := HJ60.out; omega⟩
          obtain ⟨gR, hAR, hgR0, hgR⟩ := own_some HO4.out (by omega)
          subst hAR
          have HROW : Hid (∀ W', Below gS w4 W' → W'.cell? ⟨gR, k * 3, none⟩ = some (.int .i64 (rAt R k).h) ∧ W'.cell? ⟨gR, k * 3 + 1, none⟩ = some (.int .i64 (rAt R k).a) ∧ W'.cell? ⟨gR, k * 3 + 2, none⟩ = some (.int .i64 (rAt R k).b)) := Lib.hid (fun W' hb => row_c (own_below HO4.out (by rw [HGW.out] at hb; exact hb)) HRL.out k hkj)
          have HFRG : Hid (∀ W', Below gS w4 W' → W'.cell? ⟨gF, k * 5, none⟩ = some (.int .i64 (tF 0 R k).x) ∧ W'.cell? ⟨gF, k * 5 + 1, none⟩ = some (.int .i64 (tF 0 R k).y) ∧ W'.cell? ⟨gF, k * 5 + 2, none⟩ = some (.int .i64 (tF 0 R k).w) ∧ W'.cell? ⟨gF, k * 5 + 3, none⟩ = some (.int .i64 (tF 0 R k).h) ∧ W'.cell? ⟨gF, k * 5 + 4, none⟩ = some (.slice none 0 0)) := Lib.hid (fun W' hb => frag_c (HF4.out.below hb HGI.out.2.1) k hkj)
          have HYB := Lib.hid (ysL_B HRB.out k)
          have HRK := Lib.hid (rAt_ok HRB.out k)
          have HSU := Lib.hid (ysL_succ R k (by rw [HRL.out]; exact hkj))
          have HTF : Hid (tF 0 R k = ⟨0, topR (y, s) (rAt R k) + 0, 100, max (rAt R k).h 0⟩) := Lib.hid (by rw [HYS.out]; rfl)
          rw [← HYS.out] at HYB HSU
          rw [HTF.out] at HFRG
          clear HTF
          obtain ⟨r, hr⟩ : ∃ r, r = rAt R k := ⟨_, rfl⟩
          rw [← hr] at HROW HFRG HRK HSU
          clear hr
          obtain ⟨h, a, b, fl, cl⟩ := r
          obtain ⟨m, ls⟩ := s
          obtain ⟨s1, hs1⟩ : ∃ s1, s1 = joinF ⟨m, ls⟩ a := ⟨_, rfl⟩
          have hyb := HYB.out.y
          have hmb := HYB.out.m
          have hlb := HYB.out.l
          have hrh := HRK.out.h
          have hra := HRK.out.a
          have hrb := HRK.out.b
          dsimp only at hyb hmb hlb hrh hra hrb
          have HJN1 := Lib.hid (fun W => join14_any ⟨m, ls⟩ a W hmb.1 hlb.2)
          have HJS : Hid (0 ≤ s1.most ∧ s1.most ≤ 1048576 ∧ -1048576 ≤ s1.least ∧ s1.least ≤ 0) := Lib.hid (by rw [hs1]; unfold joinF; dsimp only; omega)
          rw [← hs1] at HJN1
          have HTOP : Hid (topR (y, ⟨m, ls⟩) ⟨h, a, b, fl, cl⟩ + 0 = y + (s1.most + s1.least)) := Lib.hid (by unfold topR sumF; rw [hs1]; dsimp only; omega)
          have HSU2 : Hid (ysL R (k + 1) = if 0 < h then (y + (s1.most + s1.least) + h, joinF ⟨0, 0⟩ b) else (y, joinF s1 b)) := Lib.hid (by rw [HSU.out, hs1]; rfl)
          rw [HTOP.out] at HFRG
          clear HSU HTOP hs1
          obtain ⟨m1, l1⟩ := s1
          obtain ⟨j0, j1, j2, j3⟩ := HJS.out
          dsimp only at j0 j1 j2 j3
          have hyj : -4194304 * 100 ≤ y ∧ y ≤ 4194304 * 100 := by have := HJ60.out; rw [HRL.out] at hyb; omega
          have hwy : IntKind.i64.wrap (y + (m1 + l1)) = y + (m1 + l1) := IntWalk.i64_in _ ⟨by omega, by omega⟩
          have hwz : IntKind.i64.wrap (y + (m1 + l1) + h) = y + (m1 + l1) + h := IntWalk.i64_in _ ⟨by omega, by omega⟩
          have HSM := Lib.hid (fun W => sum14_any m1 l1 W (by omega))
          have HJN2 := Lib.hid (fun W => join14_any ⟨m1, l1⟩ b W j0 j3)
          have HJN3 := Lib.hid (fun W => join14_any ⟨0, 0⟩ b W (by decide) (by decide))
          have HBB : Hid (-4194304 * 100 ≤ y ∧ y ≤ 4194304 * 100) := Lib.hid hyj
          clear hyb hmb hlb hrh hra hrb j0 j1 j2 j3 hyj
          have hkj2 : (k : Int) < (j : Int) := by omega
          go_upto_region 20 with (fail)
          have E20 : Blk wr.drew gS 55 #[.int .i64 m, .int .i64 ls] ∧ Below gS w4 wr.drew := ⟨HJ2.out.1.drew, HJ2.out.2.trans (Below.refl _ _).drew⟩
          refine wp_region_S (fun b _ _ W => Blk W gS 55 (if b then #[.int .i64 m1, .int .i64 l1] else #[.int .i64 m, .int .i64 ls]) ∧ Below gS w4 W) 7 1000 100000 false true (by kernel_rfl) (by kernel_rfl) (by kernel_rfl) (E20) ?_
          refine wpAnyS_take (i := 0) (v := ?_) rfl (by kernel_rfl) (by kernel_rfl) (by kernel_rfl) (fun _ _ _ h => h) (by rfl) (gives_pureF (by rfl) (by kernel_rfl) ?_) ?_
          rotate_left
          · intro d' u' W' hS'
            have hh : Blk W' gS 55 #[.int .i64 m, .int .i64 ls] ∧ Below gS w4 W' := hS'
            obtain ⟨x0, x1, x2⟩ := HROW.out W' hh.2
            obtain ⟨s0, s1⟩ := hh.1.c2
            go_simp
            rfl
          try simp only [Act.put, List.setIfInBounds_toArray, List.set_cons_zero, List.set_cons_succ, List.getElem_toArray, List.getElem_cons_zero, List.getElem_cons_succ]
          refine wpAnyS_take (i := 1) (v := ?_) rfl (by kernel_rfl) (by kernel_rfl) (by kernel_rfl) (fun _ _ _ h => h) (by rfl) (gives_pureF (by rfl) (by kernel_rfl) ?_) ?_
          rotate_left
          · intro d' u' W' hS'
            have hh : Blk W' gS 55 #[.int .i64 m, .int .i64 ls] ∧ Below gS w4 W' := hS'
            obtain ⟨x0, x1, x2⟩ := HROW.out W' hh.2
            obtain ⟨s0, s1⟩ := hh.1.c2
            go_simp
            rfl
          try simp only [Act.put, List.setIfInBounds_toArray, List.set_cons_zero, List.set_cons_succ, List.getElem_toArray, List.getElem_cons_zero, List.getElem_cons_succ]
          refine wpAnyS_take (i := 2) (v := ?_) rfl (by kernel_rfl) (by kernel_rfl) (by kernel_rfl) (fun _ _ _ h => h) (by rfl) (gives_pureF (by rfl) (by kernel_rfl) ?_) ?_
          rotate_left
          · intro d' u' W' hS'
            have hh : Blk W' gS 55 #[.int .i64 m, .int .i64 ls] ∧ Below gS w4 W' := hS'
            obtain ⟨x0, x1, x2⟩ := HROW.out W' hh.2
            obtain ⟨s0, s1⟩ := hh.1.c2
            go_simp
            rfl
          try simp only [Act.put, List.setIfInBounds_toArray, List.set_cons_zero, List.set_cons_succ, List.getElem_toArray, List.getElem_cons_zero, List.getElem_cons_succ]
          refine wpAnyS_take (i := 3) (v := ?_) rfl (by kernel_rfl) (by kernel_rfl) (by kernel_rfl) (fun _ _ _ h => h) (by rfl) (gives_pureF (by rfl) (by kernel_rfl) ?_) ?_
          rotate_left
          · intro d' u' W' hS'
            have hh : Blk W' gS 55 #[.int .i64 m, .int .i64 ls] ∧ Below gS w4 W' := hS'
            obtain ⟨x0, x1, x2⟩ := HROW.out W' hh.2
            obtain ⟨s0, s1⟩ := hh.1.c2
            go_simp
            rfl
          try simp only [Act.put, List.setIfInBounds_toArray, List.set_cons_zero, List.set_cons_succ, List.getElem_toArray, List.getElem_cons_zero, List.getElem_cons_succ]
          refine wpAnyS_take (i := 4) (v := ?_) rfl (by kernel_rfl) (by kernel_rfl) (by kernel_rfl) (fun _ _ _ h => h) (by rfl) (gives_pureF (by rfl) (by kernel_rfl) ?_) ?_
          rotate_left
          · intro d' u' W' hS'
            have hh : Blk W' gS 55 #[.int .i64 m, .int .i64 ls] ∧ Below gS w4 W' := hS'
            obtain ⟨x0, x1, x2⟩ := HROW.out W' hh.2
            obtain ⟨s0, s1⟩ := hh.1.c2
            go_simp
            rfl
          try simp only [Act.put, List.setIfInBounds_toArray, List.set_cons_zero, List.set_cons_succ, List.getElem_toArray, List.getElem_cons_zero, List.getElem_cons_succ]
          refine wpAnyS_take (i := 5) (v := ?_) rfl (by kernel_rfl) (by kernel_rfl) (by kernel_rfl) (fun _ _ _ h => h) (by rfl) (gives_pureF (by rfl) (by kernel_rfl) ?_) ?_
          rotate_left
          · intro d' u' W' hS'
            have hh : Blk W' gS 55 #[.int .i64 m, .int .i64 ls] ∧ Below gS w4 W' := hS'
            obtain ⟨x0, x1, x2⟩ := HROW.out W' hh.2
            obtain ⟨s0, s1⟩ := hh.1.c2
            go_simp
            rfl
          try simp only [Act.put, List.setIfInBounds_toArray, List.set_cons_zero, List.set_cons_succ, List.getElem_toArray, List.getElem_cons_zero, List.getElem_cons_succ]
          refine wpAnyS_take (i := 6) (v := .agg #[.int .i64 m1, .int .i64 l1]) rfl (by kernel_rfl) (by kernel_rfl) (by kernel_rfl) (fun _ _ _ h => h) (by rfl) (gives_callF (by rfl) (by kernel_rfl) _ _ ?_ (fun d' u' W' hS' => (HJN1.out W').mono (fun _ _ h => ⟨h.1, FtS.bel HGW.out (show Blk W' gS 55 #[.int .i64 m, .int .i64 ls] ∧ Below gS w4 W' from hS') h.2⟩))) ?_
          · intro W'
            first | rfl | kernel_rfl
          try simp only [Act.put, List.setIfInBounds_toArray, List.set_cons_zero, List.set_cons_succ, List.getElem_toArray, List.getElem_cons_zero, List.getElem_cons_succ]
          refine wpAnyS_store (i := 7) (d := true) (fun W' => (W'.setCell ⟨gS, 0, none⟩ (.int .i64 m1)).setCell ⟨gS, 1, none⟩ (.int .i64 l1)) rfl (by kernel_rfl) (by rfl) (by rfl) (by kernel_rfl) rfl ?_ (fun W' hS' => FtS.set (show Blk W' gS 55 #[.int .i64 m, .int .i64 ls] ∧ Below gS w4 W' from hS') m1 l1) ?_
          · intro W' hS'
            have hh : Blk W' gS 55 #[.int .i64 m, .int .i64 ls] ∧ Below gS w4 W' := hS'
            obtain ⟨s0, s1⟩ := hh.1.c2
            have fs := hh.1.frozen
            go_simp
            try rfl
          try simp only [Act.put, List.setIfInBounds_toArray, List.set_cons_zero, List.set_cons_succ, List.getElem_toArray, List.getElem_cons_zero, List.getElem_cons_succ]
          refine wpAnyS_done (b := true) (d := true) (by kernel_rfl) (by kernel_rfl) (by kernel_rfl) rfl (fun w20 h20 => ?_) _
          have H20 : Hid (Blk w20 gS 55 #[.int .i64 m1, .int .i64 l1] ∧ Below gS w4 w20) := Lib.hid h20
          clear h20
          go_upto_region 21 with (fail)
          refine wp_region_S (fun _ _ _ W => Below w20.heap.size w20 W) 1000 1000 100000 true true (by kernel_rfl) (by kernel_rfl) (by kernel_rfl) ((Below.refl _ _).drew) ?_
          refine wpAnyS_take (i := 0) (v := ?_) rfl (by kernel_rfl) (by kernel_rfl) (by kernel_rfl) (fun _ _ _ h => h) (by rfl) (gives_pure (by rfl) ?_) ?_
          rotate_left
          · intro b' d' u' W' hS'
            have hq := FtS.bel HGW.out H20.out hS'
            obtain ⟨s0, s1⟩ := hq.1.c2
            obtain ⟨x0, x1, x2⟩ := HROW.out W' hq.2
            obtain ⟨f0, f1, f2, f3, f4⟩ := HFRG.out W' hq.2
            have i1 := (HIB4.out.below hq.2 HGI.out.1).get 1 (v := .slice (some ⟨gF, 0, none⟩) j j) rfl
            have e0 : (y + (m1 + l1) != y + (m1 + l1)) = false := by simp
            have e1 : (max h 0 != max h 0) = false := by simp
            go_simp
            rfl
          try simp only [Act.put, List.setIfInBounds_toArray, List.set_cons_zero, List.set_cons_succ, List.getElem_toArray, List.getElem_cons_zero, List.getElem_cons_succ]
          refine wpAnyS_take (i := 1) (v := ?_) rfl (by kernel_rfl) (by kernel_rfl) (by kernel_rfl) (fun _ _ _ h => h) (by rfl) (gives_pure (by rfl) ?_) ?_
          rotate_left
          · intro b' d' u' W' hS'
            have hq := FtS.bel HGW.out H20.out hS'
            obtain ⟨s0, s1⟩ := hq.1.c2
            obtain ⟨x0, x1, x2⟩ := HROW.out W' hq.2
            obtain ⟨f0, f1, f2, f3, f4⟩ := HFRG.out W' hq.2
            have i1 := (HIB4.out.below hq.2 HGI.out.1).get 1 (v := .slice (some ⟨gF, 0, none⟩) j j) rfl
            have e0 : (y + (m1 + l1) != y + (m1 + l1)) = false := by simp
            have e1 : (max h 0 != max h 0) = false := by simp
            go_simp
            rfl
          try simp only [Act.put, List.setIfInBounds_toArray, List.set_cons_zero, List.set_cons_succ, List.getElem_toArray, List.getElem_cons_zero, List.getElem_cons_succ]
          refine wpAnyS_take (i := 2) (v := ?_) rfl (by kernel_rfl) (by kernel_rfl) (by kernel_rfl) (fun _ _ _ h => h) (by rfl) (gives_pure (by rfl) ?_) ?_
          rotate_left
          · intro b' d' u' W' hS'
            have hq := FtS.bel HGW.out H20.out hS'
            obtain ⟨s0, s1⟩ := hq.1.c2
            obtain ⟨x0, x1, x2⟩ := HROW.out W' hq.2
            obtain ⟨f0, f1, f2, f3, f4⟩ := HFRG.out W' hq.2
            have i1 := (HIB4.out.below hq.2 HGI.out.1).get 1 (v := .slice (some ⟨gF, 0, none⟩) j j) rfl
            have e0 : (y + (m1 + l1) != y + (m1 + l1)) = false := by simp
            have e1 : (max h 0 != max h 0) = false := by simp
            go_simp
            rfl
          try simp only [Act.put, List.setIfInBounds_toArray, List.set_cons_zero, List.set_cons_succ, List.getElem_toArray, List.getElem_cons_zero, List.getElem_cons_succ]
          refine wpAnyS_take (i := 3) (v := ?_) rfl (by kernel_rfl) (by kernel_rfl) (by kernel_rfl) (fun _ _ _ h => h) (by rfl) (gives_pure (by rfl) ?_) ?_
          rotate_left
          · intro b' d' u' W' hS'
            have hq := FtS.bel HGW.out H20.out hS'
            obtain ⟨s0, s1⟩ := hq.1.c2
            obtain ⟨x0, x1, x2⟩ := HROW.out W' hq.2
            obtain ⟨f0, f1, f2, f3, f4⟩ := HFRG.out W' hq.2
            have i1 := (HIB4.out.below hq.2 HGI.out.1).get 1 (v := .slice (some ⟨gF, 0, none⟩) j j) rfl
            have e0 : (y + (m1 + l1) != y + (m1 + l1)) = false := by simp
            have e1 : (max h 0 != max h 0) = false := by simp
            go_simp
            rfl
          try simp only [Act.put, List.setIfInBounds_toArray, List.set_cons_zero, List.set_cons_succ, List.getElem_toArray, List.getElem_cons_zero, List.getElem_cons_succ]
          refine wpAnyS_take (i := 4) (v := ?_) rfl (by kernel_rfl) (by kernel_rfl) (by kernel_rfl) (fun _ _ _ h => h) (by rfl) (gives_pure (by rfl) ?_) ?_
          rotate_left
          · intro b' d' u' W' hS'
            have hq := FtS.bel HGW.out H20.out hS'
            obtain ⟨s0, s1⟩ := hq.1.c2
            obtain ⟨x0, x1, x2⟩ := HROW.out W' hq.2
            obtain ⟨f0, f1, f2, f3, f4⟩ := HFRG.out W' hq.2
            have i1 := (HIB4.out.below hq.2 HGI.out.1).get 1 (v := .slice (some ⟨gF, 0, none⟩) j j) rfl
            have e0 : (y + (m1 + l1) != y + (m1 + l1)) = false := by simp
            have e1 : (max h 0 != max h 0) = false := by simp
            go_simp
            rfl
          try simp only [Act.put, List.setIfInBounds_toArray, List.set_cons_zero, List.set_cons_succ, List.getElem_toArray, List.getElem_cons_zero, List.getElem_cons_succ]
          refine wpAnyS_take (i := 5) (v := ?_) rfl (by kernel_rfl) (by kernel_rfl) (by kernel_rfl) (fun _ _ _ h => h) (by rfl) (gives_pure (by rfl) ?_) ?_
          rotate_left
          · intro b' d' u' W' hS'
            have hq := FtS.bel HGW.out H20.out hS'
            obtain ⟨s0, s1⟩ := hq.1.c2
            obtain ⟨x0, x1, x2⟩ := HROW.out W' hq.2
            obtain ⟨f0, f1, f2, f3, f4⟩ := HFRG.out W' hq.2
            have i1 := (HIB4.out.below hq.2 HGI.out.1).get 1 (v := .slice (some ⟨gF, 0, none⟩) j j) rfl
            have e0 : (y + (m1 + l1) != y + (m1 + l1)) = false := by simp
            have e1 : (max h 0 != max h 0) = false := by simp
            go_simp
            rfl
          try simp only [Act.put, List.setIfInBounds_toArray, List.set_cons_zero, List.set_cons_succ, List.getElem_toArray, List.getElem_cons_zero, List.getElem_cons_succ]
          refine wpAnyS_take (i := 6) (v := ?_) rfl (by kernel_rfl) (by kernel_rfl) (by kernel_rfl) (fun _ _ _ h => h) (by rfl) (gives_pure (by rfl) ?_) ?_
          rotate_left
          · intro b' d' u' W' hS'
            have hq := FtS.bel HGW.out H20.out hS'
            obtain ⟨s0, s1⟩ := hq.1.c2
            obtain ⟨x0, x1, x2⟩ := HROW.out W' hq.2
            obtain ⟨f0, f1, f2, f3, f4⟩ := HFRG.out W' hq.2
            have i1 := (HIB4.out.below hq.2 HGI.out.1).get 1 (v := .slice (some ⟨gF, 0, none⟩) j j) rfl
            have e0 : (y + (m1 + l1) != y + (m1 + l1)) = false := by simp
            have e1 : (max h 0 != max h 0) = false := by simp
            go_simp
            rfl
          try simp only [Act.put, List.setIfInBounds_toArray, List.set_cons_zero, List.set_cons_succ, List.getElem_toArray, List.getElem_cons_zero, List.getElem_cons_succ]
          refine wpAnyS_take (i := 7) (v := ?_) rfl (by kernel_rfl) (by kernel_rfl) (by kernel_rfl) (fun _ _ _ h => h) (by rfl) (gives_pure (by rfl) ?_) ?_
          rotate_left
          · intro b' d' u' W' hS'
            have hq := FtS.bel HGW.out H20.out hS'
            obtain ⟨s0, s1⟩ := hq.1.c2
            obtain ⟨x0, x1, x2⟩ := HROW.out W' hq.2
            obtain ⟨f0, f1, f2, f3, f4⟩ := HFRG.out W' hq.2
            have i1 := (HIB4.out.below hq.2 HGI.out.1).get 1 (v := .slice (some ⟨gF, 0, none⟩) j j) rfl
            have e0 : (y + (m1 + l1) != y + (m1 + l1)) = false := by simp
            have e1 : (max h 0 != max h 0) = false := by simp
            go_simp
            rfl
          try simp only [Act.put, List.setIfInBounds_toArray, List.set_cons_zero, List.set_cons_succ, List.getElem_toArray, List.getElem_cons_zero, List.getElem_cons_succ]
          refine wpAnyS_take (i := 8) (v := .int .i64 (m1 + l1)) rfl (by kernel_rfl) (by kernel_rfl) (by kernel_rfl) (fun _ _ _ h => h) (by rfl) (gives_call (by rfl) _ _ ?_ (fun b' d' u' W' hS' => (HSM.out W').mono (fun _ _ h => ⟨h.1, h.2 ▸ hS'.alloc hS'.size _⟩))) ?_
          · intro W'
            first | rfl | kernel_rfl
          try simp only [Act.put, List.setIfInBounds_toArray, List.set_cons_zero, List.set_cons_succ, List.getElem_toArray, List.getElem_cons_zero, List.getElem_cons_succ]
          refine wpAnyS_take (i := 9) (v := ?_) rfl (by kernel_rfl) (by kernel_rfl) (by kernel_rfl) (fun _ _ _ h => h) (by rfl) (gives_pure (by rfl) ?_) ?_
          rotate_left
          · intro b' d' u' W' hS'
            have hq := FtS.bel HGW.out H20.out hS'
            obtain ⟨s0, s1⟩ := hq.1.c2
            obtain ⟨x0, x1, x2⟩ := HROW.out W' hq.2
            obtain ⟨f0, f1, f2, f3, f4⟩ := HFRG.out W' hq.2
            have i1 := (HIB4.out.below hq.2 HGI.out.1).get 1 (v := .slice (some ⟨gF, 0, none⟩) j j) rfl
            have e0 : (y + (m1 + l1) != y + (m1 + l1)) = false := by simp
            have e1 : (max h 0 != max h 0) = false := by simp
            go_simp
            rfl
          try simp only [Act.put, List.setIfInBounds_toArray, List.set_cons_zero, List.set_cons_succ, List.getElem_toArray, List.getElem_cons_zero, List.getElem_cons_succ]
          refine wpAnyS_take (i := 10) (v := ?_) rfl (by kernel_rfl) (by kernel_rfl) (by kernel_rfl) (fun _ _ _ h => h) (by rfl) (gives_pure (by rfl) ?_) ?_
          rotate_left
          · intro b' d' u' W' hS'
            have hq := FtS.bel HGW.out H20.out hS'
            obtain ⟨s0, s1⟩ := hq.1.c2
            obtain ⟨x0, x1, x2⟩ := HROW.out W' hq.2
            obtain ⟨f0, f1, f2, f3, f4⟩ := HFRG.out W' hq.2
            have i1 := (HIB4.out.below hq.2 HGI.out.1).get 1 (v := .slice (some ⟨gF, 0, none⟩) j j) rfl
            have e0 : (y + (m1 + l1) != y + (m1 + l1)) = false := by simp
            have e1 : (max h 0 != max h 0) = false := by simp
            go_simp
            rfl
          try simp only [Act.put, List.setIfInBounds_toArray, List.set_cons_zero, List.set_cons_succ, List.getElem_toArray, List.getElem_cons_zero, List.getElem_cons_succ]
          refine wpAnyS_take (i := 11) (v := ?_) rfl (by kernel_rfl) (by kernel_rfl) (by kernel_rfl) (fun _ _ _ h => h) (by rfl) (gives_pure (by rfl) ?_) ?_
          rotate_left
          · intro b' d' u' W' hS'
            have hq := FtS.bel HGW.out H20.out hS'
            obtain ⟨s0, s1⟩ := hq.1.c2
            obtain ⟨x0, x1, x2⟩ := HROW.out W' hq.2
            obtain ⟨f0, f1, f2, f3, f4⟩ := HFRG.out W' hq.2
            have i1 := (HIB4.out.below hq.2 HGI.out.1).get 1 (v := .slice (some ⟨gF, 0, none⟩) j j) rfl
            have e0 : (y + (m1 + l1) != y + (m1 + l1)) = false := by simp
            have e1 : (max h 0 != max h 0) = false := by simp
            go_simp
            rfl
          try simp only [Act.put, List.setIfInBounds_toArray, List.set_cons_zero, List.set_cons_succ, List.getElem_toArray, List.getElem_cons_zero, List.getElem_cons_succ]
          refine wpAnyS_take (i := 12) (v := ?_) rfl (by kernel_rfl) (by kernel_rfl) (by kernel_rfl) (fun _ _ _ h => h) (by rfl) (gives_pure (by rfl) ?_) ?_
          rotate_left
          · intro b' d' u' W' hS'
            have hq := FtS.bel HGW.out H20.out hS'
            obtain ⟨s0, s1⟩ := hq.1.c2
            obtain ⟨x0, x1, x2⟩ := HROW.out W' hq.2
            obtain ⟨f0, f1, f2, f3, f4⟩ := HFRG.out W' hq.2
            have i1 := (HIB4.out.below hq.2 HGI.out.1).get 1 (v := .slice (some ⟨gF, 0, none⟩) j j) rfl
            have e0 : (y + (m1 + l1) != y + (m1 + l1)) = false := by simp
            have e1 : (max h 0 != max h 0) = false := by simp
            go_simp
            rfl
          try simp only [Act.put, List.setIfInBounds_toArray, List.set_cons_zero, List.set_cons_succ, List.getElem_toArray, List.getElem_cons_zero, List.getElem_cons_succ]
          refine wpAnyS_take (i := 13) (v := ?_) rfl (by kernel_rfl) (by kernel_rfl) (by kernel_rfl) (fun _ _ _ h => h) (by rfl) (gives_pure (by rfl) ?_) ?_
          rotate_left
          · intro b' d' u' W' hS'
            have hq := FtS.bel HGW.out H20.out hS'
            obtain ⟨s0, s1⟩ := hq.1.c2
            obtain ⟨x0, x1, x2⟩ := HROW.out W' hq.2
            obtain ⟨f0, f1, f2, f3, f4⟩ := HFRG.out W' hq.2
            have i1 := (HIB4.out.below hq.2 HGI.out.1).get 1 (v := .slice (some ⟨gF, 0, none⟩) j j) rfl
            have e0 : (y + (m1 + l1) != y + (m1 + l1)) = false := by simp
            have e1 : (max h 0 != max h 0) = false := by simp
            go_simp
            rfl
          try simp only [Act.put, List.setIfInBounds_toArray, List.set_cons_zero, List.set_cons_succ, List.getElem_toArray, List.getElem_cons_zero, List.getElem_cons_succ]
          refine wpAnyS_take (i := 14) (v := ?_) rfl (by kernel_rfl) (by kernel_rfl) (by kernel_rfl) (fun _ _ _ h => h) (by rfl) (gives_pure (by rfl) ?_) ?_
          rotate_left
          · intro b' d' u' W' hS'
            have hq := FtS.bel HGW.out H20.out hS'
            obtain ⟨s0, s1⟩ := hq.1.c2
            obtain ⟨x0, x1, x2⟩ := HROW.out W' hq.2
            obtain ⟨f0, f1, f2, f3, f4⟩ := HFRG.out W' hq.2
            have i1 := (HIB4.out.below hq.2 HGI.out.1).get 1 (v := .slice (some ⟨gF, 0, none⟩) j j) rfl
            have e0 : (y + (m1 + l1) != y + (m1 + l1)) = false := by simp
            have e1 : (max h 0 != max h 0) = false := by simp
            go_simp
            rfl
          try simp only [Act.put, List.setIfInBounds_toArray, List.set_cons_zero, List.set_cons_succ, List.getElem_toArray, List.getElem_cons_zero, List.getElem_cons_succ]
          refine wpAnyS_take (i := 15) (v := ?_) rfl (by kernel_rfl) (by kernel_rfl) (by kernel_rfl) (fun _ _ _ h => h) (by rfl) (gives_pure (by rfl) ?_) ?_
          rotate_left
          · intro b' d' u' W' hS'
            have hq := FtS.bel HGW.out H20.out hS'
            obtain ⟨s0, s1⟩ := hq.1.c2
            obtain ⟨x0, x1, x2⟩ := HROW.out W' hq.2
            obtain ⟨f0, f1, f2, f3, f4⟩ := HFRG.out W' hq.2
            have i1 := (HIB4.out.below hq.2 HGI.out.1).get 1 (v := .slice (some ⟨gF, 0, none⟩) j j) rfl
            have e0 : (y + (m1 + l1) != y + (m1 + l1)) = false := by simp
            have e1 : (max h 0 != max h 0) = false := by simp
            go_simp
            rfl
          try simp only [Act.put, List.setIfInBounds_toArray, List.set_cons_zero, List.set_cons_succ, List.getElem_toArray, List.getElem_cons_zero, List.getElem_cons_succ]
          refine wpAnyS_take (i := 16) (v := ?_) rfl (by kernel_rfl) (by kernel_rfl) (by kernel_rfl) (fun _ _ _ h => h) (by rfl) (gives_pure (by rfl) ?_) ?_
          rotate_left
          · intro b' d' u' W' hS'
            have hq := FtS.bel HGW.out H20.out hS'
            obtain ⟨s0, s1⟩ := hq.1.c2
            obtain ⟨x0, x1, x2⟩ := HROW.out W' hq.2
            obtain ⟨f0, f1, f2, f3, f4⟩ := HFRG.out W' hq.2
            have i1 := (HIB4.out.below hq.2 HGI.out.1).get 1 (v := .slice (some ⟨gF, 0, none⟩) j j) rfl
            have e0 : (y + (m1 + l1) != y + (m1 + l1)) = false := by simp
            have e1 : (max h 0 != max h 0) = false := by simp
            go_simp
            rfl
          try simp only [Act.put, List.setIfInBounds_toArray, List.set_cons_zero, List.set_cons_succ, List.getElem_toArray, List.getElem_cons_zero, List.getElem_cons_succ]
          refine wpAnyS_take (i := 17) (v := ?_) rfl (by kernel_rfl) (by kernel_rfl) (by kernel_rfl) (fun _ _ _ h => h) (by rfl) (gives_pure (by rfl) ?_) ?_
          rotate_left
          · intro b' d' u' W' hS'
            have hq := FtS.bel HGW.out H20.out hS'
            obtain ⟨s0, s1⟩ := hq.1.c2
            obtain ⟨x0, x1, x2⟩ := HROW.out W' hq.2
            obtain ⟨f0, f1, f2, f3, f4⟩ := HFRG.out W' hq.2
            have i1 := (HIB4.out.below hq.2 HGI.out.1).get 1 (v := .slice (some ⟨gF, 0, none⟩) j j) rfl
            have e0 : (y + (m1 + l1) != y + (m1 + l1)) = false := by simp
            have e1 : (max h 0 != max h 0) = false := by simp
            go_simp
            rfl
          try simp only [Act.put, List.setIfInBounds_toArray, List.set_cons_zero, List.set_cons_succ, List.getElem_toArray, List.getElem_cons_zero, List.getElem_cons_succ]
          refine wpAnyS_take (i := 18) (v := ?_) rfl (by kernel_rfl) (by kernel_rfl) (by kernel_rfl) (fun _ _ _ h => h) (by rfl) (gives_pure (by rfl) ?_) ?_
          rotate_left
          · intro b' d' u' W' hS'
            have hq := FtS.bel HGW.out H20.out hS'
            obtain ⟨s0, s1⟩ := hq.1.c2
            obtain ⟨x0, x1, x2⟩ := HROW.out W' hq.2
            obtain ⟨f0, f1, f2, f3, f4⟩ := HFRG.out W' hq.2
            have i1 := (HIB4.out.below hq.2 HGI.out.1).get 1 (v := .slice (some ⟨gF, 0, none⟩) j j) rfl
            have e0 : (y + (m1 + l1) != y + (m1 + l1)) = false := by simp
            have e1 : (max h 0 != max h 0) = false := by simp
            go_simp
            rfl
          try simp only [Act.put, List.setIfInBounds_toArray, List.set_cons_zero, List.set_cons_succ, List.getElem_toArray, List.getElem_cons_zero, List.getElem_cons_succ]
          refine wpAnyS_take (i := 19) (v := ?_) rfl (by kernel_rfl) (by kernel_rfl) (by kernel_rfl) (fun _ _ _ h => h) (by rfl) (gives_pure (by rfl) ?_) ?_
          rotate_left
          · intro b' d' u' W' hS'
            have hq := FtS.bel HGW.out H20.out hS'
            obtain ⟨s0, s1⟩ := hq.1.c2
            obtain ⟨x0, x1, x2⟩ := HROW.out W' hq.2
            obtain ⟨f0, f1, f2, f3, f4⟩ := HFRG.out W' hq.2
            have i1 := (HIB4.out.below hq.2 HGI.out.1).get 1 (v := .slice (some ⟨gF, 0, none⟩) j j) rfl
            have e0 : (y + (m1 + l1) != y + (m1 + l1)) = false := by simp
            have e1 : (max h 0 != max h 0) = false := by simp
            go_simp
            rfl
          try simp only [Act.put, List.setIfInBounds_toArray, List.set_cons_zero, List.set_cons_succ, List.getElem_toArray, List.getElem_cons_zero, List.getElem_cons_succ]
          refine wpAnyS_take (i := 20) (v := ?_) rfl (by kernel_rfl) (by kernel_rfl) (by kernel_rfl) (fun _ _ _ h => h) (by rfl) (gives_pure (by rfl) ?_) ?_
          rotate_left
          · intro b' d' u' W' hS'
            have hq := FtS.bel HGW.out H20.out hS'
            obtain ⟨s0, s1⟩ := hq.1.c2
            obtain ⟨x0, x1, x2⟩ := HROW.out W' hq.2
            obtain ⟨f0, f1, f2, f3, f4⟩ := HFRG.out W' hq.2
            have i1 := (HIB4.out.below hq.2 HGI.out.1).get 1 (v := .slice (some ⟨gF, 0, none⟩) j j) rfl
            have e0 : (y + (m1 + l1) != y + (m1 + l1)) = false := by simp
            have e1 : (max h 0 != max h 0) = false := by simp
            go_simp
            rfl
          try simp only [Act.put, List.setIfInBounds_toArray, List.set_cons_zero, List.set_cons_succ, List.getElem_toArray, List.getElem_cons_zero, List.getElem_cons_succ]
          refine wpAnyS_take (i := 21) (v := ?_) rfl (by kernel_rfl) (by kernel_rfl) (by kernel_rfl) (fun _ _ _ h => h) (by rfl) (gives_pure (by rfl) ?_) ?_
          rotate_left
          · intro b' d' u' W' hS'
            have hq := FtS.bel HGW.out H20.out hS'
            obtain ⟨s0, s1⟩ := hq.1.c2
            obtain ⟨x0, x1, x2⟩ := HROW.out W' hq.2
            obtain ⟨f0, f1, f2, f3, f4⟩ := HFRG.out W' hq.2
            have i1 := (HIB4.out.below hq.2 HGI.out.1).get 1 (v := .slice (some ⟨gF, 0, none⟩) j j) rfl
            have e0 : (y + (m1 + l1) != y + (m1 + l1)) = false := by simp
            have e1 : (max h 0 != max h 0) = false := by simp
            go_simp
            rfl
          try simp only [Act.put, List.setIfInBounds_toArray, List.set_cons_zero, List.set_cons_succ, List.getElem_toArray, List.getElem_cons_zero, List.getElem_cons_succ]
          refine wpAnyS_take (i := 22) (v := ?_) rfl (by kernel_rfl) (by kernel_rfl) (by kernel_rfl) (fun _ _ _ h => h) (by rfl) (gives_pure (by rfl) ?_) ?_
          rotate_left
          · intro b' d' u' W' hS'
            have hq := FtS.bel HGW.out H20.out hS'
            obtain ⟨s0, s1⟩ := hq.1.c2
            obtain ⟨x0, x1, x2⟩ := HROW.out W' hq.2
            obtain ⟨f0, f1, f2, f3, f4⟩ := HFRG.out W' hq.2
            have i1 := (HIB4.out.below hq.2 HGI.out.1).get 1 (v := .slice (some ⟨gF, 0, none⟩) j j) rfl
            have e0 : (y + (m1 + l1) != y + (m1 + l1)) = false := by simp
            have e1 : (max h 0 != max h 0) = false := by simp
            go_simp
            rfl
          try simp only [Act.put, List.setIfInBounds_toArray, List.set_cons_zero, List.set_cons_succ, List.getElem_toArray, List.getElem_cons_zero, List.getElem_cons_succ]
          refine wpAnyS_take (i := 23) (v := ?_) rfl (by kernel_rfl) (by kernel_rfl) (by kernel_rfl) (fun _ _ _ h => h) (by rfl) (gives_pure (by rfl) ?_) ?_
          rotate_left
          · intro b' d' u' W' hS'
            have hq := FtS.bel HGW.out H20.out hS'
            obtain ⟨s0, s1⟩ := hq.1.c2
            obtain ⟨x0, x1, x2⟩ := HROW.out W' hq.2
            obtain ⟨f0, f1, f2, f3, f4⟩ := HFRG.out W' hq.2
            have i1 := (HIB4.out.below hq.2 HGI.out.1).get 1 (v := .slice (some ⟨gF, 0, none⟩) j j) rfl
            have e0 : (y + (m1 + l1) != y + (m1 + l1)) = false := by simp
            have e1 : (max h 0 != max h 0) = false := by simp
            go_simp
            rfl
          try simp only [Act.put, List.setIfInBounds_toArray, List.set_cons_zero, List.set_cons_succ, List.getElem_toArray, List.getElem_cons_zero, List.getElem_cons_succ]
          refine wpAnyS_take (i := 24) (v := ?_) rfl (by kernel_rfl) (by kernel_rfl) (by kernel_rfl) (fun _ _ _ h => h) (by rfl) (gives_pure (by rfl) ?_) ?_
          rotate_left
          · intro b' d' u' W' hS'
            have hq := FtS.bel HGW.out H20.out hS'
            obtain ⟨s0, s1⟩ := hq.1.c2
            obtain ⟨x0, x1, x2⟩ := HROW.out W' hq.2
            obtain ⟨f0, f1, f2, f3, f4⟩ := HFRG.out W' hq.2
            have i1 := (HIB4.out.below hq.2 HGI.out.1).get 1 (v := .slice (some ⟨gF, 0, none⟩) j j) rfl
            have e0 : (y + (m1 + l1) != y + (m1 + l1)) = false := by simp
            have e1 : (max h 0 != max h 0) = false := by simp
            go_simp
            rfl
          try simp only [Act.put, List.setIfInBounds_toArray, List.set_cons_zero, List.set_cons_succ, List.getElem_toArray, List.getElem_cons_zero, List.getElem_cons_succ]
          refine wpAnyS_take (i := 25) (v := ?_) rfl (by kernel_rfl) (by kernel_rfl) (by kernel_rfl) (fun _ _ _ h => h) (by rfl) (gives_pure (by rfl) ?_) ?_
          rotate_left
          · intro b' d' u' W' hS'
            have hq := FtS.bel HGW.out H20.out hS'
            obtain ⟨s0, s1⟩ := hq.1.c2
            obtain ⟨x0, x1, x2⟩ := HROW.out W' hq.2
            obtain ⟨f0, f1, f2, f3, f4⟩ := HFRG.out W' hq.2
            have i1 := (HIB4.out.below hq.2 HGI.out.1).get 1 (v := .slice (some ⟨gF, 0, none⟩) j j) rfl
            have e0 : (y + (m1 + l1) != y + (m1 + l1)) = false := by simp
            have e1 : (max h 0 != max h 0) = false := by simp
            go_simp
            rfl
          try simp only [Act.put, List.setIfInBounds_toArray, List.set_cons_zero, List.set_cons_succ, List.getElem_toArray, List.getElem_cons_zero, List.getElem_cons_succ]
          refine wpAnyS_take (i := 26) (v := ?_) rfl (by kernel_rfl) (by kernel_rfl) (by kernel_rfl) (fun _ _ _ h => h) (by rfl) (gives_pure (by rfl) ?_) ?_
          rotate_left
          · intro b' d' u' W' hS'
            have hq := FtS.bel HGW.out H20.out hS'
            obtain ⟨s0, s1⟩ := hq.1.c2
            obtain ⟨x0, x1, x2⟩ := HROW.out W' hq.2
            obtain ⟨f0, f1, f2, f3, f4⟩ := HFRG.out W' hq.2
            have i1 := (HIB4.out.below hq.2 HGI.out.1).get 1 (v := .slice (some ⟨gF, 0, none⟩) j j) rfl
            have e0 : (y + (m1 + l1) != y + (m1 + l1)) = false := by simp
            have e1 : (max h 0 != max h 0) = false := by simp
            go_simp
            rfl
          try simp only [Act.put, List.setIfInBounds_toArray, List.set_cons_zero, List.set_cons_succ, List.getElem_toArray, List.getElem_cons_zero, List.getElem_cons_succ]
          refine wpAnyS_take (i := 27) (v := ?_) rfl (by kernel_rfl) (by kernel_rfl) (by kernel_rfl) (fun _ _ _ h => h) (by rfl) (gives_pure (by rfl) ?_) ?_
          rotate_left
          · intro b' d' u' W' hS'
            have hq := FtS.bel HGW.out H20.out hS'
            obtain ⟨s0, s1⟩ := hq.1.c2
            obtain ⟨x0, x1, x2⟩ := HROW.out W' hq.2
            obtain ⟨f0, f1, f2, f3, f4⟩ := HFRG.out W' hq.2
            have i1 := (HIB4.out.below hq.2 HGI.out.1).get 1 (v := .slice (some ⟨gF, 0, none⟩) j j) rfl
            have e0 : (y + (m1 + l1) != y + (m1 + l1)) = false := by simp
            have e1 : (max h 0 != max h 0) = false := by simp
            go_simp
            rfl
          try simp only [Act.put, List.setIfInBounds_toArray, List.set_cons_zero, List.set_cons_succ, List.getElem_toArray, List.getElem_cons_zero, List.getElem_cons_succ]
          refine wpAnyS_take (i := 28) (v := ?_) rfl (by kernel_rfl) (by kernel_rfl) (by kernel_rfl) (fun _ _ _ h => h) (by rfl) (gives_pure (by rfl) ?_) ?_
          rotate_left
          · intro b' d' u' W' hS'
            have hq := FtS.bel HGW.out H20.out hS'
            obtain ⟨s0, s1⟩ := hq.1.c2
            obtain ⟨x0, x1, x2⟩ := HROW.out W' hq.2
            obtain ⟨f0, f1, f2, f3, f4⟩ := HFRG.out W' hq.2
            have i1 := (HIB4.out.below hq.2 HGI.out.1).get 1 (v := .slice (some ⟨gF, 0, none⟩) j j) rfl
            have e0 : (y + (m1 + l1) != y + (m1 + l1)) = false := by simp
            have e1 : (max h 0 != max h 0) = false := by simp
            go_simp
            rfl
          try simp only [Act.put, List.setIfInBounds_toArray, List.set_cons_zero, List.set_cons_succ, List.getElem_toArray, List.getElem_cons_zero, List.getElem_cons_succ]
          refine wpAnyS_take (i := 29) (v := ?_) rfl (by kernel_rfl) (by kernel_rfl) (by kernel_rfl) (fun _ _ _ h => h) (by rfl) (gives_pure (by rfl) ?_) ?_
          rotate_left
          · intro b' d' u' W' hS'
            have hq := FtS.bel HGW.out H20.out hS'
            obtain ⟨s0, s1⟩ := hq.1.c2
            obtain ⟨x0, x1, x2⟩ := HROW.out W' hq.2
            obtain ⟨f0, f1, f2, f3, f4⟩ := HFRG.out W' hq.2
            have i1 := (HIB4.out.below hq.2 HGI.out.1).get 1 (v := .slice (some ⟨gF, 0, none⟩) j j) rfl
            have e0 : (y + (m1 + l1) != y + (m1 + l1)) = false := by simp
            have e1 : (max h 0 != max h 0) = false := by simp
            go_simp
            rfl
          try simp only [Act.put, List.setIfInBounds_toArray, List.set_cons_zero, List.set_cons_succ, List.getElem_toArray, List.getElem_cons_zero, List.getElem_cons_succ]
          refine wpAnyS_take (i := 30) (v := ?_) rfl (by kernel_rfl) (by kernel_rfl) (by kernel_rfl) (fun _ _ _ h => h) (by rfl) (gives_pure (by rfl) ?_) ?_
          rotate_left
          · intro b' d' u' W' hS'
            have hq := FtS.bel HGW.out H20.out hS'
            obtain ⟨s0, s1⟩ := hq.1.c2
            obtain ⟨x0, x1, x2⟩ := HROW.out W' hq.2
            obtain ⟨f0, f1, f2, f3, f4⟩ := HFRG.out W' hq.2
            have i1 := (HIB4.out.below hq.2 HGI.out.1).get 1 (v := .slice (some ⟨gF, 0, none⟩) j j) rfl
            have e0 : (y + (m1 + l1) != y + (m1 + l1)) = false := by simp
            have e1 : (max h 0 != max h 0) = false := by simp
            go_simp
            rfl
          try simp only [Act.put, List.setIfInBounds_toArray, List.set_cons_zero, List.set_cons_succ, List.getElem_toArray, List.getElem_cons_zero, List.getElem_cons_succ]
          refine wpAnyS_take (i := 31) (v := ?_) rfl (by kernel_rfl) (by kernel_rfl) (by kernel_rfl) (fun _ _ _ h => h) (by rfl) (gives_pure (by rfl) ?_) ?_
          rotate_left
          · intro b' d' u' W' hS'
            have hq := FtS.bel HGW.out H20.out hS'
            obtain ⟨s0, s1⟩ := hq.1.c2
            obtain ⟨x0, x1, x2⟩ := HROW.out W' hq.2
            obtain ⟨f0, f1, f2, f3, f4⟩ := HFRG.out W' hq.2
            have i1 := (HIB4.out.below hq.2 HGI.out.1).get 1 (v := .slice (some ⟨gF, 0, none⟩) j j) rfl
            have e0 : (y + (m1 + l1) != y + (m1 + l1)) = false := by simp
            have e1 : (max h 0 != max h 0) = false := by simp
            go_simp
            rfl
          try simp only [Act.put, List.setIfInBounds_toArray, List.set_cons_zero, List.set_cons_succ, List.getElem_toArray, List.getElem_cons_zero, List.getElem_cons_succ]
          refine wpAnyS_take (i := 32) (v := ?_) rfl (by kernel_rfl) (by kernel_rfl) (by kernel_rfl) (fun _ _ _ h => h) (by rfl) (gives_pure (by rfl) ?_) ?_
          rotate_left
          · intro b' d' u' W' hS'
            have hq := FtS.bel HGW.out H20.out hS'
            obtain ⟨s0, s1⟩ := hq.1.c2
            obtain ⟨x0, x1, x2⟩ := HROW.out W' hq.2
            obtain ⟨f0, f1, f2, f3, f4⟩ := HFRG.out W' hq.2
            have i1 := (HIB4.out.below hq.2 HGI.out.1).get 1 (v := .slice (some ⟨gF, 0, none⟩) j j) rfl
            have e0 : (y + (m1 + l1) != y + (m1 + l1)) = false := by simp
            have e1 : (max h 0 != max h 0) = false := by simp
            go_simp
            rfl
          try simp only [Act.put, List.setIfInBounds_toArray, List.set_cons_zero, List.set_cons_succ, List.getElem_toArray, List.getElem_cons_zero, List.getElem_cons_succ]
          refine wpAnyS_take (i := 33) (v := ?_) rfl (by kernel_rfl) (by kernel_rfl) (by kernel_rfl) (fun _ _ _ h => h) (by rfl) (gives_pure (by rfl) ?_) ?_
          rotate_left
          · intro b' d' u' W' hS'
            have hq := FtS.bel HGW.out H20.out hS'
            obtain ⟨s0, s1⟩ := hq.1.c2
            obtain ⟨x0, x1, x2⟩ := HROW.out W' hq.2
            obtain ⟨f0, f1, f2, f3, f4⟩ := HFRG.out W' hq.2
            have i1 := (HIB4.out.below hq.2 HGI.out.1).get 1 (v := .slice (some ⟨gF, 0, none⟩) j j) rfl
            have e0 : (y + (m1 + l1) != y + (m1 + l1)) = false := by simp
            have e1 : (max h 0 != max h 0) = false := by simp
            go_simp
            rfl
          try simp only [Act.put, List.setIfInBounds_toArray, List.set_cons_zero, List.set_cons_succ, List.getElem_toArray, List.getElem_cons_zero, List.getElem_cons_succ]
          refine wpAnyS_take (i := 34) (v := ?_) rfl (by kernel_rfl) (by kernel_rfl) (by kernel_rfl) (fun _ _ _ h => h) (by rfl) (gives_pure (by rfl) ?_) ?_
          rotate_left
          · intro b' d' u' W' hS'
            have hq := FtS.bel HGW.out H20.out hS'
            obtain ⟨s0, s1⟩ := hq.1.c2
            obtain ⟨x0, x1, x2⟩ := HROW.out W' hq.2
            obtain ⟨f0, f1, f2, f3, f4⟩ := HFRG.out W' hq.2
            have i1 := (HIB4.out.below hq.2 HGI.out.1).get 1 (v := .slice (some ⟨gF, 0, none⟩) j j) rfl
            have e0 : (y + (m1 + l1) != y + (m1 + l1)) = false := by simp
            have e1 : (max h 0 != max h 0) = false := by simp
            go_simp
            rfl
          try simp only [Act.put, List.setIfInBounds_toArray, List.set_cons_zero, List.set_cons_succ, List.getElem_toArray, List.getElem_cons_zero, List.getElem_cons_succ]
          refine wpAnyS_take (i := 35) (v := ?_) rfl (by kernel_rfl) (by kernel_rfl) (by kernel_rfl) (fun _ _ _ h => h) (by rfl) (gives_pure (by rfl) ?_) ?_
          rotate_left
          · intro b' d' u' W' hS'
            have hq := FtS.bel HGW.out H20.out hS'
            obtain ⟨s0, s1⟩ := hq.1.c2
            obtain ⟨x0, x1, x2⟩ := HROW.out W' hq.2
            obtain ⟨f0, f1, f2, f3, f4⟩ := HFRG.out W' hq.2
            have i1 := (HIB4.out.below hq.2 HGI.out.1).get 1 (v := .slice (some ⟨gF, 0, none⟩) j j) rfl
            have e0 : (y + (m1 + l1) != y + (m1 + l1)) = false := by simp
            have e1 : (max h 0 != max h 0) = false := by simp
            go_simp
            rfl
          try simp only [Act.put, List.setIfInBounds_toArray, List.set_cons_zero, List.set_cons_succ, List.getElem_toArray, List.getElem_cons_zero, List.getElem_cons_succ]
          refine wpAnyS_take (i := 36) (v := ?_) rfl (by kernel_rfl) (by kernel_rfl) (by kernel_rfl) (fun _ _ _ h => h) (by rfl) (gives_pure (by rfl) ?_) ?_
          rotate_left
          · intro b' d' u' W' hS'
            have hq := FtS.bel HGW.out H20.out hS'
            obtain ⟨s0, s1⟩ := hq.1.c2
            obtain ⟨x0, x1, x2⟩ := HROW.out W' hq.2
            obtain ⟨f0, f1, f2, f3, f4⟩ := HFRG.out W' hq.2
            have i1 := (HIB4.out.below hq.2 HGI.out.1).get 1 (v := .slice (some ⟨gF, 0, none⟩) j j) rfl
            have e0 : (y + (m1 + l1) != y + (m1 + l1)) = false := by simp
            have e1 : (max h 0 != max h 0) = false := by simp
            go_simp
            rfl
          try simp only [Act.put, List.setIfInBounds_toArray, List.set_cons_zero, List.set_cons_succ, List.getElem_toArray, List.getElem_cons_zero, List.getElem_cons_succ]
          refine wpAnyS_take (i := 37) (v := ?_) rfl (by kernel_rfl) (by kernel_rfl) (by kernel_rfl) (fun _ _ _ h => h) (by rfl) (gives_pure (by rfl) ?_) ?_
          rotate_left
          · intro b' d' u' W' hS'
            have hq := FtS.bel HGW.out H20.out hS'
            obtain ⟨s0, s1⟩ := hq.1.c2
            obtain ⟨x0, x1, x2⟩ := HROW.out W' hq.2
            obtain ⟨f0, f1, f2, f3, f4⟩ := HFRG.out W' hq.2
            have i1 := (HIB4.out.below hq.2 HGI.out.1).get 1 (v := .slice (some ⟨gF, 0, none⟩) j j) rfl
            have e0 : (y + (m1 + l1) != y + (m1 + l1)) = false := by simp
            have e1 : (max h 0 != max h 0) = false := by simp
            go_simp
            rfl
          try simp only [Act.put, List.setIfInBounds_toArray, List.set_cons_zero, List.set_cons_succ, List.getElem_toArray, List.getElem_cons_zero, List.getElem_cons_succ]
          refine wpAnyS_take (i := 38) (v := ?_) rfl (by kernel_rfl) (by kernel_rfl) (by kernel_rfl) (fun _ _ _ h => h) (by rfl) (gives_pure (by rfl) ?_) ?_
          rotate_left
          · intro b' d' u' W' hS'
            have hq := FtS.bel HGW.out H20.out hS'
            obtain ⟨s0, s1⟩ := hq.1.c2
            obtain ⟨x0, x1, x2⟩ := HROW.out W' hq.2
            obtain ⟨f0, f1, f2, f3, f4⟩ := HFRG.out W' hq.2
            have i1 := (HIB4.out.below hq.2 HGI.out.1).get 1 (v := .slice (some ⟨gF, 0, none⟩) j j) rfl
            have e0 : (y + (m1 + l1) != y + (m1 + l1)) = false := by simp
            have e1 : (max h 0 != max h 0) = false := by simp
            go_simp
            rfl
          try simp only [Act.put, List.setIfInBounds_toArray, List.set_cons_zero, List.set_cons_succ, List.getElem_toArray, List.getElem_cons_zero, List.getElem_cons_succ]
          refine wpAnyS_take (i := 39) (v := ?_) rfl (by kernel_rfl) (by kernel_rfl) (by kernel_rfl) (fun _ _ _ h => h) (by rfl) (gives_pure (by rfl) ?_) ?_
          rotate_left
          · intro b' d' u' W' hS'
            have hq := FtS.bel HGW.out H20.out hS'
            obtain ⟨s0, s1⟩ := hq.1.c2
            obtain ⟨x0, x1, x2⟩ := HROW.out W' hq.2
            obtain ⟨f0, f1, f2, f3, f4⟩ := HFRG.out W' hq.2
            have i1 := (HIB4.out.below hq.2 HGI.out.1).get 1 (v := .slice (some ⟨gF, 0, none⟩) j j) rfl
            have e0 : (y + (m1 + l1) != y + (m1 + l1)) = false := by simp
            have e1 : (max h 0 != max h 0) = false := by simp
            go_simp
            rfl
          try simp only [Act.put, List.setIfInBounds_toArray, List.set_cons_zero, List.set_cons_succ, List.getElem_toArray, List.getElem_cons_zero, List.getElem_cons_succ]
          refine wpAnyS_take (i := 40) (v := ?_) rfl (by kernel_rfl) (by kernel_rfl) (by kernel_rfl) (fun _ _ _ h => h) (by rfl) (gives_pure (by rfl) ?_) ?_
          rotate_left
          · intro b' d' u' W' hS'
            have hq := FtS.bel HGW.out H20.out hS'
            obtain ⟨s0, s1⟩ := hq.1.c2
            obtain ⟨x0, x1, x2⟩ := HROW.out W' hq.2
            obtain ⟨f0, f1, f2, f3, f4⟩ := HFRG.out W' hq.2
            have i1 := (HIB4.out.below hq.2 HGI.out.1).get 1 (v := .slice (some ⟨gF, 0, none⟩) j j) rfl
            have e0 : (y + (m1 + l1) != y + (m1 + l1)) = false := by simp
            have e1 : (max h 0 != max h 0) = false := by simp
            go_simp
            rfl
          try simp only [Act.put, List.setIfInBounds_toArray, List.set_cons_zero, List.set_cons_succ, List.getElem_toArray, List.getElem_cons_zero, List.getElem_cons_succ]
          refine wpAnyS_take (i := 41) (v := ?_) rfl (by kernel_rfl) (by kernel_rfl) (by kernel_rfl) (fun _ _ _ h => h) (by rfl) (gives_pure (by rfl) ?_) ?_
          rotate_left
          · intro b' d' u' W' hS'
            have hq := FtS.bel HGW.out H20.out hS'
            obtain ⟨s0, s1⟩ := hq.1.c2
            obtain ⟨x0, x1, x2⟩ := HROW.out W' hq.2
            obtain ⟨f0, f1, f2, f3, f4⟩ := HFRG.out W' hq.2
            have i1 := (HIB4.out.below hq.2 HGI.out.1).get 1 (v := .slice (some ⟨gF, 0, none⟩) j j) rfl
            have e0 : (y + (m1 + l1) != y + (m1 + l1)) = false := by simp
            have e1 : (max h 0 != max h 0) = false := by simp
            go_simp
            rfl
          try simp only [Act.put, List.setIfInBounds_toArray, List.set_cons_zero, List.set_cons_succ, List.getElem_toArray, List.getElem_cons_zero, List.getElem_cons_succ]
          refine wpAnyS_take (i := 42) (v := ?_) rfl (by kernel_rfl) (by kernel_rfl) (by kernel_rfl) (fun _ _ _ h => h) (by rfl) (gives_pure (by rfl) ?_) ?_
          rotate_left
          · intro b' d' u' W' hS'
            have hq := FtS.bel HGW.out H20.out hS'
            obtain ⟨s0, s1⟩ := hq.1.c2
            obtain ⟨x0, x1, x2⟩ := HROW.out W' hq.2
            obtain ⟨f0, f1, f2, f3, f4⟩ := HFRG.out W' hq.2
            have i1 := (HIB4.out.below hq.2 HGI.out.1).get 1 (v := .slice (some ⟨gF, 0, none⟩) j j) rfl
            have e0 : (y + (m1 + l1) != y + (m1 + l1)) = false := by simp
            have e1 : (max h 0 != max h 0) = false := by simp
            go_simp
            rfl
          try simp only [Act.put, List.setIfInBounds_toArray, List.set_cons_zero, List.set_cons_succ, List.getElem_toArray, List.getElem_cons_zero, List.getElem_cons_succ]
          refine wpAnyS_take (i := 43) (v := ?_) rfl (by kernel_rfl) (by kernel_rfl) (by kernel_rfl) (fun _ _ _ h => h) (by rfl) (gives_pure (by rfl) ?_) ?_
          rotate_left
          · intro b' d' u' W' hS'
            have hq := FtS.bel HGW.out H20.out hS'
            obtain ⟨s0, s1⟩ := hq.1.c2
            obtain ⟨x0, x1, x2⟩ := HROW.out W' hq.2
            obtain ⟨f0, f1, f2, f3, f4⟩ := HFRG.out W' hq.2
            have i1 := (HIB4.out.below hq.2 HGI.out.1).get 1 (v := .slice (some ⟨gF, 0, none⟩) j j) rfl
            have e0 : (y + (m1 + l1) != y + (m1 + l1)) = false := by simp
            have e1 : (max h 0 != max h 0) = false := by simp
            go_simp
            rfl
          try simp only [Act.put, List.setIfInBounds_toArray, List.set_cons_zero, List.set_cons_succ, List.getElem_toArray, List.getElem_cons_zero, List.getElem_cons_succ]
          refine wpAnyS_done (b := true) (d := true) (by kernel_rfl) (by kernel_rfl) (by kernel_rfl) rfl (fun w21 h21 => ?_) _
          have H21 := Lib.hid (FtS.bel HGW.out H20.out h21)
          clear h21
          obtain ⟨x0, x1, x2⟩ := HROW.out w21 H21.out.2
          cases dh : decide (0 < h)
          · have hh0 : ¬ 0 < h := of_decide_eq_false dh
            go_upto_region 26 with (fail)
            clear x0 x1 x2
            obtain ⟨s2, hs2⟩ : ∃ s2, s2 = joinF ⟨m1, l1⟩ b := ⟨_, rfl⟩
            have HS2 := Lib.hid hs2
            rw [← hs2] at HJN2
            clear hs2
            obtain ⟨m2, l2⟩ := s2
            have E26 : Blk w21.drew gS 55 #[.int .i64 m1, .int .i64 l1] ∧ Below gS w4 w21.drew := ⟨H21.out.1.drew, H21.out.2.trans (Below.refl _ _).drew⟩
            refine wp_region_S (fun b _ _ W => Blk W gS 55 (if b then #[.int .i64 m2, .int .i64 l2] else #[.int .i64 m1, .int .i64 l1]) ∧ Below gS w4 W) 7 1000 100000 false true (by kernel_rfl) (by kernel_rfl) (by kernel_rfl) (E26) ?_
            refine wpAnyS_take (i := 0) (v := ?_) rfl (by kernel_rfl) (by kernel_rfl) (by kernel_rfl) (fun _ _ _ h => h) (by rfl) (gives_pureF (by rfl) (by kernel_rfl) ?_) ?_
            rotate_left
            · intro d' u' W' hS'
              have hh : Blk W' gS 55 #[.int .i64 m1, .int .i64 l1] ∧ Below gS w4 W' := hS'
              obtain ⟨x0, x1, x2⟩ := HROW.out W' hh.2
              obtain ⟨s0, s1⟩ := hh.1.c2
              go_simp
              rfl
            try simp only [Act.put, List.setIfInBounds_toArray, List.set_cons_zero, List.set_cons_succ, List.getElem_toArray, List.getElem_cons_zero, List.getElem_cons_succ]
            refine wpAnyS_take (i := 1) (v := ?_) rfl (by kernel_rfl) (by kernel_rfl) (by kernel_rfl) (fun _ _ _ h => h) (by rfl) (gives_pureF (by rfl) (by kernel_rfl) ?_) ?_
            rotate_left
            · intro d' u' W' hS'
              have hh : Blk W' gS 55 #[.int .i64 m1, .int .i64 l1] ∧ Below gS w4 W' := hS'
              obtain ⟨x0, x1, x2⟩ := HROW.out W' hh.2
              obtain ⟨s0, s1⟩ := hh.1.c2
              go_simp
              rfl
            try simp only [Act.put, List.setIfInBounds_toArray, List.set_cons_zero, List.set_cons_succ, List.getElem_toArray, List.getElem_cons_zero, List.getElem_cons_succ]
            refine wpAnyS_take (i := 2) (v := ?_) rfl (by kernel_rfl) (by kernel_rfl) (by kernel_rfl) (fun _ _ _ h => h) (by rfl) (gives_pureF (by rfl) (by kernel_rfl) ?_) ?_
            rotate_left
            · intro d' u' W' hS'
              have hh : Blk W' gS 55 #[.int .i64 m1, .int .i64 l1] ∧ Below gS w4 W' := hS'
              obtain ⟨x0, x1, x2⟩ := HROW.out W' hh.2
              obtain ⟨s0, s1⟩ := hh.1.c2
              go_simp
              rfl
            try simp only [Act.put, List.setIfInBounds_toArray, List.set_cons_zero, List.set_cons_succ, List.getElem_toArray, List.getElem_cons_zero, List.getElem_cons_succ]
            refine wpAnyS_take (i := 3) (v := ?_) rfl (by kernel_rfl) (by kernel_rfl) (by kernel_rfl) (fun _ _ _ h => h) (by rfl) (gives_pureF (by rfl) (by kernel_rfl) ?_) ?_
            rotate_left
            · intro d' u' W' hS'
              have hh : Blk W' gS 55 #[.int .i64 m1, .int .i64 l1] ∧ Below gS w4 W' := hS'
              obtain ⟨x0, x1, x2⟩ := HROW.out W' hh.2
              obtain ⟨s0, s1⟩ := hh.1.c2
              go_simp
              rfl
            try simp only [Act.put, List.setIfInBounds_toArray, List.set_cons_zero, List.set_cons_succ, List.getElem_toArray, List.getElem_cons_zero, List.getElem_cons_succ]
            refine wpAnyS_take (i := 4) (v := ?_) rfl (by kernel_rfl) (by kernel_rfl) (by kernel_rfl) (fun _ _ _ h => h) (by rfl) (gives_pureF (by rfl) (by kernel_rfl) ?_) ?_
            rotate_left
            · intro d' u' W' hS'
              have hh : Blk W' gS 55 #[.int .i64 m1, .int .i64 l1] ∧ Below gS w4 W' := hS'
              obtain ⟨x0, x1, x2⟩ := HROW.out W' hh.2
              obtain ⟨s0, s1⟩ := hh.1.c2
              go_simp
              rfl
            try simp only [Act.put, List.setIfInBounds_toArray, List.set_cons_zero, List.set_cons_succ, List.getElem_toArray, List.getElem_cons_zero, List.getElem_cons_succ]
            refine wpAnyS_take (i := 5) (v := ?_) rfl (by kernel_rfl) (by kernel_rfl) (by kernel_rfl) (fun _ _ _ h => h) (by rfl) (gives_pureF (by rfl) (by kernel_rfl) ?_) ?_
            rotate_left
            · intro d' u' W' hS'
              have hh : Blk W' gS 55 #[.int .i64 m1, .int .i64 l1] ∧ Below gS w4 W' := hS'
              obtain ⟨x0, x1, x2⟩ := HROW.out W' hh.2
              obtain ⟨s0, s1⟩ := hh.1.c2
              go_simp
              rfl
            try simp only [Act.put, List.setIfInBounds_toArray, List.set_cons_zero, List.set_cons_succ, List.getElem_toArray, List.getElem_cons_zero, List.getElem_cons_succ]
            refine wpAnyS_take (i := 6) (v := .agg #[.int .i64 m2, .int .i64 l2]) rfl (by kernel_rfl) (by kernel_rfl) (by kernel_rfl) (fun _ _ _ h => h) (by rfl) (gives_callF (by rfl) (by kernel_rfl) _ _ ?_ (fun d' u' W' hS' => (HJN2.out W').mono (fun _ _ h => ⟨h.1, FtS.bel HGW.out (show Blk W' gS 55 #[.int .i64 m1, .int .i64 l1] ∧ Below gS w4 W' from hS') h.2⟩))) ?_
            · intro W'
              first | rfl | kernel_rfl
            try simp only [Act.put, List.setIfInBounds_toArray, List.set_cons_zero, List.set_cons_succ, List.getElem_toArray, List.getElem_cons_zero, List.getElem_cons_succ]
            refine wpAnyS_store (i := 7) (d := true) (fun W' => (W'.setCell ⟨gS, 0, none⟩ (.int .i64 m2)).setCell ⟨gS, 1, none⟩ (.int .i64 l2)) rfl (by kernel_rfl) (by rfl) (by rfl) (by kernel_rfl) rfl ?_ (fun W' hS' => FtS.set (show Blk W' gS 55 #[.int .i64 m1, .int .i64 l1] ∧ Below gS w4 W' from hS') m2 l2) ?_
            · intro W' hS'
              have hh : Blk W' gS 55 #[.int .i64 m1, .int .i64 l1] ∧ Below gS w4 W' := hS'
              obtain ⟨s0, s1⟩ := hh.1.c2
              have fs := hh.1.frozen
              go_simp
              try rfl
            try simp only [Act.put, List.setIfInBounds_toArray, List.set_cons_zero, List.set_cons_succ, List.getElem_toArray, List.getElem_cons_zero, List.getElem_cons_succ]
            refine wpAnyS_done (b := true) (d := true) (by kernel_rfl) (by kernel_rfl) (by kernel_rfl) rfl (fun w26 h26 => ?_) _
            have H26 : Hid (Blk w26 gS 55 #[.int .i64 m2, .int .i64 l2] ∧ Below gS w4 w26) := Lib.hid h26
            clear h26
            go_wp2_with fail
            go_roundw
            case rel =>
              refine ⟨k + 1, y, ⟨m2, l2⟩, by omega, rfl, by go_num, Lib.hid ?_, H26⟩
              rw [HSU2.out, if_neg hh0, HS2.out]
            case measure => simp [intOf]; omega
          · have hh0 : 0 < h := of_decide_eq_true dh
            go_upto_region 24 with (fail)
            clear x0 x1 x2
            refine wp_region_S (fun _ _ _ W => Below w21.heap.size w21 W) 1000 1000 100000 true true (by kernel_rfl) (by kernel_rfl) (by kernel_rfl) ((Below.refl _ _).drew) ?_
            refine wpAnyS_take (i := 0) (v := ?_) rfl (by kernel_rfl) (by kernel_rfl) (by kernel_rfl) (fun _ _ _ h => h) (by rfl) (gives_pure (by rfl) ?_) ?_
            rotate_left
            · intro b' d' u' W' hS'
              have hq := FtS.bel HGW.out H21.out hS'
              obtain ⟨s0, s1⟩ := hq.1.c2
              obtain ⟨x0, x1, x2⟩ := HROW.out W' hq.2
              go_simp
              rfl
            try simp only [Act.put, List.setIfInBounds_toArray, List.set_cons_zero, List.set_cons_succ, List.getElem_toArray, List.getElem_cons_zero, List.getElem_cons_succ]
            refine wpAnyS_take (i := 1) (v := ?_) rfl (by kernel_rfl) (by kernel_rfl) (by kernel_rfl) (fun _ _ _ h => h) (by rfl) (gives_pure (by rfl) ?_) ?_
            rotate_left
            · intro b' d' u' W' hS'
              have hq := FtS.bel HGW.out H21.out hS'
              obtain ⟨s0, s1⟩ := hq.1.c2
              obtain ⟨x0, x1, x2⟩ := HROW.out W' hq.2
              go_simp
              rfl
            try simp only [Act.put, List.setIfInBounds_toArray, List.set_cons_zero, List.set_cons_succ, List.getElem_toArray, List.getElem_cons_zero, List.getElem_cons_succ]
            refine wpAnyS_take (i := 2) (v := .int .i64 (m1 + l1)) rfl (by kernel_rfl) (by kernel_rfl) (by kernel_rfl) (fun _ _ _ h => h) (by rfl) (gives_call (by rfl) _ _ ?_ (fun b' d' u' W' hS' => (HSM.out W').mono (fun _ _ h => ⟨h.1, h.2 ▸ hS'.alloc hS'.size _⟩))) ?_
            · intro W'
              first | rfl | kernel_rfl
            try simp only [Act.put, List.setIfInBounds_toArray, List.set_cons_zero, List.set_cons_succ, List.getElem_toArray, List.getElem_cons_zero, List.getElem_cons_succ]
            refine wpAnyS_take (i := 3) (v := ?_) rfl (by kernel_rfl) (by kernel_rfl) (by kernel_rfl) (fun _ _ _ h => h) (by rfl) (gives_pure (by rfl) ?_) ?_
            rotate_left
            · intro b' d' u' W' hS'
              have hq := FtS.bel HGW.out H21.out hS'
              obtain ⟨s0, s1⟩ := hq.1.c2
              obtain ⟨x0, x1, x2⟩ := HROW.out W' hq.2
              go_simp
              rfl
            try simp only [Act.put, List.setIfInBounds_toArray, List.set_cons_zero, List.set_cons_succ, List.getElem_toArray, List.getElem_cons_zero, List.getElem_cons_succ]
            refine wpAnyS_take (i := 4) (v := ?_) rfl (by kernel_rfl) (by kernel_rfl) (by kernel_rfl) (fun _ _ _ h => h) (by rfl) (gives_pure (by rfl) ?_) ?_
            rotate_left
            · intro b' d' u' W' hS'
              have hq := FtS.bel HGW.out H21.out hS'
              obtain ⟨s0, s1⟩ := hq.1.c2
              obtain ⟨x0, x1, x2⟩ := HROW.out W' hq.2
              go_simp
              rfl
            try simp only [Act.put, List.setIfInBounds_toArray, List.set_cons_zero, List.set_cons_succ, List.getElem_toArray, List.getElem_cons_zero, List.getElem_cons_succ]
            refine wpAnyS_take (i := 5) (v := ?_) rfl (by kernel_rfl) (by kernel_rfl) (by kernel_rfl) (fun _ _ _ h => h) (by rfl) (gives_pure (by rfl) ?_) ?_
            rotate_left
            · intro b' d' u' W' hS'
              have hq := FtS.bel HGW.out H21.out hS'
              obtain ⟨s0, s1⟩ := hq.1.c2
              obtain ⟨x0, x1, x2⟩ := HROW.out W' hq.2
              go_simp
              rfl
            try simp only [Act.put, List.setIfInBounds_toArray, List.set_cons_zero, List.set_cons_succ, List.getElem_toArray, List.getElem_cons_zero, List.getElem_cons_succ]
            refine wpAnyS_take (i := 6) (v := ?_) rfl (by kernel_rfl) (by kernel_rfl) (by kernel_rfl) (fun _ _ _ h => h) (by rfl) (gives_pure (by rfl) ?_) ?_
            rotate_left
            · intro b' d' u' W' hS'
              have hq := FtS.bel HGW.out H21.out hS'
              obtain ⟨s0, s1⟩ := hq.1.c2
              obtain ⟨x0, x1, x2⟩ := HROW.out W' hq.2
              go_simp
              rfl
            try simp only [Act.put, List.setIfInBounds_toArray, List.set_cons_zero, List.set_cons_succ, List.getElem_toArray, List.getElem_cons_zero, List.getElem_cons_succ]
            refine wpAnyS_take (i := 7) (v := ?_) rfl (by kernel_rfl) (by kernel_rfl) (by kernel_rfl) (fun _ _ _ h => h) (by rfl) (gives_pure (by rfl) ?_) ?_
            rotate_left
            · intro b' d' u' W' hS'
              have hq := FtS.bel HGW.out H21.out hS'
              obtain ⟨s0, s1⟩ := hq.1.c2
              obtain ⟨x0, x1, x2⟩ := HROW.out W' hq.2
              go_simp
              rfl
            try simp only [Act.put, List.setIfInBounds_toArray, List.set_cons_zero, List.set_cons_succ, List.getElem_toArray, List.getElem_cons_zero, List.getElem_cons_succ]
            refine wpAnyS_take (i := 8) (v := ?_) rfl (by kernel_rfl) (by kernel_rfl) (by kernel_rfl) (fun _ _ _ h => h) (by rfl) (gives_pure (by rfl) ?_) ?_
            rotate_left
            · intro b' d' u' W' hS'
              have hq := FtS.bel HGW.out H21.out hS'
              obtain ⟨s0, s1⟩ := hq.1.c2
              obtain ⟨x0, x1, x2⟩ := HROW.out W' hq.2
              go_simp
              rfl
            try simp only [Act.put, List.setIfInBounds_toArray, List.set_cons_zero, List.set_cons_succ, List.getElem_toArray, List.getElem_cons_zero, List.getElem_cons_succ]
            refine wpAnyS_take (i := 9) (v := ?_) rfl (by kernel_rfl) (by kernel_rfl) (by kernel_rfl) (fun _ _ _ h => h) (by rfl) (gives_pure (by rfl) ?_) ?_
            rotate_left
            · intro b' d' u' W' hS'
              have hq := FtS.bel HGW.out H21.out hS'
              obtain ⟨s0, s1⟩ := hq.1.c2
              obtain ⟨x0, x1, x2⟩ := HROW.out W' hq.2
              go_simp
              rfl
            try simp only [Act.put, List.setIfInBounds_toArray, List.set_cons_zero, List.set_cons_succ, List.getElem_toArray, List.getElem_cons_zero, List.getElem_cons_succ]
            refine wpAnyS_take (i := 10) (v := ?_) rfl (by kernel_rfl) (by kernel_rfl) (by kernel_rfl) (fun _ _ _ h => h) (by rfl) (gives_pure (by rfl) ?_) ?_
            rotate_left
            · intro b' d' u' W' hS'
              have hq := FtS.bel HGW.out H21.out hS'
              obtain ⟨s0, s1⟩ := hq.1.c2
              obtain ⟨x0, x1, x2⟩ := HROW.out W' hq.2
              go_simp
              rfl
            try simp only [Act.put, List.setIfInBounds_toArray, List.set_cons_zero, List.set_cons_succ, List.getElem_toArray, List.getElem_cons_zero, List.getElem_cons_succ]
            refine wpAnyS_done (b := true) (d := true) (by kernel_rfl) (by kernel_rfl) (by kernel_rfl) rfl (fun w24 h24 => ?_) _
            have H24 := Lib.hid (FtS.bel HGW.out H21.out h24)
            clear h24
            obtain ⟨s0, s1⟩ := H24.out.1.c2
            have fs := H24.out.1.frozen
            go_upto_region 26 with (fail)
            obtain ⟨w25, hw25⟩ : ∃ w25, w25 = (w24.setCell ⟨gS, 0, none⟩ (.int .i64 0)).setCell ⟨gS, 1, none⟩ (.int .i64 0) := ⟨_, rfl⟩
            have H25 := Lib.hid (FtS.set H24.out 0 0)
            rw [← hw25] at H25 ⊢
            clear hw25 s0 s1 fs
            obtain ⟨s2, hs2⟩ : ∃ s2, s2 = joinF ⟨0, 0⟩ b := ⟨_, rfl⟩
            have HS2 := Lib.hid hs2
            rw [← hs2] at HJN3
            clear hs2
            obtain ⟨m2, l2⟩ := s2
            have E26 : Blk w25.drew gS 55 #[.int .i64 0, .int .i64 0] ∧ Below gS w4 w25.drew := ⟨H25.out.1.drew, H25.out.2.trans (Below.refl _ _).drew⟩
            refine wp_region_S (fun b _ _ W => Blk W gS 55 (if b then #[.int .i64 m2, .int .i64 l2] else #[.int .i64 0, .int .i64 0]) ∧ Below gS w4 W) 7 1000 100000 false true (by kernel_rfl) (by kernel_rfl) (by kernel_rfl) (E26) ?_
            refine wpAnyS_take (i := 0) (v := ?_) rfl (by kernel_rfl) (by kernel_rfl) (by kernel_rfl) (fun _ _ _ h => h) (by rfl) (gives_pureF (by rfl) (by kernel_rfl) ?_) ?_
            rotate_left
            · intro d' u' W' hS'
              have hh : Blk W' gS 55 #[.int .i64 0, .int .i64 0] ∧ Below gS w4 W' := hS'
              obtain ⟨x0, x1, x2⟩ := HROW.out W' hh.2
              obtain ⟨s0, s1⟩ := hh.1.c2
              go_simp
              rfl
            try simp only [Act.put, List.setIfInBounds_toArray, List.set_cons_zero, List.set_cons_succ, List.getElem_toArray, List.getElem_cons_zero, List.getElem_cons_succ]
            refine wpAnyS_take (i := 1) (v := ?_) rfl (by kernel_rfl) (by kernel_rfl) (by kernel_rfl) (fun _ _ _ h => h) (by rfl) (gives_pureF (by rfl) (by kernel_rfl) ?_) ?_
            rotate_left
            · intro d' u' W' hS'
              have hh : Blk W' gS 55 #[.int .i64 0, .int .i64 0] ∧ Below gS w4 W' := hS'
              obtain ⟨x0, x1, x2⟩ := HROW.out W' hh.2
              obtain ⟨s0, s1⟩ := hh.1.c2
              go_simp
              rfl
            try simp only [Act.put, List.setIfInBounds_toArray, List.set_cons_zero, List.set_cons_succ, List.getElem_toArray, List.getElem_cons_zero, List.getElem_cons_succ]
            refine wpAnyS_take (i := 2) (v := ?_) rfl (by kernel_rfl) (by kernel_rfl) (by kernel_rfl) (fun _ _ _ h => h) (by rfl) (gives_pureF (by rfl) (by kernel_rfl) ?_) ?_
            rotate_left
            · intro d' u' W' hS'
              have hh : Blk W' gS 55 #[.int .i64 0, .int .i64 0] ∧ Below gS w4 W' := hS'
              obtain ⟨x0, x1, x2⟩ := HROW.out W' hh.2
              obtain ⟨s0, s1⟩ := hh.1.c2
              go_simp
              rfl
            try simp only [Act.put, List.setIfInBounds_toArray, List.set_cons_zero, List.set_cons_succ, List.getElem_toArray, List.getElem_cons_zero, List.getElem_cons_succ]
            refine wpAnyS_take (i := 3) (v := ?_) rfl (by kernel_rfl) (by kernel_rfl) (by kernel_rfl) (fun _ _ _ h => h) (by rfl) (gives_pureF (by rfl) (by kernel_rfl) ?_) ?_
            rotate_left
            · intro d' u' W' hS'
              have hh : Blk W' gS 55 #[.int .i64 0, .int .i64 0] ∧ Below gS w4 W' := hS'
              obtain ⟨x0, x1, x2⟩ := HROW.out W' hh.2
              obtain ⟨s0, s1⟩ := hh.1.c2
              go_simp
              rfl
            try simp only [Act.put, List.setIfInBounds_toArray, List.set_cons_zero, List.set_cons_succ, List.getElem_toArray, List.getElem_cons_zero, List.getElem_cons_succ]
            refine wpAnyS_take (i := 4) (v := ?_) rfl (by kernel_rfl) (by kernel_rfl) (by kernel_rfl) (fun _ _ _ h => h) (by rfl) (gives_pureF (by rfl) (by kernel_rfl) ?_) ?_
            rotate_left
            · intro d' u' W' hS'
              have hh : Blk W' gS 55 #[.int .i64 0, .int .i64 0] ∧ Below gS w4 W' := hS'
              obtain ⟨x0, x1, x2⟩ := HROW.out W' hh.2
              obtain ⟨s0, s1⟩ := hh.1.c2
              go_simp
              rfl
            try simp only [Act.put, List.setIfInBounds_toArray, List.set_cons_zero, List.set_cons_succ, List.getElem_toArray, List.getElem_cons_zero, List.getElem_cons_succ]
            refine wpAnyS_take (i := 5) (v := ?_) rfl (by kernel_rfl) (by kernel_rfl) (by kernel_rfl) (fun _ _ _ h => h) (by rfl) (gives_pureF (by rfl) (by kernel_rfl) ?_) ?_
            rotate_left
            · intro d' u' W' hS'
              have hh : Blk W' gS 55 #[.int .i64 0, .int .i64 0] ∧ Below gS w4 W' := hS'
              obtain ⟨x0, x1, x2⟩ := HROW.out W' hh.2
              obtain ⟨s0, s1⟩ := hh.1.c2
              go_simp
              rfl
            try simp only [Act.put, List.setIfInBounds_toArray, List.set_cons_zero, List.set_cons_succ, List.getElem_toArray, List.getElem_cons_zero, List.getElem_cons_succ]
            refine wpAnyS_take (i := 6) (v := .agg #[.int .i64 m2, .int .i64 l2]) rfl (by kernel_rfl) (by kernel_rfl) (by kernel_rfl) (fun _ _ _ h => h) (by rfl) (gives_callF (by rfl) (by kernel_rfl) _ _ ?_ (fun d' u' W' hS' => (HJN3.out W').mono (fun _ _ h => ⟨h.1, FtS.bel HGW.out (show Blk W' gS 55 #[.int .i64 0, .int .i64 0] ∧ Below gS w4 W' from hS') h.2⟩))) ?_
            · intro W'
              first | rfl | kernel_rfl
            try simp only [Act.put, List.setIfInBounds_toArray, List.set_cons_zero, List.set_cons_succ, List.getElem_toArray, List.getElem_cons_zero, List.getElem_cons_succ]
            refine wpAnyS_store (i := 7) (d := true) (fun W' => (W'.setCell ⟨gS, 0, none⟩ (.int .i64 m2)).setCell ⟨gS, 1, none⟩ (.int .i64 l2)) rfl (by kernel_rfl) (by rfl) (by rfl) (by kernel_rfl) rfl ?_ (fun W' hS' => FtS.set (show Blk W' gS 55 #[.int .i64 0, .int .i64 0] ∧ Below gS w4 W' from hS') m2 l2) ?_
            · intro W' hS'
              have hh : Blk W' gS 55 #[.int .i64 0, .int .i64 0] ∧ Below gS w4 W' := hS'
              obtain ⟨s0, s1⟩ := hh.1.c2
              have fs := hh.1.frozen
              go_simp
              try rfl
            try simp only [Act.put, List.setIfInBounds_toArray, List.set_cons_zero, List.set_cons_succ, List.getElem_toArray, List.getElem_cons_zero, List.getElem_cons_succ]
            refine wpAnyS_done (b := true) (d := true) (by kernel_rfl) (by kernel_rfl) (by kernel_rfl) rfl (fun w26 h26 => ?_) _
            have H26 : Hid (Blk w26 gS 55 #[.int .i64 m2, .int .i64 l2] ∧ Below gS w4 w26) := Lib.hid h26
            clear h26
            go_wp2_with fail
            go_roundw
            case rel =>
              refine ⟨k + 1, y + (m1 + l1) + h, ⟨m2, l2⟩, by omega, rfl, by go_num, Lib.hid ?_, H26⟩
              rw [HSU2.out, if_pos hh0, HS2.out]
            case measure => simp [intOf]; omega
        · have d0 : decide ((k : Int) < (j : Int)) = false := decide_eq_false (by omega)
          have HKJ : Hid (k = j) := Lib.hid (by omega)
          obtain ⟨m, ls⟩ := s
          have HYB := Lib.hid (ysL_B HRB.out k)
          rw [← HYS.out] at HYB
          have hyb := HYB.out.y
          have hmb := HYB.out.m
          have hlb := HYB.out.l
          dsimp only at hyb hmb hlb
          have HE : Hid (HH = max (y + (m + ls)) 0) := Lib.hid (by
            rw [HHH.out, ← HKJ.out, ← HYS.out]; unfold sumF; dsimp only; omega)
          have hwy : IntKind.i64.wrap (y + (m + ls)) = y + (m + ls) := IntWalk.i64_in _ ⟨by have := HJ60.out; rw [HRL.out] at hyb; omega, by have := HJ60.out; rw [HRL.out] at hyb; omega⟩
          have HSM := Lib.hid (fun W => sum14_any m ls W (by omega))
          have HWK := Lib.hid works22_any
          clear hyb hmb hlb HYB
          go_upto_region 27 with (fail)
          refine wp_region_S (fun _ _ _ W => Below wr.heap.size wr W) 1000 1000 100000 true true (by kernel_rfl) (by kernel_rfl) (by kernel_rfl) ((Below.refl _ _).drew) ?_
          refine wpAnyS_take (i := 0) (v := ?_) rfl (by kernel_rfl) (by kernel_rfl) (by kernel_rfl) (fun _ _ _ h => h) (by rfl) (gives_pure (by rfl) ?_) ?_
          rotate_left
          · intro b' d' u' W' hS'
            have hq := FtS.bel HGW.out HJ2.out hS'
            obtain ⟨s0, s1⟩ := hq.1.c2
            have i3 := (HIB4.out.below hq.2 HGI.out.1).get 3 (v := .int .i64 HH) rfl
            have i5 := (HIB4.out.below hq.2 HGI.out.1).get 5 (v := .bool false) rfl
            have e0 : (HH == max (y + (m + ls)) 0) = true := beq_iff_eq.2 HE.out
            go_simp
            rfl
          try simp only [Act.put, List.setIfInBounds_toArray, List.set_cons_zero, List.set_cons_succ, List.getElem_toArray, List.getElem_cons_zero, List.getElem_cons_succ]
          refine wpAnyS_take (i := 1) (v := ?_) rfl (by kernel_rfl) (by kernel_rfl) (by kernel_rfl) (fun _ _ _ h => h) (by rfl) (gives_pure (by rfl) ?_) ?_
          rotate_left
          · intro b' d' u' W' hS'
            have hq := FtS.bel HGW.out HJ2.out hS'
            obtain ⟨s0, s1⟩ := hq.1.c2
            have i3 := (HIB4.out.below hq.2 HGI.out.1).get 3 (v := .int .i64 HH) rfl
            have i5 := (HIB4.out.below hq.2 HGI.out.1).get 5 (v := .bool false) rfl
            have e0 : (HH == max (y + (m + ls)) 0) = true := beq_iff_eq.2 HE.out
            go_simp
            rfl
          try simp only [Act.put, List.setIfInBounds_toArray, List.set_cons_zero, List.set_cons_succ, List.getElem_toArray, List.getElem_cons_zero, List.getElem_cons_succ]
          refine wpAnyS_take (i := 2) (v := ?_) rfl (by kernel_rfl) (by kernel_rfl) (by kernel_rfl) (fun _ _ _ h => h) (by rfl) (gives_pure (by rfl) ?_) ?_
          rotate_left
          · intro b' d' u' W' hS'
            have hq := FtS.bel HGW.out HJ2.out hS'
            obtain ⟨s0, s1⟩ := hq.1.c2
            have i3 := (HIB4.out.below hq.2 HGI.out.1).get 3 (v := .int .i64 HH) rfl
            have i5 := (HIB4.out.below hq.2 HGI.out.1).get 5 (v := .bool false) rfl
            have e0 : (HH == max (y + (m + ls)) 0) = true := beq_iff_eq.2 HE.out
            go_simp
            rfl
          try simp only [Act.put, List.setIfInBounds_toArray, List.set_cons_zero, List.set_cons_succ, List.getElem_toArray, List.getElem_cons_zero, List.getElem_cons_succ]
          refine wpAnyS_take (i := 3) (v := ?_) rfl (by kernel_rfl) (by kernel_rfl) (by kernel_rfl) (fun _ _ _ h => h) (by rfl) (gives_pure (by rfl) ?_) ?_
          rotate_left
          · intro b' d' u' W' hS'
            have hq := FtS.bel HGW.out HJ2.out hS'
            obtain ⟨s0, s1⟩ := hq.1.c2
            have i3 := (HIB4.out.below hq.2 HGI.out.1).get 3 (v := .int .i64 HH) rfl
            have i5 := (HIB4.out.below hq.2 HGI.out.1).get 5 (v := .bool false) rfl
            have e0 : (HH == max (y + (m + ls)) 0) = true := beq_iff_eq.2 HE.out
            go_simp
            rfl
          try simp only [Act.put, List.setIfInBounds_toArray, List.set_cons_zero, List.set_cons_succ, List.getElem_toArray, List.getElem_cons_zero, List.getElem_cons_succ]
          refine wpAnyS_take (i := 4) (v := .int .i64 (m + ls)) rfl (by kernel_rfl) (by kernel_rfl) (by kernel_rfl) (fun _ _ _ h => h) (by rfl) (gives_call (by rfl) _ _ ?_ (fun b' d' u' W' hS' => (HSM.out W').mono (fun _ _ h => ⟨h.1, h.2 ▸ hS'.alloc hS'.size _⟩))) ?_
          · intro W'
            first | rfl | kernel_rfl
          try simp only [Act.put, List.setIfInBounds_toArray, List.set_cons_zero, List.set_cons_succ, List.getElem_toArray, List.getElem_cons_zero, List.getElem_cons_succ]
          refine wpAnyS_take (i := 5) (v := ?_) rfl (by kernel_rfl) (by kernel_rfl) (by kernel_rfl) (fun _ _ _ h => h) (by rfl) (gives_pure (by rfl) ?_) ?_
          rotate_left
          · intro b' d' u' W' hS'
            have hq := FtS.bel HGW.out HJ2.out hS'
            obtain ⟨s0, s1⟩ := hq.1.c2
            have i3 := (HIB4.out.below hq.2 HGI.out.1).get 3 (v := .int .i64 HH) rfl
            have i5 := (HIB4.out.below hq.2 HGI.out.1).get 5 (v := .bool false) rfl
            have e0 : (HH == max (y + (m + ls)) 0) = true := beq_iff_eq.2 HE.out
            go_simp
            rfl
          try simp only [Act.put, List.setIfInBounds_toArray, List.set_cons_zero, List.set_cons_succ, List.getElem_toArray, List.getElem_cons_zero, List.getElem_cons_succ]
          refine wpAnyS_take (i := 6) (v := ?_) rfl (by kernel_rfl) (by kernel_rfl) (by kernel_rfl) (fun _ _ _ h => h) (by rfl) (gives_pure (by rfl) ?_) ?_
          rotate_left
          · intro b' d' u' W' hS'
            have hq := FtS.bel HGW.out HJ2.out hS'
            obtain ⟨s0, s1⟩ := hq.1.c2
            have i3 := (HIB4.out.below hq.2 HGI.out.1).get 3 (v := .int .i64 HH) rfl
            have i5 := (HIB4.out.below hq.2 HGI.out.1).get 5 (v := .bool false) rfl
            have e0 : (HH == max (y + (m + ls)) 0) = true := beq_iff_eq.2 HE.out
            go_simp
            rfl
          try simp only [Act.put, List.setIfInBounds_toArray, List.set_cons_zero, List.set_cons_succ, List.getElem_toArray, List.getElem_cons_zero, List.getElem_cons_succ]
          refine wpAnyS_take (i := 7) (v := ?_) rfl (by kernel_rfl) (by kernel_rfl) (by kernel_rfl) (fun _ _ _ h => h) (by rfl) (gives_pure (by rfl) ?_) ?_
          rotate_left
          · intro b' d' u' W' hS'
            have hq := FtS.bel HGW.out HJ2.out hS'
            obtain ⟨s0, s1⟩ := hq.1.c2
            have i3 := (HIB4.out.below hq.2 HGI.out.1).get 3 (v := .int .i64 HH) rfl
            have i5 := (HIB4.out.below hq.2 HGI.out.1).get 5 (v := .bool false) rfl
            have e0 : (HH == max (y + (m + ls)) 0) = true := beq_iff_eq.2 HE.out
            go_simp
            rfl
          try simp only [Act.put, List.setIfInBounds_toArray, List.set_cons_zero, List.set_cons_succ, List.getElem_toArray, List.getElem_cons_zero, List.getElem_cons_succ]
          refine wpAnyS_take (i := 8) (v := ?_) rfl (by kernel_rfl) (by kernel_rfl) (by kernel_rfl) (fun _ _ _ h => h) (by rfl) (gives_pure (by rfl) ?_) ?_
          rotate_left
          · intro b' d' u' W' hS'
            have hq := FtS.bel HGW.out HJ2.out hS'
            obtain ⟨s0, s1⟩ := hq.1.c2
            have i3 := (HIB4.out.below hq.2 HGI.out.1).get 3 (v := .int .i64 HH) rfl
            have i5 := (HIB4.out.below hq.2 HGI.out.1).get 5 (v := .bool false) rfl
            have e0 : (HH == max (y + (m + ls)) 0) = true := beq_iff_eq.2 HE.out
            go_simp
            rfl
          try simp only [Act.put, List.setIfInBounds_toArray, List.set_cons_zero, List.set_cons_succ, List.getElem_toArray, List.getElem_cons_zero, List.getElem_cons_succ]
          refine wpAnyS_take (i := 9) (v := ?_) rfl (by kernel_rfl) (by kernel_rfl) (by kernel_rfl) (fun _ _ _ h => h) (by rfl) (gives_pure (by rfl) ?_) ?_
          rotate_left
          · intro b' d' u' W' hS'
            have hq := FtS.bel HGW.out HJ2.out hS'
            obtain ⟨s0, s1⟩ := hq.1.c2
            have i3 := (HIB4.out.below hq.2 HGI.out.1).get 3 (v := .int .i64 HH) rfl
            have i5 := (HIB4.out.below hq.2 HGI.out.1).get 5 (v := .bool false) rfl
            have e0 : (HH == max (y + (m + ls)) 0) = true := beq_iff_eq.2 HE.out
            go_simp
            rfl
          try simp only [Act.put, List.setIfInBounds_toArray, List.set_cons_zero, List.set_cons_succ, List.getElem_toArray, List.getElem_cons_zero, List.getElem_cons_succ]
          refine wpAnyS_take (i := 10) (v := ?_) rfl (by kernel_rfl) (by kernel_rfl) (by kernel_rfl) (fun _ _ _ h => h) (by rfl) (gives_pure (by rfl) ?_) ?_
          rotate_left
          · intro b' d' u' W' hS'
            have hq := FtS.bel HGW.out HJ2.out hS'
            obtain ⟨s0, s1⟩ := hq.1.c2
            have i3 := (HIB4.out.below hq.2 HGI.out.1).get 3 (v := .int .i64 HH) rfl
            have i5 := (HIB4.out.below hq.2 HGI.out.1).get 5 (v := .bool false) rfl
            have e0 : (HH == max (y + (m + ls)) 0) = true := beq_iff_eq.2 HE.out
            go_simp
            rfl
          try simp only [Act.put, List.setIfInBounds_toArray, List.set_cons_zero, List.set_cons_succ, List.getElem_toArray, List.getElem_cons_zero, List.getElem_cons_succ]
          refine wpAnyS_take (i := 11) (v := ?_) rfl (by kernel_rfl) (by kernel_rfl) (by kernel_rfl) (fun _ _ _ h => h) (by rfl) (gives_pure (by rfl) ?_) ?_
          rotate_left
          · intro b' d' u' W' hS'
            have hq := FtS.bel HGW.out HJ2.out hS'
            obtain ⟨s0, s1⟩ := hq.1.c2
            have i3 := (HIB4.out.below hq.2 HGI.out.1).get 3 (v := .int .i64 HH) rfl
            have i5 := (HIB4.out.below hq.2 HGI.out.1).get 5 (v := .bool false) rfl
            have e0 : (HH == max (y + (m + ls)) 0) = true := beq_iff_eq.2 HE.out
            go_simp
            rfl
          try simp only [Act.put, List.setIfInBounds_toArray, List.set_cons_zero, List.set_cons_succ, List.getElem_toArray, List.getElem_cons_zero, List.getElem_cons_succ]
          refine wpAnyS_take (i := 12) (v := ?_) rfl (by kernel_rfl) (by kernel_rfl) (by kernel_rfl) (fun _ _ _ h => h) (by rfl) (gives_pure (by rfl) ?_) ?_
          rotate_left
          · intro b' d' u' W' hS'
            have hq := FtS.bel HGW.out HJ2.out hS'
            obtain ⟨s0, s1⟩ := hq.1.c2
            have i3 := (HIB4.out.below hq.2 HGI.out.1).get 3 (v := .int .i64 HH) rfl
            have i5 := (HIB4.out.below hq.2 HGI.out.1).get 5 (v := .bool false) rfl
            have e0 : (HH == max (y + (m + ls)) 0) = true := beq_iff_eq.2 HE.out
            go_simp
            rfl
          try simp only [Act.put, List.setIfInBounds_toArray, List.set_cons_zero, List.set_cons_succ, List.getElem_toArray, List.getElem_cons_zero, List.getElem_cons_succ]
          refine wpAnyS_take (i := 13) (v := ?_) rfl (by kernel_rfl) (by kernel_rfl) (by kernel_rfl) (fun _ _ _ h => h) (by rfl) (gives_pure (by rfl) ?_) ?_
          rotate_left
          · intro b' d' u' W' hS'
            have hq := FtS.bel HGW.out HJ2.out hS'
            obtain ⟨s0, s1⟩ := hq.1.c2
            have i3 := (HIB4.out.below hq.2 HGI.out.1).get 3 (v := .int .i64 HH) rfl
            have i5 := (HIB4.out.below hq.2 HGI.out.1).get 5 (v := .bool false) rfl
            have e0 : (HH == max (y + (m + ls)) 0) = true := beq_iff_eq.2 HE.out
            go_simp
            rfl
          try simp only [Act.put, List.setIfInBounds_toArray, List.set_cons_zero, List.set_cons_succ, List.getElem_toArray, List.getElem_cons_zero, List.getElem_cons_succ]
          refine wpAnyS_take (i := 14) (v := .bool true) rfl (by kernel_rfl) (by kernel_rfl) (by kernel_rfl) (fun _ _ _ h => h) (by rfl) (gives_call (by rfl) _ _ ?_ (fun b' d' u' W' hS' => (HWK.out W').mono (fun _ _ h => ⟨h.1, hS'.trans (h.2.mono hS'.size)⟩))) ?_
          · intro W'
            first | rfl | kernel_rfl
          try simp only [Act.put, List.setIfInBounds_toArray, List.set_cons_zero, List.set_cons_succ, List.getElem_toArray, List.getElem_cons_zero, List.getElem_cons_succ]
          refine wpAnyS_take (i := 15) (v := ?_) rfl (by kernel_rfl) (by kernel_rfl) (by kernel_rfl) (fun _ _ _ h => h) (by rfl) (gives_pure (by rfl) ?_) ?_
          rotate_left
          · intro b' d' u' W' hS'
            have hq := FtS.bel HGW.out HJ2.out hS'
            obtain ⟨s0, s1⟩ := hq.1.c2
            have i3 := (HIB4.out.below hq.2 HGI.out.1).get 3 (v := .int .i64 HH) rfl
            have i5 := (HIB4.out.below hq.2 HGI.out.1).get 5 (v := .bool false) rfl
            have e0 : (HH == max (y + (m + ls)) 0) = true := beq_iff_eq.2 HE.out
            go_simp
            rfl
          try simp only [Act.put, List.setIfInBounds_toArray, List.set_cons_zero, List.set_cons_succ, List.getElem_toArray, List.getElem_cons_zero, List.getElem_cons_succ]
          refine wpAnyS_take (i := 16) (v := ?_) rfl (by kernel_rfl) (by kernel_rfl) (by kernel_rfl) (fun _ _ _ h => h) (by rfl) (gives_pure (by rfl) ?_) ?_
          rotate_left
          · intro b' d' u' W' hS'
            have hq := FtS.bel HGW.out HJ2.out hS'
            obtain ⟨s0, s1⟩ := hq.1.c2
            have i3 := (HIB4.out.below hq.2 HGI.out.1).get 3 (v := .int .i64 HH) rfl
            have i5 := (HIB4.out.below hq.2 HGI.out.1).get 5 (v := .bool false) rfl
            have e0 : (HH == max (y + (m + ls)) 0) = true := beq_iff_eq.2 HE.out
            go_simp
            rfl
          try simp only [Act.put, List.setIfInBounds_toArray, List.set_cons_zero, List.set_cons_succ, List.getElem_toArray, List.getElem_cons_zero, List.getElem_cons_succ]
          refine wpAnyS_done (b := true) (d := true) (by kernel_rfl) (by kernel_rfl) (by kernel_rfl) rfl (fun w27 h27 => ?_) _
          have H27 := Lib.hid (FtS.bel HGW.out HJ2.out h27)
          clear h27
          go_wp2_with fail
          go_ret
          exact ⟨rfl, HW4.out.trans (H27.out.2.mono HGI.out.2.2)⟩
end Go.Proofs.Ytlebbkhhhmempaa
