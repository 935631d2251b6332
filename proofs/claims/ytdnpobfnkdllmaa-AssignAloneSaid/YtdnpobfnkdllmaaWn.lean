/- Wide numbers of package mains: contracts. -/
import Derived.Test.YtdnpobfnkdllmaaWy
set_option linter.unusedSimpArgs false
set_option linter.unusedVariables false
namespace Go.Proofs.Ytdnpobfnkdllmaa
open Go.RowKit

theorem wrap_eq (x : Int) : IntKind.i64.wrap x = wrap64 x := by
  simp [IntKind.wrap, IntKind.signed, IntKind.bits, wrap64]
  split <;> omega
structure NaS (a : Int) (w W : World) : Prop where
  c0 : W.cell? ⟨w.heap.size, 0, none⟩ = some (hiOf a)
  c1 : W.cell? ⟨w.heap.size, 1, none⟩ = some (loOf a)
  b : Below w.heap.size w W
theorem NaS.al {a : Int} {w W : World} (h : NaS a w W) (o : Obj) : NaS a w (W.alloc o) := ⟨cel_alloc h.c0 o, cel_alloc h.c1 o, bal h.b o⟩
theorem NaS.drew {a : Int} {w W : World} (h : NaS a w W) : NaS a w W.drew := ⟨h.c0, h.c1, h.b.drew⟩
theorem NaS.new (a : Int) (w : World) : NaS a w (w.alloc (.cells #[hiOf a, loOf a] 87)).drew := ⟨cel_two0 _ _ _ _, cel_two1 _ _ _ _, (bal (Below.refl _ _) _).drew⟩
set_option maxRecDepth 100000 in
set_option maxHeartbeats 800000 in
theorem number_any (a : Int) (w : World) :
    Calls Try.prog 39 #[.agg #[hiOf a, loOf a]] w fun e w' => e = .returned (.int .i64 (numF a)) ∧ Below w.heap.size w w' := by
  by_cases h1 : 9223372036854775807 < a
  · have E : Hid (numF a = 9223372036854775807) := Lib.hid (by unfold numF; rw [if_pos h1])
    have e1 : cmpI a 9223372036854775807 = 1 := by unfold cmpI; rw [if_neg (by omega), if_pos h1]
    go_enter Try.func39, Try.ntmps39
    go_upto_region 1 with (fail)
    have E0 : NaS a w (w.alloc (.cells #[hiOf a, loOf a] 87)).drew := NaS.new a w
    refine wp_region_held_drew (S := NaS a w) (by kernel_rfl) E0 (fun hS => ?_)
    refine wpAnyH_take (i := 0) (v := ?_) rfl (by kernel_rfl) (by kernel_rfl) (by kernel_rfl) (fun _ _ _ h => h) (Or.inl ⟨by rfl, ?_⟩) hS ?_
    rotate_left
    · rintro W' ⟨c0', c1', hb'⟩
      go_simp
      rfl
    try simp only [Act.put, List.setIfInBounds_toArray, List.set_cons_zero, List.set_cons_succ, List.getElem_toArray, List.getElem_cons_zero, List.getElem_cons_succ]
    refine wpAnyH_ready (rs := [1]) (by kernel_rfl) (by simp) (AllReadyH.cons rfl (fun K hK => ?_) AllReadyH.nil)
    go_simp
    refine (of_any (9223372036854775807) _ (by decide) (by decide)).mono ?_
    rintro e w7 ⟨rfl, rfl⟩
    refine hK.out _ _ (hS.al _) (fun hS => ?_)
    try simp only [Act.put, List.setIfInBounds_toArray, List.set_cons_zero, List.set_cons_succ, List.getElem_toArray, List.getElem_cons_zero, List.getElem_cons_succ]
    clear hK
    refine wpAnyH_ready (rs := [2]) (by kernel_rfl) (by simp) (AllReadyH.cons rfl (fun K hK => ?_) AllReadyH.nil)
    go_simp
    refine (against_any a (9223372036854775807) _).mono ?_
    rintro e w8 ⟨rfl, rfl⟩
    refine hK.out _ _ ((hS.al _).al _) (fun hS => ?_)
    try simp only [Act.put, List.setIfInBounds_toArray, List.set_cons_zero, List.set_cons_succ, List.getElem_toArray, List.getElem_cons_zero, List.getElem_cons_succ]
    clear hK
    refine wpAnyH_take (i := 3) (v := ?_) rfl (by kernel_rfl) (by kernel_rfl) (by kernel_rfl) (fun _ _ _ h => h) (Or.inl ⟨by rfl, ?_⟩) hS ?_
    rotate_left
    · rintro W' ⟨c0', c1', hb'⟩
      go_simp
      rfl
    try simp only [Act.put, List.setIfInBounds_toArray, List.set_cons_zero, List.set_cons_succ, List.getElem_toArray, List.getElem_cons_zero, List.getElem_cons_succ]
    refine wpAnyH_take (i := 4) (v := ?_) rfl (by kernel_rfl) (by kernel_rfl) (by kernel_rfl) (fun _ _ _ h => h) (Or.inl ⟨by rfl, ?_⟩) hS ?_
    rotate_left
    · rintro W' ⟨c0', c1', hb'⟩
      go_simp
      rfl
    try simp only [Act.put, List.setIfInBounds_toArray, List.set_cons_zero, List.set_cons_succ, List.getElem_toArray, List.getElem_cons_zero, List.getElem_cons_succ]
    refine wpAnyH_done (by kernel_rfl) ?_ _
    have HL := Lib.hid hS.b
    go_wp2_with fail
    go_ret
    refine ⟨by rw [E.out]; rfl, HL.out⟩
  · have e1 : decide (0 < cmpI a 9223372036854775807) = false := by unfold cmpI; rw [if_neg h1]; split <;> decide
    by_cases h2 : a < -9223372036854775808
    · have E : Hid (numF a = -9223372036854775808) := Lib.hid (by unfold numF; rw [if_neg h1, if_pos h2])
      have e2 : cmpI a (-9223372036854775808) = -1 := by unfold cmpI; rw [if_pos h2]
      go_enter Try.func39, Try.ntmps39
      go_upto_region 1 with (fail)
      have E0 : NaS a w (w.alloc (.cells #[hiOf a, loOf a] 87)).drew := NaS.new a w
      refine wp_region_held_drew (S := NaS a w) (by kernel_rfl) E0 (fun hS => ?_)
      refine wpAnyH_take (i := 0) (v := ?_) rfl (by kernel_rfl) (by kernel_rfl) (by kernel_rfl) (fun _ _ _ h => h) (Or.inl ⟨by rfl, ?_⟩) hS ?_
      rotate_left
      · rintro W' ⟨c0', c1', hb'⟩
        go_simp
        rfl
      try simp only [Act.put, List.setIfInBounds_toArray, List.set_cons_zero, List.set_cons_succ, List.getElem_toArray, List.getElem_cons_zero, List.getElem_cons_succ]
      refine wpAnyH_ready (rs := [1]) (by kernel_rfl) (by simp) (AllReadyH.cons rfl (fun K hK => ?_) AllReadyH.nil)
      go_simp
      refine (of_any (9223372036854775807) _ (by decide) (by decide)).mono ?_
      rintro e w7 ⟨rfl, rfl⟩
      refine hK.out _ _ (hS.al _) (fun hS => ?_)
      try simp only [Act.put, List.setIfInBounds_toArray, List.set_cons_zero, List.set_cons_succ, List.getElem_toArray, List.getElem_cons_zero, List.getElem_cons_succ]
      clear hK
      refine wpAnyH_ready (rs := [2]) (by kernel_rfl) (by simp) (AllReadyH.cons rfl (fun K hK => ?_) AllReadyH.nil)
      go_simp
      refine (against_any a (9223372036854775807) _).mono ?_
      rintro e w8 ⟨rfl, rfl⟩
      refine hK.out _ _ ((hS.al _).al _) (fun hS => ?_)
      try simp only [Act.put, List.setIfInBounds_toArray, List.set_cons_zero, List.set_cons_succ, List.getElem_toArray, List.getElem_cons_zero, List.getElem_cons_succ]
      clear hK
      refine wpAnyH_take (i := 3) (v := ?_) rfl (by kernel_rfl) (by kernel_rfl) (by kernel_rfl) (fun _ _ _ h => h) (Or.inl ⟨by rfl, ?_⟩) hS ?_
      rotate_left
      · rintro W' ⟨c0', c1', hb'⟩
        go_simp
        rfl
      try simp only [Act.put, List.setIfInBounds_toArray, List.set_cons_zero, List.set_cons_succ, List.getElem_toArray, List.getElem_cons_zero, List.getElem_cons_succ]
      refine wpAnyH_take (i := 4) (v := ?_) rfl (by kernel_rfl) (by kernel_rfl) (by kernel_rfl) (fun _ _ _ h => h) (Or.inl ⟨by rfl, ?_⟩) hS ?_
      rotate_left
      · rintro W' ⟨c0', c1', hb'⟩
        go_simp
        rfl
      try simp only [Act.put, List.setIfInBounds_toArray, List.set_cons_zero, List.set_cons_succ, List.getElem_toArray, List.getElem_cons_zero, List.getElem_cons_succ]
      refine wpAnyH_done (by kernel_rfl) ?_ _
      go_upto_region 3 with (fail)
      have E0 := hS.drew
      refine wp_region_held_drew (S := NaS a w) (by kernel_rfl) E0 (fun hS => ?_)
      refine wpAnyH_take (i := 0) (v := ?_) rfl (by kernel_rfl) (by kernel_rfl) (by kernel_rfl) (fun _ _ _ h => h) (Or.inl ⟨by rfl, ?_⟩) hS ?_
      rotate_left
      · rintro W' ⟨c0', c1', hb'⟩
        go_simp
        rfl
      try simp only [Act.put, List.setIfInBounds_toArray, List.set_cons_zero, List.set_cons_succ, List.getElem_toArray, List.getElem_cons_zero, List.getElem_cons_succ]
      refine wpAnyH_ready (rs := [1]) (by kernel_rfl) (by simp) (AllReadyH.cons rfl (fun K hK => ?_) AllReadyH.nil)
      go_simp
      refine (of_any (-9223372036854775808) _ (by decide) (by decide)).mono ?_
      rintro e w7 ⟨rfl, rfl⟩
      refine hK.out _ _ (hS.al _) (fun hS => ?_)
      try simp only [Act.put, List.setIfInBounds_toArray, List.set_cons_zero, List.set_cons_succ, List.getElem_toArray, List.getElem_cons_zero, List.getElem_cons_succ]
      clear hK
      refine wpAnyH_ready (rs := [2]) (by kernel_rfl) (by simp) (AllReadyH.cons rfl (fun K hK => ?_) AllReadyH.nil)
      go_simp
      refine (against_any a (-9223372036854775808) _).mono ?_
      rintro e w8 ⟨rfl, rfl⟩
      refine hK.out _ _ ((hS.al _).al _) (fun hS => ?_)
      try simp only [Act.put, List.setIfInBounds_toArray, List.set_cons_zero, List.set_cons_succ, List.getElem_toArray, List.getElem_cons_zero, List.getElem_cons_succ]
      clear hK
      refine wpAnyH_take (i := 3) (v := ?_) rfl (by kernel_rfl) (by kernel_rfl) (by kernel_rfl) (fun _ _ _ h => h) (Or.inl ⟨by rfl, ?_⟩) hS ?_
      rotate_left
      · rintro W' ⟨c0', c1', hb'⟩
        go_simp
        rfl
      try simp only [Act.put, List.setIfInBounds_toArray, List.set_cons_zero, List.set_cons_succ, List.getElem_toArray, List.getElem_cons_zero, List.getElem_cons_succ]
      refine wpAnyH_take (i := 4) (v := ?_) rfl (by kernel_rfl) (by kernel_rfl) (by kernel_rfl) (fun _ _ _ h => h) (Or.inl ⟨by rfl, ?_⟩) hS ?_
      rotate_left
      · rintro W' ⟨c0', c1', hb'⟩
        go_simp
        rfl
      try simp only [Act.put, List.setIfInBounds_toArray, List.set_cons_zero, List.set_cons_succ, List.getElem_toArray, List.getElem_cons_zero, List.getElem_cons_succ]
      refine wpAnyH_done (by kernel_rfl) ?_ _
      have HL := Lib.hid hS.b
      go_wp2_with fail
      go_ret
      refine ⟨by rw [E.out]; rfl, HL.out⟩
    · have e2 : decide (cmpI a (-9223372036854775808) < 0) = false := by unfold cmpI; rw [if_neg h2]; split <;> decide
      have E : Hid (wrap64 (a % 18446744073709551616) = numF a) := Lib.hid (by unfold numF; rw [if_neg h1, if_neg h2, num_mid h1 h2])
      go_enter Try.func39, Try.ntmps39
      go_upto_region 1 with (fail)
      have E0 : NaS a w (w.alloc (.cells #[hiOf a, loOf a] 87)).drew := NaS.new a w
      refine wp_region_held_drew (S := NaS a w) (by kernel_rfl) E0 (fun hS => ?_)
      refine wpAnyH_take (i := 0) (v := ?_) rfl (by kernel_rfl) (by kernel_rfl) (by kernel_rfl) (fun _ _ _ h => h) (Or.inl ⟨by rfl, ?_⟩) hS ?_
      rotate_left
      · rintro W' ⟨c0', c1', hb'⟩
        go_simp
        rfl
      try simp only [Act.put, List.setIfInBounds_toArray, List.set_cons_zero, List.set_cons_succ, List.getElem_toArray, List.getElem_cons_zero, List.getElem_cons_succ]
      refine wpAnyH_ready (rs := [1]) (by kernel_rfl) (by simp) (AllReadyH.cons rfl (fun K hK => ?_) AllReadyH.nil)
      go_simp
      refine (of_any (9223372036854775807) _ (by decide) (by decide)).mono ?_
      rintro e w7 ⟨rfl, rfl⟩
      refine hK.out _ _ (hS.al _) (fun hS => ?_)
      try simp only [Act.put, List.setIfInBounds_toArray, List.set_cons_zero, List.set_cons_succ, List.getElem_toArray, List.getElem_cons_zero, List.getElem_cons_succ]
      clear hK
      refine wpAnyH_ready (rs := [2]) (by kernel_rfl) (by simp) (AllReadyH.cons rfl (fun K hK => ?_) AllReadyH.nil)
      go_simp
      refine (against_any a (9223372036854775807) _).mono ?_
      rintro e w8 ⟨rfl, rfl⟩
      refine hK.out _ _ ((hS.al _).al _) (fun hS => ?_)
      try simp only [Act.put, List.setIfInBounds_toArray, List.set_cons_zero, List.set_cons_succ, List.getElem_toArray, List.getElem_cons_zero, List.getElem_cons_succ]
      clear hK
      refine wpAnyH_take (i := 3) (v := ?_) rfl (by kernel_rfl) (by kernel_rfl) (by kernel_rfl) (fun _ _ _ h => h) (Or.inl ⟨by rfl, ?_⟩) hS ?_
      rotate_left
      · rintro W' ⟨c0', c1', hb'⟩
        go_simp
        rfl
      try simp only [Act.put, List.setIfInBounds_toArray, List.set_cons_zero, List.set_cons_succ, List.getElem_toArray, List.getElem_cons_zero, List.getElem_cons_succ]
      refine wpAnyH_take (i := 4) (v := ?_) rfl (by kernel_rfl) (by kernel_rfl) (by kernel_rfl) (fun _ _ _ h => h) (Or.inl ⟨by rfl, ?_⟩) hS ?_
      rotate_left
      · rintro W' ⟨c0', c1', hb'⟩
        go_simp
        rfl
      try simp only [Act.put, List.setIfInBounds_toArray, List.set_cons_zero, List.set_cons_succ, List.getElem_toArray, List.getElem_cons_zero, List.getElem_cons_succ]
      refine wpAnyH_done (by kernel_rfl) ?_ _
      go_upto_region 3 with (fail)
      have E0 := hS.drew
      refine wp_region_held_drew (S := NaS a w) (by kernel_rfl) E0 (fun hS => ?_)
      refine wpAnyH_take (i := 0) (v := ?_) rfl (by kernel_rfl) (by kernel_rfl) (by kernel_rfl) (fun _ _ _ h => h) (Or.inl ⟨by rfl, ?_⟩) hS ?_
      rotate_left
      · rintro W' ⟨c0', c1', hb'⟩
        go_simp
        rfl
      try simp only [Act.put, List.setIfInBounds_toArray, List.set_cons_zero, List.set_cons_succ, List.getElem_toArray, List.getElem_cons_zero, List.getElem_cons_succ]
      refine wpAnyH_ready (rs := [1]) (by kernel_rfl) (by simp) (AllReadyH.cons rfl (fun K hK => ?_) AllReadyH.nil)
      go_simp
      refine (of_any (-9223372036854775808) _ (by decide) (by decide)).mono ?_
      rintro e w7 ⟨rfl, rfl⟩
      refine hK.out _ _ (hS.al _) (fun hS => ?_)
      try simp only [Act.put, List.setIfInBounds_toArray, List.set_cons_zero, List.set_cons_succ, List.getElem_toArray, List.getElem_cons_zero, List.getElem_cons_succ]
      clear hK
      refine wpAnyH_ready (rs := [2]) (by kernel_rfl) (by simp) (AllReadyH.cons rfl (fun K hK => ?_) AllReadyH.nil)
      go_simp
      refine (against_any a (-9223372036854775808) _).mono ?_
      rintro e w8 ⟨rfl, rfl⟩
      refine hK.out _ _ ((hS.al _).al _) (fun hS => ?_)
      try simp only [Act.put, List.setIfInBounds_toArray, List.set_cons_zero, List.set_cons_succ, List.getElem_toArray, List.getElem_cons_zero, List.getElem_cons_succ]
      clear hK
      refine wpAnyH_take (i := 3) (v := ?_) rfl (by kernel_rfl) (by kernel_rfl) (by kernel_rfl) (fun _ _ _ h => h) (Or.inl ⟨by rfl, ?_⟩) hS ?_
      rotate_left
      · rintro W' ⟨c0', c1', hb'⟩
        go_simp
        rfl
      try simp only [Act.put, List.setIfInBounds_toArray, List.set_cons_zero, List.set_cons_succ, List.getElem_toArray, List.getElem_cons_zero, List.getElem_cons_succ]
      refine wpAnyH_take (i := 4) (v := ?_) rfl (by kernel_rfl) (by kernel_rfl) (by kernel_rfl) (fun _ _ _ h => h) (Or.inl ⟨by rfl, ?_⟩) hS ?_
      rotate_left
      · rintro W' ⟨c0', c1', hb'⟩
        go_simp
        rfl
      try simp only [Act.put, List.setIfInBounds_toArray, List.set_cons_zero, List.set_cons_succ, List.getElem_toArray, List.getElem_cons_zero, List.getElem_cons_succ]
      refine wpAnyH_done (by kernel_rfl) ?_ _
      have HL := Lib.hid hS.b
      have hcv : ∀ W, Sem.run Try.prog (convert 85 2 (loOf a)) W = .ok (.int .i64 (wrap64 (a % 18446744073709551616))) W := fun W => by unfold loOf; go_simp; exact wrap_eq _
      go_wp2_with fail
      go_ret
      refine ⟨by rw [← E.out]; rfl, HL.out⟩
end Go.Proofs.Ytdnpobfnkdllmaa
