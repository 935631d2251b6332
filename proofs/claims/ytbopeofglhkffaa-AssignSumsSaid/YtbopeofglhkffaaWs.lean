/- Wide numbers of package mains: share (its closure). -/
import Derived.Test.YtbopeofglhkffaaRgh
import Derived.Test.YtbopeofglhkffaaWy
import Derived.Test.YtbopeofglhkffaaApp
set_option linter.unusedSimpArgs false
set_option linter.unusedVariables false
namespace Go.Proofs.Ytbopeofglhkffaa
open Go.RowKit
/-- The first k have come up. -/
def preL (n k : Nat) : Array Bool := ((List.range n).map fun i => decide (i < k)).toArray
theorem preL_next (n k : Nat) : (preL n k).setIfInBounds k true = preL n (k + 1) := by
  unfold preL
  apply Array.ext_getElem?
  intro j
  rw [Array.getElem?_setIfInBounds]
  simp only [List.size_toArray, List.length_map, List.length_range, List.getElem?_toArray, List.getElem?_map]
  by_cases hj : j < n
  · rw [List.getElem?_range hj]
    by_cases e : k = j
    · subst e; simp [hj]
    · rw [if_neg e]
      simp only [Option.map_some, Option.some.injEq, decide_eq_decide]
      omega
  · rw [List.getElem?_eq_none (by rw [List.length_range]; omega)]
    by_cases e : k = j
    · subst e; simp [hj]
    · simp [e]
section
variable {P : Program} {ops : Array Oper} {Q : Exit → Act → World → Prop} {md : Region.Mode} {T : Bool → Bool → Value → World → Prop} {k m q : Nat}
theorem wpAnyS_pre {j n : Nat} {L : Array Bool} {a : Act} (hL : preL ops.size j = L) (h : ClosedL md ops (preL ops.size j) → wpAnyS P md ops Q (SK T k m q) n (preL ops.size j) a) (hcl : ClosedL md ops L) : wpAnyS P md ops Q (SK T k m q) n L a := by
  subst hL; exact h hcl
theorem wpAnyS_nx {j : Nat} {oi : Oper} {v : Value} {n : Nat} {a : Act} (hi : ops[j]? = some oi) (hs : Region.noSelect ops = true) (hf : Region.free md ops (preL ops.size j) j = true) (hr : (Region.ready md ops (preL ops.size j)).contains j = true)
    (hQ : ∀ c a w, Q (.panic c) (a.put oi.dst v) w → Q (.panic c) a w) (hk : ((j == k) || (j == m) || (oi.dst == some q)) = false) (hy : Gives P md ops (SK T k m q) j oi v a) (h : ClosedL md ops (preL ops.size (j + 1)) → wpAnyS P md ops Q (SK T k m q) n (preL ops.size (j + 1)) (a.put oi.dst v)) (hcl : ClosedL md ops (preL ops.size j)) : wpAnyS P md ops Q (SK T k m q) (n + 1) (preL ops.size j) a :=
  wpAnyS_take hi hs hf hr hQ hk hy (by rw [preL_next]; exact h) hcl
end
section
variable {P : Program} {ops : Array Oper} {Q : Exit → Act → World → Prop} {md : Region.Mode} {S : World → Prop}
theorem wpAnyH_pre {j n : Nat} {L : Array Bool} {a : Act} {w : World} (hL : preL ops.size j = L) (h : wpAnyH P md ops Q S n (preL ops.size j) a w) : wpAnyH P md ops Q S n L a w := by
  subst hL; exact h
theorem wpAnyH_nx {j : Nat} {oi : Oper} {v : Value} {n : Nat} {a : Act} {w : World} (hi : ops[j]? = some oi) (hs : Region.noSelect ops = true) (hf : Region.free md ops (preL ops.size j) j = true) (hr : (Region.ready md ops (preL ops.size j)).contains j = true)
    (hQ : ∀ c a w, Q (.panic c) (a.put oi.dst v) w → Q (.panic c) a w) (hy : YieldsIf P ops S oi v a) (hS : S w) (h : wpAnyH P md ops Q S n (preL ops.size (j + 1)) (a.put oi.dst v) w) : wpAnyH P md ops Q S (n + 1) (preL ops.size j) a w :=
  wpAnyH_take hi hs hf hr hQ hy hS (by rw [preL_next]; exact h)
end
end Go.Proofs.Ytbopeofglhkffaa
namespace Go.Proofs.Ytbopeofglhkffaa
open Go.RowKit
theorem wrap_eq (x : Int) : IntKind.i64.wrap x = wrap64 x := by
  simp [IntKind.wrap, IntKind.signed, IntKind.bits, wrap64]
  split <;> omega
structure NaS (a : Int) (w W : World) : Prop where
  c0 : W.cell? ⟨w.heap.size, 0, none⟩ = some (hiOf a)
  c1 : W.cell? ⟨w.heap.size, 1, none⟩ = some (loOf a)
  b : Below w.heap.size w W
theorem NaS.al {a : Int} {w W : World} (h : NaS a w W) (o : Obj) : NaS a w (W.alloc o) := ⟨cel_alloc h.c0 o, cel_alloc h.c1 o, bal h.b o⟩
theorem NaS.drew {a : Int} {w W : World} (h : NaS a w W) : NaS a w W.drew := ⟨h.c0, h.c1, h.b.drew⟩
theorem NaS.new (a : Int) (w : World) : NaS a w (w.alloc (.cells #[hiOf a, loOf a] 87)).drew := ⟨cel_two0 _ _ _ _, cel_two1 _ _ _ _, (bal (Below.refl _ _) _).drew⟩
set_option maxRecDepth 100000 in
set_option maxHeartbeats 800000 in
theorem number_any (a : Int) (w : World) :
    Calls Try.prog 41 #[.agg #[hiOf a, loOf a]] w fun e w' => e = .returned (.int .i64 (numF a)) ∧ Below w.heap.size w w' := by
  by_cases h1 : 9223372036854775807 < a
  · have E : Hid (numF a = 9223372036854775807) := Lib.hid (by unfold numF; rw [if_pos h1])
    have e1 : cmpI a 9223372036854775807 = 1 := by unfold cmpI; rw [if_neg (by omega), if_pos h1]
    go_enter Try.func41, Try.ntmps41
    go_upto_region 1 with (fail)
    have E0 : NaS a w (w.alloc (.cells #[hiOf a, loOf a] 87)).drew := NaS.new a w
    refine wp_region_held_drew (S := NaS a w) (by kernel_rfl) E0 (fun hS => ?_)
    refine wpAnyH_take (i := 0) (v := ?_) rfl (by kernel_rfl) (by kernel_rfl) (by kernel_rfl) (fun _ _ _ h => h) (Or.inl ⟨by rfl, ?_⟩) hS ?_
    rotate_left
    · rintro W' ⟨c0', c1', hb'⟩
      go_simp
      rfl
    try simp only [Act.put, List.setIfInBounds_toArray, List.set_cons_zero, List.set_cons_succ, List.getElem_toArray, List.getElem_cons_zero, List.getElem_cons_succ]
    refine wpAnyH_ready (rs := [1]) (by kernel_rfl) (by simp) (AllReadyH.cons rfl (fun K hK => ?_) AllReadyH.nil)
    go_simp
    refine (of_any (9223372036854775807) _ (by decide) (by decide)).mono ?_
    rintro e w7 ⟨rfl, rfl⟩
    refine hK.out _ _ (hS.al _) (fun hS => ?_)
    try simp only [Act.put, List.setIfInBounds_toArray, List.set_cons_zero, List.set_cons_succ, List.getElem_toArray, List.getElem_cons_zero, List.getElem_cons_succ]
    clear hK
    refine wpAnyH_ready (rs := [2]) (by kernel_rfl) (by simp) (AllReadyH.cons rfl (fun K hK => ?_) AllReadyH.nil)
    go_simp
    refine (against_any a (9223372036854775807) _).mono ?_
    rintro e w8 ⟨rfl, rfl⟩
    refine hK.out _ _ ((hS.al _).al _) (fun hS => ?_)
    try simp only [Act.put, List.setIfInBounds_toArray, List.set_cons_zero, List.set_cons_succ, List.getElem_toArray, List.getElem_cons_zero, List.getElem_cons_succ]
    clear hK
    refine wpAnyH_pre (j := 3) (by kernel_rfl) ?_
    iterate 2
      refine wpAnyH_nx (v := ?_) rfl (by kernel_rfl) (by kernel_rfl) (by kernel_rfl) (fun _ _ _ h => h) (Or.inl ⟨by rfl, ?_⟩) hS ?_
      rotate_left
      · rintro W' ⟨c0', c1', hb'⟩
        go_simp
        rfl
      try simp only [Act.put, List.setIfInBounds_toArray, List.set_cons_zero, List.set_cons_succ, List.getElem_toArray, List.getElem_cons_zero, List.getElem_cons_succ]
    refine wpAnyH_done (by kernel_rfl) ?_ _
    have HL := Lib.hid hS.b
    go_wp2_with fail
    go_ret
    refine ⟨by rw [E.out]; rfl, HL.out⟩
  · have e1 : decide (0 < cmpI a 9223372036854775807) = false := by unfold cmpI; rw [if_neg h1]; split <;> decide
    by_cases h2 : a < -9223372036854775808
    · have E : Hid (numF a = -9223372036854775808) := Lib.hid (by unfold numF; rw [if_neg h1, if_pos h2])
      have e2 : cmpI a (-9223372036854775808) = -1 := by unfold cmpI; rw [if_pos h2]
      go_enter Try.func41, Try.ntmps41
      go_upto_region 1 with (fail)
      have E0 : NaS a w (w.alloc (.cells #[hiOf a, loOf a] 87)).drew := NaS.new a w
      refine wp_region_held_drew (S := NaS a w) (by kernel_rfl) E0 (fun hS => ?_)
      refine wpAnyH_take (i := 0) (v := ?_) rfl (by kernel_rfl) (by kernel_rfl) (by kernel_rfl) (fun _ _ _ h => h) (Or.inl ⟨by rfl, ?_⟩) hS ?_
      rotate_left
      · rintro W' ⟨c0', c1', hb'⟩
        go_simp
        rfl
      try simp only [Act.put, List.setIfInBounds_toArray, List.set_cons_zero, List.set_cons_succ, List.getElem_toArray, List.getElem_cons_zero, List.getElem_cons_succ]
      refine wpAnyH_ready (rs := [1]) (by kernel_rfl) (by simp) (AllReadyH.cons rfl (fun K hK => ?_) AllReadyH.nil)
      go_simp
      refine (of_any (9223372036854775807) _ (by decide) (by decide)).mono ?_
      rintro e w7 ⟨rfl, rfl⟩
      refine hK.out _ _ (hS.al _) (fun hS => ?_)
      try simp only [Act.put, List.setIfInBounds_toArray, List.set_cons_zero, List.set_cons_succ, List.getElem_toArray, List.getElem_cons_zero, List.getElem_cons_succ]
      clear hK
      refine wpAnyH_ready (rs := [2]) (by kernel_rfl) (by simp) (AllReadyH.cons rfl (fun K hK => ?_) AllReadyH.nil)
      go_simp
      refine (against_any a (9223372036854775807) _).mono ?_
      rintro e w8 ⟨rfl, rfl⟩
      refine hK.out _ _ ((hS.al _).al _) (fun hS => ?_)
      try simp only [Act.put, List.setIfInBounds_toArray, List.set_cons_zero, List.set_cons_succ, List.getElem_toArray, List.getElem_cons_zero, List.getElem_cons_succ]
      clear hK
      refine wpAnyH_pre (j := 3) (by kernel_rfl) ?_
      iterate 2
        refine wpAnyH_nx (v := ?_) rfl (by kernel_rfl) (by kernel_rfl) (by kernel_rfl) (fun _ _ _ h => h) (Or.inl ⟨by rfl, ?_⟩) hS ?_
        rotate_left
        · rintro W' ⟨c0', c1', hb'⟩
          go_simp
          rfl
        try simp only [Act.put, List.setIfInBounds_toArray, List.set_cons_zero, List.set_cons_succ, List.getElem_toArray, List.getElem_cons_zero, List.getElem_cons_succ]
      refine wpAnyH_done (by kernel_rfl) ?_ _
      go_upto_region 3 with (fail)
      have E0 := hS.drew
      refine wp_region_held_drew (S := NaS a w) (by kernel_rfl) E0 (fun hS => ?_)
      refine wpAnyH_take (i := 0) (v := ?_) rfl (by kernel_rfl) (by kernel_rfl) (by kernel_rfl) (fun _ _ _ h => h) (Or.inl ⟨by rfl, ?_⟩) hS ?_
      rotate_left
      · rintro W' ⟨c0', c1', hb'⟩
        go_simp
        rfl
      try simp only [Act.put, List.setIfInBounds_toArray, List.set_cons_zero, List.set_cons_succ, List.getElem_toArray, List.getElem_cons_zero, List.getElem_cons_succ]
      refine wpAnyH_ready (rs := [1]) (by kernel_rfl) (by simp) (AllReadyH.cons rfl (fun K hK => ?_) AllReadyH.nil)
      go_simp
      refine (of_any (-9223372036854775808) _ (by decide) (by decide)).mono ?_
      rintro e w7 ⟨rfl, rfl⟩
      refine hK.out _ _ (hS.al _) (fun hS => ?_)
      try simp only [Act.put, List.setIfInBounds_toArray, List.set_cons_zero, List.set_cons_succ, List.getElem_toArray, List.getElem_cons_zero, List.getElem_cons_succ]
      clear hK
      refine wpAnyH_ready (rs := [2]) (by kernel_rfl) (by simp) (AllReadyH.cons rfl (fun K hK => ?_) AllReadyH.nil)
      go_simp
      refine (against_any a (-9223372036854775808) _).mono ?_
      rintro e w8 ⟨rfl, rfl⟩
      refine hK.out _ _ ((hS.al _).al _) (fun hS => ?_)
      try simp only [Act.put, List.setIfInBounds_toArray, List.set_cons_zero, List.set_cons_succ, List.getElem_toArray, List.getElem_cons_zero, List.getElem_cons_succ]
      clear hK
      refine wpAnyH_pre (j := 3) (by kernel_rfl) ?_
      iterate 2
        refine wpAnyH_nx (v := ?_) rfl (by kernel_rfl) (by kernel_rfl) (by kernel_rfl) (fun _ _ _ h => h) (Or.inl ⟨by rfl, ?_⟩) hS ?_
        rotate_left
        · rintro W' ⟨c0', c1', hb'⟩
          go_simp
          rfl
        try simp only [Act.put, List.setIfInBounds_toArray, List.set_cons_zero, List.set_cons_succ, List.getElem_toArray, List.getElem_cons_zero, List.getElem_cons_succ]
      refine wpAnyH_done (by kernel_rfl) ?_ _
      have HL := Lib.hid hS.b
      go_wp2_with fail
      go_ret
      refine ⟨by rw [E.out]; rfl, HL.out⟩
    · have e2 : decide (cmpI a (-9223372036854775808) < 0) = false := by unfold cmpI; rw [if_neg h2]; split <;> decide
      have E : Hid (wrap64 (a % 18446744073709551616) = numF a) := Lib.hid (by unfold numF; rw [if_neg h1, if_neg h2, num_mid h1 h2])
      go_enter Try.func41, Try.ntmps41
      go_upto_region 1 with (fail)
      have E0 : NaS a w (w.alloc (.cells #[hiOf a, loOf a] 87)).drew := NaS.new a w
      refine wp_region_held_drew (S := NaS a w) (by kernel_rfl) E0 (fun hS => ?_)
      refine wpAnyH_take (i := 0) (v := ?_) rfl (by kernel_rfl) (by kernel_rfl) (by kernel_rfl) (fun _ _ _ h => h) (Or.inl ⟨by rfl, ?_⟩) hS ?_
      rotate_left
      · rintro W' ⟨c0', c1', hb'⟩
        go_simp
        rfl
      try simp only [Act.put, List.setIfInBounds_toArray, List.set_cons_zero, List.set_cons_succ, List.getElem_toArray, List.getElem_cons_zero, List.getElem_cons_succ]
      refine wpAnyH_ready (rs := [1]) (by kernel_rfl) (by simp) (AllReadyH.cons rfl (fun K hK => ?_) AllReadyH.nil)
      go_simp
      refine (of_any (9223372036854775807) _ (by decide) (by decide)).mono ?_
      rintro e w7 ⟨rfl, rfl⟩
      refine hK.out _ _ (hS.al _) (fun hS => ?_)
      try simp only [Act.put, List.setIfInBounds_toArray, List.set_cons_zero, List.set_cons_succ, List.getElem_toArray, List.getElem_cons_zero, List.getElem_cons_succ]
      clear hK
      refine wpAnyH_ready (rs := [2]) (by kernel_rfl) (by simp) (AllReadyH.cons rfl (fun K hK => ?_) AllReadyH.nil)
      go_simp
      refine (against_any a (9223372036854775807) _).mono ?_
      rintro e w8 ⟨rfl, rfl⟩
      refine hK.out _ _ ((hS.al _).al _) (fun hS => ?_)
      try simp only [Act.put, List.setIfInBounds_toArray, List.set_cons_zero, List.set_cons_succ, List.getElem_toArray, List.getElem_cons_zero, List.getElem_cons_succ]
      clear hK
      refine wpAnyH_pre (j := 3) (by kernel_rfl) ?_
      iterate 2
        refine wpAnyH_nx (v := ?_) rfl (by kernel_rfl) (by kernel_rfl) (by kernel_rfl) (fun _ _ _ h => h) (Or.inl ⟨by rfl, ?_⟩) hS ?_
        rotate_left
        · rintro W' ⟨c0', c1', hb'⟩
          go_simp
          rfl
        try simp only [Act.put, List.setIfInBounds_toArray, List.set_cons_zero, List.set_cons_succ, List.getElem_toArray, List.getElem_cons_zero, List.getElem_cons_succ]
      refine wpAnyH_done (by kernel_rfl) ?_ _
      go_upto_region 3 with (fail)
      have E0 := hS.drew
      refine wp_region_held_drew (S := NaS a w) (by kernel_rfl) E0 (fun hS => ?_)
      refine wpAnyH_take (i := 0) (v := ?_) rfl (by kernel_rfl) (by kernel_rfl) (by kernel_rfl) (fun _ _ _ h => h) (Or.inl ⟨by rfl, ?_⟩) hS ?_
      rotate_left
      · rintro W' ⟨c0', c1', hb'⟩
        go_simp
        rfl
      try simp only [Act.put, List.setIfInBounds_toArray, List.set_cons_zero, List.set_cons_succ, List.getElem_toArray, List.getElem_cons_zero, List.getElem_cons_succ]
      refine wpAnyH_ready (rs := [1]) (by kernel_rfl) (by simp) (AllReadyH.cons rfl (fun K hK => ?_) AllReadyH.nil)
      go_simp
      refine (of_any (-9223372036854775808) _ (by decide) (by decide)).mono ?_
      rintro e w7 ⟨rfl, rfl⟩
      refine hK.out _ _ (hS.al _) (fun hS => ?_)
      try simp only [Act.put, List.setIfInBounds_toArray, List.set_cons_zero, List.set_cons_succ, List.getElem_toArray, List.getElem_cons_zero, List.getElem_cons_succ]
      clear hK
      refine wpAnyH_ready (rs := [2]) (by kernel_rfl) (by simp) (AllReadyH.cons rfl (fun K hK => ?_) AllReadyH.nil)
      go_simp
      refine (against_any a (-9223372036854775808) _).mono ?_
      rintro e w8 ⟨rfl, rfl⟩
      refine hK.out _ _ ((hS.al _).al _) (fun hS => ?_)
      try simp only [Act.put, List.setIfInBounds_toArray, List.set_cons_zero, List.set_cons_succ, List.getElem_toArray, List.getElem_cons_zero, List.getElem_cons_succ]
      clear hK
      refine wpAnyH_pre (j := 3) (by kernel_rfl) ?_
      iterate 2
        refine wpAnyH_nx (v := ?_) rfl (by kernel_rfl) (by kernel_rfl) (by kernel_rfl) (fun _ _ _ h => h) (Or.inl ⟨by rfl, ?_⟩) hS ?_
        rotate_left
        · rintro W' ⟨c0', c1', hb'⟩
          go_simp
          rfl
        try simp only [Act.put, List.setIfInBounds_toArray, List.set_cons_zero, List.set_cons_succ, List.getElem_toArray, List.getElem_cons_zero, List.getElem_cons_succ]
      refine wpAnyH_done (by kernel_rfl) ?_ _
      have HL := Lib.hid hS.b
      have hcv : ∀ W, Sem.run Try.prog (convert 85 2 (loOf a)) W = .ok (.int .i64 (wrap64 (a % 18446744073709551616))) W := fun W => by unfold loOf; go_simp; exact wrap_eq _
      go_wp2_with fail
      go_ret
      refine ⟨by rw [← E.out]; rfl, HL.out⟩
end Go.Proofs.Ytbopeofglhkffaa
namespace Go.Proofs.Ytbopeofglhkffaa
open Go.RowKit
theorem run_store_hi {P : Program} {w : World} {a : Addr} {m : Mode} (x : Int) : (store a (hiOf x) m).run P w = stored P w a (hiOf x) m := run_store P w a _ m rfl
theorem run_store_lo {P : Program} {w : World} {a : Addr} {m : Mode} (x : Int) : (store a (loOf x) m).run P w = stored P w a (loOf x) m := run_store P w a _ m rfl
attribute [local go_sem] run_store_hi run_store_lo
structure ShS (gR gA gW : Nat) (r a q : Int) (w W : World) : Prop where
  r : Blk W gR 87 #[hiOf r, loOf r]
  a : Blk W gA 87 #[hiOf a, loOf a]
  q : Blk W gW 87 #[hiOf q, loOf q]
  k : Kp (fun k => k = gR ∨ k = gW) w W
section
variable {gR gA gW : Nat} {r a q : Int} {w W : World}
theorem ShS.al (h : ShS gR gA gW r a q w W) (o : Obj) : ShS gR gA gW r a q w (W.alloc o) := ⟨h.r.alloc o, h.a.alloc o, h.q.alloc o, h.k.alloc o⟩
theorem ShS.drew (h : ShS gR gA gW r a q w W) : ShS gR gA gW r a q w W.drew := ⟨h.r.drew, h.a.drew, h.q.drew, h.k.drew⟩
theorem ShS.setR (h : ShS gR gA gW r a q w W) (h1 : gR ≠ gA) (h2 : gR ≠ gW) (x : Int) : ShS gR gA gW x a q w ((W.setCell ⟨gR, 0, none⟩ (hiOf x)).setCell ⟨gR, 1, none⟩ (loOf x)) :=
  ⟨(h.r.set_ 0 _).set_ 1 _, (h.a.far (by exact fun e => h1 e.symm) _).far (by exact fun e => h1 e.symm) _, (h.q.far (by exact fun e => h2 e.symm) _).far (by exact fun e => h2 e.symm) _, (h.k.setCell (p := ⟨gR, 0, none⟩) (.inl (.inl rfl)) _).setCell (p := ⟨gR, 1, none⟩) (.inl (.inl rfl)) _⟩
theorem ShS.setQ (h : ShS gR gA gW r a q w W) (h1 : gW ≠ gA) (h2 : gR ≠ gW) (x : Int) : ShS gR gA gW r a x w ((W.setCell ⟨gW, 0, none⟩ (hiOf x)).setCell ⟨gW, 1, none⟩ (loOf x)) :=
  ⟨(h.r.far (by exact h2) _).far (by exact h2) _, (h.a.far (by exact fun e => h1 e.symm) _).far (by exact fun e => h1 e.symm) _, (h.q.set_ 0 _).set_ 1 _, (h.k.setCell (p := ⟨gW, 0, none⟩) (.inl (.inr rfl)) _).setCell (p := ⟨gW, 1, none⟩) (.inl (.inr rfl)) _⟩
end
def addRest (r n a : Int) : Int := if a ≤ r + n then r + n - a else r + n
def addWhole (r n a q : Int) : Int := if a ≤ r + n then q + 1 else q
set_option maxRecDepth 100000 in
set_option maxHeartbeats 1000000 in
theorem add_any (gR gA gW : Nat) (r n a q : Int) (w : World) (h1 : gR ≠ gA) (h2 : gW ≠ gA) (h3 : gR ≠ gW) (hr : 0 ≤ r ∧ r < 170141183460469231731687303715884105728) (hn : 0 ≤ n ∧ r + n < 170141183460469231731687303715884105728) (ha : 0 ≤ a ∧ a < 170141183460469231731687303715884105728) (hq : W128 (q + 1))
    (hs : ShS gR gA gW r a q w w) :
    Calls Try.prog 100 #[.agg #[hiOf n, loOf n], .pointer (some ⟨gR, 0, none⟩), .pointer (some ⟨gA, 0, none⟩), .pointer (some ⟨gW, 0, none⟩)] w fun e w' => e = .returned (.tuple #[]) ∧ ShS gR gA gW (addRest r n a) a (addWhole r n a q) w w' := by
  have hs1 := hs.al (.cells #[hiOf n, loOf n] 87)
  have HS1 := Lib.hid hs1
  have r2 := hs1.r.c2
  have n2 : (w.alloc (.cells #[hiOf n, loOf n] 87)).cell? ⟨w.heap.size, 0, none⟩ = some (hiOf n) ∧ (w.alloc (.cells #[hiOf n, loOf n] 87)).cell? ⟨w.heap.size, 1, none⟩ = some (loOf n) := ⟨cel_two0 _ _ _ _, cel_two1 _ _ _ _⟩
  have hw1 : W128 (r + n) := ⟨by omega, by omega⟩
  obtain ⟨w1, hw⟩ : ∃ w1, w1 = w.alloc (.cells #[hiOf n, loOf n] 87) := ⟨_, rfl⟩
  go_enter Try.func100, Try.ntmps100
  go_upto_region 1 with (fail)
  rw [← hw] at n2 r2 HS1 ⊢
  have nl : w.heap.size < w1.heap.size := by rw [hw]; simp
  have rl0 : gR < w1.heap.size := by have := HS1.out.r.lt; omega
  have rl1 : gR < w1.heap.size + 1 := by have := HS1.out.r.lt; omega
  have rl2 : gR < w1.heap.size + 1 + 1 := by have := HS1.out.r.lt; omega
  have rl3 : gR < w1.heap.size + 1 + 1 + 1 := by have := HS1.out.r.lt; omega
  have f0 := HS1.out.r.frozen 0
  have f1 := HS1.out.r.frozen 1
  clear hs hs1 hw
  go_upto_region 2 with (go_at_call 57; refine (plus_any _ _ _ hw1).mono ?_; rintro e w' ⟨rfl, rfl⟩)
  have HS2 := Lib.hid ((((HS1.out.setR h1 h3 (r + n)).al (.cells #[hiOf r, loOf r] 87)).al (.cells #[hiOf n, loOf n] 87)).al (.cells #[hiOf (r + n), loOf (r + n)] 87))
  obtain ⟨w2, hw2⟩ : ∃ w2, w2 = ((((w1.setCell ⟨gR, 0, none⟩ (hiOf (r + n))).setCell ⟨gR, 1, none⟩ (loOf (r + n))).alloc (.cells #[hiOf r, loOf r] 87)).alloc (.cells #[hiOf n, loOf n] 87)).alloc (.cells #[hiOf (r + n), loOf (r + n)] 87) := ⟨_, rfl⟩
  rw [← hw2] at HS2 ⊢
  clear hw2 n2 r2 f0 f1 rl0 rl1 rl2 rl3 nl
  have r2 := HS2.out.r.c2
  have a2 := HS2.out.a.c2
  have q2 := HS2.out.q.c2
  have f0 := HS2.out.r.frozen 0
  have f1 := HS2.out.r.frozen 1
  have rl0 : gR < w2.heap.size := by have := HS2.out.r.lt; omega
  have rl1 : gR < w2.heap.size + 1 := by have := HS2.out.r.lt; omega
  have rl2 : gR < w2.heap.size + 1 + 1 := by have := HS2.out.r.lt; omega
  have rl3 : gR < w2.heap.size + 1 + 1 + 1 := by have := HS2.out.r.lt; omega
  have al0 : gA < w2.heap.size := by have := HS2.out.a.lt; omega
  have al1 : gA < w2.heap.size + 1 := by have := HS2.out.a.lt; omega
  have al2 : gA < w2.heap.size + 1 + 1 := by have := HS2.out.a.lt; omega
  have al3 : gA < w2.heap.size + 1 + 1 + 1 := by have := HS2.out.a.lt; omega
  have ql0 : gW < w2.heap.size := by have := HS2.out.q.lt; omega
  have ql1 : gW < w2.heap.size + 1 := by have := HS2.out.q.lt; omega
  have ql2 : gW < w2.heap.size + 1 + 1 := by have := HS2.out.q.lt; omega
  have ql3 : gW < w2.heap.size + 1 + 1 + 1 := by have := HS2.out.q.lt; omega
  cases hc : decide (a ≤ r + n)
  · have e1 : decide (0 ≤ cmpI (r + n) a) = false := by have := of_decide_eq_false hc; unfold cmpI; rw [if_pos (by omega)]; rfl
    have E : Hid (addRest r n a = r + n ∧ addWhole r n a q = q) := Lib.hid ⟨if_neg (of_decide_eq_false hc), if_neg (of_decide_eq_false hc)⟩
    go_wp2_with (go_at_call 59; refine (against_any _ _ _).mono ?_; rintro e w' ⟨rfl, rfl⟩)
    go_end0
    rw [E.out.1, E.out.2]
    exact ⟨rfl, (HS2.out.al _).al _⟩
  · have e1 : decide (0 ≤ cmpI (r + n) a) = true := by have := of_decide_eq_true hc; unfold cmpI; rw [if_neg (by omega)]; split <;> rfl
    have E : Hid (addRest r n a = r + n - a ∧ addWhole r n a q = q + 1) := Lib.hid ⟨if_pos (of_decide_eq_true hc), if_pos (of_decide_eq_true hc)⟩
    have hw3 : W128 (r + n - a) := by have := of_decide_eq_true hc; exact ⟨by omega, by omega⟩
    go_upto_region 4 with (first | (go_at_call 59; refine (against_any _ _ _).mono ?_; rintro e w' ⟨rfl, rfl⟩) | (go_at_call 60; refine (minus_any _ _ _ hw3).mono ?_; rintro e w' ⟨rfl, rfl⟩))
    have HS3 := Lib.hid ((((((HS2.out.setR h1 h3 (r + n - a)).al (.cells #[hiOf (r + n), loOf (r + n)] 87)).al (.cells #[hiOf a, loOf a] 87)).al (.cells #[hiOf (r + n), loOf (r + n)] 87)).al (.cells #[hiOf a, loOf a] 87)).al (.cells #[hiOf (r + n - a), loOf (r + n - a)] 87))
    trace_state
    obtain ⟨w3, hw3⟩ : ∃ w3, w3 = ((((((w2.setCell ⟨gR, 0, none⟩ (hiOf (r + n - a))).setCell ⟨gR, 1, none⟩ (loOf (r + n - a))).alloc (.cells #[hiOf (r + n), loOf (r + n)] 87)).alloc (.cells #[hiOf a, loOf a] 87)).alloc (.cells #[hiOf (r + n), loOf (r + n)] 87)).alloc (.cells #[hiOf a, loOf a] 87)).alloc (.cells #[hiOf (r + n - a), loOf (r + n - a)] 87) := ⟨_, rfl⟩
    rw [← hw3] at HS3 ⊢
    clear hw3 r2 a2 q2 f0 f1 rl0 rl1 rl2 rl3 al0 al1 al2 al3 ql0 ql1 ql2 ql3
    have q2 := HS3.out.q.c2
    have f0 := HS3.out.q.frozen 0
    have f1 := HS3.out.q.frozen 1
    have ql0 : gW < w3.heap.size := by have := HS3.out.q.lt; omega
    have ql1 : gW < w3.heap.size + 1 := by have := HS3.out.q.lt; omega
    have ql2 : gW < w3.heap.size + 1 + 1 := by have := HS3.out.q.lt; omega
    have ql3 : gW < w3.heap.size + 1 + 1 + 1 := by have := HS3.out.q.lt; omega
    go_region_with (first | (go_at_call 58; refine (of_any _ _ (by decide) (by decide)).mono ?_; rintro e w' ⟨rfl, rfl⟩) | (go_at_call 57; refine (plus_any _ _ _ hq).mono ?_; rintro e w' ⟨rfl, rfl⟩))
    all_goals
      go_wp2_with fail
      go_end0
      rw [E.out.1, E.out.2]
      refine ⟨rfl, ?_⟩
      first
        | exact ((((HS3.out.drew.setQ h2 h3 (q + 1)).al _).al _).al _).al _
        | exact ((((HS3.out.setQ h2 h3 (q + 1)).al _).al _).al _).al _
end Go.Proofs.Ytbopeofglhkffaa
