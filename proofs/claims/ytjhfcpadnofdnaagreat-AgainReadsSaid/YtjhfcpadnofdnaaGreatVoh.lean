/- The program's valid, of a tree of one node: all, Wrong, Valid. -/
import Derived.Test.YtjhfcpadnofdnaaGreatFe
import Derived.OwnWalkIn
import Derived.TacticsInMore
import Derived.RangeFuncFrom
import Derived.RangeFuncCalls
import Derived.RangeFuncLeaves
import Derived.LoopNIn
set_option linter.unusedSimpArgs false
set_option linter.unusedVariables false
namespace Go.Proofs.YtjhfcpadnofdnaaGreat
open Go.RowKit
attribute [local go_sem] block_of_add Oper.semAt_some
section
variable {ga gN gC gU gH gF gK : Nat} {v uw : Int} {w : World}
set_option maxHeartbeats 1000000 in
theorem vall_one (w : World) : Calls Tryz.prog 29 #[.pointer (some ⟨ga, 0, none⟩)] w fun e w' => e = .returned (.func (.func 51) #[] #[.pointer (some ⟨w.heap.size, 0, none⟩)]) ∧ w.alloc (.cells #[.pointer (some ⟨ga, 0, none⟩)] 107) = w' := by
  go_enter Tryz.func29, Tryz.ntmps29
  go_wp2_with fail
  go_ret
  exact ⟨rfl, rfl⟩
set_option maxRecDepth 100000 in
set_option maxHeartbeats 2000000 in
theorem vall1_seq (n : Nat) (hn1 : 1 ≤ n) (hv : VwV v) (hcu : CB uw) (huw : v = uw → v = 100) (bu n0 : Nat) (w0 : World) (hbu : Blk w0 bu 107 #[.pointer (some ⟨ga, 0, none⟩)]) (q : AskV ga gN gC gU gH gF gK v uw w0) :
    SeqStopsK Fence.wide n Tryz.prog 51 #[.pointer (some ⟨bu, 0, none⟩)] (fun b : Bool => #[.int .i64 0, .bool b]) (Below n0) (fun xs => xs = [v == uw]) (fun pre => pre = [v == uw]) 1 w0 := by
  intro l J Jx W hW hJ hJx hY h0
  refine callsIn_of_wp Tryz.func51 rfl trivial ?_ rfl
  simp only [Tryz.ntmps51, List.size_toArray, List.length_cons, List.length_nil, Nat.reduceAdd, Nat.reduceSub, Array.replicate_succ, Array.replicate_zero, List.push_toArray, List.append_toArray, List.nil_append, List.cons_append]
  have b0 := (hbu.below hW hbu.lt).c1
  have bl := (hbu.below hW hbu.lt).lt
  have HQ : Hid (AskV ga gN gC gU gH gF gK v uw W) := Lib.hid (q.below hW)
  have a0 := HQ.out.a.get 0 rfl
  have al := HQ.out.a.lt
  have HH := Lib.hid (vholds_one hv hcu huw HQ.out)
  have H0 := Lib.hid h0
  clear hW hbu q h0 hv hcu huw
  gi_wp2
  refine wpIn_loop_rounds 2 ?_
  rw [roundsIn_succ]
  gi_wp2_with (refine ⟨trivial, ?_⟩; gi_at_call 30; refine (callsIn_wide.2 HH.out).mono ?_; rintro e W2 ⟨rfl, hb2⟩)
  have HJ2 := Lib.hid (hJ _ _ _ none H0.out (grown0 hb2) (fun r e => by cases e))
  obtain ⟨fn, tmps, assign, body, hy, hR⟩ := hY [] (v == uw) _ HJ2.out (by simp)
  obtain ⟨B, hB⟩ : ∃ B, B = (v == uw) := ⟨_, rfl⟩
  rw [← hB] at hy hR ⊢
  have HBB := Lib.hid hB
  have hy2 : (Instr.yield l #[.int .i64 0, .bool B]).run Tryz.prog W2 = .ok (.round l fn tmps assign body) W2 := hy
  clear hB a0 al b0 bl hb2 hy
  gi_wp2
  rw [hy2]
  refine ⟨fun _ => hn1, hR.mono ?_⟩
  rintro e W3 (⟨rfl, hJ3, hk3⟩ | ⟨rfl, hx3⟩)
  · have HJ3 := Lib.hid hJ3
    clear hR hy2 hJ3 hk3
    gi_wp2
    rw [roundsIn_succ]
    gi_wp2
    go_end0
    exact ⟨⟨_, rfl⟩, .inl ⟨_, rfl, by have := HJ3.out; rw [HBB.out] at this; exact this⟩⟩
  · have HX3 := Lib.hid hx3
    clear hR hy2 hx3
    gi_wp2
    refine bodyPost_ret (results_none rfl _ _ _) rfl ?_
    exact ⟨⟨_, rfl⟩, .inr ⟨_, rfl, by have := HX3.out; rw [HBB.out] at this; exact this⟩⟩
set_option maxRecDepth 100000 in
set_option maxHeartbeats 4000000 in
theorem vwrong_one (hv : VwV v) (hcu : CB uw) (huw : v = uw → v = 100) (hn : Blk w gN 69 (ndsCells l1V).toArray) (hc : Blk w gC 38 #[.int .i64 0, .int .i64 0, .int .i64 0, .int .i64 0]) (hu : Blk w gU 40 #[.int .i64 uw, .int .i64 0, .int .i64 0]) (hh : Blk w gH 2 #[.int .i64 0]) (hf : Blk w gF 43 frV) :
    Calls Tryz.prog 11 #[.agg #[.slice (some ⟨gN, 0, none⟩) 1 1, .slice none 0 0, .int .i64 v], .agg #[.slice (some ⟨gC, 0, none⟩) 1 1, .slice (some ⟨gU, 0, none⟩) 1 1, .slice (some ⟨gH, 0, none⟩) 1 1, .slice (some ⟨gF, 0, none⟩) 1 1]] w fun e w' => e = .returned (.int .i64 (if v = uw then -1 else 0)) ∧ Below w.heap.size w w' := by
  refine (callsIn_wide (n := 5)).1 ?_
  refine callsIn_of_wp_marks Tryz.func11 rfl trivial ?_ rfl
  simp only [Tryz.ntmps11, List.size_toArray, List.length_cons, List.length_nil, Nat.reduceAdd, Nat.reduceSub, Array.replicate_succ, Array.replicate_zero, List.push_toArray, List.append_toArray, List.nil_append, List.cons_append]
  refine wpIn_wide.2 ?_
  have HV : Hid (VwV v ∧ CB uw ∧ (v = uw → v = 100)) := Lib.hid ⟨hv, hcu, huw⟩
  obtain ⟨w1, hw1⟩ : ∃ W, W = ((w.alloc (.cells #[.slice (some ⟨gN, 0, none⟩) 1 1, .slice none 0 0, .int .i64 v] 25)).alloc (.cells #[.slice (some ⟨gC, 0, none⟩) 1 1, .slice (some ⟨gU, 0, none⟩) 1 1, .slice (some ⟨gH, 0, none⟩) 1 1, .slice (some ⟨gF, 0, none⟩) 1 1] 32)).alloc (.cells #[.int .i64 0] 3) := ⟨_, rfl⟩
  have HB1 : Hid (Below w.heap.size w w1) := Lib.hid (by rw [hw1]; exact (((Below.refl _ _).alloc (Nat.le_refl _) _).alloc (by simp) _).alloc (by simp; omega) _)
  have HX1 : Hid (Blk w1 w.heap.size 25 #[.slice (some ⟨gN, 0, none⟩) 1 1, .slice none 0 0, .int .i64 v] ∧ Blk w1 (w.heap.size + 1) 32 #[.slice (some ⟨gC, 0, none⟩) 1 1, .slice (some ⟨gU, 0, none⟩) 1 1, .slice (some ⟨gH, 0, none⟩) 1 1, .slice (some ⟨gF, 0, none⟩) 1 1] ∧ Blk w1 (w.heap.size + 1 + 1) 3 #[.int .i64 0]) := Lib.hid (by
    rw [hw1]
    exact ⟨((Blk.new _ _ _).alloc _).alloc _, (Blk.at_ _ _ _ (by simp)).alloc _, Blk.at_ _ _ _ (by simp)⟩)
  have HMEM := Lib.hid (fun W' (h : Below w.heap.size w W') => And.intro (hn.below h hn.lt) (And.intro (hc.below h hc.lt) (And.intro (hu.below h hu.lt) (And.intro (hh.below h hh.lt) (hf.below h hf.lt)))))
  have HRM := Lib.hid (fun W => vroom_one (gN := gN) (gC := gC) (gU := gU) (gH := gH) (gF := gF) (v := v) (w := W))
  clear hn hc hu hh hf hv hcu huw
  go_upto_region 1 with (fail)
  rw [← hw1]
  clear hw1
  have t0 := HX1.out.1.get 0 rfl
  have t1 := HX1.out.1.get 1 rfl
  have t2 := HX1.out.1.get 2 rfl
  have tl := HX1.out.1.lt
  have x0 := HX1.out.2.1.get 0 rfl
  have x1 := HX1.out.2.1.get 1 rfl
  have x2 := HX1.out.2.1.get 2 rfl
  have x3 := HX1.out.2.1.get 3 rfl
  have xl := HX1.out.2.1.lt
  go_wp2_with fail
  refine (HRM.out _).mono ?_
  rintro e w2 ⟨rfl, hb2⟩
  have HB2 := Lib.hid (HB1.out.trans (hb2.mono HB1.out.size))
  have HR2 := Lib.hid (HX1.out.2.2.below hb2 HX1.out.2.2.lt)
  have HT : Hid (∀ W', Below w2.heap.size w2 W' → ((W'.cell? ⟨w.heap.size, 0, none⟩ = some (.slice (some ⟨gN, 0, none⟩) 1 1) ∧ W'.cell? ⟨w.heap.size, 1, none⟩ = some (.slice none 0 0) ∧ W'.cell? ⟨w.heap.size, 2, none⟩ = some (.int .i64 v)) ∧
      (W'.cell? ⟨w.heap.size + 1, 0, none⟩ = some (.slice (some ⟨gC, 0, none⟩) 1 1) ∧ W'.cell? ⟨w.heap.size + 1, 1, none⟩ = some (.slice (some ⟨gU, 0, none⟩) 1 1) ∧ W'.cell? ⟨w.heap.size + 1, 2, none⟩ = some (.slice (some ⟨gH, 0, none⟩) 1 1) ∧ W'.cell? ⟨w.heap.size + 1, 3, none⟩ = some (.slice (some ⟨gF, 0, none⟩) 1 1)) ∧ w.heap.size < W'.heap.size ∧ w.heap.size + 1 < W'.heap.size)) := Lib.hid (fun W' h => by
    have b := HX1.out.1.below hb2 HX1.out.1.lt
    have c := HX1.out.2.1.below hb2 HX1.out.2.1.lt
    have b := b.below h b.lt
    have c := c.below h c.lt
    exact ⟨⟨b.get 0 rfl, b.get 1 rfl, b.get 2 rfl⟩, ⟨c.get 0 rfl, c.get 1 rfl, c.get 2 rfl, c.get 3 rfl⟩, b.lt, c.lt⟩)
  have HKD := Lib.hid (fun W' (h : Below w2.heap.size w2 W') => kids_one (v := v) (HMEM.out W' (HB2.out.trans (h.mono HB2.out.size))).1)
  have HQ := Lib.hid (fun (gK ga : Nat) (W' : World) (h : Below w2.heap.size w2 W') (bK : Blk W' gK 50 #[.slice none 0 0]) (ba : Blk W' ga 85 #[.slice (some ⟨gN, 0, none⟩) 1 1, .slice none 0 0, .int .i64 v, .slice (some ⟨gC, 0, none⟩) 1 1, .slice (some ⟨gU, 0, none⟩) 1 1, .slice (some ⟨gH, 0, none⟩) 1 1, .slice (some ⟨gF, 0, none⟩) 1 1, .slice (some ⟨gK, 0, none⟩) 1 1]) => (show AskV ga gN gC gU gH gF gK v uw W' from by
    obtain ⟨m1, m2, m3, m4, m5⟩ := HMEM.out W' (HB2.out.trans (h.mono HB2.out.size))
    exact ⟨m1, m2, m3, m4, m5, bK, ba⟩))
  clear hb2 t0 t1 t2 tl x0 x1 x2 x3 xl
  go_upto_region 3 with (fail)
  refine wp_mono (Q := fun e a6 W6 => e = .normal ∧ ∃ gK g5, a6 = { tmps := #[.agg #[.slice (some ⟨gN, 0, none⟩) 1 1, .slice none 0 0, .int .i64 v], .agg #[.slice (some ⟨gC, 0, none⟩) 1 1, .slice (some ⟨gU, 0, none⟩) 1 1, .slice (some ⟨gH, 0, none⟩) 1 1, .slice (some ⟨gF, 0, none⟩) 1 1], .pointer (some ⟨w.heap.size, 0, none⟩), .pointer (some ⟨w.heap.size + 1, 0, none⟩), .pointer (some ⟨w.heap.size + 1 + 1, 0, none⟩), .pointer (some ⟨g5, 0, none⟩), undef, undef, .agg #[.slice (some ⟨gN, 0, none⟩) 1 1, .slice none 0 0, .int .i64 v], .agg #[.slice (some ⟨gC, 0, none⟩) 1 1, .slice (some ⟨gU, 0, none⟩) 1 1, .slice (some ⟨gH, 0, none⟩) 1 1, .slice (some ⟨gF, 0, none⟩) 1 1], .bool true, .bool false, .agg #[.slice (some ⟨gN, 0, none⟩) 1 1, .slice none 0 0, .int .i64 v], .agg #[.slice (some ⟨gC, 0, none⟩) 1 1, .slice (some ⟨gU, 0, none⟩) 1 1, .slice (some ⟨gH, 0, none⟩) 1 1, .slice (some ⟨gF, 0, none⟩) 1 1], .agg #[.slice (some ⟨gN, 0, none⟩) 1 1, .slice none 0 0, .int .i64 v], .slice (some ⟨gK, 0, none⟩) 1 1, .agg #[.slice (some ⟨gN, 0, none⟩) 1 1, .slice none 0 0, .int .i64 v, .slice (some ⟨gC, 0, none⟩) 1 1, .slice (some ⟨gU, 0, none⟩) 1 1, .slice (some ⟨gH, 0, none⟩) 1 1, .slice (some ⟨gF, 0, none⟩) 1 1, .slice (some ⟨gK, 0, none⟩) 1 1], undef, undef, undef, undef, undef, undef], defers := [] } ∧ Hid (AskV g5 gN gC gU gH gF gK v uw W6) ∧ Hid (Below w2.heap.size w2 W6)) ?_ ?_
  rotate_left
  · rintro e a6 W6 ⟨rfl, gK, g5, rfl, HQ6, HS6⟩
    have HR6 : Hid (Blk W6 (w.heap.size + 1 + 1) 3 #[.int .i64 0] ∧ Below w.heap.size w W6) := Lib.hid ⟨HR2.out.below HS6.out HR2.out.lt, HB2.out.trans (HS6.out.mono HB2.out.size)⟩
    go_wp2_with fail
    refine (vall_one _).mono ?_
    rintro e w7 ⟨rfl, hw7⟩
    have hb7 : Below W6.heap.size W6 w7 := by rw [← hw7]; exact (Below.refl _ _).alloc (Nat.le_refl _) _
    have HBX : Hid (Blk w7 W6.heap.size 107 #[.pointer (some ⟨g5, 0, none⟩)]) := Lib.hid (by rw [← hw7]; exact Blk.new _ _ _)
    have HR7 : Hid (Blk w7 (w.heap.size + 1 + 1) 3 #[.int .i64 0] ∧ Below w.heap.size w w7) := Lib.hid ⟨HR6.out.1.below hb7 HR6.out.1.lt, HR6.out.2.trans (hb7.mono HR6.out.2.size)⟩
    have HQ7 := Lib.hid (HQ6.out.below hb7)
    have HSQ := Lib.hid (vall1_seq 4 (by decide) HV.out.1 HV.out.2.1 HV.out.2.2 W6.heap.size w.heap.size w7 HBX.out HQ7.out)
    have HG7 : Hid (w.heap.size + 1 + 1 < w7.heap.size ∧ w.heap.size ≤ w7.heap.size) := Lib.hid ⟨HR7.out.1.lt, HR7.out.2.size⟩
    clear hw7 hb7
    go_wp2_with fail
    refine (wpIn_wide (n := 5)).1 ?_
    refine wpIn_rangeFunc_ownF (F := Fence.wide) (n := 5) (w0 := w7) rfl (by decide) (gf := 51) (lb := #[.pointer (some ⟨W6.heap.size, 0, none⟩)]) rfl trivial
      (enters_of Tryz.func51 (by kernel_rfl) rfl) HSQ.out belowK_t (belowK_b HG7.out.2) (Below.refl _ _) (fun _ => rfl)
      (fun pre W => ((∀ b ∈ pre, b = true) ∧ Blk W (w.heap.size + 1 + 1) 3 #[.int .i64 0]) ∧ Below w.heap.size w W)
      (fun cd pre W => (cd = .ret ∧ (∃ b ∈ pre, b = false) ∧ Blk W (w.heap.size + 1 + 1) 3 #[.int .i64 0]) ∧ Below w.heap.size w W)
      (OwnFrom.and (fun s A B row hs hg hr => ⟨hs.1, (hg.block _ hs.2.lt (fun e => by have := (hr _ e.symm).1; have := HG7.out.1; omega)).trans hs.2⟩) (ownFrom_below (Nat.le_refl _) HG7.out.2))
      (fun c => OwnFrom.and (fun s A B row hs hg hr => ⟨hs.1, hs.2.1, (hg.block _ hs.2.2.lt (fun e => by have := (hr _ e.symm).1; have := HG7.out.1; omega)).trans hs.2.2⟩) (ownFrom_below (Nat.le_refl _) HG7.out.2))
      ⟨⟨by simp, HR7.out.1⟩, HR7.out.2⟩ ?a1 ?assign ?body ?done ?stop
    case assign =>
      intro l x W K hK
      gi_wp2
      exact hK
    case body =>
      rintro l pre x W ⟨⟨hp, hb⟩, hB⟩ _
      have HB := Lib.hid (And.intro hb hB)
      have HP := Lib.hid hp
      have r0 := hb.c1
      have rl := hb.lt
      have rf := hb.frozen 0
      clear hp hb hB
      cases x
      · gi_wp2
        exact ⟨KeepsOthers.setCell _ _ _, ⟨rfl, ⟨false, by simp, rfl⟩, HB.out.1.set_ 0 (.int .i64 0)⟩, HB.out.2.setCell (p := ⟨w.heap.size + 1 + 1, 0, none⟩) (by simp; omega) _⟩
      · gi_wp2
        exact ⟨KeepsOthers.refl _, Below.refl _ _, ⟨fun y hy => (List.mem_append.1 hy).elim (HP.out y) (fun e => by simpa using e), HB.out.1⟩, HB.out.2⟩
    case done =>
      rintro D ys W hD rfl ⟨⟨hne, hr⟩, hB⟩ hK
      have hvu : v = uw := by have := hne (v == uw) (by simp); exact beq_iff_eq.1 this
      have r0 := hr.c1
      have rl := hr.lt
      have rf := hr.frozen 0
      go_wp2_with fail
      have hK' := (KeepsOthers.setCell W ⟨w.heap.size + 1 + 1, 0, none⟩ (.int .i64 (-1))).same D _ hK rfl
      refine ⟨by simp, .inl ⟨_, _, rfl, run_takeDeferred hK', ?_⟩⟩
      have hg := HG7.out
      have hY : Blk ((W.setCell ⟨w.heap.size + 1 + 1, 0, none⟩ (.int .i64 (-1))).putObj D (.deferred none)) (w.heap.size + 1 + 1) 3 #[.int .i64 (-1)] := (World.putObj_heap_other (by omega)).trans (hr.set_ 0 (.int .i64 (-1)))
      have hY0 := hY.c1
      refine ⟨.int .i64 (-1), ?_, by first | rfl | rw [if_pos hvu], (hB.setCell (p := ⟨w.heap.size + 1 + 1, 0, none⟩) (by simp; omega) _).trans (belowK_b (w := w) (Nat.le_refl _) _ D _ _ (by omega) hK' rfl rfl)⟩
      simp [results, Tryz.results11, go_sem, hY0]
    case stop =>
      rintro D c pre W hD rfl ⟨⟨rfl, hin, hr⟩, hB⟩ hK
      have hvu : ¬ v = uw := by obtain ⟨b, hb1, hb2⟩ := hin; intro h; simp only [List.mem_cons, List.not_mem_nil, or_false] at hb1; rw [hb2] at hb1; exact absurd (beq_iff_eq.2 h) (by rw [← hb1]; simp)
      gi_wp2
      refine ⟨by simp, .inl ⟨_, _, rfl, run_takeDeferred hK, ?_⟩⟩
      have hg := HG7.out
      have hY : Blk (W.putObj D (.deferred none)) (w.heap.size + 1 + 1) 3 #[.int .i64 0] := (World.putObj_heap_other (by omega)).trans hr
      have hY0 := hY.c1
      refine ⟨.int .i64 0, ?_, by first | rfl | rw [if_neg hvu], hB.trans (belowK_b (w := w) (Nat.le_refl _) _ D _ _ (by omega) hK rfl rfl)⟩
      simp [results, Tryz.results11, go_sem, hY0]
  have E0 : Below w2.heap.size w2 w2.drew := (Below.refl _ _).drew
  refine wp_region_held_drew (S := fun W => Below w2.heap.size w2 W) (by kernel_rfl) E0 (fun hS => ?_)
  refine wpAnyH_take (i := 0) (v := ?_) rfl (by kernel_rfl) (by kernel_rfl) (by kernel_rfl) (fun _ _ _ h => nomatch h.1) (Or.inl ⟨by rfl, ?_⟩) hS ?_
  rotate_left
  · intro W' hS'
    have hT := HT.out _ hS'
    obtain ⟨⟨t0, t1, t2⟩, ⟨x0, x1, x2, x3⟩, tl, xl⟩ := hT
    go_simp
    rfl
  try simp only [Act.put, List.setIfInBounds_toArray, List.set_cons_zero, List.set_cons_succ, List.getElem_toArray, List.getElem_cons_zero, List.getElem_cons_succ]
  refine wpAnyH_take (i := 1) (v := ?_) rfl (by kernel_rfl) (by kernel_rfl) (by kernel_rfl) (fun _ _ _ h => nomatch h.1) (Or.inl ⟨by rfl, ?_⟩) hS ?_
  rotate_left
  · intro W' hS'
    have hT := HT.out _ hS'
    obtain ⟨⟨t0, t1, t2⟩, ⟨x0, x1, x2, x3⟩, tl, xl⟩ := hT
    go_simp
    rfl
  try simp only [Act.put, List.setIfInBounds_toArray, List.set_cons_zero, List.set_cons_succ, List.getElem_toArray, List.getElem_cons_zero, List.getElem_cons_succ]
  refine wpAnyH_take (i := 2) (v := ?_) rfl (by kernel_rfl) (by kernel_rfl) (by kernel_rfl) (fun _ _ _ h => nomatch h.1) (Or.inl ⟨by rfl, ?_⟩) hS ?_
  rotate_left
  · intro W' hS'
    have hT := HT.out _ hS'
    obtain ⟨⟨t0, t1, t2⟩, ⟨x0, x1, x2, x3⟩, tl, xl⟩ := hT
    go_simp
    rfl
  try simp only [Act.put, List.setIfInBounds_toArray, List.set_cons_zero, List.set_cons_succ, List.getElem_toArray, List.getElem_cons_zero, List.getElem_cons_succ]
  refine wpAnyH_ready (rs := [3, 5]) (by kernel_rfl) (by simp) (AllReadyH.cons rfl (fun K hK => ?_) (AllReadyH.cons rfl (fun K hK => ?_) AllReadyH.nil))
  · go_simp
    refine (HKD.out _ hS).mono ?_
    rintro e w4 ⟨⟨gK, rfl, bK⟩, hbb⟩
    have hS4 : Below w2.heap.size w2 w4 := hS.trans (hbb.mono hS.size)
    have lK := bK.lt
    clear hbb
    refine hK.out _ _ hS4 (fun hS => ?_)
    try simp only [Act.put, List.setIfInBounds_toArray, List.set_cons_zero, List.set_cons_succ, List.getElem_toArray, List.getElem_cons_zero, List.getElem_cons_succ]
    clear hK
    refine wpAnyH_take (i := 4) (v := .agg #[.slice (some ⟨gN, 0, none⟩) 1 1, .slice none 0 0, .int .i64 v, .slice (some ⟨gC, 0, none⟩) 1 1, .slice (some ⟨gU, 0, none⟩) 1 1, .slice (some ⟨gH, 0, none⟩) 1 1, .slice (some ⟨gF, 0, none⟩) 1 1, .slice (some ⟨gK, 0, none⟩) 1 1]) rfl (by kernel_rfl) (by kernel_rfl) (by kernel_rfl) (fun _ _ _ h => nomatch h.1) (Or.inl ⟨by rfl, ?_⟩) hS ?_
    · intro W' hS'
      kernel_rfl
    try simp only [Act.put, List.setIfInBounds_toArray, List.set_cons_zero, List.set_cons_succ, List.getElem_toArray, List.getElem_cons_zero, List.getElem_cons_succ]
    refine wpAnyH_ready (rs := [5]) (by kernel_rfl) (by simp) (AllReadyH.cons rfl (fun K hK => ?_) AllReadyH.nil)
    go_simp
    refine hK.out _ _ (hS4.alloc hS4.size _) (fun hS => ?_)
    try simp only [Act.put, List.setIfInBounds_toArray, List.set_cons_zero, List.set_cons_succ, List.getElem_toArray, List.getElem_cons_zero, List.getElem_cons_succ]
    clear hK
    obtain ⟨g5, hg5⟩ : ∃ g, g = w4.heap.size := ⟨_, rfl⟩
    obtain ⟨W5, hW5⟩ : ∃ W, W = w4.alloc (.cells #[.slice none 0 0, .slice none 0 0, .int .i64 0, .slice none 0 0, .slice none 0 0, .slice none 0 0, .slice none 0 0, .slice none 0 0] 85) := ⟨_, rfl⟩
    have b5 : Blk W5 g5 85 #[.slice none 0 0, .slice none 0 0, .int .i64 0, .slice none 0 0, .slice none 0 0, .slice none 0 0, .slice none 0 0, .slice none 0 0] := by rw [hW5, hg5]; exact Blk.new _ _ _
    have bK := (show Blk W5 gK 50 #[.slice none 0 0] by rw [hW5]; exact bK.alloc _)
    rw [← hW5] at hS ⊢
    rw [← hg5]
    have hge : w2.heap.size ≤ g5 := by rw [hg5]; exact hS4.size
    have hne : g5 ≠ gK := Blk.ne_ b5 bK (by decide)
    clear hW5 hg5
    have z0 := b5.get 0 rfl
    have z1 := b5.get 1 rfl
    have z2 := b5.get 2 rfl
    have z3 := b5.get 3 rfl
    have z4 := b5.get 4 rfl
    have z5 := b5.get 5 rfl
    have z6 := b5.get 6 rfl
    have z7 := b5.get 7 rfl
    have zl := b5.lt
    have zf0 := b5.frozen 0
    have zf1 := b5.frozen 1
    have zf2 := b5.frozen 2
    have zf3 := b5.frozen 3
    have zf4 := b5.frozen 4
    have zf5 := b5.frozen 5
    have zf6 := b5.frozen 6
    have zf7 := b5.frozen 7
    have HBLK := ((((((((b5.set_ 0 (.slice (some ⟨gN, 0, none⟩) 1 1)).set_ 1 (.slice none 0 0)).set_ 2 (.int .i64 v)).set_ 3 (.slice (some ⟨gC, 0, none⟩) 1 1)).set_ 4 (.slice (some ⟨gU, 0, none⟩) 1 1)).set_ 5 (.slice (some ⟨gH, 0, none⟩) 1 1)).set_ 6 (.slice (some ⟨gF, 0, none⟩) 1 1)).set_ 7 (.slice (some ⟨gK, 0, none⟩) 1 1))
    have HBEL := ((((((((hS.setCell (p := ⟨g5, 0, none⟩) hge (.slice (some ⟨gN, 0, none⟩) 1 1)).setCell (p := ⟨g5, 1, none⟩) hge (.slice none 0 0)).setCell (p := ⟨g5, 2, none⟩) hge (.int .i64 v)).setCell (p := ⟨g5, 3, none⟩) hge (.slice (some ⟨gC, 0, none⟩) 1 1)).setCell (p := ⟨g5, 4, none⟩) hge (.slice (some ⟨gU, 0, none⟩) 1 1)).setCell (p := ⟨g5, 5, none⟩) hge (.slice (some ⟨gH, 0, none⟩) 1 1)).setCell (p := ⟨g5, 6, none⟩) hge (.slice (some ⟨gF, 0, none⟩) 1 1)).setCell (p := ⟨g5, 7, none⟩) hge (.slice (some ⟨gK, 0, none⟩) 1 1))
    have HBK := ((((((((bK.far (p := ⟨g5, 0, none⟩) (Ne.symm hne) (.slice (some ⟨gN, 0, none⟩) 1 1)).far (p := ⟨g5, 1, none⟩) (Ne.symm hne) (.slice none 0 0)).far (p := ⟨g5, 2, none⟩) (Ne.symm hne) (.int .i64 v)).far (p := ⟨g5, 3, none⟩) (Ne.symm hne) (.slice (some ⟨gC, 0, none⟩) 1 1)).far (p := ⟨g5, 4, none⟩) (Ne.symm hne) (.slice (some ⟨gU, 0, none⟩) 1 1)).far (p := ⟨g5, 5, none⟩) (Ne.symm hne) (.slice (some ⟨gH, 0, none⟩) 1 1)).far (p := ⟨g5, 6, none⟩) (Ne.symm hne) (.slice (some ⟨gF, 0, none⟩) 1 1)).far (p := ⟨g5, 7, none⟩) (Ne.symm hne) (.slice (some ⟨gK, 0, none⟩) 1 1))
    refine wpAnyH_ready (rs := [6]) (by kernel_rfl) (by simp) (AllReadyH.cons rfl (fun K hK => ?_) AllReadyH.nil)
    go_simp
    refine hK.out _ _ HBEL (fun hS => ?_)
    try simp only [Act.put, List.setIfInBounds_toArray, List.set_cons_zero, List.set_cons_succ, List.getElem_toArray, List.getElem_cons_zero, List.getElem_cons_succ]
    clear hK
    obtain ⟨W6, hW6⟩ : ∃ W, W = ((((((((W5.setCell ⟨g5, 0, none⟩ (.slice (some ⟨gN, 0, none⟩) 1 1)).setCell ⟨g5, 1, none⟩ (.slice none 0 0)).setCell ⟨g5, 2, none⟩ (.int .i64 v)).setCell ⟨g5, 3, none⟩ (.slice (some ⟨gC, 0, none⟩) 1 1)).setCell ⟨g5, 4, none⟩ (.slice (some ⟨gU, 0, none⟩) 1 1)).setCell ⟨g5, 5, none⟩ (.slice (some ⟨gH, 0, none⟩) 1 1)).setCell ⟨g5, 6, none⟩ (.slice (some ⟨gF, 0, none⟩) 1 1)).setCell ⟨g5, 7, none⟩ (.slice (some ⟨gK, 0, none⟩) 1 1)) := ⟨_, rfl⟩
    rw [← hW6] at HBLK HBEL HBK ⊢
    clear hS hW6 b5 bK z0 zf0 z1 zf1 z2 zf2 z3 zf3 z4 zf4 z5 zf5 z6 zf6 z7 zf7 zl
    refine wpAnyH_done (by kernel_rfl) ?_ _
    have HS6 := Lib.hid HBEL
    have HQ6 : Hid (AskV g5 gN gC gU gH gF gK v uw W6) := Lib.hid (HQ.out gK g5 _ HBEL HBK (by simpa using HBLK))
    clear HBLK HBEL HBK
    exact ⟨rfl, gK, g5, rfl, HQ6, HS6⟩
  · go_simp
    refine hK.out _ _ (hS.alloc hS.size _) (fun hS => ?_)
    try simp only [Act.put, List.setIfInBounds_toArray, List.set_cons_zero, List.set_cons_succ, List.getElem_toArray, List.getElem_cons_zero, List.getElem_cons_succ]
    clear hK
    obtain ⟨W5, hW5⟩ : ∃ W, W = (w2.alloc (.cells #[.slice none 0 0, .slice none 0 0, .int .i64 0, .slice none 0 0, .slice none 0 0, .slice none 0 0, .slice none 0 0, .slice none 0 0] 85)).drew := ⟨_, rfl⟩
    have b5' : Blk W5 w2.heap.size 85 #[.slice none 0 0, .slice none 0 0, .int .i64 0, .slice none 0 0, .slice none 0 0, .slice none 0 0, .slice none 0 0, .slice none 0 0] := by rw [hW5]; exact (Blk.new _ _ _).drew
    rw [← hW5] at hS ⊢
    have hge : w2.heap.size ≤ w2.heap.size := Nat.le_refl _
    clear hW5
    refine wpAnyH_ready (rs := [3]) (by kernel_rfl) (by simp) (AllReadyH.cons rfl (fun K hK => ?_) AllReadyH.nil)
    go_simp
    refine (HKD.out _ hS).mono ?_
    rintro e w4 ⟨⟨gK, rfl, bK⟩, hbb⟩
    have hS4 : Below w2.heap.size w2 w4 := hS.trans (hbb.mono hS.size)
    have b5 := b5'.below hbb b5'.lt
    have hne : w2.heap.size ≠ gK := Blk.ne_ b5 bK (by decide)
    clear hbb b5'
    refine hK.out _ _ hS4 (fun hS => ?_)
    try simp only [Act.put, List.setIfInBounds_toArray, List.set_cons_zero, List.set_cons_succ, List.getElem_toArray, List.getElem_cons_zero, List.getElem_cons_succ]
    clear hK
    refine wpAnyH_take (i := 4) (v := .agg #[.slice (some ⟨gN, 0, none⟩) 1 1, .slice none 0 0, .int .i64 v, .slice (some ⟨gC, 0, none⟩) 1 1, .slice (some ⟨gU, 0, none⟩) 1 1, .slice (some ⟨gH, 0, none⟩) 1 1, .slice (some ⟨gF, 0, none⟩) 1 1, .slice (some ⟨gK, 0, none⟩) 1 1]) rfl (by kernel_rfl) (by kernel_rfl) (by kernel_rfl) (fun _ _ _ h => nomatch h.1) (Or.inl ⟨by rfl, ?_⟩) hS ?_
    · intro W' hS'
      kernel_rfl
    try simp only [Act.put, List.setIfInBounds_toArray, List.set_cons_zero, List.set_cons_succ, List.getElem_toArray, List.getElem_cons_zero, List.getElem_cons_succ]
    have z0 := b5.get 0 rfl
    have z1 := b5.get 1 rfl
    have z2 := b5.get 2 rfl
    have z3 := b5.get 3 rfl
    have z4 := b5.get 4 rfl
    have z5 := b5.get 5 rfl
    have z6 := b5.get 6 rfl
    have z7 := b5.get 7 rfl
    have zl := b5.lt
    have zf0 := b5.frozen 0
    have zf1 := b5.frozen 1
    have zf2 := b5.frozen 2
    have zf3 := b5.frozen 3
    have zf4 := b5.frozen 4
    have zf5 := b5.frozen 5
    have zf6 := b5.frozen 6
    have zf7 := b5.frozen 7
    have HBLK := ((((((((b5.set_ 0 (.slice (some ⟨gN, 0, none⟩) 1 1)).set_ 1 (.slice none 0 0)).set_ 2 (.int .i64 v)).set_ 3 (.slice (some ⟨gC, 0, none⟩) 1 1)).set_ 4 (.slice (some ⟨gU, 0, none⟩) 1 1)).set_ 5 (.slice (some ⟨gH, 0, none⟩) 1 1)).set_ 6 (.slice (some ⟨gF, 0, none⟩) 1 1)).set_ 7 (.slice (some ⟨gK, 0, none⟩) 1 1))
    have HBEL := ((((((((hS.setCell (p := ⟨w2.heap.size, 0, none⟩) hge (.slice (some ⟨gN, 0, none⟩) 1 1)).setCell (p := ⟨w2.heap.size, 1, none⟩) hge (.slice none 0 0)).setCell (p := ⟨w2.heap.size, 2, none⟩) hge (.int .i64 v)).setCell (p := ⟨w2.heap.size, 3, none⟩) hge (.slice (some ⟨gC, 0, none⟩) 1 1)).setCell (p := ⟨w2.heap.size, 4, none⟩) hge (.slice (some ⟨gU, 0, none⟩) 1 1)).setCell (p := ⟨w2.heap.size, 5, none⟩) hge (.slice (some ⟨gH, 0, none⟩) 1 1)).setCell (p := ⟨w2.heap.size, 6, none⟩) hge (.slice (some ⟨gF, 0, none⟩) 1 1)).setCell (p := ⟨w2.heap.size, 7, none⟩) hge (.slice (some ⟨gK, 0, none⟩) 1 1))
    have HBK := ((((((((bK.far (p := ⟨w2.heap.size, 0, none⟩) (Ne.symm hne) (.slice (some ⟨gN, 0, none⟩) 1 1)).far (p := ⟨w2.heap.size, 1, none⟩) (Ne.symm hne) (.slice none 0 0)).far (p := ⟨w2.heap.size, 2, none⟩) (Ne.symm hne) (.int .i64 v)).far (p := ⟨w2.heap.size, 3, none⟩) (Ne.symm hne) (.slice (some ⟨gC, 0, none⟩) 1 1)).far (p := ⟨w2.heap.size, 4, none⟩) (Ne.symm hne) (.slice (some ⟨gU, 0, none⟩) 1 1)).far (p := ⟨w2.heap.size, 5, none⟩) (Ne.symm hne) (.slice (some ⟨gH, 0, none⟩) 1 1)).far (p := ⟨w2.heap.size, 6, none⟩) (Ne.symm hne) (.slice (some ⟨gF, 0, none⟩) 1 1)).far (p := ⟨w2.heap.size, 7, none⟩) (Ne.symm hne) (.slice (some ⟨gK, 0, none⟩) 1 1))
    refine wpAnyH_ready (rs := [6]) (by kernel_rfl) (by simp) (AllReadyH.cons rfl (fun K hK => ?_) AllReadyH.nil)
    go_simp
    refine hK.out _ _ HBEL (fun hS => ?_)
    try simp only [Act.put, List.setIfInBounds_toArray, List.set_cons_zero, List.set_cons_succ, List.getElem_toArray, List.getElem_cons_zero, List.getElem_cons_succ]
    clear hK
    obtain ⟨W6, hW6⟩ : ∃ W, W = ((((((((w4.setCell ⟨w2.heap.size, 0, none⟩ (.slice (some ⟨gN, 0, none⟩) 1 1)).setCell ⟨w2.heap.size, 1, none⟩ (.slice none 0 0)).setCell ⟨w2.heap.size, 2, none⟩ (.int .i64 v)).setCell ⟨w2.heap.size, 3, none⟩ (.slice (some ⟨gC, 0, none⟩) 1 1)).setCell ⟨w2.heap.size, 4, none⟩ (.slice (some ⟨gU, 0, none⟩) 1 1)).setCell ⟨w2.heap.size, 5, none⟩ (.slice (some ⟨gH, 0, none⟩) 1 1)).setCell ⟨w2.heap.size, 6, none⟩ (.slice (some ⟨gF, 0, none⟩) 1 1)).setCell ⟨w2.heap.size, 7, none⟩ (.slice (some ⟨gK, 0, none⟩) 1 1)) := ⟨_, rfl⟩
    rw [← hW6] at HBLK HBEL HBK ⊢
    clear hS hW6 b5 bK z0 zf0 z1 zf1 z2 zf2 z3 zf3 z4 zf4 z5 zf5 z6 zf6 z7 zf7 zl
    refine wpAnyH_done (by kernel_rfl) ?_ _
    have HS6 := Lib.hid HBEL
    have HQ6 : Hid (AskV w2.heap.size gN gC gU gH gF gK v uw W6) := Lib.hid (HQ.out gK w2.heap.size _ HBEL HBK (by simpa using HBLK))
    clear HBLK HBEL HBK
    exact ⟨rfl, gK, w2.heap.size, rfl, HQ6, HS6⟩
end
end Go.Proofs.YtjhfcpadnofdnaaGreat
