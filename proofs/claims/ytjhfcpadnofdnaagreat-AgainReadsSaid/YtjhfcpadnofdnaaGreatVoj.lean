/- seq of a tree of one node: values, least; islands.Roots. -/
import Derived.Test.YtjhfcpadnofdnaaGreatVoh
set_option linter.unusedSimpArgs false
set_option linter.unusedVariables false
namespace Go.Proofs.YtjhfcpadnofdnaaGreat
open Go.RowKit
attribute [local go_sem] block_of_add
/-- The table of a tree of one node. -/
structure TabV (gC gU gH gF : Nat) (uw : Int) (W : World) : Prop where
  c : Blk W gC 38 #[.int .i64 0, .int .i64 0, .int .i64 0, .int .i64 0]
  u : Blk W gU 40 #[.int .i64 uw, .int .i64 0, .int .i64 0]
  h : Blk W gH 2 #[.int .i64 0]
  f : Blk W gF 43 #[.int .i64 0, .int .i64 0, .int .i64 uw, .int .i64 0, .slice none 0 0]
section
variable {ga gN gC gU gH gF gK : Nat} {v uw : Int} {w : World}
theorem TabV.below {W W' : World} (q : TabV gC gU gH gF uw W) (hb : Below W.heap.size W W') : TabV gC gU gH gF uw W' :=
  ⟨q.c.below hb q.c.lt, q.u.below hb q.u.lt, q.h.below hb q.h.lt, q.f.below hb q.f.lt⟩
set_option maxRecDepth 100000 in
set_option maxHeartbeats 2000000 in
theorem vvalid_one (hv : VwV v) (hn : Blk w gN 69 (ndsCells l1V).toArray) (q : TabV gC gU gH gF 100 w) :
    Calls Tryz.prog 10 #[.agg #[.slice (some ⟨gN, 0, none⟩) 1 1, .slice none 0 0, .int .i64 v], .agg #[.slice (some ⟨gC, 0, none⟩) 1 1, .slice (some ⟨gU, 0, none⟩) 1 1, .slice (some ⟨gH, 0, none⟩) 1 1, .slice (some ⟨gF, 0, none⟩) 1 1]] w fun e w' => e = .returned (.bool (decide (v = 100))) ∧ Below w.heap.size w w' := by
  have HW := Lib.hid (fun W' (h : Below w.heap.size w W') => vwrong_one hv vw100.c (fun h => h) (hn.below h hn.lt) (q.below (h.mono (Nat.le_refl _))).c (q.below (h.mono (Nat.le_refl _))).u (q.below (h.mono (Nat.le_refl _))).h (q.below (h.mono (Nat.le_refl _))).f)
  have HB : Hid (∀ o o2 : Obj, Below w.heap.size w ((w.alloc o).alloc o2)) := Lib.hid (fun o o2 => ((Below.refl _ _).alloc (Nat.le_refl _) _).alloc (by simp) _)
  clear hn q hv
  by_cases h : v = 100
  · have e1 : decide (v = 100) = true := decide_eq_true h
    rw [e1]
    simp only [if_pos h] at HW
    clear h e1
    go_enter Tryz.func10, Tryz.ntmps10
    go_wp2_with fail
    refine (HW.out _ (HB.out _ _)).mono ?_
    rintro e w2 ⟨rfl, hb2⟩
    have HB2 := Lib.hid ((HB.out _ _).trans (hb2.mono (HB.out _ _).size))
    clear hb2
    go_wp2_with fail
    go_ret
    exact ⟨rfl, HB2.out⟩
  · have e1 : decide (v = 100) = false := decide_eq_false h
    rw [e1]
    simp only [if_neg h] at HW
    clear h e1
    go_enter Tryz.func10, Tryz.ntmps10
    go_wp2_with fail
    refine (HW.out _ (HB.out _ _)).mono ?_
    rintro e w2 ⟨rfl, hb2⟩
    have HB2 := Lib.hid ((HB.out _ _).trans (hb2.mono (HB.out _ _).size))
    clear hb2
    go_wp2_with fail
    go_ret
    exact ⟨rfl, HB2.out⟩
end
end Go.Proofs.YtjhfcpadnofdnaaGreat
namespace Go.Proofs.YtjhfcpadnofdnaaGreat
open Go.RowKit
attribute [local go_sem] block_of_add
section
variable {ga gN gC gU gH gF gK : Nat} {v uw : Int} {w : World}
set_option maxHeartbeats 2000000 in
theorem svalC_one (C : Value) (w : World) : Calls Tryz.prog 180 #[C, .slice none 0 0] w fun e w' => (∃ g, e = .returned (.slice (some ⟨g, 0, none⟩) 0 0)) ∧ Below w.heap.size w w' := by
  have hmk : ∀ W : World, (Instr.makeSlice 28 (.int .i64 0) (.int .i64 0)).run Tryz.prog W = .ok (.slice (some ⟨W.heap.size, 0, none⟩) 0 0) (W.alloc (.cells (cnsCells (List.replicate 0 cn0)).toArray 38)) := fun W => make_cns 0 (by omega) W
  have HB : Hid (∀ o : Obj, Below w.heap.size w (w.alloc o)) := Lib.hid (fun o => (Below.refl _ _).alloc (Nat.le_refl _) _)
  go_enter Tryz.func180, Tryz.ntmps180
  go_wp2_with fail
  refine wp_loop0 ?_
  go_wp2_with fail
  go_ret
  exact ⟨⟨_, rfl⟩, HB.out _⟩
theorem make_uds1 (W : World) : (Instr.makeSlice 29 (.int .i64 1) (.int .i64 1)).run Tryz.prog W = .ok (.slice (some ⟨W.heap.size, 0, none⟩) 1 1) (W.alloc (.cells #[.int .i64 0, .int .i64 0, .int .i64 0] 40)) := by kernel_rfl
theorem make_boo1 (W : World) : (Instr.makeSlice 57 (.int .i64 1) (.int .i64 1)).run Tryz.prog W = .ok (.slice (some ⟨W.heap.size, 0, none⟩) 1 1) (W.alloc (.cells #[.bool false] 4)) := by kernel_rfl
theorem make_cns1 (W : World) : (Instr.makeSlice 28 (.int .i64 1) (.int .i64 1)).run Tryz.prog W = .ok (.slice (some ⟨W.heap.size, 0, none⟩) 1 1) (W.alloc (.cells #[.int .i64 0, .int .i64 0, .int .i64 0, .int .i64 0] 38)) := by kernel_rfl
theorem make_i641 (W : World) : (Instr.makeSlice 23 (.int .i64 1) (.int .i64 1)).run Tryz.prog W = .ok (.slice (some ⟨W.heap.size, 0, none⟩) 1 1) (W.alloc (.cells #[.int .i64 0] 2)) := by kernel_rfl
theorem make_frs1 (W : World) : (Instr.makeSlice 30 (.int .i64 1) (.int .i64 1)).run Tryz.prog W = .ok (.slice (some ⟨W.heap.size, 0, none⟩) 1 1) (W.alloc (.cells #[.int .i64 0, .int .i64 0, .int .i64 0, .int .i64 0, .slice none 0 0] 43)) := by kernel_rfl
set_option maxHeartbeats 2000000 in
theorem svalU_one (gz : Nat) (w : World) (hu : Blk w gU 40 #[.int .i64 uw, .int .i64 0, .int .i64 0]) (hz : Blk w gz 3 #[.int .i64 0]) : Calls Tryz.prog 183 #[.slice (some ⟨gU, 0, none⟩) 1 1, .slice (some ⟨gz, 0, none⟩) 1 1] w fun e w' => (∃ g, e = .returned (.slice (some ⟨g, 0, none⟩) 1 1) ∧ Blk w' g 40 #[.int .i64 uw, .int .i64 0, .int .i64 0]) ∧ Below w.heap.size w w' := by
  have hmk := make_uds1
  obtain ⟨w1, hw1⟩ : ∃ W, W = w.alloc (.cells #[.int .i64 0, .int .i64 0, .int .i64 0] 40) := ⟨_, rfl⟩
  have HB1 : Hid (Below w.heap.size w w1) := Lib.hid (by rw [hw1]; exact (Below.refl _ _).alloc (Nat.le_refl _) _)
  have HX1 : Hid (Blk w1 w.heap.size 40 #[.int .i64 0, .int .i64 0, .int .i64 0]) := Lib.hid (by rw [hw1]; exact Blk.new _ _ _)
  have HU1 := Lib.hid (hu.below HB1.out hu.lt)
  have HZ1 := Lib.hid (hz.below HB1.out hz.lt)
  clear hu hz
  go_enter Tryz.func183, Tryz.ntmps183
  go_upto_region 2 with (fail)
  rw [← hw1]
  clear hw1 hmk
  go_wp2_with fail
  have z0 := HZ1.out.get 0 rfl
  have zl := HZ1.out.lt
  have u0 := HU1.out.get 0 rfl
  have u1 := HU1.out.get 1 rfl
  have u2 := HU1.out.get 2 rfl
  have ul := HU1.out.lt
  have x0 := HX1.out.get 0 rfl
  have x1 := HX1.out.get 1 rfl
  have x2 := HX1.out.get 2 rfl
  have xl := HX1.out.lt
  have xf0 := HX1.out.frozen 0
  have xf1 := HX1.out.frozen 1
  have xf2 := HX1.out.frozen 2
  have HX2 := Lib.hid (((HX1.out.set_ 0 (.int .i64 uw)).set_ 1 (.int .i64 0)).set_ 2 (.int .i64 0))
  have HB2 := Lib.hid (((HB1.out.setCell (p := ⟨w.heap.size, 0, none⟩) (Nat.le_refl _) (.int .i64 uw)).setCell (p := ⟨w.heap.size, 1, none⟩) (Nat.le_refl _) (.int .i64 0)).setCell (p := ⟨w.heap.size, 2, none⟩) (Nat.le_refl _) (.int .i64 0))
  refine wp_loop_rounds 2 ?_
  rw [rounds_succ]
  go_wp2_with fail
  rw [rounds_succ]
  go_wp2_with fail
  go_ret
  exact ⟨⟨_, rfl, by simpa using HX2.out⟩, HB2.out⟩
set_option maxHeartbeats 2000000 in
theorem sleast_one (gb : Nat) (w : World) (hb : Blk w gb 4 #[.bool false]) : Calls Tryz.prog 181 #[.slice (some ⟨gb, 0, none⟩) 1 1] w fun e w' => e = .returned (.int .i64 (-1)) ∧ w = w' := by
  have z0 := hb.get 0 rfl
  have zl := hb.lt
  clear hb
  go_enter Tryz.func181, Tryz.ntmps181
  go_wp2_with fail
  refine wp_loop_rounds 2 ?_
  rw [rounds_succ]
  go_wp2_with fail
  rw [rounds_succ]
  go_wp2_with fail
  go_ret
  exact ⟨rfl, rfl⟩
theorem own_addrV {w : World} {base : Nat} {e : TypeId} {n c : Nat} {A : Option Addr} {xs : List Value} (h : w.ownsRow base e 1 (.slice A n c) n xs) (h0 : 0 < n) : ∃ g, A = some ⟨g, 0, none⟩ := by
  obtain ⟨g, c', e2, _⟩ := h.form h0
  injection e2 with e2
  exact ⟨g, e2⟩
theorem own_atV {w : World} {base g : Nat} {e : TypeId} {n c j : Nat} {xs : List Value} {u : Value} (h : w.ownsRow base e 1 (.slice (some ⟨g, 0, none⟩) n c) n xs) (hx : xs[j]? = some u) : w.cell? ⟨g, j, none⟩ = some u := by
  have h3 := (@World.ownsRow.cells _ _ _ _ _ _ _ h) (g := g) rfl j u hx
  have ha : (⟨g, 0, none⟩ : Addr).add j = ⟨g, j, none⟩ := by unfold Addr.add; split <;> simp_all
  rw [ha] at h3; exact h3
theorem el_intV : El Tryz.prog 50 3 (.int .i64 0) 1 8 := ⟨Tryz.underlying50, by kernel_rfl, rfl, by decide⟩
set_option maxRecDepth 100000 in
set_option maxHeartbeats 2000000 in
theorem roots_one (hn : Blk w gN 69 (ndsCells l1V).toArray) : Calls Tryz.prog 112 #[.agg #[.slice (some ⟨gN, 0, none⟩) 1 1, .slice none 0 0, .int .i64 v]] w fun e w' => (∃ g c, e = .returned (.slice (some ⟨g, 0, none⟩) 1 c) ∧ w'.cell? ⟨g, 0, none⟩ = some (.int .i64 0) ∧ w.heap.size ≤ g ∧ g < w'.heap.size) ∧ Below w.heap.size w w' := by
  have HR := Lib.hid (fun W' (h : Below w.heap.size w W') => root_call (v := v) (hn.below h hn.lt))
  have HB1 : Hid (Below w.heap.size w (w.alloc (.cells #[.slice (some ⟨gN, 0, none⟩) 1 1, .slice none 0 0, .int .i64 v] 25))) := Lib.hid ((Below.refl _ _).alloc (Nat.le_refl _) _)
  clear hn
  go_enter Tryz.func112, Tryz.ntmps112
  go_wp2_with fail
  refine wp_loop_rounds 2 ?_
  rw [rounds_succ]
  go_wp2_with fail
  refine (HR.out _ HB1.out).mono ?_
  rintro e w2 ⟨rfl, hb2⟩
  have HB2 := Lib.hid (HB1.out.trans (hb2.mono HB1.out.size))
  have HO2 : Hid (w2.ownsRow w.heap.size 3 1 (.slice none 0 0) 0 []) := Lib.hid ⟨rfl, .inl ⟨rfl, rfl⟩⟩
  have HZ2 := Lib.hid HB2.out.size
  clear hb2
  go_wp2_with (at_builtin; refine wpList_app (m := 1) rfl _ _ rfl el_intV HO2.out HZ2.out rfl [.int .i64 0] rfl (by simp) (by simp [Value.oneCell']) (by omega) (by omega) ?_; intro A' c' w9 hown hB hg hob)
  have HB9 := Lib.hid (hB w.heap.size w (Nat.le_refl _) HB2.out)
  have HOW := Lib.hid hown
  clear hown hB hg hob
  rw [rounds_succ]
  go_wp2_with fail
  go_ret
  obtain ⟨g, rfl⟩ := own_addrV HOW.out (by omega)
  exact ⟨⟨g, _, rfl, own_atV HOW.out rfl, (own_lt HOW.out g rfl).1, (own_lt HOW.out g rfl).2⟩, HB9.out⟩
end
end Go.Proofs.YtjhfcpadnofdnaaGreat
