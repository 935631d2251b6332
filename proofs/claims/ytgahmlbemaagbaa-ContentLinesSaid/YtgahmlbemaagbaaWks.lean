/- Contracts: jamblaw17.works. -/
import Derived.Test.YtgahmlbemaagbaaCnj
import Derived.Laws.StructEq
/- Contracts: jamblaw17.Two. -/
set_option linter.unusedSimpArgs false
set_option linter.unusedVariables false
namespace Go.Proofs.Ytgahmlbemaagbaa
open Go.RowKit
attribute [local go_sem] block_of_add

def ln0 : Ln := ⟨0, 0⟩
/-- A style of a kind and a float alone. -/
def styK (k f : Int) : Sty := ⟨k, false, f, 0, ln0, ln0, ln0, ln0, ln0, ln0, ln0, ln0, ln0, ln0, 0, 0, 0, 0, 0, 0, 0, 0, 0, 0, false, 0, 0, 0, 0, 0, ln0, [], .slice none 0 0⟩
def twoF (s : Sty) (f : Int) : List Nd := [⟨-1, styK 1 0⟩, ⟨0, s⟩, ⟨1, styK 1 f⟩, ⟨1, styK 1 f⟩]
theorem bld_k (k f : Int) (w : World) : (Instr.build 33 #[(0, .int .u8 k), (2, .int .u8 f)]).run Try.prog w = .ok (.agg (styCells (styK k f)).toArray) w := by kernel_rfl
theorem bld_k1 (w : World) : (Instr.build 33 #[(0, .int .u8 1)]).run Try.prog w = .ok (.agg (styCells (styK 1 0)).toArray) w := by kernel_rfl
theorem bld_nd (p : Int) (s : Sty) (w : World) : (Instr.build 35 #[(0, .int .i64 p), (1, .agg (styCells s).toArray)]).run Try.prog w = .ok (.agg (ndCells ⟨p, s⟩).toArray) w := by kernel_rfl
theorem bld_two (s : Sty) (f : Int) (w : World) : (Instr.buildSlice 36 4 #[(0, .agg (ndCells ⟨-1, styK 1 0⟩).toArray), (1, .agg (ndCells ⟨0, s⟩).toArray), (2, .agg (ndCells ⟨1, styK 1 f⟩).toArray), (3, .agg (ndCells ⟨1, styK 1 f⟩).toArray)]).run Try.prog w = .ok (.slice (some ⟨w.heap.size, 0, none⟩) 4 4) (w.alloc (.cells (ndsCells (twoF s f)).toArray 35)) := by kernel_rfl
theorem wpList_build {P : Program} {ops : Array Oper} {rest : List Oper} {o : Oper} {a : Act} {w : World} {Q : Exit → Act → World → Prop} (hgd : o.guard = none) (ty : TypeId) (parts : Array (Nat × Operand)) (ho : o.op = .build ty parts) (v : Value)
    (hrun : (Instr.build ty (parts.map fun (i, x) => (i, a.eval x))).run P w = .ok v w) (h : wpList P ops Q rest (a.put o.dst v) w) : wpList P ops Q (o :: rest) a w :=
  wpList_plain hgd fun K hK => by
    unfold Oper.wp execOp
    simp only [ho, Sem.run_bind, hrun, Result.andThen_ok, Sem.run_pure]
    exact hK _ _ h
theorem wpList_rows {P : Program} {ops : Array Oper} {rest : List Oper} {o : Oper} {a : Act} {w : World} {Q : Exit → Act → World → Prop} (hgd : o.guard = none) (ty : TypeId) (n : Nat) (parts : Array (Nat × Operand)) (ho : o.op = .buildSlice ty n parts) (v : Value) (w' : World)
    (hrun : (Instr.buildSlice ty n (parts.map fun (i, x) => (i, a.eval x))).run P w = .ok v w') (h : wpList P ops Q rest (a.put o.dst v) w') : wpList P ops Q (o :: rest) a w :=
  wpList_plain hgd fun K hK => by
    unfold Oper.wp execOp
    simp only [ho, Sem.run_bind, hrun, Result.andThen_ok, Sem.run_pure]
    exact hK _ _ h
structure TwoAns (s : Sty) (f : Int) (w w' : World) (e : Ending) : Prop where
  ex : ∃ g, e = .returned (.agg #[.slice (some ⟨g, 0, none⟩) (twoF s f).length 4, .slice none ([] : List Int).length 0, .int .i64 1000]) ∧ TrH w' w'.heap.size (some ⟨g, 0, none⟩) none (twoF s f) []
  b : Below w.heap.size w w'
set_option maxRecDepth 100000 in
set_option maxHeartbeats 1000000 in
theorem two_any (s : Sty) (f : Int) (w : World) (hu : s.uv = .slice none 0 0) (hun : s.units = []) :
    Calls Try.prog 38 #[.agg (styCells s).toArray, .int .u8 f] w fun e w' => TwoAns s f w w' e := by
  have HRG : Hid (∀ o o2 : Obj, (((w.alloc (.cells (styCells s).toArray 33)).alloc o).alloc o2).rangeAt w.heap.size 0 (styCells s)) := Lib.hid (fun o o2 => sty_rng (((Blk.new _ _ _).alloc _).alloc _))
  have HRG2 : Hid (∀ o o2 : Obj, (((w.alloc o).alloc o2).alloc (.cells (styCells (styK 1 f)).toArray 33)).rangeAt (w.heap.size + 1 + 1) 0 (styCells (styK 1 f))) := Lib.hid (fun o o2 => sty_rng (Blk.at_ _ _ _ (by simp)))
  have HO := Lib.hid (Sty.one (styK 1 f) (A := none) (n := 0) (c := 0) rfl)
  go_enter Try.func38, Try.ntmps38
  go_upto_region 2 with (first
    | refine wpList_build rfl 33 #[(0, .const (.int .u8 1)), (2, .tmp 6)] rfl (.agg (styCells (styK 1 f)).toArray) (by kernel_rfl) ?_
    | refine wpList_store_new rfl 33 _ _ rfl (w.heap.size + 1 + 1) (by simp) (styCells (styK 1 f)).toArray rfl rfl 33 _ (by kernel_rfl) rfl HO.out ?_)
  refine wp_region_lit ?_
  refine wpList_build rfl 33 #[(0, .const (.int .u8 1))] rfl (.agg (styCells (styK 1 0)).toArray) (by kernel_rfl) ?_
  try simp only [Act.put, List.setIfInBounds_toArray, List.set_cons_zero, List.set_cons_succ, List.getElem_toArray, List.getElem_cons_zero, List.getElem_cons_succ]
  refine wpList_build rfl 35 #[(0, .const (.int .i64 (-1))), (1, .tmp 8)] rfl (.agg (ndCells ⟨-1, styK 1 0⟩).toArray) (by kernel_rfl) ?_
  try simp only [Act.put, List.setIfInBounds_toArray, List.set_cons_zero, List.set_cons_succ, List.getElem_toArray, List.getElem_cons_zero, List.getElem_cons_succ]
  refine wpList_load_mid rfl 33 (.tmp 2) rfl w.heap.size 0 rfl (styCells s) _ (HRG.out _ _) Try.underlying33 rfl (by kernel_rfl) ?_
  try simp only [Act.put, List.setIfInBounds_toArray, List.set_cons_zero, List.set_cons_succ, List.getElem_toArray, List.getElem_cons_zero, List.getElem_cons_succ]
  refine wpList_build rfl 35 #[(0, .const (.int .i64 0)), (1, .tmp 10)] rfl (.agg (ndCells ⟨0, s⟩).toArray) (by kernel_rfl) ?_
  try simp only [Act.put, List.setIfInBounds_toArray, List.set_cons_zero, List.set_cons_succ, List.getElem_toArray, List.getElem_cons_zero, List.getElem_cons_succ]
  refine wpList_load_mid rfl 33 (.tmp 5) rfl (w.heap.size + 1 + 1) 0 rfl (styCells (styK 1 f)) _ (HRG2.out _ _) Try.underlying33 rfl (by kernel_rfl) ?_
  try simp only [Act.put, List.setIfInBounds_toArray, List.set_cons_zero, List.set_cons_succ, List.getElem_toArray, List.getElem_cons_zero, List.getElem_cons_succ]
  refine wpList_build rfl 35 #[(0, .const (.int .i64 1)), (1, .tmp 12)] rfl (.agg (ndCells ⟨1, styK 1 f⟩).toArray) (by kernel_rfl) ?_
  try simp only [Act.put, List.setIfInBounds_toArray, List.set_cons_zero, List.set_cons_succ, List.getElem_toArray, List.getElem_cons_zero, List.getElem_cons_succ]
  refine wpList_load_mid rfl 33 (.tmp 5) rfl (w.heap.size + 1 + 1) 0 rfl (styCells (styK 1 f)) _ (HRG2.out _ _) Try.underlying33 rfl (by kernel_rfl) ?_
  try simp only [Act.put, List.setIfInBounds_toArray, List.set_cons_zero, List.set_cons_succ, List.getElem_toArray, List.getElem_cons_zero, List.getElem_cons_succ]
  refine wpList_build rfl 35 #[(0, .const (.int .i64 1)), (1, .tmp 14)] rfl (.agg (ndCells ⟨1, styK 1 f⟩).toArray) (by kernel_rfl) ?_
  try simp only [Act.put, List.setIfInBounds_toArray, List.set_cons_zero, List.set_cons_succ, List.getElem_toArray, List.getElem_cons_zero, List.getElem_cons_succ]
  refine wpList_rows rfl 36 4 #[(0, .tmp 9), (1, .tmp 11), (2, .tmp 13), (3, .tmp 15)] rfl (.slice (some ⟨(((w.alloc (.cells (styCells s).toArray 33)).alloc (.cells #[.slice none 0 0, .slice none 0 0, .int .i64 0] 38)).alloc (.cells (styCells (styK 1 f)).toArray 33)).heap.size, 0, none⟩) 4 4) ((((w.alloc (.cells (styCells s).toArray 33)).alloc (.cells #[.slice none 0 0, .slice none 0 0, .int .i64 0] 38)).alloc (.cells (styCells (styK 1 f)).toArray 33)).alloc (.cells (ndsCells (twoF s f)).toArray 35)) (by kernel_rfl) ?_
  try simp only [Act.put, List.setIfInBounds_toArray, List.set_cons_zero, List.set_cons_succ, List.getElem_toArray, List.getElem_cons_zero, List.getElem_cons_succ]
  go_wp2_with fail
  refine bodyPost_ret (results_cell_row rfl _ _ (w.heap.size + 1) 38 #[.slice (some ⟨w.heap.size + 1 + 1 + 1, 0, none⟩) 4 4, .slice none 0 0, .int .i64 1000] (0, 0) _ rfl (((Blk.at_ _ _ _ (by simp)).alloc _).alloc _) Try.underlying38 rfl (by kernel_rfl)) rfl ?_
  have HBB : Below w.heap.size w ((((w.alloc (.cells (styCells s).toArray 33)).alloc (.cells #[.slice (some ⟨w.heap.size + 1 + 1 + 1, 0, none⟩) 4 4, .slice none 0 0, .int .i64 1000] 38)).alloc (.cells (styCells (styK 1 f)).toArray 33)).alloc (.cells (ndsCells (twoF s f)).toArray 35)) := ((((Below.refl _ _).alloc (Nat.le_refl _) _).alloc (by simp) _).alloc (by simp; omega) _).alloc (by simp; omega) _
  have ho := World.ownsRow_lit (e := 35) (size := 44) ((((w.alloc (.cells (styCells s).toArray 33)).alloc (.cells #[.slice (some ⟨w.heap.size + 1 + 1 + 1, 0, none⟩) 4 4, .slice none 0 0, .int .i64 1000] 38)).alloc (.cells (styCells (styK 1 f)).toArray 33))) (ndsCells (twoF s f)).toArray 4 (Nat.le_refl _) (by decide) (by rw [List.size_toArray, ndsCells_len]; rfl)
  have hr := Reads.of_own ho
  refine ⟨⟨w.heap.size + 1 + 1 + 1, rfl, ⟨?_, Reads.none_, ?_, fun x hx => by simp at hx, by show 4 ≤ 65536; decide⟩⟩, HBB⟩
  · show Reads _ _ 44 _ 4 _
    simpa using hr
  · intro x hx
    have h0 : ∀ k f, (styK k f).uv = .slice none 0 0 ∧ (styK k f).units = [] := fun k f => ⟨rfl, rfl⟩
    have hx2 : x.s.uv = .slice none 0 0 ∧ x.s.units = [] := by
      simp only [twoF, List.mem_cons, List.not_mem_nil, or_false] at hx
      rcases hx with rfl | rfl | rfl | rfl
      · exact h0 1 0
      · exact ⟨hu, hun⟩
      · exact h0 1 f
      · exact h0 1 f
    refine ⟨none, 0, by rw [hx2.1, hx2.2]; rfl, by rw [hx2.2]; simp, by rw [hx2.2]; exact Reads.none_, by rw [hx2.2]; intro y hy; simp at hy, by rw [hx2.2]; simp⟩
end Go.Proofs.Ytgahmlbemaagbaa
set_option linter.unusedSimpArgs false
set_option linter.unusedVariables false
namespace Go.Proofs.Ytgahmlbemaagbaa
open Go.RowKit
attribute [local go_sem] block_of_add

theorem eqCn (a1 a2 a3 a4 b1 b2 b3 b4 : Int) (w : World) : (Op.equalIn 10000 40 (.agg #[.int .i64 a1, .int .i64 a2, .int .i64 a3, .int .i64 a4]) (.agg #[.int .i64 b1, .int .i64 b2, .int .i64 b3, .int .i64 b4])).run Try.prog w = .ok (a1 == b1 && a2 == b2 && a3 == b3 && a4 == b4) w := by
  have u2 := Try.underlying2
  have g2 := Try.isAgg2
  have z2 := Try.sizeOf2
  have hS : Try.prog.underlying 40 = some (.struct (Try.prog.fieldsOf 40)) := by kernel_rfl
  have hp : Try.prog.stoodInHeld 40 = false := by kernel_rfl
  rw [show (10000 : Nat) = 9999 + 1 from rfl, run_equalIn_agg w 9999 40 _ _ hS hp]
  simp only [Program.fieldsOf, Try.underlying40]
  go_simp
  by_cases h1 : a1 = b1 <;> by_cases h2 : a2 = b2 <;> by_cases h3 : a3 = b3 <;> by_cases h4 : a4 = b4 <;> simp [h1, h2, h3, h4]
theorem guardCn (op : BinOp) (x y : Operand) (xs ys : Array Value) (w : World) : (eqGuard op 40 x y (.agg xs) (.agg ys)).run Try.prog w = .ok () w := run_eqGuard_agg w op _ x y xs ys (by kernel_rfl)
attribute [local go_sem] eqCn guardCn
def styW : Sty := { styK 2 0 with w := ⟨1, 100⟩, b1 := 5, b3 := 5 }
def gotW : List Cn := [⟨0, 0, 10, 40⟩, ⟨0, 0, 20, 30⟩]
theorem styK_B (k f : Int) : StyB (styK k f) := by
  have h1 : (0 : Int) ≤ 0 ∧ (0 : Int) ≤ 1099511627776 := by decide
  have h2 : (-1099511627776 : Int) ≤ 0 ∧ (0 : Int) ≤ 1099511627776 := by decide
  exact ⟨h1, h1, h1, h2, h2, h1, h1, h1, h1⟩
theorem styW_B : StyB styW := by
  refine ⟨?_, ?_, ?_, ?_, ?_, ?_, ?_, ?_, ?_⟩ <;> (show _ ∧ _; decide)
theorem nodeW1 : nodeP (twoF (styK 1 0) 0) [] (1 : Nat) [2, 3] gotW = (⟨20, 40, 20, 40⟩, false) := by decide
theorem nodeW2 : nodeP (twoF (styK 1 0) 1) [] (1 : Nat) [2, 3] gotW = (⟨20, 70, 20, 70⟩, false) := by decide
theorem nodeW3 : nodeP (twoF styW 0) [] (1 : Nat) [2, 3] gotW = (⟨30, 70, 110, 110⟩, false) := by decide
/-- content.Node of the node 1 of such a tree. -/
theorem node_two (s : Sty) (f : Int) (gk gg g : Nat) (w W : World) (hs : StyB s) (h3 : s.kind ≠ 3) (a b c d : Int) (hn : nodeP (twoF s f) [] (1 : Nat) [2, 3] gotW = (⟨a, b, c, d⟩, false)) (hl : linesK (twoF s f) [2, 3] = false)
    (ht : TrH W W.heap.size (some ⟨g, 0, none⟩) none (twoF s f) []) (hk : Reads W W.heap.size 1 (some ⟨gk, 0, none⟩) 2 (i64s [2, 3])) (hg : Reads W W.heap.size 4 (some ⟨gg, 0, none⟩) 2 (cnsCells gotW)) :
    Calls Try.prog 14 #[.agg #[.slice (some ⟨g, 0, none⟩) 4 4, .slice none 0 0, .int .i64 1000], .int .i64 1, .slice (some ⟨gk, 0, none⟩) 2 2, .slice (some ⟨gg, 0, none⟩) 2 2] W fun e w' => e = .returned (.tuple #[.agg #[.int .i64 a, .int .i64 b, .int .i64 c, .int .i64 d], .bool false]) ∧ Below W.heap.size W w' := by
  have h := node17_any (twoF s f) [] [2, 3] gotW (some ⟨g, 0, none⟩) none (some ⟨gk, 0, none⟩) (some ⟨gg, 0, none⟩) 4 0 2 2 1000 W 1 (by show 1 < 4; decide) ht (fun _ => hs) hk (by
    intro k hk
    simp only [List.mem_cons, List.not_mem_nil, or_false] at hk
    show 0 ≤ k ∧ k < (4 : Nat)
    rcases hk with rfl | rfl <;> decide) (by decide) (fun h => by rw [hl] at h; cases h) hg (by
    intro x hx
    simp only [gotW, List.mem_cons, List.not_mem_nil, or_false] at hx
    rcases hx with rfl | rfl <;> decide)
  rw [hn] at h
  exact h
set_option maxRecDepth 100000 in
set_option maxHeartbeats 1000000 in
theorem works_any (w : World) : Calls Try.prog 13 #[] w fun e w' => e = .returned (.bool true) ∧ Below w.heap.size w w' := by
  have hbk := fun w => bld_k1 w
  have HB2 : Hid (Below w.heap.size w ((w.alloc (.cells (cnsCells gotW).toArray 40)).alloc (.cells #[.int .i64 2, .int .i64 3] 3))) := Lib.hid (((Below.refl _ _).alloc (Nat.le_refl _) _).alloc (by simp) _)
  have HG : Hid (Reads ((w.alloc (.cells (cnsCells gotW).toArray 40)).alloc (.cells #[.int .i64 2, .int .i64 3] 3)) (w.heap.size + 1 + 1) 4 (some ⟨w.heap.size, 0, none⟩) 2 (cnsCells gotW)) := Lib.hid (by
    have h := Reads.of_own ((World.ownsRow_lit (e := 40) (size := 4) w (cnsCells gotW).toArray 2 (Nat.le_refl _) (by decide) rfl).alloc (.cells #[.int .i64 2, .int .i64 3] 3))
    simpa using h)
  have HK : Hid (Reads ((w.alloc (.cells (cnsCells gotW).toArray 40)).alloc (.cells #[.int .i64 2, .int .i64 3] 3)) (w.heap.size + 1 + 1) 1 (some ⟨w.heap.size + 1, 0, none⟩) 2 (i64s [2, 3])) := Lib.hid (by
    unfold i64s
    have h := Reads.of_own (World.ownsRow_lit (e := 3) (size := 1) (w.alloc (.cells (cnsCells gotW).toArray 40)) #[.int .i64 2, .int .i64 3] 2 (Nat.le_refl _) (by decide) rfl)
    simpa using h)
  go_enter Try.func13, Try.ntmps13
  go_upto_region 3 with (fail)
  have HE2 : Hid ((w.alloc (.cells #[.int .i64 0, .int .i64 0, .int .i64 10, .int .i64 40, .int .i64 0, .int .i64 0, .int .i64 20, .int .i64 30] 40)).alloc (.cells #[.int .i64 2, .int .i64 3] 3) = ((w.alloc (.cells (cnsCells gotW).toArray 40)).alloc (.cells #[.int .i64 2, .int .i64 3] 3))) := Lib.hid rfl
  obtain ⟨w2, hw2⟩ : ∃ w2, w2 = ((w.alloc (.cells (cnsCells gotW).toArray 40)).alloc (.cells #[.int .i64 2, .int .i64 3] 3)) := ⟨_, rfl⟩
  have HZ2 : Hid (w2.heap.size = w.heap.size + 1 + 1) := Lib.hid (by rw [hw2]; simp)
  rw [HE2.out, ← hw2]
  rw [← hw2] at HK HG HB2
  rw [← HZ2.out] at HK HG
  have HBA : Hid (Below w2.heap.size w2 w2) := Lib.hid (Below.refl _ _)
  clear hw2 HE2
  go_wp2_with (first
    | refine wpList_build rfl 33 #[(0, .const (.int .u8 1))] rfl (.agg (styCells (styK 1 0)).toArray) (by kernel_rfl) ?_)
  refine (two_any (styK 1 0) 0 _ rfl rfl).mono ?_
  rintro e w3 ⟨⟨g3, he3, ht3⟩, hb3⟩
  have he3' : e = .returned (.agg #[.slice (some ⟨g3, 0, none⟩) 4 4, .slice none 0 0, .int .i64 1000]) := he3
  clear he3
  subst he3'
  have HB3 := Lib.hid (HBA.out.trans (hb3.mono HBA.out.size))
  have HT3 := Lib.hid ht3
  clear hb3 ht3
  go_wp2_with fail
  refine (node_two (styK 1 0) 0 (w.heap.size + 1) w.heap.size g3 w _ (styK_B _ _) (by decide) 20 40 20 40 nodeW1 (by decide) HT3.out ((HK.out.below HB3.out).more HB3.out.size) ((HG.out.below HB3.out).more HB3.out.size)).mono ?_
  rintro e w3n ⟨rfl, hb3n⟩
  have HB3n := Lib.hid (HB3.out.trans (hb3n.mono HB3.out.size))
  clear hb3n
  have HC3z := Lib.hid (Blk.new w3n 40 #[.int .i64 20, .int .i64 40, .int .i64 20, .int .i64 40])
  have HB3z := Lib.hid (HB3n.out.alloc HB3n.out.size (.cells #[.int .i64 20, .int .i64 40, .int .i64 20, .int .i64 40] 40))
  go_wp2_with (first
    | refine wpList_build rfl 33 #[(0, .const (.int .u8 1))] rfl (.agg (styCells (styK 1 0)).toArray) (by kernel_rfl) ?_)
  refine (two_any (styK 1 0) 1 _ rfl rfl).mono ?_
  rintro e w5 ⟨⟨g5, he5, ht5⟩, hb5⟩
  have he5' : e = .returned (.agg #[.slice (some ⟨g5, 0, none⟩) 4 4, .slice none 0 0, .int .i64 1000]) := he5
  clear he5
  subst he5'
  have HB5 := Lib.hid (HB3z.out.trans (hb5.mono HB3z.out.size))
  have HT5 := Lib.hid ht5
  have HC3a5 := Lib.hid (HC3z.out.below hb5 HC3z.out.lt)
  clear hb5 ht5
  go_wp2_with fail
  refine (node_two (styK 1 0) 1 (w.heap.size + 1) w.heap.size g5 w _ (styK_B _ _) (by decide) 20 70 20 70 nodeW2 (by decide) HT5.out ((HK.out.below HB5.out).more HB5.out.size) ((HG.out.below HB5.out).more HB5.out.size)).mono ?_
  rintro e w5n ⟨rfl, hb5n⟩
  have HB5n := Lib.hid (HB5.out.trans (hb5n.mono HB5.out.size))
  have HC3b5 := Lib.hid (HC3a5.out.below hb5n HC3a5.out.lt)
  clear hb5n
  have HC5z := Lib.hid (Blk.new w5n 40 #[.int .i64 20, .int .i64 70, .int .i64 20, .int .i64 70])
  have HB5z := Lib.hid (HB5n.out.alloc HB5n.out.size (.cells #[.int .i64 20, .int .i64 70, .int .i64 20, .int .i64 70] 40))
  have HC3z5 := Lib.hid (HC3b5.out.alloc (.cells #[.int .i64 20, .int .i64 70, .int .i64 20, .int .i64 70] 40))
  have HSW := Lib.hid (Sty.one styW (A := none) (n := 0) (c := 0) rfl)
  have HB5s := Lib.hid (HB5z.out.alloc HB5z.out.size (.cells (styCells styW).toArray 33))
  have HC3s := Lib.hid (HC3z5.out.alloc (.cells (styCells styW).toArray 33))
  have HC5s := Lib.hid (HC5z.out.alloc (.cells (styCells styW).toArray 33))
  have HRG := Lib.hid (sty_rng (Blk.at_ (g := w5n.heap.size + 1) (w5n.alloc (.cells #[.int .i64 20, .int .i64 70, .int .i64 20, .int .i64 70] 40)) 33 (styCells styW).toArray (by simp)))
  go_wp2_with (first
    | refine wpList_build rfl 33 #[(0, .const (.int .u8 2)), (4, .tmp 30), (11, .tmp 31)] rfl (.agg (styCells styW).toArray) (by kernel_rfl) ?_
    | refine wpList_store_new rfl 33 _ _ rfl (w5n.heap.size + 1) (by simp) (styCells styW).toArray rfl rfl 33 _ (by kernel_rfl) rfl HSW.out ?_
    | refine wpList_load_mid rfl 33 (.tmp 7) rfl (w5n.heap.size + 1) 0 rfl (styCells styW) _ HRG.out Try.underlying33 rfl (by kernel_rfl) ?_)
  refine (two_any (styW) 0 _ rfl rfl).mono ?_
  rintro e w7 ⟨⟨g7, he7, ht7⟩, hb7⟩
  have he7' : e = .returned (.agg #[.slice (some ⟨g7, 0, none⟩) 4 4, .slice none 0 0, .int .i64 1000]) := he7
  clear he7
  subst he7'
  have HB7 := Lib.hid (HB5s.out.trans (hb7.mono HB5s.out.size))
  have HT7 := Lib.hid ht7
  have HC3a7 := Lib.hid (HC3s.out.below hb7 HC3s.out.lt)
  have HC5a7 := Lib.hid (HC5s.out.below hb7 HC5s.out.lt)
  clear hb7 ht7
  go_wp2_with fail
  refine (node_two (styW) 0 (w.heap.size + 1) w.heap.size g7 w _ styW_B (by decide) 30 70 110 110 nodeW3 (by decide) HT7.out ((HK.out.below HB7.out).more HB7.out.size) ((HG.out.below HB7.out).more HB7.out.size)).mono ?_
  rintro e w7n ⟨rfl, hb7n⟩
  have HB7n := Lib.hid (HB7.out.trans (hb7n.mono HB7.out.size))
  have HC3b7 := Lib.hid (HC3a7.out.below hb7n HC3a7.out.lt)
  have HC5b7 := Lib.hid (HC5a7.out.below hb7n HC5a7.out.lt)
  clear hb7n
  have HC7z := Lib.hid (Blk.new w7n 40 #[.int .i64 30, .int .i64 70, .int .i64 110, .int .i64 110])
  have HB7z := Lib.hid (HB7n.out.alloc HB7n.out.size (.cells #[.int .i64 30, .int .i64 70, .int .i64 110, .int .i64 110] 40))
  have HC3z7 := Lib.hid (HC3b7.out.alloc (.cells #[.int .i64 30, .int .i64 70, .int .i64 110, .int .i64 110] 40))
  have HC5z7 := Lib.hid (HC5b7.out.alloc (.cells #[.int .i64 30, .int .i64 70, .int .i64 110, .int .i64 110] 40))
  have k3 := HC3b7.out.c4
  have k5 := HC5b7.out.c4
  have l3 := HC3b7.out.lt
  have l5 := HC5b7.out.lt
  go_wp2_with fail
  go_ret
  have hb := HB2.out.trans (HB7z.out.mono HB2.out.size)
  exact ⟨rfl, hb⟩
end Go.Proofs.Ytgahmlbemaagbaa
