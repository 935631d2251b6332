/- jamblaw24.One; a law of regions that draw: an invariant over what has come up. -/
import Derived.Test.YtjhfcpadnofdnaaGreatVon
set_option linter.unusedSimpArgs false
set_option linter.unusedVariables false
namespace Go.Proofs.YtjhfcpadnofdnaaGreat
open Go.RowKit
attribute [local go_sem] block_of_add
/-- How many operations have not come up. -/
def notUp (L : Array Bool) : Nat := ((List.range L.size).filter fun j => L.getD j true == false).length
theorem notUp_lt {L : Array Bool} {i : Nat} (h : L.getD i true = false) : notUp (L.setIfInBounds i true) < notUp L := by
  have hi : i < L.size := by
    rcases Nat.lt_or_ge i L.size with h2 | h2
    · exact h2
    · simp [Array.getElem?_eq_none h2] at h
  unfold notUp
  rw [Array.size_setIfInBounds]
  have e : (List.range L.size).filter (fun j => (L.setIfInBounds i true).getD j true == false) = ((List.range L.size).filter fun j => L.getD j true == false).filter fun j => decide (j ≠ i) := by
    rw [List.filter_filter]
    refine List.filter_congr fun j hj => ?_
    have hj' := List.mem_range.1 hj
    by_cases hji : j = i
    · subst hji; simp [hi]
    · rw [getD_set_ne true (Ne.symm hji)]; simp [hji]
  rw [e]
  refine List.length_filter_lt_length_iff_exists.2 ⟨i, ?_, by simp⟩
  rw [List.mem_filter]
  exact ⟨List.mem_range.2 hi, by rw [h]; rfl⟩
section
variable {P : Program} {ops : Array Oper} {Q : Exit → Act → World → Prop} {md : Region.Mode}
theorem wpAny_inv (I : Array Bool → Act → World → Prop) (hstep : ∀ L a w i, I L a w → i ∈ Region.ready md ops L → wpOp P ops Q i (fun a' w' => I (L.setIfInBounds i true) a' w') a w) (hend : ∀ L a w, I L a w → Region.ready md ops L = [] → Q .normal a w) :
    ∀ (n : Nat) (L : Array Bool) (a : Act) (w : World), notUp L ≤ n → I L a w → wpAny P md ops Q n L a w
  | 0, L, a, w, hn, hI => by
    have hr : Region.ready md ops L = [] := by
      apply List.eq_nil_iff_forall_not_mem.2
      intro i hi
      have := notUp_lt (mem_ready.1 hi).1
      omega
    exact ⟨hr, hend L a w hI hr⟩
  | n + 1, L, a, w, hn, hI => ⟨fun e => hend L a w hI e, fun i hi => wpOp_mono (fun a' w' h' => wpAny_inv I hstep hend n _ a' w' (by have := notUp_lt (mem_ready.1 hi).1; omega) h') (hstep L a w i hI hi)⟩
theorem wp_region_inv {id : Nat} {a : Act} {w : World} (I : Array Bool → Act → World → Prop) (hm : P.follows .mixedOrders = true) (h0 : I (Array.replicate ops.size false) a w.drew)
    (hstep : ∀ L a w i, I L a w → i ∈ Region.ready .any ops L → wpOp P ops Q i (fun a' w' => I (L.setIfInBounds i true) a' w') a w) (hend : ∀ L a w, I L a w → Region.ready .any ops L = [] → Q .normal a w) : (Code.region id ops true).wp P Q a w :=
  wp_region_any hm (wpAny_inv I hstep hend _ _ _ _ (by unfold notUp; refine Nat.le_trans (List.length_filter_le _ _) (by simp)) h0)
end
section
variable {P : Program} {ops : Array Oper} {Q : Exit → Act → World → Prop}
theorem wpOp_val {i : Nat} {o : Oper} {v : Value} {a : Act} {w X : World} {K : Act → World → Prop} (hi : ops[i]? = some o) (hw : Region.wanted o (yielded ops a.tmps) = true) (hr : (execOp a.eval o).run P w = .ok (.value v) X) (h : K (a.put o.dst v) X) : wpOp P ops Q i K a w :=
  givesR_wp (T := fun w' => w' = X) hi hw (by rw [hr]; exact ⟨rfl, rfl⟩) (fun w' e => by rw [e]; exact h)
theorem wpOp_skip {i : Nat} {o : Oper} {a : Act} {w X : World} {K : Act → World → Prop} (hi : ops[i]? = some o) (hw : Region.wanted o (yielded ops a.tmps) = true) (hr : (execOp a.eval o).run P w = .ok .skip X) (h : K (a.put o.dst undef) X) : wpOp P ops Q i K a w :=
  givesR_wp (T := fun w' => w' = X) (v := undef) hi hw (by rw [hr]; exact ⟨rfl, rfl⟩) (fun w' e => by rw [e]; exact h)
end
theorem far_setCells {g g' : Nat} {t : TypeId} {cs : Array Value} (hg : g ≠ g') : ∀ (vs : List Value) (o : Nat) (w : World), Blk w g t cs → Blk (w.setCells g' o vs) g t cs
  | [], _, _, h => h
  | v :: vs, o, w, h => far_setCells hg vs (o + 1) _ (h.far (p := ⟨g', o, none⟩) hg v)
theorem results_cc {fn : Func} {p q : Tmp} {ty ty2 : TypeId} (h : fn.results = #[.cell p ty, .cell q ty2]) (tmps : Array Value) (P : Program) (w : World) :
    (results fn tmps).run P w =
      ((asAddr (tmps.getD p undef)).run P w).andThen fun a w₁ => ((loadVar ty a).run P w₁).andThen fun v w₂ => ((asAddr (tmps.getD q undef)).run P w₂).andThen fun b w₃ => ((loadVar ty2 b).run P w₃).andThen fun x w₄ => .ok (.tuple #[v, x]) w₄ := by
  simp only [results, h]
  simp [Sem.run_bind, Result.andThen]
theorem res_oneV {fn : Func} (hr : fn.results = #[.cell 0 25, .cell 1 32]) (tmps : Array Value) (w : World) (g gd : Nat) (a b c x y z u : Value) (hp : tmps.getD 0 undef = .pointer (some ⟨g, 0, none⟩)) (hp7 : tmps.getD 1 undef = .pointer (some ⟨gd, 0, none⟩)) (hg : Blk w g 25 #[a, b, c]) (hd : Blk w gd 32 #[x, y, z, u]) :
    (results fn tmps).run Tryz.prog w = .ok (.tuple #[.agg #[a, b, c], .agg #[x, y, z, u]]) w := by
  rw [results_cc hr, hp, hp7]
  have h := run_loadVar_row (P := Tryz.prog) w g 25 25 #[a, b, c] (0, 0) _ hg Tryz.underlying25 rfl (by kernel_rfl)
  have h7 := run_loadVar_row (P := Tryz.prog) w gd 32 32 #[x, y, z, u] (0, 0) _ hd Tryz.underlying32 rfl (by kernel_rfl)
  simp [asAddr, h, h7, Result.andThen]
section
variable {w : World}
/-- What is known within the region of One. -/
def OneI (gR gX gT gN : Nat) (s3 s4 s5 s6 : Value) (w : World) (L : Array Bool) (a : Act) (W : World) : Prop :=
  ∃ (b0 b1 b2 b3 b4 b5 b6 b7 b8 b9 : Bool) (gC gU gH gF : Nat), L = #[b0, b1, b2, b3, b4, b5, b6, b7, b8, b9] ∧ a = ({ tmps := #[.pointer (some ⟨gR, 0, none⟩), .pointer (some ⟨gX, 0, none⟩), .pointer (some ⟨gT, 0, none⟩), s3, s4, s5, s6, if b0 then .agg #[.slice (some ⟨gN, 0, none⟩) 1 1, .slice none 0 0, .int .i64 100] else undef, if b1 then .slice (some ⟨gC, 0, none⟩) 1 1 else undef, if b2 then .agg #[.int .i64 100, .int .i64 0, .int .i64 0] else undef, if b3 then .slice (some ⟨gU, 0, none⟩) 1 1 else undef, if b4 then .slice (some ⟨gH, 0, none⟩) 1 1 else undef, if b5 then .agg #[.int .i64 0, .int .i64 0, .int .i64 100, .int .i64 0, .slice none 0 0] else undef, if b6 then .slice (some ⟨gF, 0, none⟩) 1 1 else undef, if b7 then .agg #[.slice (some ⟨gC, 0, none⟩) 1 1, .slice (some ⟨gU, 0, none⟩) 1 1, .slice (some ⟨gH, 0, none⟩) 1 1, .slice (some ⟨gF, 0, none⟩) 1 1] else undef], defers := [] } : Act) ∧ (b1 = true → Blk W gC 38 #[.int .i64 0, .int .i64 0, .int .i64 0, .int .i64 0]) ∧ (b3 = true → Blk W gU 40 #[.int .i64 100, .int .i64 0, .int .i64 0]) ∧ (b4 = true → Blk W gH 2 #[.int .i64 0]) ∧ (b6 = true → Blk W gF 43 #[.int .i64 0, .int .i64 0, .int .i64 100, .int .i64 0, .slice none 0 0]) ∧ Blk W gT 25 #[.slice (some ⟨gN, 0, none⟩) 1 1, .slice none 0 0, .int .i64 100] ∧ Blk W gN 69 (ndsCells l1V).toArray ∧ Blk W gR 25 (if b8 then #[.slice (some ⟨gN, 0, none⟩) 1 1, .slice none 0 0, .int .i64 100] else #[.slice none 0 0, .slice none 0 0, .int .i64 0]) ∧ Blk W gX 32 (if b9 then #[.slice (some ⟨gC, 0, none⟩) 1 1, .slice (some ⟨gU, 0, none⟩) 1 1, .slice (some ⟨gH, 0, none⟩) 1 1, .slice (some ⟨gF, 0, none⟩) 1 1] else #[.slice none 0 0, .slice none 0 0, .slice none 0 0, .slice none 0 0]) ∧ Below w.heap.size w W ∧ (b7 = true → b1 = true ∧ b3 = true ∧ b4 = true ∧ b6 = true) ∧ (b9 = true → b7 = true)
set_option maxRecDepth 100000 in
set_option maxHeartbeats 4000000 in
theorem one_any : Calls Tryz.prog 23 #[] w fun e w' => (∃ gN gC gU gH gF, e = .returned (.tuple #[.agg #[.slice (some ⟨gN, 0, none⟩) 1 1, .slice none 0 0, .int .i64 100], .agg #[.slice (some ⟨gC, 0, none⟩) 1 1, .slice (some ⟨gU, 0, none⟩) 1 1, .slice (some ⟨gH, 0, none⟩) 1 1, .slice (some ⟨gF, 0, none⟩) 1 1]]) ∧ Blk w' gN 69 (ndsCells l1V).toArray ∧ TabV gC gU gH gF 100 w') ∧ Below w.heap.size w w' := by
  have HO := Lib.hid (Sty.one (styK 1 0) (A := none) (n := 0) (c := 0) rfl)
  obtain ⟨w1, hw1⟩ : ∃ W, W = (w.alloc (.cells #[.slice none 0 0, .slice none 0 0, .int .i64 0] 25)).alloc (.cells #[.slice none 0 0, .slice none 0 0, .slice none 0 0, .slice none 0 0] 32) := ⟨_, rfl⟩
  have HR1 : Hid (Blk w1 w.heap.size 25 #[.slice none 0 0, .slice none 0 0, .int .i64 0]) := Lib.hid (by rw [hw1]; exact (Blk.new _ _ _).alloc _)
  have HX1 : Hid (Blk w1 (w.heap.size + 1) 32 #[.slice none 0 0, .slice none 0 0, .slice none 0 0, .slice none 0 0]) := Lib.hid (by rw [hw1]; exact Blk.at_ _ _ _ (by simp))
  have HB1 : Hid (Below w.heap.size w w1) := Lib.hid (by rw [hw1]; exact ((Below.refl _ _).alloc (Nat.le_refl _) _).alloc (by simp) _)
  go_enter Tryz.func23, Tryz.ntmps23
  go_upto_region 1 with (fail)
  rw [← hw1]
  clear hw1
  refine wp_region_lit ?_
  refine wpList_build rfl 67 #[(0, .const (.int .u8 1))] rfl (.agg (styCells (styK 1 0)).toArray) (by kernel_rfl) ?_
  try simp only [Act.put, List.setIfInBounds_toArray, List.set_cons_zero, List.set_cons_succ, List.getElem_toArray, List.getElem_cons_zero, List.getElem_cons_succ]
  refine wpList_build rfl 69 #[(0, .const (.int .i64 (-1))), (1, .tmp 3)] rfl (.agg (ndsCells l1V).toArray) (by kernel_rfl) ?_
  try simp only [Act.put, List.setIfInBounds_toArray, List.set_cons_zero, List.set_cons_succ, List.getElem_toArray, List.getElem_cons_zero, List.getElem_cons_succ]
  obtain ⟨gN, hgN⟩ : ∃ g, g = w1.heap.size := ⟨_, rfl⟩
  obtain ⟨w2, hw2⟩ : ∃ W, W = w1.alloc (.cells (ndsCells l1V).toArray 69) := ⟨_, rfl⟩
  have HN2 : Hid (Blk w2 gN 69 (ndsCells l1V).toArray) := Lib.hid (by rw [hw2, hgN]; exact Blk.new _ _ _)
  have HR2 : Hid (Blk w2 w.heap.size 25 #[.slice none 0 0, .slice none 0 0, .int .i64 0]) := Lib.hid (by rw [hw2]; exact HR1.out.alloc _)
  have HX2 : Hid (Blk w2 (w.heap.size + 1) 32 #[.slice none 0 0, .slice none 0 0, .slice none 0 0, .slice none 0 0]) := Lib.hid (by rw [hw2]; exact HX1.out.alloc _)
  have HB2 : Hid (Below w.heap.size w w2) := Lib.hid (by rw [hw2]; exact HB1.out.alloc HB1.out.size _)
  refine wpList_rows rfl 22 1 #[(0, .tmp 4)] rfl (.slice (some ⟨w1.heap.size, 0, none⟩) 1 1) (w1.alloc (.cells (ndsCells l1V).toArray 69)) (by kernel_rfl) ?_
  try simp only [Act.put, List.setIfInBounds_toArray, List.set_cons_zero, List.set_cons_succ, List.getElem_toArray, List.getElem_cons_zero, List.getElem_cons_succ]
  rw [← hw2, ← hgN]
  clear hw2 hgN
  refine wpList_build rfl 25 #[(2, .const (.int .i64 100)), (0, .tmp 5)] rfl (.agg #[.slice (some ⟨gN, 0, none⟩) 1 1, .slice none 0 0, .int .i64 100]) (by kernel_rfl) ?_
  try simp only [Act.put, List.setIfInBounds_toArray, List.set_cons_zero, List.set_cons_succ, List.getElem_toArray, List.getElem_cons_zero, List.getElem_cons_succ]
  refine wpList_valV (v := .pointer (some ⟨w2.heap.size, 0, none⟩)) (w' := w2.alloc (.cells #[.slice none 0 0, .slice none 0 0, .int .i64 0] 25)) rfl (by kernel_rfl) ?_
  try simp only [Act.put, List.setIfInBounds_toArray, List.set_cons_zero, List.set_cons_succ, List.getElem_toArray, List.getElem_cons_zero, List.getElem_cons_succ]
  refine wpList_store_mid rfl 25 (.tmp 2) (.tmp 6) rfl w2.heap.size 0 #[.slice (some ⟨gN, 0, none⟩) 1 1, .slice none 0 0, .int .i64 100] rfl rfl (there_blkO (Blk.new w2 25 #[.slice none 0 0, .slice none 0 0, .int .i64 0]) (Nat.le_refl _)) (by kernel_rfl) (by kernel_rfl) ?_
  try simp only [Act.put, List.setIfInBounds_toArray, List.set_cons_zero, List.set_cons_succ, List.getElem_toArray, List.getElem_cons_zero, List.getElem_cons_succ]
  obtain ⟨w3, hw3⟩ : ∃ W, W = (w2.alloc (.cells #[.slice none 0 0, .slice none 0 0, .int .i64 0] 25)).setCells w2.heap.size 0 (#[.slice (some ⟨gN, 0, none⟩) 1 1, .slice none 0 0, .int .i64 100] : Array Value).toList := ⟨_, rfl⟩
  have hsz : (w2.alloc (.cells #[.slice none 0 0, .slice none 0 0, .int .i64 0] 25)).heap.size = w2.heap.size + 1 := by simp
  have far3 : ∀ (g : Nat) (t : TypeId) (cs : Array Value), g ≠ w2.heap.size → Blk w2 g t cs → Blk w3 g t cs := fun g t cs hg h => by rw [hw3]; exact (((h.alloc _).far (p := ⟨w2.heap.size, 0, none⟩) hg _).far (p := ⟨w2.heap.size, 1, none⟩) hg _).far (p := ⟨w2.heap.size, 2, none⟩) hg _
  have HT3 : Hid (Blk w3 w2.heap.size 25 #[.slice (some ⟨gN, 0, none⟩) 1 1, .slice none 0 0, .int .i64 100]) := Lib.hid (by rw [hw3]; exact blk_setCells (#[.slice (some ⟨gN, 0, none⟩) 1 1, .slice none 0 0, .int .i64 100] : Array Value).toList 0 _ _ (Blk.new w2 25 #[.slice none 0 0, .slice none 0 0, .int .i64 0]))
  have HN3 := Lib.hid (far3 _ _ _ (by have := HN2.out.lt; omega) HN2.out)
  have HR3 := Lib.hid (far3 _ _ _ (by have := HR2.out.lt; omega) HR2.out)
  have HX3 := Lib.hid (far3 _ _ _ (by have := HX2.out.lt; omega) HX2.out)
  have HB3 : Hid (Below w.heap.size w w3) := Lib.hid (by rw [hw3]; exact below_setCells (g := w2.heap.size) HB2.out.size _ _ _ _ (HB2.out.alloc HB2.out.size _))
  have HGT : Hid (w.heap.size + 1 < w2.heap.size) := Lib.hid HX2.out.lt
  obtain ⟨gT, hgT⟩ : ∃ g, g = w2.heap.size := ⟨_, rfl⟩
  rw [← hgT] at HT3 HGT
  rw [← hw3, ← hgT]
  clear hw3 far3 hsz hgT
  go_upto_region 2 with (fail)
  refine wp_region_inv (OneI w.heap.size (w.heap.size + 1) gT gN (.agg (styCells (styK 1 0)).toArray) (.agg (ndsCells l1V).toArray) (.slice (some ⟨gN, 0, none⟩) 1 1) (.agg #[.slice (some ⟨gN, 0, none⟩) 1 1, .slice none 0 0, .int .i64 100]) w) (by kernel_rfl) ?_ ?_ ?_
  · refine ⟨false, false, false, false, false, false, false, false, false, false, 0, 0, 0, 0, rfl, rfl, (by simp), (by simp), (by simp), (by simp), HT3.out.drew, HN3.out.drew, HR3.out.drew, HX3.out.drew, HB3.out.drew, (by simp), (by simp)⟩
  · rintro L a W i ⟨b0, b1, b2, b3, b4, b5, b6, b7, b8, b9, gC, gU, gH, gF, rfl, rfl, m1, m3, m4, m6, mT, mN, mR, mX, mB, cl7, cl9⟩ hi
    obtain ⟨hun, oi, hoi, hall⟩ := mem_ready.1 hi
    have hlt : i < 10 := by
      rcases Nat.lt_or_ge i 10 with h | h
      · exact h
      · rw [Array.getD_eq_getD_getElem?, Array.getElem?_eq_none (by simpa using h)] at hun; simp at hun
    clear hi
    rcases (by omega : i = 0 ∨ i = 1 ∨ i = 2 ∨ i = 3 ∨ i = 4 ∨ i = 5 ∨ i = 6 ∨ i = 7 ∨ i = 8 ∨ i = 9) with rfl | rfl | rfl | rfl | rfl | rfl | rfl | rfl | rfl | rfl
    · skip
      injection hoi with hoi
      subst hoi
      simp [Region.binds] at hun hall
      subst hun
      have t0 := mT.get 0 rfl
      have t1 := mT.get 1 rfl
      have t2 := mT.get 2 rfl
      have tl := mT.lt
      refine wpOp_val (v := .agg #[.slice (some ⟨gN, 0, none⟩) 1 1, .slice none 0 0, .int .i64 100]) (X := W) rfl rfl (by go_simp) ?_
      refine ⟨true, b1, b2, b3, b4, b5, b6, b7, b8, b9, gC, gU, gH, gF, rfl, rfl, m1, m3, m4, m6, mT, mN, mR, mX, mB, cl7, cl9⟩
    · skip
      injection hoi with hoi
      subst hoi
      simp [Region.binds] at hun hall
      subst hun
      have e7 : b7 = false := by
        cases b7
        · rfl
        · have := cl7 rfl; simp at this
      subst e7
      have e9 : b9 = false := by
        cases b9
        · rfl
        · have := cl9 rfl; simp at this
      subst e9
      refine wpOp_val (v := .slice (some ⟨W.heap.size, 0, none⟩) 1 1) (X := W.alloc (.cells #[.int .i64 0, .int .i64 0, .int .i64 0, .int .i64 0] 38)) rfl rfl (by kernel_rfl) ?_
      refine ⟨b0, true, b2, b3, b4, b5, b6, false, b8, false, W.heap.size, gU, gH, gF, rfl, rfl, fun _ => Blk.new _ _ _, fun h => (m3 h).alloc _, fun h => (m4 h).alloc _, fun h => (m6 h).alloc _, mT.alloc _, mN.alloc _, mR.alloc _, mX.alloc _, mB.alloc mB.size _, (by simp), (by simp)⟩
    · skip
      injection hoi with hoi
      subst hoi
      simp [Region.binds] at hun hall
      subst hun
      refine wpOp_val (v := .agg #[.int .i64 100, .int .i64 0, .int .i64 0]) (X := W) rfl rfl (by kernel_rfl) ?_
      refine ⟨b0, b1, true, b3, b4, b5, b6, b7, b8, b9, gC, gU, gH, gF, rfl, rfl, m1, m3, m4, m6, mT, mN, mR, mX, mB, cl7, cl9⟩
    · skip
      injection hoi with hoi
      subst hoi
      simp [Region.binds] at hun hall
      subst hun
      subst hall
      have e7 : b7 = false := by
        cases b7
        · rfl
        · have := cl7 rfl; simp at this
      subst e7
      have e9 : b9 = false := by
        cases b9
        · rfl
        · have := cl9 rfl; simp at this
      subst e9
      refine wpOp_val (v := .slice (some ⟨W.heap.size, 0, none⟩) 1 1) (X := W.alloc (.cells #[.int .i64 100, .int .i64 0, .int .i64 0] 40)) rfl rfl (by kernel_rfl) ?_
      refine ⟨b0, b1, true, true, b4, b5, b6, false, b8, false, gC, W.heap.size, gH, gF, rfl, rfl, fun h => (m1 h).alloc _, fun _ => Blk.new _ _ _, fun h => (m4 h).alloc _, fun h => (m6 h).alloc _, mT.alloc _, mN.alloc _, mR.alloc _, mX.alloc _, mB.alloc mB.size _, (by simp), (by simp)⟩
    · skip
      injection hoi with hoi
      subst hoi
      simp [Region.binds] at hun hall
      subst hun
      have e7 : b7 = false := by
        cases b7
        · rfl
        · have := cl7 rfl; simp at this
      subst e7
      have e9 : b9 = false := by
        cases b9
        · rfl
        · have := cl9 rfl; simp at this
      subst e9
      refine wpOp_val (v := .slice (some ⟨W.heap.size, 0, none⟩) 1 1) (X := W.alloc (.cells #[.int .i64 0] 2)) rfl rfl (by kernel_rfl) ?_
      refine ⟨b0, b1, b2, b3, true, b5, b6, false, b8, false, gC, gU, W.heap.size, gF, rfl, rfl, fun h => (m1 h).alloc _, fun h => (m3 h).alloc _, fun _ => Blk.new _ _ _, fun h => (m6 h).alloc _, mT.alloc _, mN.alloc _, mR.alloc _, mX.alloc _, mB.alloc mB.size _, (by simp), (by simp)⟩
    · skip
      injection hoi with hoi
      subst hoi
      simp [Region.binds] at hun hall
      subst hun
      refine wpOp_val (v := .agg #[.int .i64 0, .int .i64 0, .int .i64 100, .int .i64 0, .slice none 0 0]) (X := W) rfl rfl (by kernel_rfl) ?_
      refine ⟨b0, b1, b2, b3, b4, true, b6, b7, b8, b9, gC, gU, gH, gF, rfl, rfl, m1, m3, m4, m6, mT, mN, mR, mX, mB, cl7, cl9⟩
    · skip
      injection hoi with hoi
      subst hoi
      simp [Region.binds] at hun hall
      subst hun
      subst hall
      have e7 : b7 = false := by
        cases b7
        · rfl
        · have := cl7 rfl; simp at this
      subst e7
      have e9 : b9 = false := by
        cases b9
        · rfl
        · have := cl9 rfl; simp at this
      subst e9
      refine wpOp_val (v := .slice (some ⟨W.heap.size, 0, none⟩) 1 1) (X := W.alloc (.cells #[.int .i64 0, .int .i64 0, .int .i64 100, .int .i64 0, .slice none 0 0] 43)) rfl rfl (by kernel_rfl) ?_
      refine ⟨b0, b1, b2, b3, b4, true, true, false, b8, false, gC, gU, gH, W.heap.size, rfl, rfl, fun h => (m1 h).alloc _, fun h => (m3 h).alloc _, fun h => (m4 h).alloc _, fun _ => Blk.new _ _ _, mT.alloc _, mN.alloc _, mR.alloc _, mX.alloc _, mB.alloc mB.size _, (by simp), (by simp)⟩
    · skip
      injection hoi with hoi
      subst hoi
      simp [Region.binds] at hun hall
      subst hun
      obtain ⟨rfl, rfl, rfl, rfl⟩ := hall
      refine wpOp_val (v := .agg #[.slice (some ⟨gC, 0, none⟩) 1 1, .slice (some ⟨gU, 0, none⟩) 1 1, .slice (some ⟨gH, 0, none⟩) 1 1, .slice (some ⟨gF, 0, none⟩) 1 1]) (X := W) rfl rfl (by kernel_rfl) ?_
      refine ⟨b0, true, b2, true, true, b5, true, true, b8, b9, gC, gU, gH, gF, rfl, rfl, m1, m3, m4, m6, mT, mN, mR, mX, mB, (fun _ => ⟨rfl, rfl, rfl, rfl⟩), (fun _ => rfl)⟩
    · skip
      injection hoi with hoi
      subst hoi
      simp [Region.binds] at hun hall
      subst hun
      subst hall
      refine wpOp_skip (X := W.setCells w.heap.size 0 (#[.slice (some ⟨gN, 0, none⟩) 1 1, .slice none 0 0, .int .i64 100] : Array Value).toList) rfl rfl (exec_store_mid 25 (.tmp 0) (.tmp 7) rfl w.heap.size 0 (#[.slice (some ⟨gN, 0, none⟩) 1 1, .slice none 0 0, .int .i64 100] : Array Value).toList (by kernel_rfl) (by kernel_rfl) W (there_blkO mR (Nat.le_refl _)) (by kernel_rfl) (by kernel_rfl)) ?_
      refine ⟨true, b1, b2, b3, b4, b5, b6, b7, true, b9, gC, gU, gH, gF, rfl, rfl, fun h => far_setCells ((m1 h).ne_ mR (by decide)) _ _ _ (m1 h), fun h => far_setCells ((m3 h).ne_ mR (by decide)) _ _ _ (m3 h), fun h => far_setCells ((m4 h).ne_ mR (by decide)) _ _ _ (m4 h), fun h => far_setCells ((m6 h).ne_ mR (by decide)) _ _ _ (m6 h), far_setCells (by have := HGT.out; omega) _ _ _ mT, far_setCells (mN.ne_ mR (by decide)) _ _ _ mN, blk_setCells (#[.slice (some ⟨gN, 0, none⟩) 1 1, .slice none 0 0, .int .i64 100] : Array Value).toList 0 _ _ mR, far_setCells (mX.ne_ mR (by decide)) _ _ _ mX, below_setCells (g := w.heap.size) (Nat.le_refl _) _ _ _ _ mB, cl7, cl9⟩
    · skip
      injection hoi with hoi
      subst hoi
      simp [Region.binds] at hun hall
      subst hun
      obtain ⟨rfl, rfl, rfl, rfl, rfl, rfl, rfl, rfl, rfl, -, -⟩ := hall
      refine wpOp_skip (X := W.setCells (w.heap.size + 1) 0 (#[.slice (some ⟨gC, 0, none⟩) 1 1, .slice (some ⟨gU, 0, none⟩) 1 1, .slice (some ⟨gH, 0, none⟩) 1 1, .slice (some ⟨gF, 0, none⟩) 1 1] : Array Value).toList) rfl rfl (exec_store_mid 32 (.tmp 1) (.tmp 14) rfl (w.heap.size + 1) 0 (#[.slice (some ⟨gC, 0, none⟩) 1 1, .slice (some ⟨gU, 0, none⟩) 1 1, .slice (some ⟨gH, 0, none⟩) 1 1, .slice (some ⟨gF, 0, none⟩) 1 1] : Array Value).toList (by kernel_rfl) (by kernel_rfl) W (there_blkO mX (Nat.le_refl _)) (by kernel_rfl) (by kernel_rfl)) ?_
      refine ⟨true, true, true, true, true, true, true, true, true, true, gC, gU, gH, gF, rfl, rfl, fun h => far_setCells ((m1 h).ne_ mX (by decide)) _ _ _ (m1 h), fun h => far_setCells ((m3 h).ne_ mX (by decide)) _ _ _ (m3 h), fun h => far_setCells ((m4 h).ne_ mX (by decide)) _ _ _ (m4 h), fun h => far_setCells ((m6 h).ne_ mX (by decide)) _ _ _ (m6 h), far_setCells (mT.ne_ mX (by decide)) _ _ _ mT, far_setCells (mN.ne_ mX (by decide)) _ _ _ mN, far_setCells (mR.ne_ mX (by decide)) _ _ _ mR, blk_setCells (#[.slice (some ⟨gC, 0, none⟩) 1 1, .slice (some ⟨gU, 0, none⟩) 1 1, .slice (some ⟨gH, 0, none⟩) 1 1, .slice (some ⟨gF, 0, none⟩) 1 1] : Array Value).toList 0 _ _ mX, below_setCells (g := w.heap.size + 1) (Nat.le_succ _) _ _ _ _ mB, (fun _ => ⟨rfl, rfl, rfl, rfl⟩), (fun _ => rfl)⟩
  · rintro L a W ⟨b0, b1, b2, b3, b4, b5, b6, b7, b8, b9, gC, gU, gH, gF, rfl, rfl, m1, m3, m4, m6, mT, mN, mR, mX, mB, cl7, cl9⟩ he
    have e0 : b0 = true := by
      cases b0
      · have h0 : (0 : Nat) ∈ ([] : List Nat) := by
          rw [← he]
          exact mem_ready.2 ⟨rfl, _, rfl, by simp [Region.binds]⟩
        simp at h0
      · rfl
    subst e0
    have e1 : b1 = true := by
      cases b1
      · have h0 : (1 : Nat) ∈ ([] : List Nat) := by
          rw [← he]
          exact mem_ready.2 ⟨rfl, _, rfl, by simp [Region.binds]⟩
        simp at h0
      · rfl
    subst e1
    have e2 : b2 = true := by
      cases b2
      · have h0 : (2 : Nat) ∈ ([] : List Nat) := by
          rw [← he]
          exact mem_ready.2 ⟨rfl, _, rfl, by simp [Region.binds]⟩
        simp at h0
      · rfl
    subst e2
    have e3 : b3 = true := by
      cases b3
      · have h0 : (3 : Nat) ∈ ([] : List Nat) := by
          rw [← he]
          exact mem_ready.2 ⟨rfl, _, rfl, by simp [Region.binds]⟩
        simp at h0
      · rfl
    subst e3
    have e4 : b4 = true := by
      cases b4
      · have h0 : (4 : Nat) ∈ ([] : List Nat) := by
          rw [← he]
          exact mem_ready.2 ⟨rfl, _, rfl, by simp [Region.binds]⟩
        simp at h0
      · rfl
    subst e4
    have e5 : b5 = true := by
      cases b5
      · have h0 : (5 : Nat) ∈ ([] : List Nat) := by
          rw [← he]
          exact mem_ready.2 ⟨rfl, _, rfl, by simp [Region.binds]⟩
        simp at h0
      · rfl
    subst e5
    have e6 : b6 = true := by
      cases b6
      · have h0 : (6 : Nat) ∈ ([] : List Nat) := by
          rw [← he]
          exact mem_ready.2 ⟨rfl, _, rfl, by simp [Region.binds]⟩
        simp at h0
      · rfl
    subst e6
    have e7 : b7 = true := by
      cases b7
      · have h0 : (7 : Nat) ∈ ([] : List Nat) := by
          rw [← he]
          exact mem_ready.2 ⟨rfl, _, rfl, by simp [Region.binds]⟩
        simp at h0
      · rfl
    subst e7
    have e8 : b8 = true := by
      cases b8
      · have h0 : (8 : Nat) ∈ ([] : List Nat) := by
          rw [← he]
          exact mem_ready.2 ⟨rfl, _, rfl, by simp [Region.binds]⟩
        simp at h0
      · rfl
    subst e8
    have e9 : b9 = true := by
      cases b9
      · have h0 : (9 : Nat) ∈ ([] : List Nat) := by
          rw [← he]
          exact mem_ready.2 ⟨rfl, _, rfl, by simp [Region.binds]⟩
        simp at h0
      · rfl
    subst e9
    have HM := Lib.hid (And.intro mN (And.intro mR (And.intro mX mB)))
    have HTB : Hid (TabV gC gU gH gF 100 W) := Lib.hid ⟨m1 rfl, m3 rfl, m4 rfl, m6 rfl⟩
    clear he m1 m3 m4 m6 mT mN mR mX mB cl7 cl9
    simp only [if_true]
    go_wp2_with fail
    refine bodyPost_ret (res_oneV Tryz.results23 _ _ w.heap.size (w.heap.size + 1) _ _ _ _ _ _ _ rfl rfl HM.out.2.1 HM.out.2.2.1) rfl ?_
    exact ⟨⟨gN, gC, gU, gH, gF, rfl, HM.out.1, HTB.out⟩, HM.out.2.2.2⟩
end
end Go.Proofs.YtjhfcpadnofdnaaGreat
