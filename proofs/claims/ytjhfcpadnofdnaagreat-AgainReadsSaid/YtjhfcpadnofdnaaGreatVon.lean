/- again.bare and same, of a tree of one node. -/
import Derived.Test.YtjhfcpadnofdnaaGreatVoj
set_option linter.unusedSimpArgs false
set_option linter.unusedVariables false
namespace Go.Proofs.YtjhfcpadnofdnaaGreat
open Go.RowKit
attribute [local go_sem] block_of_add
theorem wpList_valV {P : Program} {ops : Array Oper} {rest : List Oper} {o : Oper} {a : Act} {w w' : World} {Q : Exit → Act → World → Prop} {v : Value} (hgd : o.guard = none)
    (hrun : (execOp a.eval o).run P w = .ok (.value v) w') (h : wpList P ops Q rest (a.put o.dst v) w') : wpList P ops Q (o :: rest) a w :=
  wpList_plain hgd fun K hK => by
    unfold Oper.wp
    simp only [hrun]
    exact hK _ _ h
def setArr : Array Value → Nat → List Value → Array Value
  | cs, _, [] => cs
  | cs, o, v :: vs => setArr (cs.setIfInBounds o v) (o + 1) vs
theorem blk_setCells {g : Nat} {t : TypeId} : ∀ (vs : List Value) (o : Nat) (w : World) (cs : Array Value), Blk w g t cs → Blk (w.setCells g o vs) g t (setArr cs o vs)
  | [], _, _, _, h => h
  | v :: vs, o, w, cs, h => blk_setCells vs (o + 1) _ _ (h.set_ o v)
def fldV : Array Value := #[.int .u8 1, .int .u8 0, .int .u8 0, .int .u8 0, .int .u8 0, .int .u8 0, .bool false, .bool false, .int .u8 0, .int .i64 0, .int .u8 0, .int .i64 0, .int .u8 0, .int .i64 0, .int .u8 0, .int .i64 0, .int .u8 0, .int .i64 0, .int .u8 0, .int .i64 0, .int .u8 0, .int .i64 0, .int .u8 0, .int .i64 0, .int .u8 0, .int .i64 0, .int .u8 0, .int .i64 0, .int .u8 0, .int .i64 0, .int .i64 0, .int .i64 0, .int .i64 0, .int .i64 0, .int .i64 0, .int .i64 0, .int .i64 0, .int .i64 0, .int .i64 0, .int .i64 0, .int .i64 0, .int .i64 0]
def fldZ : Array Value := #[.int .u8 0, .int .u8 0, .int .u8 0, .int .u8 0, .int .u8 0, .int .u8 0, .bool false, .bool false, .int .u8 0, .int .i64 0, .int .u8 0, .int .i64 0, .int .u8 0, .int .i64 0, .int .u8 0, .int .i64 0, .int .u8 0, .int .i64 0, .int .u8 0, .int .i64 0, .int .u8 0, .int .i64 0, .int .u8 0, .int .i64 0, .int .u8 0, .int .i64 0, .int .u8 0, .int .i64 0, .int .u8 0, .int .i64 0, .int .i64 0, .int .i64 0, .int .i64 0, .int .i64 0, .int .i64 0, .int .i64 0, .int .i64 0, .int .i64 0, .int .i64 0, .int .i64 0, .int .i64 0, .int .i64 0]
theorem fldV_one : fldV.all (·.oneCell') = true := by kernel_rfl
theorem fld_set : setArr fldZ 0 fldV.toList = fldV := by kernel_rfl
theorem fld_sz : 0 + fldV.size ≤ fldZ.size := Nat.le_of_ble_eq_true (by kernel_rfl)
def mgZ : List Value := [.int .u8 0, .int .i64 0, .int .u8 0, .int .i64 0, .int .u8 0, .int .i64 0, .int .u8 0, .int .i64 0]
def b4Z : List Value := [.int .i64 0, .int .i64 0, .int .i64 0, .int .i64 0]
section
variable {gN gC gU gH gF gC' gU' gH' gF' : Nat} {v v2 : Int} {w : World}
set_option maxRecDepth 100000 in
set_option maxHeartbeats 4000000 in
theorem abare_one : Calls Tryz.prog 188 #[.agg (styCells (styK 1 0)).toArray] w fun e w' => e = .returned (.agg fldV) ∧ Below w.heap.size w w' := by
  obtain ⟨w1, hw1⟩ : ∃ W, W = (w.alloc (.cells (styCells (styK 1 0)).toArray 67)).alloc (.cells #[.int .u8 0, .int .u8 0, .int .u8 0, .int .u8 0, .int .u8 0, .int .u8 0, .bool false, .bool false, .int .u8 0, .int .i64 0, .int .u8 0, .int .i64 0, .int .u8 0, .int .i64 0, .int .u8 0, .int .i64 0, .int .u8 0, .int .i64 0, .int .u8 0, .int .i64 0, .int .u8 0, .int .i64 0, .int .u8 0, .int .i64 0, .int .u8 0, .int .i64 0, .int .u8 0, .int .i64 0, .int .u8 0, .int .i64 0, .int .i64 0, .int .i64 0, .int .i64 0, .int .i64 0, .int .i64 0, .int .i64 0, .int .i64 0, .int .i64 0, .int .i64 0, .int .i64 0, .int .i64 0, .int .i64 0] 255) := ⟨_, rfl⟩
  have HS1 : Hid (Blk w1 w.heap.size 67 (styCells (styK 1 0)).toArray) := Lib.hid (by rw [hw1]; exact (Blk.new _ _ _).alloc _)
  have HF1 : Hid (Blk w1 (w.heap.size + 1) 255 fldZ) := Lib.hid (by rw [hw1]; exact Blk.at_ _ _ _ (by simp))
  have HB1 : Hid (Below w.heap.size w w1) := Lib.hid (by rw [hw1]; exact ((Below.refl _ _).alloc (Nat.le_refl _) _).alloc (by simp) _)
  have z := sty_size (styK 1 0)
  go_enter Tryz.func188, Tryz.ntmps188
  go_upto_region 1 with (fail)
  rw [← hw1]
  clear hw1 z
  refine wp_region_lit ?_
  refine wpList_valV (v := ?_) (w' := w1) rfl ?_ ?_
  rotate_left
  · go_simp
    rfl
  try simp only [Act.put, List.setIfInBounds_toArray, List.set_cons_zero, List.set_cons_succ, List.getElem_toArray, List.getElem_cons_zero, List.getElem_cons_succ]
  refine wpList_valV (v := ?_) (w' := w1) rfl ?_ ?_
  rotate_left
  · have c := HS1.out.get 0 rfl
    have lg := HS1.out.lt
    go_simp
    rfl
  try simp only [Act.put, List.setIfInBounds_toArray, List.set_cons_zero, List.set_cons_succ, List.getElem_toArray, List.getElem_cons_zero, List.getElem_cons_succ]
  refine wpList_valV (v := ?_) (w' := w1) rfl ?_ ?_
  rotate_left
  · go_simp
    rfl
  try simp only [Act.put, List.setIfInBounds_toArray, List.set_cons_zero, List.set_cons_succ, List.getElem_toArray, List.getElem_cons_zero, List.getElem_cons_succ]
  refine wpList_valV (v := ?_) (w' := w1) rfl ?_ ?_
  rotate_left
  · have c := HS1.out.get 2 rfl
    have lg := HS1.out.lt
    go_simp
    rfl
  try simp only [Act.put, List.setIfInBounds_toArray, List.set_cons_zero, List.set_cons_succ, List.getElem_toArray, List.getElem_cons_zero, List.getElem_cons_succ]
  refine wpList_valV (v := ?_) (w' := w1) rfl ?_ ?_
  rotate_left
  · go_simp
    rfl
  try simp only [Act.put, List.setIfInBounds_toArray, List.set_cons_zero, List.set_cons_succ, List.getElem_toArray, List.getElem_cons_zero, List.getElem_cons_succ]
  refine wpList_valV (v := ?_) (w' := w1) rfl ?_ ?_
  rotate_left
  · have c := HS1.out.get 3 rfl
    have lg := HS1.out.lt
    go_simp
    rfl
  try simp only [Act.put, List.setIfInBounds_toArray, List.set_cons_zero, List.set_cons_succ, List.getElem_toArray, List.getElem_cons_zero, List.getElem_cons_succ]
  refine wpList_valV (v := ?_) (w' := w1) rfl ?_ ?_
  rotate_left
  · go_simp
    rfl
  try simp only [Act.put, List.setIfInBounds_toArray, List.set_cons_zero, List.set_cons_succ, List.getElem_toArray, List.getElem_cons_zero, List.getElem_cons_succ]
  refine wpList_valV (v := ?_) (w' := w1) rfl ?_ ?_
  rotate_left
  · have c := HS1.out.get 32 rfl
    have lg := HS1.out.lt
    go_simp
    rfl
  try simp only [Act.put, List.setIfInBounds_toArray, List.set_cons_zero, List.set_cons_succ, List.getElem_toArray, List.getElem_cons_zero, List.getElem_cons_succ]
  refine wpList_valV (v := ?_) (w' := w1) rfl ?_ ?_
  rotate_left
  · go_simp
    rfl
  try simp only [Act.put, List.setIfInBounds_toArray, List.set_cons_zero, List.set_cons_succ, List.getElem_toArray, List.getElem_cons_zero, List.getElem_cons_succ]
  refine wpList_valV (v := ?_) (w' := w1) rfl ?_ ?_
  rotate_left
  · have c := HS1.out.get 35 rfl
    have lg := HS1.out.lt
    go_simp
    rfl
  try simp only [Act.put, List.setIfInBounds_toArray, List.set_cons_zero, List.set_cons_succ, List.getElem_toArray, List.getElem_cons_zero, List.getElem_cons_succ]
  refine wpList_valV (v := ?_) (w' := w1) rfl ?_ ?_
  rotate_left
  · go_simp
    rfl
  try simp only [Act.put, List.setIfInBounds_toArray, List.set_cons_zero, List.set_cons_succ, List.getElem_toArray, List.getElem_cons_zero, List.getElem_cons_succ]
  refine wpList_valV (v := ?_) (w' := w1) rfl ?_ ?_
  rotate_left
  · have c := HS1.out.get 36 rfl
    have lg := HS1.out.lt
    go_simp
    rfl
  try simp only [Act.put, List.setIfInBounds_toArray, List.set_cons_zero, List.set_cons_succ, List.getElem_toArray, List.getElem_cons_zero, List.getElem_cons_succ]
  refine wpList_valV (v := ?_) (w' := w1) rfl ?_ ?_
  rotate_left
  · go_simp
    rfl
  try simp only [Act.put, List.setIfInBounds_toArray, List.set_cons_zero, List.set_cons_succ, List.getElem_toArray, List.getElem_cons_zero, List.getElem_cons_succ]
  refine wpList_valV (v := ?_) (w' := w1) rfl ?_ ?_
  rotate_left
  · have c := HS1.out.get 1 rfl
    have lg := HS1.out.lt
    go_simp
    rfl
  try simp only [Act.put, List.setIfInBounds_toArray, List.set_cons_zero, List.set_cons_succ, List.getElem_toArray, List.getElem_cons_zero, List.getElem_cons_succ]
  refine wpList_valV (v := ?_) (w' := w1) rfl ?_ ?_
  rotate_left
  · go_simp
    rfl
  try simp only [Act.put, List.setIfInBounds_toArray, List.set_cons_zero, List.set_cons_succ, List.getElem_toArray, List.getElem_cons_zero, List.getElem_cons_succ]
  refine wpList_valV (v := ?_) (w' := w1) rfl ?_ ?_
  rotate_left
  · have c := HS1.out.get 34 rfl
    have lg := HS1.out.lt
    go_simp
    rfl
  try simp only [Act.put, List.setIfInBounds_toArray, List.set_cons_zero, List.set_cons_succ, List.getElem_toArray, List.getElem_cons_zero, List.getElem_cons_succ]
  refine wpList_valV (v := ?_) (w' := w1) rfl ?_ ?_
  rotate_left
  · go_simp
    rfl
  try simp only [Act.put, List.setIfInBounds_toArray, List.set_cons_zero, List.set_cons_succ, List.getElem_toArray, List.getElem_cons_zero, List.getElem_cons_succ]
  refine wpList_valV (v := ?_) (w' := w1) rfl ?_ ?_
  rotate_left
  · have c := HS1.out.get 4 rfl
    have c' := HS1.out.get 5 rfl
    have lg := HS1.out.lt
    go_simp
    rfl
  try simp only [Act.put, List.setIfInBounds_toArray, List.set_cons_zero, List.set_cons_succ, List.getElem_toArray, List.getElem_cons_zero, List.getElem_cons_succ]
  refine wpList_valV (v := ?_) (w' := w1) rfl ?_ ?_
  rotate_left
  · go_simp
    rfl
  try simp only [Act.put, List.setIfInBounds_toArray, List.set_cons_zero, List.set_cons_succ, List.getElem_toArray, List.getElem_cons_zero, List.getElem_cons_succ]
  refine wpList_valV (v := ?_) (w' := w1) rfl ?_ ?_
  rotate_left
  · have c := HS1.out.get 6 rfl
    have c' := HS1.out.get 7 rfl
    have lg := HS1.out.lt
    go_simp
    rfl
  try simp only [Act.put, List.setIfInBounds_toArray, List.set_cons_zero, List.set_cons_succ, List.getElem_toArray, List.getElem_cons_zero, List.getElem_cons_succ]
  refine wpList_valV (v := ?_) (w' := w1) rfl ?_ ?_
  rotate_left
  · go_simp
    rfl
  try simp only [Act.put, List.setIfInBounds_toArray, List.set_cons_zero, List.set_cons_succ, List.getElem_toArray, List.getElem_cons_zero, List.getElem_cons_succ]
  refine wpList_valV (v := ?_) (w' := w1) rfl ?_ ?_
  rotate_left
  · have c := HS1.out.get 8 rfl
    have c' := HS1.out.get 9 rfl
    have lg := HS1.out.lt
    go_simp
    rfl
  try simp only [Act.put, List.setIfInBounds_toArray, List.set_cons_zero, List.set_cons_succ, List.getElem_toArray, List.getElem_cons_zero, List.getElem_cons_succ]
  refine wpList_valV (v := ?_) (w' := w1) rfl ?_ ?_
  rotate_left
  · go_simp
    rfl
  try simp only [Act.put, List.setIfInBounds_toArray, List.set_cons_zero, List.set_cons_succ, List.getElem_toArray, List.getElem_cons_zero, List.getElem_cons_succ]
  refine wpList_valV (v := ?_) (w' := w1) rfl ?_ ?_
  rotate_left
  · have c := HS1.out.get 10 rfl
    have c' := HS1.out.get 11 rfl
    have lg := HS1.out.lt
    go_simp
    rfl
  try simp only [Act.put, List.setIfInBounds_toArray, List.set_cons_zero, List.set_cons_succ, List.getElem_toArray, List.getElem_cons_zero, List.getElem_cons_succ]
  refine wpList_valV (v := ?_) (w' := w1) rfl ?_ ?_
  rotate_left
  · go_simp
    rfl
  try simp only [Act.put, List.setIfInBounds_toArray, List.set_cons_zero, List.set_cons_succ, List.getElem_toArray, List.getElem_cons_zero, List.getElem_cons_succ]
  refine wpList_valV (v := ?_) (w' := w1) rfl ?_ ?_
  rotate_left
  · have c := HS1.out.get 12 rfl
    have c' := HS1.out.get 13 rfl
    have lg := HS1.out.lt
    go_simp
    rfl
  try simp only [Act.put, List.setIfInBounds_toArray, List.set_cons_zero, List.set_cons_succ, List.getElem_toArray, List.getElem_cons_zero, List.getElem_cons_succ]
  refine wpList_valV (v := ?_) (w' := w1) rfl ?_ ?_
  rotate_left
  · go_simp
    rfl
  try simp only [Act.put, List.setIfInBounds_toArray, List.set_cons_zero, List.set_cons_succ, List.getElem_toArray, List.getElem_cons_zero, List.getElem_cons_succ]
  refine wpList_valV (v := ?_) (w' := w1) rfl ?_ ?_
  rotate_left
  · have c := HS1.out.get 14 rfl
    have c' := HS1.out.get 15 rfl
    have lg := HS1.out.lt
    go_simp
    rfl
  try simp only [Act.put, List.setIfInBounds_toArray, List.set_cons_zero, List.set_cons_succ, List.getElem_toArray, List.getElem_cons_zero, List.getElem_cons_succ]
  refine wpList_valV (v := ?_) (w' := w1) rfl ?_ ?_
  rotate_left
  · go_simp
    rfl
  try simp only [Act.put, List.setIfInBounds_toArray, List.set_cons_zero, List.set_cons_succ, List.getElem_toArray, List.getElem_cons_zero, List.getElem_cons_succ]
  refine wpList_valV (v := ?_) (w' := w1) rfl ?_ ?_
  rotate_left
  · have c := HS1.out.get 40 rfl
    have c' := HS1.out.get 41 rfl
    have lg := HS1.out.lt
    go_simp
    rfl
  try simp only [Act.put, List.setIfInBounds_toArray, List.set_cons_zero, List.set_cons_succ, List.getElem_toArray, List.getElem_cons_zero, List.getElem_cons_succ]
  refine wpList_build rfl 253 #[(0, .tmp 20), (1, .tmp 22), (2, .tmp 24), (3, .tmp 26), (4, .tmp 28), (5, .tmp 30), (6, .tmp 32)] rfl (.agg #[.int .u8 0, .int .i64 0, .int .u8 0, .int .i64 0, .int .u8 0, .int .i64 0, .int .u8 0, .int .i64 0, .int .u8 0, .int .i64 0, .int .u8 0, .int .i64 0, .int .u8 0, .int .i64 0]) (by kernel_rfl) ?_
  try simp only [Act.put, List.setIfInBounds_toArray, List.set_cons_zero, List.set_cons_succ, List.getElem_toArray, List.getElem_cons_zero, List.getElem_cons_succ]
  refine wpList_valV (v := ?_) (w' := w1) rfl ?_ ?_
  rotate_left
  · go_simp
    rfl
  try simp only [Act.put, List.setIfInBounds_toArray, List.set_cons_zero, List.set_cons_succ, List.getElem_toArray, List.getElem_cons_zero, List.getElem_cons_succ]
  refine wpList_load_mid rfl 63 (.tmp 34) rfl w.heap.size 16 rfl mgZ _ (blk_rng (cs := (styCells (styK 1 0))) HS1.out (fun q v hv => by rcases q with _ | _ | _ | _ | _ | _ | _ | _ |  q <;> first | exact hv | (simp [mgZ] at hv))) Tryz.underlying63 rfl (by kernel_rfl) ?_
  try simp only [Act.put, List.setIfInBounds_toArray, List.set_cons_zero, List.set_cons_succ, List.getElem_toArray, List.getElem_cons_zero, List.getElem_cons_succ]
  refine wpList_valV (v := ?_) (w' := w1) rfl ?_ ?_
  rotate_left
  · go_simp
    rfl
  try simp only [Act.put, List.setIfInBounds_toArray, List.set_cons_zero, List.set_cons_succ, List.getElem_toArray, List.getElem_cons_zero, List.getElem_cons_succ]
  refine wpList_load_mid rfl 64 (.tmp 36) rfl w.heap.size 24 rfl b4Z _ (blk_rng (cs := (styCells (styK 1 0))) HS1.out (fun q v hv => by rcases q with _ | _ | _ | _ |  q <;> first | exact hv | (simp [b4Z] at hv))) Tryz.underlying64 rfl (by kernel_rfl) ?_
  try simp only [Act.put, List.setIfInBounds_toArray, List.set_cons_zero, List.set_cons_succ, List.getElem_toArray, List.getElem_cons_zero, List.getElem_cons_succ]
  refine wpList_valV (v := ?_) (w' := w1) rfl ?_ ?_
  rotate_left
  · go_simp
    rfl
  try simp only [Act.put, List.setIfInBounds_toArray, List.set_cons_zero, List.set_cons_succ, List.getElem_toArray, List.getElem_cons_zero, List.getElem_cons_succ]
  refine wpList_load_mid rfl 64 (.tmp 38) rfl w.heap.size 28 rfl b4Z _ (blk_rng (cs := (styCells (styK 1 0))) HS1.out (fun q v hv => by rcases q with _ | _ | _ | _ |  q <;> first | exact hv | (simp [b4Z] at hv))) Tryz.underlying64 rfl (by kernel_rfl) ?_
  try simp only [Act.put, List.setIfInBounds_toArray, List.set_cons_zero, List.set_cons_succ, List.getElem_toArray, List.getElem_cons_zero, List.getElem_cons_succ]
  refine wpList_valV (v := ?_) (w' := w1) rfl ?_ ?_
  rotate_left
  · go_simp
    rfl
  try simp only [Act.put, List.setIfInBounds_toArray, List.set_cons_zero, List.set_cons_succ, List.getElem_toArray, List.getElem_cons_zero, List.getElem_cons_succ]
  refine wpList_valV (v := ?_) (w' := w1) rfl ?_ ?_
  rotate_left
  · have c := HS1.out.get 33 rfl
    have lg := HS1.out.lt
    go_simp
    rfl
  try simp only [Act.put, List.setIfInBounds_toArray, List.set_cons_zero, List.set_cons_succ, List.getElem_toArray, List.getElem_cons_zero, List.getElem_cons_succ]
  refine wpList_valV (v := ?_) (w' := w1) rfl ?_ ?_
  rotate_left
  · go_simp
    rfl
  try simp only [Act.put, List.setIfInBounds_toArray, List.set_cons_zero, List.set_cons_succ, List.getElem_toArray, List.getElem_cons_zero, List.getElem_cons_succ]
  refine wpList_valV (v := ?_) (w' := w1) rfl ?_ ?_
  rotate_left
  · have c := HS1.out.get 38 rfl
    have lg := HS1.out.lt
    go_simp
    rfl
  try simp only [Act.put, List.setIfInBounds_toArray, List.set_cons_zero, List.set_cons_succ, List.getElem_toArray, List.getElem_cons_zero, List.getElem_cons_succ]
  refine wpList_valV (v := ?_) (w' := w1) rfl ?_ ?_
  rotate_left
  · go_simp
    rfl
  try simp only [Act.put, List.setIfInBounds_toArray, List.set_cons_zero, List.set_cons_succ, List.getElem_toArray, List.getElem_cons_zero, List.getElem_cons_succ]
  refine wpList_valV (v := ?_) (w' := w1) rfl ?_ ?_
  rotate_left
  · have c := HS1.out.get 39 rfl
    have lg := HS1.out.lt
    go_simp
    rfl
  try simp only [Act.put, List.setIfInBounds_toArray, List.set_cons_zero, List.set_cons_succ, List.getElem_toArray, List.getElem_cons_zero, List.getElem_cons_succ]
  refine wpList_valV (v := ?_) (w' := w1) rfl ?_ ?_
  rotate_left
  · go_simp
    rfl
  try simp only [Act.put, List.setIfInBounds_toArray, List.set_cons_zero, List.set_cons_succ, List.getElem_toArray, List.getElem_cons_zero, List.getElem_cons_succ]
  refine wpList_valV (v := ?_) (w' := w1) rfl ?_ ?_
  rotate_left
  · have c := HS1.out.get 37 rfl
    have lg := HS1.out.lt
    go_simp
    rfl
  try simp only [Act.put, List.setIfInBounds_toArray, List.set_cons_zero, List.set_cons_succ, List.getElem_toArray, List.getElem_cons_zero, List.getElem_cons_succ]
  refine wpList_build rfl 255 #[(0, .tmp 4), (1, .tmp 6), (2, .tmp 8), (3, .tmp 10), (4, .tmp 12), (5, .tmp 14), (6, .tmp 16), (7, .tmp 18), (8, .tmp 33), (9, .tmp 35), (10, .tmp 37), (11, .tmp 39), (12, .tmp 41), (13, .tmp 43), (14, .tmp 45), (15, .tmp 47)] rfl (.agg fldV) (by kernel_rfl) ?_
  try simp only [Act.put, List.setIfInBounds_toArray, List.set_cons_zero, List.set_cons_succ, List.getElem_toArray, List.getElem_cons_zero, List.getElem_cons_succ]
  refine wpList_store_mid rfl 255 (.tmp 2) (.tmp 48) rfl (w.heap.size + 1) 0 fldV rfl rfl (there_blkO HF1.out fld_sz) (by kernel_rfl) fldV_one ?_
  try simp only [Act.put, List.setIfInBounds_toArray, List.set_cons_zero, List.set_cons_succ, List.getElem_toArray, List.getElem_cons_zero, List.getElem_cons_succ]
  have HF2 : Hid (Blk (w1.setCells (w.heap.size + 1) 0 fldV.toList) (w.heap.size + 1) 255 fldV) := Lib.hid (by have h := blk_setCells fldV.toList 0 w1 _ HF1.out; rw [fld_set] at h; exact h)
  have HB2 := Lib.hid (below_setCells (g := w.heap.size + 1) (Nat.le_succ _) fldV.toList 0 w w1 HB1.out)
  generalize w1.setCells (w.heap.size + 1) 0 fldV.toList = w2 at HF2 HB2 ⊢
  go_wp2_with fail
  refine bodyPost_ret (results_cell_row rfl _ _ (w.heap.size + 1) 255 fldV (0, 0) _ rfl HF2.out Tryz.underlying255 rfl (by kernel_rfl)) rfl ?_
  exact ⟨rfl, HB2.out⟩
set_option maxRecDepth 100000 in
set_option maxHeartbeats 4000000 in
theorem equ16 : Calls Tryz.prog 187 #[.slice none 0 0, .slice none 0 0] w fun e w' => e = .returned (.bool true) ∧ w = w' := by
  go_enter Tryz.func187, Tryz.ntmps187
  go_wp2_with fail
  refine wp_loop0 ?_
  go_wp2_with fail
  go_ret
  exact ⟨rfl, rfl⟩
set_option maxRecDepth 100000 in
set_option maxHeartbeats 4000000 in
theorem equ64 : Calls Tryz.prog 184 #[.slice none 0 0, .slice none 0 0] w fun e w' => e = .returned (.bool true) ∧ w = w' := by
  go_enter Tryz.func184, Tryz.ntmps184
  go_wp2_with fail
  refine wp_loop0 ?_
  go_wp2_with fail
  go_ret
  exact ⟨rfl, rfl⟩
set_option maxRecDepth 100000 in
set_option maxHeartbeats 4000000 in
theorem equ1 {ga gb ca cb : Nat} (ha : w.cell? ⟨ga, 0, none⟩ = some (.int .i64 0)) (hb : w.cell? ⟨gb, 0, none⟩ = some (.int .i64 0)) (la : ga < w.heap.size) (lb : gb < w.heap.size) : Calls Tryz.prog 185 #[.slice (some ⟨ga, 0, none⟩) 1 ca, .slice (some ⟨gb, 0, none⟩) 1 cb] w fun e w' => e = .returned (.bool true) ∧ Below w.heap.size w w' := by
  go_enter Tryz.func185, Tryz.ntmps185
  go_wp2_with fail
  refine wp_loop_rounds 2 ?_
  rw [rounds_succ]
  go_wp2_with fail
  go_quiet (fail)
  have HB := Lib.hid (below_drVN (Below.refl w.heap.size w) nq)
  generalize w.drewN nq = w1 at HB ⊢
  clear ha hb la lb
  go_wp2_with fail
  rw [rounds_succ]
  go_wp2_with fail
  go_ret
  exact ⟨rfl, HB.out⟩
set_option maxRecDepth 100000 in
set_option maxHeartbeats 4000000 in
theorem asty_one : Calls Tryz.prog 186 #[.agg (styCells (styK 1 0)).toArray, .agg (styCells (styK 1 0)).toArray] w fun e w' => e = .returned (.bool true) ∧ Below w.heap.size w w' := by
  obtain ⟨w1, hw1⟩ : ∃ W, W = (w.alloc (.cells (styCells (styK 1 0)).toArray 67)).alloc (.cells (styCells (styK 1 0)).toArray 67) := ⟨_, rfl⟩
  have HS1 : Hid (Blk w1 w.heap.size 67 (styCells (styK 1 0)).toArray) := Lib.hid (by rw [hw1]; exact (Blk.new _ _ _).alloc _)
  have HS2 : Hid (Blk w1 (w.heap.size + 1) 67 (styCells (styK 1 0)).toArray) := Lib.hid (by rw [hw1]; exact Blk.at_ _ _ _ (by simp))
  have HB1 : Hid (Below w.heap.size w w1) := Lib.hid (by rw [hw1]; exact ((Below.refl _ _).alloc (Nat.le_refl _) _).alloc (by simp) _)
  have z := sty_size (styK 1 0)
  go_enter Tryz.func186, Tryz.ntmps186
  go_upto_region 1 with (fail)
  rw [← hw1]
  clear hw1 z
  have c42 := HS1.out.get 42 (v := .slice none 0 0) rfl
  have d42 := HS2.out.get 42 (v := .slice none 0 0) rfl
  have lc := HS1.out.lt
  have ld := HS2.out.lt
  go_upto_region 3 with (go_at_call 187; refine (equ16 (w := w1)).mono ?_; rintro e w9 ⟨rfl, rfl⟩)
  clear c42 d42 lc ld
  refine wp_region_S (fun _ _ _ W' => Below w1.heap.size w1 W') 1000 1000 100000 true true (by kernel_rfl) (by kernel_rfl) (by kernel_rfl) ((Below.refl _ _).drew) ?_
  refine wpAnyS_take (i := 0) (v := .agg (styCells (styK 1 0)).toArray) rfl (by kernel_rfl) (by kernel_rfl) (by kernel_rfl) (fun _ _ _ h => h) (by rfl) (gives_yields ?_) ?_
  · refine yieldsIf_load_mid (by rfl) 67 (.tmp 2) rfl (w.heap.size) 0 rfl (styCells (styK 1 0)) _ ?_ Tryz.underlying67 rfl (by kernel_rfl)
    rintro W' ⟨b', d', u', hS'⟩
    exact (blk_rng (HS1.out.below hS' HS1.out.lt) (fun q v hv => by rw [Nat.zero_add]; exact hv))
  try simp only [Act.put, List.setIfInBounds_toArray, List.set_cons_zero, List.set_cons_succ, List.getElem_toArray, List.getElem_cons_zero, List.getElem_cons_succ]
  refine wpAnyS_take (i := 1) (v := _) rfl (by kernel_rfl) (by kernel_rfl) (by kernel_rfl) (fun _ _ _ h => h) (by rfl) (gives_call (by rfl) _ _ ?_ (fun b' d' u' W' hS' => (abare_one (w := W')).mono (fun _ _ h => ⟨h.1, (hS'.trans (h.2.mono hS'.size))⟩))) ?_
  · intro W'
    first | rfl | kernel_rfl
  try simp only [Act.put, List.setIfInBounds_toArray, List.set_cons_zero, List.set_cons_succ, List.getElem_toArray, List.getElem_cons_zero, List.getElem_cons_succ]
  refine wpAnyS_take (i := 2) (v := .agg (styCells (styK 1 0)).toArray) rfl (by kernel_rfl) (by kernel_rfl) (by kernel_rfl) (fun _ _ _ h => h) (by rfl) (gives_yields ?_) ?_
  · refine yieldsIf_load_mid (by rfl) 67 (.tmp 3) rfl ((w.heap.size + 1)) 0 rfl (styCells (styK 1 0)) _ ?_ Tryz.underlying67 rfl (by kernel_rfl)
    rintro W' ⟨b', d', u', hS'⟩
    exact (blk_rng (HS2.out.below hS' HS2.out.lt) (fun q v hv => by rw [Nat.zero_add]; exact hv))
  try simp only [Act.put, List.setIfInBounds_toArray, List.set_cons_zero, List.set_cons_succ, List.getElem_toArray, List.getElem_cons_zero, List.getElem_cons_succ]
  refine wpAnyS_take (i := 3) (v := _) rfl (by kernel_rfl) (by kernel_rfl) (by kernel_rfl) (fun _ _ _ h => h) (by rfl) (gives_call (by rfl) _ _ ?_ (fun b' d' u' W' hS' => (abare_one (w := W')).mono (fun _ _ h => ⟨h.1, (hS'.trans (h.2.mono hS'.size))⟩))) ?_
  · intro W'
    first | rfl | kernel_rfl
  try simp only [Act.put, List.setIfInBounds_toArray, List.set_cons_zero, List.set_cons_succ, List.getElem_toArray, List.getElem_cons_zero, List.getElem_cons_succ]
  refine wpAnyS_take (i := 4) (v := .bool true) rfl (by kernel_rfl) (by kernel_rfl) (by kernel_rfl) (fun _ _ _ h => h) (by rfl) (gives_pure (by rfl) (fun b' d' u' W' hS' => by kernel_rfl)) ?_
  try simp only [Act.put, List.setIfInBounds_toArray, List.set_cons_zero, List.set_cons_succ, List.getElem_toArray, List.getElem_cons_zero, List.getElem_cons_succ]
  refine wpAnyS_take (i := 5) (v := ?_) rfl (by kernel_rfl) (by kernel_rfl) (by kernel_rfl) (fun _ _ _ h => h) (by rfl) (gives_pure (by rfl) ?_) ?_
  rotate_left
  · intro b' d' u' W' hS'
    go_simp
    rfl
  try simp only [Act.put, List.setIfInBounds_toArray, List.set_cons_zero, List.set_cons_succ, List.getElem_toArray, List.getElem_cons_zero, List.getElem_cons_succ]
  refine wpAnyS_done (b := true) (d := true) (by kernel_rfl) (by kernel_rfl) (by kernel_rfl) rfl (fun w2 hS => ?_) _
  have HB2 := Lib.hid (HB1.out.trans (hS.mono HB1.out.size))
  clear hS
  go_wp2_with fail
  go_ret
  exact ⟨rfl, HB2.out⟩
attribute [local go_sem] eqUdV guardUdV eqCnV guardCnV
set_option maxRecDepth 100000 in
set_option maxHeartbeats 4000000 in
theorem asame_ne (hne : v ≠ v2) (hn : Blk w gN 69 (ndsCells l1V).toArray) : Calls Tryz.prog 113 #[.agg #[.slice (some ⟨gN, 0, none⟩) 1 1, .slice none 0 0, .int .i64 v], .agg #[.slice (some ⟨gC, 0, none⟩) 1 1, .slice (some ⟨gU, 0, none⟩) 1 1, .slice (some ⟨gH, 0, none⟩) 1 1, .slice (some ⟨gF, 0, none⟩) 1 1], .agg #[.slice (some ⟨gN, 0, none⟩) 1 1, .slice none 0 0, .int .i64 v2], .agg #[.slice (some ⟨gC', 0, none⟩) 1 1, .slice (some ⟨gU', 0, none⟩) 1 1, .slice (some ⟨gH', 0, none⟩) 1 1, .slice (some ⟨gF', 0, none⟩) 1 1], .int .i64 0] w fun e w' => e = .returned (.bool false) ∧ Below w.heap.size w w' := by
  obtain ⟨w1, hw1⟩ : ∃ W, W = (((w.alloc (.cells #[.slice (some ⟨gN, 0, none⟩) 1 1, .slice none 0 0, .int .i64 v] 25)).alloc (.cells #[.slice (some ⟨gC, 0, none⟩) 1 1, .slice (some ⟨gU, 0, none⟩) 1 1, .slice (some ⟨gH, 0, none⟩) 1 1, .slice (some ⟨gF, 0, none⟩) 1 1] 32)).alloc (.cells #[.slice (some ⟨gN, 0, none⟩) 1 1, .slice none 0 0, .int .i64 v2] 25)).alloc (.cells #[.slice (some ⟨gC', 0, none⟩) 1 1, .slice (some ⟨gU', 0, none⟩) 1 1, .slice (some ⟨gH', 0, none⟩) 1 1, .slice (some ⟨gF', 0, none⟩) 1 1] 32) := ⟨_, rfl⟩
  have HT1 : Hid (Blk w1 w.heap.size 25 #[.slice (some ⟨gN, 0, none⟩) 1 1, .slice none 0 0, .int .i64 v]) := Lib.hid (by rw [hw1]; exact (((Blk.new _ _ _).alloc _).alloc _).alloc _)
  have HX1 : Hid (Blk w1 (w.heap.size + 1) 32 #[.slice (some ⟨gC, 0, none⟩) 1 1, .slice (some ⟨gU, 0, none⟩) 1 1, .slice (some ⟨gH, 0, none⟩) 1 1, .slice (some ⟨gF, 0, none⟩) 1 1]) := Lib.hid (by rw [hw1]; exact ((Blk.at_ _ _ _ (by simp)).alloc _).alloc _)
  have HU1 : Hid (Blk w1 (w.heap.size + 1 + 1) 25 #[.slice (some ⟨gN, 0, none⟩) 1 1, .slice none 0 0, .int .i64 v2]) := Lib.hid (by rw [hw1]; exact (Blk.at_ _ _ _ (by simp)).alloc _)
  have HY1 : Hid (Blk w1 (w.heap.size + 1 + 1 + 1) 32 #[.slice (some ⟨gC', 0, none⟩) 1 1, .slice (some ⟨gU', 0, none⟩) 1 1, .slice (some ⟨gH', 0, none⟩) 1 1, .slice (some ⟨gF', 0, none⟩) 1 1]) := Lib.hid (by rw [hw1]; exact Blk.at_ _ _ _ (by simp))
  have HB1 : Hid (Below w.heap.size w w1) := Lib.hid (by rw [hw1]; exact ((((Below.refl _ _).alloc (Nat.le_refl _) _).alloc (by simp) _).alloc (by simp; omega) _).alloc (by simp; omega) _)
  have HR := Lib.hid (root_call (v := v) (hn.below HB1.out hn.lt))
  have e1 : (v == v2) = false := beq_eq_false_iff_ne.2 hne
  have e2 : (v != v2) = true := by simp [bne, e1]
  clear hn hne
  go_enter Tryz.func113, Tryz.ntmps113
  go_upto_region 1 with (fail)
  rw [← hw1]
  clear hw1
  have t0 := HT1.out.get 0 rfl
  have t1 := HT1.out.get 1 rfl
  have t2 := HT1.out.get 2 rfl
  have tl := HT1.out.lt
  go_upto_region 2 with (go_at_call 36; refine HR.out.mono ?_; rintro e w2 ⟨rfl, hb2⟩; have HB2 := Lib.hid (HB1.out.trans (hb2.mono HB1.out.size)); have HT2 := Lib.hid (HT1.out.below hb2 HT1.out.lt); have HU2 := Lib.hid (HU1.out.below hb2 HU1.out.lt); clear hb2 t0 t1 t2 tl; have t2 := HT2.out.get 2 rfl; have tl := HT2.out.lt; have u2 := HU2.out.get 2 rfl; have ul := HU2.out.lt)
  go_wp2_with fail
  go_ret
  exact ⟨rfl, HB2.out⟩
set_option maxRecDepth 100000 in
set_option maxHeartbeats 4000000 in
theorem asame_eq (hrd : ∀ W : World, Blk W gN 69 (ndsCells l1V).toArray → Calls Tryz.prog 37 #[.agg #[.slice (some ⟨gN, 0, none⟩) 1 1, .slice none 0 0, .int .i64 v], .int .i64 0] W fun e w' => (∃ g c, e = .returned (.slice (some ⟨g, 0, none⟩) 1 c) ∧ w'.cell? ⟨g, 0, none⟩ = some (.int .i64 0) ∧ g < w'.heap.size) ∧ Below W.heap.size W w') (hn : Blk w gN 69 (ndsCells l1V).toArray) (hX : TabV gC gU gH gF v w) (hY : TabV gC' gU' gH' gF' v w) : Calls Tryz.prog 113 #[.agg #[.slice (some ⟨gN, 0, none⟩) 1 1, .slice none 0 0, .int .i64 v], .agg #[.slice (some ⟨gC, 0, none⟩) 1 1, .slice (some ⟨gU, 0, none⟩) 1 1, .slice (some ⟨gH, 0, none⟩) 1 1, .slice (some ⟨gF, 0, none⟩) 1 1], .agg #[.slice (some ⟨gN, 0, none⟩) 1 1, .slice none 0 0, .int .i64 v], .agg #[.slice (some ⟨gC', 0, none⟩) 1 1, .slice (some ⟨gU', 0, none⟩) 1 1, .slice (some ⟨gH', 0, none⟩) 1 1, .slice (some ⟨gF', 0, none⟩) 1 1], .int .i64 0] w fun e w' => e = .returned (.bool true) ∧ Below w.heap.size w w' := by
  obtain ⟨w1, hw1⟩ : ∃ W, W = (((w.alloc (.cells #[.slice (some ⟨gN, 0, none⟩) 1 1, .slice none 0 0, .int .i64 v] 25)).alloc (.cells #[.slice (some ⟨gC, 0, none⟩) 1 1, .slice (some ⟨gU, 0, none⟩) 1 1, .slice (some ⟨gH, 0, none⟩) 1 1, .slice (some ⟨gF, 0, none⟩) 1 1] 32)).alloc (.cells #[.slice (some ⟨gN, 0, none⟩) 1 1, .slice none 0 0, .int .i64 v] 25)).alloc (.cells #[.slice (some ⟨gC', 0, none⟩) 1 1, .slice (some ⟨gU', 0, none⟩) 1 1, .slice (some ⟨gH', 0, none⟩) 1 1, .slice (some ⟨gF', 0, none⟩) 1 1] 32) := ⟨_, rfl⟩
  have HT1 : Hid (Blk w1 w.heap.size 25 #[.slice (some ⟨gN, 0, none⟩) 1 1, .slice none 0 0, .int .i64 v]) := Lib.hid (by rw [hw1]; exact (((Blk.new _ _ _).alloc _).alloc _).alloc _)
  have HX1 : Hid (Blk w1 (w.heap.size + 1) 32 #[.slice (some ⟨gC, 0, none⟩) 1 1, .slice (some ⟨gU, 0, none⟩) 1 1, .slice (some ⟨gH, 0, none⟩) 1 1, .slice (some ⟨gF, 0, none⟩) 1 1]) := Lib.hid (by rw [hw1]; exact ((Blk.at_ _ _ _ (by simp)).alloc _).alloc _)
  have HU1 : Hid (Blk w1 (w.heap.size + 1 + 1) 25 #[.slice (some ⟨gN, 0, none⟩) 1 1, .slice none 0 0, .int .i64 v]) := Lib.hid (by rw [hw1]; exact (Blk.at_ _ _ _ (by simp)).alloc _)
  have HY1 : Hid (Blk w1 (w.heap.size + 1 + 1 + 1) 32 #[.slice (some ⟨gC', 0, none⟩) 1 1, .slice (some ⟨gU', 0, none⟩) 1 1, .slice (some ⟨gH', 0, none⟩) 1 1, .slice (some ⟨gF', 0, none⟩) 1 1]) := Lib.hid (by rw [hw1]; exact Blk.at_ _ _ _ (by simp))
  have HB1 : Hid (Below w.heap.size w w1) := Lib.hid (by rw [hw1]; exact ((((Below.refl _ _).alloc (Nat.le_refl _) _).alloc (by simp) _).alloc (by simp; omega) _).alloc (by simp; omega) _)
  have HN := Lib.hid (fun W' (h : Below w.heap.size w W') => hn.below h hn.lt)
  have HR := Lib.hid (root_call (v := v) (hn.below HB1.out hn.lt))
  have HRD := Lib.hid (fun W' (h : Below w.heap.size w W') => hrd W' (HN.out W' h))
  have HTX := Lib.hid (fun W' (h : Below w.heap.size w W') => hX.below h)
  have HTY := Lib.hid (fun W' (h : Below w.heap.size w W') => hY.below h)
  clear hn hrd hX hY
  go_enter Tryz.func113, Tryz.ntmps113
  go_upto_region 1 with (fail)
  rw [← hw1]
  clear hw1
  have t0 := HT1.out.get 0 rfl
  have t1 := HT1.out.get 1 rfl
  have t2 := HT1.out.get 2 rfl
  have tl := HT1.out.lt
  go_upto_region 3 with (first | (go_at_call 36; refine HR.out.mono ?_; rintro e w2 ⟨rfl, hb2⟩; have HB2 := Lib.hid (HB1.out.trans (hb2.mono HB1.out.size)); have HT2 := Lib.hid (HT1.out.below hb2 HT1.out.lt); have HU2 := Lib.hid (HU1.out.below hb2 HU1.out.lt); have HX2 := Lib.hid (HX1.out.below hb2 HX1.out.lt); have HY2 := Lib.hid (HY1.out.below hb2 HY1.out.lt); clear hb2 t0 t1 t2 tl; have t0 := HT2.out.get 0 rfl; have t1 := HT2.out.get 1 rfl; have t2 := HT2.out.get 2 rfl; have tl := HT2.out.lt; have u0 := HU2.out.get 0 rfl; have u1 := HU2.out.get 1 rfl; have u2 := HU2.out.get 2 rfl; have ul := HU2.out.lt) | (go_at_call 184; refine (equ64 (w := w2)).mono ?_; rintro e w9 ⟨rfl, rfl⟩))
  go_upto_region 4 with (go_at_call 37; refine (HRD.out _ HB2.out).mono ?_; rintro e w3 ⟨⟨g1, ca, rfl, hg1, lg1⟩, hb3⟩; have HG3 := Lib.hid (And.intro hg1 lg1); have HB3 := Lib.hid (HB2.out.trans (hb3.mono HB2.out.size)); have HT3 := Lib.hid (HT2.out.below hb3 HT2.out.lt); have HU3 := Lib.hid (HU2.out.below hb3 HU2.out.lt); have HX3 := Lib.hid (HX2.out.below hb3 HX2.out.lt); have HY3 := Lib.hid (HY2.out.below hb3 HY2.out.lt); clear hb3 hg1 lg1 t0 t1 t2 tl u0 u1 u2 ul; have t0 := HT3.out.get 0 rfl; have t1 := HT3.out.get 1 rfl; have t2 := HT3.out.get 2 rfl; have tl := HT3.out.lt)
  go_upto_region 6 with (first | (go_at_call 37; refine (HRD.out _ HB3.out).mono ?_; rintro e w4 ⟨⟨g2, cb, rfl, hg2, lg2⟩, hb4⟩; have HG4 : Hid (w4.cell? ⟨g1, 0, none⟩ = some (.int .i64 0) ∧ g1 < w4.heap.size ∧ w4.cell? ⟨g2, 0, none⟩ = some (.int .i64 0) ∧ g2 < w4.heap.size) := Lib.hid ⟨(hb4.cell (p := ⟨g1, 0, none⟩) HG3.out.2).trans HG3.out.1, Nat.lt_of_lt_of_le HG3.out.2 hb4.size, hg2, lg2⟩; have HB4 := Lib.hid (HB3.out.trans (hb4.mono HB3.out.size)); have HT4 := Lib.hid (HT3.out.below hb4 HT3.out.lt); have HU4 := Lib.hid (HU3.out.below hb4 HU3.out.lt); have HX4 := Lib.hid (HX3.out.below hb4 HX3.out.lt); have HY4 := Lib.hid (HY3.out.below hb4 HY3.out.lt); clear hb4 hg2 lg2 t0 t1 t2 tl) | (go_at_call 185; refine (equ1 (w := w4) HG4.out.1 HG4.out.2.2.1 HG4.out.2.1 HG4.out.2.2.2).mono ?_; rintro e w5 ⟨rfl, hb5⟩; have HG5 : Hid (w5.cell? ⟨g1, 0, none⟩ = some (.int .i64 0) ∧ g1 < w5.heap.size) := Lib.hid ⟨(hb5.cell (p := ⟨g1, 0, none⟩) HG4.out.2.1).trans HG4.out.1, Nat.lt_of_lt_of_le HG4.out.2.1 hb5.size⟩; have HB5 := Lib.hid (HB4.out.trans (hb5.mono HB4.out.size)); have HT5 := Lib.hid (HT4.out.below hb5 HT4.out.lt); have HU5 := Lib.hid (HU4.out.below hb5 HU4.out.lt); have HX5 := Lib.hid (HX4.out.below hb5 HX4.out.lt); have HY5 := Lib.hid (HY4.out.below hb5 HY4.out.lt); clear hb5))
  have g10 := HG5.out.1
  have g1l := HG5.out.2
  go_wp2_with fail
  refine wp_loop_rounds 2 ?_
  rw [rounds_succ]
  go_upto_region 10 with (fail)
  clear g10 g1l
  have HN5 := Lib.hid (fun W' (h : Below w5.heap.size w5 W') => HN.out W' (HB5.out.trans (h.mono HB5.out.size)))
  refine wp_region_S (fun _ _ _ W' => Below w5.heap.size w5 W') 1000 1000 100000 true true (by kernel_rfl) (by kernel_rfl) (by kernel_rfl) ((Below.refl _ _).drew) ?_
  refine wpAnyS_take (i := 0) (v := ?_) rfl (by kernel_rfl) (by kernel_rfl) (by kernel_rfl) (fun _ _ _ h => h) (by rfl) (gives_pure (by rfl) ?_) ?_
  rotate_left
  · intro b' d' u' W' hS'
    have b1 := HT5.out.below hS' HT5.out.lt
    have b2 := HU5.out.below hS' HU5.out.lt
    have nb := HN5.out W' hS'
    have t0 := b1.get 0 rfl
    have tl := b1.lt
    have u0 := b2.get 0 rfl
    have ul := b2.lt
    have n0 : W'.cell? ⟨gN, 0, none⟩ = some (.int .i64 (-1)) := nb.get 0 rfl
    have nl := nb.lt
    clear b1 b2 nb
    go_simp
    rfl
  try simp only [Act.put, List.setIfInBounds_toArray, List.set_cons_zero, List.set_cons_succ, List.getElem_toArray, List.getElem_cons_zero, List.getElem_cons_succ]
  refine wpAnyS_take (i := 1) (v := ?_) rfl (by kernel_rfl) (by kernel_rfl) (by kernel_rfl) (fun _ _ _ h => h) (by rfl) (gives_pure (by rfl) ?_) ?_
  rotate_left
  · intro b' d' u' W' hS'
    have b1 := HT5.out.below hS' HT5.out.lt
    have b2 := HU5.out.below hS' HU5.out.lt
    have nb := HN5.out W' hS'
    have t0 := b1.get 0 rfl
    have tl := b1.lt
    have u0 := b2.get 0 rfl
    have ul := b2.lt
    have n0 : W'.cell? ⟨gN, 0, none⟩ = some (.int .i64 (-1)) := nb.get 0 rfl
    have nl := nb.lt
    clear b1 b2 nb
    go_simp
    rfl
  try simp only [Act.put, List.setIfInBounds_toArray, List.set_cons_zero, List.set_cons_succ, List.getElem_toArray, List.getElem_cons_zero, List.getElem_cons_succ]
  refine wpAnyS_take (i := 2) (v := ?_) rfl (by kernel_rfl) (by kernel_rfl) (by kernel_rfl) (fun _ _ _ h => h) (by rfl) (gives_pure (by rfl) ?_) ?_
  rotate_left
  · intro b' d' u' W' hS'
    have b1 := HT5.out.below hS' HT5.out.lt
    have b2 := HU5.out.below hS' HU5.out.lt
    have nb := HN5.out W' hS'
    have t0 := b1.get 0 rfl
    have tl := b1.lt
    have u0 := b2.get 0 rfl
    have ul := b2.lt
    have n0 : W'.cell? ⟨gN, 0, none⟩ = some (.int .i64 (-1)) := nb.get 0 rfl
    have nl := nb.lt
    clear b1 b2 nb
    go_simp
    rfl
  try simp only [Act.put, List.setIfInBounds_toArray, List.set_cons_zero, List.set_cons_succ, List.getElem_toArray, List.getElem_cons_zero, List.getElem_cons_succ]
  refine wpAnyS_take (i := 3) (v := ?_) rfl (by kernel_rfl) (by kernel_rfl) (by kernel_rfl) (fun _ _ _ h => h) (by rfl) (gives_pure (by rfl) ?_) ?_
  rotate_left
  · intro b' d' u' W' hS'
    have b1 := HT5.out.below hS' HT5.out.lt
    have b2 := HU5.out.below hS' HU5.out.lt
    have nb := HN5.out W' hS'
    have t0 := b1.get 0 rfl
    have tl := b1.lt
    have u0 := b2.get 0 rfl
    have ul := b2.lt
    have n0 : W'.cell? ⟨gN, 0, none⟩ = some (.int .i64 (-1)) := nb.get 0 rfl
    have nl := nb.lt
    clear b1 b2 nb
    go_simp
    rfl
  try simp only [Act.put, List.setIfInBounds_toArray, List.set_cons_zero, List.set_cons_succ, List.getElem_toArray, List.getElem_cons_zero, List.getElem_cons_succ]
  refine wpAnyS_take (i := 4) (v := ?_) rfl (by kernel_rfl) (by kernel_rfl) (by kernel_rfl) (fun _ _ _ h => h) (by rfl) (gives_pure (by rfl) ?_) ?_
  rotate_left
  · intro b' d' u' W' hS'
    have b1 := HT5.out.below hS' HT5.out.lt
    have b2 := HU5.out.below hS' HU5.out.lt
    have nb := HN5.out W' hS'
    have t0 := b1.get 0 rfl
    have tl := b1.lt
    have u0 := b2.get 0 rfl
    have ul := b2.lt
    have n0 : W'.cell? ⟨gN, 0, none⟩ = some (.int .i64 (-1)) := nb.get 0 rfl
    have nl := nb.lt
    clear b1 b2 nb
    go_simp
    rfl
  try simp only [Act.put, List.setIfInBounds_toArray, List.set_cons_zero, List.set_cons_succ, List.getElem_toArray, List.getElem_cons_zero, List.getElem_cons_succ]
  refine wpAnyS_take (i := 5) (v := ?_) rfl (by kernel_rfl) (by kernel_rfl) (by kernel_rfl) (fun _ _ _ h => h) (by rfl) (gives_pure (by rfl) ?_) ?_
  rotate_left
  · intro b' d' u' W' hS'
    have b1 := HT5.out.below hS' HT5.out.lt
    have b2 := HU5.out.below hS' HU5.out.lt
    have nb := HN5.out W' hS'
    have t0 := b1.get 0 rfl
    have tl := b1.lt
    have u0 := b2.get 0 rfl
    have ul := b2.lt
    have n0 : W'.cell? ⟨gN, 0, none⟩ = some (.int .i64 (-1)) := nb.get 0 rfl
    have nl := nb.lt
    clear b1 b2 nb
    go_simp
    rfl
  try simp only [Act.put, List.setIfInBounds_toArray, List.set_cons_zero, List.set_cons_succ, List.getElem_toArray, List.getElem_cons_zero, List.getElem_cons_succ]
  refine wpAnyS_take (i := 6) (v := ?_) rfl (by kernel_rfl) (by kernel_rfl) (by kernel_rfl) (fun _ _ _ h => h) (by rfl) (gives_pure (by rfl) ?_) ?_
  rotate_left
  · intro b' d' u' W' hS'
    have b1 := HT5.out.below hS' HT5.out.lt
    have b2 := HU5.out.below hS' HU5.out.lt
    have nb := HN5.out W' hS'
    have t0 := b1.get 0 rfl
    have tl := b1.lt
    have u0 := b2.get 0 rfl
    have ul := b2.lt
    have n0 : W'.cell? ⟨gN, 0, none⟩ = some (.int .i64 (-1)) := nb.get 0 rfl
    have nl := nb.lt
    clear b1 b2 nb
    go_simp
    rfl
  try simp only [Act.put, List.setIfInBounds_toArray, List.set_cons_zero, List.set_cons_succ, List.getElem_toArray, List.getElem_cons_zero, List.getElem_cons_succ]
  refine wpAnyS_take (i := 7) (v := ?_) rfl (by kernel_rfl) (by kernel_rfl) (by kernel_rfl) (fun _ _ _ h => h) (by rfl) (gives_pure (by rfl) ?_) ?_
  rotate_left
  · intro b' d' u' W' hS'
    have b1 := HT5.out.below hS' HT5.out.lt
    have b2 := HU5.out.below hS' HU5.out.lt
    have nb := HN5.out W' hS'
    have t0 := b1.get 0 rfl
    have tl := b1.lt
    have u0 := b2.get 0 rfl
    have ul := b2.lt
    have n0 : W'.cell? ⟨gN, 0, none⟩ = some (.int .i64 (-1)) := nb.get 0 rfl
    have nl := nb.lt
    clear b1 b2 nb
    go_simp
    rfl
  try simp only [Act.put, List.setIfInBounds_toArray, List.set_cons_zero, List.set_cons_succ, List.getElem_toArray, List.getElem_cons_zero, List.getElem_cons_succ]
  refine wpAnyS_take (i := 8) (v := ?_) rfl (by kernel_rfl) (by kernel_rfl) (by kernel_rfl) (fun _ _ _ h => h) (by rfl) (gives_pure (by rfl) ?_) ?_
  rotate_left
  · intro b' d' u' W' hS'
    have b1 := HT5.out.below hS' HT5.out.lt
    have b2 := HU5.out.below hS' HU5.out.lt
    have nb := HN5.out W' hS'
    have t0 := b1.get 0 rfl
    have tl := b1.lt
    have u0 := b2.get 0 rfl
    have ul := b2.lt
    have n0 : W'.cell? ⟨gN, 0, none⟩ = some (.int .i64 (-1)) := nb.get 0 rfl
    have nl := nb.lt
    clear b1 b2 nb
    go_simp
    rfl
  try simp only [Act.put, List.setIfInBounds_toArray, List.set_cons_zero, List.set_cons_succ, List.getElem_toArray, List.getElem_cons_zero, List.getElem_cons_succ]
  refine wpAnyS_take (i := 9) (v := ?_) rfl (by kernel_rfl) (by kernel_rfl) (by kernel_rfl) (fun _ _ _ h => h) (by rfl) (gives_pure (by rfl) ?_) ?_
  rotate_left
  · intro b' d' u' W' hS'
    have b1 := HT5.out.below hS' HT5.out.lt
    have b2 := HU5.out.below hS' HU5.out.lt
    have nb := HN5.out W' hS'
    have t0 := b1.get 0 rfl
    have tl := b1.lt
    have u0 := b2.get 0 rfl
    have ul := b2.lt
    have n0 : W'.cell? ⟨gN, 0, none⟩ = some (.int .i64 (-1)) := nb.get 0 rfl
    have nl := nb.lt
    clear b1 b2 nb
    go_simp
    rfl
  try simp only [Act.put, List.setIfInBounds_toArray, List.set_cons_zero, List.set_cons_succ, List.getElem_toArray, List.getElem_cons_zero, List.getElem_cons_succ]
  refine wpAnyS_take (i := 10) (v := ?_) rfl (by kernel_rfl) (by kernel_rfl) (by kernel_rfl) (fun _ _ _ h => h) (by rfl) (gives_pure (by rfl) ?_) ?_
  rotate_left
  · intro b' d' u' W' hS'
    have b1 := HT5.out.below hS' HT5.out.lt
    have b2 := HU5.out.below hS' HU5.out.lt
    have nb := HN5.out W' hS'
    have t0 := b1.get 0 rfl
    have tl := b1.lt
    have u0 := b2.get 0 rfl
    have ul := b2.lt
    have n0 : W'.cell? ⟨gN, 0, none⟩ = some (.int .i64 (-1)) := nb.get 0 rfl
    have nl := nb.lt
    clear b1 b2 nb
    go_simp
    rfl
  try simp only [Act.put, List.setIfInBounds_toArray, List.set_cons_zero, List.set_cons_succ, List.getElem_toArray, List.getElem_cons_zero, List.getElem_cons_succ]
  refine wpAnyS_take (i := 11) (v := ?_) rfl (by kernel_rfl) (by kernel_rfl) (by kernel_rfl) (fun _ _ _ h => h) (by rfl) (gives_pure (by rfl) ?_) ?_
  rotate_left
  · intro b' d' u' W' hS'
    have b1 := HT5.out.below hS' HT5.out.lt
    have b2 := HU5.out.below hS' HU5.out.lt
    have nb := HN5.out W' hS'
    have t0 := b1.get 0 rfl
    have tl := b1.lt
    have u0 := b2.get 0 rfl
    have ul := b2.lt
    have n0 : W'.cell? ⟨gN, 0, none⟩ = some (.int .i64 (-1)) := nb.get 0 rfl
    have nl := nb.lt
    clear b1 b2 nb
    go_simp
    rfl
  try simp only [Act.put, List.setIfInBounds_toArray, List.set_cons_zero, List.set_cons_succ, List.getElem_toArray, List.getElem_cons_zero, List.getElem_cons_succ]
  refine wpAnyS_take (i := 12) (v := ?_) rfl (by kernel_rfl) (by kernel_rfl) (by kernel_rfl) (fun _ _ _ h => h) (by rfl) (gives_pure (by rfl) ?_) ?_
  rotate_left
  · intro b' d' u' W' hS'
    have b1 := HT5.out.below hS' HT5.out.lt
    have b2 := HU5.out.below hS' HU5.out.lt
    have nb := HN5.out W' hS'
    have t0 := b1.get 0 rfl
    have tl := b1.lt
    have u0 := b2.get 0 rfl
    have ul := b2.lt
    have n0 : W'.cell? ⟨gN, 0, none⟩ = some (.int .i64 (-1)) := nb.get 0 rfl
    have nl := nb.lt
    clear b1 b2 nb
    go_simp
    rfl
  try simp only [Act.put, List.setIfInBounds_toArray, List.set_cons_zero, List.set_cons_succ, List.getElem_toArray, List.getElem_cons_zero, List.getElem_cons_succ]
  refine wpAnyS_take (i := 13) (v := ?_) rfl (by kernel_rfl) (by kernel_rfl) (by kernel_rfl) (fun _ _ _ h => h) (by rfl) (gives_pure (by rfl) ?_) ?_
  rotate_left
  · intro b' d' u' W' hS'
    have b1 := HT5.out.below hS' HT5.out.lt
    have b2 := HU5.out.below hS' HU5.out.lt
    have nb := HN5.out W' hS'
    have t0 := b1.get 0 rfl
    have tl := b1.lt
    have u0 := b2.get 0 rfl
    have ul := b2.lt
    have n0 : W'.cell? ⟨gN, 0, none⟩ = some (.int .i64 (-1)) := nb.get 0 rfl
    have nl := nb.lt
    clear b1 b2 nb
    go_simp
    rfl
  try simp only [Act.put, List.setIfInBounds_toArray, List.set_cons_zero, List.set_cons_succ, List.getElem_toArray, List.getElem_cons_zero, List.getElem_cons_succ]
  refine wpAnyS_take (i := 14) (v := ?_) rfl (by kernel_rfl) (by kernel_rfl) (by kernel_rfl) (fun _ _ _ h => h) (by rfl) (gives_pure (by rfl) ?_) ?_
  rotate_left
  · intro b' d' u' W' hS'
    have b1 := HT5.out.below hS' HT5.out.lt
    have b2 := HU5.out.below hS' HU5.out.lt
    have nb := HN5.out W' hS'
    have t0 := b1.get 0 rfl
    have tl := b1.lt
    have u0 := b2.get 0 rfl
    have ul := b2.lt
    have n0 : W'.cell? ⟨gN, 0, none⟩ = some (.int .i64 (-1)) := nb.get 0 rfl
    have nl := nb.lt
    clear b1 b2 nb
    go_simp
    rfl
  try simp only [Act.put, List.setIfInBounds_toArray, List.set_cons_zero, List.set_cons_succ, List.getElem_toArray, List.getElem_cons_zero, List.getElem_cons_succ]
  refine wpAnyS_take (i := 15) (v := ?_) rfl (by kernel_rfl) (by kernel_rfl) (by kernel_rfl) (fun _ _ _ h => h) (by rfl) (gives_pure (by rfl) ?_) ?_
  rotate_left
  · intro b' d' u' W' hS'
    have b1 := HT5.out.below hS' HT5.out.lt
    have b2 := HU5.out.below hS' HU5.out.lt
    have nb := HN5.out W' hS'
    have t0 := b1.get 0 rfl
    have tl := b1.lt
    have u0 := b2.get 0 rfl
    have ul := b2.lt
    have n0 : W'.cell? ⟨gN, 0, none⟩ = some (.int .i64 (-1)) := nb.get 0 rfl
    have nl := nb.lt
    clear b1 b2 nb
    go_simp
    rfl
  try simp only [Act.put, List.setIfInBounds_toArray, List.set_cons_zero, List.set_cons_succ, List.getElem_toArray, List.getElem_cons_zero, List.getElem_cons_succ]
  refine wpAnyS_take (i := 16) (v := ?_) rfl (by kernel_rfl) (by kernel_rfl) (by kernel_rfl) (fun _ _ _ h => h) (by rfl) (gives_pure (by rfl) ?_) ?_
  rotate_left
  · intro b' d' u' W' hS'
    have b1 := HT5.out.below hS' HT5.out.lt
    have b2 := HU5.out.below hS' HU5.out.lt
    have nb := HN5.out W' hS'
    have t0 := b1.get 0 rfl
    have tl := b1.lt
    have u0 := b2.get 0 rfl
    have ul := b2.lt
    have n0 : W'.cell? ⟨gN, 0, none⟩ = some (.int .i64 (-1)) := nb.get 0 rfl
    have nl := nb.lt
    clear b1 b2 nb
    go_simp
    rfl
  try simp only [Act.put, List.setIfInBounds_toArray, List.set_cons_zero, List.set_cons_succ, List.getElem_toArray, List.getElem_cons_zero, List.getElem_cons_succ]
  refine wpAnyS_take (i := 17) (v := ?_) rfl (by kernel_rfl) (by kernel_rfl) (by kernel_rfl) (fun _ _ _ h => h) (by rfl) (gives_pure (by rfl) ?_) ?_
  rotate_left
  · intro b' d' u' W' hS'
    have b1 := HT5.out.below hS' HT5.out.lt
    have b2 := HU5.out.below hS' HU5.out.lt
    have nb := HN5.out W' hS'
    have t0 := b1.get 0 rfl
    have tl := b1.lt
    have u0 := b2.get 0 rfl
    have ul := b2.lt
    have n0 : W'.cell? ⟨gN, 0, none⟩ = some (.int .i64 (-1)) := nb.get 0 rfl
    have nl := nb.lt
    clear b1 b2 nb
    go_simp
    rfl
  try simp only [Act.put, List.setIfInBounds_toArray, List.set_cons_zero, List.set_cons_succ, List.getElem_toArray, List.getElem_cons_zero, List.getElem_cons_succ]
  refine wpAnyS_take (i := 18) (v := ?_) rfl (by kernel_rfl) (by kernel_rfl) (by kernel_rfl) (fun _ _ _ h => h) (by rfl) (gives_pure (by rfl) ?_) ?_
  rotate_left
  · intro b' d' u' W' hS'
    have b1 := HT5.out.below hS' HT5.out.lt
    have b2 := HU5.out.below hS' HU5.out.lt
    have nb := HN5.out W' hS'
    have t0 := b1.get 0 rfl
    have tl := b1.lt
    have u0 := b2.get 0 rfl
    have ul := b2.lt
    have n0 : W'.cell? ⟨gN, 0, none⟩ = some (.int .i64 (-1)) := nb.get 0 rfl
    have nl := nb.lt
    clear b1 b2 nb
    go_simp
    rfl
  try simp only [Act.put, List.setIfInBounds_toArray, List.set_cons_zero, List.set_cons_succ, List.getElem_toArray, List.getElem_cons_zero, List.getElem_cons_succ]
  refine wpAnyS_take (i := 19) (v := ?_) rfl (by kernel_rfl) (by kernel_rfl) (by kernel_rfl) (fun _ _ _ h => h) (by rfl) (gives_pure (by rfl) ?_) ?_
  rotate_left
  · intro b' d' u' W' hS'
    have b1 := HT5.out.below hS' HT5.out.lt
    have b2 := HU5.out.below hS' HU5.out.lt
    have nb := HN5.out W' hS'
    have t0 := b1.get 0 rfl
    have tl := b1.lt
    have u0 := b2.get 0 rfl
    have ul := b2.lt
    have n0 : W'.cell? ⟨gN, 0, none⟩ = some (.int .i64 (-1)) := nb.get 0 rfl
    have nl := nb.lt
    clear b1 b2 nb
    go_simp
    rfl
  try simp only [Act.put, List.setIfInBounds_toArray, List.set_cons_zero, List.set_cons_succ, List.getElem_toArray, List.getElem_cons_zero, List.getElem_cons_succ]
  refine wpAnyS_take (i := 20) (v := .agg (styCells (styK 1 0)).toArray) rfl (by kernel_rfl) (by kernel_rfl) (by kernel_rfl) (fun _ _ _ h => h) (by rfl) (gives_yields ?_) ?_
  · refine yieldsIf_load_mid (by rfl) 67 (.tmp 68) rfl (gN) 1 rfl (styCells (styK 1 0)) _ ?_ Tryz.underlying67 rfl (by kernel_rfl)
    rintro W' ⟨b', d', u', hS'⟩
    exact (sty1V_rng (HN5.out W' hS'))
  try simp only [Act.put, List.setIfInBounds_toArray, List.set_cons_zero, List.set_cons_succ, List.getElem_toArray, List.getElem_cons_zero, List.getElem_cons_succ]
  refine wpAnyS_take (i := 21) (v := ?_) rfl (by kernel_rfl) (by kernel_rfl) (by kernel_rfl) (fun _ _ _ h => h) (by rfl) (gives_pure (by rfl) ?_) ?_
  rotate_left
  · intro b' d' u' W' hS'
    have b1 := HT5.out.below hS' HT5.out.lt
    have b2 := HU5.out.below hS' HU5.out.lt
    have nb := HN5.out W' hS'
    have t0 := b1.get 0 rfl
    have tl := b1.lt
    have u0 := b2.get 0 rfl
    have ul := b2.lt
    have n0 : W'.cell? ⟨gN, 0, none⟩ = some (.int .i64 (-1)) := nb.get 0 rfl
    have nl := nb.lt
    clear b1 b2 nb
    go_simp
    rfl
  try simp only [Act.put, List.setIfInBounds_toArray, List.set_cons_zero, List.set_cons_succ, List.getElem_toArray, List.getElem_cons_zero, List.getElem_cons_succ]
  refine wpAnyS_take (i := 22) (v := ?_) rfl (by kernel_rfl) (by kernel_rfl) (by kernel_rfl) (fun _ _ _ h => h) (by rfl) (gives_pure (by rfl) ?_) ?_
  rotate_left
  · intro b' d' u' W' hS'
    have b1 := HT5.out.below hS' HT5.out.lt
    have b2 := HU5.out.below hS' HU5.out.lt
    have nb := HN5.out W' hS'
    have t0 := b1.get 0 rfl
    have tl := b1.lt
    have u0 := b2.get 0 rfl
    have ul := b2.lt
    have n0 : W'.cell? ⟨gN, 0, none⟩ = some (.int .i64 (-1)) := nb.get 0 rfl
    have nl := nb.lt
    clear b1 b2 nb
    go_simp
    rfl
  try simp only [Act.put, List.setIfInBounds_toArray, List.set_cons_zero, List.set_cons_succ, List.getElem_toArray, List.getElem_cons_zero, List.getElem_cons_succ]
  refine wpAnyS_take (i := 23) (v := ?_) rfl (by kernel_rfl) (by kernel_rfl) (by kernel_rfl) (fun _ _ _ h => h) (by rfl) (gives_pure (by rfl) ?_) ?_
  rotate_left
  · intro b' d' u' W' hS'
    have b1 := HT5.out.below hS' HT5.out.lt
    have b2 := HU5.out.below hS' HU5.out.lt
    have nb := HN5.out W' hS'
    have t0 := b1.get 0 rfl
    have tl := b1.lt
    have u0 := b2.get 0 rfl
    have ul := b2.lt
    have n0 : W'.cell? ⟨gN, 0, none⟩ = some (.int .i64 (-1)) := nb.get 0 rfl
    have nl := nb.lt
    clear b1 b2 nb
    go_simp
    rfl
  try simp only [Act.put, List.setIfInBounds_toArray, List.set_cons_zero, List.set_cons_succ, List.getElem_toArray, List.getElem_cons_zero, List.getElem_cons_succ]
  refine wpAnyS_take (i := 24) (v := ?_) rfl (by kernel_rfl) (by kernel_rfl) (by kernel_rfl) (fun _ _ _ h => h) (by rfl) (gives_pure (by rfl) ?_) ?_
  rotate_left
  · intro b' d' u' W' hS'
    have b1 := HT5.out.below hS' HT5.out.lt
    have b2 := HU5.out.below hS' HU5.out.lt
    have nb := HN5.out W' hS'
    have t0 := b1.get 0 rfl
    have tl := b1.lt
    have u0 := b2.get 0 rfl
    have ul := b2.lt
    have n0 : W'.cell? ⟨gN, 0, none⟩ = some (.int .i64 (-1)) := nb.get 0 rfl
    have nl := nb.lt
    clear b1 b2 nb
    go_simp
    rfl
  try simp only [Act.put, List.setIfInBounds_toArray, List.set_cons_zero, List.set_cons_succ, List.getElem_toArray, List.getElem_cons_zero, List.getElem_cons_succ]
  refine wpAnyS_take (i := 25) (v := ?_) rfl (by kernel_rfl) (by kernel_rfl) (by kernel_rfl) (fun _ _ _ h => h) (by rfl) (gives_pure (by rfl) ?_) ?_
  rotate_left
  · intro b' d' u' W' hS'
    have b1 := HT5.out.below hS' HT5.out.lt
    have b2 := HU5.out.below hS' HU5.out.lt
    have nb := HN5.out W' hS'
    have t0 := b1.get 0 rfl
    have tl := b1.lt
    have u0 := b2.get 0 rfl
    have ul := b2.lt
    have n0 : W'.cell? ⟨gN, 0, none⟩ = some (.int .i64 (-1)) := nb.get 0 rfl
    have nl := nb.lt
    clear b1 b2 nb
    go_simp
    rfl
  try simp only [Act.put, List.setIfInBounds_toArray, List.set_cons_zero, List.set_cons_succ, List.getElem_toArray, List.getElem_cons_zero, List.getElem_cons_succ]
  refine wpAnyS_take (i := 26) (v := .agg (styCells (styK 1 0)).toArray) rfl (by kernel_rfl) (by kernel_rfl) (by kernel_rfl) (fun _ _ _ h => h) (by rfl) (gives_yields ?_) ?_
  · refine yieldsIf_load_mid (by rfl) 67 (.tmp 74) rfl (gN) 1 rfl (styCells (styK 1 0)) _ ?_ Tryz.underlying67 rfl (by kernel_rfl)
    rintro W' ⟨b', d', u', hS'⟩
    exact (sty1V_rng (HN5.out W' hS'))
  try simp only [Act.put, List.setIfInBounds_toArray, List.set_cons_zero, List.set_cons_succ, List.getElem_toArray, List.getElem_cons_zero, List.getElem_cons_succ]
  refine wpAnyS_take (i := 27) (v := _) rfl (by kernel_rfl) (by kernel_rfl) (by kernel_rfl) (fun _ _ _ h => h) (by rfl) (gives_call (by rfl) _ _ ?_ (fun b' d' u' W' hS' => (asty_one (w := W')).mono (fun _ _ h => ⟨h.1, (hS'.trans (h.2.mono hS'.size))⟩))) ?_
  · intro W'
    first | rfl | kernel_rfl
  try simp only [Act.put, List.setIfInBounds_toArray, List.set_cons_zero, List.set_cons_succ, List.getElem_toArray, List.getElem_cons_zero, List.getElem_cons_succ]
  refine wpAnyS_take (i := 28) (v := ?_) rfl (by kernel_rfl) (by kernel_rfl) (by kernel_rfl) (fun _ _ _ h => h) (by rfl) (gives_pure (by rfl) ?_) ?_
  rotate_left
  · intro b' d' u' W' hS'
    have b1 := HT5.out.below hS' HT5.out.lt
    have b2 := HU5.out.below hS' HU5.out.lt
    have nb := HN5.out W' hS'
    have t0 := b1.get 0 rfl
    have tl := b1.lt
    have u0 := b2.get 0 rfl
    have ul := b2.lt
    have n0 : W'.cell? ⟨gN, 0, none⟩ = some (.int .i64 (-1)) := nb.get 0 rfl
    have nl := nb.lt
    clear b1 b2 nb
    go_simp
    rfl
  try simp only [Act.put, List.setIfInBounds_toArray, List.set_cons_zero, List.set_cons_succ, List.getElem_toArray, List.getElem_cons_zero, List.getElem_cons_succ]
  refine wpAnyS_take (i := 29) (v := ?_) rfl (by kernel_rfl) (by kernel_rfl) (by kernel_rfl) (fun _ _ _ h => h) (by rfl) (gives_pure (by rfl) ?_) ?_
  rotate_left
  · intro b' d' u' W' hS'
    have b1 := HT5.out.below hS' HT5.out.lt
    have b2 := HU5.out.below hS' HU5.out.lt
    have nb := HN5.out W' hS'
    have t0 := b1.get 0 rfl
    have tl := b1.lt
    have u0 := b2.get 0 rfl
    have ul := b2.lt
    have n0 : W'.cell? ⟨gN, 0, none⟩ = some (.int .i64 (-1)) := nb.get 0 rfl
    have nl := nb.lt
    clear b1 b2 nb
    go_simp
    rfl
  try simp only [Act.put, List.setIfInBounds_toArray, List.set_cons_zero, List.set_cons_succ, List.getElem_toArray, List.getElem_cons_zero, List.getElem_cons_succ]
  refine wpAnyS_done (b := true) (d := true) (by kernel_rfl) (by kernel_rfl) (by kernel_rfl) rfl (fun w6 hS => ?_) _
  have HB6 := Lib.hid (HB5.out.trans (hS.mono HB5.out.size))
  have HX6 := Lib.hid (HX5.out.below hS HX5.out.lt)
  have HY6 := Lib.hid (HY5.out.below hS HY5.out.lt)
  clear hS
  have x0 := HX6.out.get 0 rfl
  have x1 := HX6.out.get 1 rfl
  have xl := HX6.out.lt
  have y0 := HY6.out.get 0 rfl
  have y1 := HY6.out.get 1 rfl
  have yl := HY6.out.lt
  have p := HTX.out _ HB6.out
  have q := HTY.out _ HB6.out
  have pu0 := p.u.get 0 rfl
  have pu1 := p.u.get 1 rfl
  have pu2 := p.u.get 2 rfl
  have pul := p.u.lt
  have qu0 := q.u.get 0 rfl
  have qu1 := q.u.get 1 rfl
  have qu2 := q.u.get 2 rfl
  have qul := q.u.lt
  have pc0 := p.c.get 0 rfl
  have pc1 := p.c.get 1 rfl
  have pc2 := p.c.get 2 rfl
  have pc3 := p.c.get 3 rfl
  have pcl := p.c.lt
  have qc0 := q.c.get 0 rfl
  have qc1 := q.c.get 1 rfl
  have qc2 := q.c.get 2 rfl
  have qc3 := q.c.get 3 rfl
  have qcl := q.c.lt
  clear p q
  go_upto_region 12 with (fail)
  go_quiet (fail)
  have HB7 := Lib.hid (below_drVN HB6.out nq)
  generalize w6.drewN nq = w7 at HB7 ⊢
  clear x0 x1 xl y0 y1 yl pu0 pu1 pu2 pul qu0 qu1 qu2 qul pc0 pc1 pc2 pc3 pcl qc0 qc1 qc2 qc3 qcl
  go_wp2_with fail
  go_quiet (fail)
  have HB8 := Lib.hid (below_drVN HB7.out nq)
  generalize w7.drewN nq = w8 at HB8 ⊢
  go_wp2_with fail
  rw [rounds_succ]
  go_wp2_with fail
  go_ret
  exact ⟨rfl, HB8.out⟩
end
end Go.Proofs.YtjhfcpadnofdnaaGreat
