/- Rows of three numbers, rows of truths. -/
import Derived.Test.YtjhfcpadnofdnaaGreatTra
import Derived.Test.YtjhfcpadnofdnaaGreatRgh
import Derived.Test.YtjhfcpadnofdnaaGreatTrf
set_option linter.unusedSimpArgs false
set_option linter.unusedVariables false
namespace Go.Proofs.YtjhfcpadnofdnaaGreat
open Go.RowKit
/-! Rows of three numbers, rows of truths. -/
def triC (p : Nat → Int × Int × Int) (m : Nat) : List Value := (List.range m).flatMap fun i => [.int .i64 (p i).1, .int .i64 (p i).2.1, .int .i64 (p i).2.2]
theorem triC_succ (p : Nat → Int × Int × Int) (m : Nat) : triC p (m + 1) = triC p m ++ [.int .i64 (p m).1, .int .i64 (p m).2.1, .int .i64 (p m).2.2] := by simp [triC, List.range_succ]
theorem triC_len (p : Nat → Int × Int × Int) : ∀ m, (triC p m).length = m * 3
  | 0 => rfl
  | m + 1 => by rw [triC_succ, List.length_append, triC_len p m]; simp; omega
theorem triC_at (p : Nat → Int × Int × Int) {i r : Nat} (hr : r < 3) : ∀ {m : Nat}, i < m → (triC p m)[i * 3 + r]? = [Value.int .i64 (p i).1, .int .i64 (p i).2.1, .int .i64 (p i).2.2][r]?
  | 0, h => by omega
  | m + 1, h => by
    rw [triC_succ]
    by_cases e : i = m
    · subst e; rw [List.getElem?_append_right (by rw [triC_len]; omega), triC_len, show i * 3 + r - i * 3 = r by omega]
    · rw [List.getElem?_append_left (by rw [triC_len]; omega)]; exact triC_at p hr (by omega)
theorem triC_g0 (p : Nat → Int × Int × Int) {i m : Nat} (h : i < m) : (triC p m).toArray[i * 3]? = some (.int .i64 (p i).1) := by rw [List.getElem?_toArray]; exact triC_at p (r := 0) (by omega) h
theorem triC_g1 (p : Nat → Int × Int × Int) {i m : Nat} (h : i < m) : (triC p m).toArray[i * 3 + 1]? = some (.int .i64 (p i).2.1) := by rw [List.getElem?_toArray]; exact triC_at p (r := 1) (by omega) h
theorem triC_g2 (p : Nat → Int × Int × Int) {i m : Nat} (h : i < m) : (triC p m).toArray[i * 3 + 2]? = some (.int .i64 (p i).2.2) := by rw [List.getElem?_toArray]; exact triC_at p (r := 2) (by omega) h
def updT (p : Nat → Int × Int × Int) (i : Nat) (z : Int × Int × Int) : Nat → Int × Int × Int := fun j => if j = i then z else p j
theorem triC_set (p : Nat → Int × Int × Int) (m i : Nat) (a b c : Int) (h : i < m) : (((triC p m).toArray.setIfInBounds (i * 3) (.int .i64 a)).setIfInBounds (i * 3 + 1) (.int .i64 b)).setIfInBounds (i * 3 + 2) (.int .i64 c) = (triC (updT p i (a, b, c)) m).toArray := by
  apply Array.ext_getElem?
  intro x
  simp only [Array.getElem?_setIfInBounds, Array.size_setIfInBounds, List.size_toArray, triC_len, List.getElem?_toArray]
  by_cases hx : x < m * 3
  · obtain ⟨j, r, hr, rfl⟩ : ∃ j r, r < 3 ∧ x = j * 3 + r := ⟨x / 3, x % 3, by omega, by omega⟩
    have hj : j < m := by omega
    rw [triC_at _ hr hj, triC_at _ hr hj]
    unfold updT
    by_cases e : j = i
    · subst e
      rcases (show r = 0 ∨ r = 1 ∨ r = 2 by omega) with rfl | rfl | rfl
      · rw [if_neg (by omega), if_neg (by omega), if_pos (by omega), if_pos (by omega), if_pos rfl]; rfl
      · rw [if_neg (by omega), if_pos (by omega), if_pos (by omega), if_pos rfl]; rfl
      · rw [if_pos (by omega), if_pos (by omega), if_pos rfl]; rfl
    · rw [if_neg (by omega), if_neg (by omega), if_neg (by omega), if_neg e]
  · rw [if_neg (by omega), if_neg (by omega), if_neg (by omega), List.getElem?_eq_none (by rw [triC_len]; omega), List.getElem?_eq_none (by rw [triC_len]; omega)]
def booC (p : Nat → Bool) (m : Nat) : List Value := (List.range m).map fun i => .bool (p i)
theorem booC_len (p : Nat → Bool) (m : Nat) : (booC p m).length = m := by simp [booC]
theorem booC_at (p : Nat → Bool) {i m : Nat} (h : i < m) : (booC p m)[i]? = some (.bool (p i)) := by simp [booC, h]
theorem booC_set (p : Nat → Bool) (m i : Nat) (b : Bool) (h : i < m) : (booC p m).toArray.setIfInBounds i (.bool b) = (booC (fun j => if j = i then b else p j) m).toArray := by
  apply Array.ext_getElem?
  intro x
  simp only [Array.getElem?_setIfInBounds, List.size_toArray, booC_len, List.getElem?_toArray]
  by_cases hx : x < m
  · rw [booC_at _ hx, booC_at _ hx]
    by_cases e : x = i
    · subst e; rw [if_pos rfl, if_pos hx, if_pos rfl]
    · rw [if_neg (by omega), if_neg e]
  · rw [if_neg (by omega), List.getElem?_eq_none (by rw [booC_len]; omega), List.getElem?_eq_none (by rw [booC_len]; omega)]
theorem el_used : El Tryz.prog 29 40 (.agg #[.int .i64 0, .int .i64 0, .int .i64 0]) 3 24 := ⟨Tryz.underlying29, by kernel_rfl, rfl, by decide⟩
theorem el_boo : El Tryz.prog 57 4 (.bool false) 1 1 := ⟨Tryz.underlying57, by kernel_rfl, rfl, by decide⟩
theorem make_useds (n : Nat) (hn : n ≤ 1000000) (w : World) : (Instr.makeSlice 29 (.int .i64 (n : Int)) (.int .i64 (n : Int))).run Tryz.prog w = .ok (.slice (some ⟨w.heap.size, 0, none⟩) n n) (w.alloc (.cells (triC (fun _ => (0, 0, 0)) n).toArray 40)) := by
  obtain ⟨i, hi, hz, hs, hb⟩ := info_parts el_used.info
  have h := run_makeSlice (P := Tryz.prog) (w := w) 29 40 i (.agg #[.int .i64 0, .int .i64 0, .int .i64 0]) el_used.ht hi hz .i64 .i64 (n : Int) (n : Int) (by omega) (by omega) (by rw [hs]; omega) (by rw [hb]; omega) (by omega)
  have hm : madeCells (Value.agg #[.int .i64 0, .int .i64 0, .int .i64 0]).cells (n * 3) = (triC (fun _ => (0, 0, 0)) n).toArray := by
    apply Array.ext_getElem?
    intro x
    by_cases hx : x < n * 3
    · obtain ⟨j, r, hr, rfl⟩ : ∃ j r, r < 3 ∧ x = j * 3 + r := ⟨x / 3, x % 3, by omega, by omega⟩
      have hj : j < n := by omega
      have e : (madeCells (Value.agg #[.int .i64 0, .int .i64 0, .int .i64 0]).cells (n * 3))[j * 3 + r]? = some ((#[Value.int .i64 0, Value.int .i64 0, Value.int .i64 0] : Array Value)[(j * 3 + r) % 3]!) := by
        rw [Array.getElem?_eq_getElem (by rw [size_madeCells]; exact hx)]
        simp only [madeCells, Array.getElem_map, Array.getElem_range]; rfl
      rw [e, List.getElem?_toArray, triC_at _ hr hj]
      rcases (show r = 0 ∨ r = 1 ∨ r = 2 by omega) with rfl | rfl | rfl
      · rw [show (j * 3 + 0) % 3 = 0 by omega]; rfl
      · rw [show (j * 3 + 1) % 3 = 1 by omega]; rfl
      · rw [show (j * 3 + 2) % 3 = 2 by omega]; rfl
    · rw [Array.getElem?_eq_none (by rw [size_madeCells]; omega), List.getElem?_toArray, List.getElem?_eq_none (by rw [triC_len]; omega)]
  rw [h, hs, Int.toNat_natCast, hm]
theorem make_bools (n : Nat) (hn : n ≤ 1000000) (w : World) : (Instr.makeSlice 57 (.int .i64 (n : Int)) (.int .i64 (n : Int))).run Tryz.prog w = .ok (.slice (some ⟨w.heap.size, 0, none⟩) n n) (w.alloc (.cells (booC (fun _ => false) n).toArray 4)) := by
  obtain ⟨i, hi, hz, hs, hb⟩ := info_parts el_boo.info
  have h := run_makeSlice (P := Tryz.prog) (w := w) 57 4 i (.bool false) el_boo.ht hi hz .i64 .i64 (n : Int) (n : Int) (by omega) (by omega) (by rw [hs]; omega) (by rw [hb]; omega) (by omega)
  have hm : madeCells (Value.bool false).cells (n * 1) = (booC (fun _ => false) n).toArray := by
    apply Array.toList_inj.1
    show (madeCells #[.bool false] (n * 1)).toList = _
    rw [Nat.mul_one, toList_madeCells_one]
    apply List.ext_getElem <;> simp [booC]
  rw [h, hs, Int.toNat_natCast, hm]
/-! Cells that are set in a row. -/
def setAll (cs : Array Value) : Nat → List Value → Array Value
  | _, [] => cs
  | o, v :: r => setAll (cs.setIfInBounds o v) (o + 1) r
theorem Blk.setCells {g : Nat} {t : TypeId} : ∀ (vs : List Value) (o : Nat) (w : World) (cs : Array Value), Blk w g t cs → Blk (w.setCells g o vs) g t (setAll cs o vs)
  | [], _, _, _, h => h
  | v :: r, o, w, cs, h => Blk.setCells r (o + 1) _ _ (h.set_ o v)
theorem below_setCells {B g : Nat} (hB : B ≤ g) : ∀ (vs : List Value) (o : Nat) (a w : World), Below B a w → Below B a (w.setCells g o vs)
  | [], _, _, _, h => h
  | v :: r, o, a, w, h => below_setCells hB r (o + 1) a _ (h.setCell (p := ⟨g, o, none⟩) hB v)
theorem setAll_mid : ∀ (vs b a c : List Value), b.length = vs.length → setAll (a ++ b ++ c).toArray a.length vs = (a ++ vs ++ c).toArray
  | [], b, a, c, h => by
    have : b = [] := List.length_eq_zero_iff.1 h
    subst this; rfl
  | v :: r, [], a, c, h => by simp at h
  | v :: r, u :: b, a, c, h => by
    have e : (a ++ u :: b ++ c).toArray.setIfInBounds a.length v = ((a ++ [v]) ++ b ++ c).toArray := by
      simp [List.setIfInBounds_toArray]
    have h2 := setAll_mid r b (a ++ [v]) c (by simpa using h)
    show setAll ((a ++ u :: b ++ c).toArray.setIfInBounds a.length v) (a.length + 1) r = _
    rw [e]
    have e3 : (a ++ [v]).length = a.length + 1 := by simp
    rw [e3] at h2
    rw [h2]; simp
section
variable {g : Nat} {v : Value}
end
theorem yieldsIf_load_at {P : Program} {ops : Array Oper} {S : World → Prop} {op : Oper} {a : Act} (hw : Region.wanted op (yielded ops a.tmps) = true) (ty : TypeId) (x : Operand) (ho : op.op = .load ty x) (p : Addr) (hx : a.eval x = .pointer (some p)) (cs : List Value) (d : TypeDesc)
    (hS : ∀ w, S w → ∀ j v, cs[j]? = some v → w.cell? (p.add j) = some v) (hu : P.underlying ty = some d) (hd : d.isRow = true) (hi : (P.info? ty).map (·.size) = some cs.length) : YieldsIf P ops S op (.agg cs.toArray) a :=
  .inl ⟨hw, fun w hw' => by
    unfold execOp
    simp only [ho, hx, Sem.run_bind, run_load_at w p ty cs d (hS w hw') hu hd hi, Result.andThen_ok, Sem.run_pure]⟩
end Go.Proofs.YtjhfcpadnofdnaaGreat
