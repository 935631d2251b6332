/- What make lays; stores of whole structs. -/
import Derived.Test.YtlebbkhhhmempaaFj
set_option linter.unusedSimpArgs false
set_option linter.unusedVariables false
namespace Go.Proofs.Ytlebbkhhhmempaa
open Go.RowKit
theorem made_flat {α : Type} (f : α → List Value) (n : Nat) (hn : 0 < n) (hf : ∀ x, (f x).length = n) (z : α) (k : Nat) : madeCells (f z).toArray (k * n) = ((List.replicate k z).flatMap f).toArray := by
  have hl : ((List.replicate k z).flatMap f).length = k * n := by rw [flat_len f n hf]; simp
  apply Array.ext_getElem?
  intro x
  by_cases hx : x < k * n
  · have hj : x / n < k := Nat.div_lt_of_lt_mul (by rw [Nat.mul_comm]; exact hx)
    have hr : x % n < n := Nat.mod_lt _ hn
    have e : x = x / n * n + x % n := by have := Nat.div_add_mod x n; rw [Nat.mul_comm] at this; omega
    have e2 : ((List.replicate k z).flatMap f).toArray[x]? = (f z)[x % n]? := by
      rw [List.getElem?_toArray]
      conv => lhs; rw [e]
      rw [flat_at f n hf _ _ _ (by simpa using hj) hr]
      simp
    rw [e2, Array.getElem?_eq_getElem (by rw [size_madeCells]; exact hx)]
    simp only [madeCells, Array.getElem_map, Array.getElem_range]
    have hs : (f z).toArray.size = n := by simpa using hf z
    rw [hs, List.getElem?_eq_getElem (by rw [hf]; exact hr), getElem!_pos _ _ (by rw [hs]; exact hr)]
    simp
  · rw [Array.getElem?_eq_none (by rw [size_madeCells]; omega), List.getElem?_toArray, List.getElem?_eq_none (by omega)]
structure Fr where
  x : Int
  y : Int
  w : Int
  h : Int
  deriving DecidableEq
def fr0 : Fr := ⟨0, 0, 0, 0⟩
def frCells (f : Fr) : List Value := [.int .i64 f.x, .int .i64 f.y, .int .i64 f.w, .int .i64 f.h, .slice none 0 0]
def frsCells (l : List Fr) : List Value := l.flatMap frCells
theorem frsCells_len (l : List Fr) : (frsCells l).length = l.length * 5 := flat_len _ 5 (fun _ => rfl) l
theorem frsCells_at (l : List Fr) (k i : Nat) (hk : k < l.length) (hi : i < 5) : (frsCells l)[k * 5 + i]? = (frCells l[k])[i]? := flat_at _ 5 (fun _ => rfl) l k i hk hi
def boCells (l : List Bool) : List Value := l.map Value.bool
theorem el_frag : El Try.prog 49 58 (.agg #[.int .i64 0, .int .i64 0, .int .i64 0, .int .i64 0, .slice none 0 0]) 5 56 := ⟨Try.underlying49, by kernel_rfl, rfl, by decide⟩
theorem el_bo : El Try.prog 38 4 (.bool false) 1 1 := ⟨Try.underlying38, by kernel_rfl, rfl, by decide⟩
theorem el_sp : El Try.prog 104 114 (.agg #[.int .i64 0, .int .i64 0, .int .i64 0, .bool false, .slice none 0 0, .slice none 0 0, .slice none 0 0]) 7 104 := ⟨Try.underlying104, by kernel_rfl, rfl, by decide⟩
theorem el_kd : El Try.prog 34 36 (.slice none 0 0) 1 24 := ⟨Try.underlying34, by kernel_rfl, rfl, by decide⟩
theorem make_frags (n : Nat) (hn : n ≤ 1000000) (w : World) : (Instr.makeSlice 49 (.int .i64 (n : Int)) (.int .i64 (n : Int))).run Try.prog w = .ok (.slice (some ⟨w.heap.size, 0, none⟩) n n) (w.alloc (.cells (frsCells (List.replicate n fr0)).toArray 58)) := by
  obtain ⟨i, hi, hz, hs, hb⟩ := info_parts el_frag.info
  have h := run_makeSlice (P := Try.prog) (w := w) 49 58 i _ el_frag.ht hi hz .i64 .i64 (n : Int) (n : Int) (by omega) (by omega) (by rw [hs]; omega) (by rw [hb]; omega) (by omega)
  rw [h, hs, Int.toNat_natCast, show madeCells (Value.agg #[.int .i64 0, .int .i64 0, .int .i64 0, .int .i64 0, .slice none 0 0]).cells (n * 5) = madeCells (frCells fr0).toArray (n * 5) from rfl, made_flat frCells 5 (by decide) (fun _ => rfl)]; rfl
theorem make_spots (n : Nat) (hn : n ≤ 1000000) (w : World) : (Instr.makeSlice 104 (.int .i64 (n : Int)) (.int .i64 (n : Int))).run Try.prog w = .ok (.slice (some ⟨w.heap.size, 0, none⟩) n n) (w.alloc (.cells (spsCells (List.replicate n sp0)).toArray 114)) := by
  obtain ⟨i, hi, hz, hs, hb⟩ := info_parts el_sp.info
  have h := run_makeSlice (P := Try.prog) (w := w) 104 114 i _ el_sp.ht hi hz .i64 .i64 (n : Int) (n : Int) (by omega) (by omega) (by rw [hs]; omega) (by rw [hb]; omega) (by omega)
  rw [h, hs, Int.toNat_natCast, show madeCells (Value.agg #[.int .i64 0, .int .i64 0, .int .i64 0, .bool false, .slice none 0 0, .slice none 0 0, .slice none 0 0]).cells (n * 7) = madeCells (spCells sp0).toArray (n * 7) from rfl, made_flat spCells 7 (by decide) (fun _ => rfl)]; rfl
theorem make_bos (n : Nat) (hn : n ≤ 1000000) (w : World) : (Instr.makeSlice 38 (.int .i64 (n : Int)) (.int .i64 (n : Int))).run Try.prog w = .ok (.slice (some ⟨w.heap.size, 0, none⟩) n n) (w.alloc (.cells (boCells (List.replicate n false)).toArray 4)) := by
  obtain ⟨i, hi, hz, hs, hb⟩ := info_parts el_bo.info
  have h := run_makeSlice (P := Try.prog) (w := w) 38 4 i _ el_bo.ht hi hz .i64 .i64 (n : Int) (n : Int) (by omega) (by omega) (by rw [hs]; omega) (by rw [hb]; omega) (by omega)
  have hm : madeCells (Value.bool false).cells (n * 1) = (boCells (List.replicate n false)).toArray := by
    apply Array.toList_inj.1
    rw [Nat.mul_one]
    show (madeCells #[.bool false] n).toList = _
    rw [toList_madeCells_one]; simp [boCells]
  rw [h, hs, Int.toNat_natCast, hm]
def nilRs (n : Nat) : Array Value := (List.replicate n (Value.slice none 0 0)).toArray
theorem make_kds (n : Nat) (hn : n ≤ 1000000) (w : World) : (Instr.makeSlice 34 (.int .i64 (n : Int)) (.int .i64 (n : Int))).run Try.prog w = .ok (.slice (some ⟨w.heap.size, 0, none⟩) n n) (w.alloc (.cells (nilRs n) 36)) := by
  obtain ⟨i, hi, hz, hs, hb⟩ := info_parts el_kd.info
  have h := run_makeSlice (P := Try.prog) (w := w) 34 36 i _ el_kd.ht hi hz .i64 .i64 (n : Int) (n : Int) (by omega) (by omega) (by rw [hs]; omega) (by rw [hb]; omega) (by omega)
  have hm : madeCells (Value.slice none 0 0).cells (n * 1) = nilRs n := by
    apply Array.toList_inj.1
    rw [Nat.mul_one]
    show (madeCells #[.slice none 0 0] n).toList = _
    rw [toList_madeCells_one]; simp [nilRs]
  rw [h, hs, Int.toNat_natCast, hm]
/-- A store of a whole struct. -/
theorem exec_store_midF {P : Program} {a : Act} {op : Oper} (ty : TypeId) (x y : Operand) (ho : op.op = .store ty x y) (b o : Nat) (cells : List Value) (hx : a.eval x = .pointer (some ⟨b, o, none⟩)) (hy : a.eval y = .agg cells.toArray) (w : World)
    (ht : w.there b o cells.length) (hi : (P.info? ty).map (·.size) = some cells.length) (h1 : cells.toArray.all (·.oneCell') = true) : (execOp a.eval op).run P w = .ok .skip (w.setCells b o cells) := by
  have h := run_storeAt_mid (P := P) w b o ty cells.toArray (by simpa using ht) (by simpa using hi) h1
  unfold execOp
  simp only [ho, hx, hy, Sem.run_bind, h, Result.andThen_ok, Sem.run_pure]
theorem there_blkF {w : World} {g : Nat} {t : TypeId} {cs : Array Value} {k o : Nat} (h : Blk w g t cs) (hk : o + k ≤ cs.size) : w.there g o k := fun j hj => by
  rw [h.cell (o + j), Array.getElem?_eq_getElem (by omega)]; exact ⟨rfl, h.frozen (o + j)⟩
theorem below_setCellsF {B g : Nat} (hB : B ≤ g) : ∀ (vs : List Value) (o : Nat) (a w : World), Below B a w → Below B a (w.setCells g o vs)
  | [], _, _, _, h => h
  | v :: r, o, a, w, h => below_setCellsF hB r (o + 1) a _ (h.setCell (p := ⟨g, o, none⟩) hB v)
def styZF : Sty := ⟨0, false, 0, 0, ⟨0, 0⟩, ⟨0, 0⟩, ⟨0, 0⟩, ⟨0, 0⟩, ⟨0, 0⟩, ⟨0, 0⟩, ⟨0, 0⟩, ⟨0, 0⟩, ⟨0, 0⟩, ⟨0, 0⟩, 0, 0, 0, 0, 0, 0, 0, 0, 0, 0, false, 0, 0, 0, 0, 0, ⟨0, 0⟩, [], .slice none 0 0⟩
theorem bo_set (l : List Bool) (k : Nat) (b : Bool) : (boCells l).toArray.setIfInBounds k (.bool b) = (boCells (l.set k b)).toArray := by
  rw [List.setIfInBounds_toArray]; congr 1; unfold boCells; rw [List.map_set]
theorem fr_set (l : List Fr) (k : Nat) (hk : k < l.length) (f : Fr) : ((((((frsCells l).toArray.setIfInBounds (k * 5) (.int .i64 f.x)).setIfInBounds (k * 5 + 1) (.int .i64 f.y)).setIfInBounds (k * 5 + 2) (.int .i64 f.w)).setIfInBounds (k * 5 + 3) (.int .i64 f.h)).setIfInBounds (k * 5 + 4) (.slice none 0 0)) = (frsCells (l.set k f)).toArray := by
  simp only [List.setIfInBounds_toArray]
  congr 1
  have s1 := flat_set frCells 5 (fun _ => rfl) (fun p => { p with x := f.x }) 0 (.int .i64 f.x) (fun _ => rfl) (by omega) l k hk
  have s2 := flat_set frCells 5 (fun _ => rfl) (fun p => { p with y := f.y }) 1 (.int .i64 f.y) (fun _ => rfl) (by omega) (l.modify k fun p => { p with x := f.x }) k (by simpa using hk)
  have s3 := flat_set frCells 5 (fun _ => rfl) (fun p => { p with w := f.w }) 2 (.int .i64 f.w) (fun _ => rfl) (by omega) ((l.modify k fun p => { p with x := f.x }).modify k fun p => { p with y := f.y }) k (by simpa using hk)
  have s4 := flat_set frCells 5 (fun _ => rfl) (fun p => { p with h := f.h }) 3 (.int .i64 f.h) (fun _ => rfl) (by omega) (((l.modify k fun p => { p with x := f.x }).modify k fun p => { p with y := f.y }).modify k fun p => { p with w := f.w }) k (by simpa using hk)
  have s5 := flat_set frCells 5 (fun _ => rfl) (fun p => p) 4 (.slice none 0 0) (fun _ => rfl) (by omega) ((((l.modify k fun p => { p with x := f.x }).modify k fun p => { p with y := f.y }).modify k fun p => { p with w := f.w }).modify k fun p => { p with h := f.h }) k (by simpa using hk)
  unfold frsCells
  rw [Nat.add_zero] at s1
  rw [← s1, ← s2, ← s3, ← s4, ← s5]
  congr 1
  simp only [List.modify_modify_eq]
  apply List.ext_getElem?
  intro j
  rw [List.getElem?_modify, List.getElem?_set]
  by_cases e : k = j
  · subst e; simp [hk]
  · simp [e]
end Go.Proofs.Ytlebbkhhhmempaa
