/- Contents as cells; make and copy of contents. -/
import Derived.Test.YtdnpobfnkdllmaaCon
import Derived.Test.YtdnpobfnkdllmaaApp
import Derived.Laws.CopyRow
import Derived.Deep.WholeRow
set_option linter.unusedSimpArgs false
set_option linter.unusedVariables false
namespace Go.Proofs.Ytdnpobfnkdllmaa
open Go.RowKit

def cnsCells (l : List Cn) : List Value := l.flatMap cnCells
theorem cnsCells_at (l : List Cn) : ∀ (k i : Nat) (hk : k < l.length), i < 4 → (cnsCells l)[k * 4 + i]? = (cnCells l[k])[i]? := by
  induction l with
  | nil => intro k i hk; simp at hk
  | cons a t ih =>
    intro k i hk hi
    have hc : cnsCells (a :: t) = cnCells a ++ cnsCells t := by simp [cnsCells]
    have hl : (cnCells a).length = 4 := rfl
    rw [hc]
    rcases k with _ | k
    · rw [List.getElem?_append_left (by omega)]; simp
    · rw [List.getElem?_append_right (by omega), show (k + 1) * 4 + i - (cnCells a).length = k * 4 + i by omega, ih k i (by simpa using hk) hi]
      simp
theorem Reads.cn {w : World} {B n k : Nat} {A : Option Addr} {l : List Cn} (h : Reads w B 4 A n (cnsCells l)) (hn : n = l.length) (hk : k < l.length) :
    ∃ ad : Addr, A = some ad ∧ ad.block < B ∧ w.cell? (ad.add (k * 4)) = some (.int .i64 l[k].least) ∧ w.cell? ⟨ad.block, (ad.add (k * 4)).off + 1, none⟩ = some (.int .i64 l[k].greatest) ∧ w.cell? ⟨ad.block, (ad.add (k * 4)).off + 2, none⟩ = some (.int .i64 l[k].ol) ∧
      w.cell? ⟨ad.block, (ad.add (k * 4)).off + 3, none⟩ = some (.int .i64 l[k].og) := by
  obtain ⟨ad, e, hb, hc⟩ := h.2 (by omega)
  have ha : ∀ i, i ≠ 0 → (⟨ad.block, (ad.add (k * 4)).off + i, none⟩ : Addr) = ad.add (k * 4 + i) := by
    intro i hi
    rw [← add_of_add, show ∀ p : Addr, p.add i = ⟨p.block, p.off + i, none⟩ from fun p => by unfold Addr.add; rw [if_neg hi], block_of_add]
  have hg : ∀ i, i < 4 → ∀ u, (cnCells l[k])[i]? = some u → w.cell? (ad.add (k * 4 + i)) = some u := fun i hi u hu => hc _ u (by rw [cnsCells_at l k i hk hi]; exact hu)
  refine ⟨ad, e, hb, hg 0 (by omega) _ rfl, ?_, ?_, ?_⟩
  · rw [ha 1 (by omega)]; exact hg 1 (by omega) _ rfl
  · rw [ha 2 (by omega)]; exact hg 2 (by omega) _ rfl
  · rw [ha 3 (by omega)]; exact hg 3 (by omega) _ rfl
theorem el_cn : El Try.prog 43 53 (.agg #[.int .i64 0, .int .i64 0, .int .i64 0, .int .i64 0]) 4 32 := ⟨Try.underlying43, by kernel_rfl, rfl, by decide⟩
def cn0 : Cn := ⟨0, 0, 0, 0⟩
theorem cnsCells_len (l : List Cn) : (cnsCells l).length = l.length * 4 := by
  induction l with
  | nil => rfl
  | cons a t ih =>
    have : cnsCells (a :: t) = cnCells a ++ cnsCells t := by simp [cnsCells]
    rw [this, List.length_append, ih, List.length_cons]; simp [cnCells]; omega
theorem cnsCells_app (a b : List Cn) : cnsCells (a ++ b) = cnsCells a ++ cnsCells b := by simp [cnsCells]
theorem cnsCells_one (l : List Cn) : ∀ u ∈ cnsCells l, u.oneCell' = true := by
  intro u hu
  unfold cnsCells at hu
  obtain ⟨x, _, hx⟩ := List.mem_flatMap.1 hu
  simp only [cnCells, List.mem_cons, List.not_mem_nil, or_false] at hx
  rcases hx with rfl | rfl | rfl | rfl <;> rfl
theorem cns_zero (n : Nat) : cnsCells (List.replicate n cn0) = List.replicate (n * 4) (.int .i64 0) := by
  induction n with
  | zero => rfl
  | succ n ih =>
    have : cnsCells (List.replicate (n + 1) cn0) = cnCells cn0 ++ cnsCells (List.replicate n cn0) := by simp [cnsCells, List.replicate_succ]
    rw [this, ih, show (n + 1) * 4 = n * 4 + 1 + 1 + 1 + 1 by omega, List.replicate_succ, List.replicate_succ, List.replicate_succ, List.replicate_succ]; rfl
theorem made_cns (n : Nat) : madeCells (Value.agg #[.int .i64 0, .int .i64 0, .int .i64 0, .int .i64 0]).cells (n * 4) = (cnsCells (List.replicate n cn0)).toArray := by
  rw [cns_zero]
  apply Array.ext
  · rw [size_madeCells]; simp
  · intro i h1 h2
    have h4 : i % 4 < 4 := Nat.mod_lt _ (by omega)
    have e : (madeCells (Value.agg #[.int .i64 0, .int .i64 0, .int .i64 0, .int .i64 0]).cells (n * 4))[i] = (#[Value.int .i64 0, Value.int .i64 0, Value.int .i64 0, Value.int .i64 0] : Array Value)[i % 4]! := by
      simp only [madeCells, Array.getElem_map, Array.getElem_range]; rfl
    rw [e]
    have : i % 4 = 0 ∨ i % 4 = 1 ∨ i % 4 = 2 ∨ i % 4 = 3 := by omega
    rcases this with h | h | h | h <;> rw [h] <;> simp
theorem make_cns (n : Nat) (hn : n ≤ 1000000) (w : World) : (Instr.makeSlice 43 (.int .i64 (n : Int)) (.int .i64 (n : Int))).run Try.prog w = .ok (.slice (some ⟨w.heap.size, 0, none⟩) n n) (w.alloc (.cells (cnsCells (List.replicate n cn0)).toArray 53)) := by
  obtain ⟨i, hi, hz, hs, hb⟩ := info_parts el_cn.info
  have h := run_makeSlice (P := Try.prog) (w := w) 43 53 i (.agg #[.int .i64 0, .int .i64 0, .int .i64 0, .int .i64 0]) el_cn.ht hi hz .i64 .i64 (n : Int) (n : Int) (by omega) (by omega) (by rw [hs]; omega) (by rw [hb]; omega) (by omega)
  rw [h, hs, Int.toNat_natCast, made_cns]
theorem allF_len (got : List Cn) (n : Nat) : (allF got n).length = n := by unfold allF; simp
theorem allF_eq (got : List Cn) (n : Nat) : allF got n = got.take n ++ List.replicate (n - got.length) cn0 := by
  apply List.ext_getElem
  · rw [allF_len, List.length_append, List.length_take, List.length_replicate]; omega
  · intro i h1 h2
    rw [allF_len] at h1
    have e : (allF got n)[i] = gAt got i := by simp only [allF, List.getElem_map, List.getElem_range]
    rw [e]
    by_cases h3 : i < got.length
    · rw [List.getElem_append_left (by rw [List.length_take]; omega), List.getElem_take]
      simp [gAt, h3]
    · rw [List.getElem_append_right (by rw [List.length_take]; omega), List.getElem_replicate]
      simp [gAt, h3, cn0]
theorem allF_mem {got : List Cn} {n : Nat} {x : Cn} (h : x ∈ allF got n) : x ∈ got ∨ x = cn0 := by
  rw [allF_eq] at h
  rcases List.mem_append.1 h with h | h
  · exact .inl (List.mem_of_mem_take h)
  · exact .inr (List.eq_of_mem_replicate h)
section
variable {P : Program}
theorem run_copy_rowz (w : World) (dT sT ty elem : TypeId) (z g dLen dCap : Nat) (a : Addr) (sLen sCap : Nat) (cur : Array Value) (t : TypeId) (cs : List Value)
    (hu : P.underlying dT = some (.slice elem)) (hs : (P.info? elem).map (·.size) = some z)
    (hg : w.heap[g]? = some (.cells cur t (0, 0))) (hn : cs.length = Nat.min sLen dLen * z)
    (hsrc : ∀ j v, cs[j]? = some v → w.cell? (a.add j) = some v) (hfit : cs.length ≤ cur.size) (h1 : ∀ v ∈ cs, v.oneCell' = true) :
    (Builtin.copy_ #[dT, sT] ty #[.slice (some ⟨g, 0, none⟩) dLen dCap, .slice (some a) sLen sCap]).run P w =
      .ok (goInt (Nat.min sLen dLen)) (w.setRow g (cs ++ cur.toList.drop cs.length).toArray) := by
  have hl := run_loadCells_list (P := P) w a cs hsrc
  have hst := run_storeCells_at P g 0 t cs 0 cur w hg (by simpa using hfit) h1
  simp at hst
  rw [hn] at hl
  cases hq : P.info? elem with
  | none => simp [hq] at hs
  | some i =>
    have hi : i.size = z := by simpa [hq] using hs
    have hl' : (loadCells a (min sLen dLen * z)).run P w = .ok cs.toArray w := hl
    simp [Builtin.copy_, run_underlying hu, Builtin.lenOf, Builtin.firstCells, sizeOf, typeInfo, hq, hi, hl', hst]
/-- copy into the block that was made last, of contents. -/
theorem run_copy_cns (w : World) (dT sT ty elem : TypeId) (hu : P.underlying dT = some (.slice elem)) (hsz : (P.info? elem).map (·.size) = some 4) (n : Nat) {B : Nat} {A : Option Addr} (sCap : Nat) (got : List Cn) (t : TypeId)
    (hr : Reads w B 4 A got.length (cnsCells got)) (hB : B ≤ w.heap.size) :
    ∃ v, (Builtin.copy_ #[dT, sT] ty #[.slice (some ⟨w.heap.size, 0, none⟩) n n, .slice A got.length sCap]).run P (w.alloc (.cells (cnsCells (List.replicate n cn0)).toArray t)) = .ok v (w.alloc (.cells (cnsCells (allF got n)).toArray t)) := by
  rcases A with _ | ad
  · have h0 : got.length = 0 := by
      rcases Nat.eq_zero_or_pos got.length with h | h
      · exact h
      · obtain ⟨_, e, _⟩ := hr.2 h; cases e
    have hg0 : got = [] := List.eq_nil_of_length_eq_zero h0
    subst hg0
    have e : allF [] n = List.replicate n cn0 := by rw [allF_eq]; simp
    rw [e]
    cases hq : P.info? elem with
    | none => simp [hq] at hsz
    | some i => exact ⟨_, by simp [Builtin.copy_, run_underlying hu, Builtin.lenOf, Builtin.firstCells, sizeOf, typeInfo, hq, storeCells]; rfl⟩
  · have hcl : (cnsCells (got.take n)).length = Nat.min got.length n * 4 := by rw [cnsCells_len, List.length_take, Nat.min_comm]
    have hrun := run_copy_rowz (P := P) (w.alloc (.cells (cnsCells (List.replicate n cn0)).toArray t)) dT sT ty elem 4 w.heap.size n n ad got.length sCap (cnsCells (List.replicate n cn0)).toArray t (cnsCells (got.take n)) hu hsz (heap_alloc_new w _) hcl
      (by
        intro j v hv
        have h4 := hr.1
        have hj : (cnsCells got)[j]? = some v := by
          have : cnsCells got = cnsCells (got.take n) ++ cnsCells (got.drop n) := by rw [← cnsCells_app, List.take_append_drop]
          rw [this, List.getElem?_append_left (List.getElem?_eq_some_iff.1 hv).1]; exact hv
        have hjl := (List.getElem?_eq_some_iff.1 hj).1
        obtain ⟨ad', e, hb, hc⟩ := hr.2 (by rw [cnsCells_len] at hjl; omega)
        injection e with e; subst e
        rw [World.cell?_alloc_lt _ _ _ (by rw [block_of_add]; omega)]
        exact hc j v hj)
      (by rw [hcl, List.size_toArray, cnsCells_len, List.length_replicate]; exact Nat.mul_le_mul_right 4 (Nat.min_le_right _ _)) (cnsCells_one _)
    refine ⟨goInt (Nat.min got.length n), hrun.trans ?_⟩
    rw [World.setRow_alloc_new]
    congr 4
    rw [allF_eq, cnsCells_app, cns_zero, cns_zero]
    simp only [List.drop_replicate]
    congr 2
    rw [hcl]
    have : Nat.min got.length n = min got.length n := rfl
    rw [this]; omega
end
end Go.Proofs.Ytdnpobfnkdllmaa
