/- Contracts: the document's trees: parent, below, depth, first. -/
import Derived.Test.YtjhfcpadnofdnaaGreatApp
import Derived.Laws.CopyRow
import Derived.Deep.WholeRow
import Derived.Test.YtjhfcpadnofdnaaGreatProg
set_option linter.unusedSimpArgs false
set_option linter.unusedVariables false
namespace Go.Proofs.YtjhfcpadnofdnaaGreat
open Go.RowKit
def cnsCells (l : List Cn) : List Value := l.flatMap cnCells
theorem cnsCells_at (l : List Cn) : ∀ (k i : Nat) (hk : k < l.length), i < 4 → (cnsCells l)[k * 4 + i]? = (cnCells l[k])[i]? := by
  induction l with
  | nil => intro k i hk; simp at hk
  | cons a t ih =>
    intro k i hk hi
    have hc : cnsCells (a :: t) = cnCells a ++ cnsCells t := by simp [cnsCells]
    have hl : (cnCells a).length = 4 := rfl
    rw [hc]
    rcases k with _ | k
    · rw [List.getElem?_append_left (by omega)]; simp
    · rw [List.getElem?_append_right (by omega), show (k + 1) * 4 + i - (cnCells a).length = k * 4 + i by omega, ih k i (by simpa using hk) hi]
      simp
theorem Reads.cn {w : World} {B n k : Nat} {A : Option Addr} {l : List Cn} (h : Reads w B 4 A n (cnsCells l)) (hn : n = l.length) (hk : k < l.length) :
    ∃ ad : Addr, A = some ad ∧ ad.block < B ∧ w.cell? (ad.add (k * 4)) = some (.int .i64 l[k].least) ∧ w.cell? ⟨ad.block, (ad.add (k * 4)).off + 1, none⟩ = some (.int .i64 l[k].greatest) ∧ w.cell? ⟨ad.block, (ad.add (k * 4)).off + 2, none⟩ = some (.int .i64 l[k].ol) ∧
      w.cell? ⟨ad.block, (ad.add (k * 4)).off + 3, none⟩ = some (.int .i64 l[k].og) := by
  obtain ⟨ad, e, hb, hc⟩ := h.2 (by omega)
  have ha : ∀ i, i ≠ 0 → (⟨ad.block, (ad.add (k * 4)).off + i, none⟩ : Addr) = ad.add (k * 4 + i) := by
    intro i hi
    rw [← add_of_add, show ∀ p : Addr, p.add i = ⟨p.block, p.off + i, none⟩ from fun p => by unfold Addr.add; rw [if_neg hi], block_of_add]
  have hg : ∀ i, i < 4 → ∀ u, (cnCells l[k])[i]? = some u → w.cell? (ad.add (k * 4 + i)) = some u := fun i hi u hu => hc _ u (by rw [cnsCells_at l k i hk hi]; exact hu)
  refine ⟨ad, e, hb, hg 0 (by omega) _ rfl, ?_, ?_, ?_⟩
  · rw [ha 1 (by omega)]; exact hg 1 (by omega) _ rfl
  · rw [ha 2 (by omega)]; exact hg 2 (by omega) _ rfl
  · rw [ha 3 (by omega)]; exact hg 3 (by omega) _ rfl
theorem el_cn : El Tryz.prog 28 38 (.agg #[.int .i64 0, .int .i64 0, .int .i64 0, .int .i64 0]) 4 32 := ⟨Tryz.underlying28, by kernel_rfl, rfl, by decide⟩
def cn0 : Cn := ⟨0, 0, 0, 0⟩
theorem cnsCells_len (l : List Cn) : (cnsCells l).length = l.length * 4 := by
  induction l with
  | nil => rfl
  | cons a t ih =>
    have : cnsCells (a :: t) = cnCells a ++ cnsCells t := by simp [cnsCells]
    rw [this, List.length_append, ih, List.length_cons]; simp [cnCells]; omega
theorem cnsCells_app (a b : List Cn) : cnsCells (a ++ b) = cnsCells a ++ cnsCells b := by simp [cnsCells]
theorem cnsCells_one (l : List Cn) : ∀ u ∈ cnsCells l, u.oneCell' = true := by
  intro u hu
  unfold cnsCells at hu
  obtain ⟨x, _, hx⟩ := List.mem_flatMap.1 hu
  simp only [cnCells, List.mem_cons, List.not_mem_nil, or_false] at hx
  rcases hx with rfl | rfl | rfl | rfl <;> rfl
theorem cns_zero (n : Nat) : cnsCells (List.replicate n cn0) = List.replicate (n * 4) (.int .i64 0) := by
  induction n with
  | zero => rfl
  | succ n ih =>
    have : cnsCells (List.replicate (n + 1) cn0) = cnCells cn0 ++ cnsCells (List.replicate n cn0) := by simp [cnsCells, List.replicate_succ]
    rw [this, ih, show (n + 1) * 4 = n * 4 + 1 + 1 + 1 + 1 by omega, List.replicate_succ, List.replicate_succ, List.replicate_succ, List.replicate_succ]; rfl
theorem made_cns (n : Nat) : madeCells (Value.agg #[.int .i64 0, .int .i64 0, .int .i64 0, .int .i64 0]).cells (n * 4) = (cnsCells (List.replicate n cn0)).toArray := by
  rw [cns_zero]
  apply Array.ext
  · rw [size_madeCells]; simp
  · intro i h1 h2
    have h4 : i % 4 < 4 := Nat.mod_lt _ (by omega)
    have e : (madeCells (Value.agg #[.int .i64 0, .int .i64 0, .int .i64 0, .int .i64 0]).cells (n * 4))[i] = (#[Value.int .i64 0, Value.int .i64 0, Value.int .i64 0, Value.int .i64 0] : Array Value)[i % 4]! := by
      simp only [madeCells, Array.getElem_map, Array.getElem_range]; rfl
    rw [e]
    have : i % 4 = 0 ∨ i % 4 = 1 ∨ i % 4 = 2 ∨ i % 4 = 3 := by omega
    rcases this with h | h | h | h <;> rw [h] <;> simp
theorem make_cns (n : Nat) (hn : n ≤ 1000000) (w : World) : (Instr.makeSlice 28 (.int .i64 (n : Int)) (.int .i64 (n : Int))).run Tryz.prog w = .ok (.slice (some ⟨w.heap.size, 0, none⟩) n n) (w.alloc (.cells (cnsCells (List.replicate n cn0)).toArray 38)) := by
  obtain ⟨i, hi, hz, hs, hb⟩ := info_parts el_cn.info
  have h := run_makeSlice (P := Tryz.prog) (w := w) 28 38 i (.agg #[.int .i64 0, .int .i64 0, .int .i64 0, .int .i64 0]) el_cn.ht hi hz .i64 .i64 (n : Int) (n : Int) (by omega) (by omega) (by rw [hs]; omega) (by rw [hb]; omega) (by omega)
  rw [h, hs, Int.toNat_natCast, made_cns]
theorem allF_len (got : List Cn) (n : Nat) : (allF got n).length = n := by unfold allF; simp
theorem allF_eq (got : List Cn) (n : Nat) : allF got n = got.take n ++ List.replicate (n - got.length) cn0 := by
  apply List.ext_getElem
  · rw [allF_len, List.length_append, List.length_take, List.length_replicate]; omega
  · intro i h1 h2
    rw [allF_len] at h1
    have e : (allF got n)[i] = gAt got i := by simp only [allF, List.getElem_map, List.getElem_range]
    rw [e]
    by_cases h3 : i < got.length
    · rw [List.getElem_append_left (by rw [List.length_take]; omega), List.getElem_take]
      simp [gAt, h3]
    · rw [List.getElem_append_right (by rw [List.length_take]; omega), List.getElem_replicate]
      simp [gAt, h3, cn0]
section
variable {P : Program}
theorem run_copy_rowz (w : World) (dT sT ty elem : TypeId) (z g dLen dCap : Nat) (a : Addr) (sLen sCap : Nat) (cur : Array Value) (t : TypeId) (cs : List Value)
    (hu : P.underlying dT = some (.slice elem)) (hs : (P.info? elem).map (·.size) = some z)
    (hg : w.heap[g]? = some (.cells cur t (0, 0))) (hn : cs.length = Nat.min sLen dLen * z)
    (hsrc : ∀ j v, cs[j]? = some v → w.cell? (a.add j) = some v) (hfit : cs.length ≤ cur.size) (h1 : ∀ v ∈ cs, v.oneCell' = true) :
    (Builtin.copy_ #[dT, sT] ty #[.slice (some ⟨g, 0, none⟩) dLen dCap, .slice (some a) sLen sCap]).run P w =
      .ok (goInt (Nat.min sLen dLen)) (w.setRow g (cs ++ cur.toList.drop cs.length).toArray) := by
  have hl := run_loadCells_list (P := P) w a cs hsrc
  have hst := run_storeCells_at P g 0 t cs 0 cur w hg (by simpa using hfit) h1
  simp at hst
  rw [hn] at hl
  cases hq : P.info? elem with
  | none => simp [hq] at hs
  | some i =>
    have hi : i.size = z := by simpa [hq] using hs
    have hl' : (loadCells a (min sLen dLen * z)).run P w = .ok cs.toArray w := hl
    simp [Builtin.copy_, run_underlying hu, Builtin.lenOf, Builtin.firstCells, sizeOf, typeInfo, hq, hi, hl', hst]
/-- copy into the block that was made last, of contents. -/
theorem run_copy_cns (w : World) (dT sT ty elem : TypeId) (hu : P.underlying dT = some (.slice elem)) (hsz : (P.info? elem).map (·.size) = some 4) (n : Nat) {B : Nat} {A : Option Addr} (sCap : Nat) (got : List Cn) (t : TypeId)
    (hr : Reads w B 4 A got.length (cnsCells got)) (hB : B ≤ w.heap.size) :
    ∃ v, (Builtin.copy_ #[dT, sT] ty #[.slice (some ⟨w.heap.size, 0, none⟩) n n, .slice A got.length sCap]).run P (w.alloc (.cells (cnsCells (List.replicate n cn0)).toArray t)) = .ok v (w.alloc (.cells (cnsCells (allF got n)).toArray t)) := by
  rcases A with _ | ad
  · have h0 : got.length = 0 := by
      rcases Nat.eq_zero_or_pos got.length with h | h
      · exact h
      · obtain ⟨_, e, _⟩ := hr.2 h; cases e
    have hg0 : got = [] := List.eq_nil_of_length_eq_zero h0
    subst hg0
    have e : allF [] n = List.replicate n cn0 := by rw [allF_eq]; simp
    rw [e]
    cases hq : P.info? elem with
    | none => simp [hq] at hsz
    | some i => exact ⟨_, by simp [Builtin.copy_, run_underlying hu, Builtin.lenOf, Builtin.firstCells, sizeOf, typeInfo, hq, storeCells]; rfl⟩
  · have hcl : (cnsCells (got.take n)).length = Nat.min got.length n * 4 := by rw [cnsCells_len, List.length_take, Nat.min_comm]
    have hrun := run_copy_rowz (P := P) (w.alloc (.cells (cnsCells (List.replicate n cn0)).toArray t)) dT sT ty elem 4 w.heap.size n n ad got.length sCap (cnsCells (List.replicate n cn0)).toArray t (cnsCells (got.take n)) hu hsz (heap_alloc_new w _) hcl
      (by
        intro j v hv
        have h4 := hr.1
        have hj : (cnsCells got)[j]? = some v := by
          have : cnsCells got = cnsCells (got.take n) ++ cnsCells (got.drop n) := by rw [← cnsCells_app, List.take_append_drop]
          rw [this, List.getElem?_append_left (List.getElem?_eq_some_iff.1 hv).1]; exact hv
        have hjl := (List.getElem?_eq_some_iff.1 hj).1
        obtain ⟨ad', e, hb, hc⟩ := hr.2 (by rw [cnsCells_len] at hjl; omega)
        injection e with e; subst e
        rw [World.cell?_alloc_lt _ _ _ (by rw [block_of_add]; omega)]
        exact hc j v hj)
      (by rw [hcl, List.size_toArray, cnsCells_len, List.length_replicate]; exact Nat.mul_le_mul_right 4 (Nat.min_le_right _ _)) (cnsCells_one _)
    refine ⟨goInt (Nat.min got.length n), hrun.trans ?_⟩
    rw [World.setRow_alloc_new]
    congr 4
    rw [allF_eq, cnsCells_app, cns_zero, cns_zero]
    simp only [List.drop_replicate]
    congr 2
    rw [hcl]
    have : Nat.min got.length n = min got.length n := rfl
    rw [this]; omega
end
end Go.Proofs.YtjhfcpadnofdnaaGreat
namespace Go.Proofs.YtjhfcpadnofdnaaGreat
def parF (l : List Nd) (i : Nat) : Int := match l[i]? with
  | some x => if 0 ≤ x.parent ∧ x.parent < i then x.parent else -1
  | none => -1
theorem parF_lt (l : List Nd) (i : Nat) : -1 ≤ parF l i ∧ (parF l i < i) := by
  unfold parF
  split
  · split <;> omega
  · omega
def chain (l : List Nd) : Nat → Nat → List Int
  | 0, _ => []
  | n + 1, i => if parF l i < 0 then [] else parF l i :: chain l n (parF l i).toNat
theorem chain_fuel (l : List Nd) : ∀ (n m i : Nat), i < n → i < m → chain l n i = chain l m i := by
  intro n
  induction n with
  | zero => intro m i h; omega
  | succ n ih =>
    intro m i h1 h2
    cases m with
    | zero => omega
    | succ m =>
      have := parF_lt l i
      simp only [chain]
      split
      · rfl
      · rw [ih m (parF l i).toNat (by omega) (by omega)]
/-- The ancestors of a node, the nearest first. -/
def anc (l : List Nd) (i : Nat) : List Int := chain l (i + 1) i
theorem anc_none {l : List Nd} {i : Nat} (h : parF l i < 0) : anc l i = [] := by unfold anc chain; rw [if_pos h]
theorem anc_some {l : List Nd} {i p : Nat} (h : parF l i = p) : anc l i = (p : Int) :: anc l p := by
  have := parF_lt l i
  unfold anc
  rw [chain, if_neg (by omega), h, Int.toNat_natCast, chain_fuel l i (p + 1) p (by omega) (by omega)]
end Go.Proofs.YtjhfcpadnofdnaaGreat
namespace Go.Proofs.YtjhfcpadnofdnaaGreat
open Go.RowKit
attribute [local go_sem] block_of_add
section
variable (l : List Nd) (A A2 : Option Addr) (c m c2 : Nat) (view : Int) (w : World)
set_option maxHeartbeats 400000 in
theorem parent_any (i : Nat) (hi : i < l.length) (hn : l.length ≤ 4294967296) (hr : Reads w w.heap.size 44 A l.length (ndsCells l)) :
    Calls Tryz.prog 38 #[.agg #[.slice A l.length c, .slice A2 m c2, .int .i64 view], .int .i64 i] w fun e w' => e = .returned (.int .i64 (parF l i)) ∧ w.alloc (.cells #[.slice A l.length c, .slice A2 m c2, .int .i64 view] 25) = w' := by
  obtain ⟨ad, rfl, hnd⟩ := hr.nd rfl hi
  obtain ⟨hlt, hp, _⟩ := hnd
  rw [block_of_add] at hlt
  obtain ⟨x, hx⟩ : ∃ x, x = l[i].parent := ⟨_, rfl⟩
  rw [← hx] at hp
  have hii : (i : Int) < (l.length : Int) := by omega
  have HP : Hid (parF l i = if 0 ≤ x ∧ x < i then x else -1) := Lib.hid (by unfold parF; rw [List.getElem?_eq_getElem hi, hx])
  clear hx hr
  by_cases h0 : 0 ≤ x
  · have d0 : decide (0 ≤ x) = true := decide_eq_true h0
    by_cases h1 : x < (i : Int)
    · have d1 : decide (x < (i : Int)) = true := decide_eq_true h1
      go_enter Tryz.func38, Tryz.ntmps38
      go_wp2
      go_ret
      rw [HP.out, if_pos ⟨h0, h1⟩]
      exact ⟨rfl, rfl⟩
    · have d1 : decide (x < (i : Int)) = false := decide_eq_false h1
      go_enter Tryz.func38, Tryz.ntmps38
      go_wp2
      go_ret
      rw [HP.out, if_neg (by omega)]
      exact ⟨rfl, rfl⟩
  · have d0 : decide (0 ≤ x) = false := decide_eq_false h0
    go_enter Tryz.func38, Tryz.ntmps38
    go_wp2
    go_ret
    rw [HP.out, if_neg (by omega)]
    exact ⟨rfl, rfl⟩
set_option maxHeartbeats 1000000 in
theorem below_any (i : Nat) (over : Int) (hi : i < l.length) (hn : l.length ≤ 4294967296) (hr : Reads w w.heap.size 44 A l.length (ndsCells l)) :
    Calls Tryz.prog 58 #[.agg #[.slice A l.length c, .slice A2 m c2, .int .i64 view], .int .i64 i, .int .i64 over] w fun e w' => e = .returned (.bool (decide (over ∈ anc l i))) ∧ Below w.heap.size w w' := by
  have HR := Lib.hid hr
  have HB0 : Hid (Blk (w.alloc (.cells #[.slice A l.length c, .slice A2 m c2, .int .i64 view] 25)) w.heap.size 25 #[.slice A l.length c, .slice A2 m c2, .int .i64 view]) := Lib.hid (Blk.new _ _ _)
  have HP := Lib.hid (fun W (i : Nat) (hi : i < l.length) (hb : Below w.heap.size w W) => parent_any l A A2 c m c2 view W i hi hn ((hr.below hb).more hb.size))
  clear hr
  go_enter Tryz.func58, Tryz.ntmps58
  go_wp2_with fail
  refine (HP.out _ i hi ((Below.refl _ _).alloc (Nat.le_refl _) _)).mono ?_
  rintro e w1 ⟨rfl, rfl⟩
  go_wp2_with fail
  go_loopw [7] (fun pv wr => ∃ (p : Int) (k : Nat), k < l.length ∧ pv = .int .i64 p ∧ Hid (p = parF l k ∧ (decide (over ∈ anc l i) = decide (over ∈ anc l k)) ∧ Below w.heap.size w wr ∧ Blk wr w.heap.size 25 #[.slice A l.length c, .slice A2 m c2, .int .i64 view])) (fun pv _ => (intOf pv + 1).toNat)
  case atStart => exact ⟨_, i, hi, rfl, Lib.hid ⟨rfl, rfl, ((Below.refl _ _).alloc (Nat.le_refl _) _).alloc (by simp) _, HB0.out.alloc _⟩⟩
  case round =>
    obtain ⟨p, k, hk, rfl, H⟩ := hrel
    have hp := parF_lt l k
    rw [← H.out.1] at hp
    have bx := H.out.2.2.2.c3
    by_cases h0 : 0 ≤ p
    · obtain ⟨q, rfl⟩ := Int.eq_ofNat_of_zero_le h0
      have d0 : decide ((0 : Int) ≤ (q : Int)) = true := decide_eq_true h0
      have hq : q < l.length := by omega
      by_cases he : (q : Int) = over
      · have e0 : ((q : Int) == over) = true := beq_iff_eq.2 he
        have HA := Lib.hid (show decide (over ∈ anc l i) = true by rw [H.out.2.1, anc_some H.out.1.symm, ← he]; simp)
        clear he
        go_wp2_with fail
        go_ret
        exact ⟨by rw [HA.out]; rfl, H.out.2.2.1⟩
      · have e0 : ((q : Int) == over) = false := beq_eq_false_iff_ne.2 he
        have HA := Lib.hid (show decide (over ∈ anc l i) = decide (over ∈ anc l q) by rw [H.out.2.1, anc_some H.out.1.symm]; simp [List.mem_cons, show ¬ over = (q : Int) from fun x => he x.symm])
        clear he
        go_wp2_with fail
        refine (HP.out _ q hq H.out.2.2.1).mono ?_
        rintro e w1 ⟨rfl, rfl⟩
        go_wp2_with fail
        have hp2 := parF_lt l q
        go_roundw
        case rel => exact ⟨_, q, hq, rfl, Lib.hid ⟨rfl, HA.out, H.out.2.2.1.alloc H.out.2.2.1.size _, H.out.2.2.2.alloc _⟩⟩
        case measure => simp [intOf]; omega
    · have d0 : decide ((0 : Int) ≤ p) = false := decide_eq_false h0
      have HA := Lib.hid (show decide (over ∈ anc l i) = false by rw [H.out.2.1, anc_none (by rw [← H.out.1]; omega)]; simp)
      go_wp2_with fail
      go_ret
      exact ⟨by rw [HA.out]; rfl, H.out.2.2.1⟩
set_option maxHeartbeats 1000000 in
theorem depth_any (i : Nat) (hi : i < l.length) (hn : l.length ≤ 4294967296) (hr : Reads w w.heap.size 44 A l.length (ndsCells l)) :
    Calls Tryz.prog 59 #[.agg #[.slice A l.length c, .slice A2 m c2, .int .i64 view], .int .i64 i] w fun e w' => e = .returned (.int .i64 (1 + ((anc l i).length : Int))) ∧ Below w.heap.size w w' := by
  have HR := Lib.hid hr
  have HB0 : Hid (Blk (w.alloc (.cells #[.slice A l.length c, .slice A2 m c2, .int .i64 view] 25)) w.heap.size 25 #[.slice A l.length c, .slice A2 m c2, .int .i64 view]) := Lib.hid (Blk.new _ _ _)
  have HP := Lib.hid (fun W (i : Nat) (hi : i < l.length) (hb : Below w.heap.size w W) => parent_any l A A2 c m c2 view W i hi hn ((hr.below hb).more hb.size))
  clear hr
  go_enter Tryz.func59, Tryz.ntmps59
  go_wp2_with fail
  refine (HP.out _ i hi ((Below.refl _ _).alloc (Nat.le_refl _) _)).mono ?_
  rintro e w1 ⟨rfl, rfl⟩
  go_wp2_with fail
  go_loopw [5, 6] (fun nv pv wr => ∃ (p n : Int) (k : Nat), k < l.length ∧ 1 ≤ n ∧ n + p ≤ l.length ∧ nv = .int .i64 n ∧ pv = .int .i64 p ∧ Hid (p = parF l k ∧ (1 + ((anc l i).length : Int) = n + ((anc l k).length : Int)) ∧ Below w.heap.size w wr ∧ Blk wr w.heap.size 25 #[.slice A l.length c, .slice A2 m c2, .int .i64 view])) (fun _ pv _ => (intOf pv + 1).toNat)
  case atStart => exact ⟨_, 1, i, hi, by omega, by have := parF_lt l i; omega, rfl, rfl, Lib.hid ⟨rfl, rfl, ((Below.refl _ _).alloc (Nat.le_refl _) _).alloc (by simp) _, HB0.out.alloc _⟩⟩
  case round =>
    obtain ⟨p, n, k, hk, hn1, hn2, rfl, rfl, H⟩ := hrel
    have hp := parF_lt l k
    rw [← H.out.1] at hp
    have bx := H.out.2.2.2.c3
    have hwn : IntKind.i64.wrap (n + 1) = n + 1 := IntWalk.i64_in _ ⟨by omega, by omega⟩
    by_cases h0 : 0 ≤ p
    · obtain ⟨q, rfl⟩ := Int.eq_ofNat_of_zero_le h0
      have d0 : decide ((0 : Int) ≤ (q : Int)) = true := decide_eq_true h0
      have hq : q < l.length := by omega
      have HA := Lib.hid (show 1 + ((anc l i).length : Int) = (n + 1) + ((anc l q).length : Int) by rw [H.out.2.1, anc_some H.out.1.symm]; simp; omega)
      go_wp2_with fail
      refine (HP.out _ q hq H.out.2.2.1).mono ?_
      rintro e w1 ⟨rfl, rfl⟩
      go_wp2_with fail
      have hp2 := parF_lt l q
      go_roundw
      case rel => exact ⟨_, n + 1, q, hq, by omega, by omega, rfl, rfl, Lib.hid ⟨rfl, HA.out, H.out.2.2.1.alloc H.out.2.2.1.size _, H.out.2.2.2.alloc _⟩⟩
      case measure => simp [intOf]; omega
    · have d0 : decide ((0 : Int) ≤ p) = false := decide_eq_false h0
      have HA := Lib.hid (show 1 + ((anc l i).length : Int) = n by rw [H.out.2.1, anc_none (by rw [← H.out.1]; omega)]; simp)
      go_wp2_with fail
      go_ret
      exact ⟨by rw [HA.out]; rfl, H.out.2.2.1⟩
/-- What first answers. -/
def FirstOf (l : List Nd) (p i : Nat) (r : Int) : Prop := (∃ k : Nat, r = k ∧ p < k ∧ k < i ∧ parF l k = p ∧ ∀ j, p < j → j < k → parF l j ≠ p) ∨ (r = -1 ∧ ∀ j, p < j → j < i → parF l j ≠ p)
structure FirstAns (l : List Nd) (p i : Nat) (w w' : World) (e : Ending) : Prop where
  ex : ∃ r, e = .returned (.int .i64 r) ∧ FirstOf l p i r
  b : Below w.heap.size w w'
set_option maxHeartbeats 1000000 in
theorem first_any (p i : Nat) (hpi : p < i) (hi : i < l.length) (hn : l.length ≤ 4294967296) (hr : Reads w w.heap.size 44 A l.length (ndsCells l)) :
    Calls Tryz.prog 61 #[.agg #[.slice A l.length c, .slice A2 m c2, .int .i64 view], .int .i64 p, .int .i64 i] w fun e w' => FirstAns l p i w w' e := by
  have HR := Lib.hid hr
  have HB0 : Hid (Blk (w.alloc (.cells #[.slice A l.length c, .slice A2 m c2, .int .i64 view] 25)) w.heap.size 25 #[.slice A l.length c, .slice A2 m c2, .int .i64 view]) := Lib.hid (Blk.new _ _ _)
  have HP := Lib.hid (fun W (i : Nat) (hi : i < l.length) (hb : Below w.heap.size w W) => parent_any l A A2 c m c2 view W i hi hn ((hr.below hb).more hb.size))
  have hw1 : IntKind.i64.wrap ((p : Int) + 1) = (p : Int) + 1 := IntWalk.i64_in _ ⟨by omega, by omega⟩
  clear hr
  go_enter Tryz.func61, Tryz.ntmps61
  go_wp2_with fail
  go_loopw [7] (fun kv wr => ∃ (k : Nat), p < k ∧ k ≤ i ∧ kv = .int .i64 k ∧ Hid ((∀ j, p < j → j < k → parF l j ≠ p) ∧ Below w.heap.size w wr ∧ Blk wr w.heap.size 25 #[.slice A l.length c, .slice A2 m c2, .int .i64 view])) (fun kv _ => i - (intOf kv).toNat)
  case atStart => exact ⟨p + 1, by omega, by omega, by simp, Lib.hid ⟨fun j h1 h2 => by omega, (Below.refl _ _).alloc (Nat.le_refl _) _, HB0.out⟩⟩
  case round =>
    obtain ⟨k, hpk, hki, rfl, H⟩ := hrel
    have bx := H.out.2.2.c3
    have hwk : IntKind.i64.wrap ((k : Int) + 1) = (k : Int) + 1 := IntWalk.i64_in _ ⟨by omega, by omega⟩
    by_cases hlt : k < i
    · have d0 : decide ((k : Int) < (i : Int)) = true := decide_eq_true (by omega)
      have d0' : decide (k < i) = true := decide_eq_true hlt
      have hk : k < l.length := by omega
      go_wp2_with fail
      refine (HP.out _ k hk H.out.2.1).mono ?_
      rintro e w1 ⟨rfl, rfl⟩
      by_cases he : parF l k = (p : Int)
      · have e0 : (parF l k == (p : Int)) = true := beq_iff_eq.2 he
        have HE := Lib.hid he
        clear he
        go_wp2_with fail
        go_ret
        exact ⟨⟨_, rfl, .inl ⟨k, rfl, hpk, hlt, HE.out, H.out.1⟩⟩, H.out.2.1.alloc H.out.2.1.size _⟩
      · have e0 : (parF l k == (p : Int)) = false := beq_eq_false_iff_ne.2 he
        have HE := Lib.hid he
        clear he
        go_wp2_with fail
        go_roundw
        case rel => exact ⟨k + 1, by omega, by omega, by go_num, Lib.hid ⟨fun j h1 h2 => by
          by_cases hj : j = k
          · rw [hj]; exact HE.out
          · exact H.out.1 j h1 (by omega), H.out.2.1.alloc H.out.2.1.size _, H.out.2.2.alloc _⟩⟩
        case measure => simp [intOf]; omega
    · have d0 : decide ((k : Int) < (i : Int)) = false := decide_eq_false (by omega)
      have d0' : decide (k < i) = false := decide_eq_false hlt
      go_wp2_with fail
      go_ret
      exact ⟨⟨_, rfl, .inr ⟨rfl, fun j h1 h2 => H.out.1 j h1 (by omega)⟩⟩, H.out.2.1⟩
end
end Go.Proofs.YtjhfcpadnofdnaaGreat
