/- What the laws of towers share. -/
import Derived.Test.YtlebbkhhhmempaaToc
set_option linter.unusedSimpArgs false
set_option linter.unusedVariables false
namespace Go.Proofs.Ytlebbkhhhmempaa
open Go.RowKit
attribute [local go_sem] block_of_add
theorem el_row3 : El Try.prog 43 46 (.agg #[.int .i64 0, .int .i64 0, .int .i64 0]) 3 24 := ⟨Try.underlying43, by kernel_rfl, rfl, by decide⟩
def r3h (r : Int × Int × Int) : List Value := [.int .i16 r.1, .int .i16 r.2.1, .int .i16 r.2.2]
def I16r (r : Int × Int × Int) : Prop := (-32768 ≤ r.1 ∧ r.1 ≤ 32767) ∧ (-32768 ≤ r.2.1 ∧ r.2.1 ≤ 32767) ∧ (-32768 ≤ r.2.2 ∧ r.2.2 ≤ 32767)
def ftR (r : Int × Int × Int) : Int × Int × Int := (if r.1 ≤ 0 then -1 else r.1, r.2.1, r.2.2)
def feR (r : Int × Int × Int) : Int × Int × Int := (max r.1 (-1), r.2.1, r.2.2)
theorem Reads.row16 {w W : World} {n j : Nat} {A : Option Addr} {l : List (Int × Int × Int)} (h : Reads w w.heap.size 3 A n (l.flatMap r3h)) (hn : n = l.length) (hk : j < l.length) (hb : Below w.heap.size w W) :
    ∃ ad : Addr, A = some ad ∧ ad.block < w.heap.size ∧ ∀ W', Below w.heap.size W W' → W'.cell? (ad.add (j * 3)) = some (.int .i16 l[j].1) ∧ W'.cell? ⟨ad.block, (ad.add (j * 3)).off + 1, none⟩ = some (.int .i16 l[j].2.1) ∧ W'.cell? ⟨ad.block, (ad.add (j * 3)).off + 2, none⟩ = some (.int .i16 l[j].2.2) := by
  obtain ⟨ad, e, hlt, hc⟩ := h.2 (by omega)
  have ha : ∀ i, i ≠ 0 → (⟨ad.block, (ad.add (j * 3)).off + i, none⟩ : Addr) = ad.add (j * 3 + i) := by
    intro i hi
    rw [← add_of_add, show ∀ p : Addr, p.add i = ⟨p.block, p.off + i, none⟩ from fun p => by unfold Addr.add; rw [if_neg hi], block_of_add]
  refine ⟨ad, e, hlt, fun W' hb' => ?_⟩
  have hg : ∀ i, i < 3 → ∀ u, (r3h l[j])[i]? = some u → W'.cell? (ad.add (j * 3 + i)) = some u := fun i hi u hu => by
    rw [(hb.trans hb').cell (p := ad.add (j * 3 + i)) (by rw [block_of_add]; exact hlt)]
    exact hc _ u (by rw [flat_at r3h 3 (fun _ => rfl) l j i hk hi]; exact hu)
  refine ⟨hg 0 (by omega) _ rfl, ?_, ?_⟩
  · rw [ha 1 (by omega)]; exact hg 1 (by omega) _ rfl
  · rw [ha 2 (by omega)]; exact hg 2 (by omega) _ rfl
/-- The rows that the law has built so far. -/
structure RwI (w : World) (l : List (Int × Int × Int)) (f : Int × Int × Int → Int × Int × Int) (j : Nat) (AR : Option Addr) (cR : Nat) (W : World) : Prop where
  o : W.ownsRow w.heap.size 46 3 (.slice AR j cR) j (((l.take j).map f).flatMap r3C)
  b : Below w.heap.size w W
theorem rw_take (l : List (Int × Int × Int)) (f : Int × Int × Int → Int × Int × Int) (j : Nat) (h : j < l.length) : ((l.take (j + 1)).map f).flatMap r3C = ((l.take j).map f).flatMap r3C ++ r3C (f l[j]) := by
  rw [List.take_add_one, List.getElem?_eq_getElem h, List.map_append, List.flatMap_append]; simp
structure RowB (r : Int × Int × Int) : Prop where
  h : -1048576 ≤ r.1 ∧ r.1 ≤ 1048576
  a : -1048576 ≤ r.2.1 ∧ r.2.1 ≤ 1048576
  b : -1048576 ≤ r.2.2 ∧ r.2.2 ≤ 1048576
theorem ftR_B {l : List (Int × Int × Int)} (h : ∀ r ∈ l, I16r r) : ∀ r ∈ l.map ftR, RowB r := by
  intro r hr
  obtain ⟨x, hx, rfl⟩ := List.mem_map.1 hr
  obtain ⟨⟨_, _⟩, ⟨_, _⟩, _, _⟩ := h x hx
  refine ⟨?_, ?_, ?_⟩ <;> unfold ftR <;> dsimp only
  · split <;> omega
  · omega
  · omega
theorem feR_B {l : List (Int × Int × Int)} (h : ∀ r ∈ l, I16r r) : ∀ r ∈ l.map feR, RowB r := by
  intro r hr
  obtain ⟨x, hx, rfl⟩ := List.mem_map.1 hr
  obtain ⟨⟨_, _⟩, ⟨_, _⟩, _, _⟩ := h x hx
  refine ⟨?_, ?_, ?_⟩ <;> unfold feR <;> dsimp only <;> omega
/-- What a row of a tower's rows is. -/
def rAt (R : List (Int × Int × Int)) (i : Nat) : Rw := rwOf ((R[i]?).getD (0, 0, 0))
def ysL (R : List (Int × Int × Int)) (i : Nat) : Int × Stt := ysF ((R.take i).map rwOf)
def tF (p : Int) (R : List (Int × Int × Int)) (i : Nat) : Fr := ⟨0, topR (ysL R i) (rAt R i) + p, 100, max (rAt R i).h 0⟩
theorem ysL_succ (R : List (Int × Int × Int)) (i : Nat) (h : i < R.length) : ysL R (i + 1) = ysR (ysL R i) (rAt R i) := by
  unfold ysL ysF rAt
  rw [List.take_add_one, List.getElem?_eq_getElem h, List.map_append, List.foldl_append]; rfl
theorem tF_eq (p q : Int) (R : List (Int × Int × Int)) : (List.range' 1 R.length).map (frF (twL p q (R.map rwOf)) (wkU (R.length + 1)) (twK p (R.map rwOf))) = (List.range R.length).map (tF p R) := by
  apply List.ext_getElem
  · simp
  · intro i h1 h2
    rw [List.length_map, List.length_range'] at h1
    rw [List.getElem_map, List.getElem_map, List.getElem_range', List.getElem_range, show 1 + 1 * i = i + 1 by omega, tw_fr p q (R.map rwOf) _ i (by simpa using h1)]
    unfold tF rAt ysL
    have hu := (usT_at (R.length + 1) (i + 1)).2 (by omega)
    unfold wkU
    rw [hu, List.map_take, List.getElem?_eq_getElem h1]
    simp
theorem RowB.ok {r : Int × Int × Int} (h : RowB r) : RwOk (rwOf r) := ⟨h.h, h.a, h.b⟩
theorem rAt_ok {R : List (Int × Int × Int)} (h : ∀ r ∈ R, RowB r) (i : Nat) : RwOk (rAt R i) := by
  unfold rAt
  by_cases hi : i < R.length
  · rw [List.getElem?_eq_getElem hi]; exact (h _ (List.getElem_mem hi)).ok
  · rw [List.getElem?_eq_none (by omega)]; exact ⟨by decide, by decide, by decide⟩
theorem ysL_B {R : List (Int × Int × Int)} (h : ∀ r ∈ R, RowB r) (i : Nat) : YsB (4194304 + 4194304 * R.length) (ysL R i) := by
  have q := ysF_B ((R.take i).map rwOf) (fun r hr => by
    obtain ⟨x, hx, rfl⟩ := List.mem_map.1 hr
    exact (h x (List.mem_of_mem_take hx)).ok)
  rw [List.length_map, List.length_take] at q
  have := q.y
  exact ⟨by unfold ysL; omega, q.m, q.l⟩
theorem tblockL_any (p q : Int) (R : List (Int × Int × Int)) (n : Nat) (hn : R.length = n) (hnn : n ≤ 100) (hR : ∀ r ∈ R, RowB r) (hp : 0 ≤ p ∧ p ≤ 1048576) (hq : 0 ≤ q ∧ q ≤ 1048576) (A uA : Option Addr) (c uc : Nat) (w : World) (hrn : Reads w w.heap.size 44 A (n + 1) (ndsCells (twL p q (R.map rwOf)))) (hru : Reads w w.heap.size 3 uA (n + 1) (udsCells (wkU (n + 1)))) :
    Calls Try.prog 20 #[.agg #[.slice A (n + 1) c, .slice none 0 0, .int .i64 100], .int .i64 0, .slice uA (n + 1) uc, .slice none 0 0] w fun e w' => ∃ Ab cb gF gB, e = .returned (.agg #[.slice Ab n cb, .slice (some ⟨gF, 0, none⟩) n n, .slice (some ⟨gB, 0, none⟩) n n, .int .i64 (max 0 ((ysL R n).1 + sumF (ysL R n).2) + (p + q)), .slice none 0 0, .bool false]) ∧
      Blk w' gF 58 (frsCells ((List.range n).map (tF p R))).toArray ∧ Below w.heap.size w w' := by
  subst hn
  have hl : (wkU (R.length + 1)).length = R.length + 1 := by simp [wkU]
  have h := tblock_any p q (R.map rwOf) (wkU (R.length + 1)) [] A none uA none c 0 0 uc 0 100 w hp hq (by rw [List.length_map]; omega) (by
    intro r hr
    obtain ⟨x, hx, rfl⟩ := List.mem_map.1 hr
    exact ⟨(hR x hx).ok, rfl, rfl⟩) (by rw [hl, List.length_map]) (by decide) (by
    intro u hu
    have := List.eq_of_mem_replicate hu
    subst this; decide) (by rw [List.length_map]; exact hrn) (by rw [hl]; exact hru) Reads.none_
  rw [List.length_map, hl, tF_eq] at h
  have e : ysF (R.map rwOf) = ysL R R.length := by unfold ysL; rw [List.take_length]
  rw [e] at h
  exact h
theorem frag_c {W : World} {g n : Nat} {f : Nat → Fr} (h : Blk W g 58 (frsCells ((List.range n).map f)).toArray) (j : Nat) (hj : j < n) : W.cell? ⟨g, j * 5, none⟩ = some (.int .i64 (f j).x) ∧ W.cell? ⟨g, j * 5 + 1, none⟩ = some (.int .i64 (f j).y) ∧ W.cell? ⟨g, j * 5 + 2, none⟩ = some (.int .i64 (f j).w) ∧ W.cell? ⟨g, j * 5 + 3, none⟩ = some (.int .i64 (f j).h) ∧ W.cell? ⟨g, j * 5 + 4, none⟩ = some (.slice none 0 0) := by
  have g : ∀ i, i < 5 → ∀ v, (frCells (f j))[i]? = some v → W.cell? ⟨g, j * 5 + i, none⟩ = some v := fun i hi v hv => h.get _ (by
    rw [List.getElem?_toArray, frsCells_at _ _ _ (by simpa using hj) hi, List.getElem_map, List.getElem_range]; exact hv)
  exact ⟨g 0 (by omega) _ rfl, g 1 (by omega) _ rfl, g 2 (by omega) _ rfl, g 3 (by omega) _ rfl, g 4 (by omega) _ rfl⟩
theorem row_c {W : World} {base g n c : Nat} {R : List (Int × Int × Int)} (h : W.ownsRow base 46 3 (.slice (some ⟨g, 0, none⟩) n c) n (R.flatMap r3C)) (hn : R.length = n) (j : Nat) (hj : j < n) : W.cell? ⟨g, j * 3, none⟩ = some (.int .i64 (rAt R j).h) ∧ W.cell? ⟨g, j * 3 + 1, none⟩ = some (.int .i64 (rAt R j).a) ∧ W.cell? ⟨g, j * 3 + 2, none⟩ = some (.int .i64 (rAt R j).b) := by
  have hjl : j < R.length := by omega
  have e : rAt R j = rwOf R[j] := by unfold rAt; rw [List.getElem?_eq_getElem hjl]; rfl
  have g : ∀ i, i < 3 → ∀ v, (r3C R[j])[i]? = some v → W.cell? ⟨g, j * 3 + i, none⟩ = some v := fun i hi v hv => by
    rw [h.cellAt (j * 3 + i) (by omega), flat_at r3C 3 (fun _ => rfl) R j i hjl hi]; exact hv
  rw [e]
  exact ⟨g 0 (by omega) _ rfl, g 1 (by omega) _ rfl, g 2 (by omega) _ rfl⟩
/-- The strut's cell of the laws' loops: T of their regions. -/
theorem FtS.bel {gS : Nat} {w4 W W' : World} {cs : Array Value} (hg : gS = w4.heap.size) (h : Blk W gS 55 cs ∧ Below gS w4 W) (hb : Below W.heap.size W W') : Blk W' gS 55 cs ∧ Below gS w4 W' :=
  ⟨h.1.below hb h.1.lt, h.2.trans (hb.mono (Nat.le_of_lt h.1.lt))⟩
theorem FtS.set {gS : Nat} {w4 W : World} {a b : Value} (h : Blk W gS 55 #[a, b] ∧ Below gS w4 W) (x y : Int) : Blk ((W.setCell ⟨gS, 0, none⟩ (.int .i64 x)).setCell ⟨gS, 1, none⟩ (.int .i64 y)) gS 55 #[.int .i64 x, .int .i64 y] ∧ Below gS w4 ((W.setCell ⟨gS, 0, none⟩ (.int .i64 x)).setCell ⟨gS, 1, none⟩ (.int .i64 y)) :=
  ⟨(h.1.set_ 0 _).set_ 1 _, (h.2.setCell (p := ⟨gS, 0, none⟩) (Nat.le_refl _) _).setCell (p := ⟨gS, 1, none⟩) (Nat.le_refl _) _⟩
end Go.Proofs.Ytlebbkhhhmempaa
