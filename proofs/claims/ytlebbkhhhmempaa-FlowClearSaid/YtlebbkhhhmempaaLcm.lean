/- FlowClear: memory. -/
import Derived.Test.YtlebbkhhhmempaaLck
set_option linter.unusedSimpArgs false
set_option linter.unusedVariables false
namespace Go.Proofs.Ytlebbkhhhmempaa
open Go.RowKit
attribute [local go_sem] block_of_add
theorem el_i64T : El Try.prog 23 2 (.int .i64 0) 1 8 := ⟨Try.underlying23, by kernel_rfl, rfl, by decide⟩
theorem make_i64T (n : Nat) (hn : n ≤ 1000000) (w : World) : (Instr.makeSlice 23 (.int .i64 (n : Int)) (.int .i64 (n : Int))).run Try.prog w = .ok (.slice (some ⟨w.heap.size, 0, none⟩) n n) (w.alloc (.cells ((List.replicate n (0 : Int)).map (Value.int .i64)).toArray 2)) := by
  obtain ⟨i, hi, hz, hs, hb⟩ := info_parts el_i64T.info
  have h := run_makeSlice (P := Try.prog) (w := w) 23 2 i _ el_i64T.ht hi hz .i64 .i64 (n : Int) (n : Int) (by omega) (by omega) (by rw [hs]; omega) (by rw [hb]; omega) (by omega)
  have hm : madeCells (Value.int .i64 0).cells (n * 1) = ((List.replicate n (0 : Int)).map (Value.int .i64)).toArray := by
    apply Array.toList_inj.1
    rw [Nat.mul_one]
    show (madeCells #[.int .i64 0] n).toList = _
    rw [toList_madeCells_one]; simp
  rw [h, hs, Int.toNat_natCast, hm]
theorem Reads.row8 {w W : World} {n j : Nat} {A : Option Addr} {l : List N3} (h : Reads w w.heap.size 3 A n (l.flatMap r3b)) (hn : n = l.length) (hk : j < l.length) (hb : Below w.heap.size w W) :
    ∃ ad : Addr, A = some ad ∧ ad.block < w.heap.size ∧ ∀ W', Below w.heap.size W W' → W'.cell? (ad.add (j * 3)) = some (.int .u8 l[j].1) ∧ W'.cell? ⟨ad.block, (ad.add (j * 3)).off + 1, none⟩ = some (.int .u8 l[j].2.1) ∧ W'.cell? ⟨ad.block, (ad.add (j * 3)).off + 2, none⟩ = some (.int .u8 l[j].2.2) := by
  obtain ⟨ad, e, hlt, hc⟩ := h.2 (by omega)
  have ha : ∀ i, i ≠ 0 → (⟨ad.block, (ad.add (j * 3)).off + i, none⟩ : Addr) = ad.add (j * 3 + i) := by
    intro i hi
    rw [← add_of_add, show ∀ p : Addr, p.add i = ⟨p.block, p.off + i, none⟩ from fun p => by unfold Addr.add; rw [if_neg hi], block_of_add]
  refine ⟨ad, e, hlt, fun W' hb' => ?_⟩
  have hg : ∀ i, i < 3 → ∀ u, (r3b l[j])[i]? = some u → W'.cell? (ad.add (j * 3 + i)) = some u := fun i hi u hu => by
    rw [(hb.trans hb').cell (p := ad.add (j * 3 + i)) (by rw [block_of_add]; exact hlt)]
    exact hc _ u (by rw [flat_at r3b 3 (fun _ => rfl) l j i hk hi]; exact hu)
  refine ⟨hg 0 (by omega) _ rfl, ?_, ?_⟩
  · rw [ha 1 (by omega)]; exact hg 1 (by omega) _ rfl
  · rw [ha 2 (by omega)]; exact hg 2 (by omega) _ rfl
theorem own_mono {w : World} {base base' : Nat} {e : TypeId} {size : Nat} {v : Value} {n : Nat} {xs : List Value} (h : w.ownsRow base e size v n xs) (hb : base' ≤ base) : w.ownsRow base' e size v n xs :=
  ⟨h.1, h.2.imp id fun ⟨g, cap, cur, h1, h2, h3⟩ => ⟨g, cap, cur, h1, Nat.le_trans hb h2, h3⟩⟩
theorem nds_sty (L : List Nd) (k q : Nat) (hk : k < L.length) (hq : q < 43) : (ndsCells L)[k * 44 + 1 + q]? = (styCells L[k].s)[q]? := by
  unfold ndsCells
  rw [Nat.add_assoc, flat_at ndCells 44 (fun _ => rfl) L k (1 + q) hk (by omega), Nat.add_comm 1 q]
  rfl
theorem node_rng {W : World} {base g n c : Nat} {L : List Nd} (h : W.ownsRow base 71 44 (.slice (some ⟨g, 0, none⟩) n c) n (ndsCells L)) (hn : L.length = n) (k : Nat) (hk : k < L.length) : W.rangeAt g (k * 44 + 1) (styCells L[k].s) := fun q v hv => by
  have hq : q < 43 := (List.getElem?_eq_some_iff.1 hv).1
  rw [h.cellAt _ (by omega), nds_sty L k q hk hq]; exact hv
theorem rsC_at (l : List N3) (side i : Nat) (h : i < l.length) : ∃ hk : i + 1 < (twL 0 0 (rsC l side)).length, ((twL 0 0 (rsC l side))[i + 1]).s = twS (rF l[i]) := by
  have hl : (twL 0 0 (rsC l side)).length = l.length + 2 := by rw [twL_len]; unfold rsC; simp
  refine ⟨by omega, ?_⟩
  have h1 : (twL 0 0 (rsC l side))[i + 1]? = some ⟨0, twS (rF l[i])⟩ := by
    rw [twL_succ]
    unfold rsC
    rw [List.getElem?_append_left (by rw [List.length_map]; exact h), List.getElem?_map, List.getElem?_eq_getElem h]; rfl
  rw [List.getElem?_eq_getElem (by omega)] at h1
  injection h1 with h1
  rw [h1]
structure RwC (w : World) (l : List N3) (j : Nat) (AR : Option Addr) (cR : Nat) (W : World) : Prop where
  o : W.ownsRow w.heap.size 46 3 (.slice AR j cR) j (((l.take j).map fcR).flatMap r3C)
  b : Below w.heap.size w W
theorem rc_take (l : List N3) (j : Nat) (h : j < l.length) : ((l.take (j + 1)).map fcR).flatMap r3C = ((l.take j).map fcR).flatMap r3C ++ r3C (fcR l[j]) := by
  rw [List.take_add_one, List.getElem?_eq_getElem h, List.map_append, List.flatMap_append]; simp
/-- All that the law has made: the tree's block, its nodes, used values, heights, the rows. -/
structure FcI (w : World) (N gT gN cN gU cU gH gR cR : Nat) (nd ud hd rd : List Value) (W : World) : Prop where
  t : Blk W gT 25 #[.slice (some ⟨gN, 0, none⟩) N cN, .slice none 0 0, .int .i64 100]
  n : W.ownsRow w.heap.size 71 44 (.slice (some ⟨gN, 0, none⟩) N cN) N nd
  u : W.ownsRow w.heap.size 27 3 (.slice (some ⟨gU, 0, none⟩) N cU) N ud
  h : W.ownsRow w.heap.size 2 1 (.slice (some ⟨gH, 0, none⟩) N N) N hd
  r : W.ownsRow w.heap.size 46 3 (.slice (some ⟨gR, 0, none⟩) (N - 1) cR) (N - 1) rd
  b : Below w.heap.size w W
  lt : w.heap.size ≤ gT
section
variable {w : World} {n gT gN cN gU cU gH gR cR : Nat} {nd ud hd rd : List Value} {W W' : World}
theorem FcI.bel (h : FcI w n gT gN cN gU cU gH gR cR nd ud hd rd W) (hb : Below W.heap.size W W') : FcI w n gT gN cN gU cU gH gR cR nd ud hd rd W' :=
  ⟨h.t.below hb h.t.lt, own_below h.n hb, own_below h.u hb, own_below h.h hb, own_below h.r hb, h.b.trans (hb.mono h.b.size), h.lt⟩
theorem FcI.setN (h : FcI w n gT gN cN gU cU gH gR cR nd ud hd rd W) (i : Nat) (v : Value) : FcI w n gT gN cN gU cU gH gR cR (nd.set i v) ud hd rd (W.setCell ⟨gN, i, none⟩ v) :=
  ⟨h.t.far (fun e => own_blk_ne h.n h.t (by decide) (by rw [e]; rfl)) _, (h.n.stored i v).1, ownsRow_setCell_other h.u (a := ⟨gN, i, none⟩) (apart_ne (own_apart h.u h.n (by decide)) rfl) _, ownsRow_setCell_other h.h (a := ⟨gN, i, none⟩) (apart_ne (own_apart h.h h.n (by decide)) rfl) _, ownsRow_setCell_other h.r (a := ⟨gN, i, none⟩) (apart_ne (own_apart h.r h.n (by decide)) rfl) _, h.b.setCell (p := ⟨gN, i, none⟩) (h.n.lt gN rfl).1 _, h.lt⟩
theorem FcI.setU (h : FcI w n gT gN cN gU cU gH gR cR nd ud hd rd W) (i : Nat) (v : Value) : FcI w n gT gN cN gU cU gH gR cR nd (ud.set i v) hd rd (W.setCell ⟨gU, i, none⟩ v) :=
  ⟨h.t.far (fun e => own_blk_ne h.u h.t (by decide) (by rw [e]; rfl)) _, ownsRow_setCell_other h.n (a := ⟨gU, i, none⟩) (apart_ne (own_apart h.n h.u (by decide)) rfl) _, (h.u.stored i v).1, ownsRow_setCell_other h.h (a := ⟨gU, i, none⟩) (apart_ne (own_apart h.h h.u (by decide)) rfl) _, ownsRow_setCell_other h.r (a := ⟨gU, i, none⟩) (apart_ne (own_apart h.r h.u (by decide)) rfl) _, h.b.setCell (p := ⟨gU, i, none⟩) (h.u.lt gU rfl).1 _, h.lt⟩
theorem FcI.setH (h : FcI w n gT gN cN gU cU gH gR cR nd ud hd rd W) (i : Nat) (v : Value) : FcI w n gT gN cN gU cU gH gR cR nd ud (hd.set i v) rd (W.setCell ⟨gH, i, none⟩ v) :=
  ⟨h.t.far (fun e => own_blk_ne h.h h.t (by decide) (by rw [e]; rfl)) _, ownsRow_setCell_other h.n (a := ⟨gH, i, none⟩) (apart_ne (own_apart h.n h.h (by decide)) rfl) _, ownsRow_setCell_other h.u (a := ⟨gH, i, none⟩) (apart_ne (own_apart h.u h.h (by decide)) rfl) _, (h.h.stored i v).1, ownsRow_setCell_other h.r (a := ⟨gH, i, none⟩) (apart_ne (own_apart h.r h.h (by decide)) rfl) _, h.b.setCell (p := ⟨gH, i, none⟩) (h.h.lt gH rfl).1 _, h.lt⟩
theorem FcI.xN (h : FcI w n gT gN cN gU cU gH gR cR nd ud hd rd W) (i : Nat) (hi : i < n * 44) : ∃ v, W.cell? ⟨gN, i, none⟩ = some v := ⟨nd[i]'(by rw [h.n.1]; exact hi), by rw [h.n.cellAt i hi]; exact List.getElem?_eq_getElem _⟩
theorem FcI.xU (h : FcI w n gT gN cN gU cU gH gR cR nd ud hd rd W) (i : Nat) (hi : i < n * 3) : ∃ v, W.cell? ⟨gU, i, none⟩ = some v := ⟨ud[i]'(by rw [h.u.1]; exact hi), by rw [h.u.cellAt i hi]; exact List.getElem?_eq_getElem _⟩
theorem FcI.xH (h : FcI w n gT gN cN gU cU gH gR cR nd ud hd rd W) (i : Nat) (hi : i < n) : ∃ v, W.cell? ⟨gH, i, none⟩ = some v := ⟨hd[i]'(by rw [h.h.1]; omega), by rw [h.h.cellAt i (by omega)]; exact List.getElem?_eq_getElem _⟩
end
end Go.Proofs.Ytlebbkhhhmempaa
