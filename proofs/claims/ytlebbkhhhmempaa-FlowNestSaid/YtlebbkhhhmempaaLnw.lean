/- FlowNest: what the first loop builds. -/
import Derived.Test.YtlebbkhhhmempaaLnm
set_option linter.unusedSimpArgs false
set_option linter.unusedVariables false
namespace Go.Proofs.Ytlebbkhhhmempaa
open Go.RowKit
theorem own_monoN {w : World} {base base' : Nat} {e : TypeId} {size : Nat} {v : Value} {n : Nat} {xs : List Value} (h : w.ownsRow base e size v n xs) (hb : base' ≤ base) : w.ownsRow base' e size v n xs :=
  ⟨h.1, h.2.imp id fun ⟨g, cap, cur, h1, h2, h3⟩ => ⟨g, cap, cur, h1, Nat.le_trans hb h2, h3⟩⟩
theorem rsN_ok (l : List (Int × Int)) (H : Int) (j : Nat) (hl : ∀ r ∈ l, I16p r) (hH : 0 < H ∧ H ≤ 70000) : ∀ r ∈ rsN l H j, RwOk r := fun r hr => by
  obtain ⟨i, hi, rfl⟩ := List.getElem_of_mem hr
  unfold rsN at hi ⊢
  have h := nrF_at l.length H (l.take j) 0 i
  rw [List.getElem?_eq_getElem hi] at h
  cases hx : (l.take j)[i]? with
  | none => rw [hx] at h; cases h
  | some x =>
    rw [hx] at h
    injection h with h
    rw [h]
    obtain ⟨⟨_, _⟩, _, _⟩ := hl x (List.mem_of_mem_take (List.mem_of_getElem? hx))
    refine ⟨?_, ?_, ?_⟩ <;> unfold nrR <;> dsimp only
    · split <;> omega
    · omega
    · omega
theorem ns_row (n j : Nat) (H a b : Int) (hH : 0 < H) : (⟨(j : Int), { { { twS0 with m0 := ⟨1, a⟩ } with m2 := ⟨1, b⟩ } with h := if j + 1 = n then ⟨1, H⟩ else ⟨0, 0⟩ }⟩ : Nd) = nsN 0 j (nrR n H j (a, b)) := by
  have e : ∀ hh : Int, nsN 0 j ⟨hh, a, b, 0, 0⟩ = ⟨(j : Int), { { { twS0 with m0 := ⟨1, a⟩ } with m2 := ⟨1, b⟩ } with h := if 0 ≤ hh then ⟨1, hh⟩ else ⟨0, 0⟩ }⟩ := fun hh => by
    unfold nsN
    have e2 : (if j = 0 then (0 : Int) else 0) = 0 := by split <;> rfl
    rw [e2]; rfl
  show _ = nsN 0 j ⟨if j + 1 = n then H else -1, a, b, 0, 0⟩
  rw [e]
  by_cases h : j + 1 = n
  · rw [if_pos h, if_pos h, if_pos (by omega)]
  · rw [if_neg h, if_neg h, if_neg (by omega)]
def sttC (s : Stt) : Array Value := #[.int .i64 s.most, .int .i64 s.least]
structure NwI (w : World) (gT gA gB : Nat) (rs : List Rw) (m : Nat) (sa sb : Stt) (AN : Option Addr) (cN : Nat) (AU : Option Addr) (cU : Nat) (W : World) : Prop where
  t : Blk W gT 25 #[.slice AN (rs.length + 1) cN, .slice none 0 0, .int .i64 100]
  n : W.ownsRow w.heap.size 71 44 (.slice AN (rs.length + 1) cN) (rs.length + 1) (ndsCells (nsL 0 rs))
  u : W.ownsRow w.heap.size 27 3 (.slice AU (m + 1) cU) (m + 1) (udsCells (wkU (m + 1)))
  a : Blk W gA 55 (sttC sa)
  b : Blk W gB 55 (sttC sb)
  l : Below w.heap.size w W
  g : w.heap.size ≤ gT ∧ w.heap.size ≤ gA ∧ w.heap.size ≤ gB ∧ gA ≠ gB
section
variable {w : World} {gT gA gB : Nat} {rs : List Rw} {m : Nat} {sa sb : Stt} {AN AU A' : Option Addr} {cN cU c' : Nat} {W W' : World}
theorem NwI.bel (h : NwI w gT gA gB rs m sa sb AN cN AU cU W) (hb : Below W.heap.size W W') : NwI w gT gA gB rs m sa sb AN cN AU cU W' :=
  ⟨h.t.below hb h.t.lt, own_below h.n hb, own_below h.u hb, h.a.below hb h.a.lt, h.b.below hb h.b.lt, h.l.trans (hb.mono h.l.size), h.g⟩
theorem NwI.far (h : NwI w gT gA gB rs m sa sb AN cN AU cU W) {g : Nat} {cs : Array Value} (hg : Blk W g 69 cs) (hl : w.heap.size ≤ g) (i : Nat) (v : Value) : NwI w gT gA gB rs m sa sb AN cN AU cU (W.setCell ⟨g, i, none⟩ v) :=
  ⟨h.t.far (h.t.ne_ hg (by decide)) _, ownsRow_setCell_other h.n (a := ⟨g, i, none⟩) (own_blk_ne h.n hg (by decide)) _, ownsRow_setCell_other h.u (a := ⟨g, i, none⟩) (own_blk_ne h.u hg (by decide)) _, h.a.far (h.a.ne_ hg (by decide)) _, h.b.far (h.b.ne_ hg (by decide)) _, h.l.setCell (p := ⟨g, i, none⟩) hl _, h.g⟩
theorem NwI.len (h : NwI w gT gA gB rs m sa sb AN cN AU cU W) {g : Nat} {s s' : Sty} (hs : Blk W g 69 (styCells s).toArray) (hl : w.heap.size ≤ g) (i j : Nat) (u v : Value) (e : ((styCells s).toArray.setIfInBounds i u).setIfInBounds j v = (styCells s').toArray) :
    NwI w gT gA gB rs m sa sb AN cN AU cU ((W.setCell ⟨g, i, none⟩ u).setCell ⟨g, j, none⟩ v) ∧ Blk ((W.setCell ⟨g, i, none⟩ u).setCell ⟨g, j, none⟩ v) g 69 (styCells s').toArray := by
  have h1 := hs.set_ i u
  refine ⟨(h.far hs hl i u).far h1 hl j v, ?_⟩
  rw [← e]; exact h1.set_ j v
theorem NwI.setA (h : NwI w gT gA gB rs m sa sb AN cN AU cU W) (s : Stt) : NwI w gT gA gB rs m s sb AN cN AU cU ((W.setCell ⟨gA, 0, none⟩ (.int .i64 s.most)).setCell ⟨gA, 1, none⟩ (.int .i64 s.least)) := by
  have h1 := h.a.set_ 0 (.int .i64 s.most)
  have hn1 := ownsRow_setCell_other h.n (a := ⟨gA, 0, none⟩) (own_blk_ne h.n h.a (by decide)) (.int .i64 s.most)
  have hu1 := ownsRow_setCell_other h.u (a := ⟨gA, 0, none⟩) (own_blk_ne h.u h.a (by decide)) (.int .i64 s.most)
  have ht := h.t.ne_ h.a (by decide)
  exact ⟨(h.t.far ht _).far ht _, ownsRow_setCell_other hn1 (a := ⟨gA, 1, none⟩) (own_blk_ne hn1 h1 (by decide)) _, ownsRow_setCell_other hu1 (a := ⟨gA, 1, none⟩) (own_blk_ne hu1 h1 (by decide)) _, h1.set_ 1 _, (h.b.far (fun e => h.g.2.2.2 e.symm) _).far (fun e => h.g.2.2.2 e.symm) _, (h.l.setCell (p := ⟨gA, 0, none⟩) h.g.2.1 _).setCell (p := ⟨gA, 1, none⟩) h.g.2.1 _, h.g⟩
theorem NwI.setB (h : NwI w gT gA gB rs m sa sb AN cN AU cU W) (s : Stt) : NwI w gT gA gB rs m sa s AN cN AU cU ((W.setCell ⟨gB, 0, none⟩ (.int .i64 s.most)).setCell ⟨gB, 1, none⟩ (.int .i64 s.least)) := by
  have h1 := h.b.set_ 0 (.int .i64 s.most)
  have hn1 := ownsRow_setCell_other h.n (a := ⟨gB, 0, none⟩) (own_blk_ne h.n h.b (by decide)) (.int .i64 s.most)
  have hu1 := ownsRow_setCell_other h.u (a := ⟨gB, 0, none⟩) (own_blk_ne h.u h.b (by decide)) (.int .i64 s.most)
  have ht := h.t.ne_ h.b (by decide)
  exact ⟨(h.t.far ht _).far ht _, ownsRow_setCell_other hn1 (a := ⟨gB, 1, none⟩) (own_blk_ne hn1 h1 (by decide)) _, ownsRow_setCell_other hu1 (a := ⟨gB, 1, none⟩) (own_blk_ne hu1 h1 (by decide)) _, (h.a.far h.g.2.2.2 _).far h.g.2.2.2 _, h1.set_ 1 _, (h.l.setCell (p := ⟨gB, 0, none⟩) h.g.2.2.1 _).setCell (p := ⟨gB, 1, none⟩) h.g.2.2.1 _, h.g⟩
theorem NwI.appN (h : NwI w gT gA gB rs m sa sb AN cN AU cU W) (r : Rw) (hown : W'.ownsRow w.heap.size 71 44 (.slice A' (rs.length + 1 + 1) c') (rs.length + 1 + 1) (ndsCells (nsL 0 rs) ++ ndCells (nsN 0 rs.length r))) (hg : W.grownBy W' (Value.slice AN (rs.length + 1) cN).ownBlock) (hB : ∀ B w0, B ≤ w.heap.size → Below B w0 W → Below B w0 W') :
    NwI w gT gA gB (rs ++ [r]) m sa sb A' c' AU cU (W'.setCell ⟨gT, 0, none⟩ (.slice A' (rs.length + 1 + 1) c')) := by
  have e1 : (rs ++ [r]).length = rs.length + 1 := by simp
  have e2 : ndsCells (nsL 0 (rs ++ [r])) = ndsCells (nsL 0 rs) ++ ndCells (nsN 0 rs.length r) := by rw [ns_app]; simp [ndsCells]
  have ht := h.t.grown hg (fun e => own_blk_ne h.n h.t (by decide) e.symm)
  have ha := h.a.grown hg (fun e => own_blk_ne h.n h.a (by decide) e.symm)
  have hb := h.b.grown hg (fun e => own_blk_ne h.n h.b (by decide) e.symm)
  have hu := h.u.kept hg (own_apart h.u h.n (by decide))
  have ht' := ht.set_ 0 (.slice A' (rs.length + 1 + 1) c')
  refine ⟨?_, ?_, ownsRow_setCell_other hu (a := ⟨gT, 0, none⟩) (own_blk_ne hu ht (by decide)) _, ha.far (ha.ne_ ht (by decide)) _, hb.far (hb.ne_ ht (by decide)) _, (hB _ _ (Nat.le_refl _) h.l).setCell (p := ⟨gT, 0, none⟩) h.g.1 _, h.g⟩
  · rw [e1]; exact ht'
  · rw [e1, e2]; exact ownsRow_setCell_other hown (a := ⟨gT, 0, none⟩) (own_blk_ne hown ht (by decide)) _
theorem NwI.appU (h : NwI w gT gA gB rs m sa sb AN cN AU cU W) (hown : W'.ownsRow w.heap.size 27 3 (.slice A' (m + 1 + 1) c') (m + 1 + 1) (udsCells (wkU (m + 1)) ++ [.int .i64 100, .int .i64 0, .int .i64 0])) (hg : W.grownBy W' (Value.slice AU (m + 1) cU).ownBlock) (hB : ∀ B w0, B ≤ w.heap.size → Below B w0 W → Below B w0 W') :
    NwI w gT gA gB rs (m + 1) sa sb AN cN A' c' W' := by
  have e2 : udsCells (wkU (m + 1 + 1)) = udsCells (wkU (m + 1)) ++ [.int .i64 100, .int .i64 0, .int .i64 0] := by
    unfold wkU
    rw [List.replicate_succ']; simp [udsCells, udCells]
  refine ⟨h.t.grown hg (fun e => own_blk_ne h.u h.t (by decide) e.symm), h.n.kept hg (own_apart h.n h.u (by decide)), ?_, h.a.grown hg (fun e => own_blk_ne h.u h.a (by decide) e.symm), h.b.grown hg (fun e => own_blk_ne h.u h.b (by decide) e.symm), hB _ _ (Nat.le_refl _) h.l, h.g⟩
  rw [e2]; exact hown
end
theorem NwI.start (w : World) : NwI w (w.heap.size + 1) (w.heap.size + 1 + 1 + 1) (w.heap.size + 1 + 1 + 1 + 1) [] 0 ⟨0, 0⟩ ⟨0, 0⟩ (some ⟨w.heap.size, 0, none⟩) 1 (some ⟨w.heap.size + 1 + 1, 0, none⟩) 1 (((((w.alloc (.cells (ndsCells (twL 0 0 [])).toArray 71)).alloc (.cells #[.slice (some ⟨w.heap.size, 0, none⟩) 1 1, .slice none 0 0, .int .i64 100] 25)).alloc (.cells #[.int .i64 100, .int .i64 0, .int .i64 0] 27)).alloc (.cells #[.int .i64 0, .int .i64 0] 55)).alloc (.cells #[.int .i64 0, .int .i64 0] 55)) := by
  refine ⟨((((Blk.at_ _ _ _ (by simp)).alloc _).alloc _).alloc _), ?_, ?_, ((Blk.at_ _ _ _ (by simp)).alloc _), Blk.at_ _ _ _ (by simp), (((((Below.refl _ _).alloc (Nat.le_refl _) _).alloc (by simp) _).alloc (by simp; omega) _).alloc (by simp; omega) _).alloc (by simp; omega) _, by omega⟩
  · exact ⟨rfl, .inr ⟨w.heap.size, 1, (ndsCells (twL 0 0 [])).toArray, rfl, by omega, ((((Blk.new _ _ _).alloc _).alloc _).alloc _).alloc _, Nat.le_refl _, by decide, rfl, rfl⟩⟩
  · exact ⟨rfl, .inr ⟨w.heap.size + 1 + 1, 1, #[.int .i64 100, .int .i64 0, .int .i64 0], rfl, by omega, ((Blk.at_ _ _ _ (by simp)).alloc _).alloc _, Nat.le_refl _, by decide, rfl, rfl⟩⟩
theorem Reads.row2 {w W : World} {n j : Nat} {A : Option Addr} {l : List (Int × Int)} (h : Reads w w.heap.size 2 A n (l.flatMap r2h)) (hn : n = l.length) (hk : j < l.length) (hb : Below w.heap.size w W) :
    ∃ ad : Addr, A = some ad ∧ ad.block < w.heap.size ∧ ∀ W', Below w.heap.size W W' → W'.cell? (ad.add (j * 2)) = some (.int .i16 l[j].1) ∧ W'.cell? ⟨ad.block, (ad.add (j * 2)).off + 1, none⟩ = some (.int .i16 l[j].2) := by
  obtain ⟨ad, e, hlt, hc⟩ := h.2 (by omega)
  have ha : ∀ i, i ≠ 0 → (⟨ad.block, (ad.add (j * 2)).off + i, none⟩ : Addr) = ad.add (j * 2 + i) := by
    intro i hi
    rw [← add_of_add, show ∀ p : Addr, p.add i = ⟨p.block, p.off + i, none⟩ from fun p => by unfold Addr.add; rw [if_neg hi], block_of_add]
  refine ⟨ad, e, hlt, fun W' hb' => ?_⟩
  have hg : ∀ i, i < 2 → ∀ u, (r2h l[j])[i]? = some u → W'.cell? (ad.add (j * 2 + i)) = some u := fun i hi u hu => by
    rw [(hb.trans hb').cell (p := ad.add (j * 2 + i)) (by rw [block_of_add]; exact hlt)]
    exact hc _ u (by rw [flat_at r2h 2 (fun _ => rfl) l j i hk hi]; exact hu)
  refine ⟨hg 0 (by omega) _ rfl, ?_⟩
  rw [ha 1 (by omega)]; exact hg 1 (by omega) _ rfl
end Go.Proofs.Ytlebbkhhhmempaa
