/- assign.Kids of a flex. -/
import Derived.Test.YtbopeofglhkffaaAsb
import Derived.Test.YtbopeofglhkffaaItg
import Derived.Test.YtbopeofglhkffaaWs
set_option linter.unusedSimpArgs false
set_option linter.unusedVariables false
namespace Go.Proofs.Ytbopeofglhkffaa
open Go.RowKit
attribute [local go_sem] block_of_add
/-- The giver of a flex. -/
structure GwI (gg gS gG g1 g2 n : Nat) (c : Int) (ss : List Sty) (xs : List Cn) (p : Nat → Int × Int × Int) (b : Nat → Bool) (W : World) : Prop where
  g : Blk W gg 66 #[.int .i64 c, .slice (some ⟨gS, 0, none⟩) n n, .slice (some ⟨gG, 0, none⟩) n n, .slice (some ⟨g1, 0, none⟩) n n, .slice (some ⟨g2, 0, none⟩) n n]
  s : Blk W gS 52 (stC ss).toArray
  us : Blk W g1 27 (triC p n).toArray
  bo : Blk W g2 4 (booC b n).toArray
theorem GwI.bel {gg gS gG g1 g2 n : Nat} {c : Int} {ss : List Sty} {xs : List Cn} {p : Nat → Int × Int × Int} {b : Nat → Bool} {W W' : World} (h : GwI gg gS gG g1 g2 n c ss xs p b W) (hb : Below W.heap.size W W') : GwI gg gS gG g1 g2 n c ss xs p b W' := ⟨h.g.below hb h.g.lt, h.s.below hb h.s.lt, h.us.below hb h.us.lt, h.bo.below hb h.bo.lt⟩
theorem GwI.far {gg gS gG g1 g2 n gu : Nat} {c : Int} {ss : List Sty} {xs : List Cn} {p : Nat → Int × Int × Int} {b : Nat → Bool} {W : World} (h : GwI gg gS gG g1 g2 n c ss xs p b W) (hn : gg ≠ gu ∧ gS ≠ gu ∧ g1 ≠ gu ∧ g2 ≠ gu) (i : Nat) (u : Value) : GwI gg gS gG g1 g2 n c ss xs p b (W.setCell ⟨gu, i, none⟩ u) := ⟨h.g.far hn.1 u, h.s.far hn.2.1 u, h.us.far hn.2.2.1 u, h.bo.far hn.2.2.2 u⟩
set_option maxRecDepth 100000 in
set_option maxHeartbeats 2000000 in
theorem gitem_any (gg gS gG g1 g2 n k : Nat) (c : Int) (ss : List Sty) (xs : List Cn) (p : Nat → Int × Int × Int) (b : Nat → Bool) (w : World) (hi : GwI gg gS gG g1 g2 n c ss xs p b w) (hk : k < n) (hn : n ≤ 100000) :
    Calls Try.prog 23 #[.pointer (some ⟨gg, 0, none⟩), .int .i64 (k : Int)] w (AnsB (.tuple #[.agg #[.int .i64 (p k).1, .int .i64 (p k).2.1, .int .i64 (p k).2.2], .bool (b k)]) w) := by
  obtain ⟨x1, h1⟩ : ∃ x, x = (p k).1 := ⟨_, rfl⟩
  obtain ⟨x2, h2⟩ : ∃ x, x = (p k).2.1 := ⟨_, rfl⟩
  obtain ⟨x3, h3⟩ : ∃ x, x = (p k).2.2 := ⟨_, rfl⟩
  obtain ⟨y, h4⟩ : ∃ x, x = b k := ⟨_, rfl⟩
  rw [← h1, ← h2, ← h3, ← h4]
  have HGV : Hid (∀ W, GwI gg gS gG g1 g2 n c ss xs p b W → (W.cell? ⟨gg, 3, none⟩ = some (.slice (some ⟨g1, 0, none⟩) n n) ∧ W.cell? ⟨gg, 4, none⟩ = some (.slice (some ⟨g2, 0, none⟩) n n)) ∧ (W.cell? ⟨g1, k * 3, none⟩ = some (.int .i64 x1) ∧ W.cell? ⟨g1, k * 3 + 1, none⟩ = some (.int .i64 x2) ∧ W.cell? ⟨g1, k * 3 + 2, none⟩ = some (.int .i64 x3)) ∧ W.cell? ⟨g2, k, none⟩ = some (.bool y)) := Lib.hid (fun W h => by
    refine ⟨⟨h.g.get 3 rfl, h.g.get 4 rfl⟩, ⟨?_, ?_, ?_⟩, ?_⟩
    · rw [h1]; exact h.us.get _ (triC_g0 _ hk)
    · rw [h2]; exact h.us.get _ (triC_g1 _ hk)
    · rw [h3]; exact h.us.get _ (triC_g2 _ hk)
    · rw [h4]; exact h.bo.get _ (by rw [List.getElem?_toArray]; exact booC_at _ hk))
  have HI := Lib.hid hi
  clear h1 h2 h3 h4 hi
  have hk2 : (k : Int) < (n : Int) := by omega
  have hk3 : (0 : Int) ≤ (k : Int) := by omega
  go_enter Try.func23, Try.ntmps23
  go_upto_region 1 with (fail)
  obtain ⟨gu, hgu⟩ : ∃ gu, gu = w.heap.size := ⟨_, rfl⟩
  have HR1 : Hid (RuI gu 0 0 0 w (w.alloc (.cells #[.int .i64 0, .int .i64 0, .int .i64 0] 27)) ∧ GwI gg gS gG g1 g2 n c ss xs p b (w.alloc (.cells #[.int .i64 0, .int .i64 0, .int .i64 0] 27))) := Lib.hid
    ⟨⟨Blk.at_ _ _ _ hgu, balW (Below.refl _ _) _, by omega⟩, HI.out.bel (balW (Below.refl _ _) _)⟩
  obtain ⟨w1, hw1⟩ : ∃ w1, w1 = w.alloc (.cells #[.int .i64 0, .int .i64 0, .int .i64 0] 27) := ⟨_, rfl⟩
  rw [← hw1] at HR1 ⊢
  rw [← hgu]
  have HNE : Hid (gg ≠ gu ∧ gS ≠ gu ∧ g1 ≠ gu ∧ g2 ≠ gu) := Lib.hid (by have := HI.out.g.lt; have := HI.out.s.lt; have := HI.out.us.lt; have := HI.out.bo.lt; omega)
  clear hw1 hgu HI
  have E0 : RuI gu 0 0 0 w w1.drew ∧ GwI gg gS gG g1 g2 n c ss xs p b w1.drew := ⟨HR1.out.1.bel (Below.refl _ _).drew, HR1.out.2.bel (Below.refl _ _).drew⟩
  refine wp_region_S (fun b0 _ _ W => (if b0 then RuI gu x1 x2 x3 w W else RuI gu 0 0 0 w W) ∧ GwI gg gS gG g1 g2 n c ss xs p b W) 14 1000 100000 false true (by kernel_rfl) (by kernel_rfl) (by kernel_rfl) (E0) ?_
  refine wpAnyS_pre (j := 0) (by kernel_rfl) ?_
  iterate 7
    refine wpAnyS_nx (v := ?_) rfl (by kernel_rfl) (by kernel_rfl) (by kernel_rfl) (fun _ _ _ h => h) (by rfl) (gives_pureF (by rfl) (by kernel_rfl) ?_) ?_
    rotate_left
    · intro d' u' W' hS'
      have q := (show RuI gu 0 0 0 w W' ∧ GwI gg gS gG g1 g2 n c ss xs p b W' from hS')
      obtain ⟨⟨g3, g4⟩, ⟨u0, u1, u2⟩, b0⟩ := HGV.out W' q.2
      go_simp
      rfl
    try simp only [Act.put, List.setIfInBounds_toArray, List.set_cons_zero, List.set_cons_succ, List.getElem_toArray, List.getElem_cons_zero, List.getElem_cons_succ]
  refine wpAnyS_pre (j := 7) (by kernel_rfl) ?_
  iterate 7
    refine wpAnyS_nx (v := ?_) rfl (by kernel_rfl) (by kernel_rfl) (by kernel_rfl) (fun _ _ _ h => h) (by rfl) (gives_pure (by rfl) ?_) ?_
    rotate_left
    · intro b' d' u' W' hS'
      have q := hS'.2
      obtain ⟨⟨g3, g4⟩, ⟨u0, u1, u2⟩, b0⟩ := HGV.out W' q
      go_simp
      rfl
    try simp only [Act.put, List.setIfInBounds_toArray, List.set_cons_zero, List.set_cons_succ, List.getElem_toArray, List.getElem_cons_zero, List.getElem_cons_succ]
  refine wpAnyS_store (i := 14) (d := true) (fun W' => (((W'.setCell ⟨gu, 0, none⟩ (.int .i64 x1)).setCell ⟨gu, 1, none⟩ (.int .i64 x2)).setCell ⟨gu, 2, none⟩ (.int .i64 x3))) rfl (by kernel_rfl) (by rfl) (by rfl) (by kernel_rfl) rfl ?_ (fun W' hS' => ⟨(show RuI gu 0 0 0 w W' ∧ GwI gg gS gG g1 g2 n c ss xs p b W' from hS').1.fin x1 x2 x3, ((hS'.2.far HNE.out _ _).far HNE.out _ _).far HNE.out _ _⟩) ?_
  · intro W' hS'
    have q := (show RuI gu 0 0 0 w W' ∧ GwI gg gS gG g1 g2 n c ss xs p b W' from hS')
    obtain ⟨⟨g3, g4⟩, ⟨u0, u1, u2⟩, b0⟩ := HGV.out W' q.2
    have z0 := q.1.us.get 0 rfl
    have z1 := q.1.us.get 1 rfl
    have z2 := q.1.us.get 2 rfl
    have f0 := q.1.us.frozen 0
    have f1 := q.1.us.frozen 1
    have f2 := q.1.us.frozen 2
    go_simp
    try rfl
  try simp only [Act.put, List.setIfInBounds_toArray, List.set_cons_zero, List.set_cons_succ, List.getElem_toArray, List.getElem_cons_zero, List.getElem_cons_succ]
  refine wpAnyS_take (i := 15) (v := ?_) rfl (by kernel_rfl) (by kernel_rfl) (by kernel_rfl) (fun _ _ _ h => h) (by rfl) (gives_pure (by rfl) ?_) ?_
  rotate_left
  · intro b' d' u' W' hS'
    have q := hS'.2
    obtain ⟨⟨g3, g4⟩, ⟨u0, u1, u2⟩, b0⟩ := HGV.out W' q
    go_simp
    rfl
  try simp only [Act.put, List.setIfInBounds_toArray, List.set_cons_zero, List.set_cons_succ, List.getElem_toArray, List.getElem_cons_zero, List.getElem_cons_succ]
  refine wpAnyS_done (b := true) (d := true) (by kernel_rfl) (by kernel_rfl) (by kernel_rfl) rfl (fun wS hS => ?_) _
  have HS := Lib.hid hS
  clear hS E0
  go_wp2_with fail
  exact bodyPost_ret (res_used rfl _ _ gu x1 x2 x3 _ rfl rfl (show RuI gu x1 x2 x3 w wS from HS.out.1).us) rfl ⟨rfl, (show RuI gu x1 x2 x3 w wS from HS.out.1).b⟩
theorem Reads.of_blkF {w : World} {g n : Nat} {t : TypeId} {xs : List Value} {size : Nat} (h : Blk w g t xs.toArray) (hl : xs.length = n * size) : Reads w w.heap.size size (some ⟨g, 0, none⟩) n xs :=
  ⟨hl, fun _ => ⟨_, rfl, h.lt, fun j u hu => by
    have ha : (⟨g, 0, none⟩ : Addr).add j = ⟨g, j, none⟩ := by unfold Addr.add; split <;> simp_all
    rw [ha]; exact h.get j (by rw [List.getElem?_toArray]; exact hu)⟩⟩
/-! Copies of rows of one length. -/
theorem run_copy_same {P : Program} (w : World) (g gs : Nat) (dT sT ty elem : TypeId) (z : Nat) (hu : P.underlying dT = some (.slice elem)) (hsz : (P.info? elem).map (·.size) = some z) (n : Nat) (cur cs : List Value) (t t2 : TypeId)
    (hb : Blk w g t cur.toArray) (hs : Blk w gs t2 cs.toArray) (hc : cur.length = n * z) (hl : cs.length = n * z) (h1 : ∀ v ∈ cs, v.oneCell' = true) :
    ∃ v, (Builtin.copy_ #[dT, sT] ty #[.slice (some ⟨g, 0, none⟩) n n, .slice (some ⟨gs, 0, none⟩) n n]).run P w = .ok v (w.setRow g cs.toArray) := by
  have hrun := run_copy_rowz (P := P) w dT sT ty elem z g n n ⟨gs, 0, none⟩ n n cur.toArray t cs hu hsz hb (by rw [hl]; simp)
    (fun j v hv => by
      have ha : (⟨gs, 0, none⟩ : Addr).add j = ⟨gs, j, none⟩ := by unfold Addr.add; split <;> simp_all
      rw [ha]; exact hs.get j (by rw [List.getElem?_toArray]; exact hv))
    (by rw [List.size_toArray, hl, hc]; exact Nat.le_refl _) h1
  refine ⟨goInt (Nat.min n n), hrun.trans ?_⟩
  congr 2
  congr 1
  have e : cur.toArray.toList = cur := rfl
  rw [e, List.drop_of_length_le (by rw [hl, hc]; exact Nat.le_refl _), List.append_nil]
theorem triC_one (p : Nat → Int × Int × Int) (n : Nat) : ∀ v ∈ triC p n, v.oneCell' = true := fun v hv => by
  unfold triC at hv
  obtain ⟨q, _, hq⟩ := List.mem_flatMap.1 hv
  simp only [List.mem_cons, List.not_mem_nil, or_false] at hq
  rcases hq with rfl | rfl | rfl <;> rfl
theorem booC_one (p : Nat → Bool) (n : Nat) : ∀ v ∈ booC p n, v.oneCell' = true := fun v hv => by
  unfold booC at hv
  obtain ⟨q, _, rfl⟩ := List.mem_map.1 hv
  rfl
theorem GwI.sty {gg gS gG g1 g2 n k : Nat} {c : Int} {ss : List Sty} {xs : List Cn} {p : Nat → Int × Int × Int} {b : Nat → Bool} {W : World} (h : GwI gg gS gG g1 g2 n c ss xs p b W) (hk : k < ss.length) : ∀ j v, (styCells ss[k])[j]? = some v → W.cell? ((⟨gS, k * 43, none⟩ : Addr).add j) = some v := fun j v hv => by
  have hj := (List.getElem?_eq_some_iff.1 hv).1
  rw [sty_len] at hj
  have ha : (⟨gS, k * 43, none⟩ : Addr).add j = ⟨gS, k * 43 + j, none⟩ := by unfold Addr.add; split <;> simp_all
  rw [ha]; exact h.s.get _ (by rw [List.getElem?_toArray, stC_at ss k j hk hj]; exact hv)
structure AfI (gg gS gG g1 g2 n : Nat) (u1 : Int) (ss : List Sty) (xs : List Cn) (p : Nat → Int × Int × Int) (q : Nat → Bool) (w2 W : World) : Prop where
  gw : GwI gg gS gG g1 g2 n u1 ss xs p q W
  x : Blk W gG 45 (cnsCells xs).toArray
  b : Below w2.heap.size w2 W
  lo : w2.heap.size ≤ g1 ∧ w2.heap.size ≤ g2
  ne : g1 ≠ g2 ∧ (gg ≠ g1 ∧ gS ≠ g1 ∧ gG ≠ g1) ∧ gg ≠ g2 ∧ gS ≠ g2 ∧ gG ≠ g2
section
variable {gg gS gG g1 g2 n gu gb : Nat} {u1 : Int} {ss : List Sty} {xs : List Cn} {p p2 p3 : Nat → Int × Int × Int} {q q2 q3 : Nat → Bool} {w2 W W' : World}
theorem AfI.bel (h : AfI gg gS gG g1 g2 n u1 ss xs p q w2 W) (hb : Below W.heap.size W W') : AfI gg gS gG g1 g2 n u1 ss xs p q w2 W' := ⟨h.gw.bel hb, h.x.below hb h.x.lt, h.b.trans (hb.mono h.b.size), h.lo, h.ne⟩
theorem AfI.row1 (h : AfI gg gS gG g1 g2 n u1 ss xs p q w2 W) : AfI gg gS gG g1 g2 n u1 ss xs p2 q w2 (W.setRow g1 (triC p2 n).toArray) :=
  ⟨⟨(setRow_other W g1 gg _ h.ne.2.1.1).trans h.gw.g, (setRow_other W g1 gS _ h.ne.2.1.2.1).trans h.gw.s, setRow_heap W g1 _ _ _ _ h.gw.us, (setRow_other W g1 g2 _ (fun e => h.ne.1 e.symm)).trans h.gw.bo⟩, (setRow_other W g1 gG _ h.ne.2.1.2.2).trans h.x, below_setRow h.b h.lo.1 _, h.lo, h.ne⟩
theorem AfI.row2 (h : AfI gg gS gG g1 g2 n u1 ss xs p q w2 W) : AfI gg gS gG g1 g2 n u1 ss xs p q2 w2 (W.setRow g2 (booC q2 n).toArray) :=
  ⟨⟨(setRow_other W g2 gg _ h.ne.2.2.1).trans h.gw.g, (setRow_other W g2 gS _ h.ne.2.2.2.1).trans h.gw.s, (setRow_other W g2 g1 _ h.ne.1).trans h.gw.us, setRow_heap W g2 _ _ _ _ h.gw.bo⟩, (setRow_other W g2 gG _ h.ne.2.2.2.2).trans h.x, below_setRow h.b h.lo.2 _, h.lo, h.ne⟩
/-- And what is given. -/
structure AoF (gg gS gG g1 g2 n gu gb : Nat) (u1 : Int) (ss : List Sty) (xs : List Cn) (p : Nat → Int × Int × Int) (q : Nat → Bool) (p2 : Nat → Int × Int × Int) (q2 : Nat → Bool) (w2 W : World) : Prop where
  a : AfI gg gS gG g1 g2 n u1 ss xs p q w2 W
  us : Blk W gu 27 (triC p2 n).toArray
  bo : Blk W gb 4 (booC q2 n).toArray
  ne : (gg ≠ gu ∧ gS ≠ gu ∧ g1 ≠ gu ∧ g2 ≠ gu) ∧ (gg ≠ gb ∧ gS ≠ gb ∧ g1 ≠ gb ∧ g2 ≠ gb) ∧ (gG ≠ gu ∧ gG ≠ gb) ∧ gu ≠ gb
  lo : w2.heap.size ≤ gu ∧ w2.heap.size ≤ gb
theorem AoF.bel (h : AoF gg gS gG g1 g2 n gu gb u1 ss xs p q p2 q2 w2 W) (hb : Below W.heap.size W W') : AoF gg gS gG g1 g2 n gu gb u1 ss xs p q p2 q2 w2 W' := ⟨h.a.bel hb, h.us.below hb h.us.lt, h.bo.below hb h.bo.lt, h.ne, h.lo⟩
theorem AoF.same (h : AoF gg gS gG g1 g2 n gu gb u1 ss xs p q p2 q2 w2 W) (h1 : ∀ k, k < n → p3 k = p2 k) (h2 : ∀ k, k < n → q3 k = q2 k) : AoF gg gS gG g1 g2 n gu gb u1 ss xs p q p3 q3 w2 W :=
  ⟨h.a, by rw [← triC_cg h1]; exact h.us, by rw [← booC_cg h2]; exact h.bo, h.ne, h.lo⟩
theorem AoF.put (h : AoF gg gS gG g1 g2 n gu gb u1 ss xs p q p2 q2 w2 W) {k : Nat} (hk : k < n) (x y z : Int) (v : Bool) : AoF gg gS gG g1 g2 n gu gb u1 ss xs p q (updT p2 k (x, y, z)) (fun j => if j = k then v else q2 j) w2
    ((((W.setCell ⟨gu, k * 3, none⟩ (.int .i64 x)).setCell ⟨gu, k * 3 + 1, none⟩ (.int .i64 y)).setCell ⟨gu, k * 3 + 2, none⟩ (.int .i64 z)).setCell ⟨gb, k, none⟩ (.bool v)) := by
  obtain ⟨e, f, ⟨x1, x2⟩, g1'⟩ := h.ne
  refine ⟨⟨((((h.a.gw.far e _ _).far e _ _).far e _ _).far f _ _), ((((h.a.x.far x1 _).far x1 _).far x1 _).far x2 _), ((((h.a.b.setCell (p := ⟨gu, k * 3, none⟩) h.lo.1 _).setCell (p := ⟨gu, k * 3 + 1, none⟩) h.lo.1 _).setCell (p := ⟨gu, k * 3 + 2, none⟩) h.lo.1 _).setCell (p := ⟨gb, k, none⟩) h.lo.2 _), h.a.lo, h.a.ne⟩, ?_, ?_, h.ne, h.lo⟩
  · have h1 := ((h.us.set_ (k * 3) (.int .i64 x)).set_ (k * 3 + 1) (.int .i64 y)).set_ (k * 3 + 2) (.int .i64 z)
    rw [triC_set p2 n k x y z hk] at h1
    exact h1.far g1' _
  · have h1 := (((h.bo.far (fun e => g1' e.symm) (.int .i64 x) (p := ⟨gu, k * 3, none⟩)).far (fun e => g1' e.symm) (.int .i64 y) (p := ⟨gu, k * 3 + 1, none⟩)).far (fun e => g1' e.symm) (.int .i64 z) (p := ⟨gu, k * 3 + 2, none⟩)).set_ k (.bool v)
    rw [booC_set q2 n k v hk] at h1
    exact h1
end
theorem ssF_map (l : List Nd) (ks : List Int) : ssF l ks ks.length ks.length = ks.map (sD l) := by
  apply List.ext_getElem
  · simp [ssF]
  · intro i h1 h2
    have hi : i < ks.length := by rw [ssF_len] at h1; exact h1
    rw [ssF_at, List.getElem_map]
    unfold ksAt; rw [List.getElem?_eq_getElem hi]; rfl
/-- What assign.Kids answers of a flex. -/
structure KidsF (l : List Nd) (s : Sty) (ks : List Int) (got : List Cn) (u1 : Int) (w w' : World) (e : Ending) : Prop where
  ex : ∃ gu gb, e = .returned (.tuple #[.slice (some ⟨gu, 0, none⟩) ks.length ks.length, .slice (some ⟨gb, 0, none⟩) ks.length ks.length]) ∧ Blk w' gu 27 (triC (fun k => usedT (mainsM s u1 (ks.map (sD l)) (allF got ks.length) k)) ks.length).toArray ∧
    Blk w' gb 4 (booC (fun k => usedB (mainsM s u1 (ks.map (sD l)) (allF got ks.length) k)) ks.length).toArray ∧ w.heap.size ≤ gu ∧ w.heap.size ≤ gb
  b : Below w.heap.size w w'
set_option maxRecDepth 100000 in
set_option maxHeartbeats 8000000 in
theorem fkids_any (l : List Nd) (i : Nat) (hi : i < l.length) (hln : l.length ≤ 65536) (A A2 Ak Ag : Option Addr) (c m c2 ck cg : Nat) (view u1 u2 u3 : Int) (ks : List Int) (got : List Cn) (w : World)
    (hr : Reads w w.heap.size 44 A l.length (ndsCells l)) (huv : ∀ x ∈ l, ∃ Au nu cu, x.s.uv = .slice Au nu cu) (hbk : l[i].s.kind = 2) (hk : Reads w w.heap.size 1 Ak ks.length (i64s ks)) (hkn : ∀ k ∈ ks, 0 ≤ k ∧ k < (l.length : Int)) (hkl : ks.length ≤ 1000)
    (hg : Reads w w.heap.size 4 Ag got.length (cnsCells got)) (hc : CB u1) (hs : ∀ k ∈ ks, (sD l k).kind ≠ 3 ∧ StX (sD l k)) (hx : ∀ x ∈ got, (0 ≤ x.least ∧ x.least ≤ 1099511627776) ∧ 0 ≤ x.greatest ∧ x.greatest ≤ 1099511627776) :
    Calls Try.prog 11 #[.agg #[.slice A l.length c, .slice A2 m c2, .int .i64 view], .int .i64 (i : Int), .agg #[.int .i64 u1, .int .i64 u2, .int .i64 u3], .slice Ak ks.length ck, .slice Ag got.length cg] w fun e w' => KidsF l (l[i].s) ks got u1 w w' e := by
  have HR := Lib.hid hr
  have HUV := Lib.hid huv
  have HK := Lib.hid hk
  have HG := Lib.hid hg
  have HKN := Lib.hid hkn
  have HS := Lib.hid hs
  have HX : Hid (∀ q, (0 ≤ (gAt got q).least ∧ (gAt got q).least ≤ 1099511627776) ∧ 0 ≤ (gAt got q).greatest ∧ (gAt got q).greatest ≤ 1099511627776) := Lib.hid (fun q => by
    unfold gAt
    by_cases h : q < got.length
    · rw [List.getElem?_eq_getElem h]; exact hx _ (List.getElem_mem h)
    · rw [List.getElem?_eq_none (by omega)]; simp)
  have HC := Lib.hid hc
  obtain ⟨si, hsi⟩ : ∃ si, si = l[i].s := ⟨_, rfl⟩
  have HSI := Lib.hid hsi
  rw [← hsi] at hbk ⊢
  clear hsi
  have hmk := fun W => make_stys ks.length (by omega) W
  have hmc := fun W => make_cns ks.length (by omega) W
  have hmu := fun W => make_useds ks.length (by omega) W
  have hmb := fun W => make_bools ks.length (by omega) W
  have HKD : Hid (∀ W, Reads W w.heap.size 44 A l.length (ndsCells l) → ∃ ad : Addr, A = some ad ∧ ad.block < w.heap.size ∧ W.cell? ⟨ad.block, (ad.add (i * 44)).off + 1, none⟩ = some (.int .u8 2)) := Lib.hid (fun W h => by
    obtain ⟨ad, rfl, hnd⟩ := h.nd rfl hi
    have hz := hnd.lt
    rw [block_of_add] at hz
    refine ⟨ad, rfl, hz, ?_⟩
    rw [← hbk, ← block_of_add ad (i * 44), HSI.out]; exact hnd.cs 0 _ rfl)
  clear hr huv hk hg hkn hs hx hc hbk
  obtain ⟨n, hne⟩ : ∃ n, n = ks.length := ⟨_, rfl⟩
  rw [← hne] at HK hkl hmk hmc hmu hmb ⊢
  have HN := Lib.hid hne
  clear hne
  obtain ⟨ll, hle⟩ : ∃ ll, ll = l.length := ⟨_, rfl⟩
  rw [← hle] at HR HKN hi hln HKD ⊢
  have HLL := Lib.hid hle
  clear hle
  obtain ⟨mg, hme⟩ : ∃ mg, mg = got.length := ⟨_, rfl⟩
  rw [← hme] at HG ⊢
  have HMG := Lib.hid hme
  clear hme
  have hi2 : (i : Int) < (ll : Int) := by omega
  have hi3 : (0 : Int) ≤ (i : Int) := by omega
  have d1 : decide ((i : Int) < 0) = false := decide_eq_false (by omega)
  have d2 : decide ((ll : Int) ≤ (i : Int)) = false := decide_eq_false (by omega)
  have d2' : decide (ll ≤ i) = false := decide_eq_false (by omega)
  go_enter Try.func11, Try.ntmps11
  go_upto_region 1 with (fail)
  obtain ⟨gT, hgT⟩ : ∃ gT, gT = w.heap.size := ⟨_, rfl⟩
  obtain ⟨gU, hgU⟩ : ∃ gU, gU = w.heap.size + 1 := ⟨_, rfl⟩
  have H2 : Hid (Blk ((w.alloc (.cells #[.slice A ll c, .slice A2 m c2, .int .i64 view] 25)).alloc (.cells #[.int .i64 u1, .int .i64 u2, .int .i64 u3] 27)) gT 25 #[.slice A ll c, .slice A2 m c2, .int .i64 view] ∧ Blk ((w.alloc (.cells #[.slice A ll c, .slice A2 m c2, .int .i64 view] 25)).alloc (.cells #[.int .i64 u1, .int .i64 u2, .int .i64 u3] 27)) gU 27 #[.int .i64 u1, .int .i64 u2, .int .i64 u3] ∧ Below w.heap.size w ((w.alloc (.cells #[.slice A ll c, .slice A2 m c2, .int .i64 view] 25)).alloc (.cells #[.int .i64 u1, .int .i64 u2, .int .i64 u3] 27))) := Lib.hid
    ⟨(Blk.at_ _ _ _ hgT).alloc _, Blk.at_ _ _ _ (by rw [hgU]; simp), balW (balW (Below.refl _ _) _) _⟩
  obtain ⟨w2, hw2⟩ : ∃ w2, w2 = ((w.alloc (.cells #[.slice A ll c, .slice A2 m c2, .int .i64 view] 25)).alloc (.cells #[.int .i64 u1, .int .i64 u2, .int .i64 u3] 27)) := ⟨_, rfl⟩
  rw [← hw2] at H2 ⊢
  first | rw [← hgU] | skip
  rw [← hgT]
  try rw [show gT + 1 = gU by omega]
  clear hw2 hgT hgU
  have HTC : Hid (∀ W, Below w2.heap.size w2 W → W.cell? ⟨gT, 0, none⟩ = some (.slice A ll c) ∧ W.cell? ⟨gU, 0, none⟩ = some (.int .i64 u1)) := Lib.hid (fun W h => ⟨(H2.out.1.below h H2.out.1.lt).get 0 rfl, (H2.out.2.1.below h H2.out.2.1.lt).get 0 rfl⟩)
  have HRD : Hid (∀ W, Below w2.heap.size w2 W → Reads W w.heap.size 44 A ll (ndsCells l) ∧ Reads W w.heap.size 1 Ak n (i64s ks) ∧ Reads W w.heap.size 4 Ag mg (cnsCells got)) := Lib.hid (fun W h => by
    have hb := H2.out.2.2.trans (h.mono H2.out.2.2.size)
    exact ⟨HR.out.below hb, HK.out.below hb, HG.out.below hb⟩)
  have y0 := (HTC.out w2 (Below.refl _ _)).1
  have y1 := (HTC.out w2 (Below.refl _ _)).2
  go_upto_region 3 with (fail)
  clear d1 d2 d2'
  go_cut [12] (fun sx wx => ∃ gg gS gG, sx = .pointer (some ⟨gg, 0, none⟩) ∧ Hid (AsI gT gU gg gS gG n m c2 ll A A2 view u1 u2 u3 (ssF l ks n 0) (List.replicate n cn0) w2 wx))
  case first =>
    have E0 : Below w2.heap.size w2 w2.drew := (Below.refl _ _).drew
    refine wp_region_held_drew (S := fun W => Below w2.heap.size w2 W) (by kernel_rfl) E0 (fun hS => ?_)
    refine wpAnyH_pre (j := 0) (by kernel_rfl) ?_
    iterate 4
      refine wpAnyH_nx (v := ?_) rfl (by kernel_rfl) (by kernel_rfl) (by kernel_rfl) (fun _ _ _ h => h) (Or.inl ⟨by rfl, ?_⟩) hS ?_
      rotate_left
      · intro W' hS'
        have y1 := (HTC.out W' hS').2; go_simp
        rfl
      try simp only [Act.put, List.setIfInBounds_toArray, List.set_cons_zero, List.set_cons_succ, List.getElem_toArray, List.getElem_cons_zero, List.getElem_cons_succ]
    refine wpAnyH_take (i := 5) (v := ?_) rfl (by kernel_rfl) (by kernel_rfl) (by kernel_rfl) (fun _ _ _ h => h) (Or.inl ⟨by rfl, ?_⟩) hS ?_
    rotate_left
    · intro W' hS'
      have y1 := (HTC.out W' hS').2; go_simp
      rfl
    try simp only [Act.put, List.setIfInBounds_toArray, List.set_cons_zero, List.set_cons_succ, List.getElem_toArray, List.getElem_cons_zero, List.getElem_cons_succ]
    refine wpAnyH_take (i := 6) (v := ?_) rfl (by kernel_rfl) (by kernel_rfl) (by kernel_rfl) (fun _ _ _ h => h) (Or.inl ⟨by rfl, ?_⟩) hS ?_
    rotate_left
    · intro W' hS'
      have y1 := (HTC.out W' hS').2; go_simp
      rfl
    try simp only [Act.put, List.setIfInBounds_toArray, List.set_cons_zero, List.set_cons_succ, List.getElem_toArray, List.getElem_cons_zero, List.getElem_cons_succ]
    refine wpAnyH_ready (rs := [4, 7]) (by kernel_rfl) (by simp) (AllReadyH.cons rfl (fun K hK => ?_) (AllReadyH.cons rfl (fun K hK => ?_) AllReadyH.nil))
    · go_simp
      refine hK.out _ _ (hS.alloc hS.size _) (fun hS => ?_)
      try simp only [Act.put, List.setIfInBounds_toArray, List.set_cons_zero, List.set_cons_succ, List.getElem_toArray, List.getElem_cons_zero, List.getElem_cons_succ]
      clear hK
      refine wpAnyH_ready (rs := [7]) (by kernel_rfl) (by simp) (AllReadyH.cons rfl (fun K hK => ?_) AllReadyH.nil)
      go_simp
      refine hK.out _ _ (hS.alloc hS.size _) (fun hS => ?_)
      try simp only [Act.put, List.setIfInBounds_toArray, List.set_cons_zero, List.set_cons_succ, List.getElem_toArray, List.getElem_cons_zero, List.getElem_cons_succ]
      clear hK
      refine wpAnyH_ready (rs := [8]) (by kernel_rfl) (by simp) (AllReadyH.cons rfl (fun K hK => ?_) AllReadyH.nil)
      go_simp
      refine hK.out _ _ hS (fun hS => ?_)
      try simp only [Act.put, List.setIfInBounds_toArray, List.set_cons_zero, List.set_cons_succ, List.getElem_toArray, List.getElem_cons_zero, List.getElem_cons_succ]
      clear hK
      refine wpAnyH_ready (rs := [9]) (by kernel_rfl) (by simp) (AllReadyH.cons rfl (fun K hK => ?_) AllReadyH.nil)
      go_simp
      refine hK.out _ _ (hS.alloc hS.size _) (fun hS => ?_)
      try simp only [Act.put, List.setIfInBounds_toArray, List.set_cons_zero, List.set_cons_succ, List.getElem_toArray, List.getElem_cons_zero, List.getElem_cons_succ]
      clear hK
      refine wpAnyH_take (i := 10) (v := ?_) rfl (by kernel_rfl) (by kernel_rfl) (by kernel_rfl) (fun _ _ _ h => h) (Or.inl ⟨by rfl, ?_⟩) hS ?_
      rotate_left
      · intro W' hS'
        go_simp
        rfl
      try simp only [Act.put, List.setIfInBounds_toArray, List.set_cons_zero, List.set_cons_succ, List.getElem_toArray, List.getElem_cons_zero, List.getElem_cons_succ]
      refine wpAnyH_done (by kernel_rfl) ?_ _
      go_wp2_with fail
      go_meet
      exact ⟨_, _, _, rfl, Lib.hid ⟨⟨(by repeat (with_reducible first | exact Blk.new _ _ _ | (refine Blk.at_ _ _ _ ?_; simp; done) | apply Blk.drew | apply Blk.alloc)), by rw [ssF_zero]; exact (by repeat (with_reducible first | exact Blk.new _ _ _ | (refine Blk.at_ _ _ _ ?_; simp; done) | apply Blk.drew | apply Blk.alloc)), (by repeat (with_reducible first | exact Blk.new _ _ _ | (refine Blk.at_ _ _ _ ?_; simp; done) | apply Blk.drew | apply Blk.alloc))⟩, hS, ⟨by omega, by omega, by omega⟩, ⟨by omega, by omega, by omega⟩⟩⟩
    · go_simp
      refine hK.out _ _ (hS.alloc hS.size _) (fun hS => ?_)
      try simp only [Act.put, List.setIfInBounds_toArray, List.set_cons_zero, List.set_cons_succ, List.getElem_toArray, List.getElem_cons_zero, List.getElem_cons_succ]
      clear hK
      refine wpAnyH_ready (rs := [4]) (by kernel_rfl) (by simp) (AllReadyH.cons rfl (fun K hK => ?_) AllReadyH.nil)
      go_simp
      refine hK.out _ _ (hS.alloc hS.size _) (fun hS => ?_)
      try simp only [Act.put, List.setIfInBounds_toArray, List.set_cons_zero, List.set_cons_succ, List.getElem_toArray, List.getElem_cons_zero, List.getElem_cons_succ]
      clear hK
      refine wpAnyH_ready (rs := [8]) (by kernel_rfl) (by simp) (AllReadyH.cons rfl (fun K hK => ?_) AllReadyH.nil)
      go_simp
      refine hK.out _ _ hS (fun hS => ?_)
      try simp only [Act.put, List.setIfInBounds_toArray, List.set_cons_zero, List.set_cons_succ, List.getElem_toArray, List.getElem_cons_zero, List.getElem_cons_succ]
      clear hK
      refine wpAnyH_ready (rs := [9]) (by kernel_rfl) (by simp) (AllReadyH.cons rfl (fun K hK => ?_) AllReadyH.nil)
      go_simp
      refine hK.out _ _ (hS.alloc hS.size _) (fun hS => ?_)
      try simp only [Act.put, List.setIfInBounds_toArray, List.set_cons_zero, List.set_cons_succ, List.getElem_toArray, List.getElem_cons_zero, List.getElem_cons_succ]
      clear hK
      refine wpAnyH_take (i := 10) (v := ?_) rfl (by kernel_rfl) (by kernel_rfl) (by kernel_rfl) (fun _ _ _ h => h) (Or.inl ⟨by rfl, ?_⟩) hS ?_
      rotate_left
      · intro W' hS'
        go_simp
        rfl
      try simp only [Act.put, List.setIfInBounds_toArray, List.set_cons_zero, List.set_cons_succ, List.getElem_toArray, List.getElem_cons_zero, List.getElem_cons_succ]
      refine wpAnyH_done (by kernel_rfl) ?_ _
      go_wp2_with fail
      go_meet
      exact ⟨_, _, _, rfl, Lib.hid ⟨⟨(by repeat (with_reducible first | exact Blk.new _ _ _ | (refine Blk.at_ _ _ _ ?_; simp; done) | apply Blk.drew | apply Blk.alloc)), by rw [ssF_zero]; exact (by repeat (with_reducible first | exact Blk.new _ _ _ | (refine Blk.at_ _ _ _ ?_; simp; done) | apply Blk.drew | apply Blk.alloc)), (by repeat (with_reducible first | exact Blk.new _ _ _ | (refine Blk.at_ _ _ _ ?_; simp; done) | apply Blk.drew | apply Blk.alloc))⟩, hS, ⟨by omega, by omega, by omega⟩, ⟨by omega, by omega, by omega⟩⟩⟩
  case rest =>
  obtain ⟨gg, gS, gG, rfl, HJ0⟩ := hcut
  obtain ⟨w3, rfl⟩ : ∃ w3, w3 = wc := ⟨_, rfl⟩
  clear y0 y1 hmk hmc
  as_aux_lemma =>
  obtain ⟨v45, hcp⟩ := run_copy_cnsG (P := Try.prog) w3 gG 28 28 3 45 el_cn.ht (by kernel_rfl) n cg got 45 HJ0.out.gv.x (by rw [← HMG.out]; exact (HRD.out w3 HJ0.out.b).2.2)
  rw [← HMG.out] at hcp
  have z2 : w3.cell? ⟨gg, 2, none⟩ = some (.slice (some ⟨gG, 0, none⟩) n n) := HJ0.out.gv.g.get 2 rfl
  have HJ1 : Hid (AsI gT gU gg gS gG n m c2 ll A A2 view u1 u2 u3 (ssF l ks n 0) (allF got n) w2 (w3.setRow gG (cnsCells (allF got n)).toArray)) := Lib.hid HJ0.out.row
  go_upto_region 5 with (fail)
  obtain ⟨w4, hw4⟩ : ∃ w4, w4 = w3.setRow gG (cnsCells (allF got n)).toArray := ⟨_, rfl⟩
  rw [← hw4] at HJ1 ⊢
  clear hw4 hcp z2 HJ0
  go_wp2_with fail
  go_loopw [48] (fun kv wr => ∃ j : Nat, j ≤ n ∧ kv = .int .i64 j ∧ Hid (AsI gT gU gg gS gG n m c2 ll A A2 view u1 u2 u3 (ssF l ks n j) (allF got n) w2 wr)) (fun kv _ => n - (intOf kv).toNat)
  case atStart => exact ⟨0, by omega, rfl, HJ1⟩
  case round =>
    obtain ⟨j, hj, rfl, HJ⟩ := hrel
    clear HJ1
    by_cases hlt : j < n
    · as_aux_lemma =>
      have q0 : decide ((j : Int) < (n : Int)) = true := decide_eq_true (by omega)
      have q0' : decide (j < n) = true := decide_eq_true hlt
      have hii : (j : Int) < (n : Int) := by omega
      have hi0 : (0 : Int) ≤ (j : Int) := by omega
      have wi : IntKind.i64.wrap ((j : Int) + 1) = (j : Int) + 1 := IntWalk.i64_in _ ⟨by omega, by omega⟩
      have hjl : j < ks.length := by rw [← HN.out]; exact hlt
      obtain ⟨k, hk⟩ : ∃ k, k = ks[j] := ⟨_, rfl⟩
      have hkb := HKN.out k (by rw [hk]; exact List.getElem_mem hjl)
      obtain ⟨ak, uk, rfl, _, hxk, hck⟩ := (HRD.out wr HJ.out.b).2.1.at_ hlt
      have ek : uk = .int .i64 k := by rw [hk]; simpa [i64s, hjl] using hxk.symm
      subst ek
      have HKA : Hid (ksAt ks j = k) := Lib.hid (by unfold ksAt; rw [List.getElem?_eq_getElem hjl, hk]; rfl)
      obtain ⟨kk, hkk⟩ : ∃ kk : Nat, k = (kk : Int) := ⟨k.toNat, by omega⟩
      clear hxk hk
      subst hkk
      have hkn : kk < ll := by omega
      have hkn2 : (kk : Int) < (ll : Int) := by omega
      have hkn3 : (0 : Int) ≤ (kk : Int) := by omega
      have d3 : decide ((0 : Int) ≤ (kk : Int)) = true := decide_eq_true (by omega)
      have d4 : decide ((kk : Int) < (ll : Int)) = true := decide_eq_true (by omega)
      have d4' : decide (kk < ll) = true := decide_eq_true hkn
      have hkl2 : kk < l.length := by rw [← HLL.out]; exact hkn
      obtain ⟨s, hse⟩ : ∃ s, s = l[kk].s := ⟨_, rfl⟩
      have HSD : Hid (sD l (ksAt ks j) = s) := Lib.hid (by rw [HKA.out, hse]; unfold sD; rw [Int.toNat_natCast, List.getElem?_eq_getElem hkl2]; rfl)
      have HO : Hid ((styCells s).toArray.all (·.oneCell') = true) := Lib.hid (by
        obtain ⟨Au, nu, cu, e⟩ := HUV.out _ (List.getElem_mem hkl2)
        rw [hse]; exact Sty.one _ e)
      obtain ⟨ad, hA, _⟩ := (HRD.out wr HJ.out.b).1.nd HLL.out hkl2
      subst hA
      have HLD : Hid (∀ W, Below w2.heap.size w2 W → ∀ q v, (styCells s)[q]? = some v → W.cell? ((⟨ad.block, (ad.add (kk * 44)).off + 1, none⟩ : Addr).add q) = some v) := Lib.hid (fun W h q v hv => by
        obtain ⟨ad2, e, hnd⟩ := (HRD.out W h).1.nd HLL.out hkl2
        injection e with e
        subst e
        have hx := hnd.cs q v (by rw [← hse]; exact hv)
        rw [block_of_add] at hx
        have ha : (⟨ad.block, (ad.add (kk * 44)).off + 1, none⟩ : Addr).add q = ⟨ad.block, (ad.add (kk * 44)).off + (1 + q), none⟩ := by
          unfold Addr.add
          split
          · simp_all
          · simp; omega
        rw [ha]; exact hx)
      clear hse
      have y0 := (HTC.out wr HJ.out.b).1
      go_upto_region 9 with (fail)
      clear y0 hck d3 d4 d4'
      have E0 := HJ.out.bel (Below.refl _ _).drew
      refine wp_region_S (fun b _ _ W => if b then AsI gT gU gg gS gG n m c2 ll (some ad) A2 view u1 u2 u3 (ssF l ks n (j + 1)) (allF got n) w2 W else AsI gT gU gg gS gG n m c2 ll (some ad) A2 view u1 u2 u3 (ssF l ks n j) (allF got n) w2 W) 12 1000 100000 false true (by kernel_rfl) (by kernel_rfl) (by kernel_rfl) (E0) ?_
      refine wpAnyS_pre (j := 0) (by kernel_rfl) ?_
      iterate 10
        refine wpAnyS_nx (v := ?_) rfl (by kernel_rfl) (by kernel_rfl) (by kernel_rfl) (fun _ _ _ h => h) (by rfl) (gives_pureF (by rfl) (by kernel_rfl) ?_) ?_
        rotate_left
        · intro d' u' W' hS'
          have q := (show AsI gT gU gg gS gG n m c2 ll (some ad) A2 view u1 u2 u3 (ssF l ks n j) (allF got n) w2 W' from hS')
          have y0 := (HTC.out W' q.b).1
          have z1 : W'.cell? ⟨gg, 1, none⟩ = some (.slice (some ⟨gS, 0, none⟩) n n) := q.gv.g.get 1 rfl
          go_simp
          rfl
        try simp only [Act.put, List.setIfInBounds_toArray, List.set_cons_zero, List.set_cons_succ, List.getElem_toArray, List.getElem_cons_zero, List.getElem_cons_succ]
      refine wpAnyS_take (i := 10) (v := .agg (styCells s).toArray) rfl (by kernel_rfl) (by kernel_rfl) (by kernel_rfl) (fun _ _ _ h => h) (by rfl) (gives_yields ?_) ?_
      · refine yieldsIf_load_at (by rfl) 52 (.tmp 71) rfl (⟨ad.block, (ad.add (kk * 44)).off + 1, none⟩) rfl (styCells s) _ ?_ Try.underlying52 rfl (by kernel_rfl)
        rintro W' ⟨b', d', u', hS'⟩
        exact by cases b' <;> exact HLD.out W' hS'.b
      try simp only [Act.put, List.setIfInBounds_toArray, List.set_cons_zero, List.set_cons_succ, List.getElem_toArray, List.getElem_cons_zero, List.getElem_cons_succ]
      refine wpAnyS_take (i := 11) (v := ?_) rfl (by kernel_rfl) (by kernel_rfl) (by kernel_rfl) (fun _ _ _ h => h) (by rfl) (gives_pureF (by rfl) (by kernel_rfl) ?_) ?_
      rotate_left
      · intro d' u' W' hS'
        have q := (show AsI gT gU gg gS gG n m c2 ll (some ad) A2 view u1 u2 u3 (ssF l ks n j) (allF got n) w2 W' from hS')
        have y0 := (HTC.out W' q.b).1
        have z1 : W'.cell? ⟨gg, 1, none⟩ = some (.slice (some ⟨gS, 0, none⟩) n n) := q.gv.g.get 1 rfl
        go_simp
        rfl
      try simp only [Act.put, List.setIfInBounds_toArray, List.set_cons_zero, List.set_cons_succ, List.getElem_toArray, List.getElem_cons_zero, List.getElem_cons_succ]
      refine wpAnyS_store (i := 12) (d := true) (fun W' => W'.setCells gS (j * 43) (styCells s)) rfl (by kernel_rfl) (by rfl) (by rfl) (by kernel_rfl) rfl ?_ (fun W' hS' => by have h := (show AsI gT gU gg gS gG n m c2 ll (some ad) A2 view u1 u2 u3 (ssF l ks n j) (allF got n) w2 W' from hS').put (k := j) (s := s) (by rw [ssF_len]; exact hlt); rw [← HSD.out, ssF_set, HSD.out] at h; exact h) ?_
      · intro W' hS'
        have q := (show AsI gT gU gg gS gG n m c2 ll (some ad) A2 view u1 u2 u3 (ssF l ks n j) (allF got n) w2 W' from hS')
        exact exec_store_mid 52 (.tmp 73) (.tmp 72) rfl gS (j * 43) (styCells s) rfl rfl W' (there_blkO q.gv.s (by rw [List.size_toArray, sty_len, stC_len, ssF_len]; omega)) (by kernel_rfl) HO.out
      try simp only [Act.put, List.setIfInBounds_toArray, List.set_cons_zero, List.set_cons_succ, List.getElem_toArray, List.getElem_cons_zero, List.getElem_cons_succ]
      refine wpAnyS_done (b := true) (d := true) (by kernel_rfl) (by kernel_rfl) (by kernel_rfl) rfl (fun wS hS => ?_) _
      have HS9 := Lib.hid hS
      clear hS E0
      go_wp2_with fail
      go_roundw
      case rel => exact ⟨j + 1, by omega, by go_num, HS9⟩
      case measure => simp [intOf] <;> omega
    · as_aux_lemma =>
      have q0 : decide ((j : Int) < (n : Int)) = false := decide_eq_false (by omega)
      have q0' : decide (j < n) = false := decide_eq_false hlt
      have hjn : j = n := by omega
      rw [hjn] at HJ
      rw [hjn]
      clear hjn hlt hj
      have q1 : decide ((n : Int) < (n : Int)) = false := decide_eq_false (by omega)
      obtain ⟨ad, rfl, hadb, k1⟩ := HKD.out wr (HRD.out wr HJ.out.b).1
      have y0 := (HTC.out wr HJ.out.b).1
      have e12 : ((2 : Int) == 2) = true := by decide
      go_upto_region 12 with (fail)
      clear k1 q0 q0' q1
      have z3 : wr.cell? ⟨gg, 3, none⟩ = some (.slice none 0 0) := HJ.out.gv.g.get 3 rfl
      have z4 : wr.cell? ⟨gg, 4, none⟩ = some (.slice none 0 0) := HJ.out.gv.g.get 4 rfl
      have z3f := HJ.out.gv.g.frozen 3
      have z4f := HJ.out.gv.g.frozen 4
      have hgl := HJ.out.gv.g.lt
      have hgl1 : gg < wr.heap.size + 1 := by omega
      go_upto_region 15 with (fail)
      obtain ⟨g1, hg1⟩ : ∃ g1, g1 = wr.heap.size := ⟨_, rfl⟩
      obtain ⟨g2, hg2⟩ : ∃ g2, g2 = wr.heap.size + 1 := ⟨_, rfl⟩
      have H5 : Hid (AfI gg gS gG g1 g2 n u1 (ssF l ks n n) (allF got n) (fun _ => (0, 0, 0)) (fun _ => false) w2 ((((wr.setCell ⟨gg, 3, none⟩ (.slice (some ⟨wr.heap.size, 0, none⟩) n n)).setCell ⟨gg, 4, none⟩ (.slice (some ⟨wr.heap.size + 1, 0, none⟩) n n)).alloc (.cells (triC (fun _ => (0, 0, 0)) n).toArray 27)).alloc (.cells (booC (fun _ => false) n).toArray 4))) := Lib.hid (by
        have hs : ((wr.setCell ⟨gg, 3, none⟩ (.slice (some ⟨wr.heap.size, 0, none⟩) n n)).setCell ⟨gg, 4, none⟩ (.slice (some ⟨wr.heap.size + 1, 0, none⟩) n n)).heap.size = wr.heap.size := by simp [World.setCell]
        refine ⟨⟨?_, (((HJ.out.gv.s.far HJ.out.ne.1.symm _).far HJ.out.ne.1.symm _).alloc _).alloc _, (Blk.at_ _ _ _ (by rw [hg1, hs])).alloc _, Blk.at_ _ _ _ (by rw [hg2]; simp [World.setCell])⟩, (((HJ.out.gv.x.far (fun e => HJ.out.ne.2.2 e.symm) _).far (fun e => HJ.out.ne.2.2 e.symm) _).alloc _).alloc _, ((((HJ.out.b.setCell (p := ⟨gg, 3, none⟩) HJ.out.lo.1 _).setCell (p := ⟨gg, 4, none⟩) HJ.out.lo.1 _).alloc (by rw [hs]; exact HJ.out.b.size) _).alloc (by have := HJ.out.b.size; simp [World.setCell]; omega) _), by have := HJ.out.b.size; omega, by have := HJ.out.gv.g.lt; have := HJ.out.gv.s.lt; have := HJ.out.gv.x.lt; omega⟩
        have h := (((HJ.out.gv.g.set_ 3 (.slice (some ⟨wr.heap.size, 0, none⟩) n n)).set_ 4 (.slice (some ⟨wr.heap.size + 1, 0, none⟩) n n)).alloc (.cells (triC (fun _ => (0, 0, 0)) n).toArray 27)).alloc (.cells (booC (fun _ => false) n).toArray 4)
        rw [hg1, hg2]
        simpa using h)
      obtain ⟨w5, hw5⟩ : ∃ w5, w5 = ((((wr.setCell ⟨gg, 3, none⟩ (.slice (some ⟨wr.heap.size, 0, none⟩) n n)).setCell ⟨gg, 4, none⟩ (.slice (some ⟨wr.heap.size + 1, 0, none⟩) n n)).alloc (.cells (triC (fun _ => (0, 0, 0)) n).toArray 27)).alloc (.cells (booC (fun _ => false) n).toArray 4)) := ⟨_, rfl⟩
      rw [← hw5] at H5 ⊢
      first | rw [← hg2] | skip
      rw [← hg1]
      try rw [show g1 + 1 = g2 by omega]
      clear hw5 hg1 hg2 z3 z4 z3f z4f hgl hgl1 y0 HJ
      have HFY : Hid (∀ W, Below w5.heap.size w5 W → W.cell? ⟨gT, 0, none⟩ = some (.slice (some ad) ll c) ∧ W.cell? ⟨gg, 0, none⟩ = some (.int .i64 u1) ∧ W.cell? ⟨gg, 1, none⟩ = some (.slice (some ⟨gS, 0, none⟩) n n) ∧ W.cell? ⟨gg, 2, none⟩ = some (.slice (some ⟨gG, 0, none⟩) n n)) := Lib.hid (fun W hb => by
        have h := H5.out.gw.g.below hb H5.out.gw.g.lt
        exact ⟨(HTC.out W (H5.out.b.trans (hb.mono H5.out.b.size))).1, h.get 0 rfl, h.get 1 rfl, h.get 2 rfl⟩)
      have hil : i < l.length := by rw [← HLL.out]; omega
      have HLD : Hid (∀ W, Below w5.heap.size w5 W → ∀ q v, (styCells si)[q]? = some v → W.cell? ((⟨ad.block, (ad.add (i * 44)).off + 1, none⟩ : Addr).add q) = some v) := Lib.hid (fun W hb q v hv => by
        obtain ⟨ad2, e, hnd⟩ := (HRD.out W (H5.out.b.trans (hb.mono H5.out.b.size))).1.nd HLL.out hil
        injection e with e
        subst e
        have hx := hnd.cs q v (by rw [← HSI.out]; exact hv)
        rw [block_of_add] at hx
        have ha : (⟨ad.block, (ad.add (i * 44)).off + 1, none⟩ : Addr).add q = ⟨ad.block, (ad.add (i * 44)).off + (1 + q), none⟩ := by
          unfold Addr.add
          split
          · simp_all
          · simp; omega
        rw [ha]; exact hx)
      have HKS : Hid (∀ s ∈ ssF l ks n n, (∃ Au nu cu, s.uv = .slice Au nu cu) ∧ StX s ∧ s.kind ≠ 3) := Lib.hid (fun s hs => by
        rw [HN.out, ssF_map] at hs
        obtain ⟨k, hk, rfl⟩ := List.mem_map.1 hs
        have hb := HKN.out k hk
        have hm : k.toNat < l.length := by rw [← HLL.out]; omega
        have e3 : sD l k = l[k.toNat].s := by unfold sD; rw [List.getElem?_eq_getElem hm]; rfl
        exact ⟨by rw [e3]; exact HUV.out _ (List.getElem_mem hm), (HS.out k hk).2, (HS.out k hk).1⟩)
      have HMA : Hid (∀ W, Below w5.heap.size w5 W → Calls Try.prog 20 #[.agg (styCells si).toArray, .int .i64 u1, .slice (some ⟨gS, 0, none⟩) n n, .slice (some ⟨gG, 0, none⟩) n n] W fun e w' => MainsAns si u1 (ssF l ks n n) (allF got n) W w' e) := Lib.hid (fun W hb => by
        have h1 := H5.out.gw.s.below hb H5.out.gw.s.lt
        have h2 := H5.out.x.below hb H5.out.x.lt
        have hr1 : Reads W W.heap.size 43 (some ⟨gS, 0, none⟩) n (stC (ssF l ks n n)) := Reads.of_blkF h1 (by rw [stC_len, ssF_len])
        have hr2 : Reads W W.heap.size 4 (some ⟨gG, 0, none⟩) n (cnsCells (allF got n)) := Reads.of_blkF h2 (by rw [cnsCells_len, allF_len])
        have h := mains_any si u1 (ssF l ks n n) (allF got n) (some ⟨gS, 0, none⟩) (some ⟨gG, 0, none⟩) n n W (by rw [ssF_len]; exact hkl) (by rw [ssF_len]; exact hr1) (fun s hs => (HKS.out s hs).1) (by rw [allF_len]; exact hr2) HC.out (fun s hs => (HKS.out s hs).2.1) (fun x hx => by
          obtain ⟨j, hj, rfl⟩ := List.mem_iff_getElem.1 hx
          rw [allF_at]; exact (HX.out j).2)
        rw [ssF_len, allF_len] at h; exact h)
      have E0 : Below w5.heap.size w5 w5.drew := (Below.refl _ _).drew
      refine wp_region_held_drew (S := fun W => Below w5.heap.size w5 W) (by kernel_rfl) E0 (fun hS => ?_)
      refine wpAnyH_pre (j := 0) (by kernel_rfl) ?_
      iterate 5
        refine wpAnyH_nx (v := ?_) rfl (by kernel_rfl) (by kernel_rfl) (by kernel_rfl) (fun _ _ _ h => h) (Or.inl ⟨by rfl, ?_⟩) hS ?_
        rotate_left
        · intro W' hS'
          have hf := HFY.out W' hS'; obtain ⟨y0, g0, g1', g2'⟩ := hf; go_simp
          rfl
        try simp only [Act.put, List.setIfInBounds_toArray, List.set_cons_zero, List.set_cons_succ, List.getElem_toArray, List.getElem_cons_zero, List.getElem_cons_succ]
      refine wpAnyH_take (i := 5) (v := .agg (styCells si).toArray) rfl (by kernel_rfl) (by kernel_rfl) (by kernel_rfl) (fun _ _ _ h => h) ?_ hS ?_
      · exact yieldsIf_load_at (by rfl) 52 (.tmp 101) rfl ⟨ad.block, (ad.add (i * 44)).off + 1, none⟩ rfl (styCells si) _ (fun W' hS' => HLD.out W' hS') Try.underlying52 rfl (by kernel_rfl)
      try simp only [Act.put, List.setIfInBounds_toArray, List.set_cons_zero, List.set_cons_succ, List.getElem_toArray, List.getElem_cons_zero, List.getElem_cons_succ]
      refine wpAnyH_pre (j := 6) (by kernel_rfl) ?_
      iterate 12
        refine wpAnyH_nx (v := ?_) rfl (by kernel_rfl) (by kernel_rfl) (by kernel_rfl) (fun _ _ _ h => h) (Or.inl ⟨by rfl, ?_⟩) hS ?_
        rotate_left
        · intro W' hS'
          have hf := HFY.out W' hS'; obtain ⟨y0, g0, g1', g2'⟩ := hf; go_simp
          rfl
        try simp only [Act.put, List.setIfInBounds_toArray, List.set_cons_zero, List.set_cons_succ, List.getElem_toArray, List.getElem_cons_zero, List.getElem_cons_succ]
      refine wpAnyH_ready (rs := [18]) (by kernel_rfl) (by simp) (AllReadyH.cons rfl (fun K hK => ?_) AllReadyH.nil)
      go_simp
      refine (HMA.out _ hS).mono ?_
      rintro e w6 ⟨⟨gu0, gb0, he, hu6, hb6, hgu0, hgb0⟩, hbb⟩
      rw [ssF_len] at he hu6 hb6
      subst he
      have hS6 : Below w5.heap.size w5 w6 := hS.trans (hbb.mono hS.size)
      have HGB : Hid (gb0 ≠ g1) := Lib.hid (by have := H5.out.gw.us.lt; have := hS.size; omega)
      clear hbb hgu0 hgb0
      refine hK.out _ _ hS6 (fun hS => ?_)
      try simp only [Act.put, List.setIfInBounds_toArray, List.set_cons_zero, List.set_cons_succ, List.getElem_toArray, List.getElem_cons_zero, List.getElem_cons_succ]
      clear hK
      refine wpAnyH_pre (j := 19) (by kernel_rfl) ?_
      iterate 5
        refine wpAnyH_nx (v := ?_) rfl (by kernel_rfl) (by kernel_rfl) (by kernel_rfl) (fun _ _ _ h => h) (Or.inl ⟨by rfl, ?_⟩) hS ?_
        rotate_left
        · intro W' hS'
          go_simp
          rfl
        try simp only [Act.put, List.setIfInBounds_toArray, List.set_cons_zero, List.set_cons_succ, List.getElem_toArray, List.getElem_cons_zero, List.getElem_cons_succ]
      refine wpAnyH_done (by kernel_rfl) ?_ _
      have H6 := Lib.hid (And.intro hu6 (And.intro hb6 hS6))
      clear hS E0 hu6 hb6 hS6 HMA HLD HFY
      obtain ⟨P, hP⟩ : ∃ P : Nat → Int × Int × Int, P = fun k => usedT (mainsM si u1 (ssF l ks n n) (allF got n) k) := ⟨_, rfl⟩
      obtain ⟨Q, hQ⟩ : ∃ Q : Nat → Bool, Q = fun k => usedB (mainsM si u1 (ssF l ks n n) (allF got n) k) := ⟨_, rfl⟩
      rw [← hP, ← hQ] at H6
      have HPQ : Hid (P = (fun k => usedT (mainsM si u1 (ks.map (sD l)) (allF got ks.length) k)) ∧ Q = fun k => usedB (mainsM si u1 (ks.map (sD l)) (allF got ks.length) k)) := Lib.hid (by rw [hP, hQ, HN.out, ssF_map]; exact ⟨rfl, rfl⟩)
      clear hP hQ
      as_aux_lemma =>
      have H7 := Lib.hid (H5.out.bel H6.out.2.2)
      obtain ⟨v123, hcp⟩ := run_copy_same (P := Try.prog) w6 g1 gu0 37 37 3 27 3 el_used.ht (by kernel_rfl) n _ _ _ _ H7.out.gw.us H6.out.1 (triC_len _ _) (triC_len _ _) (triC_one _ _)
      have z3 : w6.cell? ⟨gg, 3, none⟩ = some (.slice (some ⟨g1, 0, none⟩) n n) := H7.out.gw.g.get 3 rfl
      go_upto_region 17 with (fail)
      have H8 := Lib.hid (H7.out.row1 (p2 := P))
      have HB8 : Hid (Blk (w6.setRow g1 (triC P n).toArray) gb0 4 (booC Q n).toArray) := Lib.hid ((setRow_other w6 g1 gb0 _ HGB.out).trans H6.out.2.1)
      obtain ⟨w7, hw7⟩ : ∃ w7, w7 = w6.setRow g1 (triC P n).toArray := ⟨_, rfl⟩
      rw [← hw7] at H8 HB8 ⊢
      clear hw7 hcp z3 H7 H6 H5
      obtain ⟨v129, hcp⟩ := run_copy_same (P := Try.prog) w7 g2 gb0 38 38 3 4 1 el_boo.ht (by kernel_rfl) n _ _ _ _ H8.out.gw.bo HB8.out (by rw [booC_len]; omega) (by rw [booC_len]; omega) (booC_one _ _)
      have z4 : w7.cell? ⟨gg, 4, none⟩ = some (.slice (some ⟨g2, 0, none⟩) n n) := H8.out.gw.g.get 4 rfl
      go_upto_region 18 with (fail)
      have H9 := Lib.hid (H8.out.row2 (q2 := Q))
      obtain ⟨w8, hw8⟩ : ∃ w8, w8 = w7.setRow g2 (booC Q n).toArray := ⟨_, rfl⟩
      rw [← hw8] at H9 ⊢
      clear hw8 hcp z4 H8 HB8
      have z1 : w8.cell? ⟨gg, 1, none⟩ = some (.slice (some ⟨gS, 0, none⟩) n n) := H9.out.gw.g.get 1 rfl
      go_upto_region 20 with (fail)
      obtain ⟨gu, hgu⟩ : ∃ gu, gu = w8.heap.size := ⟨_, rfl⟩
      obtain ⟨gb, hgb⟩ : ∃ gb, gb = w8.heap.size + 1 := ⟨_, rfl⟩
      have H10 : Hid (AoF gg gS gG g1 g2 n gu gb u1 (ssF l ks n n) (allF got n) P Q (fun _ => (0, 0, 0)) (fun _ => false) w2 ((w8.alloc (.cells (triC (fun _ => (0, 0, 0)) n).toArray 27)).alloc (.cells (booC (fun _ => false) n).toArray 4))) := Lib.hid
        ⟨H9.out.bel (balW (balW (Below.refl _ _) _) _), (Blk.at_ _ _ _ hgu).alloc _, Blk.at_ _ _ _ (by rw [hgb]; simp), by have := H9.out.gw.g.lt; have := H9.out.gw.s.lt; have := H9.out.gw.us.lt; have := H9.out.gw.bo.lt; have := H9.out.x.lt; omega, by have := H9.out.b.size; omega⟩
      obtain ⟨w9, hw9⟩ : ∃ w9, w9 = ((w8.alloc (.cells (triC (fun _ => (0, 0, 0)) n).toArray 27)).alloc (.cells (booC (fun _ => false) n).toArray 4)) := ⟨_, rfl⟩
      rw [← hw9] at H10 ⊢
      first | rw [← hgb] | skip
      rw [← hgu]
      try rw [show gu + 1 = gb by omega]
      clear hw9 hgu hgb z1 hmu hmb H9
      have z1 : w9.cell? ⟨gg, 1, none⟩ = some (.slice (some ⟨gS, 0, none⟩) n n) := H10.out.a.gw.g.get 1 rfl
      go_wp2_with fail
      clear z1
      obtain ⟨wq, rfl⟩ : ∃ wq, wq = wr := ⟨_, rfl⟩
      go_loopw [141] (fun kv wr => ∃ k : Nat, k ≤ n ∧ kv = .int .i64 k ∧ Hid (AoF gg gS gG g1 g2 n gu gb u1 (ssF l ks n n) (allF got n) P Q (fun q => if q < k then P q else (0, 0, 0)) (fun q => if q < k then Q q else false) w2 wr)) (fun kv _ => n - (intOf kv).toNat)
      case atStart => exact ⟨0, by omega, rfl, Lib.hid (H10.out.same (fun q _ => by simp) (fun q _ => by simp))⟩
      case round =>
        obtain ⟨k, hk, rfl, HJ⟩ := hrel
        clear H10
        by_cases hlt : k < n
        rotate_left
        · as_aux_lemma =>
          have q0 : decide ((k : Int) < (n : Int)) = false := decide_eq_false (by omega)
          have q0' : decide (k < n) = false := decide_eq_false hlt
          have HEN : Hid (KidsF l si ks got u1 w wr (.returned (.tuple #[.slice (some ⟨gu, 0, none⟩) n n, .slice (some ⟨gb, 0, none⟩) n n]))) := Lib.hid (by
            have h := HJ.out.same (p3 := P) (q3 := Q) (fun q hq => by simp [show q < k by omega]) (fun q hq => by simp [show q < k by omega])
            have hsz := H2.out.2.2.size
            refine ⟨⟨gu, gb, by rw [HN.out], by rw [← HPQ.out.1, ← HN.out]; exact h.us, by rw [← HPQ.out.2, ← HN.out]; exact h.bo, by have := h.lo.1; omega, by have := h.lo.2; omega⟩, H2.out.2.2.trans (h.a.b.mono hsz)⟩)
          go_wp2_with fail
          go_ret2
          exact HEN.out
        as_aux_lemma =>
        have q0 : decide ((k : Int) < (n : Int)) = true := decide_eq_true (by omega)
        have q0' : decide (k < n) = true := decide_eq_true hlt
        have hii : (k : Int) < (n : Int) := by omega
        have hi0 : (0 : Int) ≤ (k : Int) := by omega
        have wi : IntKind.i64.wrap ((k : Int) + 1) = (k : Int) + 1 := IntWalk.i64_in _ ⟨by omega, by omega⟩
        have hlS := ssF_len l ks n n
        obtain ⟨s, hse⟩ : ∃ s, s = (ssF l ks n n)[k]'(by omega) := ⟨_, rfl⟩
        have hks := HKS.out s (by rw [hse]; exact List.getElem_mem _)
        have HO : Hid ((styCells s).toArray.all (·.oneCell') = true) := Lib.hid (by
          obtain ⟨Au, nu, cu, e⟩ := hks.1
          exact Sty.one s e)
        have h3 := hks.2.2
        have HLD : Hid (∀ j v, (styCells s)[j]? = some v → wr.cell? ((⟨gS, k * 43, none⟩ : Addr).add j) = some v) := Lib.hid (by
          rw [hse]; exact HJ.out.a.gw.sty (by omega))
        have HIM : Hid (∀ W, GwI gg gS gG g1 g2 n u1 (ssF l ks n n) (allF got n) P Q W → Calls Try.prog 23 #[.pointer (some ⟨gg, 0, none⟩), .int .i64 (k : Int)] W (AnsB (.tuple #[.agg #[.int .i64 (P k).1, .int .i64 (P k).2.1, .int .i64 (P k).2.2], .bool (Q k)]) W)) := Lib.hid (fun W hg => gitem_any gg gS gG g1 g2 n k u1 _ _ P Q W hg hlt (by omega))
        clear hse hks hlS
        go_upto_region 23 with (first
          | refine wpList_load_at rfl 52 (.tmp 144) rfl ⟨gS, k * 43, none⟩ rfl (styCells s) _ HLD.out Try.underlying52 rfl (by kernel_rfl) ?_
          | refine wpList_store_new rfl 52 _ _ rfl _ rfl (styCells s).toArray rfl rfl 52 _ (by kernel_rfl) rfl HO.out ?_)
        simp only [Act.put]
        obtain ⟨gs, hgs⟩ : ∃ gs, gs = wr.heap.size := ⟨_, rfl⟩
        have H6 : Hid (AoF gg gS gG g1 g2 n gu gb u1 (ssF l ks n n) (allF got n) P Q (fun q => if q < k then P q else (0, 0, 0)) (fun q => if q < k then Q q else false) w2 (wr.alloc (.cells (styCells s).toArray 52))) := Lib.hid (HJ.out.bel (balW (Below.refl _ _) _))
        have HBS : Hid (Blk (wr.alloc (.cells (styCells s).toArray 52)) gs 52 (styCells s).toArray) := Lib.hid (Blk.at_ _ _ _ hgs)
        obtain ⟨w6b, hw6⟩ : ∃ w6, w6 = wr.alloc (.cells (styCells s).toArray 52) := ⟨_, rfl⟩
        rw [← hw6] at H6 HBS ⊢
        rw [← hgs]
        clear hw6 hgs HLD HO HJ
        have hgn := H6.out.ne.2.2.2
        have hgn2 : gb ≠ gu := fun e => hgn e.symm
        have c0 : w6b.cell? ⟨gs, 0, none⟩ = some (.int .u8 s.kind) := HBS.out.get 0 rfl
        clear HBS
        have e3 : (s.kind == 3) = false := beq_eq_false_iff_ne.2 h3
        clear h3
        obtain ⟨x1, hx1⟩ : ∃ x, x = (P k).1 := ⟨_, rfl⟩
        obtain ⟨x2, hx2⟩ : ∃ x, x = (P k).2.1 := ⟨_, rfl⟩
        obtain ⟨x3, hx3⟩ : ∃ x, x = (P k).2.2 := ⟨_, rfl⟩
        obtain ⟨y, hy⟩ : ∃ y, y = Q k := ⟨_, rfl⟩
        have HCU : Hid (P k = (x1, x2, x3) ∧ Q k = y) := Lib.hid ⟨by rw [hx1, hx2, hx3], hy.symm⟩
        rw [← hx1, ← hx2, ← hx3, ← hy] at HIM
        clear hx1 hx2 hx3 hy
        go_upto_region 30 with (fail)
        go_wp2_with (go_at_call 23; refine (HIM.out _ H6.out.a.gw).mono ?_; rintro e w7 ⟨rfl, hb7⟩; have H7 := Lib.hid (H6.out.bel hb7); clear hb7; have z0 := H7.out.us.get (k * 3) (triC_g0 _ hlt); have z1 := H7.out.us.get (k * 3 + 1) (triC_g1 _ hlt); have z2 := H7.out.us.get (k * 3 + 2) (triC_g2 _ hlt); have z3 := H7.out.bo.get k (by rw [List.getElem?_toArray]; exact booC_at _ hlt); have f0 := H7.out.us.frozen (k * 3); have f1 := H7.out.us.frozen (k * 3 + 1); have f2 := H7.out.us.frozen (k * 3 + 2); have f3 := H7.out.bo.frozen k)
        go_roundw
        case rel => exact ⟨k + 1, by omega, by go_num, Lib.hid ((H7.out.put hlt x1 x2 x3 y).same (fun q _ => by rw [stepU P k q, HCU.out.1]) (fun q _ => by rw [stepBo Q k q, HCU.out.2]))⟩
        case measure => simp [intOf] <;> omega
end Go.Proofs.Ytbopeofglhkffaa
