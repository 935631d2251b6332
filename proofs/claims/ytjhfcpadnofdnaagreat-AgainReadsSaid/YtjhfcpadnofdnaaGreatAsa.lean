/- What assign.Kids keeps, and its rules: none, flowing, floating. -/
import Derived.Test.YtjhfcpadnofdnaaGreatWfp
import Derived.Test.YtjhfcpadnofdnaaGreatTri
import Derived.Test.YtjhfcpadnofdnaaGreatRgh
import Derived.Test.YtjhfcpadnofdnaaGreatWq
set_option linter.unusedSimpArgs false
set_option linter.unusedVariables false
namespace Go.Proofs.YtjhfcpadnofdnaaGreat
open Go.RowKit
attribute [local go_sem] block_of_add
def stlC (l : List Sty) : List Value := l.flatMap styCells
theorem stC_len (l : List Sty) : (stlC l).length = l.length * 43 := by
  induction l with
  | nil => rfl
  | cons a t ih =>
    have : stlC (a :: t) = styCells a ++ stlC t := by simp [stlC]
    rw [this, List.length_append, ih, sty_len, List.length_cons]; omega
theorem stC_app (a b : List Sty) : stlC (a ++ b) = stlC a ++ stlC b := by simp [stlC]
theorem stC_at (l : List Sty) (k j : Nat) (hk : k < l.length) (hj : j < 43) : (stlC l)[k * 43 + j]? = (styCells l[k])[j]? := by
  have e : l = l.take k ++ l[k] :: l.drop (k + 1) := by rw [← List.drop_eq_getElem_cons hk, List.take_append_drop]
  have e2 : stlC l = stlC (l.take k) ++ (styCells l[k] ++ stlC (l.drop (k + 1))) := by
    have : stlC l = stlC (l.take k ++ l[k] :: l.drop (k + 1)) := by rw [← e]
    rw [this, stC_app]; rfl
  have hl : (stlC (l.take k)).length = k * 43 := by rw [stC_len, List.length_take]; congr 1; omega
  rw [e2, List.getElem?_append_right (by omega), hl, show k * 43 + j - k * 43 = j by omega, List.getElem?_append_left (by rw [sty_len]; exact hj)]
theorem stC_set (l : List Sty) (k : Nat) (s : Sty) (hk : k < l.length) : setAll (stlC l).toArray (k * 43) (styCells s) = (stlC (l.set k s)).toArray := by
  have e : l = l.take k ++ l[k] :: l.drop (k + 1) := by rw [← List.drop_eq_getElem_cons hk, List.take_append_drop]
  have e2 : stlC l = stlC (l.take k) ++ styCells l[k] ++ stlC (l.drop (k + 1)) := by
    have : stlC l = stlC (l.take k ++ l[k] :: l.drop (k + 1)) := by rw [← e]
    rw [this, stC_app, List.append_assoc]; rfl
  have e3 : stlC (l.set k s) = stlC (l.take k) ++ styCells s ++ stlC (l.drop (k + 1)) := by
    rw [List.set_eq_take_append_cons_drop, if_pos hk, stC_app, List.append_assoc]; rfl
  have hl : (stlC (l.take k)).length = k * 43 := by rw [stC_len, List.length_take]; congr 1; omega
  rw [e2, e3, ← hl]
  exact setAll_mid (styCells s) (styCells l[k]) (stlC (l.take k)) (stlC (l.drop (k + 1))) (by rw [sty_len, sty_len])
/-- One child's used values, in a block. -/
def kidK (s : Sty) (c : Int) (x : Cn) : Int × Int × Int := if s.kind = 3 then (0, 0, 0) else if s.float ≠ 0 then shrN s c x.least x.greatest else flowN s c
def kidU (s : Sty) (c : Int) (x : Cn) : Int × Int × Int := if s.kind = 3 then (0, 0, 0) else usedN (kidK s c x)
def kidB (s : Sty) (c : Int) (x : Cn) : Bool := if s.kind = 3 then false else overN (kidK s c x)
/-- The giver. -/
structure GvI (gg gS gG n : Nat) (c : Int) (ss : List Sty) (xs : List Cn) (W : World) : Prop where
  g : Blk W gg 243 #[.int .i64 c, .slice (some ⟨gS, 0, none⟩) n n, .slice (some ⟨gG, 0, none⟩) n n, .slice none 0 0, .slice none 0 0]
  s : Blk W gS 67 (stlC ss).toArray
  x : Blk W gG 38 (cnsCells xs).toArray
section
variable {gg gS gG n k : Nat} {c : Int} {ss : List Sty} {xs : List Cn} {W W' : World}
theorem GvI.bel (h : GvI gg gS gG n c ss xs W) (hb : Below W.heap.size W W') : GvI gg gS gG n c ss xs W' := ⟨h.g.below hb h.g.lt, h.s.below hb h.s.lt, h.x.below hb h.x.lt⟩
theorem GvI.sty (h : GvI gg gS gG n c ss xs W) (hk : k < ss.length) : ∀ j v, (styCells ss[k])[j]? = some v → W.cell? ((⟨gS, k * 43, none⟩ : Addr).add j) = some v := fun j v hv => by
  have hj := (List.getElem?_eq_some_iff.1 hv).1
  rw [sty_len] at hj
  have ha : (⟨gS, k * 43, none⟩ : Addr).add j = ⟨gS, k * 43 + j, none⟩ := by unfold Addr.add; split <;> simp_all
  rw [ha]; exact h.s.get _ (by rw [List.getElem?_toArray, stC_at ss k j hk hj]; exact hv)
theorem GvI.cn (h : GvI gg gS gG n c ss xs W) (hk : k < xs.length) : W.cell? ⟨gG, k * 4, none⟩ = some (.int .i64 xs[k].least) ∧ W.cell? ⟨gG, k * 4 + 1, none⟩ = some (.int .i64 xs[k].greatest) :=
  ⟨h.x.get _ (by rw [List.getElem?_toArray]; exact cnsCells_at xs k 0 hk (by omega)), h.x.get _ (by rw [List.getElem?_toArray]; exact cnsCells_at xs k 1 hk (by omega))⟩
end
theorem GvI.far {gg gS gG n gu : Nat} {c : Int} {ss : List Sty} {xs : List Cn} {W : World} (h : GvI gg gS gG n c ss xs W) (h1 : gg ≠ gu) (h2 : gS ≠ gu) (h3 : gG ≠ gu) (i : Nat) (u : Value) : GvI gg gS gG n c ss xs (W.setCell ⟨gu, i, none⟩ u) := ⟨h.g.far h1 u, h.s.far h2 u, h.x.far h3 u⟩
/-- A rule's variable. -/
structure RuI (gu : Nat) (a b c : Int) (w W : World) : Prop where
  us : Blk W gu 40 #[.int .i64 a, .int .i64 b, .int .i64 c]
  b : Below w.heap.size w W
  lo : w.heap.size ≤ gu
theorem RuI.bel {gu : Nat} {a b c : Int} {w W W' : World} (h : RuI gu a b c w W) (hb : Below W.heap.size W W') : RuI gu a b c w W' := ⟨h.us.below hb h.us.lt, h.b.trans (hb.mono h.b.size), h.lo⟩
theorem RuI.fin {gu : Nat} {a b c : Int} {w W : World} (h : RuI gu a b c w W) (x y z : Int) : RuI gu x y z w (((W.setCell ⟨gu, 0, none⟩ (.int .i64 x)).setCell ⟨gu, 1, none⟩ (.int .i64 y)).setCell ⟨gu, 2, none⟩ (.int .i64 z)) :=
  ⟨by have h := ((h.us.set_ 0 (.int .i64 x)).set_ 1 (.int .i64 y)).set_ 2 (.int .i64 z); simpa using h, ((h.b.setCell (p := ⟨gu, 0, none⟩) h.lo _).setCell (p := ⟨gu, 1, none⟩) h.lo _).setCell (p := ⟨gu, 2, none⟩) h.lo _, h.lo⟩
theorem gnone_any (v : Value) (k : Int) (w : World) : Calls Tryz.prog 171 #[v, .int .i64 k] w (AnsB (.tuple #[.agg #[.int .i64 0, .int .i64 0, .int .i64 0], .bool false]) w) := by
  go_enter Tryz.func171, Tryz.ntmps171
  go_wp2_with fail
  refine bodyPost_ret (res_used rfl _ _ w.heap.size 0 0 0 _ rfl rfl (by first | exact Blk.at_ _ _ _ rfl)) rfl ⟨rfl, balW (Below.refl _ _) _⟩
/-! The rules, walked. -/
set_option maxRecDepth 100000 in
set_option maxHeartbeats 2000000 in
theorem gflow_any (gg gS gG n k : Nat) (c : Int) (ss : List Sty) (xs : List Cn) (w : World) (hi : GvI gg gS gG n c ss xs w) (hss : ss.length = n) (hxs : xs.length = n) (hk : k < n) (hn : n ≤ 100000) (hs : StW (ss[k]'(by omega))) (hc : CB c) :
    Calls Tryz.prog 170 #[.pointer (some ⟨gg, 0, none⟩), .int .i64 (k : Int)] w (AnsB (usedV (flowN (ss[k]'(by omega)) c)) w) := by
  obtain ⟨s, hse⟩ : ∃ s, s = ss[k]'(by omega) := ⟨_, rfl⟩
  obtain ⟨x, hxe⟩ : ∃ x, x = xs[k]'(by omega) := ⟨_, rfl⟩
  rw [← hse] at hs ⊢
  try rw [← hxe]
  have HST : Hid (∀ W, GvI gg gS gG n c ss xs W → ∀ j v, (styCells s)[j]? = some v → W.cell? ((⟨gS, k * 43, none⟩ : Addr).add j) = some v) := Lib.hid (fun W h => by rw [hse]; exact h.sty (by omega))
  have HCN : Hid (∀ W, GvI gg gS gG n c ss xs W → W.cell? ⟨gG, k * 4, none⟩ = some (.int .i64 x.least) ∧ W.cell? ⟨gG, k * 4 + 1, none⟩ = some (.int .i64 x.greatest)) := Lib.hid (fun W h => by rw [hxe]; exact h.cn (by omega))
  have HGV : Hid (∀ W, GvI gg gS gG n c ss xs W → W.cell? ⟨gg, 0, none⟩ = some (.int .i64 c) ∧ W.cell? ⟨gg, 1, none⟩ = some (.slice (some ⟨gS, 0, none⟩) n n) ∧ W.cell? ⟨gg, 2, none⟩ = some (.slice (some ⟨gG, 0, none⟩) n n)) := Lib.hid (fun W h => ⟨h.g.get 0 rfl, h.g.get 1 rfl, h.g.get 2 rfl⟩)
  obtain ⟨x1, x2, x3, y, hv⟩ : ∃ x1 x2 x3 y, usedV (flowN s c) = .tuple #[.agg #[.int .i64 x1, .int .i64 x2, .int .i64 x3], .bool y] := ⟨_, _, _, _, rfl⟩
  rw [hv]
  have HF : Hid (∀ W, Calls Tryz.prog 168 #[.agg (styCells s).toArray, .int .i64 c] W (AnsB (.tuple #[.agg #[.int .i64 x1, .int .i64 x2, .int .i64 x3], .bool y]) W)) := Lib.hid (fun W => by rw [← hv]; exact pflow_any s c W hs hc)
  have HI := Lib.hid hi
  clear hs
  clear hv hse hxe hi
  have hk2 : (k : Int) < (n : Int) := by omega
  have hk3 : (0 : Int) ≤ (k : Int) := by omega
  go_enter Tryz.func170, Tryz.ntmps170
  go_upto_region 1 with (fail)
  obtain ⟨gu, hgu⟩ : ∃ gu, gu = w.heap.size := ⟨_, rfl⟩
  have HR1 : Hid (RuI gu 0 0 0 w (w.alloc (.cells #[.int .i64 0, .int .i64 0, .int .i64 0] 40)) ∧ GvI gg gS gG n c ss xs (w.alloc (.cells #[.int .i64 0, .int .i64 0, .int .i64 0] 40))) := Lib.hid
    ⟨⟨Blk.at_ _ _ _ hgu, balW (Below.refl _ _) _, by omega⟩, HI.out.bel (balW (Below.refl _ _) _)⟩
  obtain ⟨w1, hw1⟩ : ∃ w1, w1 = w.alloc (.cells #[.int .i64 0, .int .i64 0, .int .i64 0] 40) := ⟨_, rfl⟩
  rw [← hw1] at HR1 ⊢
  rw [← hgu]
  have HNE : Hid (gg ≠ gu ∧ gS ≠ gu ∧ gG ≠ gu) := Lib.hid (by have := HI.out.g.lt; have := HI.out.s.lt; have := HI.out.x.lt; omega)
  clear hw1 hgu HI
  have E0 : RuI gu 0 0 0 w w1.drew ∧ GvI gg gS gG n c ss xs w1.drew := ⟨HR1.out.1.bel (Below.refl _ _).drew, HR1.out.2.bel (Below.refl _ _).drew⟩
  refine wp_region_S (fun b _ _ W => (if b then RuI gu x1 x2 x3 w W else RuI gu 0 0 0 w W) ∧ GvI gg gS gG n c ss xs W) 14 1000 100000 false true (by kernel_rfl) (by kernel_rfl) (by kernel_rfl) (E0) ?_
  refine wpAnyS_pre (j := 0) (by kernel_rfl) ?_
  iterate 6
    refine wpAnyS_nx (v := ?_) rfl (by kernel_rfl) (by kernel_rfl) (by kernel_rfl) (fun _ _ _ h => h) (by rfl) (gives_pureF (by rfl) (by kernel_rfl) ?_) ?_
    rotate_left
    · intro d' u' W' hS'
      have q := (show RuI gu 0 0 0 w W' ∧ GvI gg gS gG n c ss xs W' from hS')
      obtain ⟨g0, g1, g2⟩ := HGV.out W' q.2
      obtain ⟨r0, r1⟩ := HCN.out W' q.2
      go_simp
      rfl
    try simp only [Act.put, List.setIfInBounds_toArray, List.set_cons_zero, List.set_cons_succ, List.getElem_toArray, List.getElem_cons_zero, List.getElem_cons_succ]
  refine wpAnyS_take (i := 6) (v := .agg (styCells s).toArray) rfl (by kernel_rfl) (by kernel_rfl) (by kernel_rfl) (fun _ _ _ h => h) (by rfl) (gives_yields ?_) ?_
  · refine yieldsIf_load_at (by rfl) 67 (.tmp 11) rfl (⟨gS, k * 43, none⟩) rfl (styCells s) _ ?_ Tryz.underlying67 rfl (by kernel_rfl)
    rintro W' ⟨b', d', u', hS'⟩
    exact HST.out W' hS'.2
  try simp only [Act.put, List.setIfInBounds_toArray, List.set_cons_zero, List.set_cons_succ, List.getElem_toArray, List.getElem_cons_zero, List.getElem_cons_succ]
  refine wpAnyS_pre (j := 7) (by kernel_rfl) ?_
  iterate 4
    refine wpAnyS_nx (v := ?_) rfl (by kernel_rfl) (by kernel_rfl) (by kernel_rfl) (fun _ _ _ h => h) (by rfl) (gives_pureF (by rfl) (by kernel_rfl) ?_) ?_
    rotate_left
    · intro d' u' W' hS'
      have q := (show RuI gu 0 0 0 w W' ∧ GvI gg gS gG n c ss xs W' from hS')
      obtain ⟨g0, g1, g2⟩ := HGV.out W' q.2
      obtain ⟨r0, r1⟩ := HCN.out W' q.2
      go_simp
      rfl
    try simp only [Act.put, List.setIfInBounds_toArray, List.set_cons_zero, List.set_cons_succ, List.getElem_toArray, List.getElem_cons_zero, List.getElem_cons_succ]
  refine wpAnyS_take (i := 11) (v := .tuple #[.agg #[.int .i64 x1, .int .i64 x2, .int .i64 x3], .bool y]) rfl (by kernel_rfl) (by kernel_rfl) (by kernel_rfl) (fun _ _ _ h => h) (by rfl) (gives_callF (by rfl) (by kernel_rfl) _ _ ?_ (fun d' u' W' hS' => (HF.out W').mono (fun _ _ h => ⟨h.1, (show RuI gu 0 0 0 w W' ∧ GvI gg gS gG n c ss xs W' from hS').1.bel h.2, (show RuI gu 0 0 0 w W' ∧ GvI gg gS gG n c ss xs W' from hS').2.bel h.2⟩))) ?_
  · intro W'
    first | rfl | kernel_rfl
  try simp only [Act.put, List.setIfInBounds_toArray, List.set_cons_zero, List.set_cons_succ, List.getElem_toArray, List.getElem_cons_zero, List.getElem_cons_succ]
  refine wpAnyS_pre (j := 12) (by kernel_rfl) ?_
  iterate 2
    refine wpAnyS_nx (v := ?_) rfl (by kernel_rfl) (by kernel_rfl) (by kernel_rfl) (fun _ _ _ h => h) (by rfl) (gives_pureF (by rfl) (by kernel_rfl) ?_) ?_
    rotate_left
    · intro d' u' W' hS'
      have q := (show RuI gu 0 0 0 w W' ∧ GvI gg gS gG n c ss xs W' from hS')
      obtain ⟨g0, g1, g2⟩ := HGV.out W' q.2
      obtain ⟨r0, r1⟩ := HCN.out W' q.2
      go_simp
      rfl
    try simp only [Act.put, List.setIfInBounds_toArray, List.set_cons_zero, List.set_cons_succ, List.getElem_toArray, List.getElem_cons_zero, List.getElem_cons_succ]
  refine wpAnyS_store (i := 14) (d := true) (fun W' => (((W'.setCell ⟨gu, 0, none⟩ (.int .i64 x1)).setCell ⟨gu, 1, none⟩ (.int .i64 x2)).setCell ⟨gu, 2, none⟩ (.int .i64 x3))) rfl (by kernel_rfl) (by rfl) (by rfl) (by kernel_rfl) rfl ?_ (fun W' hS' => ⟨(show RuI gu 0 0 0 w W' ∧ GvI gg gS gG n c ss xs W' from hS').1.fin x1 x2 x3, ((hS'.2.far HNE.out.1 HNE.out.2.1 HNE.out.2.2 _ _).far HNE.out.1 HNE.out.2.1 HNE.out.2.2 _ _).far HNE.out.1 HNE.out.2.1 HNE.out.2.2 _ _⟩) ?_
  · intro W' hS'
    have q := (show RuI gu 0 0 0 w W' ∧ GvI gg gS gG n c ss xs W' from hS')
    obtain ⟨g0, g1, g2⟩ := HGV.out W' q.2
    obtain ⟨r0, r1⟩ := HCN.out W' q.2
    have z0 := q.1.us.get 0 rfl
    have z1 := q.1.us.get 1 rfl
    have z2 := q.1.us.get 2 rfl
    have f0 := q.1.us.frozen 0
    have f1 := q.1.us.frozen 1
    have f2 := q.1.us.frozen 2
    go_simp
    try rfl
  try simp only [Act.put, List.setIfInBounds_toArray, List.set_cons_zero, List.set_cons_succ, List.getElem_toArray, List.getElem_cons_zero, List.getElem_cons_succ]
  refine wpAnyS_take (i := 15) (v := ?_) rfl (by kernel_rfl) (by kernel_rfl) (by kernel_rfl) (fun _ _ _ h => h) (by rfl) (gives_pure (by rfl) ?_) ?_
  rotate_left
  · intro b' d' u' W' hS'
    go_simp
    rfl
  try simp only [Act.put, List.setIfInBounds_toArray, List.set_cons_zero, List.set_cons_succ, List.getElem_toArray, List.getElem_cons_zero, List.getElem_cons_succ]
  refine wpAnyS_done (b := true) (d := true) (by kernel_rfl) (by kernel_rfl) (by kernel_rfl) rfl (fun wS hS => ?_) _
  have HS := Lib.hid hS
  clear hS E0
  go_wp2_with fail
  exact bodyPost_ret (res_used rfl _ _ gu x1 x2 x3 _ rfl rfl (show RuI gu x1 x2 x3 w wS from HS.out.1).us) rfl ⟨rfl, (show RuI gu x1 x2 x3 w wS from HS.out.1).b⟩
set_option maxRecDepth 100000 in
set_option maxHeartbeats 2000000 in
theorem gshr_any (gg gS gG n k : Nat) (c : Int) (ss : List Sty) (xs : List Cn) (w : World) (hi : GvI gg gS gG n c ss xs w) (hss : ss.length = n) (hxs : xs.length = n) (hk : k < n) (hn : n ≤ 100000) (hs : StW (ss[k]'(by omega))) (hc : CB c) (hx1 : 0 ≤ (xs[k]'(by omega)).least ∧ (xs[k]'(by omega)).least ≤ 1099511627776) (hx2 : 0 ≤ (xs[k]'(by omega)).greatest ∧ (xs[k]'(by omega)).greatest ≤ 1099511627776) :
    Calls Tryz.prog 173 #[.pointer (some ⟨gg, 0, none⟩), .int .i64 (k : Int)] w (AnsB (usedV (shrN (ss[k]'(by omega)) c (xs[k]'(by omega)).least (xs[k]'(by omega)).greatest)) w) := by
  obtain ⟨s, hse⟩ : ∃ s, s = ss[k]'(by omega) := ⟨_, rfl⟩
  obtain ⟨x, hxe⟩ : ∃ x, x = xs[k]'(by omega) := ⟨_, rfl⟩
  rw [← hse] at hs ⊢
  try rw [← hxe]
  have HST : Hid (∀ W, GvI gg gS gG n c ss xs W → ∀ j v, (styCells s)[j]? = some v → W.cell? ((⟨gS, k * 43, none⟩ : Addr).add j) = some v) := Lib.hid (fun W h => by rw [hse]; exact h.sty (by omega))
  have HCN : Hid (∀ W, GvI gg gS gG n c ss xs W → W.cell? ⟨gG, k * 4, none⟩ = some (.int .i64 x.least) ∧ W.cell? ⟨gG, k * 4 + 1, none⟩ = some (.int .i64 x.greatest)) := Lib.hid (fun W h => by rw [hxe]; exact h.cn (by omega))
  have HGV : Hid (∀ W, GvI gg gS gG n c ss xs W → W.cell? ⟨gg, 0, none⟩ = some (.int .i64 c) ∧ W.cell? ⟨gg, 1, none⟩ = some (.slice (some ⟨gS, 0, none⟩) n n) ∧ W.cell? ⟨gg, 2, none⟩ = some (.slice (some ⟨gG, 0, none⟩) n n)) := Lib.hid (fun W h => ⟨h.g.get 0 rfl, h.g.get 1 rfl, h.g.get 2 rfl⟩)
  obtain ⟨x1, x2, x3, y, hv⟩ : ∃ x1 x2 x3 y, usedV (shrN s c x.least x.greatest) = .tuple #[.agg #[.int .i64 x1, .int .i64 x2, .int .i64 x3], .bool y] := ⟨_, _, _, _, rfl⟩
  rw [hv]
  have HF : Hid (∀ W, Calls Tryz.prog 250 #[.agg (styCells s).toArray, .int .i64 c, .int .i64 x.least, .int .i64 x.greatest] W (AnsB (.tuple #[.agg #[.int .i64 x1, .int .i64 x2, .int .i64 x3], .bool y]) W)) := Lib.hid (fun W => by rw [← hv]; exact pshr_any s c x.least x.greatest W hs hc (by rw [hxe]; exact hx1) (by rw [hxe]; exact hx2))
  have HI := Lib.hid hi
  clear hs hx1 hx2
  clear hv hse hxe hi
  have hk2 : (k : Int) < (n : Int) := by omega
  have hk3 : (0 : Int) ≤ (k : Int) := by omega
  go_enter Tryz.func173, Tryz.ntmps173
  go_upto_region 1 with (fail)
  obtain ⟨gu, hgu⟩ : ∃ gu, gu = w.heap.size := ⟨_, rfl⟩
  have HR1 : Hid (RuI gu 0 0 0 w (w.alloc (.cells #[.int .i64 0, .int .i64 0, .int .i64 0] 40)) ∧ GvI gg gS gG n c ss xs (w.alloc (.cells #[.int .i64 0, .int .i64 0, .int .i64 0] 40))) := Lib.hid
    ⟨⟨Blk.at_ _ _ _ hgu, balW (Below.refl _ _) _, by omega⟩, HI.out.bel (balW (Below.refl _ _) _)⟩
  obtain ⟨w1, hw1⟩ : ∃ w1, w1 = w.alloc (.cells #[.int .i64 0, .int .i64 0, .int .i64 0] 40) := ⟨_, rfl⟩
  rw [← hw1] at HR1 ⊢
  rw [← hgu]
  have HNE : Hid (gg ≠ gu ∧ gS ≠ gu ∧ gG ≠ gu) := Lib.hid (by have := HI.out.g.lt; have := HI.out.s.lt; have := HI.out.x.lt; omega)
  clear hw1 hgu HI
  have E0 : RuI gu 0 0 0 w w1.drew ∧ GvI gg gS gG n c ss xs w1.drew := ⟨HR1.out.1.bel (Below.refl _ _).drew, HR1.out.2.bel (Below.refl _ _).drew⟩
  refine wp_region_S (fun b _ _ W => (if b then RuI gu x1 x2 x3 w W else RuI gu 0 0 0 w W) ∧ GvI gg gS gG n c ss xs W) 30 1000 100000 false true (by kernel_rfl) (by kernel_rfl) (by kernel_rfl) (E0) ?_
  refine wpAnyS_pre (j := 0) (by kernel_rfl) ?_
  iterate 6
    refine wpAnyS_nx (v := ?_) rfl (by kernel_rfl) (by kernel_rfl) (by kernel_rfl) (fun _ _ _ h => h) (by rfl) (gives_pureF (by rfl) (by kernel_rfl) ?_) ?_
    rotate_left
    · intro d' u' W' hS'
      have q := (show RuI gu 0 0 0 w W' ∧ GvI gg gS gG n c ss xs W' from hS')
      obtain ⟨g0, g1, g2⟩ := HGV.out W' q.2
      obtain ⟨r0, r1⟩ := HCN.out W' q.2
      go_simp
      rfl
    try simp only [Act.put, List.setIfInBounds_toArray, List.set_cons_zero, List.set_cons_succ, List.getElem_toArray, List.getElem_cons_zero, List.getElem_cons_succ]
  refine wpAnyS_take (i := 6) (v := .agg (styCells s).toArray) rfl (by kernel_rfl) (by kernel_rfl) (by kernel_rfl) (fun _ _ _ h => h) (by rfl) (gives_yields ?_) ?_
  · refine yieldsIf_load_at (by rfl) 67 (.tmp 11) rfl (⟨gS, k * 43, none⟩) rfl (styCells s) _ ?_ Tryz.underlying67 rfl (by kernel_rfl)
    rintro W' ⟨b', d', u', hS'⟩
    exact HST.out W' hS'.2
  try simp only [Act.put, List.setIfInBounds_toArray, List.set_cons_zero, List.set_cons_succ, List.getElem_toArray, List.getElem_cons_zero, List.getElem_cons_succ]
  refine wpAnyS_pre (j := 7) (by kernel_rfl) ?_
  iterate 20
    refine wpAnyS_nx (v := ?_) rfl (by kernel_rfl) (by kernel_rfl) (by kernel_rfl) (fun _ _ _ h => h) (by rfl) (gives_pureF (by rfl) (by kernel_rfl) ?_) ?_
    rotate_left
    · intro d' u' W' hS'
      have q := (show RuI gu 0 0 0 w W' ∧ GvI gg gS gG n c ss xs W' from hS')
      obtain ⟨g0, g1, g2⟩ := HGV.out W' q.2
      obtain ⟨r0, r1⟩ := HCN.out W' q.2
      go_simp
      rfl
    try simp only [Act.put, List.setIfInBounds_toArray, List.set_cons_zero, List.set_cons_succ, List.getElem_toArray, List.getElem_cons_zero, List.getElem_cons_succ]
  refine wpAnyS_take (i := 27) (v := .tuple #[.agg #[.int .i64 x1, .int .i64 x2, .int .i64 x3], .bool y]) rfl (by kernel_rfl) (by kernel_rfl) (by kernel_rfl) (fun _ _ _ h => h) (by rfl) (gives_callF (by rfl) (by kernel_rfl) _ _ ?_ (fun d' u' W' hS' => (HF.out W').mono (fun _ _ h => ⟨h.1, (show RuI gu 0 0 0 w W' ∧ GvI gg gS gG n c ss xs W' from hS').1.bel h.2, (show RuI gu 0 0 0 w W' ∧ GvI gg gS gG n c ss xs W' from hS').2.bel h.2⟩))) ?_
  · intro W'
    first | rfl | kernel_rfl
  try simp only [Act.put, List.setIfInBounds_toArray, List.set_cons_zero, List.set_cons_succ, List.getElem_toArray, List.getElem_cons_zero, List.getElem_cons_succ]
  refine wpAnyS_pre (j := 28) (by kernel_rfl) ?_
  iterate 2
    refine wpAnyS_nx (v := ?_) rfl (by kernel_rfl) (by kernel_rfl) (by kernel_rfl) (fun _ _ _ h => h) (by rfl) (gives_pureF (by rfl) (by kernel_rfl) ?_) ?_
    rotate_left
    · intro d' u' W' hS'
      have q := (show RuI gu 0 0 0 w W' ∧ GvI gg gS gG n c ss xs W' from hS')
      obtain ⟨g0, g1, g2⟩ := HGV.out W' q.2
      obtain ⟨r0, r1⟩ := HCN.out W' q.2
      go_simp
      rfl
    try simp only [Act.put, List.setIfInBounds_toArray, List.set_cons_zero, List.set_cons_succ, List.getElem_toArray, List.getElem_cons_zero, List.getElem_cons_succ]
  refine wpAnyS_store (i := 30) (d := true) (fun W' => (((W'.setCell ⟨gu, 0, none⟩ (.int .i64 x1)).setCell ⟨gu, 1, none⟩ (.int .i64 x2)).setCell ⟨gu, 2, none⟩ (.int .i64 x3))) rfl (by kernel_rfl) (by rfl) (by rfl) (by kernel_rfl) rfl ?_ (fun W' hS' => ⟨(show RuI gu 0 0 0 w W' ∧ GvI gg gS gG n c ss xs W' from hS').1.fin x1 x2 x3, ((hS'.2.far HNE.out.1 HNE.out.2.1 HNE.out.2.2 _ _).far HNE.out.1 HNE.out.2.1 HNE.out.2.2 _ _).far HNE.out.1 HNE.out.2.1 HNE.out.2.2 _ _⟩) ?_
  · intro W' hS'
    have q := (show RuI gu 0 0 0 w W' ∧ GvI gg gS gG n c ss xs W' from hS')
    obtain ⟨g0, g1, g2⟩ := HGV.out W' q.2
    obtain ⟨r0, r1⟩ := HCN.out W' q.2
    have z0 := q.1.us.get 0 rfl
    have z1 := q.1.us.get 1 rfl
    have z2 := q.1.us.get 2 rfl
    have f0 := q.1.us.frozen 0
    have f1 := q.1.us.frozen 1
    have f2 := q.1.us.frozen 2
    go_simp
    try rfl
  try simp only [Act.put, List.setIfInBounds_toArray, List.set_cons_zero, List.set_cons_succ, List.getElem_toArray, List.getElem_cons_zero, List.getElem_cons_succ]
  refine wpAnyS_take (i := 31) (v := ?_) rfl (by kernel_rfl) (by kernel_rfl) (by kernel_rfl) (fun _ _ _ h => h) (by rfl) (gives_pure (by rfl) ?_) ?_
  rotate_left
  · intro b' d' u' W' hS'
    go_simp
    rfl
  try simp only [Act.put, List.setIfInBounds_toArray, List.set_cons_zero, List.set_cons_succ, List.getElem_toArray, List.getElem_cons_zero, List.getElem_cons_succ]
  refine wpAnyS_done (b := true) (d := true) (by kernel_rfl) (by kernel_rfl) (by kernel_rfl) rfl (fun wS hS => ?_) _
  have HS := Lib.hid hS
  clear hS E0
  go_wp2_with fail
  exact bodyPost_ret (res_used rfl _ _ gu x1 x2 x3 _ rfl rfl (show RuI gu x1 x2 x3 w wS from HS.out.1).us) rfl ⟨rfl, (show RuI gu x1 x2 x3 w wS from HS.out.1).b⟩
end Go.Proofs.YtjhfcpadnofdnaaGreat
