/- The law ContentMore, walked. -/
import Derived.Test.YtenpjdpkilbhkaaLorder
import Derived.Test.YtenpjdpkilbhkaaUp
/- Contracts: jamblaw17.May. -/
/- ContentMore: plain. -/
set_option linter.unusedSimpArgs false
set_option linter.unusedVariables false
namespace Go.Proofs.Ytenpjdpkilbhkaa
open Go.RowKit

/-- Each number at most the other list's. -/
inductive Le2 : List Int → List Int → Prop
  | nil : Le2 [] []
  | cons {a b : Int} {s t : List Int} (h : a ≤ b) (k : Le2 s t) : Le2 (a :: s) (b :: t)
theorem Le2.len {a b : List Int} (h : Le2 a b) : a.length = b.length := by induction h with | nil => rfl | cons _ _ ih => simp [ih]
theorem Le2.sum {a b : List Int} (h : Le2 a b) : a.sum ≤ b.sum := by
  induction h with
  | nil => simp
  | cons h _ ih => simp only [List.sum_cons]; omega
theorem Le2.fold {a b : List Int} (h : Le2 a b) : ∀ x y : Int, x ≤ y → a.foldl max x ≤ b.foldl max y := by
  induction h with
  | nil => intro x y h; exact h
  | cons h _ ih => intro x y hxy; simp only [List.foldl_cons]; exact ih _ _ (by omega)
theorem Le2.most {a b : List Int} (h : Le2 a b) : mostF a ≤ mostF b := h.fold 0 0 (Int.le_refl _)
theorem Le2.flow (l : List Nd) {a b : List Int} (h : Le2 a b) : ∀ ks : List Int, Le2 (flowF l ks a) (flowF l ks b) := by
  induction h with
  | nil => intro ks; cases ks <;> exact Le2.nil
  | cons h k ih =>
    rename_i a b s t
    intro ks
    cases ks with
    | nil => exact Le2.nil
    | cons q ks =>
      have e : ∀ x (u : List Int), flowF l (q :: ks) (x :: u) = if floatAt l q == 0 then x :: flowF l ks u else flowF l ks u := fun x u => by
        unfold flowF
        rw [List.zip_cons_cons]
        split
        · rw [List.filter_cons_of_pos (by assumption)]; rfl
        · rw [List.filter_cons_of_neg (by assumption)]
      rw [e, e]
      split
      · exact Le2.cons h (ih ks)
      · exact ih ks
theorem Le2.side (l : List Nd) {a b : List Int} (h : Le2 a b) : ∀ ks : List Int, Le2 (sideF l ks a) (sideF l ks b) := by
  induction h with
  | nil => intro ks; cases ks <;> exact Le2.nil
  | cons h k ih =>
    rename_i a b s t
    intro ks
    cases ks with
    | nil => exact Le2.nil
    | cons q ks =>
      have e : ∀ x (u : List Int), sideF l (q :: ks) (x :: u) = if floatAt l q == 0 then sideF l ks u else x :: sideF l ks u := fun x u => by
        unfold sideF
        rw [List.zip_cons_cons]
        split
        · rename_i h; rw [List.filter_cons_of_neg (by rw [h]; simp)]
        · rename_i h; rw [List.filter_cons_of_pos (by simpa using h)]; rfl
      rw [e, e]
      split
      · exact ih ks
      · exact Le2.cons h (ih ks)
theorem want_mono (l : List Nd) (adv : List Int) (s : Sty) (ks : List Int) (a b : List Cn) (hn : linesK l ks = false) (hla : a.length = ks.length) (hlb : b.length = ks.length) (ho : Le2 (a.map Cn.ol) (b.map Cn.ol)) (hg : Le2 (a.map Cn.og) (b.map Cn.og)) :
    (wantF l adv s ks a).1 ≤ (wantF l adv s ks b).1 ∧ (wantF l adv s ks a).2.1 ≤ (wantF l adv s ks b).2.1 := by
  have ea : wantF l adv s ks a = wantL l adv s ks a := by rw [wantF_L, ← hla, allF_self]
  have eb : wantF l adv s ks b = wantL l adv s ks b := by rw [wantF_L, ← hlb, allF_self]
  rw [ea, eb]
  unfold wantL
  split
  · refine ⟨?_, hg.sum⟩
    dsimp only
    split
    · exact ho.most
    · exact ho.sum
  · rw [if_neg (by rw [hn]; simp), if_neg (by rw [hn]; simp)]
    refine ⟨ho.most, ?_⟩
    have h1 := (hg.flow l ks).most
    have h2 := (hg.side l ks).sum
    dsimp only
    omega
theorem mostF_snoc (a : List Int) (x : Int) : mostF a ≤ mostF (a ++ [x]) := by
  unfold mostF; rw [List.foldl_append]; simp only [List.foldl_cons, List.foldl_nil]; omega
theorem map_take_snoc (f : Cn → Int) (a : List Cn) {n : Nat} (h : a.length = n + 1) : ∃ x ∈ a, a.map f = (a.take n).map f ++ [f x] := by
  have hn : n < a.length := by omega
  refine ⟨a[n], List.getElem_mem hn, ?_⟩
  have e : a = a.take n ++ [a[n]] := by
    have := List.take_succ_eq_append_getElem hn
    rw [List.take_of_length_le (by omega)] at this
    exact this
  conv => lhs; rw [e]
  rw [List.map_append]; rfl
theorem want_drop (l : List Nd) (adv : List Int) (s : Sty) (ks : List Int) (a : List Cn) {n : Nat} (hk : ks.length = n + 1) (hn : linesK l ks = false) (ha : a.length = n + 1) (h0 : ∀ x ∈ a, 0 ≤ x.ol ∧ 0 ≤ x.og) :
    (wantF l adv s (ks.take n) (a.take n)).1 ≤ (wantF l adv s ks a).1 ∧ (wantF l adv s (ks.take n) (a.take n)).2.1 ≤ (wantF l adv s ks a).2.1 := by
  have hlt : (a.take n).length = (ks.take n).length := by rw [List.length_take, List.length_take]; omega
  have ea : wantF l adv s ks a = wantL l adv s ks a := by rw [wantF_L, hk, ← ha, allF_self]
  have eb : wantF l adv s (ks.take n) (a.take n) = wantL l adv s (ks.take n) (a.take n) := by rw [wantF_L, ← hlt, allF_self]
  have hn2 : linesK l (ks.take n) = false := by
    cases ks with
    | nil => simp at hk
    | cons q t =>
      cases n with
      | zero => rfl
      | succ n => exact hn
  rw [ea, eb]
  unfold wantL
  obtain ⟨x, hx, eo⟩ := map_take_snoc Cn.ol a ha
  obtain ⟨y, hy, eg⟩ := map_take_snoc Cn.og a ha
  have hx0 := (h0 x hx).1
  have hy0 := (h0 y hy).2
  split
  · refine ⟨?_, by dsimp only; rw [eg, List.sum_append]; simp; omega⟩
    dsimp only
    split
    · rw [eo]; exact mostF_snoc _ _
    · rw [eo, List.sum_append]; simp; omega
  · rw [if_neg (by rw [hn2]; simp), if_neg (by rw [hn]; simp)]
    refine ⟨by dsimp only; rw [eo]; exact mostF_snoc _ _, ?_⟩
    have hkn : n < ks.length := by omega
    have hgn : n < (a.map Cn.og).length := by rw [List.length_map]; omega
    have f := flow_succ l hkn hgn
    have g := side_succ l hkn hgn
    rw [List.take_of_length_le (by omega), List.take_of_length_le (by rw [List.length_map]; omega)] at f g
    have et : (a.map Cn.og).take n = (a.take n).map Cn.og := by rw [List.map_take]
    rw [et] at f g
    have hv : 0 ≤ (a.map Cn.og)[n] := by rw [List.getElem_map]; exact (h0 _ (List.getElem_mem _)).2
    dsimp only
    rw [f, g]
    split
    · have := mostF_snoc (flowF l (ks.take n) ((a.take n).map Cn.og)) ((a.map Cn.og)[n]); omega
    · rw [List.sum_append]; simp only [List.sum_cons, List.sum_nil]; omega
theorem con_mono {s : Sty} (hs : StyB s) {r q : Int × Int × Bool} (h1 : r.1 ≤ q.1) (h2 : r.2.1 ≤ q.2.1) : (conP s r).1.least ≤ (conP s q).1.least ∧ (conP s r).1.greatest ≤ (conP s q).1.greatest ∧ (conP s r).1.ol ≤ (conP s q).1.ol ∧ (conP s r).1.og ≤ (conP s q).1.og :=
  ⟨cutF_mono h1, cutF_mono h2, cutF_mono (outP_mono hs h1), cutF_mono (outP_mono hs h2)⟩
/-- More of a child. -/
theorem node_more (l : List Nd) (adv : List Int) {i : Nat} (hi : i < l.length) (hs : StyB l[i].s) (ks : List Int) (a b : List Cn) (hn : linesK l ks = false) (hla : a.length = ks.length) (hlb : b.length = ks.length) (ho : Le2 (a.map Cn.ol) (b.map Cn.ol)) (hg : Le2 (a.map Cn.og) (b.map Cn.og)) :
    (nodeP l adv i ks a).1.least ≤ (nodeP l adv i ks b).1.least ∧ (nodeP l adv i ks a).1.greatest ≤ (nodeP l adv i ks b).1.greatest ∧ (nodeP l adv i ks a).1.ol ≤ (nodeP l adv i ks b).1.ol ∧ (nodeP l adv i ks a).1.og ≤ (nodeP l adv i ks b).1.og := by
  unfold nodeP
  rw [styAt_nat hi]
  simp only
  split
  · simp
  · have h := want_mono l adv l[i].s ks a b hn hla hlb ho hg
    exact con_mono hs h.1 h.2
theorem node_drop (l : List Nd) (adv : List Int) {i : Nat} (hi : i < l.length) (hs : StyB l[i].s) (ks : List Int) (a : List Cn) {n : Nat} (hk : ks.length = n + 1) (hn : linesK l ks = false) (ha : a.length = n + 1) (h0 : ∀ x ∈ a, 0 ≤ x.ol ∧ 0 ≤ x.og) :
    (nodeP l adv i (ks.take n) (a.take n)).1.least ≤ (nodeP l adv i ks a).1.least ∧ (nodeP l adv i (ks.take n) (a.take n)).1.greatest ≤ (nodeP l adv i ks a).1.greatest := by
  unfold nodeP
  rw [styAt_nat hi]
  simp only
  split
  · simp
  · have h := want_drop l adv l[i].s ks a hk hn ha h0
    have := con_mono hs h.1 h.2
    exact ⟨this.1, this.2.1⟩
theorem cnsCells_set2 (l : List Cn) : ∀ (i : Nat) (o g : Int) (h : i < l.length), cnsCells (l.set i ⟨l[i].least, l[i].greatest, o, g⟩) = ((cnsCells l).set (i * 4 + 2) (.int .i64 o)).set (i * 4 + 3) (.int .i64 g) := by
  induction l with
  | nil => intro i o g h; simp at h
  | cons a t ih =>
    intro i o g h
    cases i with
    | zero => simp [cnsCells, cnCells]
    | succ i =>
      have e : ∀ l : List Cn, cnsCells (a :: l) = (.int .i64 a.least) :: (.int .i64 a.greatest) :: (.int .i64 a.ol) :: (.int .i64 a.og) :: cnsCells l := fun l => by simp [cnsCells, cnCells]
      have hi : i < t.length := by simpa using h
      rw [List.set_cons_succ, e, e, List.getElem_cons_succ, ih i o g hi, show (i + 1) * 4 = i * 4 + 1 + 1 + 1 + 1 by omega]
      simp [List.set_cons_succ, Nat.add_right_comm]
theorem le2_refl (a : List Int) : Le2 a a := by induction a with | nil => exact .nil | cons x t ih => exact .cons (Int.le_refl _) ih
theorem le2_set (f : Cn → Int) (a : List Cn) : ∀ (k : Nat) (y : Cn) (h : k < a.length), f a[k] ≤ f y → Le2 (a.map f) ((a.set k y).map f) := by
  induction a with
  | nil => intro k y h; simp at h
  | cons x t ih =>
    intro k y h hf
    cases k with
    | zero => exact .cons hf (le2_refl _)
    | succ k => exact .cons (Int.le_refl _) (ih k y (by simpa using h) (by simpa using hf))
end Go.Proofs.Ytenpjdpkilbhkaa
set_option linter.unusedSimpArgs false
set_option linter.unusedVariables false
namespace Go.Proofs.Ytenpjdpkilbhkaa
open Go.RowKit
attribute [local go_sem] block_of_add

def quad (x : Cn) : List Int := [x.least, x.greatest, x.ol, x.og]
/-- Contents within the bound. -/
def CnB (M : Int) (x : Cn) : Prop := ∀ (k : Nat) (h : k < 4), 0 ≤ (quad x)[k] ∧ (quad x)[k] ≤ M
structure MayOk (got : List Cn) : Prop where
  n : got.length ≤ 400
  b : ∀ (i : Nat) (h : i < got.length), CnB 1099511627776 got[i]
/-- A content that is read. -/
structure ConS (ad : Addr) (i : Nat) (x : Cn) (W : World) : Prop where
  lt : ad.block < W.heap.size
  c0 : W.cell? (ad.add (i * 4)) = some (.int .i64 x.least)
  c1 : W.cell? ⟨ad.block, (ad.add (i * 4)).off + 1, none⟩ = some (.int .i64 x.greatest)
  c2 : W.cell? ⟨ad.block, (ad.add (i * 4)).off + 2, none⟩ = some (.int .i64 x.ol)
  c3 : W.cell? ⟨ad.block, (ad.add (i * 4)).off + 3, none⟩ = some (.int .i64 x.og)
theorem ConS.below {ad : Addr} {i : Nat} {x : Cn} {W W' : World} (h : ConS ad i x W) (hb : Below W.heap.size W W') : ConS ad i x W' :=
  ⟨Nat.lt_of_lt_of_le h.lt hb.size, (hb.cell (p := ad.add (i * 4)) (by rw [block_of_add]; exact h.lt)).trans h.c0, (hb.cell (p := ⟨ad.block, (ad.add (i * 4)).off + 1, none⟩) h.lt).trans h.c1, (hb.cell (p := ⟨ad.block, (ad.add (i * 4)).off + 2, none⟩) h.lt).trans h.c2, (hb.cell (p := ⟨ad.block, (ad.add (i * 4)).off + 3, none⟩) h.lt).trans h.c3⟩
section
variable (got : List Cn) (A : Option Addr) (c : Nat) (w : World)
set_option maxRecDepth 100000 in
set_option maxHeartbeats 1000000 in
theorem may_any17 (hg : Reads w w.heap.size 4 A got.length (cnsCells got)) :
    Calls Try.prog 11 #[.slice A got.length c] w fun e w' => BoolAns (MayOk got) w w' e := by
  have HG := Lib.hid hg
  clear hg
  cases h1 : decide (400 < got.length)
  rotate_left
  · have h1' : decide ((400 : Int) < (got.length : Int)) = true := decide_eq_true (by have := of_decide_eq_true h1; omega)
    go_enter Try.func11, Try.ntmps11
    go_wp2_with fail
    go_ret
    exact ⟨⟨false, rfl, by simp⟩, Below.refl _ _⟩
  have h1' : decide ((400 : Int) < (got.length : Int)) = false := decide_eq_false (by have := of_decide_eq_false h1; omega)
  have HN := Lib.hid (show got.length ≤ 400 by have := of_decide_eq_false h1; omega)
  go_enter Try.func11, Try.ntmps11
  go_wp2_with fail
  clear h1 h1'
  go_loopw [3, 4, 5] (fun iv v4 v5 wr => ∃ i : Nat, i ≤ got.length ∧ iv = .int .i64 i ∧ Hid ((∀ (j : Nat) (h : j < got.length), j < i → CnB 1099511627776 got[j]) ∧ Below w.heap.size w wr)) (fun iv _ _ _ => got.length - (intOf iv).toNat)
  case atStart => exact ⟨0, by omega, rfl, Lib.hid ⟨fun j h h2 => by omega, Below.refl _ _⟩⟩
  case round =>
    obtain ⟨i, hi, rfl, H⟩ := hrel
    have hwi : IntKind.i64.wrap ((i : Int) + 1) = (i : Int) + 1 := IntWalk.i64_in _ ⟨by omega, by have := HN.out; omega⟩
    by_cases hil : i < got.length
    rotate_left
    · have d0 : decide ((i : Int) < (got.length : Int)) = false := decide_eq_false (by omega)
      have d0' : decide (i < got.length) = false := decide_eq_false hil
      go_wp2_with fail
      go_ret
      exact ⟨⟨true, rfl, fun _ => ⟨HN.out, fun j h => H.out.1 j h (by omega)⟩⟩, H.out.2⟩
    have d0 : decide ((i : Int) < (got.length : Int)) = true := decide_eq_true (by omega)
    have d0' : decide (i < got.length) = true := decide_eq_true hil
    have hii : (i : Int) < (got.length : Int) := by omega
    obtain ⟨ad, hA, hab, x0, x1, x2, x3⟩ := (HG.out.below H.out.2).cn rfl hil
    subst hA
    obtain ⟨x, hx⟩ : ∃ x, x = got[i] := ⟨_, rfl⟩
    rw [← hx] at x0 x1 x2 x3
    have HX := Lib.hid hx
    have HS0 : Hid (ConS ad i x wr) := Lib.hid ⟨Nat.lt_of_lt_of_le hab H.out.2.size, x0, x1, x2, x3⟩
    clear hx x0 x1 x2 x3 hab
    go_upto_region 6 with (fail)
    refine wp_region_held_drew (S := ConS ad i x) (by kernel_rfl) (HS0.out.below (Below.refl _ _).drew) (fun hS => ?_)
    refine wpAnyH_take (i := 0) (v := ?_) rfl (by kernel_rfl) (by kernel_rfl) (by kernel_rfl) (fun _ _ _ h => h) (Or.inl ⟨by rfl, ?_⟩) hS ?_
    rotate_left
    · rintro W' ⟨lt', c0', c1', c2', c3'⟩
      go_simp
      rfl
    try simp only [Act.put, List.setIfInBounds_toArray, List.set_cons_zero, List.set_cons_succ, List.getElem_toArray, List.getElem_cons_zero, List.getElem_cons_succ]
    refine wpAnyH_take (i := 1) (v := ?_) rfl (by kernel_rfl) (by kernel_rfl) (by kernel_rfl) (fun _ _ _ h => h) (Or.inl ⟨by rfl, ?_⟩) hS ?_
    rotate_left
    · rintro W' ⟨lt', c0', c1', c2', c3'⟩
      go_simp
      rfl
    try simp only [Act.put, List.setIfInBounds_toArray, List.set_cons_zero, List.set_cons_succ, List.getElem_toArray, List.getElem_cons_zero, List.getElem_cons_succ]
    refine wpAnyH_take (i := 2) (v := ?_) rfl (by kernel_rfl) (by kernel_rfl) (by kernel_rfl) (fun _ _ _ h => h) (Or.inl ⟨by rfl, ?_⟩) hS ?_
    rotate_left
    · rintro W' ⟨lt', c0', c1', c2', c3'⟩
      go_simp
      rfl
    try simp only [Act.put, List.setIfInBounds_toArray, List.set_cons_zero, List.set_cons_succ, List.getElem_toArray, List.getElem_cons_zero, List.getElem_cons_succ]
    refine wpAnyH_take (i := 3) (v := ?_) rfl (by kernel_rfl) (by kernel_rfl) (by kernel_rfl) (fun _ _ _ h => h) (Or.inl ⟨by rfl, ?_⟩) hS ?_
    rotate_left
    · rintro W' ⟨lt', c0', c1', c2', c3'⟩
      go_simp
      rfl
    try simp only [Act.put, List.setIfInBounds_toArray, List.set_cons_zero, List.set_cons_succ, List.getElem_toArray, List.getElem_cons_zero, List.getElem_cons_succ]
    refine wpAnyH_take (i := 4) (v := ?_) rfl (by kernel_rfl) (by kernel_rfl) (by kernel_rfl) (fun _ _ _ h => h) (Or.inl ⟨by rfl, ?_⟩) hS ?_
    rotate_left
    · rintro W' ⟨lt', c0', c1', c2', c3'⟩
      go_simp
      rfl
    try simp only [Act.put, List.setIfInBounds_toArray, List.set_cons_zero, List.set_cons_succ, List.getElem_toArray, List.getElem_cons_zero, List.getElem_cons_succ]
    refine wpAnyH_take (i := 5) (v := ?_) rfl (by kernel_rfl) (by kernel_rfl) (by kernel_rfl) (fun _ _ _ h => h) (Or.inl ⟨by rfl, ?_⟩) hS ?_
    rotate_left
    · rintro W' ⟨lt', c0', c1', c2', c3'⟩
      go_simp
      rfl
    try simp only [Act.put, List.setIfInBounds_toArray, List.set_cons_zero, List.set_cons_succ, List.getElem_toArray, List.getElem_cons_zero, List.getElem_cons_succ]
    refine wpAnyH_take (i := 6) (v := ?_) rfl (by kernel_rfl) (by kernel_rfl) (by kernel_rfl) (fun _ _ _ h => h) (Or.inl ⟨by rfl, ?_⟩) hS ?_
    rotate_left
    · rintro W' ⟨lt', c0', c1', c2', c3'⟩
      go_simp
      rfl
    try simp only [Act.put, List.setIfInBounds_toArray, List.set_cons_zero, List.set_cons_succ, List.getElem_toArray, List.getElem_cons_zero, List.getElem_cons_succ]
    refine wpAnyH_take (i := 7) (v := ?_) rfl (by kernel_rfl) (by kernel_rfl) (by kernel_rfl) (fun _ _ _ h => h) (Or.inl ⟨by rfl, ?_⟩) hS ?_
    rotate_left
    · rintro W' ⟨lt', c0', c1', c2', c3'⟩
      go_simp
      rfl
    try simp only [Act.put, List.setIfInBounds_toArray, List.set_cons_zero, List.set_cons_succ, List.getElem_toArray, List.getElem_cons_zero, List.getElem_cons_succ]
    refine wpAnyH_take (i := 8) (v := ?_) rfl (by kernel_rfl) (by kernel_rfl) (by kernel_rfl) (fun _ _ _ h => h) (Or.inl ⟨by rfl, ?_⟩) hS ?_
    rotate_left
    · rintro W' ⟨lt', c0', c1', c2', c3'⟩
      go_simp
      rfl
    try simp only [Act.put, List.setIfInBounds_toArray, List.set_cons_zero, List.set_cons_succ, List.getElem_toArray, List.getElem_cons_zero, List.getElem_cons_succ]
    refine wpAnyH_take (i := 9) (v := ?_) rfl (by kernel_rfl) (by kernel_rfl) (by kernel_rfl) (fun _ _ _ h => h) (Or.inl ⟨by rfl, ?_⟩) hS ?_
    rotate_left
    · rintro W' ⟨lt', c0', c1', c2', c3'⟩
      go_simp
      rfl
    try simp only [Act.put, List.setIfInBounds_toArray, List.set_cons_zero, List.set_cons_succ, List.getElem_toArray, List.getElem_cons_zero, List.getElem_cons_succ]
    refine wpAnyH_take (i := 10) (v := ?_) rfl (by kernel_rfl) (by kernel_rfl) (by kernel_rfl) (fun _ _ _ h => h) (Or.inl ⟨by rfl, ?_⟩) hS ?_
    rotate_left
    · rintro W' ⟨lt', c0', c1', c2', c3'⟩
      go_simp
      rfl
    try simp only [Act.put, List.setIfInBounds_toArray, List.set_cons_zero, List.set_cons_succ, List.getElem_toArray, List.getElem_cons_zero, List.getElem_cons_succ]
    refine wpAnyH_take (i := 11) (v := ?_) rfl (by kernel_rfl) (by kernel_rfl) (by kernel_rfl) (fun _ _ _ h => h) (Or.inl ⟨by rfl, ?_⟩) hS ?_
    rotate_left
    · rintro W' ⟨lt', c0', c1', c2', c3'⟩
      go_simp
      rfl
    try simp only [Act.put, List.setIfInBounds_toArray, List.set_cons_zero, List.set_cons_succ, List.getElem_toArray, List.getElem_cons_zero, List.getElem_cons_succ]
    refine wpAnyH_take (i := 12) (v := ?_) rfl (by kernel_rfl) (by kernel_rfl) (by kernel_rfl) (fun _ _ _ h => h) (Or.inl ⟨by rfl, ?_⟩) hS ?_
    rotate_left
    · rintro W' ⟨lt', c0', c1', c2', c3'⟩
      go_simp
      rfl
    try simp only [Act.put, List.setIfInBounds_toArray, List.set_cons_zero, List.set_cons_succ, List.getElem_toArray, List.getElem_cons_zero, List.getElem_cons_succ]
    refine wpAnyH_take (i := 13) (v := ?_) rfl (by kernel_rfl) (by kernel_rfl) (by kernel_rfl) (fun _ _ _ h => h) (Or.inl ⟨by rfl, ?_⟩) hS ?_
    rotate_left
    · rintro W' ⟨lt', c0', c1', c2', c3'⟩
      go_simp
      rfl
    try simp only [Act.put, List.setIfInBounds_toArray, List.set_cons_zero, List.set_cons_succ, List.getElem_toArray, List.getElem_cons_zero, List.getElem_cons_succ]
    refine wpAnyH_take (i := 14) (v := ?_) rfl (by kernel_rfl) (by kernel_rfl) (by kernel_rfl) (fun _ _ _ h => h) (Or.inl ⟨by rfl, ?_⟩) hS ?_
    rotate_left
    · rintro W' ⟨lt', c0', c1', c2', c3'⟩
      go_simp
      rfl
    try simp only [Act.put, List.setIfInBounds_toArray, List.set_cons_zero, List.set_cons_succ, List.getElem_toArray, List.getElem_cons_zero, List.getElem_cons_succ]
    refine wpAnyH_take (i := 15) (v := ?_) rfl (by kernel_rfl) (by kernel_rfl) (by kernel_rfl) (fun _ _ _ h => h) (Or.inl ⟨by rfl, ?_⟩) hS ?_
    rotate_left
    · rintro W' ⟨lt', c0', c1', c2', c3'⟩
      go_simp
      rfl
    try simp only [Act.put, List.setIfInBounds_toArray, List.set_cons_zero, List.set_cons_succ, List.getElem_toArray, List.getElem_cons_zero, List.getElem_cons_succ]
    refine wpAnyH_take (i := 16) (v := ?_) rfl (by kernel_rfl) (by kernel_rfl) (by kernel_rfl) (fun _ _ _ h => h) (Or.inl ⟨by rfl, ?_⟩) hS ?_
    rotate_left
    · rintro W' ⟨lt', c0', c1', c2', c3'⟩
      go_simp
      rfl
    try simp only [Act.put, List.setIfInBounds_toArray, List.set_cons_zero, List.set_cons_succ, List.getElem_toArray, List.getElem_cons_zero, List.getElem_cons_succ]
    refine wpAnyH_take (i := 17) (v := ?_) rfl (by kernel_rfl) (by kernel_rfl) (by kernel_rfl) (fun _ _ _ h => h) (Or.inl ⟨by rfl, ?_⟩) hS ?_
    rotate_left
    · rintro W' ⟨lt', c0', c1', c2', c3'⟩
      go_simp
      rfl
    try simp only [Act.put, List.setIfInBounds_toArray, List.set_cons_zero, List.set_cons_succ, List.getElem_toArray, List.getElem_cons_zero, List.getElem_cons_succ]
    refine wpAnyH_take (i := 18) (v := ?_) rfl (by kernel_rfl) (by kernel_rfl) (by kernel_rfl) (fun _ _ _ h => h) (Or.inl ⟨by rfl, ?_⟩) hS ?_
    rotate_left
    · rintro W' ⟨lt', c0', c1', c2', c3'⟩
      go_simp
      rfl
    try simp only [Act.put, List.setIfInBounds_toArray, List.set_cons_zero, List.set_cons_succ, List.getElem_toArray, List.getElem_cons_zero, List.getElem_cons_succ]
    refine wpAnyH_take (i := 19) (v := ?_) rfl (by kernel_rfl) (by kernel_rfl) (by kernel_rfl) (fun _ _ _ h => h) (Or.inl ⟨by rfl, ?_⟩) hS ?_
    rotate_left
    · rintro W' ⟨lt', c0', c1', c2', c3'⟩
      go_simp
      rfl
    try simp only [Act.put, List.setIfInBounds_toArray, List.set_cons_zero, List.set_cons_succ, List.getElem_toArray, List.getElem_cons_zero, List.getElem_cons_succ]
    refine wpAnyH_ready (rs := [20]) (by kernel_rfl) (by simp) (AllReadyH.cons rfl (fun K hK => ?_) AllReadyH.nil)
    go_simp
    refine hK.out _ _ (hS.below ((Below.refl _ _).alloc (Nat.le_refl _) _)) (fun hS => ?_)
    try simp only [Act.put, List.setIfInBounds_toArray, List.set_cons_zero, List.set_cons_succ, List.getElem_toArray, List.getElem_cons_zero, List.getElem_cons_succ]
    clear hK
    refine wpAnyH_take (i := 21) (v := ?_) rfl (by kernel_rfl) (by kernel_rfl) (by kernel_rfl) (fun _ _ _ h => h) (Or.inl ⟨by rfl, ?_⟩) hS ?_
    rotate_left
    · rintro W' ⟨lt', c0', c1', c2', c3'⟩
      go_simp
      rfl
    try simp only [Act.put, List.setIfInBounds_toArray, List.set_cons_zero, List.set_cons_succ, List.getElem_toArray, List.getElem_cons_zero, List.getElem_cons_succ]
    refine wpAnyH_done (by kernel_rfl) ?_ _
    have HQ : Hid (Blk ((wr.alloc (.cells #[.int .i64 x.least, .int .i64 x.greatest, .int .i64 x.ol, .int .i64 x.og] 2)).drew) wr.heap.size 2 (i64s (quad x)).toArray ∧ Below w.heap.size w ((wr.alloc (.cells #[.int .i64 x.least, .int .i64 x.greatest, .int .i64 x.ol, .int .i64 x.og] 2)).drew)) := Lib.hid ⟨(Blk.new wr _ _).drew, (H.out.2.alloc H.out.2.size _).drew⟩
    clear hS
    go_wp2_with fail
    obtain ⟨wq, hwq⟩ : ∃ wq, wq = ((wr.alloc (.cells #[.int .i64 x.least, .int .i64 x.greatest, .int .i64 x.ol, .int .i64 x.og] 2)).drew) := ⟨_, rfl⟩
    rw [← hwq] at HQ
    rw [← hwq]
    clear hwq
    go_loopw [5] (fun kv wx => ∃ k : Nat, k ≤ 4 ∧ kv = .int .i64 k ∧ Hid (∀ (j : Nat) (h : j < 4), j < k → 0 ≤ (quad x)[j] ∧ (quad x)[j] ≤ 1099511627776) ∧ wq = wx) (fun kv _ => 4 - (intOf kv).toNat)
    case atStart => exact ⟨0, by omega, rfl, Lib.hid (fun j h h2 => by omega), rfl⟩
    case round =>
      obtain ⟨k, hk, rfl, H2, rfl⟩ := hrel
      have hwk : IntKind.i64.wrap ((k : Int) + 1) = (k : Int) + 1 := IntWalk.i64_in _ ⟨by omega, by omega⟩
      by_cases hk4 : k < 4
      · have g0 : decide ((k : Int) < 4) = true := decide_eq_true (by omega)
        have g0' : decide (k < 4) = true := decide_eq_true hk4
        have hki : (k : Int) < 4 := by omega
        obtain ⟨v, hv⟩ : ∃ v, v = (quad x)[k]'(by exact hk4) := ⟨_, rfl⟩
        have vq : wq.cell? ⟨wr.heap.size, k, none⟩ = some (.int .i64 v) := HQ.out.1.get k (by
          rw [List.getElem?_toArray, i64s, List.getElem?_map, List.getElem?_eq_getElem (show k < (quad x).length from hk4), hv]; rfl)
        have HVV := Lib.hid hv
        clear hv
        cases c1 : decide (v < 0)
        rotate_left
        · go_wp2_with fail
          go_ret
          exact ⟨⟨false, rfl, by simp⟩, HQ.out.2⟩
        cases c2 : decide (1099511627776 < v)
        rotate_left
        · go_wp2_with fail
          go_ret
          exact ⟨⟨false, rfl, by simp⟩, HQ.out.2⟩
        have HC := Lib.hid (show 0 ≤ v ∧ v ≤ 1099511627776 by have := of_decide_eq_false c1; have := of_decide_eq_false c2; omega)
        go_wp2_with fail
        go_roundw
        case rel => exact ⟨k + 1, by omega, by go_num, Lib.hid (fun j h h2 => by
          by_cases hj : j = k
          · subst hj; rw [← HVV.out]; exact HC.out
          · exact H2.out j h (by omega)), trivial⟩
        case measure => simp [intOf]; omega
      · have g0 : decide ((k : Int) < 4) = false := decide_eq_false (by omega)
        have g0' : decide (k < 4) = false := decide_eq_false hk4
        have HXX : Hid (CnB 1099511627776 got[i]) := Lib.hid (by rw [← HX.out]; exact fun j h => H2.out j h (by omega))
        go_wp2_with fail
        go_roundw
        case rel => exact ⟨i + 1, by omega, by go_num, Lib.hid ⟨fun j h h2 => by
          by_cases hj : j = i
          · subst hj; exact HXX.out
          · exact H.out.1 j h (by omega), HQ.out.2⟩⟩
        case measure => simp [intOf]; omega
end
end Go.Proofs.Ytenpjdpkilbhkaa
set_option linter.unusedSimpArgs false
set_option linter.unusedVariables false
namespace Go.Proofs.Ytenpjdpkilbhkaa
open Go.RowKit
attribute [local go_sem] block_of_add

theorem own_open {w : World} {base : Nat} {e : TypeId} {A : Option Addr} {n c : Nat} {xs : List Value} (h : w.ownsRow base e 4 (.slice A n c) n xs) (hn : 0 < n) :
    ∃ g cur, A = some ⟨g, 0, none⟩ ∧ base ≤ g ∧ Blk w g e cur ∧ n ≤ c ∧ c ≤ maxLen ∧ cur.size = c * 4 ∧ cur.toList.take (n * 4) = xs := by
  rcases h.2 with ⟨h1, h2⟩ | ⟨g, cap, cur, h1, h2, h3, h4, h5, h6, h7⟩
  · omega
  · injection h1 with h8 h9 h10
    exact ⟨g, cur, h8, h2, h3, by omega, by omega, by rw [h10]; exact h6, h7⟩
theorem Reads.pre {w : World} {B size n k : Nat} {A : Option Addr} {xs : List Value} (h : Reads w B size A n xs) (hk : k ≤ n) : Reads w B size A k (xs.take (k * size)) := by
  refine ⟨by rw [List.length_take, h.1]; exact Nat.min_eq_left (Nat.mul_le_mul_right _ hk), fun h0 => ?_⟩
  obtain ⟨ad, e, hb, hc⟩ := h.2 (by omega)
  exact ⟨ad, e, hb, fun j u hu => hc j u (by
    have hj : j < k * size := by have := (List.getElem?_eq_some_iff.1 hu).1; rw [List.length_take] at this; omega
    rw [List.getElem?_take_of_lt hj] at hu; exact hu)⟩
/-- A tree's variable. -/
structure TrS (g0 n c m c2 : Nat) (A A2 : Option Addr) (view : Int) (W : World) : Prop where
  l0 : g0 < W.heap.size
  c0 : W.cell? ⟨g0, 0, none⟩ = some (.slice A n c)
  c1 : W.cell? ⟨g0, 1, none⟩ = some (.slice A2 m c2)
  c2 : W.cell? ⟨g0, 2, none⟩ = some (.int .i64 view)
theorem TrS.below {g0 n c m c2 : Nat} {A A2 : Option Addr} {view : Int} {W W' : World} (h : TrS g0 n c m c2 A A2 view W) (hb : Below W.heap.size W W') : TrS g0 n c m c2 A A2 view W' :=
  ⟨Nat.lt_of_lt_of_le h.l0 hb.size, (hb.cell (p := ⟨g0, 0, none⟩) h.l0).trans h.c0, (hb.cell (p := ⟨g0, 1, none⟩) h.l0).trans h.c1, (hb.cell (p := ⟨g0, 2, none⟩) h.l0).trans h.c2⟩
theorem TrS.set_ {g0 n c m c2 : Nat} {A A2 : Option Addr} {view : Int} {W : World} (h : TrS g0 n c m c2 A A2 view W) {p : Addr} (h0 : ¬ g0 = p.block) (u : Value) : TrS g0 n c m c2 A A2 view (W.setCell p u) :=
  have e : ∀ j, (W.setCell p u).cell? ⟨g0, j, none⟩ = W.cell? ⟨g0, j, none⟩ := fun j => World.cell?_of_block (Below.heap_setCell W p u g0 h0)
  ⟨by simpa [World.setCell] using h.l0, (e _).trans h.c0, (e _).trans h.c1, (e _).trans h.c2⟩
theorem cns_take (l : List Cn) (m : Nat) : (cnsCells l).take (m * 4) = cnsCells (l.take m) := by
  have e : cnsCells l = cnsCells (l.take m) ++ cnsCells (l.drop m) := by rw [← cnsCells_app, List.take_append_drop]
  by_cases h : m ≤ l.length
  · rw [e, List.take_append_of_le_length (by rw [cnsCells_len, List.length_take]; omega), List.take_of_length_le (by rw [cnsCells_len, List.length_take]; omega)]
  · rw [List.take_of_length_le (by rw [cnsCells_len]; omega), List.take_of_length_le (by omega)]
theorem i64s_take (l : List Int) (m : Nat) : (i64s l).take (m * 1) = i64s (l.take m) := by rw [Nat.mul_one, i64s, i64s, List.map_take]
theorem take_at {cur : Array Value} {xs : List Value} {m j : Nat} (h : cur.toList.take m = xs) (hj : j < m) : cur[j]? = xs[j]? := by
  rw [← h, List.getElem?_take_of_lt hj, Array.getElem?_toList]
section
variable (l : List Nd) (adv : List Int) (got : List Cn) (A A2 Ag : Option Addr) (c c2 cg : Nat) (view : Int) (wh by_ : Nat) (w : World)
set_option maxRecDepth 100000 in
set_option maxHeartbeats 1000000 in
theorem contentMore_any (ht : TrI w A A2 l adv) (hg : Reads w w.heap.size 4 Ag got.length (cnsCells got)) (hwh : wh < 256) (hby : by_ < 65536) :
    Calls Try.prog 5 #[.agg #[.slice A l.length c, .slice A2 adv.length c2, .int .i64 view], .slice Ag got.length cg, .int .u8 wh, .int .u16 by_] w fun e w' => e = .returned (.bool true) ∧ Below w.heap.size w w' := by
  have HT := Lib.hid ht
  have HG := Lib.hid hg
  have HBY := Lib.hid (And.intro hwh hby)
  have HB1 : Hid (Below w.heap.size w (w.alloc (.cells #[.slice A l.length c, .slice A2 adv.length c2, .int .i64 view] 25))) := Lib.hid ((Below.refl _ _).alloc (Nat.le_refl _) _)
  have HBT : Hid (Blk (w.alloc (.cells #[.slice A l.length c, .slice A2 adv.length c2, .int .i64 view] 25)) w.heap.size 25 #[.slice A l.length c, .slice A2 adv.length c2, .int .i64 view]) := Lib.hid (Blk.new _ _ _)
  have HSM := Lib.hid (small_any l adv A A2 c c2 view (w.alloc (.cells #[.slice A l.length c, .slice A2 adv.length c2, .int .i64 view] 25)) ((ht.nd.below HB1.out).more HB1.out.size) ((ht.ad.below HB1.out).more HB1.out.size) (fun x hx => by obtain ⟨Au, cu, h1, _⟩ := ht.un x hx; exact ⟨Au, cu, h1⟩))
  clear ht hg hwh hby
  go_enter Try.func5, Try.ntmps5
  go_wp2_with fail
  refine HSM.out.mono ?_
  rintro e w1 ⟨⟨b, rfl, hb⟩, hw1⟩
  have HS := Lib.hid hb
  have HB2 := Lib.hid (HB1.out.trans (hw1.mono HB1.out.size))
  have HT1 := Lib.hid (HBT.out.below hw1 HBT.out.lt)
  clear hb hw1
  cases b
  · go_wp2_with fail
    refine (works_any _).mono ?_
    rintro e w2 ⟨rfl, hw2⟩
    have HB3 := Lib.hid (HB2.out.trans (hw2.mono HB2.out.size))
    clear hw2
    go_wp2_with fail
    go_ret
    exact ⟨rfl, HB3.out⟩
  have HOK := Lib.hid (HS.out (by simp))
  have HH := Lib.hid (HT.out.trh HOK.out)
  go_wp2_with fail
  refine (may_any17 got Ag cg w1 ((HG.out.below HB2.out).more HB2.out.size)).mono ?_
  rintro e w2 ⟨⟨b, rfl, hb⟩, hw2⟩
  have HM := Lib.hid hb
  have HB3 := Lib.hid (HB2.out.trans (hw2.mono HB2.out.size))
  have HT2 := Lib.hid (HT1.out.below hw2 HT1.out.lt)
  clear hb hw2
  cases b
  · go_wp2_with fail
    refine (works_any _).mono ?_
    rintro e w3 ⟨rfl, hw3⟩
    have HB4 := Lib.hid (HB3.out.trans (hw3.mono HB3.out.size))
    clear hw3
    go_wp2_with fail
    go_ret
    exact ⟨rfl, HB4.out⟩
  have HMO := Lib.hid (HM.out (by simp))
  have HN := Lib.hid HMO.out.n
  go_wp2_with fail
  go_loopw [9, 10, 11] (fun iv v10 v11 wr => ∃ i : Nat, i ≤ got.length ∧ iv = .int .i64 i ∧ Hid ((∀ (j : Nat) (h : j < got.length), j < i → CnB 1073741824 got[j]) ∧ Below w2.heap.size w2 wr)) (fun iv _ _ _ => got.length - (intOf iv).toNat)
  case atStart => exact ⟨0, by omega, rfl, Lib.hid ⟨fun j h h2 => by omega, Below.refl _ _⟩⟩
  case round =>
    obtain ⟨i, hi, rfl, H⟩ := hrel
    have hwi : IntKind.i64.wrap ((i : Int) + 1) = (i : Int) + 1 := IntWalk.i64_in _ ⟨by omega, by have := HN.out; omega⟩
    by_cases hil : i < got.length
    rotate_left
    · have d0 : decide ((i : Int) < (got.length : Int)) = false := decide_eq_false (by omega)
      have d0' : decide (i < got.length) = false := decide_eq_false hil
      have HTW := Lib.hid (HT2.out.below H.out.2 HT2.out.lt)
      have bt := HTW.out.c3
      go_wp2_with fail
      have HGB : Hid (∀ (j : Nat) (h : j < got.length), CnB 1073741824 got[j]) := Lib.hid (fun j h => H.out.1 j h (by omega))
      have HBW := Lib.hid (HB3.out.trans (H.out.2.mono HB3.out.size))
      refine (kids_any l A A2 c adv.length c2 view wr (by have := HH.out.n; omega) ((HH.out.nd.below HBW.out).more HBW.out.size)).mono ?_
      rintro e w3 ⟨⟨gk, rfl, hka⟩, hb3⟩
      have HK3 := Lib.hid hka
      have HB4 := Lib.hid (HBW.out.trans (hb3.mono HBW.out.size))
      have HT3 := Lib.hid (HTW.out.below hb3 HTW.out.lt)
      have HNL := Lib.hid HOK.out.n
      clear bt hka hb3
      go_wp2_with fail
      go_loopw [13, 14, 15, 16, 17, 18, 19, 20, 21, 22, 23] (fun iv v14 v15 v16 v17 v18 v19 v20 v21 v22 v23 wx => ∃ t : Nat, t ≤ l.length ∧ iv = .int .i64 t ∧ Hid (Below w3.heap.size w3 wx)) (fun iv _ _ _ _ _ _ _ _ _ _ _ => l.length - (intOf iv).toNat)
      case atStart => exact ⟨0, by omega, rfl, Lib.hid (Below.refl _ _)⟩
      case round =>
        obtain ⟨t, ht, rfl, HW⟩ := hrel
        have hwt : IntKind.i64.wrap ((t : Int) + 1) = (t : Int) + 1 := IntWalk.i64_in _ ⟨by omega, by have := HNL.out; omega⟩
        have HTX := Lib.hid (HT3.out.below HW.out HT3.out.lt)
        have bt := HTX.out.c3
        by_cases htl : t < l.length
        rotate_left
        · have t0 : decide ((t : Int) < (l.length : Int)) = false := decide_eq_false (by omega)
          have t0' : decide (t < l.length) = false := decide_eq_false htl
          go_wp2_with fail
          refine (works_any _).mono ?_
          rintro e w9 ⟨rfl, hw9⟩
          have HB9 := Lib.hid (HB4.out.trans ((HW.out.trans (hw9.mono HW.out.size)).mono HB4.out.size))
          clear bt hw9
          go_wp2_with fail
          go_ret
          exact ⟨rfl, HB9.out⟩
        have t0 : decide ((t : Int) < (l.length : Int)) = true := decide_eq_true (by omega)
        have t0' : decide (t < l.length) = true := decide_eq_true htl
        have htt : (t : Int) < (l.length : Int) := by omega
        obtain ⟨Ak, ck, hk1, hk2, hk3, hk4⟩ := (HK3.out.below HW.out).at_ t htl
        obtain ⟨ks, hks⟩ : ∃ ks, ks = kidsF l t := ⟨_, rfl⟩
        have hkn := kids_len l t
        rw [← hks] at hk1 hk2 hk3 hkn
        have hmem : ∀ k, k ∈ ks → ∃ n : Nat, k = n ∧ n < l.length := by rw [hks]; exact fun k h => by obtain ⟨n, h1, h2, _⟩ := kids_mem h; exact ⟨n, h1, h2⟩
        have HKS := Lib.hid hks
        have HMEM := Lib.hid hmem
        have HKR := Lib.hid hk3
        have HK1 := Lib.hid hk1
        have HKC := Lib.hid hk2
        clear hks hk2 hk3 hk4
        by_cases h0 : ks.length = 0
        · have z0 : (ks.length == 0) = true := beq_iff_eq.2 h0
          have z0' : ((ks.length : Int) == 0) = true := beq_iff_eq.2 (by omega)
          clear h0
          go_upto_region 17 with (fail)
          go_quiet (fail)
          go_wp2_with fail
          go_roundw
          case rel => exact ⟨t + 1, by omega, by go_num, Lib.hid (below_dr HW.out _)⟩
          case measure => simp [intOf]; omega
        have z0 : (ks.length == 0) = false := beq_eq_false_iff_ne.2 h0
        have z0' : ((ks.length : Int) == 0) = false := beq_eq_false_iff_ne.2 (by omega)
        have hpos : 0 < ks.length := by omega
        have HPOS := Lib.hid hpos
        obtain ⟨q0, hq0, hq0l⟩ := hmem ks[0] (List.getElem_mem hpos)
        obtain ⟨adk, u, hAk, hab, hx, hc⟩ := HKR.out.at_ hpos
        subst hAk
        have hu : u = .int .i64 (q0 : Int) := by
          have h2 := hx
          unfold i64s at h2
          have e : ks[0]? = some (q0 : Int) := by rw [List.getElem?_eq_getElem hpos]; exact congrArg some hq0
          rw [List.getElem?_map, e] at h2
          injection h2 with h2
          exact h2.symm
        subst hu
        have hc0 : wr.cell? adk = some (.int .i64 (q0 : Int)) := by simpa [Addr.add] using hc
        obtain ⟨ad, hA, hnd⟩ := (HH.out.nd.below (HB4.out.trans (HW.out.mono HB4.out.size))).nd rfl hq0l
        subst hA
        obtain ⟨s0, hs0⟩ : ∃ s0, s0 = l[q0].s := ⟨_, rfl⟩
        have n1 : wr.cell? ⟨ad.block, (ad.add (q0 * 44)).off + 1, none⟩ = some (.int .u8 s0.kind) := by rw [hs0, ← block_of_add ad (q0 * 44)]; exact hnd.cs 0 _ rfl
        have p1 : decide ((q0 : Int) < (l.length : Int)) = true := decide_eq_true (by omega)
        have p2 : decide ((0 : Int) < (ks.length : Int)) = true := decide_eq_true (by omega)
        have p2' : decide (0 < ks.length) = true := decide_eq_true hpos
        have hq0i : (q0 : Int) < (l.length : Int) := by omega
        have HLK : Hid (linesK l ks = (s0.kind == 3)) := Lib.hid (by
          rw [hs0]
          cases hks : ks with
          | nil => rw [hks] at hpos; simp at hpos
          | cons a tt =>
            have ha : a = (q0 : Int) := by rw [← hq0]; simp [hks]
            show (kindAt l a == 3) = _
            rw [ha]; unfold kindAt; rw [styAt_nat hq0l]; rfl)
        clear hq0 hab hx hc hnd hs0 hmem h0
        by_cases hk3' : s0.kind = 3
        · have k3 : (s0.kind == 3) = true := beq_iff_eq.2 hk3'
          clear hk3'
          go_upto_region 17 with (fail)
          go_quiet (fail)
          go_wp2_with fail
          go_roundw
          case rel => exact ⟨t + 1, by omega, by go_num, Lib.hid (below_dr HW.out _)⟩
          case measure => simp [intOf]; omega
        have k3 : (s0.kind == 3) = false := beq_eq_false_iff_ne.2 hk3'
        have HNK := Lib.hid (HLK.out.trans k3)
        clear hk3'
        go_upto_region 17 with (fail)
        go_quiet (fail)
        go_upto_region 18 with (fail)
        obtain ⟨wb, hwb⟩ : ∃ wb, wb = wr.drewN nq := ⟨_, rfl⟩
        have HWB : Hid (Below w3.heap.size w3 wb) := Lib.hid (by rw [hwb]; exact below_dr HW.out _)
        have HRB : Hid (Below wr.heap.size wr wb) := Lib.hid (by rw [hwb]; exact below_dr (Below.refl _ _) _)
        rw [← hwb]
        clear hwb bt hk1 hc0 n1 hq0i p1 k3
        have HTn := Lib.hid (HTX.out.below HRB.out HTX.out.lt)
        have bt := HTn.out.c3
        have HKB := Lib.hid ((HKR.out.below (HRB.out.mono HW.out.size)).more HWB.out.size)
        have HGG := Lib.hid ((HG.out.below (HB4.out.trans (HWB.out.mono HB4.out.size))).more (B' := wb.heap.size) (by have := HB4.out.size; have := HWB.out.size; omega))
        obtain ⟨mine, hmine⟩ : ∃ mine, mine = allF got ks.length := ⟨_, rfl⟩
        obtain ⟨v103, hcp⟩ := run_copy_cns (P := Try.prog) wb 28 28 3 33 el_cn.ht (by kernel_rfl) ks.length cg got 33 HGG.out (Nat.le_refl _)
        rw [← hmine] at hcp
        have hml : mine.length = ks.length := by rw [hmine, allF_len]
        have HML := Lib.hid hml
        have HMI := Lib.hid hmine
        have hmk := fun W => make_cns ks.length (by have := HNL.out; omega) W
        have HM : Hid (Reads (wb.alloc (.cells (cnsCells mine).toArray 33)) (wb.alloc (.cells (cnsCells mine).toArray 33)).heap.size 4 (some ⟨wb.heap.size, 0, none⟩) ks.length (cnsCells mine)) := Lib.hid (by
          have h := World.ownsRow_lit (e := 33) (size := 4) wb (cnsCells mine).toArray ks.length (Nat.le_refl _) (by have := HNL.out; simp only [maxLen]; omega) (by rw [List.size_toArray, cnsCells_len, HML.out])
          exact Reads.of_own h)
        have hn9 : ks.length ≤ 4294967296 := by have := HNL.out; omega
        obtain ⟨kk, hkk⟩ : ∃ kk, kk = wh % ks.length := ⟨_, rfl⟩
        have hkl : kk < ks.length := by rw [hkk]; exact Nat.mod_lt _ hpos
        have hrem : Int.tmod (wh : Int) (ks.length : Int) = (kk : Int) := by rw [hkk]; rfl
        have hcw : IntKind.i64.wrap (wh : Int) = (wh : Int) := IntWalk.i64_in _ ⟨by omega, by have := HBY.out; omega⟩
        have hcb : IntKind.i64.wrap (by_ : Int) = (by_ : Int) := IntWalk.i64_in _ ⟨by omega, by have := HBY.out; omega⟩
        have hcr : IntKind.i64.wrap (kk : Int) = (kk : Int) := IntWalk.i64_in _ ⟨by omega, by have := HNL.out; omega⟩
        have hnz : ¬ (ks.length : Int) = 0 := by omega
        have hnz' : ¬ ks.length = 0 := by omega
        clear hmine hml hkk
        have HE0 : Hid (((wb.alloc (.cells (cnsCells mine).toArray 33)).alloc (.cells #[] 33)).ownsRow (wb.alloc (.cells (cnsCells mine).toArray 33)).heap.size 33 4 (.slice (some ⟨wb.heap.size + 1, 0, none⟩) 0 0) 0 []) := Lib.hid (by
          have h := World.ownsRow_lit (e := 33) (size := 4) (wb.alloc (.cells (cnsCells mine).toArray 33)) #[] 0 (Nat.le_refl _) (by decide) rfl
          simpa using h)
        have HZ3 : Hid ((wb.alloc (.cells (cnsCells mine).toArray 33)).heap.size ≤ ((wb.alloc (.cells (cnsCells mine).toArray 33)).alloc (.cells #[] 33)).heap.size) := Lib.hid (by simp)
        have HM3 := Lib.hid (HM.out.below ((Below.refl (wb.alloc (.cells (cnsCells mine).toArray 33)).heap.size (wb.alloc (.cells (cnsCells mine).toArray 33))).alloc (Nat.le_refl _) (.cells #[] 33)))
        go_upto_region 21 with (at_builtin; refine wpList_copy0 rfl _ _ rfl el_cn HE0.out HZ3.out rfl (cnsCells mine) rfl HM3.out (cnsCells_one _) hn9 (by omega) ?_; intro A5 c5 w5 hown5 hb5 hg5; have HO5 := Lib.hid (And.intro hown5 hb5); clear hown5 hb5 hg5)
        go_upto_region 22 with (fail)
        obtain ⟨g, cur, hA5, hbg, hcur, hnc, hcm, hcs, htk⟩ := own_open HO5.out.1 hpos
        subst hA5
        obtain ⟨x, hx⟩ : ∃ x, x = mine[kk]'(by rw [HML.out]; exact hkl) := ⟨_, rfl⟩
        have hkm : kk < mine.length := by rw [HML.out]; exact hkl
        have hcc : ∀ t v, t < 4 → (cnCells x)[t]? = some v → cur[kk * 4 + t]? = some v := fun t v ht hv => by
          rw [take_at htk (by omega), cnsCells_at mine kk t hkm ht, ← hx]; exact hv
        have HCUR := Lib.hid (And.intro hbg (And.intro hcur (And.intro hnc (And.intro hcm (And.intro hcs htk)))))
        have u2 := hcur.get (kk * 4 + 2) (v := .int .i64 x.ol) (hcc 2 _ (by omega) rfl)
        have u3 := hcur.get (kk * 4 + 3) (v := .int .i64 x.og) (hcc 3 _ (by omega) rfl)
        have y2 := hcur.frozen (kk * 4 + 2)
        have y3 := hcur.frozen (kk * 4 + 3)
        have hgl := hcur.lt
        have HMB : Hid (∀ z ∈ mine, (0 ≤ z.ol ∧ z.ol ≤ 1073741824) ∧ (0 ≤ z.og ∧ z.og ≤ 1073741824)) := Lib.hid (by
          rw [HMI.out]
          intro z hz
          rcases allF_mem hz with h | h
          · obtain ⟨j, hj, rfl⟩ := List.mem_iff_getElem.1 h
            exact ⟨HGB.out j hj 2 (by omega), HGB.out j hj 3 (by omega)⟩
          · rw [h]; decide)
        have hxb := HMB.out x (by rw [hx]; exact List.getElem_mem _)
        have hb16 : by_ < 65536 := HBY.out.2
        have hA1 : IntKind.i64.wrap (x.ol + (by_ : Int)) = x.ol + (by_ : Int) := IntWalk.i64_in _ ⟨by omega, by omega⟩
        have hA2 : IntKind.i64.wrap (x.og + (by_ : Int)) = x.og + (by_ : Int) := IntWalk.i64_in _ ⟨by omega, by omega⟩
        have hki2 : (kk : Int) < (ks.length : Int) := by omega
        have hki3 : decide ((kk : Int) < (ks.length : Int)) = true := decide_eq_true hki2
        have HX2 := Lib.hid (And.intro hx (And.intro hxb hkm))
        have HT5 : Hid (Blk w5 w.heap.size 25 #[.slice (some ad) l.length c, .slice A2 adv.length c2, .int .i64 view]) := Lib.hid (HTn.out.below (HO5.out.2 wb.heap.size wb (by simp) (((Below.refl _ _).alloc (Nat.le_refl _) _).alloc (by simp) _)) HTn.out.lt)
        have bt5 := HT5.out.c3
        have hgn : ¬ w.heap.size = g := by have := HTn.out.lt; have := hbg; simp at this; omega
        have hgn' : ¬ g = w.heap.size := fun e => hgn e.symm
        clear hbg hcur hnc hcm hcs htk hx hxb hcc bt hrem hcw hcr hcp hmk
        go_upto_region 24 with (fail)
        have HB5 : Hid (Below (wb.alloc (.cells (cnsCells mine).toArray 33)).heap.size (wb.alloc (.cells (cnsCells mine).toArray 33)) w5) := Lib.hid (HO5.out.2 _ _ (Nat.le_refl _) ((Below.refl _ _).alloc (Nat.le_refl _) _))
        have HB6 : Hid (Below (wb.alloc (.cells (cnsCells mine).toArray 33)).heap.size (wb.alloc (.cells (cnsCells mine).toArray 33)) ((w5.setCell ⟨g, kk * 4 + 2, none⟩ (.int .i64 (x.ol + (by_ : Int)))).setCell ⟨g, kk * 4 + 3, none⟩ (.int .i64 (x.og + (by_ : Int))))) := Lib.hid ((HB5.out.setCell (p := ⟨g, kk * 4 + 2, none⟩) HCUR.out.1 _).setCell (p := ⟨g, kk * 4 + 3, none⟩) HCUR.out.1 _)
        have HBB : Hid (Below wb.heap.size wb ((w5.setCell ⟨g, kk * 4 + 2, none⟩ (.int .i64 (x.ol + (by_ : Int)))).setCell ⟨g, kk * 4 + 3, none⟩ (.int .i64 (x.og + (by_ : Int))))) := Lib.hid (((Below.refl _ _).alloc (Nat.le_refl _) _).trans (HB6.out.mono (by simp)))
        have HT6 : Hid (Blk ((w5.setCell ⟨g, kk * 4 + 2, none⟩ (.int .i64 (x.ol + (by_ : Int)))).setCell ⟨g, kk * 4 + 3, none⟩ (.int .i64 (x.og + (by_ : Int)))) w.heap.size 25 #[.slice (some ad) l.length c, .slice A2 adv.length c2, .int .i64 view]) := Lib.hid ((HT5.out.far hgn _).far hgn _)
        obtain ⟨mr, hmr⟩ : ∃ mr, mr = mine.set kk ⟨x.least, x.greatest, x.ol + (by_ : Int), x.og + (by_ : Int)⟩ := ⟨_, rfl⟩
        have HMR := Lib.hid hmr
        have hmrl : mr.length = ks.length := by rw [hmr, List.length_set]; exact HML.out
        have HMRL := Lib.hid hmrl
        have HRM : Hid (Reads ((w5.setCell ⟨g, kk * 4 + 2, none⟩ (.int .i64 (x.ol + (by_ : Int)))).setCell ⟨g, kk * 4 + 3, none⟩ (.int .i64 (x.og + (by_ : Int)))) ((w5.setCell ⟨g, kk * 4 + 2, none⟩ (.int .i64 (x.ol + (by_ : Int)))).setCell ⟨g, kk * 4 + 3, none⟩ (.int .i64 (x.og + (by_ : Int)))).heap.size 4 (some ⟨g, 0, none⟩) ks.length (cnsCells mr)) := Lib.hid (by
          have hbk := ((HCUR.out.2.1.set_ (kk * 4 + 2) (.int .i64 (x.ol + (by_ : Int)))).set_ (kk * 4 + 3) (.int .i64 (x.og + (by_ : Int))))
          have ho : ((w5.setCell ⟨g, kk * 4 + 2, none⟩ (.int .i64 (x.ol + (by_ : Int)))).setCell ⟨g, kk * 4 + 3, none⟩ (.int .i64 (x.og + (by_ : Int)))).ownsRow g 33 4 (.slice (some ⟨g, 0, none⟩) ks.length c5) ks.length (cnsCells mr) := by
            refine ⟨by rw [cnsCells_len, HMRL.out], .inr ⟨g, c5, _, rfl, Nat.le_refl _, hbk, HCUR.out.2.2.1, HCUR.out.2.2.2.1, ?_, ?_⟩⟩
            · rw [Array.size_setIfInBounds, Array.size_setIfInBounds]; exact HCUR.out.2.2.2.2.1
            · rw [Array.toList_setIfInBounds, Array.toList_setIfInBounds, List.take_set, List.take_set, HCUR.out.2.2.2.2.2, HMR.out, HX2.out.1]
              exact (cnsCells_set2 mine kk _ _ HX2.out.2.2).symm
          exact Reads.of_own ho)
        have HNO : Hid (∀ (W : World), Below w3.heap.size w3 W → ∀ (Ak' Ag' : Option Addr) (ck' cg' : Nat) (ks' : List Int) (gs : List Cn) (nc : Cn × Bool), nc = nodeP l adv t ks' gs → Reads W W.heap.size 1 Ak' ks'.length (i64s ks') → (∀ k ∈ ks', 0 ≤ k ∧ k < l.length) → ks'.length ≤ 100000 → linesK l ks' = false → Reads W W.heap.size 4 Ag' gs.length (cnsCells gs) → (∀ x ∈ gs, (0 ≤ x.ol ∧ x.ol ≤ 4611686018427387904) ∧ (0 ≤ x.og ∧ x.og ≤ 4611686018427387904)) →
            Calls Try.prog 10 #[.agg #[.slice (some ad) l.length c, .slice A2 adv.length c2, .int .i64 view], .int .i64 t, .slice Ak' ks'.length ck', .slice Ag' gs.length cg'] W fun e w' => e = .returned (.tuple #[.agg #[.int .i64 nc.1.least, .int .i64 nc.1.greatest, .int .i64 nc.1.ol, .int .i64 nc.1.og], .bool nc.2]) ∧ Below W.heap.size W w') := Lib.hid (fun W hb Ak' Ag' ck' cg' ks' gs nc hnc h1 h2 h3 h4 h5 h6 => by
          have hbw := HB4.out.trans (hb.mono HB4.out.size)
          have h := node17_any l adv ks' gs (some ad) A2 Ak' Ag' c c2 ck' cg' view W t htl ((HH.out.below hbw).more hbw.size) (fun _ => (HOK.out.ok.nd t htl).sty.b) h1 h2 h3 (fun hh => by rw [h4] at hh; cases hh) h5 h6
          rw [← hnc] at h
          exact h)
        have HKIN : Hid (∀ k ∈ ks, 0 ≤ k ∧ k < l.length) := Lib.hid (fun k hk => by obtain ⟨n, h1, h2⟩ := HMEM.out k hk; omega)
        clear hmr hmrl bt5 u2 u3 y2 y3
        obtain ⟨w6, hw6⟩ : ∃ w6, w6 = ((w5.setCell ⟨g, kk * 4 + 2, none⟩ (.int .i64 (x.ol + (by_ : Int)))).setCell ⟨g, kk * 4 + 3, none⟩ (.int .i64 (x.og + (by_ : Int)))) := ⟨_, rfl⟩
        rw [← hw6] at HB6 HBB HT6 HRM
        rw [← hw6]
        clear hw6
        have HB63 : Hid (Below w3.heap.size w3 w6) := Lib.hid (HWB.out.trans (HBB.out.mono HWB.out.size))
        have HM6 := Lib.hid ((HM.out.below HB6.out).more HB6.out.size)
        have HK6 := Lib.hid ((HKB.out.below HBB.out).more HBB.out.size)
        obtain ⟨na, hna⟩ : ∃ na, na = nodeP l adv t ks mine := ⟨_, rfl⟩
        obtain ⟨nb, hnb⟩ : ∃ nb, nb = nodeP l adv t ks mr := ⟨_, rfl⟩
        have HNA := Lib.hid hna
        have HNB := Lib.hid hnb
        have bt6 := HT6.out.c3
        clear hna hnb
        go_wp2_with fail
        have HC1 := HNO.out w6 HB63.out (some adk) (some ⟨wb.heap.size, 0, none⟩) ck ks.length ks mine na HNA.out HK6.out HKIN.out (by have := HNL.out; omega) HNK.out (by rw [HML.out]; exact HM6.out) (fun z hz => by have := HMB.out z hz; omega)
        rw [HML.out] at HC1
        with_reducible refine HC1.mono ?_
        rintro e w7 ⟨rfl, hb7⟩
        have HB73 := Lib.hid (HB63.out.trans (hb7.mono HB63.out.size))
        have HT7 := Lib.hid (HT6.out.below hb7 HT6.out.lt)
        have HM7 := Lib.hid ((HM6.out.below hb7).more hb7.size)
        have HK7 := Lib.hid ((HK6.out.below hb7).more hb7.size)
        have HR7 := Lib.hid ((HRM.out.below hb7).more hb7.size)
        have HA7 : Hid (Below w7.heap.size w7 (w7.alloc (.cells #[.int .i64 na.1.least, .int .i64 na.1.greatest, .int .i64 na.1.ol, .int .i64 na.1.og] 33))) := Lib.hid ((Below.refl _ _).alloc (Nat.le_refl _) _)
        have HBA := Lib.hid (Blk.new w7 33 #[.int .i64 na.1.least, .int .i64 na.1.greatest, .int .i64 na.1.ol, .int .i64 na.1.og])
        have bt7 := HT7.out.c3
        have l7 := HT7.out.lt
        clear HC1 bt6 hb7
        go_wp2_with fail
        have HC2 := HNO.out (w7.alloc (.cells #[.int .i64 na.1.least, .int .i64 na.1.greatest, .int .i64 na.1.ol, .int .i64 na.1.og] 33)) (HB73.out.alloc HB73.out.size _) (some adk) (some ⟨g, 0, none⟩) ck c5 ks mr nb HNB.out ((HK7.out.below HA7.out).more HA7.out.size) HKIN.out (by have := HNL.out; omega) HNK.out (by rw [HMRL.out]; exact (HR7.out.below HA7.out).more HA7.out.size) (fun z hz => by
          have h16 := HBY.out.2
          rw [HMR.out] at hz
          rcases List.mem_or_eq_of_mem_set hz with h | h
          · have := HMB.out z h; omega
          · have := HX2.out.2.1; rw [h]; dsimp only; omega)
        rw [HMRL.out] at HC2
        with_reducible refine HC2.mono ?_
        rintro e w9 ⟨rfl, hb9⟩
        have HB93 := Lib.hid (HB73.out.trans ((HA7.out.trans (hb9.mono HA7.out.size)).mono HB73.out.size))
        have HT9 := Lib.hid ((HT7.out.alloc (.cells #[.int .i64 na.1.least, .int .i64 na.1.greatest, .int .i64 na.1.ol, .int .i64 na.1.og] 33)).below hb9 (HT7.out.alloc (.cells #[.int .i64 na.1.least, .int .i64 na.1.greatest, .int .i64 na.1.ol, .int .i64 na.1.og] 33)).lt)
        have HBA9 := Lib.hid (HBA.out.below hb9 HBA.out.lt)
        have HM9 := Lib.hid ((((HM7.out.below HA7.out).more HA7.out.size).below hb9).more hb9.size)
        have HK9 := Lib.hid ((((HK7.out.below HA7.out).more HA7.out.size).below hb9).more hb9.size)
        have bt9 := HT9.out.c3
        have l9 := HT9.out.lt
        have k9 := HBA9.out.c4
        have l9a := HBA9.out.lt
        clear HC2 bt7 l7 hb9
        go_upto_region 26 with (fail)
        have HA9 : Hid (Below w9.heap.size w9 (w9.alloc (.cells #[.int .i64 nb.1.least, .int .i64 nb.1.greatest, .int .i64 nb.1.ol, .int .i64 nb.1.og] 33))) := Lib.hid ((Below.refl _ _).alloc (Nat.le_refl _) _)
        have HBB9 := Lib.hid (Blk.new w9 33 #[.int .i64 nb.1.least, .int .i64 nb.1.greatest, .int .i64 nb.1.ol, .int .i64 nb.1.og])
        have HT10 := Lib.hid (HT9.out.alloc (.cells #[.int .i64 nb.1.least, .int .i64 nb.1.greatest, .int .i64 nb.1.ol, .int .i64 nb.1.og] 33))
        have HBA10 := Lib.hid (HBA9.out.alloc (.cells #[.int .i64 nb.1.least, .int .i64 nb.1.greatest, .int .i64 nb.1.ol, .int .i64 nb.1.og] 33))
        have HM10 := Lib.hid ((HM9.out.below HA9.out).more HA9.out.size)
        have HK10 := Lib.hid ((HK9.out.below HA9.out).more HA9.out.size)
        have HB10 := Lib.hid (HB93.out.alloc HB93.out.size (.cells #[.int .i64 nb.1.least, .int .i64 nb.1.greatest, .int .i64 nb.1.ol, .int .i64 nb.1.og] 33))
        obtain ⟨w10, hw10⟩ : ∃ w10, w10 = w9.alloc (.cells #[.int .i64 nb.1.least, .int .i64 nb.1.greatest, .int .i64 nb.1.ol, .int .i64 nb.1.og] 33) := ⟨_, rfl⟩
        rw [← hw10] at HBB9 HT10 HBA10 HM10 HK10 HB10
        rw [← hw10]
        obtain ⟨m, hm⟩ : ∃ m, ks.length = m + 1 := ⟨ks.length - 1, by omega⟩
        have HMM := Lib.hid hm
        have hwm : IntKind.i64.wrap ((ks.length : Int) - 1) = (m : Int) := by rw [IntWalk.i64_in _ ⟨by omega, by have := HNL.out; omega⟩]; omega
        have hmc : m ≤ ck := by have := HKC.out; omega
        have hmk : m ≤ ks.length := by omega
        have hmci : (m : Int) ≤ (ck : Int) := by omega
        have hmki : (m : Int) ≤ (ks.length : Int) := by omega
        have tk : (ks.take m).length = m := by rw [List.length_take]; omega
        have tm : (mine.take m).length = m := by rw [List.length_take, HML.out]; omega
        obtain ⟨nc, hnc⟩ : ∃ nc, nc = nodeP l adv t (ks.take m) (mine.take m) := ⟨_, rfl⟩
        have HNC := Lib.hid hnc
        have HLT : Hid (linesK l (ks.take m) = false) := Lib.hid (by
          have h := HNK.out
          cases hks : ks with
          | nil => simp [linesK]
          | cons a tt =>
            cases m with
            | zero => rfl
            | succ m => rw [hks] at h; exact h)
        have HC3 : Hid (∀ W, Below w10.heap.size w10 W → Calls Try.prog 10 #[.agg #[.slice (some ad) l.length c, .slice A2 adv.length c2, .int .i64 view], .int .i64 t, .slice (some adk) m ck, .slice (some ⟨wb.heap.size, 0, none⟩) m ks.length] W fun e w' => e = .returned (.tuple #[.agg #[.int .i64 nc.1.least, .int .i64 nc.1.greatest, .int .i64 nc.1.ol, .int .i64 nc.1.og], .bool nc.2]) ∧ Below W.heap.size W w') := Lib.hid (fun W hb => by
          have h := HNO.out W (HB10.out.trans (hb.mono HB10.out.size)) (some adk) (some ⟨wb.heap.size, 0, none⟩) ck ks.length (ks.take m) (mine.take m) nc HNC.out (by rw [tk, ← i64s_take]; exact ((HK10.out.below hb).more hb.size).pre hmk) (fun k hk => HKIN.out k (List.mem_of_mem_take hk)) (by have := HNL.out; omega) HLT.out (by rw [tm, ← cns_take]; exact ((HM10.out.below hb).more hb.size).pre hmk) (fun z hz => by have := HMB.out z (List.mem_of_mem_take hz); omega)
          rw [tk, tm] at h
          exact h)
        have HS10 : Hid (TrS w.heap.size l.length c adv.length c2 (some ad) A2 view w10) := Lib.hid ⟨HT10.out.lt, HT10.out.c3.1, HT10.out.c3.2.1, HT10.out.c3.2.2⟩
        have hz10 : w10.heap.size = w9.heap.size + 1 := by rw [hw10]; simp
        have HZ10 := Lib.hid hz10
        have HTKM := Lib.hid (And.intro tk tm)
        clear hw10 hnc hm bt9 l9 k9 l9a tk tm hz10
        refine wp_region_held_drew (S := TrS w.heap.size l.length c adv.length c2 (some ad) A2 view) (by kernel_rfl) (HS10.out.below (Below.refl _ _).drew) (fun hS => ?_)
        refine wpAnyH_take (i := 0) (v := ?_) rfl (by kernel_rfl) (by kernel_rfl) (by kernel_rfl) (fun _ _ _ h => h) (Or.inl ⟨by rfl, ?_⟩) hS ?_
        rotate_left
        · rintro W' ⟨l0', c0', c1', c2'⟩
          go_simp
          rfl
        try simp only [Act.put, List.setIfInBounds_toArray, List.set_cons_zero, List.set_cons_succ, List.getElem_toArray, List.getElem_cons_zero, List.getElem_cons_succ]
        refine wpAnyH_take (i := 1) (v := ?_) rfl (by kernel_rfl) (by kernel_rfl) (by kernel_rfl) (fun _ _ _ h => h) (Or.inl ⟨by rfl, ?_⟩) hS ?_
        rotate_left
        · rintro W' ⟨l0', c0', c1', c2'⟩
          go_simp
          rfl
        try simp only [Act.put, List.setIfInBounds_toArray, List.set_cons_zero, List.set_cons_succ, List.getElem_toArray, List.getElem_cons_zero, List.getElem_cons_succ]
        refine wpAnyH_take (i := 2) (v := ?_) rfl (by kernel_rfl) (by kernel_rfl) (by kernel_rfl) (fun _ _ _ h => h) (Or.inl ⟨by rfl, ?_⟩) hS ?_
        rotate_left
        · rintro W' ⟨l0', c0', c1', c2'⟩
          go_simp
          rfl
        try simp only [Act.put, List.setIfInBounds_toArray, List.set_cons_zero, List.set_cons_succ, List.getElem_toArray, List.getElem_cons_zero, List.getElem_cons_succ]
        refine wpAnyH_take (i := 3) (v := ?_) rfl (by kernel_rfl) (by kernel_rfl) (by kernel_rfl) (fun _ _ _ h => h) (Or.inl ⟨by rfl, ?_⟩) hS ?_
        rotate_left
        · rintro W' ⟨l0', c0', c1', c2'⟩
          go_simp
          rfl
        try simp only [Act.put, List.setIfInBounds_toArray, List.set_cons_zero, List.set_cons_succ, List.getElem_toArray, List.getElem_cons_zero, List.getElem_cons_succ]
        refine wpAnyH_take (i := 4) (v := ?_) rfl (by kernel_rfl) (by kernel_rfl) (by kernel_rfl) (fun _ _ _ h => h) (Or.inl ⟨by rfl, ?_⟩) hS ?_
        rotate_left
        · rintro W' ⟨l0', c0', c1', c2'⟩
          go_simp
          rfl
        try simp only [Act.put, List.setIfInBounds_toArray, List.set_cons_zero, List.set_cons_succ, List.getElem_toArray, List.getElem_cons_zero, List.getElem_cons_succ]
        refine wpAnyH_take (i := 5) (v := ?_) rfl (by kernel_rfl) (by kernel_rfl) (by kernel_rfl) (fun _ _ _ h => h) (Or.inl ⟨by rfl, ?_⟩) hS ?_
        rotate_left
        · rintro W' ⟨l0', c0', c1', c2'⟩
          go_simp
          rfl
        try simp only [Act.put, List.setIfInBounds_toArray, List.set_cons_zero, List.set_cons_succ, List.getElem_toArray, List.getElem_cons_zero, List.getElem_cons_succ]
        refine wpAnyH_take (i := 6) (v := ?_) rfl (by kernel_rfl) (by kernel_rfl) (by kernel_rfl) (fun _ _ _ h => h) (Or.inl ⟨by rfl, ?_⟩) hS ?_
        rotate_left
        · rintro W' ⟨l0', c0', c1', c2'⟩
          go_simp
          rfl
        try simp only [Act.put, List.setIfInBounds_toArray, List.set_cons_zero, List.set_cons_succ, List.getElem_toArray, List.getElem_cons_zero, List.getElem_cons_succ]
        refine wpAnyH_take (i := 7) (v := ?_) rfl (by kernel_rfl) (by kernel_rfl) (by kernel_rfl) (fun _ _ _ h => h) (Or.inl ⟨by rfl, ?_⟩) hS ?_
        rotate_left
        · rintro W' ⟨l0', c0', c1', c2'⟩
          go_simp
          rfl
        try simp only [Act.put, List.setIfInBounds_toArray, List.set_cons_zero, List.set_cons_succ, List.getElem_toArray, List.getElem_cons_zero, List.getElem_cons_succ]
        refine wpAnyH_take (i := 8) (v := ?_) rfl (by kernel_rfl) (by kernel_rfl) (by kernel_rfl) (fun _ _ _ h => h) (Or.inl ⟨by rfl, ?_⟩) hS ?_
        rotate_left
        · rintro W' ⟨l0', c0', c1', c2'⟩
          go_simp
          rfl
        try simp only [Act.put, List.setIfInBounds_toArray, List.set_cons_zero, List.set_cons_succ, List.getElem_toArray, List.getElem_cons_zero, List.getElem_cons_succ]
        refine wpAnyH_take (i := 9) (v := ?_) rfl (by kernel_rfl) (by kernel_rfl) (by kernel_rfl) (fun _ _ _ h => h) (Or.inl ⟨by rfl, ?_⟩) hS ?_
        rotate_left
        · rintro W' ⟨l0', c0', c1', c2'⟩
          go_simp
          rfl
        try simp only [Act.put, List.setIfInBounds_toArray, List.set_cons_zero, List.set_cons_succ, List.getElem_toArray, List.getElem_cons_zero, List.getElem_cons_succ]
        refine wpAnyH_take (i := 10) (v := ?_) rfl (by kernel_rfl) (by kernel_rfl) (by kernel_rfl) (fun _ _ _ h => h) (Or.inl ⟨by rfl, ?_⟩) hS ?_
        rotate_left
        · rintro W' ⟨l0', c0', c1', c2'⟩
          go_simp
          rfl
        try simp only [Act.put, List.setIfInBounds_toArray, List.set_cons_zero, List.set_cons_succ, List.getElem_toArray, List.getElem_cons_zero, List.getElem_cons_succ]
        refine wpAnyH_take (i := 11) (v := ?_) rfl (by kernel_rfl) (by kernel_rfl) (by kernel_rfl) (fun _ _ _ h => h) (Or.inl ⟨by rfl, ?_⟩) hS ?_
        rotate_left
        · rintro W' ⟨l0', c0', c1', c2'⟩
          go_simp
          rfl
        try simp only [Act.put, List.setIfInBounds_toArray, List.set_cons_zero, List.set_cons_succ, List.getElem_toArray, List.getElem_cons_zero, List.getElem_cons_succ]
        refine wpAnyH_ready (rs := [12, 16]) (by kernel_rfl) (by simp) (AllReadyH.cons rfl (fun K hK => ?_) (AllReadyH.cons rfl (fun K hK => ?_) AllReadyH.nil))
        · go_simp
          have HC := HC3.out (w10.drew) ((Below.refl _ _).drew)
          with_reducible refine HC.mono ?_
          rintro e w11 ⟨rfl, hb11⟩
          have HS11 := Lib.hid (hS.below hb11)
          refine hK.out _ _ HS11.out (fun hS => ?_)
          try simp only [Act.put, List.setIfInBounds_toArray, List.set_cons_zero, List.set_cons_succ, List.getElem_toArray, List.getElem_cons_zero, List.getElem_cons_succ]
          clear hK
          refine wpAnyH_take (i := 13) (v := ?_) rfl (by kernel_rfl) (by kernel_rfl) (by kernel_rfl) (fun _ _ _ h => h) (Or.inl ⟨by rfl, ?_⟩) hS ?_
          rotate_left
          · rintro W' ⟨l0', c0', c1', c2'⟩
            go_simp
            rfl
          try simp only [Act.put, List.setIfInBounds_toArray, List.set_cons_zero, List.set_cons_succ, List.getElem_toArray, List.getElem_cons_zero, List.getElem_cons_succ]
          refine wpAnyH_take (i := 14) (v := ?_) rfl (by kernel_rfl) (by kernel_rfl) (by kernel_rfl) (fun _ _ _ h => h) (Or.inl ⟨by rfl, ?_⟩) hS ?_
          rotate_left
          · rintro W' ⟨l0', c0', c1', c2'⟩
            go_simp
            rfl
          try simp only [Act.put, List.setIfInBounds_toArray, List.set_cons_zero, List.set_cons_succ, List.getElem_toArray, List.getElem_cons_zero, List.getElem_cons_succ]
          refine wpAnyH_take (i := 15) (v := ?_) rfl (by kernel_rfl) (by kernel_rfl) (by kernel_rfl) (fun _ _ _ h => h) (Or.inl ⟨by rfl, ?_⟩) hS ?_
          rotate_left
          · rintro W' ⟨l0', c0', c1', c2'⟩
            go_simp
            rfl
          try simp only [Act.put, List.setIfInBounds_toArray, List.set_cons_zero, List.set_cons_succ, List.getElem_toArray, List.getElem_cons_zero, List.getElem_cons_succ]
          refine wpAnyH_ready (rs := [16]) (by kernel_rfl) (by simp) (AllReadyH.cons rfl (fun K hK => ?_) AllReadyH.nil)
          go_simp
          refine hK.out _ _ (HS11.out.below ((Below.refl _ _).alloc (Nat.le_refl _) _)) (fun hS => ?_)
          try simp only [Act.put, List.setIfInBounds_toArray, List.set_cons_zero, List.set_cons_succ, List.getElem_toArray, List.getElem_cons_zero, List.getElem_cons_succ]
          clear hK
          refine wpAnyH_ready (rs := [17]) (by kernel_rfl) (by simp) (AllReadyH.cons rfl (fun K hK => ?_) AllReadyH.nil)
          go_simp
          refine hK.out _ _ (HS11.out.below ((Below.refl _ _).alloc (Nat.le_refl _) _)) (fun hS => ?_)
          try simp only [Act.put, List.setIfInBounds_toArray, List.set_cons_zero, List.set_cons_succ, List.getElem_toArray, List.getElem_cons_zero, List.getElem_cons_succ]
          clear hK
          refine wpAnyH_take (i := 18) (v := ?_) rfl (by kernel_rfl) (by kernel_rfl) (by kernel_rfl) (fun _ _ _ h => h) (Or.inl ⟨by rfl, ?_⟩) hS ?_
          rotate_left
          · rintro W' ⟨l0', c0', c1', c2'⟩
            go_simp
            rfl
          try simp only [Act.put, List.setIfInBounds_toArray, List.set_cons_zero, List.set_cons_succ, List.getElem_toArray, List.getElem_cons_zero, List.getElem_cons_succ]
          refine wpAnyH_done (by kernel_rfl) ?_ _
          clear hS
          have HA11 := Lib.hid (HBA10.out.below ((Below.refl _ _).drew.trans hb11) HBA10.out.lt)
          have HBB11 := Lib.hid (HBB9.out.below ((Below.refl _ _).drew.trans hb11) (by have := HZ10.out; show w9.heap.size < w10.heap.size; omega))
          have HB11 := Lib.hid (HB10.out.trans (((Below.refl _ _).drew.trans hb11).mono HB10.out.size))
          have ka := HA11.out.c4
          have kb := HBB11.out.c4
          have la := HA11.out.lt
          have lb := HBB11.out.lt
          have hmo := node_more l adv htl (HOK.out.ok.nd t htl).sty.b ks mine mr HNK.out HML.out HMRL.out
            (by rw [HMR.out]; exact le2_set Cn.ol mine kk _ HX2.out.2.2 (by rw [← HX2.out.1]; dsimp only; omega))
            (by rw [HMR.out]; exact le2_set Cn.og mine kk _ HX2.out.2.2 (by rw [← HX2.out.1]; dsimp only; omega))
          have hdr := node_drop l adv htl (HOK.out.ok.nd t htl).sty.b ks mine HMM.out HNK.out (by rw [HML.out]; exact HMM.out) (fun z hz => by have := HMB.out z hz; omega)
          rw [← HNA.out, ← HNB.out] at hmo
          rw [← HNA.out, ← HNC.out] at hdr
          have f1 : decide (nb.1.least < na.1.least) = false := decide_eq_false (by omega)
          have f2 : decide (nb.1.greatest < na.1.greatest) = false := decide_eq_false (by omega)
          have f3 : decide (nb.1.ol < na.1.ol) = false := decide_eq_false (by omega)
          have f4 : decide (nb.1.og < na.1.og) = false := decide_eq_false (by omega)
          have f5 : decide (na.1.least < nc.1.least) = false := decide_eq_false (by omega)
          have f6 : decide (na.1.greatest < nc.1.greatest) = false := decide_eq_false (by omega)
          clear hb11 hmo hdr
          go_wp2_with fail
          go_roundw
          case rel => exact ⟨t + 1, by omega, by go_num, Lib.hid (HB11.out.alloc HB11.out.size _)⟩
          case measure => simp [intOf]; omega
        · go_simp
          refine hK.out _ _ (hS.below ((Below.refl _ _).alloc (Nat.le_refl _) _)) (fun hS => ?_)
          try simp only [Act.put, List.setIfInBounds_toArray, List.set_cons_zero, List.set_cons_succ, List.getElem_toArray, List.getElem_cons_zero, List.getElem_cons_succ]
          clear hK
          refine wpAnyH_ready (rs := [12]) (by kernel_rfl) (by simp) (AllReadyH.cons rfl (fun K hK => ?_) AllReadyH.nil)
          go_simp
          have HC := HC3.out ((w10.alloc (.cells #[.int .i64 0, .int .i64 0, .int .i64 0, .int .i64 0] 33)).drew) (((Below.refl _ _).alloc (Nat.le_refl _) _).drew)
          with_reducible refine HC.mono ?_
          rintro e w11 ⟨rfl, hb11⟩
          have HS11 := Lib.hid (hS.below hb11)
          have HZC := Lib.hid ((Blk.new w10 33 #[.int .i64 0, .int .i64 0, .int .i64 0, .int .i64 0]).drew.below hb11 (Blk.new w10 _ _).lt)
          have zc : Blk w11 w10.heap.size 33 #[.int .i64 0, .int .i64 0, .int .i64 0, .int .i64 0] := HZC.out
          have zc4 := zc.c4
          have zf0 := zc.frozen 0
          have zf1 := zc.frozen 1
          have zf2 := zc.frozen 2
          have zf3 := zc.frozen 3
          have hz0 : ¬ w.heap.size = w10.heap.size := by have := HT10.out.lt; omega
          refine hK.out _ _ HS11.out (fun hS => ?_)
          try simp only [Act.put, List.setIfInBounds_toArray, List.set_cons_zero, List.set_cons_succ, List.getElem_toArray, List.getElem_cons_zero, List.getElem_cons_succ]
          clear hK
          refine wpAnyH_take (i := 13) (v := ?_) rfl (by kernel_rfl) (by kernel_rfl) (by kernel_rfl) (fun _ _ _ h => h) (Or.inl ⟨by rfl, ?_⟩) hS ?_
          rotate_left
          · rintro W' ⟨l0', c0', c1', c2'⟩
            go_simp
            rfl
          try simp only [Act.put, List.setIfInBounds_toArray, List.set_cons_zero, List.set_cons_succ, List.getElem_toArray, List.getElem_cons_zero, List.getElem_cons_succ]
          refine wpAnyH_take (i := 14) (v := ?_) rfl (by kernel_rfl) (by kernel_rfl) (by kernel_rfl) (fun _ _ _ h => h) (Or.inl ⟨by rfl, ?_⟩) hS ?_
          rotate_left
          · rintro W' ⟨l0', c0', c1', c2'⟩
            go_simp
            rfl
          try simp only [Act.put, List.setIfInBounds_toArray, List.set_cons_zero, List.set_cons_succ, List.getElem_toArray, List.getElem_cons_zero, List.getElem_cons_succ]
          refine wpAnyH_take (i := 15) (v := ?_) rfl (by kernel_rfl) (by kernel_rfl) (by kernel_rfl) (fun _ _ _ h => h) (Or.inl ⟨by rfl, ?_⟩) hS ?_
          rotate_left
          · rintro W' ⟨l0', c0', c1', c2'⟩
            go_simp
            rfl
          try simp only [Act.put, List.setIfInBounds_toArray, List.set_cons_zero, List.set_cons_succ, List.getElem_toArray, List.getElem_cons_zero, List.getElem_cons_succ]
          refine wpAnyH_ready (rs := [17]) (by kernel_rfl) (by simp) (AllReadyH.cons rfl (fun K hK => ?_) AllReadyH.nil)
          go_simp
          refine hK.out _ _ ((((TrS.set_ HS11.out (p := ⟨w10.heap.size, 0, none⟩) hz0 _).set_ (p := ⟨w10.heap.size, 1, none⟩) hz0 _).set_ (p := ⟨w10.heap.size, 2, none⟩) hz0 _).set_ (p := ⟨w10.heap.size, 3, none⟩) hz0 _) (fun hS => ?_)
          try simp only [Act.put, List.setIfInBounds_toArray, List.set_cons_zero, List.set_cons_succ, List.getElem_toArray, List.getElem_cons_zero, List.getElem_cons_succ]
          clear hK
          refine wpAnyH_take (i := 18) (v := ?_) rfl (by kernel_rfl) (by kernel_rfl) (by kernel_rfl) (fun _ _ _ h => h) (Or.inl ⟨by rfl, ?_⟩) hS ?_
          rotate_left
          · rintro W' ⟨l0', c0', c1', c2'⟩
            go_simp
            rfl
          try simp only [Act.put, List.setIfInBounds_toArray, List.set_cons_zero, List.set_cons_succ, List.getElem_toArray, List.getElem_cons_zero, List.getElem_cons_succ]
          refine wpAnyH_done (by kernel_rfl) ?_ _
          clear hS
          have HBD : Hid (Below w10.heap.size w10 w11) := Lib.hid ((((Below.refl _ _).alloc (Nat.le_refl _) _).drew).trans (hb11.mono (by simp)))
          have hb11' := HBD.out
          have nz1 : ¬ w7.heap.size = w10.heap.size := by have := HBA10.out.lt; omega
          have nz2 : ¬ w9.heap.size = w10.heap.size := by have := HZ10.out; omega
          have HA11 := Lib.hid (HBA10.out.below hb11' HBA10.out.lt)
          have HBB11 := Lib.hid (HBB9.out.below hb11' (by have := HZ10.out; show w9.heap.size < w10.heap.size; omega))
          have HB11 := Lib.hid (HB10.out.trans (hb11'.mono HB10.out.size))
          have ka := HA11.out.c4
          have kb := HBB11.out.c4
          have la := HA11.out.lt
          have lb := HBB11.out.lt
          have hmo := node_more l adv htl (HOK.out.ok.nd t htl).sty.b ks mine mr HNK.out HML.out HMRL.out
            (by rw [HMR.out]; exact le2_set Cn.ol mine kk _ HX2.out.2.2 (by rw [← HX2.out.1]; dsimp only; omega))
            (by rw [HMR.out]; exact le2_set Cn.og mine kk _ HX2.out.2.2 (by rw [← HX2.out.1]; dsimp only; omega))
          have hdr := node_drop l adv htl (HOK.out.ok.nd t htl).sty.b ks mine HMM.out HNK.out (by rw [HML.out]; exact HMM.out) (fun z hz => by have := HMB.out z hz; omega)
          rw [← HNA.out, ← HNB.out] at hmo
          rw [← HNA.out, ← HNC.out] at hdr
          have f1 : decide (nb.1.least < na.1.least) = false := decide_eq_false (by omega)
          have f2 : decide (nb.1.greatest < na.1.greatest) = false := decide_eq_false (by omega)
          have f3 : decide (nb.1.ol < na.1.ol) = false := decide_eq_false (by omega)
          have f4 : decide (nb.1.og < na.1.og) = false := decide_eq_false (by omega)
          have f5 : decide (na.1.least < nc.1.least) = false := decide_eq_false (by omega)
          have f6 : decide (na.1.greatest < nc.1.greatest) = false := decide_eq_false (by omega)
          clear hb11 hb11' hmo hdr
          go_wp2_with fail
          go_roundw
          case rel => exact ⟨t + 1, by omega, by go_num, Lib.hid ((((HB11.out.setCell (p := ⟨w10.heap.size, 0, none⟩) HB10.out.size _).setCell (p := ⟨w10.heap.size, 1, none⟩) HB10.out.size _).setCell (p := ⟨w10.heap.size, 2, none⟩) HB10.out.size _).setCell (p := ⟨w10.heap.size, 3, none⟩) HB10.out.size _)⟩
          case measure => simp [intOf]; omega
    have d0 : decide ((i : Int) < (got.length : Int)) = true := decide_eq_true (by omega)
    have d0' : decide (i < got.length) = true := decide_eq_true hil
    have hii : (i : Int) < (got.length : Int) := by omega
    obtain ⟨ad, hA, hab, x0, x1, x2, x3⟩ := (HG.out.below (HB3.out.trans (H.out.2.mono HB3.out.size))).cn rfl hil
    subst hA
    obtain ⟨x, hx⟩ : ∃ x, x = got[i] := ⟨_, rfl⟩
    rw [← hx] at x0 x1 x2 x3
    have HX := Lib.hid hx
    have HS0 : Hid (ConS ad i x wr) := Lib.hid ⟨by have := HB3.out.size; have := H.out.2.size; omega, x0, x1, x2, x3⟩
    clear hx x0 x1 x2 x3 hab
    go_upto_region 6 with (fail)
    refine wp_region_held_drew (S := ConS ad i x) (by kernel_rfl) (HS0.out.below (Below.refl _ _).drew) (fun hS => ?_)
    refine wpAnyH_take (i := 0) (v := ?_) rfl (by kernel_rfl) (by kernel_rfl) (by kernel_rfl) (fun _ _ _ h => h) (Or.inl ⟨by rfl, ?_⟩) hS ?_
    rotate_left
    · rintro W' ⟨lt', c0', c1', c2', c3'⟩
      go_simp
      rfl
    try simp only [Act.put, List.setIfInBounds_toArray, List.set_cons_zero, List.set_cons_succ, List.getElem_toArray, List.getElem_cons_zero, List.getElem_cons_succ]
    refine wpAnyH_take (i := 1) (v := ?_) rfl (by kernel_rfl) (by kernel_rfl) (by kernel_rfl) (fun _ _ _ h => h) (Or.inl ⟨by rfl, ?_⟩) hS ?_
    rotate_left
    · rintro W' ⟨lt', c0', c1', c2', c3'⟩
      go_simp
      rfl
    try simp only [Act.put, List.setIfInBounds_toArray, List.set_cons_zero, List.set_cons_succ, List.getElem_toArray, List.getElem_cons_zero, List.getElem_cons_succ]
    refine wpAnyH_take (i := 2) (v := ?_) rfl (by kernel_rfl) (by kernel_rfl) (by kernel_rfl) (fun _ _ _ h => h) (Or.inl ⟨by rfl, ?_⟩) hS ?_
    rotate_left
    · rintro W' ⟨lt', c0', c1', c2', c3'⟩
      go_simp
      rfl
    try simp only [Act.put, List.setIfInBounds_toArray, List.set_cons_zero, List.set_cons_succ, List.getElem_toArray, List.getElem_cons_zero, List.getElem_cons_succ]
    refine wpAnyH_take (i := 3) (v := ?_) rfl (by kernel_rfl) (by kernel_rfl) (by kernel_rfl) (fun _ _ _ h => h) (Or.inl ⟨by rfl, ?_⟩) hS ?_
    rotate_left
    · rintro W' ⟨lt', c0', c1', c2', c3'⟩
      go_simp
      rfl
    try simp only [Act.put, List.setIfInBounds_toArray, List.set_cons_zero, List.set_cons_succ, List.getElem_toArray, List.getElem_cons_zero, List.getElem_cons_succ]
    refine wpAnyH_take (i := 4) (v := ?_) rfl (by kernel_rfl) (by kernel_rfl) (by kernel_rfl) (fun _ _ _ h => h) (Or.inl ⟨by rfl, ?_⟩) hS ?_
    rotate_left
    · rintro W' ⟨lt', c0', c1', c2', c3'⟩
      go_simp
      rfl
    try simp only [Act.put, List.setIfInBounds_toArray, List.set_cons_zero, List.set_cons_succ, List.getElem_toArray, List.getElem_cons_zero, List.getElem_cons_succ]
    refine wpAnyH_take (i := 5) (v := ?_) rfl (by kernel_rfl) (by kernel_rfl) (by kernel_rfl) (fun _ _ _ h => h) (Or.inl ⟨by rfl, ?_⟩) hS ?_
    rotate_left
    · rintro W' ⟨lt', c0', c1', c2', c3'⟩
      go_simp
      rfl
    try simp only [Act.put, List.setIfInBounds_toArray, List.set_cons_zero, List.set_cons_succ, List.getElem_toArray, List.getElem_cons_zero, List.getElem_cons_succ]
    refine wpAnyH_take (i := 6) (v := ?_) rfl (by kernel_rfl) (by kernel_rfl) (by kernel_rfl) (fun _ _ _ h => h) (Or.inl ⟨by rfl, ?_⟩) hS ?_
    rotate_left
    · rintro W' ⟨lt', c0', c1', c2', c3'⟩
      go_simp
      rfl
    try simp only [Act.put, List.setIfInBounds_toArray, List.set_cons_zero, List.set_cons_succ, List.getElem_toArray, List.getElem_cons_zero, List.getElem_cons_succ]
    refine wpAnyH_take (i := 7) (v := ?_) rfl (by kernel_rfl) (by kernel_rfl) (by kernel_rfl) (fun _ _ _ h => h) (Or.inl ⟨by rfl, ?_⟩) hS ?_
    rotate_left
    · rintro W' ⟨lt', c0', c1', c2', c3'⟩
      go_simp
      rfl
    try simp only [Act.put, List.setIfInBounds_toArray, List.set_cons_zero, List.set_cons_succ, List.getElem_toArray, List.getElem_cons_zero, List.getElem_cons_succ]
    refine wpAnyH_take (i := 8) (v := ?_) rfl (by kernel_rfl) (by kernel_rfl) (by kernel_rfl) (fun _ _ _ h => h) (Or.inl ⟨by rfl, ?_⟩) hS ?_
    rotate_left
    · rintro W' ⟨lt', c0', c1', c2', c3'⟩
      go_simp
      rfl
    try simp only [Act.put, List.setIfInBounds_toArray, List.set_cons_zero, List.set_cons_succ, List.getElem_toArray, List.getElem_cons_zero, List.getElem_cons_succ]
    refine wpAnyH_take (i := 9) (v := ?_) rfl (by kernel_rfl) (by kernel_rfl) (by kernel_rfl) (fun _ _ _ h => h) (Or.inl ⟨by rfl, ?_⟩) hS ?_
    rotate_left
    · rintro W' ⟨lt', c0', c1', c2', c3'⟩
      go_simp
      rfl
    try simp only [Act.put, List.setIfInBounds_toArray, List.set_cons_zero, List.set_cons_succ, List.getElem_toArray, List.getElem_cons_zero, List.getElem_cons_succ]
    refine wpAnyH_take (i := 10) (v := ?_) rfl (by kernel_rfl) (by kernel_rfl) (by kernel_rfl) (fun _ _ _ h => h) (Or.inl ⟨by rfl, ?_⟩) hS ?_
    rotate_left
    · rintro W' ⟨lt', c0', c1', c2', c3'⟩
      go_simp
      rfl
    try simp only [Act.put, List.setIfInBounds_toArray, List.set_cons_zero, List.set_cons_succ, List.getElem_toArray, List.getElem_cons_zero, List.getElem_cons_succ]
    refine wpAnyH_take (i := 11) (v := ?_) rfl (by kernel_rfl) (by kernel_rfl) (by kernel_rfl) (fun _ _ _ h => h) (Or.inl ⟨by rfl, ?_⟩) hS ?_
    rotate_left
    · rintro W' ⟨lt', c0', c1', c2', c3'⟩
      go_simp
      rfl
    try simp only [Act.put, List.setIfInBounds_toArray, List.set_cons_zero, List.set_cons_succ, List.getElem_toArray, List.getElem_cons_zero, List.getElem_cons_succ]
    refine wpAnyH_take (i := 12) (v := ?_) rfl (by kernel_rfl) (by kernel_rfl) (by kernel_rfl) (fun _ _ _ h => h) (Or.inl ⟨by rfl, ?_⟩) hS ?_
    rotate_left
    · rintro W' ⟨lt', c0', c1', c2', c3'⟩
      go_simp
      rfl
    try simp only [Act.put, List.setIfInBounds_toArray, List.set_cons_zero, List.set_cons_succ, List.getElem_toArray, List.getElem_cons_zero, List.getElem_cons_succ]
    refine wpAnyH_take (i := 13) (v := ?_) rfl (by kernel_rfl) (by kernel_rfl) (by kernel_rfl) (fun _ _ _ h => h) (Or.inl ⟨by rfl, ?_⟩) hS ?_
    rotate_left
    · rintro W' ⟨lt', c0', c1', c2', c3'⟩
      go_simp
      rfl
    try simp only [Act.put, List.setIfInBounds_toArray, List.set_cons_zero, List.set_cons_succ, List.getElem_toArray, List.getElem_cons_zero, List.getElem_cons_succ]
    refine wpAnyH_take (i := 14) (v := ?_) rfl (by kernel_rfl) (by kernel_rfl) (by kernel_rfl) (fun _ _ _ h => h) (Or.inl ⟨by rfl, ?_⟩) hS ?_
    rotate_left
    · rintro W' ⟨lt', c0', c1', c2', c3'⟩
      go_simp
      rfl
    try simp only [Act.put, List.setIfInBounds_toArray, List.set_cons_zero, List.set_cons_succ, List.getElem_toArray, List.getElem_cons_zero, List.getElem_cons_succ]
    refine wpAnyH_take (i := 15) (v := ?_) rfl (by kernel_rfl) (by kernel_rfl) (by kernel_rfl) (fun _ _ _ h => h) (Or.inl ⟨by rfl, ?_⟩) hS ?_
    rotate_left
    · rintro W' ⟨lt', c0', c1', c2', c3'⟩
      go_simp
      rfl
    try simp only [Act.put, List.setIfInBounds_toArray, List.set_cons_zero, List.set_cons_succ, List.getElem_toArray, List.getElem_cons_zero, List.getElem_cons_succ]
    refine wpAnyH_take (i := 16) (v := ?_) rfl (by kernel_rfl) (by kernel_rfl) (by kernel_rfl) (fun _ _ _ h => h) (Or.inl ⟨by rfl, ?_⟩) hS ?_
    rotate_left
    · rintro W' ⟨lt', c0', c1', c2', c3'⟩
      go_simp
      rfl
    try simp only [Act.put, List.setIfInBounds_toArray, List.set_cons_zero, List.set_cons_succ, List.getElem_toArray, List.getElem_cons_zero, List.getElem_cons_succ]
    refine wpAnyH_take (i := 17) (v := ?_) rfl (by kernel_rfl) (by kernel_rfl) (by kernel_rfl) (fun _ _ _ h => h) (Or.inl ⟨by rfl, ?_⟩) hS ?_
    rotate_left
    · rintro W' ⟨lt', c0', c1', c2', c3'⟩
      go_simp
      rfl
    try simp only [Act.put, List.setIfInBounds_toArray, List.set_cons_zero, List.set_cons_succ, List.getElem_toArray, List.getElem_cons_zero, List.getElem_cons_succ]
    refine wpAnyH_take (i := 18) (v := ?_) rfl (by kernel_rfl) (by kernel_rfl) (by kernel_rfl) (fun _ _ _ h => h) (Or.inl ⟨by rfl, ?_⟩) hS ?_
    rotate_left
    · rintro W' ⟨lt', c0', c1', c2', c3'⟩
      go_simp
      rfl
    try simp only [Act.put, List.setIfInBounds_toArray, List.set_cons_zero, List.set_cons_succ, List.getElem_toArray, List.getElem_cons_zero, List.getElem_cons_succ]
    refine wpAnyH_take (i := 19) (v := ?_) rfl (by kernel_rfl) (by kernel_rfl) (by kernel_rfl) (fun _ _ _ h => h) (Or.inl ⟨by rfl, ?_⟩) hS ?_
    rotate_left
    · rintro W' ⟨lt', c0', c1', c2', c3'⟩
      go_simp
      rfl
    try simp only [Act.put, List.setIfInBounds_toArray, List.set_cons_zero, List.set_cons_succ, List.getElem_toArray, List.getElem_cons_zero, List.getElem_cons_succ]
    refine wpAnyH_ready (rs := [20]) (by kernel_rfl) (by simp) (AllReadyH.cons rfl (fun K hK => ?_) AllReadyH.nil)
    go_simp
    refine hK.out _ _ (hS.below ((Below.refl _ _).alloc (Nat.le_refl _) _)) (fun hS => ?_)
    try simp only [Act.put, List.setIfInBounds_toArray, List.set_cons_zero, List.set_cons_succ, List.getElem_toArray, List.getElem_cons_zero, List.getElem_cons_succ]
    clear hK
    refine wpAnyH_take (i := 21) (v := ?_) rfl (by kernel_rfl) (by kernel_rfl) (by kernel_rfl) (fun _ _ _ h => h) (Or.inl ⟨by rfl, ?_⟩) hS ?_
    rotate_left
    · rintro W' ⟨lt', c0', c1', c2', c3'⟩
      go_simp
      rfl
    try simp only [Act.put, List.setIfInBounds_toArray, List.set_cons_zero, List.set_cons_succ, List.getElem_toArray, List.getElem_cons_zero, List.getElem_cons_succ]
    refine wpAnyH_done (by kernel_rfl) ?_ _
    have HQ : Hid (Blk (wr.alloc (.cells #[.int .i64 x.least, .int .i64 x.greatest, .int .i64 x.ol, .int .i64 x.og] 2)).drew wr.heap.size 2 (i64s (quad x)).toArray ∧ Below w2.heap.size w2 (wr.alloc (.cells #[.int .i64 x.least, .int .i64 x.greatest, .int .i64 x.ol, .int .i64 x.og] 2)).drew) := Lib.hid ⟨(Blk.new wr _ _).drew, (H.out.2.alloc H.out.2.size _).drew⟩
    clear hS
    go_wp2_with fail
    obtain ⟨wq, hwq⟩ : ∃ wq, wq = (wr.alloc (.cells #[.int .i64 x.least, .int .i64 x.greatest, .int .i64 x.ol, .int .i64 x.og] 2)).drew := ⟨_, rfl⟩
    rw [← hwq] at HQ
    rw [← hwq]
    clear hwq
    go_loopw [11] (fun kv wx => ∃ k : Nat, k ≤ 4 ∧ kv = .int .i64 k ∧ Hid (∀ (j : Nat) (h : j < 4), j < k → (quad x)[j] ≤ 1073741824) ∧ wq = wx) (fun kv _ => 4 - (intOf kv).toNat)
    case atStart => exact ⟨0, by omega, rfl, Lib.hid (fun j h h2 => by omega), rfl⟩
    case round =>
      obtain ⟨k, hk, rfl, H2, rfl⟩ := hrel
      have hwk : IntKind.i64.wrap ((k : Int) + 1) = (k : Int) + 1 := IntWalk.i64_in _ ⟨by omega, by omega⟩
      by_cases hk4 : k < 4
      · have g0 : decide ((k : Int) < 4) = true := decide_eq_true (by omega)
        have g0' : decide (k < 4) = true := decide_eq_true hk4
        have hki : (k : Int) < 4 := by omega
        obtain ⟨v, hv⟩ : ∃ v, v = (quad x)[k]'(by exact hk4) := ⟨_, rfl⟩
        have vq : wq.cell? ⟨wr.heap.size, k, none⟩ = some (.int .i64 v) := HQ.out.1.get k (by
          rw [List.getElem?_toArray, i64s, List.getElem?_map, List.getElem?_eq_getElem (show k < (quad x).length from hk4), hv]; rfl)
        have HVV := Lib.hid hv
        clear hv
        cases c1 : decide (1073741824 < v)
        rotate_left
        · go_wp2_with fail
          refine (works_any _).mono ?_
          rintro e w9 ⟨rfl, hw9⟩
          have HB9 := Lib.hid (HB3.out.trans ((HQ.out.2.trans (hw9.mono HQ.out.2.size)).mono HB3.out.size))
          clear hw9
          go_wp2_with fail
          go_ret
          exact ⟨rfl, HB9.out⟩
        have HC := Lib.hid (show v ≤ 1073741824 by have := of_decide_eq_false c1; omega)
        go_wp2_with fail
        go_roundw
        case rel => exact ⟨k + 1, by omega, by go_num, Lib.hid (fun j h h2 => by
          by_cases hj : j = k
          · subst hj; rw [← HVV.out]; exact HC.out
          · exact H2.out j h (by omega)), trivial⟩
        case measure => simp [intOf]; omega
      · have g0 : decide ((k : Int) < 4) = false := decide_eq_false (by omega)
        have g0' : decide (k < 4) = false := decide_eq_false hk4
        have HXX : Hid (CnB 1073741824 got[i]) := Lib.hid (fun j h => ⟨(HMO.out.b i hil j h).1, by have h2 := H2.out j h (by omega); rw [HX.out] at h2; exact h2⟩)
        go_wp2_with fail
        go_roundw
        case rel => exact ⟨i + 1, by omega, by go_num, Lib.hid ⟨fun j h h2 => by
          by_cases hj : j = i
          · subst hj; exact HXX.out
          · exact H.out.1 j h (by omega), HQ.out.2⟩⟩
        case measure => simp [intOf]; omega
end
end Go.Proofs.Ytenpjdpkilbhkaa
