/- The law MainsTurned, walked. -/
import Derived.Test.YtdnpobfnkdllmaaMu
import Derived.Test.YtdnpobfnkdllmaaWm
set_option linter.unusedSimpArgs false
set_option linter.unusedVariables false
namespace Go.Proofs.Ytdnpobfnkdllmaa
open Go.RowKit
attribute [local go_sem] block_of_add

/-! The items with their places as their orders; and turned. -/
def kT (l : List Sty) (k : Nat) : Sty := { stK l k with order := (k : Int) }
def kidsT (l : List Sty) (n : Nat) : List Sty := (List.range n).map (kT l)
def backT (l : List Sty) (n j : Nat) : List Sty := (List.range j).map fun q => kT l (n - 1 - q)
def othT (got : List Cn) (n j : Nat) : List Cn := (List.range j).map fun q => gAt got (n - 1 - q)
theorem kidsT_len (l : List Sty) (n : Nat) : (kidsT l n).length = n := by simp [kidsT]
theorem backT_len (l : List Sty) (n j : Nat) : (backT l n j).length = j := by simp [backT]
theorem othT_len (got : List Cn) (n j : Nat) : (othT got n j).length = j := by simp [othT]
theorem kidsT_succ (l : List Sty) (i : Nat) : kidsT l (i + 1) = kidsT l i ++ [kT l i] := by simp [kidsT, List.range_succ]
theorem backT_succ (l : List Sty) (n i : Nat) : backT l n (i + 1) = backT l n i ++ [kT l (n - 1 - i)] := by simp [backT, List.range_succ]
theorem othT_succ (got : List Cn) (n i : Nat) : othT got n (i + 1) = othT got n i ++ [gAt got (n - 1 - i)] := by simp [othT, List.range_succ]
theorem allF_succ (got : List Cn) (i : Nat) : allF got (i + 1) = allF got i ++ [gAt got i] := by simp [allF, List.range_succ]
theorem kidsT_get (l : List Sty) {n k : Nat} (h : k < n) : (kidsT l n)[k]'(by rw [kidsT_len]; exact h) = kT l k := by simp [kidsT]
theorem kidsT_ord (l : List Sty) (n k : Nat) (h : k < n) : ordF (kidsT l n) k = k := by
  rw [ordF_at _ (by rw [kidsT_len]; exact h)]; simp [kidsT, kT]
theorem backT_ord (l : List Sty) (n k : Nat) (h : k < n) : ordF (backT l n n) k = ((n - 1 - k : Nat) : Int) := by
  rw [ordF_at _ (by rw [backT_len]; exact h)]; simp [backT, kT]
theorem gAt_all (got : List Cn) (n k : Nat) : gAt (allF got n) k = if k < n then gAt got k else cn0 := by
  by_cases h : k < n
  · rw [if_pos h]
    have : (allF got n)[k]? = some (gAt got k) := by simp [allF, h]
    unfold gAt at this ⊢; rw [this]; rfl
  · rw [if_neg h]
    have : (allF got n)[k]? = none := by simp [allF]; omega
    unfold gAt; rw [this]; rfl
theorem gAt_oth (got : List Cn) (n k : Nat) : gAt (othT got n n) k = if k < n then gAt got (n - 1 - k) else cn0 := by
  by_cases h : k < n
  · rw [if_pos h]
    have : (othT got n n)[k]? = some (gAt got (n - 1 - k)) := by simp [othT, h]
    unfold gAt at this ⊢; rw [this]; rfl
  · rw [if_neg h]
    have : (othT got n n)[k]? = none := by simp [othT]; omega
    unfold gAt; rw [this]; rfl
theorem itM_turn (l : List Sty) (got : List Cn) (c : Int) (n k : Nat) : itM (backT l n n) c (othT got n n) k = itM (kidsT l n) c (allF got n) (turnN n k) := by
  unfold itM turnN
  rw [gAt_oth, gAt_all]
  by_cases h : k < n
  · rw [if_pos h, if_pos h, if_pos (by omega)]
    have h1 : stK (backT l n n) k = kT l (n - 1 - k) := by
      unfold stK; rw [show (backT l n n)[k]? = some (kT l (n - 1 - k)) by simp [backT, h]]; rfl
    have h2 : stK (kidsT l n) (n - 1 - k) = kT l (n - 1 - k) := by
      unfold stK; rw [show (kidsT l n)[n - 1 - k]? = some (kT l (n - 1 - k)) by unfold kidsT; rw [List.getElem?_map, List.getElem?_range (by omega)]; rfl]; rfl
    rw [h1, h2]
  · rw [if_neg h, if_neg h, if_neg h]
    have h1 : stK (backT l n n) k = styD := by
      unfold stK; rw [show (backT l n n)[k]? = none by simp [backT]; omega]; rfl
    have h2 : stK (kidsT l n) k = styD := by
      unfold stK; rw [show (kidsT l n)[k]? = none by simp [kidsT]; omega]; rfl
    rw [h1, h2]
/-- Rows that are read. -/
structure RowsX (w : World) (B : Nat) (A : Option Addr) (rows : List (List Nat)) : Prop where
  at_ : ∀ r, r < rows.length → ∃ g Ar cr, A = some ⟨g, 0, none⟩ ∧ g < B ∧ w.cell? ⟨g, r, none⟩ = some (.slice Ar (rowAt rows r).length cr) ∧ Reads w B 1 Ar (rowAt rows r).length (nCells (rowAt rows r))
theorem RowsAt.x {w : World} {lo B n c : Nat} {A : Option Addr} {rows : List (List Nat)} (h : RowsAt w lo B (.slice A n c) rows) : RowsX w B A rows := by
  obtain ⟨A', c', e, _, hx⟩ := h.ex
  injection e with e1 e2 e3
  subst e1
  refine ⟨fun r hr => ?_⟩
  obtain ⟨g, hA, _, hB, hp⟩ := hx (by omega)
  obtain ⟨Ar, cr, h1, _, h2, _⟩ := hp r hr
  exact ⟨g, Ar, cr, hA, hB, h1, h2⟩
theorem RowsX.below {w w' : World} {B : Nat} {A : Option Addr} {rows : List (List Nat)} (h : RowsX w B A rows) (hb : Below B w w') : RowsX w' B A rows := ⟨fun r hr => by
  obtain ⟨g, Ar, cr, h1, h2, h3, h4⟩ := h.at_ r hr
  exact ⟨g, Ar, cr, h1, h2, (hb.cell (p := ⟨g, r, none⟩) h2).trans h3, h4.below hb⟩⟩
theorem rows_count {rows : List (List Nat)} (h : ∀ r ∈ rows, r ≠ []) : rows.length ≤ rows.flatten.length := by
  induction rows with
  | nil => simp
  | cons a t ih =>
    have h1 := ih fun r hr => h r (by simp [hr])
    have h3 := List.length_pos_iff.2 (h a (by simp))
    rw [List.flatten_cons, List.length_append, List.length_cons]; omega
theorem rowAt_len (rows : List (List Nat)) (r : Nat) : (rowAt rows r).length ≤ rows.flatten.length := by
  unfold rowAt
  rcases Nat.lt_or_ge r rows.length with h | h
  · rw [List.getElem?_eq_getElem h]; exact row_len h
  · rw [List.getElem?_eq_none h]; simp
/-- What is said of the two. -/
structure TurnAns (n : Nat) (U V : Nat → It) (R1 R2 : List (List Nat)) : Prop where
  u : ∀ k, k < n → U k = V (n - 1 - k)
  len : R1.length = R2.length
  cnt : R1.length ≤ n
  rl : ∀ r, (rowAt R1 r).length ≤ n
  row : ∀ r, (rowAt R1 r).length = (rowAt R2 r).length
  at_ : ∀ r (i : Nat) (h1 : i < (rowAt R1 r).length) (h2 : i < (rowAt R2 r).length), (rowAt R2 r)[i] < n ∧ (rowAt R1 r)[i] = n - 1 - (rowAt R2 r)[i]
theorem turn_ans (s : Sty) (c : Int) (l : List Sty) (got : List Cn) (n : Nat) : TurnAns n (mainsM s c (kidsT l n) (allF got n)) (mainsM s c (backT l n n) (othT got n n))
    (rowsF s.wrap c (ownM (itM (kidsT l n) c (allF got n))) (orderF (ordF (kidsT l n)) (kidsT l n).length)) (rowsF s.wrap c (ownM (itM (backT l n n) c (othT got n n))) (orderF (ordF (backT l n n)) (backT l n n).length)) := by
  have ho : orderF (ordF (kidsT l n)) n = List.range n := order_id _ _ fun p q hpq hq => by rw [kidsT_ord l n p (by omega), kidsT_ord l n q hq]; omega
  obtain ⟨h1, h2⟩ := turned_all n s.wrap c (itM (kidsT l n) c (allF got n)) (ordF (backT l n n)) (backT_ord l n) (itM (backT l n n) c (othT got n n)) (itM_turn l got c n)
  rw [kidsT_len, backT_len, ho]
  have hfl : ∀ r ∈ rowsF s.wrap c (ownM (itM (backT l n n) c (othT got n n))) (orderF (ordF (backT l n n)) n), ∀ k ∈ r, k < n := fun r hr k hk => by
    have : k ∈ (rowsF s.wrap c (ownM (itM (backT l n n) c (othT got n n))) (orderF (ordF (backT l n n)) n)).flatten := List.mem_flatten.2 ⟨r, hr, hk⟩
    rw [rowsF_flat] at this; exact (orderF_mem _ _ _).1 this
  obtain ⟨R2, hR2⟩ : ∃ R2, R2 = rowsF s.wrap c (ownM (itM (backT l n n) c (othT got n n))) (orderF (ordF (backT l n n)) n) := ⟨_, rfl⟩
  obtain ⟨R1, hR1⟩ : ∃ R1, R1 = rowsF s.wrap c (ownM (itM (kidsT l n) c (allF got n))) (List.range n) := ⟨_, rfl⟩
  have hm : mainsM s c (kidsT l n) (allF got n) = fitsM c (itM (kidsT l n) c (allF got n)) R1 := by unfold mainsM; rw [kidsT_len, ho, hR1]
  have hm2 : mainsM s c (backT l n n) (othT got n n) = fitsM c (itM (backT l n n) c (othT got n n)) R2 := by unfold mainsM; rw [backT_len, hR2]
  rw [← hR2] at h1 h2 hfl ⊢
  rw [← hR1] at h1 h2 ⊢
  have hrow : ∀ r, rowAt R1 r = (rowAt R2 r).map (turnN n) := fun r => by
    unfold rowAt; rw [← h1, List.getElem?_map]; cases R2[r]? <;> rfl
  have hf2 : R2.flatten.length = n := by rw [hR2, rowsF_flat, orderF_len]
  have hne2 : ∀ r ∈ R2, r ≠ [] := by rw [hR2]; exact (rows_all _ _ _ _).ne
  refine ⟨fun k hk => ?_, by rw [← h1, List.length_map], by rw [← h1, List.length_map, ← hf2]; exact rows_count hne2, fun r => by rw [hrow, List.length_map, ← hf2]; exact rowAt_len _ _, fun r => by rw [hrow, List.length_map], fun r i g1 g2 => ?_⟩
  · rw [hm, hm2]
    have := h2 (n - 1 - k)
    rw [this]
    unfold turnN; rw [if_pos (by omega), show n - 1 - (n - 1 - k) = k by omega]
  · have hlt : (rowAt R2 r)[i] < n := by
      have hr : r < R2.length := by
        rcases Nat.lt_or_ge r R2.length with h | h
        · exact h
        · exfalso
          have : rowAt R2 r = [] := by unfold rowAt; rw [List.getElem?_eq_none h]; rfl
          rw [this] at g2; simp at g2
      have he : rowAt R2 r = R2[r] := by unfold rowAt; rw [List.getElem?_eq_getElem hr]; rfl
      exact hfl R2[r] (List.getElem_mem hr) _ (by rw [← he]; exact List.getElem_mem g2)
    refine ⟨hlt, ?_⟩
    have : (rowAt R1 r)[i] = turnN n (rowAt R2 r)[i] := by
      have e := hrow r
      have h3 : (rowAt R1 r)[i]? = ((rowAt R2 r).map (turnN n))[i]? := by rw [e]
      rw [List.getElem?_eq_getElem g1, List.getElem?_map, List.getElem?_eq_getElem g2] at h3
      simpa using h3
    rw [this]; unfold turnN; rw [if_pos hlt]
theorem kT_x {l : List Sty} {k : Nat} (hk : k < l.length) (h : StX l[k]) : StX (kT l k) := by
  unfold kT
  rw [stK_at hk]
  exact ⟨⟨h.m.m1, h.m.m3, h.m.w, h.m.basis, h.m.maxw, h.m.minw, ⟨h.m.b.w, h.m.b.maxw, h.m.b.minw, h.m.b.m1, h.m.b.m3, h.m.b.b1, h.m.b.b3, h.m.b.p1, h.m.b.p3⟩⟩, h.grow, h.shrink⟩
theorem sty_order (s : Sty) (k : Int) : (styCells s).toArray.setIfInBounds 37 (.int .i64 k) = (styCells { s with order := k }).toArray := rfl
/-- The two rows that the first loop makes. -/
structure TuI (gc B i : Nat) (cs : List Value) (l : List Sty) (got : List Cn) (v4 v6 : Value) (w W : World) : Prop where
  k : W.ownsRow B 32 43 v4 i (stysCells (kidsT l i))
  g : W.ownsRow B 53 4 v6 i (cnsCells (allF got i))
  cs : Blk W gc 45 cs.toArray
  b : Below w.heap.size w W
  lo : B ≤ W.heap.size
  wB : w.heap.size ≤ B
section
variable {gc B i : Nat} {cs : List Value} {l : List Sty} {got : List Cn} {v4 v6 v : Value} {w W W' : World}
theorem TuI.bel (h : TuI gc B i cs l got v4 v6 w W) (hb : Below W.heap.size W W') : TuI gc B i cs l got v4 v6 w W' :=
  ⟨own_below h.k hb, own_below h.g hb, h.cs.below hb h.cs.lt, h.b.trans (hb.mono h.b.size), Nat.le_trans h.lo hb.size, h.wB⟩
end
set_option maxRecDepth 100000 in
set_option maxHeartbeats 4000000 in
theorem mainsTurned_any (s : Sty) (c : Int) (l : List Sty) (got : List Cn) (A Ag : Option Addr) (ck cg : Nat) (w : World) (hr : Reads w w.heap.size 43 A l.length (stysCells l)) (huv : ∀ s ∈ l, ∃ Au nu cu, s.uv = .slice Au nu cu) (hsv : ∃ Au nu cu, s.uv = .slice Au nu cu) (hg : Reads w w.heap.size 4 Ag got.length (cnsCells got)) :
    Calls Try.prog 8 #[.agg (caseCells s c A l.length ck Ag got.length cg).toArray] w fun e w' => e = .returned (.bool true) ∧ Below w.heap.size w w' := by
  have HMAY := Lib.hid (fun W (hb : Below w.heap.size w W) => may19_any s c l got A Ag ck cg W ((hr.below hb).more hb.size) huv ((hg.below hb).more hb.size))
  have HR := Lib.hid hr
  have HG := Lib.hid hg
  have HUV := Lib.hid huv
  clear hr hg huv
  have HC0 : Hid (Blk (w.alloc (.cells (caseCells s c A l.length ck Ag got.length cg).toArray 45)) w.heap.size 45 (caseCells s c A l.length ck Ag got.length cg).toArray) := Lib.hid (Blk.new _ _ _)
  have HCB : Hid (Below w.heap.size w (w.alloc (.cells (caseCells s c A l.length ck Ag got.length cg).toArray 45))) := Lib.hid (bal (Below.refl _ _) _)
  obtain ⟨n, hne⟩ : ∃ n, n = l.length := ⟨_, rfl⟩
  rw [← hne] at HR HC0 HCB HMAY ⊢
  have HN := Lib.hid hne
  clear hne
  obtain ⟨m, hme⟩ : ∃ m, m = got.length := ⟨_, rfl⟩
  rw [← hme] at HG HC0 HCB HMAY ⊢
  have HM := Lib.hid hme
  clear hme
  go_enter Try.func8, Try.ntmps8
  go_upto_region 1 with (fail)
  obtain ⟨gc, hgc⟩ : ∃ gc, gc = w.heap.size := ⟨_, rfl⟩
  obtain ⟨w1, hw1⟩ : ∃ w1, w1 = w.alloc (.cells (caseCells s c A n ck Ag m cg).toArray 45) := ⟨_, rfl⟩
  have HZ : Hid (w1.heap.size = gc + 1 ∧ gc = w.heap.size) := Lib.hid ⟨by rw [hw1, hgc]; simp, hgc⟩
  have HE : Hid (w.alloc (.cells (caseCells s c A n ck Ag m cg).toArray 45) = w1) := Lib.hid hw1.symm
  rw [← hw1] at HC0 HCB
  rw [← hgc] at HC0
  rw [← hgc]
  first | rw [HE.out] | (rw [show (w.alloc _) = w1 from HE.out])
  clear HE hw1 hgc
  have HRG1 : Hid (w1.rangeAt gc 0 (caseCells s c A n ck Ag m cg)) := Lib.hid (blk_rng HC0.out fun j v hv => by rw [Nat.zero_add]; exact hv)
  go_wp2_with (refine wpList_load_mid rfl 45 (.tmp 1) rfl gc 0 rfl (caseCells s c A n ck Ag m cg) _ HRG1.out Try.underlying45 rfl (by kernel_rfl) ?_)
  refine (HMAY.out _ HCB.out).mono ?_
  rintro e w2 ⟨⟨b, rfl, hb⟩, hb2⟩
  have HMB := Lib.hid hb
  have H2 := Lib.hid (And.intro (HC0.out.below hb2 HC0.out.lt) (HCB.out.trans (hb2.mono HCB.out.size)))
  have HZ2 := Lib.hid (show gc + 1 ≤ w2.heap.size by rw [← HZ.out.1]; exact hb2.size)
  clear hb hb2 HMAY HRG1
  cases b
  · go_wp2_with (go_at_call 12; refine (works19_any _).mono ?_; rintro e w' ⟨rfl, hb9⟩; have HB9 := Lib.hid (H2.out.2.trans (hb9.mono H2.out.2.size)); clear hb9)
    go_ret
    exact ⟨rfl, HB9.out⟩
  have HMY := Lib.hid (HMB.out rfl)
  have hn60 : n ≤ 60 := by rw [HN.out]; exact HMY.out.n
  have c44 : w2.cell? ⟨gc, 44, none⟩ = some (.slice A n ck) := H2.out.1.get 44 rfl
  go_wp2_with fail
  clear c44
  have HI0 : Hid (TuI gc (gc + 1) 0 (caseCells s c A n ck Ag m cg) l got (.slice none 0 0) (.slice none 0 0) w w2) := Lib.hid ⟨World.ownsRow_nil _ _ _ _, World.ownsRow_nil _ _ _ _, H2.out.1, H2.out.2, HZ2.out, by have := HZ.out.2; omega⟩
  go_loopw [4, 6, 8] (fun v4 v6 kv wr => ∃ i : Nat, i ≤ n ∧ kv = .int .i64 i ∧ Hid (TuI gc (gc + 1) i (caseCells s c A n ck Ag m cg) l got v4 v6 w wr)) (fun _ _ kv _ => n - (intOf kv).toNat)
  case atStart => exact ⟨0, by omega, rfl, HI0⟩
  case round =>
    obtain ⟨i, hi, rfl, H⟩ := hrel
    obtain ⟨A4, c4, hv4⟩ := own_form H.out.k
    subst hv4
    obtain ⟨A6, c6, hv6⟩ := own_form H.out.g
    subst hv6
    by_cases hlt : i < n
    · have g0 : decide ((i : Int) < (n : Int)) = true := decide_eq_true (by omega)
      have g0' : decide (i < n) = true := decide_eq_true hlt
      have hki : (i : Int) < (n : Int) := by omega
      have hk0 : (0 : Int) ≤ (i : Int) := by omega
      have wk : IntKind.i64.wrap ((i : Int) + 1) = (i : Int) + 1 := IntWalk.i64_in _ ⟨by omega, by omega⟩
      have hil : i < l.length := by rw [← HN.out]; exact hlt
      have c44 : wr.cell? ⟨gc, 44, none⟩ = some (.slice A n ck) := H.out.cs.get 44 rfl
      obtain ⟨ad, rfl, hst⟩ := HR.out.st HN.out hil
      obtain ⟨x, hxe⟩ : ∃ x, x = l[i] := ⟨_, rfl⟩
      have HLD : Hid (∀ j u, (styCells x)[j]? = some u → wr.cell? ((ad.add (i * 43)).add j) = some u) := Lib.hid (fun j u hu => by
        obtain ⟨ad', e, hb, hcc⟩ := (HR.out.below H.out.b).2 (by omega)
        injection e with e; subst e
        have hj : j < 43 := by have := (List.getElem?_eq_some_iff.1 hu).1; rw [sty_len] at this; exact this
        rw [add_of_add]
        exact hcc _ u (by rw [stysCells_at l i j hil hj, ← hxe]; exact hu))
      obtain ⟨Au, nu, cu, huv⟩ := HUV.out l[i] (List.getElem_mem hil)
      rw [← hxe] at huv
      have HO := Lib.hid (Sty.one x huv)
      have HO2 : Hid (∀ u ∈ styCells (kT l i), u.oneCell' = true) := Lib.hid (by
        have := Sty.one (kT l i) (A := Au) (n := nu) (c := cu) (by unfold kT; rw [stK_at hil, ← hxe]; exact huv)
        intro u hu
        exact Array.all_eq_true'.1 this u (by simpa using hu))
      have HK : Hid ({ x with order := (i : Int) } = kT l i) := Lib.hid (by unfold kT; rw [stK_at hil, ← hxe])
      clear hst hxe huv
      go_upto_region 10 with (first
        | refine wpList_load_at rfl 32 _ rfl _ rfl (styCells x) _ HLD.out Try.underlying32 rfl (by kernel_rfl) ?_
        | refine wpList_store_new rfl 32 _ _ rfl _ (by simp) (styCells x).toArray rfl rfl 32 _ (by kernel_rfl) rfl HO.out ?_)
      clear c44
      obtain ⟨gs, hgs⟩ : ∃ gs, gs = wr.heap.size := ⟨_, rfl⟩
      have H3 : Hid (Below wr.heap.size wr (wr.alloc (.cells (styCells x).toArray 32)) ∧ Blk (wr.alloc (.cells (styCells x).toArray 32)) gs 32 (styCells x).toArray ∧ wr.heap.size ≤ gs) := Lib.hid ⟨bal (Below.refl _ _) _, Blk.at_ _ _ _ hgs, by omega⟩
      obtain ⟨w3, hw3⟩ : ∃ w3, w3 = wr.alloc (.cells (styCells x).toArray 32) := ⟨_, rfl⟩
      rw [← hw3] at H3
      rw [← hw3, ← hgs]
      clear hw3 hgs
      have q1 := H3.out.2.1.get 37 rfl
      have q2 := H3.out.2.1.frozen 37
      go_upto_region 11 with (fail)
      clear q1 q2
      have H4 : Hid (TuI gc (gc + 1) i (caseCells s c (some ad) n ck Ag m cg) l got (.slice A4 i c4) (.slice A6 i c6) w (w3.setCell ⟨gs, 37, none⟩ (.int .i64 (i : Int))) ∧ Blk (w3.setCell ⟨gs, 37, none⟩ (.int .i64 (i : Int))) gs 32 (styCells (kT l i)).toArray) := Lib.hid
        ⟨H.out.bel (H3.out.1.setCell H3.out.2.2 _), by rw [← HK.out]; exact H3.out.2.1.set_ 37 _⟩
      obtain ⟨w4, hw4⟩ : ∃ w4, w4 = w3.setCell ⟨gs, 37, none⟩ (.int .i64 (i : Int)) := ⟨_, rfl⟩
      rw [← hw4] at H4 ⊢
      clear hw4 H3
      have HRG := Lib.hid (sty_rngB H4.out.2)
      go_upto_region 12 with (first
        | refine wpList_load_mid rfl 32 (.tmp 9) rfl gs 0 rfl (styCells (kT l i)) _ HRG.out Try.underlying32 rfl (by kernel_rfl) ?_
        | refine wpList_rows rfl 25 1 #[(0, .tmp 41)] rfl (.slice (some ⟨w4.heap.size, 0, none⟩) 1 1) (w4.alloc (.cells (styCells (kT l i)).toArray 32)) (by kernel_rfl) ?_
        | (at_builtin; refine wpList_app (m := 1) rfl _ _ rfl el_sty H4.out.1.k H4.out.1.lo rfl (styCells (kT l i)) rfl rfl HO2.out (by omega) (by omega) ?_; intro A8 c8 w8 hown8 hB8 hg8 _; have H8 := Lib.hid (And.intro hown8 (And.intro hB8 hg8)); clear hown8 hB8 hg8))
      have H9 : Hid (w8.ownsRow (gc + 1) 32 43 (.slice A8 (i + 1) c8) (i + 1) (stysCells (kidsT l (i + 1))) ∧ w8.ownsRow (gc + 1) 53 4 (.slice A6 i c6) i (cnsCells (allF got i)) ∧ Blk w8 gc 45 (caseCells s c (some ad) n ck Ag m cg).toArray ∧ Below w.heap.size w w8 ∧ gc + 1 ≤ w8.heap.size) := Lib.hid
        ⟨by
          have h := H8.out.1
          rw [kidsT_succ, show stysCells (kidsT l i ++ [kT l i]) = stysCells (kidsT l i) ++ styCells (kT l i) by simp [stysCells]]
          exact h, H4.out.1.g.kept H8.out.2.2 (own_ne H4.out.1.g H4.out.1.k (by decide)), H4.out.1.cs.grown H8.out.2.2 (fun e => own_blk_ne H4.out.1.k H4.out.1.cs (by decide) e.symm),
          H8.out.2.1 _ _ H4.out.1.wB H4.out.1.b, Nat.le_trans H4.out.1.lo H8.out.2.2.size⟩
      clear H4 H8 HRG
      have c45 : w8.cell? ⟨gc, 45, none⟩ = some (.slice Ag m cg) := H9.out.2.2.1.get 45 rfl
      have lgc := H9.out.2.2.1.lt
      obtain ⟨y, hy⟩ : ∃ y, y = gAt got i := ⟨_, rfl⟩
      have HA1 : Hid (allF got (i + 1) = allF got i ++ [y]) := Lib.hid (by rw [hy]; exact allF_succ _ _)
      by_cases hlm : i < m
      · have m0 : decide ((i : Int) < (m : Int)) = true := decide_eq_true (by omega)
        have m0' : decide (i < m) = true := decide_eq_true hlm
        have hmi : (i : Int) < (m : Int) := by omega
        obtain ⟨ag, rfl, hab, x0, x1, x2, x3⟩ := ((HG.out.below H9.out.2.2.2.1)).cn HM.out (show i < got.length by rw [← HM.out]; exact hlm)
        have hye : got[i]'(by rw [← HM.out]; exact hlm) = y := by
          rw [hy]; unfold gAt; rw [List.getElem?_eq_getElem (by rw [← HM.out]; exact hlm)]; rfl
        rw [hye] at x0 x1 x2 x3
        clear hy hye
        have hab2 : ag.block < w8.heap.size := by have := H9.out.2.2.2.1.size; omega
        go_upto_region 15 with (refine wpList_store_new rfl 53 _ _ rfl _ (by simp) (cnCells y).toArray rfl rfl 53 _ (by kernel_rfl) rfl rfl ?_)
        clear x0 x1 x2 x3 c45 hab2
        rw [show (w8.alloc (.cells #[.int .i64 y.least, .int .i64 y.greatest, .int .i64 y.ol, .int .i64 y.og] 53)) = w8.alloc (.cells (cnCells y).toArray 53) from rfl]
        have HN9 : Hid (Blk (w8.alloc (.cells (cnCells y).toArray 53)) w8.heap.size 53 (cnCells y).toArray ∧ Below w8.heap.size w8 (w8.alloc (.cells (cnCells y).toArray 53))) := Lib.hid ⟨Blk.new _ _ _, bal (Below.refl _ _) _⟩
        obtain ⟨gy, hgy⟩ : ∃ gy, gy = w8.heap.size := ⟨_, rfl⟩
        obtain ⟨w9, hw9⟩ : ∃ w9, w9 = w8.alloc (.cells (cnCells y).toArray 53) := ⟨_, rfl⟩
        rw [← hw9, ← hgy] at HN9
        rw [← hw9, ← hgy]
        have H10 : Hid (w9.ownsRow (gc + 1) 32 43 (.slice A8 (i + 1) c8) (i + 1) (stysCells (kidsT l (i + 1))) ∧ w9.ownsRow (gc + 1) 53 4 (.slice A6 i c6) i (cnsCells (allF got i)) ∧ Blk w9 gc 45 (caseCells s c (some ad) n ck (some ag) m cg).toArray ∧ Below w.heap.size w w9 ∧ gc + 1 ≤ w9.heap.size) := Lib.hid (by
          have hb := HN9.out.2
          rw [hgy] at hb
          exact ⟨own_below H9.out.1 hb, own_below H9.out.2.1 hb, H9.out.2.2.1.below hb H9.out.2.2.1.lt, H9.out.2.2.2.1.trans (hb.mono H9.out.2.2.2.1.size), Nat.le_trans H9.out.2.2.2.2 hb.size⟩)
        clear hgy hw9
        have y0 : w9.cell? ⟨gy, 0, none⟩ = some (.int .i64 y.least) := HN9.out.1.get 0 rfl
        have y1 : w9.cell? ⟨gy, 1, none⟩ = some (.int .i64 y.greatest) := HN9.out.1.get 1 rfl
        have y2 : w9.cell? ⟨gy, 2, none⟩ = some (.int .i64 y.ol) := HN9.out.1.get 2 rfl
        have y3 : w9.cell? ⟨gy, 3, none⟩ = some (.int .i64 y.og) := HN9.out.1.get 3 rfl
        go_wp2_with (at_builtin; refine wpList_app (m := 1) rfl _ _ rfl el_cn H10.out.2.1 H10.out.2.2.2.2 rfl (cnCells y) rfl rfl (by simp [cnCells, Value.oneCell']) (by omega) (by omega) ?_; intro A11 c11 w11 hown11 hB11 hg11 _; have H11 := Lib.hid (And.intro hown11 (And.intro hB11 hg11)); clear hown11 hB11 hg11)
        have H12 : Hid (TuI gc (gc + 1) (i + 1) (caseCells s c (some ad) n ck (some ag) m cg) l got (.slice A8 (i + 1) c8) (.slice A11 (i + 1) c11) w w11) := Lib.hid
          ⟨H10.out.1.kept H11.out.2.2 (own_ne H10.out.1 H10.out.2.1 (by decide)), by
            have h := H11.out.1
            rw [HA1.out, cnsCells_app, show cnsCells [y] = cnCells y by simp [cnsCells]]
            exact h, H10.out.2.2.1.grown H11.out.2.2 (fun e => own_blk_ne H10.out.2.1 H10.out.2.2.1 (by decide) e.symm), H11.out.2.1 _ _ (by have := HZ.out.2; omega) H10.out.2.2.2.1, Nat.le_trans H10.out.2.2.2.2 H11.out.2.2.size, by have := HZ.out.2; omega⟩
        go_roundw
        case rel => exact ⟨i + 1, by omega, by go_num, H12⟩
        case measure => simp [intOf] <;> omega
      · have m0 : decide ((i : Int) < (m : Int)) = false := decide_eq_false (by omega)
        have m0' : decide (i < m) = false := decide_eq_false hlm
        have hy0 : y = cn0 := by rw [hy]; unfold gAt; rw [List.getElem?_eq_none (by rw [← HM.out]; omega)]; rfl
        clear hy
        go_upto_region 15 with (fail)
        rw [show (w8.alloc (.cells #[.int .i64 0, .int .i64 0, .int .i64 0, .int .i64 0] 53)) = w8.alloc (.cells (cnCells y).toArray 53) by rw [hy0]; rfl]
        clear c45 hy0
        have HN9 : Hid (Blk (w8.alloc (.cells (cnCells y).toArray 53)) w8.heap.size 53 (cnCells y).toArray ∧ Below w8.heap.size w8 (w8.alloc (.cells (cnCells y).toArray 53))) := Lib.hid ⟨Blk.new _ _ _, bal (Below.refl _ _) _⟩
        obtain ⟨gy, hgy⟩ : ∃ gy, gy = w8.heap.size := ⟨_, rfl⟩
        obtain ⟨w9, hw9⟩ : ∃ w9, w9 = w8.alloc (.cells (cnCells y).toArray 53) := ⟨_, rfl⟩
        rw [← hw9, ← hgy] at HN9
        rw [← hw9, ← hgy]
        have H10 : Hid (w9.ownsRow (gc + 1) 32 43 (.slice A8 (i + 1) c8) (i + 1) (stysCells (kidsT l (i + 1))) ∧ w9.ownsRow (gc + 1) 53 4 (.slice A6 i c6) i (cnsCells (allF got i)) ∧ Blk w9 gc 45 (caseCells s c (some ad) n ck Ag m cg).toArray ∧ Below w.heap.size w w9 ∧ gc + 1 ≤ w9.heap.size) := Lib.hid (by
          have hb := HN9.out.2
          rw [hgy] at hb
          exact ⟨own_below H9.out.1 hb, own_below H9.out.2.1 hb, H9.out.2.2.1.below hb H9.out.2.2.1.lt, H9.out.2.2.2.1.trans (hb.mono H9.out.2.2.2.1.size), Nat.le_trans H9.out.2.2.2.2 hb.size⟩)
        clear hgy hw9
        have y0 : w9.cell? ⟨gy, 0, none⟩ = some (.int .i64 y.least) := HN9.out.1.get 0 rfl
        have y1 : w9.cell? ⟨gy, 1, none⟩ = some (.int .i64 y.greatest) := HN9.out.1.get 1 rfl
        have y2 : w9.cell? ⟨gy, 2, none⟩ = some (.int .i64 y.ol) := HN9.out.1.get 2 rfl
        have y3 : w9.cell? ⟨gy, 3, none⟩ = some (.int .i64 y.og) := HN9.out.1.get 3 rfl
        go_wp2_with (at_builtin; refine wpList_app (m := 1) rfl _ _ rfl el_cn H10.out.2.1 H10.out.2.2.2.2 rfl (cnCells y) rfl rfl (by simp [cnCells, Value.oneCell']) (by omega) (by omega) ?_; intro A11 c11 w11 hown11 hB11 hg11 _; have H11 := Lib.hid (And.intro hown11 (And.intro hB11 hg11)); clear hown11 hB11 hg11)
        have H12 : Hid (TuI gc (gc + 1) (i + 1) (caseCells s c (some ad) n ck Ag m cg) l got (.slice A8 (i + 1) c8) (.slice A11 (i + 1) c11) w w11) := Lib.hid
          ⟨H10.out.1.kept H11.out.2.2 (own_ne H10.out.1 H10.out.2.1 (by decide)), by
            have h := H11.out.1
            rw [HA1.out, cnsCells_app, show cnsCells [y] = cnCells y by simp [cnsCells]]
            exact h, H10.out.2.2.1.grown H11.out.2.2 (fun e => own_blk_ne H10.out.2.1 H10.out.2.2.1 (by decide) e.symm), H11.out.2.1 _ _ (by have := HZ.out.2; omega) H10.out.2.2.2.1, Nat.le_trans H10.out.2.2.2.2 H11.out.2.2.size, by have := HZ.out.2; omega⟩
        go_roundw
        case rel => exact ⟨i + 1, by omega, by go_num, H12⟩
        case measure => simp [intOf] <;> omega
    · have g0 : decide ((i : Int) < (n : Int)) = false := decide_eq_false (by omega)
      have g0' : decide (i < n) = false := decide_eq_false hlt
      have hkn : i = n := by omega
      rw [hkn] at H ⊢
      clear hkn hlt g0' hi
      obtain ⟨wb, rfl⟩ : ∃ wb, wb = wr := ⟨_, rfl⟩
      have HK4 := Lib.hid (Reads.of_own H.out.k)
      have HG6 := Lib.hid (Reads.of_own H.out.g)
      have wn1 : IntKind.i64.wrap ((n : Int) - 1) = (n : Int) - 1 := IntWalk.i64_in _ ⟨by omega, by omega⟩
      go_wp2_with fail
      have HJ0 : Hid (wb.ownsRow wb.heap.size 32 43 (.slice none 0 0) 0 (stysCells (backT l n 0)) ∧ wb.ownsRow wb.heap.size 53 4 (.slice none 0 0) 0 (cnsCells (othT got n 0)) ∧ Below wb.heap.size wb wb) := Lib.hid ⟨World.ownsRow_nil _ _ _ _, World.ownsRow_nil _ _ _ _, Below.refl _ _⟩
      go_loopw [5, 7, 11] (fun v5 v7 kv wr => ∃ j : Nat, j ≤ n ∧ kv = .int .i64 ((n : Int) - 1 - j) ∧ Hid (wr.ownsRow wb.heap.size 32 43 v5 j (stysCells (backT l n j)) ∧ wr.ownsRow wb.heap.size 53 4 v7 j (cnsCells (othT got n j)) ∧ Below wb.heap.size wb wr)) (fun _ _ kv _ => (intOf kv + 1).toNat)
      case atStart => exact ⟨0, by omega, by simp, HJ0⟩
      case round =>
        obtain ⟨j, hj, rfl, HJ⟩ := hrel
        obtain ⟨A5, c5, hv5⟩ := own_form HJ.out.1
        subst hv5
        obtain ⟨A7, c7, hv7⟩ := own_form HJ.out.2.1
        subst hv7
        by_cases hlt : j < n
        · obtain ⟨p, hp⟩ : ∃ p : Nat, (n : Int) - 1 - j = (p : Int) := ⟨n - 1 - j, by omega⟩
          rw [hp]
          have hpn : p < n := by omega
          have HPE := Lib.hid (And.intro (show p = n - 1 - j by omega) hp)
          clear hp
          have g0 : decide ((0 : Int) ≤ (p : Int)) = true := decide_eq_true (by omega)
          have hki : (p : Int) < (n : Int) := by omega
          have hk0 : (0 : Int) ≤ (p : Int) := by omega
          have wk : IntKind.i64.wrap ((p : Int) - 1) = (p : Int) - 1 := IntWalk.i64_in _ ⟨by omega, by omega⟩
          have hil : p < l.length := by rw [← HN.out]; exact hpn
          obtain ⟨ad4, rfl, _⟩ := HK4.out.2 (by omega)
          have HLD : Hid (∀ q u, (styCells (kT l p))[q]? = some u → wr.cell? ((ad4.add (p * 43)).add q) = some u) := Lib.hid (fun q u hu => by
            obtain ⟨ad', e, hb, hcc⟩ := (HK4.out.below HJ.out.2.2).2 (by omega)
            injection e with e; subst e
            have hq : q < 43 := by have := (List.getElem?_eq_some_iff.1 hu).1; rw [sty_len] at this; exact this
            rw [add_of_add]
            exact hcc _ u (by rw [stysCells_at (kidsT l n) p q (by rw [kidsT_len]; exact hpn) hq, kidsT_get l hpn]; exact hu))
          obtain ⟨Au, nu, cu, huv⟩ := HUV.out l[p] (List.getElem_mem hil)
          have HO2 : Hid (∀ u ∈ styCells (kT l p), u.oneCell' = true) := Lib.hid (by
            have := Sty.one (kT l p) (A := Au) (n := nu) (c := cu) (by unfold kT; rw [stK_at hil]; exact huv)
            intro u hu
            exact Array.all_eq_true'.1 this u (by simpa using hu))
          clear huv
          go_upto_region 19 with (fail)
          go_upto_region 20 with (first
            | refine wpList_load_at rfl 32 _ rfl _ rfl (styCells (kT l p)) _ HLD.out Try.underlying32 rfl (by kernel_rfl) ?_
            | refine wpList_rows rfl 25 1 #[(0, .tmp 68)] rfl (.slice (some ⟨wr.heap.size, 0, none⟩) 1 1) (wr.alloc (.cells (styCells (kT l p)).toArray 32)) (by kernel_rfl) ?_
            | (at_builtin; refine wpList_app (m := 1) rfl _ _ rfl el_sty HJ.out.1 HJ.out.2.2.size rfl (styCells (kT l p)) rfl rfl HO2.out (by omega) (by omega) ?_; intro A8 c8 w8 hown8 hB8 hg8 _; have H8 := Lib.hid (And.intro hown8 (And.intro hB8 hg8)); clear hown8 hB8 hg8))
          have H9 : Hid (w8.ownsRow wb.heap.size 32 43 (.slice A8 (j + 1) c8) (j + 1) (stysCells (backT l n (j + 1))) ∧ w8.ownsRow wb.heap.size 53 4 (.slice A7 j c7) j (cnsCells (othT got n j)) ∧ Below wb.heap.size wb w8) := Lib.hid
            ⟨by
              have h := H8.out.1
              rw [backT_succ, ← HPE.out.1, show stysCells (backT l n j ++ [kT l p]) = stysCells (backT l n j) ++ styCells (kT l p) by simp [stysCells]]
              exact h, HJ.out.2.1.kept H8.out.2.2 (own_ne HJ.out.2.1 HJ.out.1 (by decide)), H8.out.2.1 _ _ (Nat.le_refl _) HJ.out.2.2⟩
          clear H8 HLD HO2
          obtain ⟨ag, rfl, hab, x0, x1, x2, x3⟩ := ((HG6.out.below H9.out.2.2)).cn (allF_len got n).symm (show p < (allF got n).length by rw [allF_len]; exact hpn)
          obtain ⟨y, hy⟩ : ∃ y, y = gAt got p := ⟨_, rfl⟩
          have hye : (allF got n)[p]'(by rw [allF_len]; exact hpn) = y := by rw [hy]; simp [allF]
          rw [hye] at x0 x1 x2 x3
          have HA1 : Hid (othT got n (j + 1) = othT got n j ++ [y]) := Lib.hid (by rw [hy, HPE.out.1]; exact othT_succ _ _ _)
          clear hy hye
          have hab2 : ag.block < w8.heap.size := by have := H9.out.2.2.size; omega
          go_wp2_with (at_builtin; refine wpList_app (m := 1) rfl _ _ rfl el_cn H9.out.2.1 H9.out.2.2.size rfl (cnCells y) rfl rfl (by simp [cnCells, Value.oneCell']) (by omega) (by omega) ?_; intro A11 c11 w11 hown11 hB11 hg11 _; have H11 := Lib.hid (And.intro hown11 (And.intro hB11 hg11)); clear hown11 hB11 hg11)
          go_roundw
          case rel => exact ⟨j + 1, by omega, by have := HPE.out.2; congr 1; omega, Lib.hid ⟨H9.out.1.kept H11.out.2.2 (own_ne H9.out.1 H9.out.2.1 (by decide)), by
            have h := H11.out.1
            rw [HA1.out, cnsCells_app, show cnsCells [y] = cnCells y by simp [cnsCells]]
            exact h, H11.out.2.1 _ _ (Nat.le_refl _) H9.out.2.2⟩⟩
          case measure => simp [intOf] <;> omega
        · have hjn : j = n := by omega
          rw [hjn] at HJ ⊢
          clear hlt hj hjn
          rw [show (n : Int) - 1 - n = -1 by omega]
          obtain ⟨wd, rfl⟩ : ∃ wd, wd = wr := ⟨_, rfl⟩
          have HCS := Lib.hid (H.out.cs.below HJ.out.2.2 H.out.cs.lt)
          have HBB := Lib.hid (H.out.b.trans (HJ.out.2.2.mono H.out.b.size))
          have HX : Hid (∀ k, k < n → StX (kT l k) ∧ ∃ Au nu cu, (kT l k).uv = .slice Au nu cu) := Lib.hid (fun k hk => by
            have hkl : k < l.length := by rw [← HN.out]; exact hk
            refine ⟨kT_x hkl (HMY.out.l k hkl).x, ?_⟩
            obtain ⟨Au, nu, cu, huv⟩ := HUV.out l[k] (List.getElem_mem hkl)
            exact ⟨Au, nu, cu, by unfold kT; rw [stK_at hkl]; exact huv⟩)
          have HGB : Hid (∀ k, 0 ≤ (gAt got k).greatest ∧ (gAt got k).greatest ≤ 1099511627776) := Lib.hid (gAt_bd HMY.out.g)
          have HX1 : Hid (∀ x ∈ kidsT l n, StX x ∧ ∃ Au nu cu, x.uv = .slice Au nu cu) := Lib.hid (fun x hx => by
            obtain ⟨k, hk, rfl⟩ := List.mem_map.1 hx
            exact HX.out k (List.mem_range.1 hk))
          have HX2 : Hid (∀ x ∈ backT l n n, StX x ∧ ∃ Au nu cu, x.uv = .slice Au nu cu) := Lib.hid (fun x hx => by
            obtain ⟨k, hk, rfl⟩ := List.mem_map.1 hx
            have := List.mem_range.1 hk
            exact HX.out _ (by omega))
          have HG1 : Hid (∀ x ∈ allF got n, 0 ≤ x.greatest ∧ x.greatest ≤ 1099511627776) := Lib.hid (fun x hx => by
            obtain ⟨k, hk, rfl⟩ := List.mem_map.1 hx
            exact HGB.out k)
          have HG2 : Hid (∀ x ∈ othT got n n, 0 ≤ x.greatest ∧ x.greatest ≤ 1099511627776) := Lib.hid (fun x hx => by
            obtain ⟨k, hk, rfl⟩ := List.mem_map.1 hx
            exact HGB.out _)
          have HR5 := Lib.hid (Reads.of_own HJ.out.1)
          have HR7 := Lib.hid (Reads.of_own HJ.out.2.1)
          have HMA1 : Hid (∀ W, Below wd.heap.size wd W → Calls Try.prog 14 #[.agg (styCells s).toArray, .int .i64 c, .slice A4 n c4, .slice A6 n c6] W fun e w' => MainsAns s c (kidsT l n) (allF got n) W w' e) := Lib.hid (fun W hb => by
            have h := mains_any s c (kidsT l n) (allF got n) A4 A6 c4 c6 W (by rw [kidsT_len]; omega) (by rw [kidsT_len]; exact ((HK4.out.below HJ.out.2.2).below (hb.mono HJ.out.2.2.size)).more (Nat.le_trans HJ.out.2.2.size hb.size)) (fun x hx => (HX1.out x hx).2) (by rw [allF_len]; exact ((HG6.out.below HJ.out.2.2).below (hb.mono HJ.out.2.2.size)).more (Nat.le_trans HJ.out.2.2.size hb.size)) HMY.out.c (fun x hx => (HX1.out x hx).1) HG1.out
            rw [kidsT_len, allF_len] at h; exact h)
          have HMA2 : Hid (∀ W, Below wd.heap.size wd W → Calls Try.prog 14 #[.agg (styCells s).toArray, .int .i64 c, .slice A5 n c5, .slice A7 n c7] W fun e w' => MainsAns s c (backT l n n) (othT got n n) W w' e) := Lib.hid (fun W hb => by
            have h := mains_any s c (backT l n n) (othT got n n) A5 A7 c5 c7 W (by rw [backT_len]; omega) (by rw [backT_len]; exact (HR5.out.below hb).more hb.size) (fun x hx => (HX2.out x hx).2) (by rw [othT_len]; exact (HR7.out.below hb).more hb.size) HMY.out.c (fun x hx => (HX2.out x hx).1) HG2.out
            rw [backT_len, othT_len] at h; exact h)
          have HRO1 : Hid (∀ W, Below wd.heap.size wd W → Calls Try.prog 19 #[.agg (styCells s).toArray, .int .i64 c, .slice A4 n c4, .slice A6 n c6] W fun e w' => RowsAns s c (kidsT l n) (itM (kidsT l n) c (allF got n)) W w' e) := Lib.hid (fun W hb => by
            have h := rows_any s c (kidsT l n) (allF got n) A4 A6 c4 c6 W (by rw [kidsT_len]; omega) (by rw [kidsT_len]; exact ((HK4.out.below HJ.out.2.2).below (hb.mono HJ.out.2.2.size)).more (Nat.le_trans HJ.out.2.2.size hb.size)) (fun x hx => (HX1.out x hx).2) (by rw [allF_len]; exact ((HG6.out.below HJ.out.2.2).below (hb.mono HJ.out.2.2.size)).more (Nat.le_trans HJ.out.2.2.size hb.size)) HMY.out.c (fun x hx => (HX1.out x hx).1.m) HG1.out
            rw [kidsT_len, allF_len] at h; exact h)
          have HRO2 : Hid (∀ W, Below wd.heap.size wd W → Calls Try.prog 19 #[.agg (styCells s).toArray, .int .i64 c, .slice A5 n c5, .slice A7 n c7] W fun e w' => RowsAns s c (backT l n n) (itM (backT l n n) c (othT got n n)) W w' e) := Lib.hid (fun W hb => by
            have h := rows_any s c (backT l n n) (othT got n n) A5 A7 c5 c7 W (by rw [backT_len]; omega) (by rw [backT_len]; exact (HR5.out.below hb).more hb.size) (fun x hx => (HX2.out x hx).2) (by rw [othT_len]; exact (HR7.out.below hb).more hb.size) HMY.out.c (fun x hx => (HX2.out x hx).1.m) HG2.out
            rw [backT_len, othT_len] at h; exact h)
          clear HK4 HG6 HR5 HR7 HX HX1 HX2 HG1 HG2 HGB H HJ HJ0 HI0 HR HG HUV HC0
          have HRNG : Hid (∀ W, Below wd.heap.size wd W → W.rangeAt gc 0 (styCells s)) := Lib.hid (fun W hb => blk_rng (HCS.out.below hb HCS.out.lt) fun q v hv => by
            rw [Nat.zero_add]
            unfold caseCells
            rw [List.getElem?_append_left (by have := (List.getElem?_eq_some_iff.1 hv).1; exact this)]; exact hv)
          have HB0 := Lib.hid (Below.refl wd.heap.size wd)
          have HTA := Lib.hid (turn_ans s c l got n)
          have HG1 := Lib.hid (HRNG.out wd HB0.out)
          have c43 : wd.cell? ⟨gc, 43, none⟩ = some (.int .i64 c) := (HCS.out.below HB0.out HCS.out.lt).get 43 rfl
          go_upto_region 22 with (first
            | refine wpList_load_mid rfl 32 (.tmp 79) rfl gc 0 rfl (styCells s) _ HG1.out Try.underlying32 rfl (by kernel_rfl) ?_
            | (go_at_call 14; refine (HMA1.out _ HB0.out).mono ?_; rintro e w21 ⟨⟨gu1, gb1, he, hu, hbo, hge1, hge2⟩, hb⟩; rw [kidsT_len] at he hu hbo; subst he; have HU1 := Lib.hid (And.intro hu (And.intro hbo (show Below wd.heap.size wd w21 from hb))); clear hu hbo hge1 hge2 hb))
          clear c43
          have HB1 := Lib.hid HU1.out.2.2
          have HG2 := Lib.hid (HRNG.out w21 HB1.out)
          have c43 : w21.cell? ⟨gc, 43, none⟩ = some (.int .i64 c) := (HCS.out.below HB1.out HCS.out.lt).get 43 rfl
          go_upto_region 23 with (first
            | refine wpList_load_mid rfl 32 (.tmp 89) rfl gc 0 rfl (styCells s) _ HG2.out Try.underlying32 rfl (by kernel_rfl) ?_
            | (go_at_call 14; refine (HMA2.out _ HB1.out).mono ?_; rintro e w22 ⟨⟨gu2, gb2, he, hu, hbo, hge1, hge2⟩, hb⟩; rw [backT_len] at he hu hbo; subst he; have HU2 := Lib.hid (And.intro hu (And.intro hbo (show Below w21.heap.size w21 w22 from hb))); clear hu hbo hge1 hge2 hb))
          clear c43
          have HB2 := Lib.hid (HB1.out.trans (HU2.out.2.2.mono HB1.out.size))
          have HG3 := Lib.hid (HRNG.out w22 HB2.out)
          have c43 : w22.cell? ⟨gc, 43, none⟩ = some (.int .i64 c) := (HCS.out.below HB2.out HCS.out.lt).get 43 rfl
          go_upto_region 24 with (first
            | refine wpList_load_mid rfl 32 (.tmp 98) rfl gc 0 rfl (styCells s) _ HG3.out Try.underlying32 rfl (by kernel_rfl) ?_
            | (go_at_call 19; refine (HRO1.out _ HB2.out).mono ?_; rintro e w23 ⟨⟨v1, rfl, hra⟩, hb⟩; obtain ⟨Av, cv, hv, _⟩ := hra.ex; subst hv; have HU3 := Lib.hid (And.intro hra (show Below w22.heap.size w22 w23 from hb)); clear hra hb))
          clear c43
          have HB3 := Lib.hid (HB2.out.trans (HU3.out.2.mono HB2.out.size))
          have HG4 := Lib.hid (HRNG.out w23 HB3.out)
          have c43 : w23.cell? ⟨gc, 43, none⟩ = some (.int .i64 c) := (HCS.out.below HB3.out HCS.out.lt).get 43 rfl
          go_upto_region 25 with (first
            | refine wpList_load_mid rfl 32 (.tmp 105) rfl gc 0 rfl (styCells s) _ HG4.out Try.underlying32 rfl (by kernel_rfl) ?_
            | (go_at_call 19; refine (HRO2.out _ HB3.out).mono ?_; rintro e w24 ⟨⟨v2, rfl, hra⟩, hb⟩; obtain ⟨Bv, dv, hv, _⟩ := hra.ex; rw [← HTA.out.len] at hv; subst hv; have HU4 := Lib.hid (And.intro hra (show Below w23.heap.size w23 w24 from hb)); clear hra hb))
          clear c43
          have HB4 := Lib.hid (HB3.out.trans (HU4.out.2.mono HB3.out.size))
          obtain ⟨U, hU⟩ : ∃ U, U = mainsM s c (kidsT l n) (allF got n) := ⟨_, rfl⟩
          obtain ⟨V, hV⟩ : ∃ V, V = mainsM s c (backT l n n) (othT got n n) := ⟨_, rfl⟩
          obtain ⟨R1, hR1⟩ : ∃ R1, R1 = rowsF s.wrap c (ownM (itM (kidsT l n) c (allF got n))) (orderF (ordF (kidsT l n)) (kidsT l n).length) := ⟨_, rfl⟩
          obtain ⟨R2, hR2⟩ : ∃ R2, R2 = rowsF s.wrap c (ownM (itM (backT l n n) c (othT got n n))) (orderF (ordF (backT l n n)) (backT l n n).length) := ⟨_, rfl⟩
          rw [← hU] at HU1
          rw [← hV] at HU2
          rw [← hR1] at HU3 ⊢
          rw [← hR1] at HU4
          rw [← hR2] at HU4
          have HTB : Hid (TurnAns n U V R1 R2) := Lib.hid (by rw [hU, hV, hR1, hR2]; exact HTA.out)
          clear hU hV hR1 hR2 HTA HMA1 HMA2 HRO1 HRO2
          have HF : Hid (Blk w24 gu1 39 (triC (fun k => usedT (U k)) n).toArray ∧ Blk w24 gb1 4 (booC (fun k => usedB (U k)) n).toArray ∧ Blk w24 gu2 39 (triC (fun k => usedT (V k)) n).toArray ∧ Blk w24 gb2 4 (booC (fun k => usedB (V k)) n).toArray ∧ RowsX w24 w24.heap.size Av R1 ∧ RowsX w24 w24.heap.size Bv R2) := Lib.hid (by
            have b34 := HU4.out.2
            have b24 : Below w22.heap.size w22 w24 := HU3.out.2.trans (b34.mono HU3.out.2.size)
            have b14 : Below w21.heap.size w21 w24 := HU2.out.2.2.trans (b24.mono HU2.out.2.2.size)
            refine ⟨HU1.out.1.below b14 HU1.out.1.lt, HU1.out.2.1.below b14 HU1.out.2.1.lt, HU2.out.1.below b24 HU2.out.1.lt, HU2.out.2.1.below b24 HU2.out.2.1.lt, ?_, HU4.out.1.x⟩
            have := (HU3.out.1.x.below b34)
            exact ⟨fun r hr => by obtain ⟨g, Ar, cr, h1, h2, h3, h4⟩ := this.at_ r hr; exact ⟨g, Ar, cr, h1, Nat.lt_of_lt_of_le h2 b34.size, h3, h4.more b34.size⟩⟩)
          have HBW := Lib.hid (HBB.out.trans (HB4.out.mono HBB.out.size))
          clear HU1 HU2 HU3 HU4 HB0 HB1 HB2 HB3 HB4 HCS HRNG HG1 HG2 HG3 HG4 HBB
          go_wp2_with fail
          go_loopw [18] (fun kv wr => ∃ i : Nat, i ≤ n ∧ kv = .int .i64 i ∧ Hid (Below w24.heap.size w24 wr)) (fun kv _ => n - (intOf kv).toNat)
          case atStart => exact ⟨0, by omega, rfl, Lib.hid (Below.refl _ _)⟩
          case round =>
            obtain ⟨i, hi, rfl, HJ⟩ := hrel
            by_cases hlt : i < n
            · have g0 : decide ((i : Int) < (n : Int)) = true := decide_eq_true (by omega)
              have g0' : decide (i < n) = true := decide_eq_true hlt
              have hki : (i : Int) < (n : Int) := by omega
              have hk0 : (0 : Int) ≤ (i : Int) := by omega
              have wk : IntKind.i64.wrap ((i : Int) + 1) = (i : Int) + 1 := IntWalk.i64_in _ ⟨by omega, by omega⟩
              obtain ⟨p, hp⟩ : ∃ p : Nat, p = n - 1 - i := ⟨_, rfl⟩
              have hpn : p < n := by omega
              have hpi : (p : Int) < (n : Int) := by omega
              have hp0 : (0 : Int) ≤ (p : Int) := by omega
              have wp : IntKind.i64.wrap ((n : Int) - 1 - (i : Int)) = (p : Int) := by rw [show (n : Int) - 1 - i = p by omega]; exact IntWalk.i64_in _ ⟨by omega, by omega⟩
              obtain ⟨t, ht⟩ : ∃ t, t = usedT (U i) := ⟨_, rfl⟩
              obtain ⟨q, hq⟩ : ∃ q, q = usedB (U i) := ⟨_, rfl⟩
              have HUI : Hid (usedT (U i) = t ∧ usedT (V p) = t ∧ usedB (U i) = q ∧ usedB (V p) = q) := Lib.hid (by
                have := HTB.out.u i hlt
                rw [hp, ← this]; exact ⟨ht.symm, ht.symm, hq.symm, hq.symm⟩)
              clear ht hq hp
              go_upto_region 30 with (fail)
              have E0 : Below w24.heap.size w24 wr.drew := HJ.out.drew
              refine wp_region_S (fun _ _ _ W => Below w24.heap.size w24 W) 1000 1000 100000 true true (by kernel_rfl) (by kernel_rfl) (by kernel_rfl) (E0) ?_
              refine wpAnyS_take (i := 0) (v := ?_) rfl (by kernel_rfl) (by kernel_rfl) (by kernel_rfl) (fun _ _ _ h => h) (by rfl) (gives_pure (by rfl) ?_) ?_
              rotate_left
              · intro b' d' u' W' hS'
                have u1 := (HF.out.1.below hS' HF.out.1.lt).get (i * 3) (triC_g0 _ hlt)
                have u2 := (HF.out.1.below hS' HF.out.1.lt).get (i * 3 + 1) (triC_g1 _ hlt)
                have u3 := (HF.out.1.below hS' HF.out.1.lt).get (i * 3 + 2) (triC_g2 _ hlt)
                have v1 := (HF.out.2.2.1.below hS' HF.out.2.2.1.lt).get (p * 3) (triC_g0 _ hpn)
                have v2 := (HF.out.2.2.1.below hS' HF.out.2.2.1.lt).get (p * 3 + 1) (triC_g1 _ hpn)
                have v3 := (HF.out.2.2.1.below hS' HF.out.2.2.1.lt).get (p * 3 + 2) (triC_g2 _ hpn)
                have b1 := (HF.out.2.1.below hS' HF.out.2.1.lt).get i (by rw [List.getElem?_toArray]; exact booC_at _ hlt)
                have b2 := (HF.out.2.2.2.1.below hS' HF.out.2.2.2.1.lt).get p (by rw [List.getElem?_toArray]; exact booC_at _ hpn)
                rw [HUI.out.1] at u1 u2 u3
                rw [HUI.out.2.1] at v1 v2 v3
                rw [HUI.out.2.2.1] at b1
                rw [HUI.out.2.2.2] at b2
                go_simp
                rfl
              try simp only [Act.put, List.setIfInBounds_toArray, List.set_cons_zero, List.set_cons_succ, List.getElem_toArray, List.getElem_cons_zero, List.getElem_cons_succ]
              refine wpAnyS_take (i := 1) (v := ?_) rfl (by kernel_rfl) (by kernel_rfl) (by kernel_rfl) (fun _ _ _ h => h) (by rfl) (gives_pure (by rfl) ?_) ?_
              rotate_left
              · intro b' d' u' W' hS'
                have u1 := (HF.out.1.below hS' HF.out.1.lt).get (i * 3) (triC_g0 _ hlt)
                have u2 := (HF.out.1.below hS' HF.out.1.lt).get (i * 3 + 1) (triC_g1 _ hlt)
                have u3 := (HF.out.1.below hS' HF.out.1.lt).get (i * 3 + 2) (triC_g2 _ hlt)
                have v1 := (HF.out.2.2.1.below hS' HF.out.2.2.1.lt).get (p * 3) (triC_g0 _ hpn)
                have v2 := (HF.out.2.2.1.below hS' HF.out.2.2.1.lt).get (p * 3 + 1) (triC_g1 _ hpn)
                have v3 := (HF.out.2.2.1.below hS' HF.out.2.2.1.lt).get (p * 3 + 2) (triC_g2 _ hpn)
                have b1 := (HF.out.2.1.below hS' HF.out.2.1.lt).get i (by rw [List.getElem?_toArray]; exact booC_at _ hlt)
                have b2 := (HF.out.2.2.2.1.below hS' HF.out.2.2.2.1.lt).get p (by rw [List.getElem?_toArray]; exact booC_at _ hpn)
                rw [HUI.out.1] at u1 u2 u3
                rw [HUI.out.2.1] at v1 v2 v3
                rw [HUI.out.2.2.1] at b1
                rw [HUI.out.2.2.2] at b2
                go_simp
                rfl
              try simp only [Act.put, List.setIfInBounds_toArray, List.set_cons_zero, List.set_cons_succ, List.getElem_toArray, List.getElem_cons_zero, List.getElem_cons_succ]
              refine wpAnyS_take (i := 2) (v := ?_) rfl (by kernel_rfl) (by kernel_rfl) (by kernel_rfl) (fun _ _ _ h => h) (by rfl) (gives_pure (by rfl) ?_) ?_
              rotate_left
              · intro b' d' u' W' hS'
                have u1 := (HF.out.1.below hS' HF.out.1.lt).get (i * 3) (triC_g0 _ hlt)
                have u2 := (HF.out.1.below hS' HF.out.1.lt).get (i * 3 + 1) (triC_g1 _ hlt)
                have u3 := (HF.out.1.below hS' HF.out.1.lt).get (i * 3 + 2) (triC_g2 _ hlt)
                have v1 := (HF.out.2.2.1.below hS' HF.out.2.2.1.lt).get (p * 3) (triC_g0 _ hpn)
                have v2 := (HF.out.2.2.1.below hS' HF.out.2.2.1.lt).get (p * 3 + 1) (triC_g1 _ hpn)
                have v3 := (HF.out.2.2.1.below hS' HF.out.2.2.1.lt).get (p * 3 + 2) (triC_g2 _ hpn)
                have b1 := (HF.out.2.1.below hS' HF.out.2.1.lt).get i (by rw [List.getElem?_toArray]; exact booC_at _ hlt)
                have b2 := (HF.out.2.2.2.1.below hS' HF.out.2.2.2.1.lt).get p (by rw [List.getElem?_toArray]; exact booC_at _ hpn)
                rw [HUI.out.1] at u1 u2 u3
                rw [HUI.out.2.1] at v1 v2 v3
                rw [HUI.out.2.2.1] at b1
                rw [HUI.out.2.2.2] at b2
                go_simp
                rfl
              try simp only [Act.put, List.setIfInBounds_toArray, List.set_cons_zero, List.set_cons_succ, List.getElem_toArray, List.getElem_cons_zero, List.getElem_cons_succ]
              refine wpAnyS_take (i := 3) (v := ?_) rfl (by kernel_rfl) (by kernel_rfl) (by kernel_rfl) (fun _ _ _ h => h) (by rfl) (gives_pure (by rfl) ?_) ?_
              rotate_left
              · intro b' d' u' W' hS'
                have u1 := (HF.out.1.below hS' HF.out.1.lt).get (i * 3) (triC_g0 _ hlt)
                have u2 := (HF.out.1.below hS' HF.out.1.lt).get (i * 3 + 1) (triC_g1 _ hlt)
                have u3 := (HF.out.1.below hS' HF.out.1.lt).get (i * 3 + 2) (triC_g2 _ hlt)
                have v1 := (HF.out.2.2.1.below hS' HF.out.2.2.1.lt).get (p * 3) (triC_g0 _ hpn)
                have v2 := (HF.out.2.2.1.below hS' HF.out.2.2.1.lt).get (p * 3 + 1) (triC_g1 _ hpn)
                have v3 := (HF.out.2.2.1.below hS' HF.out.2.2.1.lt).get (p * 3 + 2) (triC_g2 _ hpn)
                have b1 := (HF.out.2.1.below hS' HF.out.2.1.lt).get i (by rw [List.getElem?_toArray]; exact booC_at _ hlt)
                have b2 := (HF.out.2.2.2.1.below hS' HF.out.2.2.2.1.lt).get p (by rw [List.getElem?_toArray]; exact booC_at _ hpn)
                rw [HUI.out.1] at u1 u2 u3
                rw [HUI.out.2.1] at v1 v2 v3
                rw [HUI.out.2.2.1] at b1
                rw [HUI.out.2.2.2] at b2
                go_simp
                rfl
              try simp only [Act.put, List.setIfInBounds_toArray, List.set_cons_zero, List.set_cons_succ, List.getElem_toArray, List.getElem_cons_zero, List.getElem_cons_succ]
              refine wpAnyS_take (i := 4) (v := ?_) rfl (by kernel_rfl) (by kernel_rfl) (by kernel_rfl) (fun _ _ _ h => h) (by rfl) (gives_pure (by rfl) ?_) ?_
              rotate_left
              · intro b' d' u' W' hS'
                have u1 := (HF.out.1.below hS' HF.out.1.lt).get (i * 3) (triC_g0 _ hlt)
                have u2 := (HF.out.1.below hS' HF.out.1.lt).get (i * 3 + 1) (triC_g1 _ hlt)
                have u3 := (HF.out.1.below hS' HF.out.1.lt).get (i * 3 + 2) (triC_g2 _ hlt)
                have v1 := (HF.out.2.2.1.below hS' HF.out.2.2.1.lt).get (p * 3) (triC_g0 _ hpn)
                have v2 := (HF.out.2.2.1.below hS' HF.out.2.2.1.lt).get (p * 3 + 1) (triC_g1 _ hpn)
                have v3 := (HF.out.2.2.1.below hS' HF.out.2.2.1.lt).get (p * 3 + 2) (triC_g2 _ hpn)
                have b1 := (HF.out.2.1.below hS' HF.out.2.1.lt).get i (by rw [List.getElem?_toArray]; exact booC_at _ hlt)
                have b2 := (HF.out.2.2.2.1.below hS' HF.out.2.2.2.1.lt).get p (by rw [List.getElem?_toArray]; exact booC_at _ hpn)
                rw [HUI.out.1] at u1 u2 u3
                rw [HUI.out.2.1] at v1 v2 v3
                rw [HUI.out.2.2.1] at b1
                rw [HUI.out.2.2.2] at b2
                go_simp
                rfl
              try simp only [Act.put, List.setIfInBounds_toArray, List.set_cons_zero, List.set_cons_succ, List.getElem_toArray, List.getElem_cons_zero, List.getElem_cons_succ]
              refine wpAnyS_take (i := 5) (v := ?_) rfl (by kernel_rfl) (by kernel_rfl) (by kernel_rfl) (fun _ _ _ h => h) (by rfl) (gives_pure (by rfl) ?_) ?_
              rotate_left
              · intro b' d' u' W' hS'
                have u1 := (HF.out.1.below hS' HF.out.1.lt).get (i * 3) (triC_g0 _ hlt)
                have u2 := (HF.out.1.below hS' HF.out.1.lt).get (i * 3 + 1) (triC_g1 _ hlt)
                have u3 := (HF.out.1.below hS' HF.out.1.lt).get (i * 3 + 2) (triC_g2 _ hlt)
                have v1 := (HF.out.2.2.1.below hS' HF.out.2.2.1.lt).get (p * 3) (triC_g0 _ hpn)
                have v2 := (HF.out.2.2.1.below hS' HF.out.2.2.1.lt).get (p * 3 + 1) (triC_g1 _ hpn)
                have v3 := (HF.out.2.2.1.below hS' HF.out.2.2.1.lt).get (p * 3 + 2) (triC_g2 _ hpn)
                have b1 := (HF.out.2.1.below hS' HF.out.2.1.lt).get i (by rw [List.getElem?_toArray]; exact booC_at _ hlt)
                have b2 := (HF.out.2.2.2.1.below hS' HF.out.2.2.2.1.lt).get p (by rw [List.getElem?_toArray]; exact booC_at _ hpn)
                rw [HUI.out.1] at u1 u2 u3
                rw [HUI.out.2.1] at v1 v2 v3
                rw [HUI.out.2.2.1] at b1
                rw [HUI.out.2.2.2] at b2
                go_simp
                rfl
              try simp only [Act.put, List.setIfInBounds_toArray, List.set_cons_zero, List.set_cons_succ, List.getElem_toArray, List.getElem_cons_zero, List.getElem_cons_succ]
              refine wpAnyS_take (i := 6) (v := ?_) rfl (by kernel_rfl) (by kernel_rfl) (by kernel_rfl) (fun _ _ _ h => h) (by rfl) (gives_pure (by rfl) ?_) ?_
              rotate_left
              · intro b' d' u' W' hS'
                have u1 := (HF.out.1.below hS' HF.out.1.lt).get (i * 3) (triC_g0 _ hlt)
                have u2 := (HF.out.1.below hS' HF.out.1.lt).get (i * 3 + 1) (triC_g1 _ hlt)
                have u3 := (HF.out.1.below hS' HF.out.1.lt).get (i * 3 + 2) (triC_g2 _ hlt)
                have v1 := (HF.out.2.2.1.below hS' HF.out.2.2.1.lt).get (p * 3) (triC_g0 _ hpn)
                have v2 := (HF.out.2.2.1.below hS' HF.out.2.2.1.lt).get (p * 3 + 1) (triC_g1 _ hpn)
                have v3 := (HF.out.2.2.1.below hS' HF.out.2.2.1.lt).get (p * 3 + 2) (triC_g2 _ hpn)
                have b1 := (HF.out.2.1.below hS' HF.out.2.1.lt).get i (by rw [List.getElem?_toArray]; exact booC_at _ hlt)
                have b2 := (HF.out.2.2.2.1.below hS' HF.out.2.2.2.1.lt).get p (by rw [List.getElem?_toArray]; exact booC_at _ hpn)
                rw [HUI.out.1] at u1 u2 u3
                rw [HUI.out.2.1] at v1 v2 v3
                rw [HUI.out.2.2.1] at b1
                rw [HUI.out.2.2.2] at b2
                go_simp
                rfl
              try simp only [Act.put, List.setIfInBounds_toArray, List.set_cons_zero, List.set_cons_succ, List.getElem_toArray, List.getElem_cons_zero, List.getElem_cons_succ]
              refine wpAnyS_take (i := 7) (v := ?_) rfl (by kernel_rfl) (by kernel_rfl) (by kernel_rfl) (fun _ _ _ h => h) (by rfl) (gives_pure (by rfl) ?_) ?_
              rotate_left
              · intro b' d' u' W' hS'
                have u1 := (HF.out.1.below hS' HF.out.1.lt).get (i * 3) (triC_g0 _ hlt)
                have u2 := (HF.out.1.below hS' HF.out.1.lt).get (i * 3 + 1) (triC_g1 _ hlt)
                have u3 := (HF.out.1.below hS' HF.out.1.lt).get (i * 3 + 2) (triC_g2 _ hlt)
                have v1 := (HF.out.2.2.1.below hS' HF.out.2.2.1.lt).get (p * 3) (triC_g0 _ hpn)
                have v2 := (HF.out.2.2.1.below hS' HF.out.2.2.1.lt).get (p * 3 + 1) (triC_g1 _ hpn)
                have v3 := (HF.out.2.2.1.below hS' HF.out.2.2.1.lt).get (p * 3 + 2) (triC_g2 _ hpn)
                have b1 := (HF.out.2.1.below hS' HF.out.2.1.lt).get i (by rw [List.getElem?_toArray]; exact booC_at _ hlt)
                have b2 := (HF.out.2.2.2.1.below hS' HF.out.2.2.2.1.lt).get p (by rw [List.getElem?_toArray]; exact booC_at _ hpn)
                rw [HUI.out.1] at u1 u2 u3
                rw [HUI.out.2.1] at v1 v2 v3
                rw [HUI.out.2.2.1] at b1
                rw [HUI.out.2.2.2] at b2
                go_simp
                rfl
              try simp only [Act.put, List.setIfInBounds_toArray, List.set_cons_zero, List.set_cons_succ, List.getElem_toArray, List.getElem_cons_zero, List.getElem_cons_succ]
              refine wpAnyS_take (i := 8) (v := ?_) rfl (by kernel_rfl) (by kernel_rfl) (by kernel_rfl) (fun _ _ _ h => h) (by rfl) (gives_pure (by rfl) ?_) ?_
              rotate_left
              · intro b' d' u' W' hS'
                have u1 := (HF.out.1.below hS' HF.out.1.lt).get (i * 3) (triC_g0 _ hlt)
                have u2 := (HF.out.1.below hS' HF.out.1.lt).get (i * 3 + 1) (triC_g1 _ hlt)
                have u3 := (HF.out.1.below hS' HF.out.1.lt).get (i * 3 + 2) (triC_g2 _ hlt)
                have v1 := (HF.out.2.2.1.below hS' HF.out.2.2.1.lt).get (p * 3) (triC_g0 _ hpn)
                have v2 := (HF.out.2.2.1.below hS' HF.out.2.2.1.lt).get (p * 3 + 1) (triC_g1 _ hpn)
                have v3 := (HF.out.2.2.1.below hS' HF.out.2.2.1.lt).get (p * 3 + 2) (triC_g2 _ hpn)
                have b1 := (HF.out.2.1.below hS' HF.out.2.1.lt).get i (by rw [List.getElem?_toArray]; exact booC_at _ hlt)
                have b2 := (HF.out.2.2.2.1.below hS' HF.out.2.2.2.1.lt).get p (by rw [List.getElem?_toArray]; exact booC_at _ hpn)
                rw [HUI.out.1] at u1 u2 u3
                rw [HUI.out.2.1] at v1 v2 v3
                rw [HUI.out.2.2.1] at b1
                rw [HUI.out.2.2.2] at b2
                go_simp
                rfl
              try simp only [Act.put, List.setIfInBounds_toArray, List.set_cons_zero, List.set_cons_succ, List.getElem_toArray, List.getElem_cons_zero, List.getElem_cons_succ]
              refine wpAnyS_take (i := 9) (v := ?_) rfl (by kernel_rfl) (by kernel_rfl) (by kernel_rfl) (fun _ _ _ h => h) (by rfl) (gives_pure (by rfl) ?_) ?_
              rotate_left
              · intro b' d' u' W' hS'
                have u1 := (HF.out.1.below hS' HF.out.1.lt).get (i * 3) (triC_g0 _ hlt)
                have u2 := (HF.out.1.below hS' HF.out.1.lt).get (i * 3 + 1) (triC_g1 _ hlt)
                have u3 := (HF.out.1.below hS' HF.out.1.lt).get (i * 3 + 2) (triC_g2 _ hlt)
                have v1 := (HF.out.2.2.1.below hS' HF.out.2.2.1.lt).get (p * 3) (triC_g0 _ hpn)
                have v2 := (HF.out.2.2.1.below hS' HF.out.2.2.1.lt).get (p * 3 + 1) (triC_g1 _ hpn)
                have v3 := (HF.out.2.2.1.below hS' HF.out.2.2.1.lt).get (p * 3 + 2) (triC_g2 _ hpn)
                have b1 := (HF.out.2.1.below hS' HF.out.2.1.lt).get i (by rw [List.getElem?_toArray]; exact booC_at _ hlt)
                have b2 := (HF.out.2.2.2.1.below hS' HF.out.2.2.2.1.lt).get p (by rw [List.getElem?_toArray]; exact booC_at _ hpn)
                rw [HUI.out.1] at u1 u2 u3
                rw [HUI.out.2.1] at v1 v2 v3
                rw [HUI.out.2.2.1] at b1
                rw [HUI.out.2.2.2] at b2
                go_simp
                rfl
              try simp only [Act.put, List.setIfInBounds_toArray, List.set_cons_zero, List.set_cons_succ, List.getElem_toArray, List.getElem_cons_zero, List.getElem_cons_succ]
              refine wpAnyS_take (i := 10) (v := ?_) rfl (by kernel_rfl) (by kernel_rfl) (by kernel_rfl) (fun _ _ _ h => h) (by rfl) (gives_pure (by rfl) ?_) ?_
              rotate_left
              · intro b' d' u' W' hS'
                have u1 := (HF.out.1.below hS' HF.out.1.lt).get (i * 3) (triC_g0 _ hlt)
                have u2 := (HF.out.1.below hS' HF.out.1.lt).get (i * 3 + 1) (triC_g1 _ hlt)
                have u3 := (HF.out.1.below hS' HF.out.1.lt).get (i * 3 + 2) (triC_g2 _ hlt)
                have v1 := (HF.out.2.2.1.below hS' HF.out.2.2.1.lt).get (p * 3) (triC_g0 _ hpn)
                have v2 := (HF.out.2.2.1.below hS' HF.out.2.2.1.lt).get (p * 3 + 1) (triC_g1 _ hpn)
                have v3 := (HF.out.2.2.1.below hS' HF.out.2.2.1.lt).get (p * 3 + 2) (triC_g2 _ hpn)
                have b1 := (HF.out.2.1.below hS' HF.out.2.1.lt).get i (by rw [List.getElem?_toArray]; exact booC_at _ hlt)
                have b2 := (HF.out.2.2.2.1.below hS' HF.out.2.2.2.1.lt).get p (by rw [List.getElem?_toArray]; exact booC_at _ hpn)
                rw [HUI.out.1] at u1 u2 u3
                rw [HUI.out.2.1] at v1 v2 v3
                rw [HUI.out.2.2.1] at b1
                rw [HUI.out.2.2.2] at b2
                go_simp
                rfl
              try simp only [Act.put, List.setIfInBounds_toArray, List.set_cons_zero, List.set_cons_succ, List.getElem_toArray, List.getElem_cons_zero, List.getElem_cons_succ]
              refine wpAnyS_take (i := 11) (v := ?_) rfl (by kernel_rfl) (by kernel_rfl) (by kernel_rfl) (fun _ _ _ h => h) (by rfl) (gives_pure (by rfl) ?_) ?_
              rotate_left
              · intro b' d' u' W' hS'
                have u1 := (HF.out.1.below hS' HF.out.1.lt).get (i * 3) (triC_g0 _ hlt)
                have u2 := (HF.out.1.below hS' HF.out.1.lt).get (i * 3 + 1) (triC_g1 _ hlt)
                have u3 := (HF.out.1.below hS' HF.out.1.lt).get (i * 3 + 2) (triC_g2 _ hlt)
                have v1 := (HF.out.2.2.1.below hS' HF.out.2.2.1.lt).get (p * 3) (triC_g0 _ hpn)
                have v2 := (HF.out.2.2.1.below hS' HF.out.2.2.1.lt).get (p * 3 + 1) (triC_g1 _ hpn)
                have v3 := (HF.out.2.2.1.below hS' HF.out.2.2.1.lt).get (p * 3 + 2) (triC_g2 _ hpn)
                have b1 := (HF.out.2.1.below hS' HF.out.2.1.lt).get i (by rw [List.getElem?_toArray]; exact booC_at _ hlt)
                have b2 := (HF.out.2.2.2.1.below hS' HF.out.2.2.2.1.lt).get p (by rw [List.getElem?_toArray]; exact booC_at _ hpn)
                rw [HUI.out.1] at u1 u2 u3
                rw [HUI.out.2.1] at v1 v2 v3
                rw [HUI.out.2.2.1] at b1
                rw [HUI.out.2.2.2] at b2
                go_simp
                rfl
              try simp only [Act.put, List.setIfInBounds_toArray, List.set_cons_zero, List.set_cons_succ, List.getElem_toArray, List.getElem_cons_zero, List.getElem_cons_succ]
              refine wpAnyS_take (i := 12) (v := ?_) rfl (by kernel_rfl) (by kernel_rfl) (by kernel_rfl) (fun _ _ _ h => h) (by rfl) (gives_pure (by rfl) ?_) ?_
              rotate_left
              · intro b' d' u' W' hS'
                have u1 := (HF.out.1.below hS' HF.out.1.lt).get (i * 3) (triC_g0 _ hlt)
                have u2 := (HF.out.1.below hS' HF.out.1.lt).get (i * 3 + 1) (triC_g1 _ hlt)
                have u3 := (HF.out.1.below hS' HF.out.1.lt).get (i * 3 + 2) (triC_g2 _ hlt)
                have v1 := (HF.out.2.2.1.below hS' HF.out.2.2.1.lt).get (p * 3) (triC_g0 _ hpn)
                have v2 := (HF.out.2.2.1.below hS' HF.out.2.2.1.lt).get (p * 3 + 1) (triC_g1 _ hpn)
                have v3 := (HF.out.2.2.1.below hS' HF.out.2.2.1.lt).get (p * 3 + 2) (triC_g2 _ hpn)
                have b1 := (HF.out.2.1.below hS' HF.out.2.1.lt).get i (by rw [List.getElem?_toArray]; exact booC_at _ hlt)
                have b2 := (HF.out.2.2.2.1.below hS' HF.out.2.2.2.1.lt).get p (by rw [List.getElem?_toArray]; exact booC_at _ hpn)
                rw [HUI.out.1] at u1 u2 u3
                rw [HUI.out.2.1] at v1 v2 v3
                rw [HUI.out.2.2.1] at b1
                rw [HUI.out.2.2.2] at b2
                go_simp
                rfl
              try simp only [Act.put, List.setIfInBounds_toArray, List.set_cons_zero, List.set_cons_succ, List.getElem_toArray, List.getElem_cons_zero, List.getElem_cons_succ]
              refine wpAnyS_take (i := 13) (v := ?_) rfl (by kernel_rfl) (by kernel_rfl) (by kernel_rfl) (fun _ _ _ h => h) (by rfl) (gives_pure (by rfl) ?_) ?_
              rotate_left
              · intro b' d' u' W' hS'
                have u1 := (HF.out.1.below hS' HF.out.1.lt).get (i * 3) (triC_g0 _ hlt)
                have u2 := (HF.out.1.below hS' HF.out.1.lt).get (i * 3 + 1) (triC_g1 _ hlt)
                have u3 := (HF.out.1.below hS' HF.out.1.lt).get (i * 3 + 2) (triC_g2 _ hlt)
                have v1 := (HF.out.2.2.1.below hS' HF.out.2.2.1.lt).get (p * 3) (triC_g0 _ hpn)
                have v2 := (HF.out.2.2.1.below hS' HF.out.2.2.1.lt).get (p * 3 + 1) (triC_g1 _ hpn)
                have v3 := (HF.out.2.2.1.below hS' HF.out.2.2.1.lt).get (p * 3 + 2) (triC_g2 _ hpn)
                have b1 := (HF.out.2.1.below hS' HF.out.2.1.lt).get i (by rw [List.getElem?_toArray]; exact booC_at _ hlt)
                have b2 := (HF.out.2.2.2.1.below hS' HF.out.2.2.2.1.lt).get p (by rw [List.getElem?_toArray]; exact booC_at _ hpn)
                rw [HUI.out.1] at u1 u2 u3
                rw [HUI.out.2.1] at v1 v2 v3
                rw [HUI.out.2.2.1] at b1
                rw [HUI.out.2.2.2] at b2
                go_simp
                rfl
              try simp only [Act.put, List.setIfInBounds_toArray, List.set_cons_zero, List.set_cons_succ, List.getElem_toArray, List.getElem_cons_zero, List.getElem_cons_succ]
              refine wpAnyS_take (i := 14) (v := ?_) rfl (by kernel_rfl) (by kernel_rfl) (by kernel_rfl) (fun _ _ _ h => h) (by rfl) (gives_pure (by rfl) ?_) ?_
              rotate_left
              · intro b' d' u' W' hS'
                have u1 := (HF.out.1.below hS' HF.out.1.lt).get (i * 3) (triC_g0 _ hlt)
                have u2 := (HF.out.1.below hS' HF.out.1.lt).get (i * 3 + 1) (triC_g1 _ hlt)
                have u3 := (HF.out.1.below hS' HF.out.1.lt).get (i * 3 + 2) (triC_g2 _ hlt)
                have v1 := (HF.out.2.2.1.below hS' HF.out.2.2.1.lt).get (p * 3) (triC_g0 _ hpn)
                have v2 := (HF.out.2.2.1.below hS' HF.out.2.2.1.lt).get (p * 3 + 1) (triC_g1 _ hpn)
                have v3 := (HF.out.2.2.1.below hS' HF.out.2.2.1.lt).get (p * 3 + 2) (triC_g2 _ hpn)
                have b1 := (HF.out.2.1.below hS' HF.out.2.1.lt).get i (by rw [List.getElem?_toArray]; exact booC_at _ hlt)
                have b2 := (HF.out.2.2.2.1.below hS' HF.out.2.2.2.1.lt).get p (by rw [List.getElem?_toArray]; exact booC_at _ hpn)
                rw [HUI.out.1] at u1 u2 u3
                rw [HUI.out.2.1] at v1 v2 v3
                rw [HUI.out.2.2.1] at b1
                rw [HUI.out.2.2.2] at b2
                go_simp
                rfl
              try simp only [Act.put, List.setIfInBounds_toArray, List.set_cons_zero, List.set_cons_succ, List.getElem_toArray, List.getElem_cons_zero, List.getElem_cons_succ]
              refine wpAnyS_take (i := 15) (v := ?_) rfl (by kernel_rfl) (by kernel_rfl) (by kernel_rfl) (fun _ _ _ h => h) (by rfl) (gives_pure (by rfl) ?_) ?_
              rotate_left
              · intro b' d' u' W' hS'
                have u1 := (HF.out.1.below hS' HF.out.1.lt).get (i * 3) (triC_g0 _ hlt)
                have u2 := (HF.out.1.below hS' HF.out.1.lt).get (i * 3 + 1) (triC_g1 _ hlt)
                have u3 := (HF.out.1.below hS' HF.out.1.lt).get (i * 3 + 2) (triC_g2 _ hlt)
                have v1 := (HF.out.2.2.1.below hS' HF.out.2.2.1.lt).get (p * 3) (triC_g0 _ hpn)
                have v2 := (HF.out.2.2.1.below hS' HF.out.2.2.1.lt).get (p * 3 + 1) (triC_g1 _ hpn)
                have v3 := (HF.out.2.2.1.below hS' HF.out.2.2.1.lt).get (p * 3 + 2) (triC_g2 _ hpn)
                have b1 := (HF.out.2.1.below hS' HF.out.2.1.lt).get i (by rw [List.getElem?_toArray]; exact booC_at _ hlt)
                have b2 := (HF.out.2.2.2.1.below hS' HF.out.2.2.2.1.lt).get p (by rw [List.getElem?_toArray]; exact booC_at _ hpn)
                rw [HUI.out.1] at u1 u2 u3
                rw [HUI.out.2.1] at v1 v2 v3
                rw [HUI.out.2.2.1] at b1
                rw [HUI.out.2.2.2] at b2
                go_simp
                rfl
              try simp only [Act.put, List.setIfInBounds_toArray, List.set_cons_zero, List.set_cons_succ, List.getElem_toArray, List.getElem_cons_zero, List.getElem_cons_succ]
              refine wpAnyS_take (i := 16) (v := ?_) rfl (by kernel_rfl) (by kernel_rfl) (by kernel_rfl) (fun _ _ _ h => h) (by rfl) (gives_pure (by rfl) ?_) ?_
              rotate_left
              · intro b' d' u' W' hS'
                have u1 := (HF.out.1.below hS' HF.out.1.lt).get (i * 3) (triC_g0 _ hlt)
                have u2 := (HF.out.1.below hS' HF.out.1.lt).get (i * 3 + 1) (triC_g1 _ hlt)
                have u3 := (HF.out.1.below hS' HF.out.1.lt).get (i * 3 + 2) (triC_g2 _ hlt)
                have v1 := (HF.out.2.2.1.below hS' HF.out.2.2.1.lt).get (p * 3) (triC_g0 _ hpn)
                have v2 := (HF.out.2.2.1.below hS' HF.out.2.2.1.lt).get (p * 3 + 1) (triC_g1 _ hpn)
                have v3 := (HF.out.2.2.1.below hS' HF.out.2.2.1.lt).get (p * 3 + 2) (triC_g2 _ hpn)
                have b1 := (HF.out.2.1.below hS' HF.out.2.1.lt).get i (by rw [List.getElem?_toArray]; exact booC_at _ hlt)
                have b2 := (HF.out.2.2.2.1.below hS' HF.out.2.2.2.1.lt).get p (by rw [List.getElem?_toArray]; exact booC_at _ hpn)
                rw [HUI.out.1] at u1 u2 u3
                rw [HUI.out.2.1] at v1 v2 v3
                rw [HUI.out.2.2.1] at b1
                rw [HUI.out.2.2.2] at b2
                go_simp
                rfl
              try simp only [Act.put, List.setIfInBounds_toArray, List.set_cons_zero, List.set_cons_succ, List.getElem_toArray, List.getElem_cons_zero, List.getElem_cons_succ]
              refine wpAnyS_take (i := 17) (v := ?_) rfl (by kernel_rfl) (by kernel_rfl) (by kernel_rfl) (fun _ _ _ h => h) (by rfl) (gives_pure (by rfl) ?_) ?_
              rotate_left
              · intro b' d' u' W' hS'
                have u1 := (HF.out.1.below hS' HF.out.1.lt).get (i * 3) (triC_g0 _ hlt)
                have u2 := (HF.out.1.below hS' HF.out.1.lt).get (i * 3 + 1) (triC_g1 _ hlt)
                have u3 := (HF.out.1.below hS' HF.out.1.lt).get (i * 3 + 2) (triC_g2 _ hlt)
                have v1 := (HF.out.2.2.1.below hS' HF.out.2.2.1.lt).get (p * 3) (triC_g0 _ hpn)
                have v2 := (HF.out.2.2.1.below hS' HF.out.2.2.1.lt).get (p * 3 + 1) (triC_g1 _ hpn)
                have v3 := (HF.out.2.2.1.below hS' HF.out.2.2.1.lt).get (p * 3 + 2) (triC_g2 _ hpn)
                have b1 := (HF.out.2.1.below hS' HF.out.2.1.lt).get i (by rw [List.getElem?_toArray]; exact booC_at _ hlt)
                have b2 := (HF.out.2.2.2.1.below hS' HF.out.2.2.2.1.lt).get p (by rw [List.getElem?_toArray]; exact booC_at _ hpn)
                rw [HUI.out.1] at u1 u2 u3
                rw [HUI.out.2.1] at v1 v2 v3
                rw [HUI.out.2.2.1] at b1
                rw [HUI.out.2.2.2] at b2
                go_simp
                rfl
              try simp only [Act.put, List.setIfInBounds_toArray, List.set_cons_zero, List.set_cons_succ, List.getElem_toArray, List.getElem_cons_zero, List.getElem_cons_succ]
              refine wpAnyS_take (i := 18) (v := ?_) rfl (by kernel_rfl) (by kernel_rfl) (by kernel_rfl) (fun _ _ _ h => h) (by rfl) (gives_pure (by rfl) ?_) ?_
              rotate_left
              · intro b' d' u' W' hS'
                have u1 := (HF.out.1.below hS' HF.out.1.lt).get (i * 3) (triC_g0 _ hlt)
                have u2 := (HF.out.1.below hS' HF.out.1.lt).get (i * 3 + 1) (triC_g1 _ hlt)
                have u3 := (HF.out.1.below hS' HF.out.1.lt).get (i * 3 + 2) (triC_g2 _ hlt)
                have v1 := (HF.out.2.2.1.below hS' HF.out.2.2.1.lt).get (p * 3) (triC_g0 _ hpn)
                have v2 := (HF.out.2.2.1.below hS' HF.out.2.2.1.lt).get (p * 3 + 1) (triC_g1 _ hpn)
                have v3 := (HF.out.2.2.1.below hS' HF.out.2.2.1.lt).get (p * 3 + 2) (triC_g2 _ hpn)
                have b1 := (HF.out.2.1.below hS' HF.out.2.1.lt).get i (by rw [List.getElem?_toArray]; exact booC_at _ hlt)
                have b2 := (HF.out.2.2.2.1.below hS' HF.out.2.2.2.1.lt).get p (by rw [List.getElem?_toArray]; exact booC_at _ hpn)
                rw [HUI.out.1] at u1 u2 u3
                rw [HUI.out.2.1] at v1 v2 v3
                rw [HUI.out.2.2.1] at b1
                rw [HUI.out.2.2.2] at b2
                go_simp
                rfl
              try simp only [Act.put, List.setIfInBounds_toArray, List.set_cons_zero, List.set_cons_succ, List.getElem_toArray, List.getElem_cons_zero, List.getElem_cons_succ]
              refine wpAnyS_take (i := 19) (v := ?_) rfl (by kernel_rfl) (by kernel_rfl) (by kernel_rfl) (fun _ _ _ h => h) (by rfl) (gives_pure (by rfl) ?_) ?_
              rotate_left
              · intro b' d' u' W' hS'
                have u1 := (HF.out.1.below hS' HF.out.1.lt).get (i * 3) (triC_g0 _ hlt)
                have u2 := (HF.out.1.below hS' HF.out.1.lt).get (i * 3 + 1) (triC_g1 _ hlt)
                have u3 := (HF.out.1.below hS' HF.out.1.lt).get (i * 3 + 2) (triC_g2 _ hlt)
                have v1 := (HF.out.2.2.1.below hS' HF.out.2.2.1.lt).get (p * 3) (triC_g0 _ hpn)
                have v2 := (HF.out.2.2.1.below hS' HF.out.2.2.1.lt).get (p * 3 + 1) (triC_g1 _ hpn)
                have v3 := (HF.out.2.2.1.below hS' HF.out.2.2.1.lt).get (p * 3 + 2) (triC_g2 _ hpn)
                have b1 := (HF.out.2.1.below hS' HF.out.2.1.lt).get i (by rw [List.getElem?_toArray]; exact booC_at _ hlt)
                have b2 := (HF.out.2.2.2.1.below hS' HF.out.2.2.2.1.lt).get p (by rw [List.getElem?_toArray]; exact booC_at _ hpn)
                rw [HUI.out.1] at u1 u2 u3
                rw [HUI.out.2.1] at v1 v2 v3
                rw [HUI.out.2.2.1] at b1
                rw [HUI.out.2.2.2] at b2
                go_simp
                rfl
              try simp only [Act.put, List.setIfInBounds_toArray, List.set_cons_zero, List.set_cons_succ, List.getElem_toArray, List.getElem_cons_zero, List.getElem_cons_succ]
              refine wpAnyS_take (i := 20) (v := ?_) rfl (by kernel_rfl) (by kernel_rfl) (by kernel_rfl) (fun _ _ _ h => h) (by rfl) (gives_pure (by rfl) ?_) ?_
              rotate_left
              · intro b' d' u' W' hS'
                have u1 := (HF.out.1.below hS' HF.out.1.lt).get (i * 3) (triC_g0 _ hlt)
                have u2 := (HF.out.1.below hS' HF.out.1.lt).get (i * 3 + 1) (triC_g1 _ hlt)
                have u3 := (HF.out.1.below hS' HF.out.1.lt).get (i * 3 + 2) (triC_g2 _ hlt)
                have v1 := (HF.out.2.2.1.below hS' HF.out.2.2.1.lt).get (p * 3) (triC_g0 _ hpn)
                have v2 := (HF.out.2.2.1.below hS' HF.out.2.2.1.lt).get (p * 3 + 1) (triC_g1 _ hpn)
                have v3 := (HF.out.2.2.1.below hS' HF.out.2.2.1.lt).get (p * 3 + 2) (triC_g2 _ hpn)
                have b1 := (HF.out.2.1.below hS' HF.out.2.1.lt).get i (by rw [List.getElem?_toArray]; exact booC_at _ hlt)
                have b2 := (HF.out.2.2.2.1.below hS' HF.out.2.2.2.1.lt).get p (by rw [List.getElem?_toArray]; exact booC_at _ hpn)
                rw [HUI.out.1] at u1 u2 u3
                rw [HUI.out.2.1] at v1 v2 v3
                rw [HUI.out.2.2.1] at b1
                rw [HUI.out.2.2.2] at b2
                go_simp
                rfl
              try simp only [Act.put, List.setIfInBounds_toArray, List.set_cons_zero, List.set_cons_succ, List.getElem_toArray, List.getElem_cons_zero, List.getElem_cons_succ]
              refine wpAnyS_take (i := 21) (v := ?_) rfl (by kernel_rfl) (by kernel_rfl) (by kernel_rfl) (fun _ _ _ h => h) (by rfl) (gives_pure (by rfl) ?_) ?_
              rotate_left
              · intro b' d' u' W' hS'
                have u1 := (HF.out.1.below hS' HF.out.1.lt).get (i * 3) (triC_g0 _ hlt)
                have u2 := (HF.out.1.below hS' HF.out.1.lt).get (i * 3 + 1) (triC_g1 _ hlt)
                have u3 := (HF.out.1.below hS' HF.out.1.lt).get (i * 3 + 2) (triC_g2 _ hlt)
                have v1 := (HF.out.2.2.1.below hS' HF.out.2.2.1.lt).get (p * 3) (triC_g0 _ hpn)
                have v2 := (HF.out.2.2.1.below hS' HF.out.2.2.1.lt).get (p * 3 + 1) (triC_g1 _ hpn)
                have v3 := (HF.out.2.2.1.below hS' HF.out.2.2.1.lt).get (p * 3 + 2) (triC_g2 _ hpn)
                have b1 := (HF.out.2.1.below hS' HF.out.2.1.lt).get i (by rw [List.getElem?_toArray]; exact booC_at _ hlt)
                have b2 := (HF.out.2.2.2.1.below hS' HF.out.2.2.2.1.lt).get p (by rw [List.getElem?_toArray]; exact booC_at _ hpn)
                rw [HUI.out.1] at u1 u2 u3
                rw [HUI.out.2.1] at v1 v2 v3
                rw [HUI.out.2.2.1] at b1
                rw [HUI.out.2.2.2] at b2
                go_simp
                rfl
              try simp only [Act.put, List.setIfInBounds_toArray, List.set_cons_zero, List.set_cons_succ, List.getElem_toArray, List.getElem_cons_zero, List.getElem_cons_succ]
              refine wpAnyS_take (i := 22) (v := ?_) rfl (by kernel_rfl) (by kernel_rfl) (by kernel_rfl) (fun _ _ _ h => h) (by rfl) (gives_pure (by rfl) ?_) ?_
              rotate_left
              · intro b' d' u' W' hS'
                have u1 := (HF.out.1.below hS' HF.out.1.lt).get (i * 3) (triC_g0 _ hlt)
                have u2 := (HF.out.1.below hS' HF.out.1.lt).get (i * 3 + 1) (triC_g1 _ hlt)
                have u3 := (HF.out.1.below hS' HF.out.1.lt).get (i * 3 + 2) (triC_g2 _ hlt)
                have v1 := (HF.out.2.2.1.below hS' HF.out.2.2.1.lt).get (p * 3) (triC_g0 _ hpn)
                have v2 := (HF.out.2.2.1.below hS' HF.out.2.2.1.lt).get (p * 3 + 1) (triC_g1 _ hpn)
                have v3 := (HF.out.2.2.1.below hS' HF.out.2.2.1.lt).get (p * 3 + 2) (triC_g2 _ hpn)
                have b1 := (HF.out.2.1.below hS' HF.out.2.1.lt).get i (by rw [List.getElem?_toArray]; exact booC_at _ hlt)
                have b2 := (HF.out.2.2.2.1.below hS' HF.out.2.2.2.1.lt).get p (by rw [List.getElem?_toArray]; exact booC_at _ hpn)
                rw [HUI.out.1] at u1 u2 u3
                rw [HUI.out.2.1] at v1 v2 v3
                rw [HUI.out.2.2.1] at b1
                rw [HUI.out.2.2.2] at b2
                go_simp
                rfl
              try simp only [Act.put, List.setIfInBounds_toArray, List.set_cons_zero, List.set_cons_succ, List.getElem_toArray, List.getElem_cons_zero, List.getElem_cons_succ]
              refine wpAnyS_take (i := 23) (v := ?_) rfl (by kernel_rfl) (by kernel_rfl) (by kernel_rfl) (fun _ _ _ h => h) (by rfl) (gives_pure (by rfl) ?_) ?_
              rotate_left
              · intro b' d' u' W' hS'
                have u1 := (HF.out.1.below hS' HF.out.1.lt).get (i * 3) (triC_g0 _ hlt)
                have u2 := (HF.out.1.below hS' HF.out.1.lt).get (i * 3 + 1) (triC_g1 _ hlt)
                have u3 := (HF.out.1.below hS' HF.out.1.lt).get (i * 3 + 2) (triC_g2 _ hlt)
                have v1 := (HF.out.2.2.1.below hS' HF.out.2.2.1.lt).get (p * 3) (triC_g0 _ hpn)
                have v2 := (HF.out.2.2.1.below hS' HF.out.2.2.1.lt).get (p * 3 + 1) (triC_g1 _ hpn)
                have v3 := (HF.out.2.2.1.below hS' HF.out.2.2.1.lt).get (p * 3 + 2) (triC_g2 _ hpn)
                have b1 := (HF.out.2.1.below hS' HF.out.2.1.lt).get i (by rw [List.getElem?_toArray]; exact booC_at _ hlt)
                have b2 := (HF.out.2.2.2.1.below hS' HF.out.2.2.2.1.lt).get p (by rw [List.getElem?_toArray]; exact booC_at _ hpn)
                rw [HUI.out.1] at u1 u2 u3
                rw [HUI.out.2.1] at v1 v2 v3
                rw [HUI.out.2.2.1] at b1
                rw [HUI.out.2.2.2] at b2
                go_simp
                rfl
              try simp only [Act.put, List.setIfInBounds_toArray, List.set_cons_zero, List.set_cons_succ, List.getElem_toArray, List.getElem_cons_zero, List.getElem_cons_succ]
              refine wpAnyS_take (i := 24) (v := ?_) rfl (by kernel_rfl) (by kernel_rfl) (by kernel_rfl) (fun _ _ _ h => h) (by rfl) (gives_pure (by rfl) ?_) ?_
              rotate_left
              · intro b' d' u' W' hS'
                have u1 := (HF.out.1.below hS' HF.out.1.lt).get (i * 3) (triC_g0 _ hlt)
                have u2 := (HF.out.1.below hS' HF.out.1.lt).get (i * 3 + 1) (triC_g1 _ hlt)
                have u3 := (HF.out.1.below hS' HF.out.1.lt).get (i * 3 + 2) (triC_g2 _ hlt)
                have v1 := (HF.out.2.2.1.below hS' HF.out.2.2.1.lt).get (p * 3) (triC_g0 _ hpn)
                have v2 := (HF.out.2.2.1.below hS' HF.out.2.2.1.lt).get (p * 3 + 1) (triC_g1 _ hpn)
                have v3 := (HF.out.2.2.1.below hS' HF.out.2.2.1.lt).get (p * 3 + 2) (triC_g2 _ hpn)
                have b1 := (HF.out.2.1.below hS' HF.out.2.1.lt).get i (by rw [List.getElem?_toArray]; exact booC_at _ hlt)
                have b2 := (HF.out.2.2.2.1.below hS' HF.out.2.2.2.1.lt).get p (by rw [List.getElem?_toArray]; exact booC_at _ hpn)
                rw [HUI.out.1] at u1 u2 u3
                rw [HUI.out.2.1] at v1 v2 v3
                rw [HUI.out.2.2.1] at b1
                rw [HUI.out.2.2.2] at b2
                go_simp
                rfl
              try simp only [Act.put, List.setIfInBounds_toArray, List.set_cons_zero, List.set_cons_succ, List.getElem_toArray, List.getElem_cons_zero, List.getElem_cons_succ]
              refine wpAnyS_take (i := 25) (v := ?_) rfl (by kernel_rfl) (by kernel_rfl) (by kernel_rfl) (fun _ _ _ h => h) (by rfl) (gives_pure (by rfl) ?_) ?_
              rotate_left
              · intro b' d' u' W' hS'
                have u1 := (HF.out.1.below hS' HF.out.1.lt).get (i * 3) (triC_g0 _ hlt)
                have u2 := (HF.out.1.below hS' HF.out.1.lt).get (i * 3 + 1) (triC_g1 _ hlt)
                have u3 := (HF.out.1.below hS' HF.out.1.lt).get (i * 3 + 2) (triC_g2 _ hlt)
                have v1 := (HF.out.2.2.1.below hS' HF.out.2.2.1.lt).get (p * 3) (triC_g0 _ hpn)
                have v2 := (HF.out.2.2.1.below hS' HF.out.2.2.1.lt).get (p * 3 + 1) (triC_g1 _ hpn)
                have v3 := (HF.out.2.2.1.below hS' HF.out.2.2.1.lt).get (p * 3 + 2) (triC_g2 _ hpn)
                have b1 := (HF.out.2.1.below hS' HF.out.2.1.lt).get i (by rw [List.getElem?_toArray]; exact booC_at _ hlt)
                have b2 := (HF.out.2.2.2.1.below hS' HF.out.2.2.2.1.lt).get p (by rw [List.getElem?_toArray]; exact booC_at _ hpn)
                rw [HUI.out.1] at u1 u2 u3
                rw [HUI.out.2.1] at v1 v2 v3
                rw [HUI.out.2.2.1] at b1
                rw [HUI.out.2.2.2] at b2
                go_simp
                rfl
              try simp only [Act.put, List.setIfInBounds_toArray, List.set_cons_zero, List.set_cons_succ, List.getElem_toArray, List.getElem_cons_zero, List.getElem_cons_succ]
              refine wpAnyS_done (b := true) (d := true) (by kernel_rfl) (by kernel_rfl) (by kernel_rfl) rfl (fun wS hS => ?_) _
              have HS := Lib.hid hS
              clear hS E0
              go_wp2_with fail
              go_roundw
              case rel => exact ⟨i + 1, by omega, by go_num, HS⟩
              case measure => simp [intOf] <;> omega
            · have g0 : decide ((i : Int) < (n : Int)) = false := decide_eq_false (by omega)
              have g0' : decide (i < n) = false := decide_eq_false hlt
              clear hlt hi
              go_wp2_with fail
              have hcn := HTB.out.cnt
              have HJ1 := Lib.hid HJ.out
              go_loopw [19] (fun kv wr => ∃ r : Nat, r ≤ R1.length ∧ kv = .int .i64 r ∧ Hid (Below w24.heap.size w24 wr)) (fun kv _ => R1.length - (intOf kv).toNat)
              case atStart => exact ⟨0, by omega, rfl, HJ1⟩
              case round =>
                obtain ⟨r, hr, rfl, HJ⟩ := hrel
                by_cases hlt : r < R1.length
                · have g1 : decide ((r : Int) < (R1.length : Int)) = true := decide_eq_true (by omega)
                  have g1' : decide (r < R1.length) = true := decide_eq_true hlt
                  have hki : (r : Int) < (R1.length : Int) := by omega
                  have hk0 : (0 : Int) ≤ (r : Int) := by omega
                  have wk : IntKind.i64.wrap ((r : Int) + 1) = (r : Int) + 1 := IntWalk.i64_in _ ⟨by omega, by omega⟩
                  obtain ⟨g1a, Ar, cr, rfl, g1b, f1, rd1⟩ := HF.out.2.2.2.2.1.at_ r hlt
                  obtain ⟨g2a, Br, dr, rfl, g2b, f2, rd2⟩ := HF.out.2.2.2.2.2.at_ r (by rw [← HTB.out.len]; exact hlt)
                  obtain ⟨L, hL⟩ : ∃ L, L = (rowAt R1 r).length := ⟨_, rfl⟩
                  have hLn : L ≤ n := by rw [hL]; exact HTB.out.rl r
                  rw [← hL] at f1 rd1
                  rw [← HTB.out.row r, ← hL] at f2 rd2
                  have HFF := Lib.hid (And.intro f1 (And.intro f2 (And.intro rd1 rd2)))
                  have HLL := Lib.hid hL
                  clear f1 f2 rd1 rd2 hL
                  go_upto_region 35 with (fail)
                  have E0 : Below w24.heap.size w24 wr.drew := HJ.out.drew
                  refine wp_region_S (fun _ _ _ W => Below w24.heap.size w24 W) 1000 1000 100000 true true (by kernel_rfl) (by kernel_rfl) (by kernel_rfl) (E0) ?_
                  refine wpAnyS_take (i := 0) (v := ?_) rfl (by kernel_rfl) (by kernel_rfl) (by kernel_rfl) (fun _ _ _ h => h) (by rfl) (gives_pure (by rfl) ?_) ?_
                  rotate_left
                  · intro b' d' u' W' hS'
                    have f1 : W'.cell? ⟨g1a, r, none⟩ = some (.slice Ar L cr) := (hS'.cell (p := ⟨g1a, r, none⟩) g1b).trans HFF.out.1
                    have f2 : W'.cell? ⟨g2a, r, none⟩ = some (.slice Br L dr) := (hS'.cell (p := ⟨g2a, r, none⟩) g2b).trans HFF.out.2.1
                    go_simp
                    rfl
                  try simp only [Act.put, List.setIfInBounds_toArray, List.set_cons_zero, List.set_cons_succ, List.getElem_toArray, List.getElem_cons_zero, List.getElem_cons_succ]
                  refine wpAnyS_take (i := 1) (v := ?_) rfl (by kernel_rfl) (by kernel_rfl) (by kernel_rfl) (fun _ _ _ h => h) (by rfl) (gives_pure (by rfl) ?_) ?_
                  rotate_left
                  · intro b' d' u' W' hS'
                    have f1 : W'.cell? ⟨g1a, r, none⟩ = some (.slice Ar L cr) := (hS'.cell (p := ⟨g1a, r, none⟩) g1b).trans HFF.out.1
                    have f2 : W'.cell? ⟨g2a, r, none⟩ = some (.slice Br L dr) := (hS'.cell (p := ⟨g2a, r, none⟩) g2b).trans HFF.out.2.1
                    go_simp
                    rfl
                  try simp only [Act.put, List.setIfInBounds_toArray, List.set_cons_zero, List.set_cons_succ, List.getElem_toArray, List.getElem_cons_zero, List.getElem_cons_succ]
                  refine wpAnyS_take (i := 2) (v := ?_) rfl (by kernel_rfl) (by kernel_rfl) (by kernel_rfl) (fun _ _ _ h => h) (by rfl) (gives_pure (by rfl) ?_) ?_
                  rotate_left
                  · intro b' d' u' W' hS'
                    have f1 : W'.cell? ⟨g1a, r, none⟩ = some (.slice Ar L cr) := (hS'.cell (p := ⟨g1a, r, none⟩) g1b).trans HFF.out.1
                    have f2 : W'.cell? ⟨g2a, r, none⟩ = some (.slice Br L dr) := (hS'.cell (p := ⟨g2a, r, none⟩) g2b).trans HFF.out.2.1
                    go_simp
                    rfl
                  try simp only [Act.put, List.setIfInBounds_toArray, List.set_cons_zero, List.set_cons_succ, List.getElem_toArray, List.getElem_cons_zero, List.getElem_cons_succ]
                  refine wpAnyS_take (i := 3) (v := ?_) rfl (by kernel_rfl) (by kernel_rfl) (by kernel_rfl) (fun _ _ _ h => h) (by rfl) (gives_pure (by rfl) ?_) ?_
                  rotate_left
                  · intro b' d' u' W' hS'
                    have f1 : W'.cell? ⟨g1a, r, none⟩ = some (.slice Ar L cr) := (hS'.cell (p := ⟨g1a, r, none⟩) g1b).trans HFF.out.1
                    have f2 : W'.cell? ⟨g2a, r, none⟩ = some (.slice Br L dr) := (hS'.cell (p := ⟨g2a, r, none⟩) g2b).trans HFF.out.2.1
                    go_simp
                    rfl
                  try simp only [Act.put, List.setIfInBounds_toArray, List.set_cons_zero, List.set_cons_succ, List.getElem_toArray, List.getElem_cons_zero, List.getElem_cons_succ]
                  refine wpAnyS_take (i := 4) (v := ?_) rfl (by kernel_rfl) (by kernel_rfl) (by kernel_rfl) (fun _ _ _ h => h) (by rfl) (gives_pure (by rfl) ?_) ?_
                  rotate_left
                  · intro b' d' u' W' hS'
                    have f1 : W'.cell? ⟨g1a, r, none⟩ = some (.slice Ar L cr) := (hS'.cell (p := ⟨g1a, r, none⟩) g1b).trans HFF.out.1
                    have f2 : W'.cell? ⟨g2a, r, none⟩ = some (.slice Br L dr) := (hS'.cell (p := ⟨g2a, r, none⟩) g2b).trans HFF.out.2.1
                    go_simp
                    rfl
                  try simp only [Act.put, List.setIfInBounds_toArray, List.set_cons_zero, List.set_cons_succ, List.getElem_toArray, List.getElem_cons_zero, List.getElem_cons_succ]
                  refine wpAnyS_take (i := 5) (v := ?_) rfl (by kernel_rfl) (by kernel_rfl) (by kernel_rfl) (fun _ _ _ h => h) (by rfl) (gives_pure (by rfl) ?_) ?_
                  rotate_left
                  · intro b' d' u' W' hS'
                    have f1 : W'.cell? ⟨g1a, r, none⟩ = some (.slice Ar L cr) := (hS'.cell (p := ⟨g1a, r, none⟩) g1b).trans HFF.out.1
                    have f2 : W'.cell? ⟨g2a, r, none⟩ = some (.slice Br L dr) := (hS'.cell (p := ⟨g2a, r, none⟩) g2b).trans HFF.out.2.1
                    go_simp
                    rfl
                  try simp only [Act.put, List.setIfInBounds_toArray, List.set_cons_zero, List.set_cons_succ, List.getElem_toArray, List.getElem_cons_zero, List.getElem_cons_succ]
                  refine wpAnyS_take (i := 6) (v := ?_) rfl (by kernel_rfl) (by kernel_rfl) (by kernel_rfl) (fun _ _ _ h => h) (by rfl) (gives_pure (by rfl) ?_) ?_
                  rotate_left
                  · intro b' d' u' W' hS'
                    have f1 : W'.cell? ⟨g1a, r, none⟩ = some (.slice Ar L cr) := (hS'.cell (p := ⟨g1a, r, none⟩) g1b).trans HFF.out.1
                    have f2 : W'.cell? ⟨g2a, r, none⟩ = some (.slice Br L dr) := (hS'.cell (p := ⟨g2a, r, none⟩) g2b).trans HFF.out.2.1
                    go_simp
                    rfl
                  try simp only [Act.put, List.setIfInBounds_toArray, List.set_cons_zero, List.set_cons_succ, List.getElem_toArray, List.getElem_cons_zero, List.getElem_cons_succ]
                  refine wpAnyS_take (i := 7) (v := ?_) rfl (by kernel_rfl) (by kernel_rfl) (by kernel_rfl) (fun _ _ _ h => h) (by rfl) (gives_pure (by rfl) ?_) ?_
                  rotate_left
                  · intro b' d' u' W' hS'
                    have f1 : W'.cell? ⟨g1a, r, none⟩ = some (.slice Ar L cr) := (hS'.cell (p := ⟨g1a, r, none⟩) g1b).trans HFF.out.1
                    have f2 : W'.cell? ⟨g2a, r, none⟩ = some (.slice Br L dr) := (hS'.cell (p := ⟨g2a, r, none⟩) g2b).trans HFF.out.2.1
                    go_simp
                    rfl
                  try simp only [Act.put, List.setIfInBounds_toArray, List.set_cons_zero, List.set_cons_succ, List.getElem_toArray, List.getElem_cons_zero, List.getElem_cons_succ]
                  refine wpAnyS_take (i := 8) (v := ?_) rfl (by kernel_rfl) (by kernel_rfl) (by kernel_rfl) (fun _ _ _ h => h) (by rfl) (gives_pure (by rfl) ?_) ?_
                  rotate_left
                  · intro b' d' u' W' hS'
                    have f1 : W'.cell? ⟨g1a, r, none⟩ = some (.slice Ar L cr) := (hS'.cell (p := ⟨g1a, r, none⟩) g1b).trans HFF.out.1
                    have f2 : W'.cell? ⟨g2a, r, none⟩ = some (.slice Br L dr) := (hS'.cell (p := ⟨g2a, r, none⟩) g2b).trans HFF.out.2.1
                    go_simp
                    rfl
                  try simp only [Act.put, List.setIfInBounds_toArray, List.set_cons_zero, List.set_cons_succ, List.getElem_toArray, List.getElem_cons_zero, List.getElem_cons_succ]
                  refine wpAnyS_take (i := 9) (v := ?_) rfl (by kernel_rfl) (by kernel_rfl) (by kernel_rfl) (fun _ _ _ h => h) (by rfl) (gives_pure (by rfl) ?_) ?_
                  rotate_left
                  · intro b' d' u' W' hS'
                    have f1 : W'.cell? ⟨g1a, r, none⟩ = some (.slice Ar L cr) := (hS'.cell (p := ⟨g1a, r, none⟩) g1b).trans HFF.out.1
                    have f2 : W'.cell? ⟨g2a, r, none⟩ = some (.slice Br L dr) := (hS'.cell (p := ⟨g2a, r, none⟩) g2b).trans HFF.out.2.1
                    go_simp
                    rfl
                  try simp only [Act.put, List.setIfInBounds_toArray, List.set_cons_zero, List.set_cons_succ, List.getElem_toArray, List.getElem_cons_zero, List.getElem_cons_succ]
                  refine wpAnyS_take (i := 10) (v := ?_) rfl (by kernel_rfl) (by kernel_rfl) (by kernel_rfl) (fun _ _ _ h => h) (by rfl) (gives_pure (by rfl) ?_) ?_
                  rotate_left
                  · intro b' d' u' W' hS'
                    have f1 : W'.cell? ⟨g1a, r, none⟩ = some (.slice Ar L cr) := (hS'.cell (p := ⟨g1a, r, none⟩) g1b).trans HFF.out.1
                    have f2 : W'.cell? ⟨g2a, r, none⟩ = some (.slice Br L dr) := (hS'.cell (p := ⟨g2a, r, none⟩) g2b).trans HFF.out.2.1
                    go_simp
                    rfl
                  try simp only [Act.put, List.setIfInBounds_toArray, List.set_cons_zero, List.set_cons_succ, List.getElem_toArray, List.getElem_cons_zero, List.getElem_cons_succ]
                  refine wpAnyS_done (b := true) (d := true) (by kernel_rfl) (by kernel_rfl) (by kernel_rfl) rfl (fun wS hS => ?_) _
                  have HS := Lib.hid hS
                  clear hS E0
                  go_wp2_with fail
                  obtain ⟨wx, rfl⟩ : ∃ wx, wx = wS := ⟨_, rfl⟩
                  go_loopw [20] (fun kv wr => ∃ i : Nat, i ≤ L ∧ kv = .int .i64 i ∧ Hid (Below w24.heap.size w24 wr)) (fun kv _ => L - (intOf kv).toNat)
                  case atStart => exact ⟨0, by omega, rfl, HS⟩
                  case round =>
                    obtain ⟨i, hi, rfl, HJ⟩ := hrel
                    have f1 : wr.cell? ⟨g1a, r, none⟩ = some (.slice Ar L cr) := (HJ.out.cell (p := ⟨g1a, r, none⟩) g1b).trans HFF.out.1
                    by_cases hlt2 : i < L
                    · have q0 : decide ((i : Int) < (L : Int)) = true := decide_eq_true (by omega)
                      have q0' : decide (i < L) = true := decide_eq_true hlt2
                      have hii : (i : Int) < (L : Int) := by omega
                      have hi0 : (0 : Int) ≤ (i : Int) := by omega
                      have wi : IntKind.i64.wrap ((i : Int) + 1) = (i : Int) + 1 := IntWalk.i64_in _ ⟨by omega, by omega⟩
                      obtain ⟨a1, u1, rfl, ha1, hx1, hc1⟩ := HFF.out.2.2.1.at_ hlt2
                      obtain ⟨a2, u2, rfl, ha2, hx2, hc2⟩ := HFF.out.2.2.2.at_ hlt2
                      have hb1 : i < (rowAt R1 r).length := by rw [← HLL.out]; exact hlt2
                      have hb2 : i < (rowAt R2 r).length := by rw [← HTB.out.row r]; exact hb1
                      obtain ⟨k2, hk2⟩ : ∃ k2, k2 = (rowAt R2 r)[i] := ⟨_, rfl⟩
                      have hAT := HTB.out.at_ r i hb1 hb2
                      rw [← hk2] at hAT
                      obtain ⟨k1, hk1⟩ : ∃ k1, k1 = (rowAt R1 r)[i] := ⟨_, rfl⟩
                      rw [← hk1] at hAT
                      have e1 : u1 = .int .i64 (k1 : Int) := by rw [hk1]; simpa [nCells, hb1] using hx1.symm
                      have e2 : u2 = .int .i64 (k2 : Int) := by rw [hk2]; simpa [nCells, hb2] using hx2.symm
                      subst e1
                      subst e2
                      have HC := Lib.hid (And.intro hc1 hc2)
                      have wsub : IntKind.i64.wrap ((n : Int) - 1 - (k2 : Int)) = (k1 : Int) := by rw [show (n : Int) - 1 - k2 = k1 by omega]; exact IntWalk.i64_in _ ⟨by omega, by omega⟩
                      clear hx1 hx2 hk1 hk2 hc1 hc2 hAT
                      go_upto_region 40 with (fail)
                      clear f1
                      have E0 : Below w24.heap.size w24 wr.drew := HJ.out.drew
                      refine wp_region_S (fun _ _ _ W => Below w24.heap.size w24 W) 1000 1000 100000 true true (by kernel_rfl) (by kernel_rfl) (by kernel_rfl) (E0) ?_
                      refine wpAnyS_take (i := 0) (v := ?_) rfl (by kernel_rfl) (by kernel_rfl) (by kernel_rfl) (fun _ _ _ h => h) (by rfl) (gives_pure (by rfl) ?_) ?_
                      rotate_left
                      · intro b' d' u' W' hS'
                        have f1 : W'.cell? ⟨g1a, r, none⟩ = some (.slice (some a1) L cr) := (hS'.cell (p := ⟨g1a, r, none⟩) g1b).trans HFF.out.1
                        have f2 : W'.cell? ⟨g2a, r, none⟩ = some (.slice (some a2) L dr) := (hS'.cell (p := ⟨g2a, r, none⟩) g2b).trans HFF.out.2.1
                        have f3 : W'.cell? (a1.add i) = some (.int .i64 (k1 : Int)) := (hS'.cell (by rw [block_of_add]; exact ha1)).trans HC.out.1
                        have f4 : W'.cell? (a2.add i) = some (.int .i64 (k2 : Int)) := (hS'.cell (by rw [block_of_add]; exact ha2)).trans HC.out.2
                        go_simp
                        rfl
                      try simp only [Act.put, List.setIfInBounds_toArray, List.set_cons_zero, List.set_cons_succ, List.getElem_toArray, List.getElem_cons_zero, List.getElem_cons_succ]
                      refine wpAnyS_take (i := 1) (v := ?_) rfl (by kernel_rfl) (by kernel_rfl) (by kernel_rfl) (fun _ _ _ h => h) (by rfl) (gives_pure (by rfl) ?_) ?_
                      rotate_left
                      · intro b' d' u' W' hS'
                        have f1 : W'.cell? ⟨g1a, r, none⟩ = some (.slice (some a1) L cr) := (hS'.cell (p := ⟨g1a, r, none⟩) g1b).trans HFF.out.1
                        have f2 : W'.cell? ⟨g2a, r, none⟩ = some (.slice (some a2) L dr) := (hS'.cell (p := ⟨g2a, r, none⟩) g2b).trans HFF.out.2.1
                        have f3 : W'.cell? (a1.add i) = some (.int .i64 (k1 : Int)) := (hS'.cell (by rw [block_of_add]; exact ha1)).trans HC.out.1
                        have f4 : W'.cell? (a2.add i) = some (.int .i64 (k2 : Int)) := (hS'.cell (by rw [block_of_add]; exact ha2)).trans HC.out.2
                        go_simp
                        rfl
                      try simp only [Act.put, List.setIfInBounds_toArray, List.set_cons_zero, List.set_cons_succ, List.getElem_toArray, List.getElem_cons_zero, List.getElem_cons_succ]
                      refine wpAnyS_take (i := 2) (v := ?_) rfl (by kernel_rfl) (by kernel_rfl) (by kernel_rfl) (fun _ _ _ h => h) (by rfl) (gives_pure (by rfl) ?_) ?_
                      rotate_left
                      · intro b' d' u' W' hS'
                        have f1 : W'.cell? ⟨g1a, r, none⟩ = some (.slice (some a1) L cr) := (hS'.cell (p := ⟨g1a, r, none⟩) g1b).trans HFF.out.1
                        have f2 : W'.cell? ⟨g2a, r, none⟩ = some (.slice (some a2) L dr) := (hS'.cell (p := ⟨g2a, r, none⟩) g2b).trans HFF.out.2.1
                        have f3 : W'.cell? (a1.add i) = some (.int .i64 (k1 : Int)) := (hS'.cell (by rw [block_of_add]; exact ha1)).trans HC.out.1
                        have f4 : W'.cell? (a2.add i) = some (.int .i64 (k2 : Int)) := (hS'.cell (by rw [block_of_add]; exact ha2)).trans HC.out.2
                        go_simp
                        rfl
                      try simp only [Act.put, List.setIfInBounds_toArray, List.set_cons_zero, List.set_cons_succ, List.getElem_toArray, List.getElem_cons_zero, List.getElem_cons_succ]
                      refine wpAnyS_take (i := 3) (v := ?_) rfl (by kernel_rfl) (by kernel_rfl) (by kernel_rfl) (fun _ _ _ h => h) (by rfl) (gives_pure (by rfl) ?_) ?_
                      rotate_left
                      · intro b' d' u' W' hS'
                        have f1 : W'.cell? ⟨g1a, r, none⟩ = some (.slice (some a1) L cr) := (hS'.cell (p := ⟨g1a, r, none⟩) g1b).trans HFF.out.1
                        have f2 : W'.cell? ⟨g2a, r, none⟩ = some (.slice (some a2) L dr) := (hS'.cell (p := ⟨g2a, r, none⟩) g2b).trans HFF.out.2.1
                        have f3 : W'.cell? (a1.add i) = some (.int .i64 (k1 : Int)) := (hS'.cell (by rw [block_of_add]; exact ha1)).trans HC.out.1
                        have f4 : W'.cell? (a2.add i) = some (.int .i64 (k2 : Int)) := (hS'.cell (by rw [block_of_add]; exact ha2)).trans HC.out.2
                        go_simp
                        rfl
                      try simp only [Act.put, List.setIfInBounds_toArray, List.set_cons_zero, List.set_cons_succ, List.getElem_toArray, List.getElem_cons_zero, List.getElem_cons_succ]
                      refine wpAnyS_take (i := 4) (v := ?_) rfl (by kernel_rfl) (by kernel_rfl) (by kernel_rfl) (fun _ _ _ h => h) (by rfl) (gives_pure (by rfl) ?_) ?_
                      rotate_left
                      · intro b' d' u' W' hS'
                        have f1 : W'.cell? ⟨g1a, r, none⟩ = some (.slice (some a1) L cr) := (hS'.cell (p := ⟨g1a, r, none⟩) g1b).trans HFF.out.1
                        have f2 : W'.cell? ⟨g2a, r, none⟩ = some (.slice (some a2) L dr) := (hS'.cell (p := ⟨g2a, r, none⟩) g2b).trans HFF.out.2.1
                        have f3 : W'.cell? (a1.add i) = some (.int .i64 (k1 : Int)) := (hS'.cell (by rw [block_of_add]; exact ha1)).trans HC.out.1
                        have f4 : W'.cell? (a2.add i) = some (.int .i64 (k2 : Int)) := (hS'.cell (by rw [block_of_add]; exact ha2)).trans HC.out.2
                        go_simp
                        rfl
                      try simp only [Act.put, List.setIfInBounds_toArray, List.set_cons_zero, List.set_cons_succ, List.getElem_toArray, List.getElem_cons_zero, List.getElem_cons_succ]
                      refine wpAnyS_take (i := 5) (v := ?_) rfl (by kernel_rfl) (by kernel_rfl) (by kernel_rfl) (fun _ _ _ h => h) (by rfl) (gives_pure (by rfl) ?_) ?_
                      rotate_left
                      · intro b' d' u' W' hS'
                        have f1 : W'.cell? ⟨g1a, r, none⟩ = some (.slice (some a1) L cr) := (hS'.cell (p := ⟨g1a, r, none⟩) g1b).trans HFF.out.1
                        have f2 : W'.cell? ⟨g2a, r, none⟩ = some (.slice (some a2) L dr) := (hS'.cell (p := ⟨g2a, r, none⟩) g2b).trans HFF.out.2.1
                        have f3 : W'.cell? (a1.add i) = some (.int .i64 (k1 : Int)) := (hS'.cell (by rw [block_of_add]; exact ha1)).trans HC.out.1
                        have f4 : W'.cell? (a2.add i) = some (.int .i64 (k2 : Int)) := (hS'.cell (by rw [block_of_add]; exact ha2)).trans HC.out.2
                        go_simp
                        rfl
                      try simp only [Act.put, List.setIfInBounds_toArray, List.set_cons_zero, List.set_cons_succ, List.getElem_toArray, List.getElem_cons_zero, List.getElem_cons_succ]
                      refine wpAnyS_take (i := 6) (v := ?_) rfl (by kernel_rfl) (by kernel_rfl) (by kernel_rfl) (fun _ _ _ h => h) (by rfl) (gives_pure (by rfl) ?_) ?_
                      rotate_left
                      · intro b' d' u' W' hS'
                        have f1 : W'.cell? ⟨g1a, r, none⟩ = some (.slice (some a1) L cr) := (hS'.cell (p := ⟨g1a, r, none⟩) g1b).trans HFF.out.1
                        have f2 : W'.cell? ⟨g2a, r, none⟩ = some (.slice (some a2) L dr) := (hS'.cell (p := ⟨g2a, r, none⟩) g2b).trans HFF.out.2.1
                        have f3 : W'.cell? (a1.add i) = some (.int .i64 (k1 : Int)) := (hS'.cell (by rw [block_of_add]; exact ha1)).trans HC.out.1
                        have f4 : W'.cell? (a2.add i) = some (.int .i64 (k2 : Int)) := (hS'.cell (by rw [block_of_add]; exact ha2)).trans HC.out.2
                        go_simp
                        rfl
                      try simp only [Act.put, List.setIfInBounds_toArray, List.set_cons_zero, List.set_cons_succ, List.getElem_toArray, List.getElem_cons_zero, List.getElem_cons_succ]
                      refine wpAnyS_take (i := 7) (v := ?_) rfl (by kernel_rfl) (by kernel_rfl) (by kernel_rfl) (fun _ _ _ h => h) (by rfl) (gives_pure (by rfl) ?_) ?_
                      rotate_left
                      · intro b' d' u' W' hS'
                        have f1 : W'.cell? ⟨g1a, r, none⟩ = some (.slice (some a1) L cr) := (hS'.cell (p := ⟨g1a, r, none⟩) g1b).trans HFF.out.1
                        have f2 : W'.cell? ⟨g2a, r, none⟩ = some (.slice (some a2) L dr) := (hS'.cell (p := ⟨g2a, r, none⟩) g2b).trans HFF.out.2.1
                        have f3 : W'.cell? (a1.add i) = some (.int .i64 (k1 : Int)) := (hS'.cell (by rw [block_of_add]; exact ha1)).trans HC.out.1
                        have f4 : W'.cell? (a2.add i) = some (.int .i64 (k2 : Int)) := (hS'.cell (by rw [block_of_add]; exact ha2)).trans HC.out.2
                        go_simp
                        rfl
                      try simp only [Act.put, List.setIfInBounds_toArray, List.set_cons_zero, List.set_cons_succ, List.getElem_toArray, List.getElem_cons_zero, List.getElem_cons_succ]
                      refine wpAnyS_take (i := 8) (v := ?_) rfl (by kernel_rfl) (by kernel_rfl) (by kernel_rfl) (fun _ _ _ h => h) (by rfl) (gives_pure (by rfl) ?_) ?_
                      rotate_left
                      · intro b' d' u' W' hS'
                        have f1 : W'.cell? ⟨g1a, r, none⟩ = some (.slice (some a1) L cr) := (hS'.cell (p := ⟨g1a, r, none⟩) g1b).trans HFF.out.1
                        have f2 : W'.cell? ⟨g2a, r, none⟩ = some (.slice (some a2) L dr) := (hS'.cell (p := ⟨g2a, r, none⟩) g2b).trans HFF.out.2.1
                        have f3 : W'.cell? (a1.add i) = some (.int .i64 (k1 : Int)) := (hS'.cell (by rw [block_of_add]; exact ha1)).trans HC.out.1
                        have f4 : W'.cell? (a2.add i) = some (.int .i64 (k2 : Int)) := (hS'.cell (by rw [block_of_add]; exact ha2)).trans HC.out.2
                        go_simp
                        rfl
                      try simp only [Act.put, List.setIfInBounds_toArray, List.set_cons_zero, List.set_cons_succ, List.getElem_toArray, List.getElem_cons_zero, List.getElem_cons_succ]
                      refine wpAnyS_take (i := 9) (v := ?_) rfl (by kernel_rfl) (by kernel_rfl) (by kernel_rfl) (fun _ _ _ h => h) (by rfl) (gives_pure (by rfl) ?_) ?_
                      rotate_left
                      · intro b' d' u' W' hS'
                        have f1 : W'.cell? ⟨g1a, r, none⟩ = some (.slice (some a1) L cr) := (hS'.cell (p := ⟨g1a, r, none⟩) g1b).trans HFF.out.1
                        have f2 : W'.cell? ⟨g2a, r, none⟩ = some (.slice (some a2) L dr) := (hS'.cell (p := ⟨g2a, r, none⟩) g2b).trans HFF.out.2.1
                        have f3 : W'.cell? (a1.add i) = some (.int .i64 (k1 : Int)) := (hS'.cell (by rw [block_of_add]; exact ha1)).trans HC.out.1
                        have f4 : W'.cell? (a2.add i) = some (.int .i64 (k2 : Int)) := (hS'.cell (by rw [block_of_add]; exact ha2)).trans HC.out.2
                        go_simp
                        rfl
                      try simp only [Act.put, List.setIfInBounds_toArray, List.set_cons_zero, List.set_cons_succ, List.getElem_toArray, List.getElem_cons_zero, List.getElem_cons_succ]
                      refine wpAnyS_take (i := 10) (v := ?_) rfl (by kernel_rfl) (by kernel_rfl) (by kernel_rfl) (fun _ _ _ h => h) (by rfl) (gives_pure (by rfl) ?_) ?_
                      rotate_left
                      · intro b' d' u' W' hS'
                        have f1 : W'.cell? ⟨g1a, r, none⟩ = some (.slice (some a1) L cr) := (hS'.cell (p := ⟨g1a, r, none⟩) g1b).trans HFF.out.1
                        have f2 : W'.cell? ⟨g2a, r, none⟩ = some (.slice (some a2) L dr) := (hS'.cell (p := ⟨g2a, r, none⟩) g2b).trans HFF.out.2.1
                        have f3 : W'.cell? (a1.add i) = some (.int .i64 (k1 : Int)) := (hS'.cell (by rw [block_of_add]; exact ha1)).trans HC.out.1
                        have f4 : W'.cell? (a2.add i) = some (.int .i64 (k2 : Int)) := (hS'.cell (by rw [block_of_add]; exact ha2)).trans HC.out.2
                        go_simp
                        rfl
                      try simp only [Act.put, List.setIfInBounds_toArray, List.set_cons_zero, List.set_cons_succ, List.getElem_toArray, List.getElem_cons_zero, List.getElem_cons_succ]
                      refine wpAnyS_take (i := 11) (v := ?_) rfl (by kernel_rfl) (by kernel_rfl) (by kernel_rfl) (fun _ _ _ h => h) (by rfl) (gives_pure (by rfl) ?_) ?_
                      rotate_left
                      · intro b' d' u' W' hS'
                        have f1 : W'.cell? ⟨g1a, r, none⟩ = some (.slice (some a1) L cr) := (hS'.cell (p := ⟨g1a, r, none⟩) g1b).trans HFF.out.1
                        have f2 : W'.cell? ⟨g2a, r, none⟩ = some (.slice (some a2) L dr) := (hS'.cell (p := ⟨g2a, r, none⟩) g2b).trans HFF.out.2.1
                        have f3 : W'.cell? (a1.add i) = some (.int .i64 (k1 : Int)) := (hS'.cell (by rw [block_of_add]; exact ha1)).trans HC.out.1
                        have f4 : W'.cell? (a2.add i) = some (.int .i64 (k2 : Int)) := (hS'.cell (by rw [block_of_add]; exact ha2)).trans HC.out.2
                        go_simp
                        rfl
                      try simp only [Act.put, List.setIfInBounds_toArray, List.set_cons_zero, List.set_cons_succ, List.getElem_toArray, List.getElem_cons_zero, List.getElem_cons_succ]
                      refine wpAnyS_take (i := 12) (v := ?_) rfl (by kernel_rfl) (by kernel_rfl) (by kernel_rfl) (fun _ _ _ h => h) (by rfl) (gives_pure (by rfl) ?_) ?_
                      rotate_left
                      · intro b' d' u' W' hS'
                        have f1 : W'.cell? ⟨g1a, r, none⟩ = some (.slice (some a1) L cr) := (hS'.cell (p := ⟨g1a, r, none⟩) g1b).trans HFF.out.1
                        have f2 : W'.cell? ⟨g2a, r, none⟩ = some (.slice (some a2) L dr) := (hS'.cell (p := ⟨g2a, r, none⟩) g2b).trans HFF.out.2.1
                        have f3 : W'.cell? (a1.add i) = some (.int .i64 (k1 : Int)) := (hS'.cell (by rw [block_of_add]; exact ha1)).trans HC.out.1
                        have f4 : W'.cell? (a2.add i) = some (.int .i64 (k2 : Int)) := (hS'.cell (by rw [block_of_add]; exact ha2)).trans HC.out.2
                        go_simp
                        rfl
                      try simp only [Act.put, List.setIfInBounds_toArray, List.set_cons_zero, List.set_cons_succ, List.getElem_toArray, List.getElem_cons_zero, List.getElem_cons_succ]
                      refine wpAnyS_take (i := 13) (v := ?_) rfl (by kernel_rfl) (by kernel_rfl) (by kernel_rfl) (fun _ _ _ h => h) (by rfl) (gives_pure (by rfl) ?_) ?_
                      rotate_left
                      · intro b' d' u' W' hS'
                        have f1 : W'.cell? ⟨g1a, r, none⟩ = some (.slice (some a1) L cr) := (hS'.cell (p := ⟨g1a, r, none⟩) g1b).trans HFF.out.1
                        have f2 : W'.cell? ⟨g2a, r, none⟩ = some (.slice (some a2) L dr) := (hS'.cell (p := ⟨g2a, r, none⟩) g2b).trans HFF.out.2.1
                        have f3 : W'.cell? (a1.add i) = some (.int .i64 (k1 : Int)) := (hS'.cell (by rw [block_of_add]; exact ha1)).trans HC.out.1
                        have f4 : W'.cell? (a2.add i) = some (.int .i64 (k2 : Int)) := (hS'.cell (by rw [block_of_add]; exact ha2)).trans HC.out.2
                        go_simp
                        rfl
                      try simp only [Act.put, List.setIfInBounds_toArray, List.set_cons_zero, List.set_cons_succ, List.getElem_toArray, List.getElem_cons_zero, List.getElem_cons_succ]
                      refine wpAnyS_take (i := 14) (v := ?_) rfl (by kernel_rfl) (by kernel_rfl) (by kernel_rfl) (fun _ _ _ h => h) (by rfl) (gives_pure (by rfl) ?_) ?_
                      rotate_left
                      · intro b' d' u' W' hS'
                        have f1 : W'.cell? ⟨g1a, r, none⟩ = some (.slice (some a1) L cr) := (hS'.cell (p := ⟨g1a, r, none⟩) g1b).trans HFF.out.1
                        have f2 : W'.cell? ⟨g2a, r, none⟩ = some (.slice (some a2) L dr) := (hS'.cell (p := ⟨g2a, r, none⟩) g2b).trans HFF.out.2.1
                        have f3 : W'.cell? (a1.add i) = some (.int .i64 (k1 : Int)) := (hS'.cell (by rw [block_of_add]; exact ha1)).trans HC.out.1
                        have f4 : W'.cell? (a2.add i) = some (.int .i64 (k2 : Int)) := (hS'.cell (by rw [block_of_add]; exact ha2)).trans HC.out.2
                        go_simp
                        rfl
                      try simp only [Act.put, List.setIfInBounds_toArray, List.set_cons_zero, List.set_cons_succ, List.getElem_toArray, List.getElem_cons_zero, List.getElem_cons_succ]
                      refine wpAnyS_take (i := 15) (v := ?_) rfl (by kernel_rfl) (by kernel_rfl) (by kernel_rfl) (fun _ _ _ h => h) (by rfl) (gives_pure (by rfl) ?_) ?_
                      rotate_left
                      · intro b' d' u' W' hS'
                        have f1 : W'.cell? ⟨g1a, r, none⟩ = some (.slice (some a1) L cr) := (hS'.cell (p := ⟨g1a, r, none⟩) g1b).trans HFF.out.1
                        have f2 : W'.cell? ⟨g2a, r, none⟩ = some (.slice (some a2) L dr) := (hS'.cell (p := ⟨g2a, r, none⟩) g2b).trans HFF.out.2.1
                        have f3 : W'.cell? (a1.add i) = some (.int .i64 (k1 : Int)) := (hS'.cell (by rw [block_of_add]; exact ha1)).trans HC.out.1
                        have f4 : W'.cell? (a2.add i) = some (.int .i64 (k2 : Int)) := (hS'.cell (by rw [block_of_add]; exact ha2)).trans HC.out.2
                        go_simp
                        rfl
                      try simp only [Act.put, List.setIfInBounds_toArray, List.set_cons_zero, List.set_cons_succ, List.getElem_toArray, List.getElem_cons_zero, List.getElem_cons_succ]
                      refine wpAnyS_take (i := 16) (v := ?_) rfl (by kernel_rfl) (by kernel_rfl) (by kernel_rfl) (fun _ _ _ h => h) (by rfl) (gives_pure (by rfl) ?_) ?_
                      rotate_left
                      · intro b' d' u' W' hS'
                        have f1 : W'.cell? ⟨g1a, r, none⟩ = some (.slice (some a1) L cr) := (hS'.cell (p := ⟨g1a, r, none⟩) g1b).trans HFF.out.1
                        have f2 : W'.cell? ⟨g2a, r, none⟩ = some (.slice (some a2) L dr) := (hS'.cell (p := ⟨g2a, r, none⟩) g2b).trans HFF.out.2.1
                        have f3 : W'.cell? (a1.add i) = some (.int .i64 (k1 : Int)) := (hS'.cell (by rw [block_of_add]; exact ha1)).trans HC.out.1
                        have f4 : W'.cell? (a2.add i) = some (.int .i64 (k2 : Int)) := (hS'.cell (by rw [block_of_add]; exact ha2)).trans HC.out.2
                        go_simp
                        rfl
                      try simp only [Act.put, List.setIfInBounds_toArray, List.set_cons_zero, List.set_cons_succ, List.getElem_toArray, List.getElem_cons_zero, List.getElem_cons_succ]
                      refine wpAnyS_take (i := 17) (v := ?_) rfl (by kernel_rfl) (by kernel_rfl) (by kernel_rfl) (fun _ _ _ h => h) (by rfl) (gives_pure (by rfl) ?_) ?_
                      rotate_left
                      · intro b' d' u' W' hS'
                        have f1 : W'.cell? ⟨g1a, r, none⟩ = some (.slice (some a1) L cr) := (hS'.cell (p := ⟨g1a, r, none⟩) g1b).trans HFF.out.1
                        have f2 : W'.cell? ⟨g2a, r, none⟩ = some (.slice (some a2) L dr) := (hS'.cell (p := ⟨g2a, r, none⟩) g2b).trans HFF.out.2.1
                        have f3 : W'.cell? (a1.add i) = some (.int .i64 (k1 : Int)) := (hS'.cell (by rw [block_of_add]; exact ha1)).trans HC.out.1
                        have f4 : W'.cell? (a2.add i) = some (.int .i64 (k2 : Int)) := (hS'.cell (by rw [block_of_add]; exact ha2)).trans HC.out.2
                        go_simp
                        rfl
                      try simp only [Act.put, List.setIfInBounds_toArray, List.set_cons_zero, List.set_cons_succ, List.getElem_toArray, List.getElem_cons_zero, List.getElem_cons_succ]
                      refine wpAnyS_done (b := true) (d := true) (by kernel_rfl) (by kernel_rfl) (by kernel_rfl) rfl (fun wS hS => ?_) _
                      have HS := Lib.hid hS
                      clear hS E0
                      go_wp2_with fail
                      go_roundw
                      case rel => exact ⟨i + 1, by omega, by go_num, HS⟩
                      case measure => simp [intOf] <;> omega
                    · have q0 : decide ((i : Int) < (L : Int)) = false := decide_eq_false (by omega)
                      have q0' : decide (i < L) = false := decide_eq_false hlt2
                      go_wp2_with fail
                      go_roundw
                      case rel => exact ⟨r + 1, by omega, by go_num, HJ⟩
                      case measure => simp [intOf] <;> omega
                · have g1 : decide ((r : Int) < (R1.length : Int)) = false := decide_eq_false (by omega)
                  have g1' : decide (r < R1.length) = false := decide_eq_false hlt
                  go_wp2_with (go_at_call 12; refine (works19_any _).mono ?_; rintro e w' ⟨rfl, hb9⟩; have HB9 := Lib.hid ((HBW.out.trans (HJ.out.mono HBW.out.size)).trans (hb9.mono ((HBW.out.trans (HJ.out.mono HBW.out.size)).size))); clear hb9)
                  go_ret
                  exact ⟨rfl, HB9.out⟩
end Go.Proofs.Ytdnpobfnkdllmaa
