/- Mains: the widths of items. -/
import Derived.Test.YtbopeofglhkffaaTri
import Derived.Test.YtbopeofglhkffaaItf
import Derived.Test.YtbopeofglhkffaaMs
set_option linter.unusedSimpArgs false
set_option linter.unusedVariables false
namespace Go.Proofs.Ytbopeofglhkffaa
open Go.RowKit
attribute [local go_sem] block_of_add run_store_hi run_store_lo
/-! What Mains answers. -/
def usedT (x : It) : Int × Int × Int := (cutF (numF x.width), cutF x.left, cutF x.right)
def usedB (x : It) : Bool := cutB (numF x.width) || cutB x.left || cutB x.right
def mainsM (s : Sty) (c : Int) (l : List Sty) (got : List Cn) : Nat → It := fitsM c (itM l c got) (rowsF s.wrap c (ownM (itM l c got)) (orderF (ordF l) l.length))
structure MainsAns (s : Sty) (c : Int) (l : List Sty) (got : List Cn) (w w' : World) (e : Ending) : Prop where
  ex : ∃ gu gb, e = .returned (.tuple #[.slice (some ⟨gu, 0, none⟩) l.length l.length, .slice (some ⟨gb, 0, none⟩) l.length l.length]) ∧ Blk w' gu 27 (triC (fun k => usedT (mainsM s c l got k)) l.length).toArray ∧
    Blk w' gb 4 (booC (fun k => usedB (mainsM s c l got k)) l.length).toArray ∧ w.heap.size ≤ gu ∧ w.heap.size ≤ gb
  b : Below w.heap.size w w'
/-! Rows apart. -/
theorem orderF_nodup (o : Nat → Int) (n : Nat) : (orderF o n).Nodup := (orderF_srt o n).imp fun {a b} h e => by subst e; exact h.asymm h
theorem rowsF_flat (wrap : Bool) (c : Int) (own : Nat → Int) (l : List Nat) : (rowsF wrap c own l).flatten = l := (rows_all wrap c own l).flat
theorem fits_out (c : Int) : ∀ (rows : List (List Nat)) (M : Nat → It) (k : Nat), k ∉ rows.flatten → fitsM c M rows k = M k
  | [], M, k, _ => rfl
  | r :: t, M, k, h => by
    rw [List.flatten_cons, List.mem_append] at h
    show fitsM c (fitM c M r) t k = M k
    rw [fits_out c t _ k fun h2 => h (.inr h2), fit_out c M r k fun h2 => h (.inl h2)]
theorem fits_take (c : Int) (rows : List (List Nat)) (M : Nat → It) (hn : rows.flatten.Nodup) {r : Nat} (hr : r < rows.length) {k : Nat} (hk : k ∈ rows[r]) : fitsM c M (rows.take r) k = M k := by
  refine fits_out c _ _ k fun h => ?_
  have e : rows = rows.take r ++ rows[r] :: rows.drop (r + 1) := by rw [← List.drop_eq_getElem_cons hr, List.take_append_drop]
  rw [e, List.flatten_append, List.flatten_cons] at hn
  exact (List.nodup_append.1 hn).2.2 k h k (List.mem_append_left _ hk) rfl
theorem fits_succ (c : Int) (rows : List (List Nat)) (M : Nat → It) {r : Nat} (hr : r < rows.length) : fitsM c M (rows.take (r + 1)) = fitM c (fitsM c M (rows.take r)) rows[r] := by
  unfold fitsM; rw [List.take_succ_eq_append_getElem hr, List.foldl_append]; rfl
theorem row_nodup {rows : List (List Nat)} (hn : rows.flatten.Nodup) {r : Nat} (hr : r < rows.length) : rows[r].Nodup := by
  have e : rows = rows.take r ++ rows[r] :: rows.drop (r + 1) := by rw [← List.drop_eq_getElem_cons hr, List.take_append_drop]
  rw [e, List.flatten_append, List.flatten_cons] at hn
  exact (List.nodup_append.1 (List.nodup_append.1 hn).2.1).1
theorem row_len {rows : List (List Nat)} {r : Nat} (hr : r < rows.length) : rows[r].length ≤ rows.flatten.length := by
  have e : rows = rows.take r ++ rows[r] :: rows.drop (r + 1) := by rw [← List.drop_eq_getElem_cons hr, List.take_append_drop]
  have e2 := congrArg (fun x => x.flatten.length) e
  simp only [List.flatten_append, List.flatten_cons, List.length_append] at e2
  omega
/-- What Mains asks of the styles. -/
structure StX (s : Sty) : Prop where
  m : StM s
  grow : 0 ≤ s.grow ∧ s.grow ≤ 60
  shrink : 0 ≤ s.shrink ∧ s.shrink ≤ 60
theorem itM_fitB {l : List Sty} {c : Int} {got : List Cn} (hs : ∀ s ∈ l, StX s) (hc : CB c) (hg : ∀ x ∈ got, 0 ≤ x.greatest ∧ x.greatest ≤ 1099511627776) (k : Nat) (hk : k < l.length) : FitB (itM l c got k) := by
  have hb := itM_itB (fun s h => (hs s h).m) hc hg k hk
  have hx := hs l[k] (List.getElem_mem hk)
  have hba := baseF_bd hx.m hc (gAt_bd hg k)
  unfold itM at hb ⊢
  rw [stK_at hk] at hb ⊢
  exact ⟨rfl, hc, hx.m.maxw, hx.m.minw, hb.sides, hba, hb.guess, hx.grow, hx.shrink⟩
structure MnI (n : Nat) (B : Nat → Nat) (M : Nat → It) (gp lo hi : Nat) (v : Value) (rows : List (List Nat)) (w W : World) : Prop where
  pt : Blk W gp 82 (ptrC B (List.range n)).toArray
  its : Its n B M W
  rws : RowsAt W lo hi v rows
  b : Below w.heap.size w W
  hsz : hi ≤ W.heap.size
  gpb : ∀ k, k < n → gp < B k
  blo : ∀ k, k < n → B k < lo
  lh : lo ≤ hi
  ge : w.heap.size ≤ gp
  gpl : gp < lo
section
variable {n gp lo hi : Nat} {B : Nat → Nat} {M M2 : Nat → It} {v : Value} {rows : List (List Nat)} {w W W' : World}
theorem MnI.bel (h : MnI n B M gp lo hi v rows w W) (hb : Below W.heap.size W W') : MnI n B M gp lo hi v rows w W' :=
  ⟨h.pt.below hb h.pt.lt, h.its.bel hb, h.rws.below (hb.mono h.hsz), h.b.trans (hb.mono h.b.size), Nat.le_trans h.hsz hb.size, h.gpb, h.blo, h.lh, h.ge, h.gpl⟩
theorem MnI.kp (h : MnI n B M gp lo hi v rows w W) (hk : Kp (isB n B) W W') (hi' : Its n B M2 W') : MnI n B M2 gp lo hi v rows w W' :=
  ⟨h.pt.kp hk (fun ⟨k, hk, e⟩ => by have := h.gpb k hk; omega), hi', h.rws.keep (fun p h1 h2 => hk.cell (by have := h.hsz; omega) (fun ⟨k, hk, e⟩ => by have := h.blo k hk; omega)),
    h.b.trans (hk.below (fun g ⟨k, hk, e⟩ => by have := h.gpb k hk; have := h.ge; omega) h.b.size), Nat.le_trans h.hsz hk.size, h.gpb, h.blo, h.lh, h.ge, h.gpl⟩
theorem MnI.grown (h : MnI n B M gp lo hi v rows w W) {row : Option Nat} (hg : W.grownBy W' row) (hr : ∀ g, row = some g → hi ≤ g) : MnI n B M gp lo hi v rows w W' := by
  have hl := h.lh
  refine ⟨h.pt.grown hg (fun e => by have := hr gp e.symm; have := h.gpl; omega), ⟨fun k hk => (h.its.b k hk).grown hg (fun e => by have := hr _ e.symm; have := h.blo k hk; omega), h.its.inj⟩, h.rws.keep (fun p h1 h2 => World.cell?_of_block (hg.block p.block (by have := h.hsz; omega) (fun e => by have := hr _ e.symm; omega))),
    h.b.grown hg h.b.size (fun g e => by have := hr g e; have := h.ge; have := h.gpl; omega), Nat.le_trans h.hsz hg.size, h.gpb, h.blo, h.lh, h.ge, h.gpl⟩
end
theorem triC_congr {p q : Nat → Int × Int × Int} {m : Nat} (h : ∀ k, k < m → q k = p k) : triC p m = triC q m := by
  unfold triC
  refine congrArg List.flatten (List.map_congr_left fun k hk => ?_)
  rw [h k (List.mem_range.1 hk)]
theorem booC_congr {p q : Nat → Bool} {m : Nat} (h : ∀ k, k < m → q k = p k) : booC p m = booC q m := by
  unfold booC
  refine List.map_congr_left fun k hk => ?_
  rw [h k (List.mem_range.1 hk)]
structure UI (n : Nat) (B : Nat → Nat) (M : Nat → It) (gp lo hi : Nat) (v : Value) (rows : List (List Nat)) (gu gb : Nat) (w : World) (p : Nat → Int × Int × Int) (q : Nat → Bool) (W : World) : Prop where
  m : MnI n B M gp lo hi v rows w W
  u : Blk W gu 27 (triC p n).toArray
  bo : Blk W gb 4 (booC q n).toArray
  hu : hi ≤ gu
  ub : gu < gb
theorem MnI.far {n gp lo hi : Nat} {B : Nat → Nat} {M : Nat → It} {v : Value} {rows : List (List Nat)} {w W : World} (h : MnI n B M gp lo hi v rows w W) {p : Addr} (hp : hi ≤ p.block) (u : Value) : MnI n B M gp lo hi v rows w (W.setCell p u) := by
  have hl := h.lh
  have hk : Kp (fun g => hi ≤ g) W (W.setCell p u) := (Kp.refl _ W).setCell (bad := fun g => hi ≤ g) (.inl hp) u
  have hg := h.gpl
  refine ⟨h.pt.kp hk (fun e => by have : hi ≤ gp := e; omega), ⟨fun k hkn => (h.its.b k hkn).kp hk (fun e => by have : hi ≤ B k := e; have := h.blo k hkn; omega), h.its.inj⟩, h.rws.keep (fun q h1 h2 => hk.cell (by have := h.hsz; omega) (fun e => by have : hi ≤ q.block := e; omega)),
    h.b.trans (hk.below (fun g e => by have : hi ≤ g := e; have := h.ge; omega) h.b.size), Nat.le_trans h.hsz hk.size, h.gpb, h.blo, h.lh, h.ge, h.gpl⟩
section
variable {n gp lo hi gu gb k : Nat} {B : Nat → Nat} {M : Nat → It} {v : Value} {rows : List (List Nat)} {w W W' : World} {p p2 : Nat → Int × Int × Int} {q : Nat → Bool} {a : Int} {b : Bool}
theorem UI.bel (h : UI n B M gp lo hi v rows gu gb w p q W) (hb : Below W.heap.size W W') : UI n B M gp lo hi v rows gu gb w p q W' :=
  ⟨h.m.bel hb, h.u.below hb h.u.lt, h.bo.below hb h.bo.lt, h.hu, h.ub⟩
theorem UI.geu (h : UI n B M gp lo hi v rows gu gb w p q W) : w.heap.size ≤ gu := by have := h.m.ge; have := h.m.gpl; have := h.m.lh; have := h.hu; omega
theorem UI.geb (h : UI n B M gp lo hi v rows gu gb w p q W) : w.heap.size ≤ gb := by have := h.geu; have := h.ub; omega
theorem UI.put (h : UI n B M gp lo hi v rows gu gb w p q W) (i : Nat) (x : Value) (e : (triC p n).toArray.setIfInBounds i x = (triC p2 n).toArray) : UI n B M gp lo hi v rows gu gb w p2 q (W.setCell ⟨gu, i, none⟩ x) :=
  ⟨h.m.far h.hu x, by rw [← e]; exact h.u.set_ i x, h.bo.far (by have := h.ub; show gb ≠ gu; omega) x, h.hu, h.ub⟩
theorem UI.putB (h : UI n B M gp lo hi v rows gu gb w p q W) (hk : k < n) : UI n B M gp lo hi v rows gu gb w p (fun j => if j = k then b else q j) (W.setCell ⟨gb, k, none⟩ (.bool b)) :=
  ⟨h.m.far (Nat.le_trans h.hu (Nat.le_of_lt h.ub)) _, h.u.far (by have := h.ub; show gu ≠ gb; omega) _, by rw [← booC_set q n k b hk]; exact h.bo.set_ k _, h.hu, h.ub⟩
end
theorem triC_set1 (p : Nat → Int × Int × Int) (m k r : Nat) (a : Int) (h : k < m) (hr : r < 3) : (triC p m).toArray.setIfInBounds (k * 3 + r) (.int .i64 a) = (triC (updT p k (if r = 0 then (a, (p k).2.1, (p k).2.2) else if r = 1 then ((p k).1, a, (p k).2.2) else ((p k).1, (p k).2.1, a))) m).toArray := by
  apply Array.ext_getElem?
  intro x
  simp only [Array.getElem?_setIfInBounds, List.size_toArray, triC_len, List.getElem?_toArray]
  by_cases hx : x < m * 3
  · obtain ⟨j, s, hs, rfl⟩ : ∃ j s, s < 3 ∧ x = j * 3 + s := ⟨x / 3, x % 3, by omega, by omega⟩
    have hj : j < m := by omega
    rw [triC_at _ hs hj, triC_at _ hs hj]
    unfold updT
    by_cases e : j = k
    · subst e
      rcases (show r = 0 ∨ r = 1 ∨ r = 2 by omega) with rfl | rfl | rfl <;> rcases (show s = 0 ∨ s = 1 ∨ s = 2 by omega) with rfl | rfl | rfl <;> simp <;> omega
    · rw [if_neg (by omega), if_neg e]
  · rw [if_neg (by omega), List.getElem?_eq_none (by rw [triC_len]; omega), List.getElem?_eq_none (by rw [triC_len]; omega)]
set_option maxRecDepth 100000 in
set_option maxHeartbeats 4000000 in
theorem mains_any (s : Sty) (c : Int) (l : List Sty) (got : List Cn) (A Ag : Option Addr) (ck cg : Nat) (w : World) (hn : l.length ≤ 1000) (hr : Reads w w.heap.size 43 A l.length (stysCells l)) (huv : ∀ s ∈ l, ∃ Au nu cu, s.uv = .slice Au nu cu)
    (hg : Reads w w.heap.size 4 Ag got.length (cnsCells got)) (hc : CB c) (hs : ∀ s ∈ l, StX s) (hgc : ∀ x ∈ got, 0 ≤ x.greatest ∧ x.greatest ≤ 1099511627776) :
    Calls Try.prog 20 #[.agg (styCells s).toArray, .int .i64 c, .slice A l.length ck, .slice Ag got.length cg] w fun e w' => MainsAns s c l got w w' e := by
  have HM := Lib.hid (fun W (hb : Below w.heap.size w W) => measured_any l got c A Ag ck cg W (by omega) ((hr.below hb).more hb.size) huv ((hg.below hb).more hb.size) hc (fun s h => (hs s h).m) hgc)
  have HR := Lib.hid (fun W (hb : Below w.heap.size w W) B gp cp hp hi => rowsOf_any s c l B (itM l c got) A ck gp cp W (by omega) ((hr.below hb).more hb.size) hp hi (itM_itB (fun s h => (hs s h).m) hc hgc) hc)
  have HFB := Lib.hid (itM_fitB hs hc hgc)
  have HC := Lib.hid hc
  clear hr hg hs hgc huv hc
  obtain ⟨n, hne⟩ : ∃ n, n = l.length := ⟨_, rfl⟩
  rw [← hne] at hn HM HR HFB
  have HN := Lib.hid hne
  obtain ⟨M0, hM0⟩ : ∃ M0, M0 = itM l c got := ⟨_, rfl⟩
  rw [← hM0] at HR HFB
  obtain ⟨rows, hrows⟩ : ∃ rows, rows = rowsF s.wrap c (ownM M0) (orderF (ordF l) n) := ⟨_, rfl⟩
  have hflat : rows.flatten = orderF (ordF l) n := by rw [hrows]; exact rowsF_flat _ _ _ _
  have HND := Lib.hid (show rows.flatten.Nodup by rw [hflat]; exact orderF_nodup _ _)
  have HRN : Hid (∀ r (h : r < rows.length), ∀ k ∈ rows[r], k < n) := Lib.hid (fun r h k hk => by
    have : k ∈ rows.flatten := List.mem_flatten.2 ⟨rows[r], List.getElem_mem h, hk⟩
    rw [hflat] at this; exact (orderF_mem _ _ _).1 this)
  have HRL : Hid (∀ r (h : r < rows.length), rows[r].length ≤ n) := Lib.hid (fun r h => by have := row_len h; rw [hflat, orderF_len] at this; exact this)
  have HRZ : Hid (rows.length ≤ n) := Lib.hid (by
    have hne := (rows_all s.wrap c (ownM M0) (orderF (ordF l) n)).ne
    have h2 : ∀ rs : List (List Nat), (∀ r ∈ rs, r ≠ []) → rs.length ≤ rs.flatten.length := fun rs => by
      induction rs with
      | nil => simp
      | cons a t ih =>
        intro h
        have h1 := ih fun r hr => h r (by simp [hr])
        have h3 := List.length_pos_iff.2 (h a (by simp))
        rw [List.flatten_cons, List.length_append, List.length_cons]; omega
    have h3 := h2 rows (by rw [hrows]; exact hne)
    rw [hflat, orderF_len] at h3; exact h3)
  have HMM : Hid (mainsM s c l got = fitsM c M0 rows) := Lib.hid (by unfold mainsM; rw [← hM0, ← hne, ← hrows])
  have HRW := Lib.hid (And.intro hrows hM0)
  clear hne hrows hM0 hflat
  show Calls Try.prog 20 #[.agg (styCells s).toArray, .int .i64 c, .slice A l.length ck, .slice Ag got.length cg] w fun e w' => MainsAns s c l got w w' e
  rw [← HN.out]
  go_enter Try.func20, Try.ntmps20
  go_upto_region 1 with (fail)
  have HB0 := Lib.hid (And.intro (show Below w.heap.size w (w.alloc (.cells (styCells s).toArray 52)) from bal (Below.refl _ _) _) (Blk.new w 52 (styCells s).toArray))
  obtain ⟨w1, hw1⟩ : ∃ w1, w1 = w.alloc (.cells (styCells s).toArray 52) := ⟨_, rfl⟩
  rw [← hw1] at HB0 ⊢
  clear hw1
  have HM1 := Lib.hid (HM.out _ HB0.out.1)
  obtain ⟨gp, hgp⟩ : ∃ gp, gp = w1.heap.size + 1 := ⟨_, rfl⟩
  have HM2 : Hid (Calls Try.prog 37 #[.int .i64 c, .slice A n ck, .slice Ag got.length cg] w1 fun e w' => (∃ B, e = .returned (.slice (some ⟨gp, 0, none⟩) n n) ∧ Blk w' gp 82 (ptrC B (List.range n)).toArray ∧ Its n B M0 w' ∧ ∀ k, k < n → gp < B k) ∧ Below w1.heap.size w1 w') := Lib.hid (HM1.out.mono fun e w' h => by
    obtain ⟨⟨B, h1, h2, h3, h4⟩, h5⟩ := h
    rw [← hgp] at h1 h2 h4
    rw [HRW.out.2]
    exact ⟨⟨B, h1, h2, h3, h4⟩, h5⟩)
  have HGP := Lib.hid (show w.heap.size ≤ gp by rw [hgp]; have := HB0.out.1.size; omega)
  clear hgp HM1
  go_upto_region 2 with (go_at_call 37; refine HM2.out.mono ?_; rintro e w2 ⟨⟨B, rfl, hp2, hi2, hg2⟩, hb2⟩; have H2 := Lib.hid (And.intro hp2 (And.intro hi2 (And.intro hg2 hb2))); clear hp2 hi2 hg2 hb2)
  have HB2 := Lib.hid (show Below w.heap.size w w2 from HB0.out.1.trans (H2.out.2.2.2.mono HB0.out.1.size))
  have HS2 := Lib.hid (HB0.out.2.below H2.out.2.2.2 HB0.out.2.lt)
  have HRG := Lib.hid (sty_rngB HS2.out)
  have HR2 := Lib.hid (HR.out w2 HB2.out B gp n H2.out.1 H2.out.2.1)
  go_wp2_with (first
    | refine wpList_load_mid rfl 52 (.tmp 4) rfl w.heap.size 0 rfl (styCells s) _ HRG.out Try.underlying52 rfl (by kernel_rfl) ?_
    | (go_at_call 38; refine HR2.out.mono ?_; rintro e w3 ⟨⟨v, rfl, hra⟩, hb3⟩; rw [← HN.out, ← HRW.out.1] at hra; obtain ⟨Av, cv, hv, _⟩ := hra.ex; subst hv; have H3 := Lib.hid (And.intro hra hb3); clear hra hb3))
  have HI0 : Hid (MnI n B M0 gp w2.heap.size w3.heap.size (.slice Av rows.length cv) rows w w3) := Lib.hid
    ⟨H2.out.1.below H3.out.2 H2.out.1.lt, H2.out.2.1.bel H3.out.2, H3.out.1, HB2.out.trans (H3.out.2.mono HB2.out.size), Nat.le_refl _, H2.out.2.2.1, fun k hk => (H2.out.2.1.b k hk).lt, H3.out.2.size, HGP.out, H2.out.1.lt⟩
  obtain ⟨lo, hlo⟩ : ∃ lo, lo = w2.heap.size := ⟨_, rfl⟩
  obtain ⟨hi, hhi⟩ : ∃ hi, hi = w3.heap.size := ⟨_, rfl⟩
  rw [← hlo, ← hhi] at HI0
  clear hlo hhi HRG HS2 HB2
  go_loopw [31] (fun kv wr => ∃ r : Nat, r ≤ rows.length ∧ kv = .int .i64 r ∧ Hid (MnI n B (fitsM c M0 (rows.take r)) gp lo hi (.slice Av rows.length cv) rows w wr)) (fun kv _ => rows.length - (intOf kv).toNat)
  case atStart => exact ⟨0, by omega, rfl, HI0⟩
  case round =>
    obtain ⟨r, hr, rfl, HH⟩ := hrel
    have hrn := HRZ.out
    by_cases hlt : r < rows.length
    · have g0 : decide ((r : Int) < (rows.length : Int)) = true := decide_eq_true (by omega)
      have g0' : decide (r < rows.length) = true := decide_eq_true hlt
      have hki : (r : Int) < (rows.length : Int) := by omega
      have hk0 : (0 : Int) ≤ (r : Int) := by omega
      have wk : IntKind.i64.wrap ((r : Int) + 1) = (r : Int) + 1 := IntWalk.i64_in _ ⟨by omega, by omega⟩
      obtain ⟨A', c', hAe, _, hrx⟩ := HH.out.rws.ex
      injection hAe with hAe _ hcc
      subst hAe
      rw [← hcc] at *
      clear hcc
      obtain ⟨g, hg, hg1, hg2, hrx2⟩ := hrx (by omega)
      subst hg
      obtain ⟨Ar, cr, hcr, _, hrd, hrl⟩ := hrx2 r hlt
      have hra : rowAt rows r = rows[r] := by unfold rowAt; rw [List.getElem?_eq_getElem hlt]; rfl
      rw [hra] at hcr hrd
      have HRD := Lib.hid (And.intro hrd hrl)
      obtain ⟨ks, hks⟩ : ∃ ks, ks = rows[r] := ⟨_, rfl⟩
      rw [← hks] at hcr HRD
      have hkn : ks.length ≤ n := by rw [hks]; exact HRL.out r hlt
      have HKN : Hid (∀ k ∈ ks, k < n) := Lib.hid (by rw [hks]; exact HRN.out r hlt)
      have HKD : Hid (ks.Nodup) := Lib.hid (by rw [hks]; exact row_nodup HND.out hlt)
      have HKM : Hid (∀ k ∈ ks, fitsM c M0 (rows.take r) k = M0 k) := Lib.hid (fun k hk => fits_take c rows M0 HND.out hlt (by rw [hks] at hk; exact hk))
      have HKS : Hid (fitsM c M0 (rows.take (r + 1)) = fitM c (fitsM c M0 (rows.take r)) ks) := Lib.hid (by rw [hks]; exact fits_succ c rows M0 hlt)
      clear hks hra hrx hrx2 hrd hrl hg1 hg2
      obtain ⟨Mr, hMr⟩ : ∃ Mr, Mr = fitsM c M0 (rows.take r) := ⟨_, rfl⟩
      rw [← hMr] at HH HKM HKS
      clear hMr
      obtain ⟨m, hm⟩ : ∃ m, m = ks.length := ⟨_, rfl⟩
      rw [← hm] at hcr hkn HRD
      have HMK := Lib.hid hm
      clear hm
      go_wp2_with fail
      clear hcr
      have HL0 : Hid (MnI n B Mr gp lo hi (.slice (some ⟨g, 0, none⟩) rows.length cv) rows w wr ∧ wr.ownsRow hi 82 1 (.slice none 0 0) 0 (ptrC B (ks.take 0)) ∧ Reads wr hi 1 Ar m (nCells ks) ∧ Kp (fun g => hi ≤ g) wr wr) := Lib.hid ⟨HH.out, World.ownsRow_nil _ _ _ _, HRD.out.1, Kp.refl _ _⟩
      go_loopw [13, 37] (fun v kv wy => ∃ j : Nat, j ≤ m ∧ kv = .int .i64 j ∧ Hid (MnI n B Mr gp lo hi (.slice (some ⟨g, 0, none⟩) rows.length cv) rows w wy ∧ wy.ownsRow hi 82 1 v j (ptrC B (ks.take j)) ∧ Reads wy hi 1 Ar m (nCells ks))) (fun _ kv _ => m - (intOf kv).toNat)
      case atStart => exact ⟨0, by omega, rfl, Lib.hid ⟨HL0.out.1, HL0.out.2.1, HL0.out.2.2.1⟩⟩
      case round =>
        obtain ⟨j, hj, rfl, HY⟩ := hrel
        obtain ⟨Ao, co, hv⟩ := own_form HY.out.2.1
        subst hv
        by_cases hlt2 : j < m
        · have g1 : decide ((j : Int) < (m : Int)) = true := decide_eq_true (by omega)
          have g1' : decide (j < m) = true := decide_eq_true hlt2
          have hji : (j : Int) < (m : Int) := by omega
          have hj0 : (0 : Int) ≤ (j : Int) := by omega
          have wj : IntKind.i64.wrap ((j : Int) + 1) = (j : Int) + 1 := IntWalk.i64_in _ ⟨by omega, by omega⟩
          have hjl : j < ks.length := by rw [← HMK.out]; exact hlt2
          obtain ⟨ad, u, rfl, _, hx, hcu⟩ := HY.out.2.2.at_ hlt2
          obtain ⟨kk, hkk⟩ : ∃ kk, kk = ks[j] := ⟨_, rfl⟩
          have hu : u = .int .i64 (kk : Int) := by rw [hkk]; simpa [nCells, hjl] using hx.symm
          subst hu
          have hkkn : kk < n := HKN.out kk (by rw [hkk]; exact List.getElem_mem hjl)
          have HTK : Hid (ptrC B (ks.take (j + 1)) = ptrC B (ks.take j) ++ [.pointer (some ⟨B kk, 0, none⟩)]) := Lib.hid (by rw [List.take_succ_eq_append_getElem hjl, ← hkk]; simp [ptrC])
          have hp1 : wr.cell? ⟨gp, kk, none⟩ = some (.pointer (some ⟨B kk, 0, none⟩)) := HY.out.1.pt.get kk (by simp [ptrC, hkkn])
          have hk1 : (0 : Int) ≤ (kk : Int) := by omega
          have hk2 : (kk : Int) < (n : Int) := by omega
          have h9 : j + 1 ≤ 4294967296 := by omega
          have HBZ := Lib.hid (show hi ≤ wr.heap.size from HY.out.1.hsz)
          clear hkk hx
          go_wp2_with (at_builtin; refine wpList_app (m := 1) rfl _ _ rfl el_ptr HY.out.2.1 HBZ.out rfl [.pointer (some ⟨B kk, 0, none⟩)] rfl rfl (by simp [Value.oneCell']) h9 (by omega) ?_; intro A6 c6 w6 hown6 hB6 hg6 _; have H6 := Lib.hid (And.intro hown6 (And.intro (HY.out.1.grown hg6 (fun g e => (HY.out.2.1.lt g e).1)) (HY.out.2.2.grown hg6 HBZ.out (fun g e => (HY.out.2.1.lt g e).1)))); clear hown6 hB6 hg6)
          go_roundw
          case rel => exact ⟨j + 1, by omega, by go_num, Lib.hid ⟨H6.out.2.1, by rw [HTK.out]; exact H6.out.1, H6.out.2.2⟩⟩
          case measure => simp [intOf] <;> omega
        · have g1 : decide ((j : Int) < (m : Int)) = false := decide_eq_false (by omega)
          have g1' : decide (j < m) = false := decide_eq_false hlt2
          have hjm : j = m := by omega
          have hjk : ks.take j = ks := by rw [hjm, HMK.out, List.take_length]
          rw [hjk, hjm] at HY
          rw [hjm]
          clear hjm hjk hlt2 g1'
          have g1' : decide (m < m) = false := decide_eq_false (by omega)
          have HPT : Hid (PtrAt wr n B Ao ks) := Lib.hid ⟨by have := Reads.of_own HY.out.2.1; rw [HMK.out] at this; exact this, fun ad e => fun ⟨k, hk, e2⟩ => by
            have h1 := (HY.out.2.1.lt ad.block (by rw [e]; rfl)).1
            have h2 := HY.out.1.blo k hk
            have h3 := HY.out.1.lh
            omega⟩
          have HFT := Lib.hid (fit_any n B Mr ks c Ao co wr (by rw [← HMK.out]; omega) HKD.out HKN.out HPT.out HY.out.1.its (fun k hk => by rw [HKM.out k hk]; exact HFB.out k (HKN.out k hk)) HC.out)
          rw [← HMK.out] at HFT
          go_wp2_with (go_at_call 39; refine HFT.out.mono ?_; rintro e w7 ⟨rfl, hi7, hk7⟩; have H7 := Lib.hid (HY.out.1.kp hk7 hi7); clear hi7 hk7)
          go_roundw
          case rel => exact ⟨r + 1, by omega, by go_num, Lib.hid (by rw [HKS.out]; exact H7.out)⟩
          case measure => simp [intOf] <;> omega
    · have g0 : decide ((r : Int) < (rows.length : Int)) = false := decide_eq_false (by omega)
      have g0' : decide (r < rows.length) = false := decide_eq_false hlt
      have hrk : rows.take r = rows := List.take_of_length_le (by omega)
      rw [hrk] at HH
      clear hrk hlt
      obtain ⟨MF, hMF⟩ : ∃ MF, MF = fitsM c M0 rows := ⟨_, rfl⟩
      rw [← hMF] at HH HMM
      clear hMF
      have hmk1 := fun W => make_useds n (by omega) W
      have hmk2 := fun W => make_bools n (by omega) W
      obtain ⟨gu, hgu⟩ : ∃ gu, gu = wr.heap.size := ⟨_, rfl⟩
      have HU0 : Hid (UI n B MF gp lo hi (.slice Av rows.length cv) rows gu (gu + 1) w (fun _ => (0, 0, 0)) (fun _ => false) ((wr.alloc (.cells (triC (fun _ => (0, 0, 0)) n).toArray 27)).alloc (.cells (booC (fun _ => false) n).toArray 4))) := Lib.hid
        ⟨HH.out.bel (bal (bal (Below.refl _ _) _) _), (Blk.at_ _ _ _ hgu).alloc _, Blk.at_ _ _ _ (by simp [hgu]), by rw [hgu]; exact HH.out.hsz, by omega⟩
      go_upto_region 15 with (fail)
      rw [← hgu]
      obtain ⟨w8, hw8⟩ : ∃ w8, w8 = ((wr.alloc (.cells (triC (fun _ => (0, 0, 0)) n).toArray 27)).alloc (.cells (booC (fun _ => false) n).toArray 4)) := ⟨_, rfl⟩
      rw [← hw8] at HU0 ⊢
      obtain ⟨gb, hgb⟩ : ∃ gb, gb = gu + 1 := ⟨_, rfl⟩
      rw [← hgb] at HU0 ⊢
      clear hgu hw8 hgb hmk1 hmk2
      go_wp2_with fail
      go_loopw [61] (fun kv wr => ∃ k : Nat, k ≤ n ∧ kv = .int .i64 k ∧ Hid (UI n B MF gp lo hi (.slice Av rows.length cv) rows gu gb w (fun j => if j < k then usedT (MF j) else (0, 0, 0)) (fun j => if j < k then usedB (MF j) else false) wr)) (fun kv _ => n - (intOf kv).toNat)
      case atStart => exact ⟨0, by omega, rfl, Lib.hid (by simpa using HU0.out)⟩
      case round =>
        obtain ⟨k, hk, rfl, HK⟩ := hrel
        by_cases hlt : k < n
        · have g0 : decide ((k : Int) < (n : Int)) = true := decide_eq_true (by omega)
          have g0' : decide (k < n) = true := decide_eq_true hlt
          have hki : (k : Int) < (n : Int) := by omega
          have hk0 : (0 : Int) ≤ (k : Int) := by omega
          have wk : IntKind.i64.wrap ((k : Int) + 1) = (k : Int) + 1 := IntWalk.i64_in _ ⟨by omega, by omega⟩
          have hp1 : wr.cell? ⟨gp, k, none⟩ = some (.pointer (some ⟨B k, 0, none⟩)) := HK.out.m.pt.get k (by simp [ptrC, hlt])
          obtain ⟨x, hx⟩ : ∃ x, x = MF k := ⟨_, rfl⟩
          have HX := Lib.hid hx
          clear hx
          obtain ⟨wd, hwd⟩ : ∃ wd, wd = x.width := ⟨_, rfl⟩
          obtain ⟨le, hle⟩ : ∃ le, le = x.left := ⟨_, rfl⟩
          obtain ⟨ri, hri⟩ : ∃ ri, ri = x.right := ⟨_, rfl⟩
          have HW := Lib.hid (And.intro hwd (And.intro hle hri))
          have hI : Blk wr (B k) 89 (itCells x).toArray := HX.out ▸ HK.out.m.its.b k hlt
          have h1 : wr.cell? ⟨B k, 54, none⟩ = some (hiOf wd) := by rw [hwd]; exact hI.get 54 (it_widthh x)
          have h2 : wr.cell? ⟨B k, 55, none⟩ = some (loOf wd) := by rw [hwd]; exact hI.get 55 (it_widthl x)
          clear hI hwd hle hri
          go_upto_region 19 with (fail)
          clear hp1
          go_upto_region 20 with (first
            | (go_at_call 41; refine (number_any _ _).mono ?_; rintro e w9 ⟨rfl, hb9⟩; have H9 := Lib.hid (HK.out.bel hb9); clear hb9 h1 h2; have q1 := H9.out.u.get (k * 3) (triC_g0 _ hlt); have q2 := H9.out.u.frozen (k * 3))
            | (go_at_call 40; refine (cut_any _ _).mono ?_; rintro e w0 ⟨rfl, rfl⟩))
          obtain ⟨p0, hp0⟩ : ∃ p0 : Nat → Int × Int × Int, p0 = fun j => if j < k then usedT (MF j) else (0, 0, 0) := ⟨_, rfl⟩
          obtain ⟨q0, hq0⟩ : ∃ q0 : Nat → Bool, q0 = fun j => if j < k then usedB (MF j) else false := ⟨_, rfl⟩
          rw [← hp0, ← hq0] at HK H9
          have HPQ := Lib.hid (And.intro hp0 hq0)
          clear hp0 hq0 q1 q2
          have H10 := Lib.hid (UI.put (H9.out) (k * 3) _ (triC_set1 p0 n k 0 (cutF (numF wd)) hlt (by omega)))
          obtain ⟨w10, hw10⟩ : ∃ w10, w10 = w9.setCell ⟨gu, k * 3, none⟩ (.int .i64 (cutF (numF wd))) := ⟨_, rfl⟩
          rw [← hw10] at H10 ⊢
          clear hw10
          obtain ⟨p1, hp1⟩ : ∃ p1, p1 = updT p0 k (if 0 = 0 then (cutF (numF wd), (p0 k).2.1, (p0 k).2.2) else if 0 = 1 then ((p0 k).1, cutF (numF wd), (p0 k).2.2) else ((p0 k).1, (p0 k).2.1, cutF (numF wd))) := ⟨_, rfl⟩
          rw [← hp1] at H10
          have HP1 := Lib.hid hp1
          clear hp1
          have hI : Blk w10 (B k) 89 (itCells x).toArray := HX.out ▸ H10.out.m.its.b k hlt
          have h1 : w10.cell? ⟨B k, 44, none⟩ = some (.int .i64 le) := by rw [HW.out.2.1]; exact hI.get 44 (it_left x)
          have q1 := H10.out.u.get (k * 3 + 1) (triC_g1 _ hlt)
          have q2 := H10.out.u.frozen (k * 3 + 1)
          clear hI
          go_upto_region 21 with (go_at_call 40; refine (cut_any _ _).mono ?_; rintro e w0 ⟨rfl, rfl⟩)
          clear q1 q2 h1
          have H11 := Lib.hid (UI.put (H10.out) (k * 3 + 1) _ (triC_set1 p1 n k 1 (cutF le) hlt (by omega)))
          obtain ⟨w11, hw11⟩ : ∃ w11, w11 = w10.setCell ⟨gu, k * 3 + 1, none⟩ (.int .i64 (cutF le)) := ⟨_, rfl⟩
          rw [← hw11] at H11 ⊢
          clear hw11
          obtain ⟨p2, hp2⟩ : ∃ p2, p2 = updT p1 k (if 1 = 0 then (cutF le, (p1 k).2.1, (p1 k).2.2) else if 1 = 1 then ((p1 k).1, cutF le, (p1 k).2.2) else ((p1 k).1, (p1 k).2.1, cutF le)) := ⟨_, rfl⟩
          rw [← hp2] at H11
          have HP2 := Lib.hid hp2
          clear hp2
          have hI : Blk w11 (B k) 89 (itCells x).toArray := HX.out ▸ H11.out.m.its.b k hlt
          have h1 : w11.cell? ⟨B k, 45, none⟩ = some (.int .i64 ri) := by rw [HW.out.2.2]; exact hI.get 45 (it_right x)
          have q1 := H11.out.u.get (k * 3 + 2) (triC_g2 _ hlt)
          have q2 := H11.out.u.frozen (k * 3 + 2)
          clear hI
          go_upto_region 22 with (go_at_call 40; refine (cut_any _ _).mono ?_; rintro e w0 ⟨rfl, rfl⟩)
          clear q1 q2 h1
          have H12 := Lib.hid (UI.put (H11.out) (k * 3 + 2) _ (triC_set1 p2 n k 2 (cutF ri) hlt (by omega)))
          obtain ⟨w12, hw12⟩ : ∃ w12, w12 = w11.setCell ⟨gu, k * 3 + 2, none⟩ (.int .i64 (cutF ri)) := ⟨_, rfl⟩
          rw [← hw12] at H12 ⊢
          clear hw12
          have HP : Hid (∀ b, b = (cutB (numF wd) || cutB le || cutB ri) → updT p2 k (if 2 = 0 then (cutF ri, (p2 k).2.1, (p2 k).2.2) else if 2 = 1 then ((p2 k).1, cutF ri, (p2 k).2.2) else ((p2 k).1, (p2 k).2.1, cutF ri)) = (fun j => if j < k + 1 then usedT (MF j) else (0, 0, 0)) ∧ (fun j => if j = k then b else q0 j) = (fun j => if j < k + 1 then usedB (MF j) else false)) := Lib.hid (fun b hb => by
            have hu : usedT (MF k) = (cutF (numF wd), cutF le, cutF ri) := by unfold usedT; rw [← HX.out, ← HW.out.1, ← HW.out.2.1, ← HW.out.2.2]
            have hv : usedB (MF k) = b := by unfold usedB; rw [← HX.out, ← HW.out.1, ← HW.out.2.1, ← HW.out.2.2, hb]
            constructor
            · funext j
              by_cases e : j = k
              · subst e; simp [updT, HP2.out, HP1.out, hu]
              · have : (j < k + 1) = (j < k) := propext ⟨fun h => by omega, fun h => by omega⟩
                simp [updT, HP2.out, HP1.out, e, HPQ.out.1, this]
            · funext j
              by_cases e : j = k
              · subst e; rw [if_pos rfl, if_pos (by omega), hv]
              · have : (j < k + 1) = (j < k) := propext ⟨fun h => by omega, fun h => by omega⟩
                simp [e, HPQ.out.2, this])
          obtain ⟨p3, hp3⟩ : ∃ p3, p3 = updT p2 k (if 2 = 0 then (cutF ri, (p2 k).2.1, (p2 k).2.2) else if 2 = 1 then ((p2 k).1, cutF ri, (p2 k).2.2) else ((p2 k).1, (p2 k).2.1, cutF ri)) := ⟨_, rfl⟩
          rw [← hp3] at H12 HP
          clear hp3 HP1 HP2
          obtain ⟨b1, hb1⟩ : ∃ b1, b1 = cutB (numF wd) := ⟨_, rfl⟩
          obtain ⟨b2, hb2⟩ : ∃ b2, b2 = cutB le := ⟨_, rfl⟩
          obtain ⟨b3, hb3⟩ : ∃ b3, b3 = cutB ri := ⟨_, rfl⟩
          rw [← hb1, ← hb2, ← hb3] at HP
          rw [← hb1, ← hb2, ← hb3]
          have q1 := H12.out.bo.get k (by rw [List.getElem?_toArray]; exact booC_at q0 hlt)
          have q2 := H12.out.bo.frozen k
          have HF : Hid (∀ b, b = (b1 || b2 || b3) → UI n B MF gp lo hi (.slice Av rows.length cv) rows gu gb w (fun j => if j < k + 1 then usedT (MF j) else (0, 0, 0)) (fun j => if j < k + 1 then usedB (MF j) else false) (w12.setCell ⟨gb, k, none⟩ (.bool b))) := Lib.hid (fun b hb => by
            have h := HP.out b hb
            rw [← h.1, ← h.2]; exact H12.out.putB hlt)
          clear hb1 hb2 hb3
          cases b1
          · cases b2
            · go_wp2_with fail
              go_roundw
              case rel => exact ⟨k + 1, by omega, by go_num, Lib.hid (HF.out b3 rfl)⟩
              case measure => simp [intOf] <;> omega
            · go_wp2_with fail
              go_roundw
              case rel => exact ⟨k + 1, by omega, by go_num, Lib.hid (HF.out true rfl)⟩
              case measure => simp [intOf] <;> omega
          · go_wp2_with fail
            go_roundw
            case rel => exact ⟨k + 1, by omega, by go_num, Lib.hid (HF.out true (by simp))⟩
            case measure => simp [intOf] <;> omega
        · have g0 : decide ((k : Int) < (n : Int)) = false := decide_eq_false (by omega)
          have g0' : decide (k < n) = false := decide_eq_false hlt
          have hkn : k = n := by omega
          rw [hkn] at HK
          clear hkn hlt
          have HE : Hid (MainsAns s c l got w wr (.returned (.tuple #[.slice (some ⟨gu, 0, none⟩) n n, .slice (some ⟨gb, 0, none⟩) n n]))) := Lib.hid (by
            refine ⟨⟨gu, gb, by rw [HN.out], ?_, ?_, HK.out.geu, HK.out.geb⟩, HK.out.m.b⟩
            · rw [HMM.out, ← HN.out, triC_congr (q := fun j => if j < n then usedT (MF j) else (0, 0, 0)) (fun k hk => by rw [if_pos hk])]; exact HK.out.u
            · rw [HMM.out, ← HN.out, booC_congr (q := fun j => if j < n then usedB (MF j) else false) (fun k hk => by rw [if_pos hk])]; exact HK.out.bo)
          go_wp2_with fail
          go_ret2
          exact HE.out
end Go.Proofs.Ytbopeofglhkffaa
