/- The example of chapter 21. -/
import Derived.Test.YtbopeofglhkffaaAsb
import Derived.Test.YtbopeofglhkffaaWq
import Derived.Test.YtbopeofglhkffaaWi
import Derived.Laws.StructEq
import Derived.Test.YtbopeofglhkffaaWs
set_option linter.unusedSimpArgs false
set_option linter.unusedVariables false
namespace Go.Proofs.Ytbopeofglhkffaa
open Go.RowKit
attribute [local go_sem] block_of_add
def ln0 : Ln := ⟨0, 0⟩
/-- A style of a kind and a float alone. -/
def styK (k f : Int) : Sty := ⟨k, false, f, 0, ln0, ln0, ln0, ln0, ln0, ln0, ln0, ln0, ln0, ln0, 0, 0, 0, 0, 0, 0, 0, 0, 0, 0, false, 0, 0, 0, 0, 0, ln0, [], .slice none 0 0⟩
def twoF (s : Sty) (f : Int) : List Nd := [⟨-1, styK 1 0⟩, ⟨0, s⟩, ⟨1, styK 1 f⟩, ⟨1, styK 1 f⟩]
structure Two2 (s : Sty) (f : Int) (w w' : World) (e : Ending) : Prop where
  ex : ∃ g, e = .returned (.agg #[.slice (some ⟨g, 0, none⟩) 4 4, .slice none 0 0, .int .i64 1000]) ∧ Blk w' g 54 (ndsCells (twoF s f)).toArray ∧ w.heap.size ≤ g
  b : Below w.heap.size w w'
theorem sty_rngC {W : World} {g : Nat} {s : Sty} (h : Blk W g 52 (styCells s).toArray) : W.rangeAt g 0 (styCells s) := blk_rng h fun q v hv => by rw [Nat.zero_add]; exact hv
set_option maxRecDepth 100000 in
set_option maxHeartbeats 1000000 in
theorem two21_any (s : Sty) (f : Int) (w : World) (hu : s.uv = .slice none 0 0) :
    Calls Try.prog 16 #[.agg (styCells s).toArray, .int .u8 f] w fun e w' => Two2 s f w w' e := by
  have HRG : Hid (∀ o o2 : Obj, (((w.alloc (.cells (styCells s).toArray 52)).alloc o).alloc o2).rangeAt w.heap.size 0 (styCells s)) := Lib.hid (fun o o2 => sty_rngC (((Blk.new _ _ _).alloc _).alloc _))
  have HRG2 : Hid (∀ o o2 : Obj, (((w.alloc o).alloc o2).alloc (.cells (styCells (styK 1 f)).toArray 52)).rangeAt (w.heap.size + 1 + 1) 0 (styCells (styK 1 f))) := Lib.hid (fun o o2 => sty_rngC (Blk.at_ _ _ _ (by simp)))
  have HO := Lib.hid (Sty.one (styK 1 f) (A := none) (n := 0) (c := 0) rfl)
  go_enter Try.func16, Try.ntmps16
  go_upto_region 2 with (first
    | refine wpList_build rfl 52 #[(0, .const (.int .u8 1)), (2, .tmp 6)] rfl (.agg (styCells (styK 1 f)).toArray) (by kernel_rfl) ?_
    | refine wpList_store_new rfl 52 _ _ rfl (w.heap.size + 1 + 1) (by simp) (styCells (styK 1 f)).toArray rfl rfl 52 _ (by kernel_rfl) rfl HO.out ?_)
  refine wp_region_lit ?_
  refine wpList_build rfl 52 #[(0, .const (.int .u8 1))] rfl (.agg (styCells (styK 1 0)).toArray) (by kernel_rfl) ?_
  try simp only [Act.put, List.setIfInBounds_toArray, List.set_cons_zero, List.set_cons_succ, List.getElem_toArray, List.getElem_cons_zero, List.getElem_cons_succ]
  refine wpList_build rfl 54 #[(0, .const (.int .i64 (-1))), (1, .tmp 8)] rfl (.agg (ndCells ⟨-1, styK 1 0⟩).toArray) (by kernel_rfl) ?_
  try simp only [Act.put, List.setIfInBounds_toArray, List.set_cons_zero, List.set_cons_succ, List.getElem_toArray, List.getElem_cons_zero, List.getElem_cons_succ]
  refine wpList_load_mid rfl 52 (.tmp 2) rfl w.heap.size 0 rfl (styCells s) _ (HRG.out _ _) Try.underlying52 rfl (by kernel_rfl) ?_
  try simp only [Act.put, List.setIfInBounds_toArray, List.set_cons_zero, List.set_cons_succ, List.getElem_toArray, List.getElem_cons_zero, List.getElem_cons_succ]
  refine wpList_build rfl 54 #[(0, .const (.int .i64 0)), (1, .tmp 10)] rfl (.agg (ndCells ⟨0, s⟩).toArray) (by kernel_rfl) ?_
  try simp only [Act.put, List.setIfInBounds_toArray, List.set_cons_zero, List.set_cons_succ, List.getElem_toArray, List.getElem_cons_zero, List.getElem_cons_succ]
  refine wpList_load_mid rfl 52 (.tmp 5) rfl (w.heap.size + 1 + 1) 0 rfl (styCells (styK 1 f)) _ (HRG2.out _ _) Try.underlying52 rfl (by kernel_rfl) ?_
  try simp only [Act.put, List.setIfInBounds_toArray, List.set_cons_zero, List.set_cons_succ, List.getElem_toArray, List.getElem_cons_zero, List.getElem_cons_succ]
  refine wpList_build rfl 54 #[(0, .const (.int .i64 1)), (1, .tmp 12)] rfl (.agg (ndCells ⟨1, styK 1 f⟩).toArray) (by kernel_rfl) ?_
  try simp only [Act.put, List.setIfInBounds_toArray, List.set_cons_zero, List.set_cons_succ, List.getElem_toArray, List.getElem_cons_zero, List.getElem_cons_succ]
  refine wpList_load_mid rfl 52 (.tmp 5) rfl (w.heap.size + 1 + 1) 0 rfl (styCells (styK 1 f)) _ (HRG2.out _ _) Try.underlying52 rfl (by kernel_rfl) ?_
  try simp only [Act.put, List.setIfInBounds_toArray, List.set_cons_zero, List.set_cons_succ, List.getElem_toArray, List.getElem_cons_zero, List.getElem_cons_succ]
  refine wpList_build rfl 54 #[(0, .const (.int .i64 1)), (1, .tmp 14)] rfl (.agg (ndCells ⟨1, styK 1 f⟩).toArray) (by kernel_rfl) ?_
  try simp only [Act.put, List.setIfInBounds_toArray, List.set_cons_zero, List.set_cons_succ, List.getElem_toArray, List.getElem_cons_zero, List.getElem_cons_succ]
  refine wpList_rows rfl 22 4 #[(0, .tmp 9), (1, .tmp 11), (2, .tmp 13), (3, .tmp 15)] rfl (.slice (some ⟨(((w.alloc (.cells (styCells s).toArray 52)).alloc (.cells #[.slice none 0 0, .slice none 0 0, .int .i64 0] 25)).alloc (.cells (styCells (styK 1 f)).toArray 52)).heap.size, 0, none⟩) 4 4) ((((w.alloc (.cells (styCells s).toArray 52)).alloc (.cells #[.slice none 0 0, .slice none 0 0, .int .i64 0] 25)).alloc (.cells (styCells (styK 1 f)).toArray 52)).alloc (.cells (ndsCells (twoF s f)).toArray 54)) (by kernel_rfl) ?_
  try simp only [Act.put, List.setIfInBounds_toArray, List.set_cons_zero, List.set_cons_succ, List.getElem_toArray, List.getElem_cons_zero, List.getElem_cons_succ]
  go_wp2_with fail
  refine bodyPost_ret (results_cell_row rfl _ _ (w.heap.size + 1) 25 #[.slice (some ⟨w.heap.size + 1 + 1 + 1, 0, none⟩) 4 4, .slice none 0 0, .int .i64 1000] (0, 0) _ rfl (((Blk.at_ _ _ _ (by simp)).alloc _).alloc _) Try.underlying25 rfl (by kernel_rfl)) rfl ?_
  have HBB : Below w.heap.size w ((((w.alloc (.cells (styCells s).toArray 52)).alloc (.cells #[.slice (some ⟨w.heap.size + 1 + 1 + 1, 0, none⟩) 4 4, .slice none 0 0, .int .i64 1000] 25)).alloc (.cells (styCells (styK 1 f)).toArray 52)).alloc (.cells (ndsCells (twoF s f)).toArray 54)) := ((((Below.refl _ _).alloc (Nat.le_refl _) _).alloc (by simp) _).alloc (by simp; omega) _).alloc (by simp; omega) _
  exact ⟨⟨w.heap.size + 1 + 1 + 1, rfl, Blk.at_ _ _ _ (by simp), by omega⟩, HBB⟩
set_option maxRecDepth 100000 in
set_option maxHeartbeats 2000000 in
theorem afirst_any (l : List Nd) (hl : 0 < l.length) (hln : l.length ≤ 65536) (A A2 : Option Addr) (c m c2 : Nat) (view : Int) (w : World) (hr : Reads w w.heap.size 44 A l.length (ndsCells l)) (hs : StW l[0].s) (hc : CB view) :
    Calls Try.prog 8 #[.agg #[.slice A l.length c, .slice A2 m c2, .int .i64 view]] w (AnsB (usedV (flowN l[0].s view)) w) := by
  obtain ⟨s, hse⟩ : ∃ s, s = l[0].s := ⟨_, rfl⟩
  rw [← hse] at hs ⊢
  obtain ⟨ad, rfl, hnd0⟩ := hr.nd rfl hl
  have HLD : Hid (∀ W, Below w.heap.size w W → ∀ q v, (styCells s)[q]? = some v → W.cell? ((⟨ad.block, ad.off + 1, none⟩ : Addr).add q) = some v) := Lib.hid (fun W h q v hv => by
    obtain ⟨ad2, e, hnd⟩ := (hr.below h).nd rfl hl
    injection e with e
    subst e
    have hx := hnd.cs q v (by rw [← hse]; exact hv)
    rw [block_of_add] at hx
    have ha : (⟨ad.block, ad.off + 1, none⟩ : Addr).add q = ⟨ad.block, (ad.add (0 * 44)).off + (1 + q), none⟩ := by
      have e0 : (ad.add (0 * 44)).off = ad.off := by simp [Addr.add]
      rw [e0]
      unfold Addr.add
      split
      · simp_all
      · simp; omega
    rw [ha]; exact hx)
  obtain ⟨x1, x2, x3, y, hv⟩ : ∃ x1 x2 x3 y, usedV (flowN s view) = .tuple #[.agg #[.int .i64 x1, .int .i64 x2, .int .i64 x3], .bool y] := ⟨_, _, _, _, rfl⟩
  rw [hv]
  have HF : Hid (∀ W, Calls Try.prog 17 #[.agg (styCells s).toArray, .int .i64 view] W (AnsB (.tuple #[.agg #[.int .i64 x1, .int .i64 x2, .int .i64 x3], .bool y]) W)) := Lib.hid (fun W => by rw [← hv]; exact pflow_any s view W hs hc)
  clear hv hse hr hs hnd0
  obtain ⟨n, hn⟩ : ∃ n, n = l.length := ⟨_, rfl⟩
  rw [← hn] at hl hln ⊢
  clear hn
  have q0 : ((n : Int) == 0) = false := beq_eq_false_iff_ne.2 (by omega)
  have q1 : (0 : Int) < (n : Int) := by omega
  go_enter Try.func8, Try.ntmps8
  go_upto_region 1 with (fail)
  obtain ⟨gT, hgT⟩ : ∃ gT, gT = w.heap.size := ⟨_, rfl⟩
  obtain ⟨gu, hgu⟩ : ∃ gu, gu = w.heap.size + 1 := ⟨_, rfl⟩
  have HR1 : Hid (Blk ((w.alloc (.cells #[.slice (some ad) n c, .slice A2 m c2, .int .i64 view] 25)).alloc (.cells #[.int .i64 0, .int .i64 0, .int .i64 0] 27)) gT 25 #[.slice (some ad) n c, .slice A2 m c2, .int .i64 view] ∧ RuI gu 0 0 0 w ((w.alloc (.cells #[.slice (some ad) n c, .slice A2 m c2, .int .i64 view] 25)).alloc (.cells #[.int .i64 0, .int .i64 0, .int .i64 0] 27))) := Lib.hid
    ⟨(Blk.at_ _ _ _ hgT).alloc _, Blk.at_ _ _ _ (by rw [hgu]; simp), balW (balW (Below.refl _ _) _) _, by omega⟩
  obtain ⟨w1, hw1⟩ : ∃ w1, w1 = ((w.alloc (.cells #[.slice (some ad) n c, .slice A2 m c2, .int .i64 view] 25)).alloc (.cells #[.int .i64 0, .int .i64 0, .int .i64 0] 27)) := ⟨_, rfl⟩
  rw [← hw1] at HR1 ⊢
  have HNE : Hid (gT ≠ gu) := Lib.hid (by omega)
  first | rw [← hgu] | skip
  rw [← hgT]
  try rw [show gT + 1 = gu by omega]
  clear hw1 hgu hgT
  have y0 := HR1.out.1.get 0 rfl
  go_upto_region 3 with (fail)
  clear y0
  have E0 : RuI gu 0 0 0 w w1.drew ∧ Blk w1.drew gT 25 #[.slice (some ad) n c, .slice A2 m c2, .int .i64 view] := ⟨HR1.out.2.bel (Below.refl _ _).drew, HR1.out.1.below (Below.refl _ _).drew HR1.out.1.lt⟩
  refine wp_region_S (fun b _ _ W => (if b then RuI gu x1 x2 x3 w W else RuI gu 0 0 0 w W) ∧ Blk W gT 25 #[.slice (some ad) n c, .slice A2 m c2, .int .i64 view]) 10 1000 100000 false true (by kernel_rfl) (by kernel_rfl) (by kernel_rfl) (E0) ?_
  refine wpAnyS_pre (j := 0) (by kernel_rfl) ?_
  iterate 4
    refine wpAnyS_nx (v := ?_) rfl (by kernel_rfl) (by kernel_rfl) (by kernel_rfl) (fun _ _ _ h => h) (by rfl) (gives_pureF (by rfl) (by kernel_rfl) ?_) ?_
    rotate_left
    · intro d' u' W' hS'
      have q := (show RuI gu 0 0 0 w W' ∧ Blk W' gT 25 #[.slice (some ad) n c, .slice A2 m c2, .int .i64 view] from hS')
      have y0 := q.2.get 0 rfl
      have y2 := q.2.get 2 rfl
      go_simp
      rfl
    try simp only [Act.put, List.setIfInBounds_toArray, List.set_cons_zero, List.set_cons_succ, List.getElem_toArray, List.getElem_cons_zero, List.getElem_cons_succ]
  refine wpAnyS_take (i := 4) (v := .agg (styCells s).toArray) rfl (by kernel_rfl) (by kernel_rfl) (by kernel_rfl) (fun _ _ _ h => h) (by rfl) (gives_yields ?_) ?_
  · refine yieldsIf_load_at (by rfl) 52 (.tmp 12) rfl (⟨ad.block, ad.off + 1, none⟩) rfl (styCells s) _ ?_ Try.underlying52 rfl (by kernel_rfl)
    rintro W' ⟨b', d', u', hS'⟩
    exact HLD.out W' (by cases b' <;> exact hS'.1.b)
  try simp only [Act.put, List.setIfInBounds_toArray, List.set_cons_zero, List.set_cons_succ, List.getElem_toArray, List.getElem_cons_zero, List.getElem_cons_succ]
  refine wpAnyS_pre (j := 5) (by kernel_rfl) ?_
  iterate 2
    refine wpAnyS_nx (v := ?_) rfl (by kernel_rfl) (by kernel_rfl) (by kernel_rfl) (fun _ _ _ h => h) (by rfl) (gives_pureF (by rfl) (by kernel_rfl) ?_) ?_
    rotate_left
    · intro d' u' W' hS'
      have q := (show RuI gu 0 0 0 w W' ∧ Blk W' gT 25 #[.slice (some ad) n c, .slice A2 m c2, .int .i64 view] from hS')
      have y0 := q.2.get 0 rfl
      have y2 := q.2.get 2 rfl
      go_simp
      rfl
    try simp only [Act.put, List.setIfInBounds_toArray, List.set_cons_zero, List.set_cons_succ, List.getElem_toArray, List.getElem_cons_zero, List.getElem_cons_succ]
  refine wpAnyS_take (i := 7) (v := .tuple #[.agg #[.int .i64 x1, .int .i64 x2, .int .i64 x3], .bool y]) rfl (by kernel_rfl) (by kernel_rfl) (by kernel_rfl) (fun _ _ _ h => h) (by rfl) (gives_callF (by rfl) (by kernel_rfl) _ _ ?_ (fun d' u' W' hS' => (HF.out W').mono (fun _ _ h => ⟨h.1, (show RuI gu 0 0 0 w W' ∧ Blk W' gT 25 #[.slice (some ad) n c, .slice A2 m c2, .int .i64 view] from hS').1.bel h.2, (show RuI gu 0 0 0 w W' ∧ Blk W' gT 25 #[.slice (some ad) n c, .slice A2 m c2, .int .i64 view] from hS').2.below h.2 (show RuI gu 0 0 0 w W' ∧ Blk W' gT 25 #[.slice (some ad) n c, .slice A2 m c2, .int .i64 view] from hS').2.lt⟩))) ?_
  · intro W'
    first | rfl | kernel_rfl
  try simp only [Act.put, List.setIfInBounds_toArray, List.set_cons_zero, List.set_cons_succ, List.getElem_toArray, List.getElem_cons_zero, List.getElem_cons_succ]
  refine wpAnyS_pre (j := 8) (by kernel_rfl) ?_
  iterate 2
    refine wpAnyS_nx (v := ?_) rfl (by kernel_rfl) (by kernel_rfl) (by kernel_rfl) (fun _ _ _ h => h) (by rfl) (gives_pureF (by rfl) (by kernel_rfl) ?_) ?_
    rotate_left
    · intro d' u' W' hS'
      have q := (show RuI gu 0 0 0 w W' ∧ Blk W' gT 25 #[.slice (some ad) n c, .slice A2 m c2, .int .i64 view] from hS')
      have y0 := q.2.get 0 rfl
      have y2 := q.2.get 2 rfl
      go_simp
      rfl
    try simp only [Act.put, List.setIfInBounds_toArray, List.set_cons_zero, List.set_cons_succ, List.getElem_toArray, List.getElem_cons_zero, List.getElem_cons_succ]
  refine wpAnyS_store (i := 10) (d := true) (fun W' => (((W'.setCell ⟨gu, 0, none⟩ (.int .i64 x1)).setCell ⟨gu, 1, none⟩ (.int .i64 x2)).setCell ⟨gu, 2, none⟩ (.int .i64 x3))) rfl (by kernel_rfl) (by rfl) (by rfl) (by kernel_rfl) rfl ?_ (fun W' hS' => ⟨(show RuI gu 0 0 0 w W' ∧ Blk W' gT 25 #[.slice (some ad) n c, .slice A2 m c2, .int .i64 view] from hS').1.fin x1 x2 x3, ((hS'.2.far HNE.out _).far HNE.out _).far HNE.out _⟩) ?_
  · intro W' hS'
    have q := (show RuI gu 0 0 0 w W' ∧ Blk W' gT 25 #[.slice (some ad) n c, .slice A2 m c2, .int .i64 view] from hS')
    have y0 := q.2.get 0 rfl
    have y2 := q.2.get 2 rfl
    have z0 := q.1.us.get 0 rfl
    have z1 := q.1.us.get 1 rfl
    have z2 := q.1.us.get 2 rfl
    have f0 := q.1.us.frozen 0
    have f1 := q.1.us.frozen 1
    have f2 := q.1.us.frozen 2
    go_simp
    try rfl
  try simp only [Act.put, List.setIfInBounds_toArray, List.set_cons_zero, List.set_cons_succ, List.getElem_toArray, List.getElem_cons_zero, List.getElem_cons_succ]
  refine wpAnyS_take (i := 11) (v := ?_) rfl (by kernel_rfl) (by kernel_rfl) (by kernel_rfl) (fun _ _ _ h => h) (by rfl) (gives_pure (by rfl) ?_) ?_
  rotate_left
  · intro b' d' u' W' hS'
    go_simp
    rfl
  try simp only [Act.put, List.setIfInBounds_toArray, List.set_cons_zero, List.set_cons_succ, List.getElem_toArray, List.getElem_cons_zero, List.getElem_cons_succ]
  refine wpAnyS_done (b := true) (d := true) (by kernel_rfl) (by kernel_rfl) (by kernel_rfl) rfl (fun wS hS => ?_) _
  have HS := Lib.hid hS
  clear hS E0
  go_wp2_with fail
  exact bodyPost_ret (res_used rfl _ _ gu x1 x2 x3 _ rfl rfl (show RuI gu x1 x2 x3 w wS from HS.out.1).us) rfl ⟨rfl, (show RuI gu x1 x2 x3 w wS from HS.out.1).b⟩
theorem Reads.of_blkC {w : World} {g n : Nat} {t : TypeId} {xs : List Value} {size : Nat} (h : Blk w g t xs.toArray) (hl : xs.length = n * size) : Reads w w.heap.size size (some ⟨g, 0, none⟩) n xs :=
  ⟨hl, fun _ => ⟨_, rfl, h.lt, fun j u hu => by
    have ha : (⟨g, 0, none⟩ : Addr).add j = ⟨g, j, none⟩ := by unfold Addr.add; split <;> simp_all
    rw [ha]; exact h.get j (by rw [List.getElem?_toArray]; exact hu)⟩⟩
def sty21 : Sty := { styK 1 0 with m3 := ⟨1, 10⟩ }
def nd21 : List Nd := [⟨-1, styK 1 0⟩, ⟨0, styK 1 0⟩, ⟨1, styK 1 1⟩, ⟨1, sty21⟩]
def got21 : List Cn := [⟨30, 400, 0, 0⟩, ⟨0, 0, 0, 0⟩]
theorem lnM0 : LnM ln0 := ⟨by decide, fun h => by cases h⟩
theorem styK_w (k f : Int) : StW (styK k f) := by
  have h0 : (0 : Int) ≤ 0 ∧ (0 : Int) ≤ 1099511627776 := by decide
  have h1 : (-1099511627776 : Int) ≤ 0 ∧ (0 : Int) ≤ 1099511627776 := by decide
  exact ⟨lnM0, lnM0, lnM0, lnM0, lnM0, ⟨h0, h0, h0, h1, h1, h0, h0, h0, h0⟩⟩
theorem sty21_w : StW sty21 := ⟨lnM0, ⟨by decide, fun h => by cases h⟩, lnM0, lnM0, lnM0, ⟨by decide, by decide, by decide, by decide, by decide, by decide, by decide, by decide, by decide⟩⟩
theorem tri21 : (triC (fun k => kidU (sD nd21 (ksAt [2, 3] k)) 100 (gAt got21 k)) 2).toArray = #[.int .i64 100, .int .i64 0, .int .i64 0, .int .i64 90, .int .i64 10, .int .i64 0] := by
  have a : kidU (sD nd21 (ksAt [2, 3] 0)) 100 (gAt got21 0) = (100, 0, 0) := by decide +kernel
  have b : kidU (sD nd21 (ksAt [2, 3] 1)) 100 (gAt got21 1) = (90, 10, 0) := by decide +kernel
  rw [show (2 : Nat) = 0 + 1 + 1 from rfl, triC_succ, triC_succ]
  simp [triC, a, b]
theorem first21 : usedV (flowN (styK 1 0) 1000) = .tuple #[.agg #[.int .i64 1000, .int .i64 0, .int .i64 0], .bool false] := by
  have a : usedN (flowN (styK 1 0) 1000) = (1000, 0, 0) := by decide +kernel
  have b : overN (flowN (styK 1 0) 1000) = false := by decide +kernel
  unfold usedN at a
  injection a with a1 a2
  injection a2 with a2 a3
  unfold usedV
  rw [a1, a2, a3, b]
set_option maxRecDepth 100000 in
set_option maxHeartbeats 4000000 in
theorem works21_any (w : World) : Calls Try.prog 7 #[] w fun e w' => e = .returned (.bool true) ∧ Below w.heap.size w w' := by
  go_enter Try.func7, Try.ntmps7
  go_upto_region 2 with (first
    | refine wpList_build rfl 52 #[(0, .const (.int .u8 1))] rfl (.agg (styCells (styK 1 0)).toArray) (by kernel_rfl) ?_
    | (go_at_call 16; refine (two21_any (styK 1 0) 1 _ rfl).mono ?_; rintro e w1 ⟨⟨g, rfl, hbk, hg⟩, hb1⟩; have H1 := Lib.hid (And.intro hbk (And.intro hg (show Below w.heap.size w w1 from hb1))); clear hbk hg hb1))
  obtain ⟨gt, hgt⟩ : ∃ gt, gt = w1.heap.size := ⟨_, rfl⟩
  have H2 : Hid (Blk (w1.alloc (.cells #[.slice (some ⟨g, 0, none⟩) 4 4, .slice none 0 0, .int .i64 1000] 25)) g 54 (ndsCells (twoF (styK 1 0) 1)).toArray ∧ Blk (w1.alloc (.cells #[.slice (some ⟨g, 0, none⟩) 4 4, .slice none 0 0, .int .i64 1000] 25)) gt 25 #[.slice (some ⟨g, 0, none⟩) 4 4, .slice none 0 0, .int .i64 1000] ∧ Below w.heap.size w (w1.alloc (.cells #[.slice (some ⟨g, 0, none⟩) 4 4, .slice none 0 0, .int .i64 1000] 25)) ∧ w.heap.size ≤ g ∧ gt ≠ g) := Lib.hid
    ⟨H1.out.1.alloc _, Blk.at_ _ _ _ hgt, balW H1.out.2.2 _, H1.out.2.1, by have := H1.out.1.lt; omega⟩
  obtain ⟨w2, hw2⟩ : ∃ w2, w2 = (w1.alloc (.cells #[.slice (some ⟨g, 0, none⟩) 4 4, .slice none 0 0, .int .i64 1000] 25)) := ⟨_, rfl⟩
  rw [← hw2] at H2 ⊢
  rw [← hgt]
  clear hw2 hgt H1
  have c0 := H2.out.2.1.get 0 rfl
  have x135 : w2.cell? ⟨g, 135, none⟩ = some (.int .u8 1) := H2.out.1.get 135 rfl
  have f135 := H2.out.1.frozen 135
  go_upto_region 3 with (fail)
  clear c0 x135 f135
  have H3 : Hid (Blk (w2.setCell ⟨g, 135, none⟩ (.int .u8 0)) g 54 ((ndsCells (twoF (styK 1 0) 1)).toArray.setIfInBounds 135 (.int .u8 0)) ∧ Blk (w2.setCell ⟨g, 135, none⟩ (.int .u8 0)) gt 25 #[.slice (some ⟨g, 0, none⟩) 4 4, .slice none 0 0, .int .i64 1000] ∧ Below w.heap.size w (w2.setCell ⟨g, 135, none⟩ (.int .u8 0))) := Lib.hid
    ⟨H2.out.1.set_ 135 _, H2.out.2.1.far H2.out.2.2.2.2 _, H2.out.2.2.1.setCell (p := ⟨g, 135, none⟩) H2.out.2.2.2.1 _⟩
  obtain ⟨w3, hw3⟩ : ∃ w3, w3 = w2.setCell ⟨g, 135, none⟩ (.int .u8 0) := ⟨_, rfl⟩
  rw [← hw3] at H3 ⊢
  clear hw3
  have c0 := H3.out.2.1.get 0 rfl
  have x155 : w3.cell? ⟨g, 155, none⟩ = some (.int .u8 0) := H3.out.1.get 155 rfl
  have x156 : w3.cell? ⟨g, 156, none⟩ = some (.int .i64 0) := H3.out.1.get 156 rfl
  have f155 := H3.out.1.frozen 155
  have f156 := H3.out.1.frozen 156
  go_upto_region 4 with (fail)
  clear c0 x155 f155 x156 f156
  have H4 : Hid (Blk ((w3.setCell ⟨g, 155, none⟩ (.int .u8 1)).setCell ⟨g, 156, none⟩ (.int .i64 10)) g 54 (ndsCells nd21).toArray ∧ Blk ((w3.setCell ⟨g, 155, none⟩ (.int .u8 1)).setCell ⟨g, 156, none⟩ (.int .i64 10)) gt 25 #[.slice (some ⟨g, 0, none⟩) 4 4, .slice none 0 0, .int .i64 1000] ∧ Below w.heap.size w ((w3.setCell ⟨g, 155, none⟩ (.int .u8 1)).setCell ⟨g, 156, none⟩ (.int .i64 10))) := Lib.hid
    ⟨(H3.out.1.set_ 155 (.int .u8 1)).set_ 156 (.int .i64 10), (H3.out.2.1.far H2.out.2.2.2.2 _).far H2.out.2.2.2.2 _, (H3.out.2.2.setCell (p := ⟨g, 155, none⟩) H2.out.2.2.2.1 _).setCell (p := ⟨g, 156, none⟩) H2.out.2.2.2.1 _⟩
  obtain ⟨w4, hw4⟩ : ∃ w4, w4 = (w3.setCell ⟨g, 155, none⟩ (.int .u8 1)).setCell ⟨g, 156, none⟩ (.int .i64 10) := ⟨_, rfl⟩
  rw [← hw4] at H4 ⊢
  clear hw4 H2 H3
  have HRD : Hid (∀ W, Below w4.heap.size w4 W → Reads W W.heap.size 44 (some ⟨g, 0, none⟩) 4 (ndsCells nd21)) := Lib.hid (fun W h => Reads.of_blkC (H4.out.1.below h H4.out.1.lt) rfl)
  have HKI : Hid (∀ W gk gx, Below w4.heap.size w4 W → Blk W gk 3 #[.int .i64 2, .int .i64 3] → Blk W gx 45 #[.int .i64 30, .int .i64 400, .int .i64 0, .int .i64 0, .int .i64 0, .int .i64 0, .int .i64 0, .int .i64 0] →
      Calls Try.prog 11 #[.agg #[.slice (some ⟨g, 0, none⟩) 4 4, .slice none 0 0, .int .i64 1000], .int .i64 1, .agg #[.int .i64 100, .int .i64 0, .int .i64 0], .slice (some ⟨gk, 0, none⟩) 2 2, .slice (some ⟨gx, 0, none⟩) 2 2] W fun e w' =>
        (∃ gu gb, e = .returned (.tuple #[.slice (some ⟨gu, 0, none⟩) 2 2, .slice (some ⟨gb, 0, none⟩) 2 2]) ∧ Blk w' gu 27 #[.int .i64 100, .int .i64 0, .int .i64 0, .int .i64 90, .int .i64 10, .int .i64 0]) ∧ Below W.heap.size W w') := Lib.hid (fun W gk gx h hgk hgx => by
    refine (akids_any nd21 1 (by decide) (by decide) (some ⟨g, 0, none⟩) none (some ⟨gk, 0, none⟩) (some ⟨gx, 0, none⟩) 4 0 0 2 2 1000 100 0 0 [2, 3] got21 W (HRD.out W h) ?_ 1 (by decide) rfl (Reads.of_blkC hgk rfl) (by decide) (by decide) (Reads.of_blkC hgx rfl) ⟨by decide⟩ ?_ ?_).mono fun e w' hh => ?_
    · intro x hx
      simp only [nd21, List.mem_cons, List.not_mem_nil, or_false] at hx
      rcases hx with rfl | rfl | rfl | rfl <;> exact ⟨none, 0, 0, rfl⟩
    · intro k hk _
      simp only [List.mem_cons, List.not_mem_nil, or_false] at hk
      rcases hk with rfl | rfl
      · exact styK_w 1 1
      · exact sty21_w
    · intro x hx
      simp only [got21, List.mem_cons, List.not_mem_nil, or_false] at hx
      rcases hx with rfl | rfl <;> decide
    · obtain ⟨⟨gu, gb, he, hu, hb, _, _⟩, hbb⟩ := hh
      refine ⟨⟨gu, gb, he, ?_⟩, hbb⟩
      have e2 : (triC (fun k => kidU (sD nd21 (ksAt [2, 3] k)) 100 (gAt got21 k)) [(2 : Int), 3].length).toArray = _ := tri21
      rw [e2] at hu
      exact hu)
  have HFI : Hid (∀ W, Below w4.heap.size w4 W → Calls Try.prog 8 #[.agg #[.slice (some ⟨g, 0, none⟩) 4 4, .slice none 0 0, .int .i64 1000]] W (AnsB (.tuple #[.agg #[.int .i64 1000, .int .i64 0, .int .i64 0], .bool false]) W)) := Lib.hid (fun W h => by
    have h1 := afirst_any nd21 (by decide) (by decide) (some ⟨g, 0, none⟩) none 4 0 0 1000 W (HRD.out W h) (styK_w 1 0) ⟨by decide⟩
    have h2 : usedV (flowN nd21[0].s 1000) = _ := first21
    rw [h2] at h1
    exact h1)
  have c0 := H4.out.2.1.get 0 rfl
  have c1 := H4.out.2.1.get 1 rfl
  have c2 := H4.out.2.1.get 2 rfl
  go_upto_region 5 with (go_at_call 11; refine (HKI.out _ w4.heap.size (w4.heap.size + 1) (balW (balW (Below.refl _ _) _) _) ((Blk.new _ _ _).alloc _) (Blk.at_ _ _ _ (by simp))).mono ?_; rintro e w6 ⟨⟨gu, gb, rfl, hu⟩, hb⟩; have H6 := Lib.hid (And.intro hu (show Below w4.heap.size w4 w6 from (balW (balW (Below.refl _ _) _) _).trans (hb.mono (balW (balW (Below.refl _ _) _) _).size))); clear hu hb)
  clear c0 c1 c2
  have H7 : Hid (Blk w6 gt 25 #[.slice (some ⟨g, 0, none⟩) 4 4, .slice none 0 0, .int .i64 1000]) := Lib.hid (H4.out.2.1.below H6.out.2 H4.out.2.1.lt)
  have c0 := H7.out.get 0 rfl
  have c1 := H7.out.get 1 rfl
  have c2 := H7.out.get 2 rfl
  go_upto_region 6 with (go_at_call 8; refine (HFI.out _ H6.out.2).mono ?_; rintro e w8 ⟨rfl, hb⟩; have H8 := Lib.hid (And.intro (H6.out.1.below hb H6.out.1.lt) (H6.out.2.trans (hb.mono H6.out.2.size))); clear hb)
  clear c0 c1 c2
  have u0 := H8.out.1.get 0 rfl
  have u3 := H8.out.1.get 3 rfl
  have u4 := H8.out.1.get 4 rfl
  have hul := H8.out.1.lt
  go_wp2_with fail
  go_ret
  exact ⟨rfl, balW (H4.out.2.2.trans (H8.out.2.mono H4.out.2.2.size)) _⟩
end Go.Proofs.Ytbopeofglhkffaa
