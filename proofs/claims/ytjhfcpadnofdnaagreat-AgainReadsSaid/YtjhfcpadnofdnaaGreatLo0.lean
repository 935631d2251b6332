/- A loop that is left in its first round. -/
import Derived.Test.YtjhfcpadnofdnaaGreatAsb
import Derived.Test.YtjhfcpadnofdnaaGreatBld
import Derived.Test.YtjhfcpadnofdnaaGreatTrf
import Derived.Laws.StructEq
import Derived.Test.YtjhfcpadnofdnaaGreatWq
import Derived.Test.YtjhfcpadnofdnaaGreatApp
set_option linter.unusedSimpArgs false
set_option linter.unusedVariables false
namespace Go.Proofs.YtjhfcpadnofdnaaGreat
open Go.RowKit
attribute [local go_sem] block_of_add
def ln0 : Ln := ⟨0, 0⟩
/-- A style of a kind and a float alone. -/
def styK (k f : Int) : Sty := ⟨k, false, f, 0, ln0, ln0, ln0, ln0, ln0, ln0, ln0, ln0, ln0, ln0, 0, 0, 0, 0, 0, 0, 0, 0, 0, 0, false, 0, 0, 0, 0, 0, ln0, [], .slice none 0 0⟩
set_option maxRecDepth 100000 in
set_option maxHeartbeats 2000000 in
theorem afirst_any (l : List Nd) (hl : 0 < l.length) (hln : l.length ≤ 65536) (A A2 : Option Addr) (c m c2 : Nat) (view : Int) (w : World) (hr : Reads w w.heap.size 44 A l.length (ndsCells l)) (hs : StW l[0].s) (hc : CB view) :
    Calls Tryz.prog 99 #[.agg #[.slice A l.length c, .slice A2 m c2, .int .i64 view]] w (AnsB (usedV (flowN l[0].s view)) w) := by
  obtain ⟨s, hse⟩ : ∃ s, s = l[0].s := ⟨_, rfl⟩
  rw [← hse] at hs ⊢
  obtain ⟨ad, rfl, hnd0⟩ := hr.nd rfl hl
  have HLD : Hid (∀ W, Below w.heap.size w W → ∀ q v, (styCells s)[q]? = some v → W.cell? ((⟨ad.block, ad.off + 1, none⟩ : Addr).add q) = some v) := Lib.hid (fun W h q v hv => by
    obtain ⟨ad2, e, hnd⟩ := (hr.below h).nd rfl hl
    injection e with e
    subst e
    have hx := hnd.cs q v (by rw [← hse]; exact hv)
    rw [block_of_add] at hx
    have ha : (⟨ad.block, ad.off + 1, none⟩ : Addr).add q = ⟨ad.block, (ad.add (0 * 44)).off + (1 + q), none⟩ := by
      have e0 : (ad.add (0 * 44)).off = ad.off := by simp [Addr.add]
      rw [e0]
      unfold Addr.add
      split
      · simp_all
      · simp; omega
    rw [ha]; exact hx)
  obtain ⟨x1, x2, x3, y, hv⟩ : ∃ x1 x2 x3 y, usedV (flowN s view) = .tuple #[.agg #[.int .i64 x1, .int .i64 x2, .int .i64 x3], .bool y] := ⟨_, _, _, _, rfl⟩
  rw [hv]
  have HF : Hid (∀ W, Calls Tryz.prog 168 #[.agg (styCells s).toArray, .int .i64 view] W (AnsB (.tuple #[.agg #[.int .i64 x1, .int .i64 x2, .int .i64 x3], .bool y]) W)) := Lib.hid (fun W => by rw [← hv]; exact pflow_any s view W hs hc)
  clear hv hse hr hs hnd0
  obtain ⟨n, hn⟩ : ∃ n, n = l.length := ⟨_, rfl⟩
  rw [← hn] at hl hln ⊢
  clear hn
  have q0 : ((n : Int) == 0) = false := beq_eq_false_iff_ne.2 (by omega)
  have q1 : (0 : Int) < (n : Int) := by omega
  go_enter Tryz.func99, Tryz.ntmps99
  go_upto_region 1 with (fail)
  obtain ⟨gT, hgT⟩ : ∃ gT, gT = w.heap.size := ⟨_, rfl⟩
  obtain ⟨gu, hgu⟩ : ∃ gu, gu = w.heap.size + 1 := ⟨_, rfl⟩
  have HR1 : Hid (Blk ((w.alloc (.cells #[.slice (some ad) n c, .slice A2 m c2, .int .i64 view] 25)).alloc (.cells #[.int .i64 0, .int .i64 0, .int .i64 0] 40)) gT 25 #[.slice (some ad) n c, .slice A2 m c2, .int .i64 view] ∧ RuI gu 0 0 0 w ((w.alloc (.cells #[.slice (some ad) n c, .slice A2 m c2, .int .i64 view] 25)).alloc (.cells #[.int .i64 0, .int .i64 0, .int .i64 0] 40))) := Lib.hid
    ⟨(Blk.at_ _ _ _ hgT).alloc _, Blk.at_ _ _ _ (by rw [hgu]; simp), balW (balW (Below.refl _ _) _) _, by omega⟩
  obtain ⟨w1, hw1⟩ : ∃ w1, w1 = ((w.alloc (.cells #[.slice (some ad) n c, .slice A2 m c2, .int .i64 view] 25)).alloc (.cells #[.int .i64 0, .int .i64 0, .int .i64 0] 40)) := ⟨_, rfl⟩
  rw [← hw1] at HR1 ⊢
  have HNE : Hid (gT ≠ gu) := Lib.hid (by omega)
  first | rw [← hgu] | skip
  rw [← hgT]
  try rw [show gT + 1 = gu by omega]
  clear hw1 hgu hgT
  have y0 := HR1.out.1.get 0 rfl
  go_upto_region 3 with (fail)
  clear y0
  have E0 : RuI gu 0 0 0 w w1.drew ∧ Blk w1.drew gT 25 #[.slice (some ad) n c, .slice A2 m c2, .int .i64 view] := ⟨HR1.out.2.bel (Below.refl _ _).drew, HR1.out.1.below (Below.refl _ _).drew HR1.out.1.lt⟩
  refine wp_region_S (fun b _ _ W => (if b then RuI gu x1 x2 x3 w W else RuI gu 0 0 0 w W) ∧ Blk W gT 25 #[.slice (some ad) n c, .slice A2 m c2, .int .i64 view]) 10 1000 100000 false true (by kernel_rfl) (by kernel_rfl) (by kernel_rfl) (E0) ?_
  refine wpAnyS_pre (j := 0) (by kernel_rfl) ?_
  iterate 4
    refine wpAnyS_nx (v := ?_) rfl (by kernel_rfl) (by kernel_rfl) (by kernel_rfl) (fun _ _ _ h => h) (by rfl) (gives_pureF (by rfl) (by kernel_rfl) ?_) ?_
    rotate_left
    · intro d' u' W' hS'
      have q := (show RuI gu 0 0 0 w W' ∧ Blk W' gT 25 #[.slice (some ad) n c, .slice A2 m c2, .int .i64 view] from hS')
      have y0 := q.2.get 0 rfl
      have y2 := q.2.get 2 rfl
      go_simp
      rfl
    try simp only [Act.put, List.setIfInBounds_toArray, List.set_cons_zero, List.set_cons_succ, List.getElem_toArray, List.getElem_cons_zero, List.getElem_cons_succ]
  refine wpAnyS_take (i := 4) (v := .agg (styCells s).toArray) rfl (by kernel_rfl) (by kernel_rfl) (by kernel_rfl) (fun _ _ _ h => h) (by rfl) (gives_yields ?_) ?_
  · refine yieldsIf_load_at (by rfl) 67 (.tmp 12) rfl (⟨ad.block, ad.off + 1, none⟩) rfl (styCells s) _ ?_ Tryz.underlying67 rfl (by kernel_rfl)
    rintro W' ⟨b', d', u', hS'⟩
    exact HLD.out W' (by cases b' <;> exact hS'.1.b)
  try simp only [Act.put, List.setIfInBounds_toArray, List.set_cons_zero, List.set_cons_succ, List.getElem_toArray, List.getElem_cons_zero, List.getElem_cons_succ]
  refine wpAnyS_pre (j := 5) (by kernel_rfl) ?_
  iterate 2
    refine wpAnyS_nx (v := ?_) rfl (by kernel_rfl) (by kernel_rfl) (by kernel_rfl) (fun _ _ _ h => h) (by rfl) (gives_pureF (by rfl) (by kernel_rfl) ?_) ?_
    rotate_left
    · intro d' u' W' hS'
      have q := (show RuI gu 0 0 0 w W' ∧ Blk W' gT 25 #[.slice (some ad) n c, .slice A2 m c2, .int .i64 view] from hS')
      have y0 := q.2.get 0 rfl
      have y2 := q.2.get 2 rfl
      go_simp
      rfl
    try simp only [Act.put, List.setIfInBounds_toArray, List.set_cons_zero, List.set_cons_succ, List.getElem_toArray, List.getElem_cons_zero, List.getElem_cons_succ]
  refine wpAnyS_take (i := 7) (v := .tuple #[.agg #[.int .i64 x1, .int .i64 x2, .int .i64 x3], .bool y]) rfl (by kernel_rfl) (by kernel_rfl) (by kernel_rfl) (fun _ _ _ h => h) (by rfl) (gives_callF (by rfl) (by kernel_rfl) _ _ ?_ (fun d' u' W' hS' => (HF.out W').mono (fun _ _ h => ⟨h.1, (show RuI gu 0 0 0 w W' ∧ Blk W' gT 25 #[.slice (some ad) n c, .slice A2 m c2, .int .i64 view] from hS').1.bel h.2, (show RuI gu 0 0 0 w W' ∧ Blk W' gT 25 #[.slice (some ad) n c, .slice A2 m c2, .int .i64 view] from hS').2.below h.2 (show RuI gu 0 0 0 w W' ∧ Blk W' gT 25 #[.slice (some ad) n c, .slice A2 m c2, .int .i64 view] from hS').2.lt⟩))) ?_
  · intro W'
    first | rfl | kernel_rfl
  try simp only [Act.put, List.setIfInBounds_toArray, List.set_cons_zero, List.set_cons_succ, List.getElem_toArray, List.getElem_cons_zero, List.getElem_cons_succ]
  refine wpAnyS_pre (j := 8) (by kernel_rfl) ?_
  iterate 2
    refine wpAnyS_nx (v := ?_) rfl (by kernel_rfl) (by kernel_rfl) (by kernel_rfl) (fun _ _ _ h => h) (by rfl) (gives_pureF (by rfl) (by kernel_rfl) ?_) ?_
    rotate_left
    · intro d' u' W' hS'
      have q := (show RuI gu 0 0 0 w W' ∧ Blk W' gT 25 #[.slice (some ad) n c, .slice A2 m c2, .int .i64 view] from hS')
      have y0 := q.2.get 0 rfl
      have y2 := q.2.get 2 rfl
      go_simp
      rfl
    try simp only [Act.put, List.setIfInBounds_toArray, List.set_cons_zero, List.set_cons_succ, List.getElem_toArray, List.getElem_cons_zero, List.getElem_cons_succ]
  refine wpAnyS_store (i := 10) (d := true) (fun W' => (((W'.setCell ⟨gu, 0, none⟩ (.int .i64 x1)).setCell ⟨gu, 1, none⟩ (.int .i64 x2)).setCell ⟨gu, 2, none⟩ (.int .i64 x3))) rfl (by kernel_rfl) (by rfl) (by rfl) (by kernel_rfl) rfl ?_ (fun W' hS' => ⟨(show RuI gu 0 0 0 w W' ∧ Blk W' gT 25 #[.slice (some ad) n c, .slice A2 m c2, .int .i64 view] from hS').1.fin x1 x2 x3, ((hS'.2.far HNE.out _).far HNE.out _).far HNE.out _⟩) ?_
  · intro W' hS'
    have q := (show RuI gu 0 0 0 w W' ∧ Blk W' gT 25 #[.slice (some ad) n c, .slice A2 m c2, .int .i64 view] from hS')
    have y0 := q.2.get 0 rfl
    have y2 := q.2.get 2 rfl
    have z0 := q.1.us.get 0 rfl
    have z1 := q.1.us.get 1 rfl
    have z2 := q.1.us.get 2 rfl
    have f0 := q.1.us.frozen 0
    have f1 := q.1.us.frozen 1
    have f2 := q.1.us.frozen 2
    go_simp
    try rfl
  try simp only [Act.put, List.setIfInBounds_toArray, List.set_cons_zero, List.set_cons_succ, List.getElem_toArray, List.getElem_cons_zero, List.getElem_cons_succ]
  refine wpAnyS_take (i := 11) (v := ?_) rfl (by kernel_rfl) (by kernel_rfl) (by kernel_rfl) (fun _ _ _ h => h) (by rfl) (gives_pure (by rfl) ?_) ?_
  rotate_left
  · intro b' d' u' W' hS'
    go_simp
    rfl
  try simp only [Act.put, List.setIfInBounds_toArray, List.set_cons_zero, List.set_cons_succ, List.getElem_toArray, List.getElem_cons_zero, List.getElem_cons_succ]
  refine wpAnyS_done (b := true) (d := true) (by kernel_rfl) (by kernel_rfl) (by kernel_rfl) rfl (fun wS hS => ?_) _
  have HS := Lib.hid hS
  clear hS E0
  go_wp2_with fail
  exact bodyPost_ret (res_used rfl _ _ gu x1 x2 x3 _ rfl rfl (show RuI gu x1 x2 x3 w wS from HS.out.1).us) rfl ⟨rfl, (show RuI gu x1 x2 x3 w wS from HS.out.1).b⟩
theorem Reads.of_blkC {w : World} {g n : Nat} {t : TypeId} {xs : List Value} {size : Nat} (h : Blk w g t xs.toArray) (hl : xs.length = n * size) : Reads w w.heap.size size (some ⟨g, 0, none⟩) n xs :=
  ⟨hl, fun _ => ⟨_, rfl, h.lt, fun j u hu => by
    have ha : (⟨g, 0, none⟩ : Addr).add j = ⟨g, j, none⟩ := by unfold Addr.add; split <;> simp_all
    rw [ha]; exact h.get j (by rw [List.getElem?_toArray]; exact hu)⟩⟩
theorem lnM0 : LnM ln0 := ⟨by decide, fun h => by cases h⟩
theorem styK_w (k f : Int) : StW (styK k f) := by
  have h0 : (0 : Int) ≤ 0 ∧ (0 : Int) ≤ 1099511627776 := by decide
  have h1 : (-1099511627776 : Int) ≤ 0 ∧ (0 : Int) ≤ 1099511627776 := by decide
  exact ⟨lnM0, lnM0, lnM0, lnM0, lnM0, ⟨h0, h0, h0, h1, h1, h0, h0, h0, h0⟩⟩
end Go.Proofs.YtjhfcpadnofdnaaGreat
namespace Go.Proofs.YtjhfcpadnofdnaaGreat
open Go.RowKit
/-- A loop that is left in its first round. -/
theorem wp_loop0 {P : Program} {c : Code} {Q : Exit → Act → World → Prop} {a : Act} {w : World} (h : c.wp P (Exit.then (fun _ _ => False) Q) a w) : (Code.loop c).wp P Q a w :=
  wp_loop (fun a' w' => a' = a ∧ w' = w) (fun _ _ => 0) ⟨rfl, rfl⟩ (by
    rintro a' w' ⟨rfl, rfl⟩
    refine wp_mono h ?_
    rintro (_ | _) a2 w2 h2 <;> first | exact h2 | exact h2.elim)
end Go.Proofs.YtjhfcpadnofdnaaGreat
