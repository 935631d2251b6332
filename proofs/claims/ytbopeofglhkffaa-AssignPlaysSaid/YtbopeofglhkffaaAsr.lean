/- The document's answer of chapter 21: First, Kids of a block. -/
import Derived.Test.YtbopeofglhkffaaAsc
import Derived.Test.YtbopeofglhkffaaWfr
import Derived.Test.YtbopeofglhkffaaRmn
import Derived.Test.YtbopeofglhkffaaWs
set_option linter.unusedSimpArgs false
set_option linter.unusedVariables false
namespace Go.Proofs.Ytbopeofglhkffaa
open Go.RowKit
attribute [local go_sem] block_of_add
set_option maxRecDepth 100000 in
set_option maxHeartbeats 2000000 in
theorem rfirst_any (l : List Nd) (hl : 0 < l.length) (hln : l.length ≤ 65536) (A A2 : Option Addr) (c m c2 : Nat) (view : Int) (w : World) (hr : Reads w w.heap.size 44 A l.length (ndsCells l)) (hs : StW l[0].s) (hc : CB view) :
    Calls Try.prog 9 #[.agg #[.slice A l.length c, .slice A2 m c2, .int .i64 view]] w (AnsB (usedV (flowN l[0].s view)) w) := by
  obtain ⟨s, hse⟩ : ∃ s, s = l[0].s := ⟨_, rfl⟩
  rw [← hse] at hs ⊢
  obtain ⟨ad, rfl, hnd0⟩ := hr.nd rfl hl
  have HLD : Hid (∀ W, Below w.heap.size w W → ∀ q v, (styCells s)[q]? = some v → W.cell? ((⟨ad.block, ad.off + 1, none⟩ : Addr).add q) = some v) := Lib.hid (fun W h q v hv => by
    obtain ⟨ad2, e, hnd⟩ := (hr.below h).nd rfl hl
    injection e with e
    subst e
    have hx := hnd.cs q v (by rw [← hse]; exact hv)
    rw [block_of_add] at hx
    have ha : (⟨ad.block, ad.off + 1, none⟩ : Addr).add q = ⟨ad.block, (ad.add (0 * 44)).off + (1 + q), none⟩ := by
      have e0 : (ad.add (0 * 44)).off = ad.off := by simp [Addr.add]
      rw [e0]
      unfold Addr.add
      split
      · simp_all
      · simp; omega
    rw [ha]; exact hx)
  obtain ⟨x1, x2, x3, y, hv⟩ : ∃ x1 x2 x3 y, usedV (flowN s view) = .tuple #[.agg #[.int .i64 x1, .int .i64 x2, .int .i64 x3], .bool y] := ⟨_, _, _, _, rfl⟩
  rw [hv]
  have HF : Hid (∀ W, Calls Try.prog 18 #[.agg (styCells s).toArray, .int .i64 view] W (AnsB (.tuple #[.agg #[.int .i64 x1, .int .i64 x2, .int .i64 x3], .bool y]) W)) := Lib.hid (fun W => by rw [← hv]; exact rflow_any s view W hs hc)
  clear hv hse hr hs hnd0
  obtain ⟨n, hn⟩ : ∃ n, n = l.length := ⟨_, rfl⟩
  rw [← hn] at hl hln ⊢
  clear hn
  have q0 : ((n : Int) == 0) = false := beq_eq_false_iff_ne.2 (by omega)
  have q1 : (0 : Int) < (n : Int) := by omega
  go_enter Try.func9, Try.ntmps9
  go_upto_region 1 with (fail)
  obtain ⟨gT, hgT⟩ : ∃ gT, gT = w.heap.size := ⟨_, rfl⟩
  obtain ⟨gu, hgu⟩ : ∃ gu, gu = w.heap.size + 1 := ⟨_, rfl⟩
  have HR1 : Hid (Blk ((w.alloc (.cells #[.slice (some ad) n c, .slice A2 m c2, .int .i64 view] 25)).alloc (.cells #[.int .i64 0, .int .i64 0, .int .i64 0] 27)) gT 25 #[.slice (some ad) n c, .slice A2 m c2, .int .i64 view] ∧ RuI gu 0 0 0 w ((w.alloc (.cells #[.slice (some ad) n c, .slice A2 m c2, .int .i64 view] 25)).alloc (.cells #[.int .i64 0, .int .i64 0, .int .i64 0] 27))) := Lib.hid
    ⟨(Blk.at_ _ _ _ hgT).alloc _, Blk.at_ _ _ _ (by rw [hgu]; simp), balW (balW (Below.refl _ _) _) _, by omega⟩
  obtain ⟨w1, hw1⟩ : ∃ w1, w1 = ((w.alloc (.cells #[.slice (some ad) n c, .slice A2 m c2, .int .i64 view] 25)).alloc (.cells #[.int .i64 0, .int .i64 0, .int .i64 0] 27)) := ⟨_, rfl⟩
  rw [← hw1] at HR1 ⊢
  have HNE : Hid (gT ≠ gu) := Lib.hid (by omega)
  first | rw [← hgu] | skip
  rw [← hgT]
  try rw [show gT + 1 = gu by omega]
  clear hw1 hgu hgT
  have E0 : RuI gu 0 0 0 w w1.drew ∧ Blk w1.drew gT 25 #[.slice (some ad) n c, .slice A2 m c2, .int .i64 view] := ⟨HR1.out.2.bel (Below.refl _ _).drew, HR1.out.1.below (Below.refl _ _).drew HR1.out.1.lt⟩
  refine wp_region_S (fun b _ _ W => (if b then RuI gu x1 x2 x3 w W else RuI gu 0 0 0 w W) ∧ Blk W gT 25 #[.slice (some ad) n c, .slice A2 m c2, .int .i64 view]) 10 1000 100000 false true (by kernel_rfl) (by kernel_rfl) (by kernel_rfl) (E0) ?_
  refine wpAnyS_pre (j := 0) (by kernel_rfl) ?_
  iterate 4
    refine wpAnyS_nx (v := ?_) rfl (by kernel_rfl) (by kernel_rfl) (by kernel_rfl) (fun _ _ _ h => h) (by rfl) (gives_pureF (by rfl) (by kernel_rfl) ?_) ?_
    rotate_left
    · intro d' u' W' hS'
      have q := (show RuI gu 0 0 0 w W' ∧ Blk W' gT 25 #[.slice (some ad) n c, .slice A2 m c2, .int .i64 view] from hS')
      have y0 := q.2.get 0 rfl
      have y2 := q.2.get 2 rfl
      go_simp
      rfl
    try simp only [Act.put, List.setIfInBounds_toArray, List.set_cons_zero, List.set_cons_succ, List.getElem_toArray, List.getElem_cons_zero, List.getElem_cons_succ]
  refine wpAnyS_take (i := 4) (v := .agg (styCells s).toArray) rfl (by kernel_rfl) (by kernel_rfl) (by kernel_rfl) (fun _ _ _ h => h) (by rfl) (gives_yields ?_) ?_
  · refine yieldsIf_load_at (by rfl) 52 (.tmp 7) rfl (⟨ad.block, ad.off + 1, none⟩) rfl (styCells s) _ ?_ Try.underlying52 rfl (by kernel_rfl)
    rintro W' ⟨b', d', u', hS'⟩
    exact HLD.out W' (by cases b' <;> exact hS'.1.b)
  try simp only [Act.put, List.setIfInBounds_toArray, List.set_cons_zero, List.set_cons_succ, List.getElem_toArray, List.getElem_cons_zero, List.getElem_cons_succ]
  refine wpAnyS_pre (j := 5) (by kernel_rfl) ?_
  iterate 2
    refine wpAnyS_nx (v := ?_) rfl (by kernel_rfl) (by kernel_rfl) (by kernel_rfl) (fun _ _ _ h => h) (by rfl) (gives_pureF (by rfl) (by kernel_rfl) ?_) ?_
    rotate_left
    · intro d' u' W' hS'
      have q := (show RuI gu 0 0 0 w W' ∧ Blk W' gT 25 #[.slice (some ad) n c, .slice A2 m c2, .int .i64 view] from hS')
      have y0 := q.2.get 0 rfl
      have y2 := q.2.get 2 rfl
      go_simp
      rfl
    try simp only [Act.put, List.setIfInBounds_toArray, List.set_cons_zero, List.set_cons_succ, List.getElem_toArray, List.getElem_cons_zero, List.getElem_cons_succ]
  refine wpAnyS_take (i := 7) (v := .tuple #[.agg #[.int .i64 x1, .int .i64 x2, .int .i64 x3], .bool y]) rfl (by kernel_rfl) (by kernel_rfl) (by kernel_rfl) (fun _ _ _ h => h) (by rfl) (gives_callF (by rfl) (by kernel_rfl) _ _ ?_ (fun d' u' W' hS' => (HF.out W').mono (fun _ _ h => ⟨h.1, (show RuI gu 0 0 0 w W' ∧ Blk W' gT 25 #[.slice (some ad) n c, .slice A2 m c2, .int .i64 view] from hS').1.bel h.2, (show RuI gu 0 0 0 w W' ∧ Blk W' gT 25 #[.slice (some ad) n c, .slice A2 m c2, .int .i64 view] from hS').2.below h.2 (show RuI gu 0 0 0 w W' ∧ Blk W' gT 25 #[.slice (some ad) n c, .slice A2 m c2, .int .i64 view] from hS').2.lt⟩))) ?_
  · intro W'
    first | rfl | kernel_rfl
  try simp only [Act.put, List.setIfInBounds_toArray, List.set_cons_zero, List.set_cons_succ, List.getElem_toArray, List.getElem_cons_zero, List.getElem_cons_succ]
  refine wpAnyS_pre (j := 8) (by kernel_rfl) ?_
  iterate 2
    refine wpAnyS_nx (v := ?_) rfl (by kernel_rfl) (by kernel_rfl) (by kernel_rfl) (fun _ _ _ h => h) (by rfl) (gives_pureF (by rfl) (by kernel_rfl) ?_) ?_
    rotate_left
    · intro d' u' W' hS'
      have q := (show RuI gu 0 0 0 w W' ∧ Blk W' gT 25 #[.slice (some ad) n c, .slice A2 m c2, .int .i64 view] from hS')
      have y0 := q.2.get 0 rfl
      have y2 := q.2.get 2 rfl
      go_simp
      rfl
    try simp only [Act.put, List.setIfInBounds_toArray, List.set_cons_zero, List.set_cons_succ, List.getElem_toArray, List.getElem_cons_zero, List.getElem_cons_succ]
  refine wpAnyS_store (i := 10) (d := true) (fun W' => (((W'.setCell ⟨gu, 0, none⟩ (.int .i64 x1)).setCell ⟨gu, 1, none⟩ (.int .i64 x2)).setCell ⟨gu, 2, none⟩ (.int .i64 x3))) rfl (by kernel_rfl) (by rfl) (by rfl) (by kernel_rfl) rfl ?_ (fun W' hS' => ⟨(show RuI gu 0 0 0 w W' ∧ Blk W' gT 25 #[.slice (some ad) n c, .slice A2 m c2, .int .i64 view] from hS').1.fin x1 x2 x3, ((hS'.2.far HNE.out _).far HNE.out _).far HNE.out _⟩) ?_
  · intro W' hS'
    have q := (show RuI gu 0 0 0 w W' ∧ Blk W' gT 25 #[.slice (some ad) n c, .slice A2 m c2, .int .i64 view] from hS')
    have y0 := q.2.get 0 rfl
    have y2 := q.2.get 2 rfl
    have z0 := q.1.us.get 0 rfl
    have z1 := q.1.us.get 1 rfl
    have z2 := q.1.us.get 2 rfl
    have f0 := q.1.us.frozen 0
    have f1 := q.1.us.frozen 1
    have f2 := q.1.us.frozen 2
    go_simp
    try rfl
  try simp only [Act.put, List.setIfInBounds_toArray, List.set_cons_zero, List.set_cons_succ, List.getElem_toArray, List.getElem_cons_zero, List.getElem_cons_succ]
  refine wpAnyS_take (i := 11) (v := ?_) rfl (by kernel_rfl) (by kernel_rfl) (by kernel_rfl) (fun _ _ _ h => h) (by rfl) (gives_pure (by rfl) ?_) ?_
  rotate_left
  · intro b' d' u' W' hS'
    go_simp
    rfl
  try simp only [Act.put, List.setIfInBounds_toArray, List.set_cons_zero, List.set_cons_succ, List.getElem_toArray, List.getElem_cons_zero, List.getElem_cons_succ]
  refine wpAnyS_done (b := true) (d := true) (by kernel_rfl) (by kernel_rfl) (by kernel_rfl) rfl (fun wS hS => ?_) _
  have HS := Lib.hid hS
  clear hS E0
  go_wp2_with fail
  exact bodyPost_ret (res_used rfl _ _ gu x1 x2 x3 _ rfl rfl (show RuI gu x1 x2 x3 w wS from HS.out.1).us) rfl ⟨rfl, (show RuI gu x1 x2 x3 w wS from HS.out.1).b⟩
theorem booC_sc (p : Nat → Bool) (m : Nat) : booC p (m + 1) = booC p m ++ [.bool (p m)] := by simp [booC, List.range_succ]
theorem bld_sty (s : Sty) (w : World) : (Instr.buildSlice 64 1 #[(0, .agg (styCells s).toArray)]).run Try.prog w = .ok (.slice (some ⟨w.heap.size, 0, none⟩) 1 1) (w.alloc (.cells (styCells s).toArray 52)) := by kernel_rfl
theorem step_bldL {o : Oper} {a : Act} {w : World} {ops : Array Oper} {K : Act → World → Prop} {Q : Exit → Act → World → Prop} {E : Prop} (hgd : o.guard = none) (x : Operand) (ho : o.op = .buildSlice 64 1 #[(0, x)]) (L : List Value) (hx : a.eval x = .agg L.toArray)
    (hb : ∀ W : World, (Instr.buildSlice 64 1 #[(0, .agg L.toArray)]).run Try.prog W = .ok (.slice (some ⟨W.heap.size, 0, none⟩) 1 1) (W.alloc (.cells L.toArray 52)))
    (h : K (a.put o.dst (.slice (some ⟨w.heap.size, 0, none⟩) 1 1)) (w.alloc (.cells L.toArray 52))) : if Region.wanted o (yielded ops a.tmps) = true then Oper.wp Try.prog o a w K Q else E := by
  have hw : Region.wanted o (yielded ops a.tmps) = true := by simp [Region.wanted, hgd]
  rw [if_pos hw]
  unfold Oper.wp execOp
  simp only [ho, List.map_toArray, List.map_cons, List.map_nil, hx, Sem.run_bind, hb, Result.andThen_ok, Sem.run_pure]
  exact h
/-- What jambref21.Kids answers of a flex. -/
structure RKidsF (l : List Nd) (s : Sty) (ks : List Int) (got : List Cn) (u1 : Int) (w w' : World) (e : Ending) : Prop where
  ex : ∃ Au cu Ab cb, e = .returned (.tuple #[.slice Au ks.length cu, .slice Ab ks.length cb]) ∧ Reads w' w'.heap.size 3 Au ks.length (triC (fun k => usedT (mainsM s u1 (ks.map (sD l)) got k)) ks.length) ∧
    Reads w' w'.heap.size 1 Ab ks.length (booC (fun k => usedB (mainsM s u1 (ks.map (sD l)) got k)) ks.length)
  b : Below w.heap.size w w'
/-- What jambref21.Kids answers of a block. -/
structure RKidsB (l : List Nd) (ks : List Int) (got : List Cn) (u1 : Int) (w w' : World) (e : Ending) : Prop where
  ex : ∃ Au cu Ab cb, e = .returned (.tuple #[.slice Au ks.length cu, .slice Ab ks.length cb]) ∧ Reads w' w'.heap.size 3 Au ks.length (triC (fun k => kidU (sD l (ksAt ks k)) u1 (gAt got k)) ks.length) ∧
    Reads w' w'.heap.size 1 Ab ks.length (booC (fun k => kidB (sD l (ksAt ks k)) u1 (gAt got k)) ks.length)
  b : Below w.heap.size w w'
set_option maxRecDepth 100000 in
set_option maxHeartbeats 1200000 in
theorem rkids_any (l : List Nd) (i : Nat) (hi : i < l.length) (hln : l.length ≤ 65536) (A A2 Ak Ag : Option Addr) (c m c2 ck cg : Nat) (view u1 u2 u3 : Int) (ks : List Int) (got : List Cn) (w : World)
    (hr : Reads w w.heap.size 44 A l.length (ndsCells l)) (huv : ∀ x ∈ l, ∃ Au nu cu, x.s.uv = .slice Au nu cu) (kd : Int) (hkd : kd ≠ 2 ∨ kd = 2) (hbk : l[i].s.kind = kd) (hk : Reads w w.heap.size 1 Ak ks.length (i64s ks)) (hkn : ∀ k ∈ ks, 0 ≤ k ∧ k < (l.length : Int)) (hkl : ks.length ≤ 100000)
    (hg : Reads w w.heap.size 4 Ag got.length (cnsCells got)) (hc : CB u1) (hs : kd ≠ 2 → ∀ k ∈ ks, (sD l k).kind ≠ 3 → StW (sD l k)) (hs2 : kd = 2 → ks.length ≤ 1000 ∧ ∀ k ∈ ks, StX (sD l k)) (hx : ∀ x ∈ got, (0 ≤ x.least ∧ x.least ≤ 1099511627776) ∧ 0 ≤ x.greatest ∧ x.greatest ≤ 1099511627776) :
    Calls Try.prog 12 #[.agg #[.slice A l.length c, .slice A2 m c2, .int .i64 view], .int .i64 (i : Int), .agg #[.int .i64 u1, .int .i64 u2, .int .i64 u3], .slice Ak ks.length ck, .slice Ag got.length cg] w fun e w' => (kd ≠ 2 → RKidsB l ks got u1 w w' e) ∧ (kd = 2 → RKidsF l l[i].s ks got u1 w w' e) := by
  have HKK := Lib.hid hkd
  have HSF := Lib.hid hs2
  have HGB := Lib.hid hx
  obtain ⟨si, hsi⟩ : ∃ si, si = l[i].s := ⟨_, rfl⟩
  have HSI := Lib.hid hsi
  rw [← hsi] at hbk ⊢
  clear hsi hkd hs2
  have HR := Lib.hid hr
  have HUV := Lib.hid huv
  have HK := Lib.hid hk
  have HG := Lib.hid hg
  have HKN := Lib.hid hkn
  have HS := Lib.hid hs
  have HX : Hid (∀ q, (0 ≤ (gAt got q).least ∧ (gAt got q).least ≤ 1099511627776) ∧ 0 ≤ (gAt got q).greatest ∧ (gAt got q).greatest ≤ 1099511627776) := Lib.hid (fun q => by
    unfold gAt
    by_cases h : q < got.length
    · rw [List.getElem?_eq_getElem h]; exact hx _ (List.getElem_mem h)
    · rw [List.getElem?_eq_none (by omega)]; simp)
  have HC := Lib.hid hc
  have HKD : Hid (∀ W, Reads W w.heap.size 44 A l.length (ndsCells l) → ∃ ad : Addr, A = some ad ∧ ad.block < w.heap.size ∧ W.cell? ⟨ad.block, (ad.add (i * 44)).off + 1, none⟩ = some (.int .u8 kd)) := Lib.hid (fun W h => by
    obtain ⟨ad, rfl, hnd⟩ := h.nd rfl hi
    have hz := hnd.lt
    rw [block_of_add] at hz
    refine ⟨ad, rfl, hz, ?_⟩
    rw [← hbk, ← block_of_add ad (i * 44), HSI.out]; exact hnd.cs 0 _ rfl)
  clear hr huv hk hg hkn hs hx hc hbk
  obtain ⟨n, hne⟩ : ∃ n, n = ks.length := ⟨_, rfl⟩
  rw [← hne] at HK hkl ⊢
  have HN := Lib.hid hne
  clear hne
  obtain ⟨ll, hle⟩ : ∃ ll, ll = l.length := ⟨_, rfl⟩
  rw [← hle] at HR HKN hi hln HKD ⊢
  have HLL := Lib.hid hle
  clear hle
  obtain ⟨mg, hme⟩ : ∃ mg, mg = got.length := ⟨_, rfl⟩
  rw [← hme] at HG ⊢
  have HMG := Lib.hid hme
  clear hme
  have hi2 : (i : Int) < (ll : Int) := by omega
  have hi3 : (0 : Int) ≤ (i : Int) := by omega
  go_enter Try.func12, Try.ntmps12
  go_upto_region 1 with (fail)
  obtain ⟨gT, hgT⟩ : ∃ gT, gT = w.heap.size := ⟨_, rfl⟩
  obtain ⟨gU, hgU⟩ : ∃ gU, gU = w.heap.size + 1 := ⟨_, rfl⟩
  have H2 : Hid (Blk ((w.alloc (.cells #[.slice A ll c, .slice A2 m c2, .int .i64 view] 25)).alloc (.cells #[.int .i64 u1, .int .i64 u2, .int .i64 u3] 27)) gT 25 #[.slice A ll c, .slice A2 m c2, .int .i64 view] ∧ Blk ((w.alloc (.cells #[.slice A ll c, .slice A2 m c2, .int .i64 view] 25)).alloc (.cells #[.int .i64 u1, .int .i64 u2, .int .i64 u3] 27)) gU 27 #[.int .i64 u1, .int .i64 u2, .int .i64 u3] ∧ Below w.heap.size w ((w.alloc (.cells #[.slice A ll c, .slice A2 m c2, .int .i64 view] 25)).alloc (.cells #[.int .i64 u1, .int .i64 u2, .int .i64 u3] 27))) := Lib.hid
    ⟨(Blk.at_ _ _ _ hgT).alloc _, Blk.at_ _ _ _ (by rw [hgU]; simp), balW (balW (Below.refl _ _) _) _⟩
  obtain ⟨w2, hw2⟩ : ∃ w2, w2 = ((w.alloc (.cells #[.slice A ll c, .slice A2 m c2, .int .i64 view] 25)).alloc (.cells #[.int .i64 u1, .int .i64 u2, .int .i64 u3] 27)) := ⟨_, rfl⟩
  rw [← hw2] at H2 ⊢
  first | rw [← hgU] | skip
  rw [← hgT]
  try rw [show gT + 1 = gU by omega]
  clear hw2 hgT hgU
  have HTC : Hid (∀ W, Below w2.heap.size w2 W → W.cell? ⟨gT, 0, none⟩ = some (.slice A ll c) ∧ W.cell? ⟨gU, 0, none⟩ = some (.int .i64 u1)) := Lib.hid (fun W h => ⟨(H2.out.1.below h H2.out.1.lt).get 0 rfl, (H2.out.2.1.below h H2.out.2.1.lt).get 0 rfl⟩)
  have HRD : Hid (∀ W, Below w2.heap.size w2 W → Reads W w.heap.size 44 A ll (ndsCells l) ∧ Reads W w.heap.size 1 Ak n (i64s ks) ∧ Reads W w.heap.size 4 Ag mg (cnsCells got)) := Lib.hid (fun W h => by
    have hb := H2.out.2.2.trans (h.mono H2.out.2.2.size)
    exact ⟨HR.out.below hb, HK.out.below hb, HG.out.below hb⟩)
  have hi0' : (0 : Int) ≤ (i : Int) := by omega
  have HI0 : Hid (w2.ownsRow w2.heap.size 52 43 (.slice none 0 0) 0 (stC ((ks.take 0).map (sD l)))) := Lib.hid ⟨rfl, .inl ⟨rfl, rfl⟩⟩
  go_wp2_with fail
  go_loopw [12, 13] (fun v kv wr => ∃ j : Nat, j ≤ n ∧ kv = .int .i64 j ∧ Hid (wr.ownsRow w2.heap.size 52 43 v j (stC ((ks.take j).map (sD l))) ∧ Below w2.heap.size w2 wr)) (fun _ kv _ => n - (intOf kv).toNat)
  case atStart => exact ⟨0, by omega, rfl, Lib.hid ⟨HI0.out, Below.refl _ _⟩⟩
  case round =>
    obtain ⟨j, hj, rfl, HV⟩ := hrel
    obtain ⟨As, cs, hvs⟩ := own_form HV.out.1
    subst hvs
    clear HI0
    by_cases hlt : j < n
    · as_aux_lemma =>
      have q0 : decide ((j : Int) < (n : Int)) = true := decide_eq_true (by omega)
      have q0' : decide (j < n) = true := decide_eq_true hlt
      have hii : (j : Int) < (n : Int) := by omega
      have hi0 : (0 : Int) ≤ (j : Int) := by omega
      have wi : IntKind.i64.wrap ((j : Int) + 1) = (j : Int) + 1 := IntWalk.i64_in _ ⟨by omega, by omega⟩
      have hjl : j < ks.length := by rw [← HN.out]; exact hlt
      obtain ⟨k, hk⟩ : ∃ k, k = ks[j] := ⟨_, rfl⟩
      have hkb := HKN.out k (by rw [hk]; exact List.getElem_mem hjl)
      obtain ⟨ak, uk, rfl, _, hxk, hck⟩ := (HRD.out wr HV.out.2).2.1.at_ hlt
      have ek : uk = .int .i64 k := by rw [hk]; simpa [i64s, hjl] using hxk.symm
      subst ek
      have HTK : Hid (stC ((ks.take (j + 1)).map (sD l)) = stC ((ks.take j).map (sD l)) ++ styCells (sD l k)) := Lib.hid (by
        rw [List.take_succ_eq_append_getElem hjl, List.map_append, stC_app, hk]; simp [stC])
      obtain ⟨kk, hkk⟩ : ∃ kk : Nat, k = (kk : Int) := ⟨k.toNat, by omega⟩
      clear hxk hk
      subst hkk
      have hkn : kk < ll := by omega
      have hkn2 : (kk : Int) < (ll : Int) := by omega
      have hkn3 : (0 : Int) ≤ (kk : Int) := by omega
      have hkl2 : kk < l.length := by rw [← HLL.out]; exact hkn
      obtain ⟨s, hse⟩ : ∃ s, s = l[kk].s := ⟨_, rfl⟩
      have HSD : Hid (sD l (kk : Int) = s) := Lib.hid (by rw [hse]; unfold sD; rw [Int.toNat_natCast, List.getElem?_eq_getElem hkl2]; rfl)
      have HO : Hid (∀ u ∈ styCells s, u.oneCell' = true) := Lib.hid (by
        obtain ⟨Au, nu, cu, e⟩ := HUV.out _ (List.getElem_mem hkl2)
        rw [hse]
        intro u hu
        exact Array.all_eq_true'.1 (Sty.one _ e) u (by simpa using hu))
      obtain ⟨ad, hA, _⟩ := (HRD.out wr HV.out.2).1.nd HLL.out hkl2
      subst hA
      have HLD : Hid (∀ W, Below w2.heap.size w2 W → ∀ q v, (styCells s)[q]? = some v → W.cell? ((⟨ad.block, (ad.add (kk * 44)).off + 1, none⟩ : Addr).add q) = some v) := Lib.hid (fun W h q v hv => by
        obtain ⟨ad2, e, hnd⟩ := (HRD.out W h).1.nd HLL.out hkl2
        injection e with e
        subst e
        have hx := hnd.cs q v (by rw [← hse]; exact hv)
        rw [block_of_add] at hx
        have ha : (⟨ad.block, (ad.add (kk * 44)).off + 1, none⟩ : Addr).add q = ⟨ad.block, (ad.add (kk * 44)).off + (1 + q), none⟩ := by
          unfold Addr.add
          split
          · simp_all
          · simp; omega
        rw [ha]; exact hx)
      have HCK : Hid (∀ W, Below w2.heap.size w2 W → W.cell? (ak.add j) = some (.int .i64 (kk : Int))) := Lib.hid (fun W h => by
        obtain ⟨ak2, uk2, e1, _, hxk2, hck2⟩ := (HRD.out W h).2.1.at_ hlt
        injection e1 with e1
        subst e1
        obtain ⟨ak3, uk3, e3, _, hxk3, hck3⟩ := (HRD.out wr HV.out.2).2.1.at_ hlt
        injection e3 with e3
        subst e3
        rw [hxk2] at hxk3
        injection hxk3 with hxk3
        rw [hck] at hck3
        rw [hck2, hxk3, ← hck3])
      clear hse hck
      obtain ⟨L, hL⟩ : ∃ L, L = styCells s := ⟨_, rfl⟩
      have HBL : Hid (∀ W : World, (Instr.buildSlice 64 1 #[(0, .agg L.toArray)]).run Try.prog W = .ok (.slice (some ⟨W.heap.size, 0, none⟩) 1 1) (W.alloc (.cells L.toArray 52))) := Lib.hid (fun W => by rw [hL]; exact bld_sty s W)
      have HLL3 : Hid (L.length = 1 * 43) := Lib.hid (by rw [hL, sty_len])
      rw [HSD.out] at HTK
      rw [← hL] at HTK HO HLD
      clear hL HSD
      have h9 : j + 1 ≤ 4294967296 := by omega
      go_upto_region 5 with (fail)
      have E0 : Below w2.heap.size w2 wr.drew := HV.out.2.drew
      have HVD : Hid (wr.drew.ownsRow w2.heap.size 52 43 (.slice As j cs) j (stC ((ks.take j).map (sD l))) ∧ w2.heap.size ≤ wr.drew.heap.size) := Lib.hid ⟨own_kp HV.out.1 (Kp.refl (fun _ => False) wr).drew (fun _ _ h => h), HV.out.2.size⟩
      refine wp_region_held_drew (S := fun W => Below w2.heap.size w2 W) (by kernel_rfl) E0 (fun hS => ?_)
      refine wpAnyH_pre (j := 0) (by kernel_rfl) ?_
      iterate 9
        refine wpAnyH_nx (v := ?_) rfl (by kernel_rfl) (by kernel_rfl) (by kernel_rfl) (fun _ _ _ h => h) (Or.inl ⟨by rfl, ?_⟩) hS ?_
        rotate_left
        · intro W' hS'
          have y0 := (HTC.out W' hS').1; have ck1 := HCK.out W' hS'; go_simp
          rfl
        try simp only [Act.put, List.setIfInBounds_toArray, List.set_cons_zero, List.set_cons_succ, List.getElem_toArray, List.getElem_cons_zero, List.getElem_cons_succ]
      refine wpAnyH_take (i := 9) (v := .agg L.toArray) rfl (by kernel_rfl) (by kernel_rfl) (by kernel_rfl) (fun _ _ _ h => h) ?_ hS ?_
      · exact yieldsIf_load_at (by rfl) 52 (.tmp 34) rfl ⟨ad.block, (ad.add (kk * 44)).off + 1, none⟩ rfl L _ (fun W' hS' => HLD.out W' hS') Try.underlying52 rfl (by rw [HLL3.out]; kernel_rfl)
      try simp only [Act.put, List.setIfInBounds_toArray, List.set_cons_zero, List.set_cons_succ, List.getElem_toArray, List.getElem_cons_zero, List.getElem_cons_succ]
      refine wpAnyH_ready (rs := [10]) (by kernel_rfl) (by simp) (AllReadyH.cons rfl (fun K hK => ?_) AllReadyH.nil)
      refine step_bldL rfl (.tmp 35) rfl L rfl HBL.out ?_
      refine hK.out _ _ (hS.alloc hS.size _) (fun hS => ?_)
      try simp only [Act.put, List.setIfInBounds_toArray, List.set_cons_zero, List.set_cons_succ, List.getElem_toArray, List.getElem_cons_zero, List.getElem_cons_succ]
      clear hK HBL
      refine wpAnyH_ready (rs := [11]) (by kernel_rfl) (by simp) (AllReadyH.cons rfl (fun K hK => ?_) AllReadyH.nil)
      refine step_appG (m := 1) rfl _ _ rfl el_styA HVD.out.1 HVD.out.2 rfl L rfl rfl HLL3.out HO.out h9 (by omega) ?_
      intro A3 c3 w13 hown13 hB13 hg13 _
      have hS5 : Below w2.heap.size w2 w13 := hB13 _ _ (Nat.le_refl _) E0
      refine hK.out _ _ hS5 (fun hS => ?_)
      try simp only [Act.put, List.setIfInBounds_toArray, List.set_cons_zero, List.set_cons_succ, List.getElem_toArray, List.getElem_cons_zero, List.getElem_cons_succ]
      clear hK
      refine wpAnyH_take (i := 12) (v := ?_) rfl (by kernel_rfl) (by kernel_rfl) (by kernel_rfl) (fun _ _ _ h => h) (Or.inl ⟨by rfl, ?_⟩) hS ?_
      rotate_left
      · intro W' hS'
        go_simp
        rfl
      try simp only [Act.put, List.setIfInBounds_toArray, List.set_cons_zero, List.set_cons_succ, List.getElem_toArray, List.getElem_cons_zero, List.getElem_cons_succ]
      refine wpAnyH_done (by kernel_rfl) ?_ _
      clear hB13 hg13
      have HS5 := Lib.hid (And.intro hown13 hS5)
      clear hS E0 hown13 hS5
      go_wp2_with fail
      go_roundw
      case rel => exact ⟨j + 1, by omega, by go_num, Lib.hid ⟨by rw [HTK.out]; exact HS5.out.1, HS5.out.2⟩⟩
      case measure => simp [intOf] <;> omega
    · as_aux_lemma =>
      have q0 : decide ((j : Int) < (n : Int)) = false := decide_eq_false (by omega)
      have q0' : decide (j < n) = false := decide_eq_false hlt
      have hjn : j = n := by omega
      rw [hjn] at HV
      rw [hjn]
      clear hjn hlt hj q0 q0'
      have q1 : decide ((n : Int) < (n : Int)) = false := decide_eq_false (by omega)
      have q1' : decide (n < n) = false := decide_eq_false (by omega)
      have HTA : Hid ((ks.take n).map (sD l) = ks.map (sD l)) := Lib.hid (by rw [HN.out, List.take_length])
      have HSR : Hid (∀ W, Below wr.heap.size wr W → Reads W wr.heap.size 43 As n (stC (ks.map (sD l)))) := Lib.hid (fun W h => by
        have h1 := Reads.of_own HV.out.1
        rw [HTA.out] at h1
        exact h1.below h)
      obtain ⟨ad, rfl, hadb, k1⟩ := HKD.out wr (HRD.out wr HV.out.2).1
      have y0 := (HTC.out wr HV.out.2).1
      rcases HKK.out with hk1 | rfl
      rotate_left
      · as_aux_lemma =>
        have e12 : ((2 : Int) == 2) = true := by decide
        have HLI : Hid (∀ W, Below wr.heap.size wr W → (W.cell? ⟨gT, 0, none⟩ = some (.slice (some ad) ll c) ∧ W.cell? ⟨gU, 0, none⟩ = some (.int .i64 u1)) ∧ ∀ q v, (styCells si)[q]? = some v → W.cell? ((⟨ad.block, (ad.add (i * 44)).off + 1, none⟩ : Addr).add q) = some v) := Lib.hid (fun W h => by
          have hb2 := HV.out.2.trans (h.mono HV.out.2.size)
          refine ⟨HTC.out W hb2, fun q v hv => ?_⟩
          have hil : i < l.length := by rw [← HLL.out]; exact hi
          obtain ⟨ad2, e, hnd⟩ := (HRD.out W hb2).1.nd HLL.out hil
          injection e with e
          subst e
          have hx := hnd.cs q v (by rw [← HSI.out]; exact hv)
          rw [block_of_add] at hx
          have ha : (⟨ad.block, (ad.add (i * 44)).off + 1, none⟩ : Addr).add q = ⟨ad.block, (ad.add (i * 44)).off + (1 + q), none⟩ := by
            unfold Addr.add
            split
            · simp_all
            · simp; omega
          rw [ha]; exact hx)
        have HMA : Hid (∀ W, Below wr.heap.size wr W → Calls Try.prog 25 #[.agg (styCells si).toArray, .int .i64 u1, .slice As n cs, .slice Ag mg cg] W fun e w' => RMainsAns si u1 (ks.map (sD l)) got W w' e) := Lib.hid (fun W hb => by
          have hb2 := HV.out.2.trans (hb.mono HV.out.2.size)
          have hw2 : w.heap.size ≤ W.heap.size := by have := H2.out.2.2.size; have := hb2.size; omega
          have hr1 := (HSR.out W hb).more hb.size
          have hg1 := (HRD.out W hb2).2.2.more hw2
          have hlm : (ks.map (sD l)).length = n := by rw [List.length_map, HN.out]
          have h := rmains_any si u1 (ks.map (sD l)) got As Ag cs cg W (by rw [List.length_map]; exact (HSF.out rfl).1) (by rw [hlm]; exact hr1) (fun s hs => by
            obtain ⟨k, hk, rfl⟩ := List.mem_map.1 hs
            have hb := HKN.out k hk
            have hkl : k.toNat < l.length := by rw [← HLL.out]; omega
            have e : sD l k = l[k.toNat].s := by unfold sD; rw [List.getElem?_eq_getElem hkl]; rfl
            rw [e]; exact HUV.out _ (List.getElem_mem hkl)) (by rw [← HMG.out]; exact hg1) HC.out (fun s hs => by
            obtain ⟨k, hk, rfl⟩ := List.mem_map.1 hs
            exact (HSF.out rfl).2 k hk) (fun x hx => (HGB.out x hx).2)
          rw [hlm, ← HMG.out] at h
          exact h)
        go_upto_region 7 with (fail)
        clear y0 k1 e12
        have E0 : Below wr.heap.size wr wr.drew := (Below.refl _ _).drew
        refine wp_region_held_drew (S := fun W => Below wr.heap.size wr W) (by kernel_rfl) E0 (fun hS => ?_)
        refine wpAnyH_pre (j := 0) (by kernel_rfl) ?_
        iterate 5
          refine wpAnyH_nx (v := ?_) rfl (by kernel_rfl) (by kernel_rfl) (by kernel_rfl) (fun _ _ _ h => h) (Or.inl ⟨by rfl, ?_⟩) hS ?_
          rotate_left
          · intro W' hS'
            have yy := (HLI.out W' hS').1; have y0 := yy.1; have y1 := yy.2; go_simp
            rfl
          try simp only [Act.put, List.setIfInBounds_toArray, List.set_cons_zero, List.set_cons_succ, List.getElem_toArray, List.getElem_cons_zero, List.getElem_cons_succ]
        refine wpAnyH_take (i := 5) (v := .agg (styCells si).toArray) rfl (by kernel_rfl) (by kernel_rfl) (by kernel_rfl) (fun _ _ _ h => h) ?_ hS ?_
        · exact yieldsIf_load_at (by rfl) 52 (.tmp 50) rfl ⟨ad.block, (ad.add (i * 44)).off + 1, none⟩ rfl (styCells si) _ (fun W' hS' => (HLI.out W' hS').2) Try.underlying52 rfl (by kernel_rfl)
        try simp only [Act.put, List.setIfInBounds_toArray, List.set_cons_zero, List.set_cons_succ, List.getElem_toArray, List.getElem_cons_zero, List.getElem_cons_succ]
        refine wpAnyH_pre (j := 6) (by kernel_rfl) ?_
        iterate 4
          refine wpAnyH_nx (v := ?_) rfl (by kernel_rfl) (by kernel_rfl) (by kernel_rfl) (fun _ _ _ h => h) (Or.inl ⟨by rfl, ?_⟩) hS ?_
          rotate_left
          · intro W' hS'
            have yy := (HLI.out W' hS').1; have y0 := yy.1; have y1 := yy.2; go_simp
            rfl
          try simp only [Act.put, List.setIfInBounds_toArray, List.set_cons_zero, List.set_cons_succ, List.getElem_toArray, List.getElem_cons_zero, List.getElem_cons_succ]
        refine wpAnyH_ready (rs := [10]) (by kernel_rfl) (by simp) (AllReadyH.cons rfl (fun K hK => ?_) AllReadyH.nil)
        go_simp
        go_at_call 25
        refine (HMA.out _ hS).mono ?_
        rintro e w7 ⟨⟨Au, cu, Ab, cb, rfl, hru, hrb⟩, hb7⟩
        have HEN : Hid (RKidsF l si ks got u1 w w7 (.returned (.tuple #[.slice Au n cu, .slice Ab n cb]))) := Lib.hid (by
          have hlm : (ks.map (sD l)).length = ks.length := List.length_map _
          rw [hlm] at hru hrb
          have h4 := H2.out.2.2.trans (HV.out.2.mono H2.out.2.2.size)
          have h5 := hS.trans (hb7.mono hS.size)
          exact ⟨⟨Au, cu, Ab, cb, by rw [HN.out], hru, hrb⟩, h4.trans (h5.mono h4.size)⟩)
        have hS7 : Below wr.heap.size wr w7 := hS.trans (hb7.mono hS.size)
        rw [show (ks.map (sD l)).length = n by rw [List.length_map, HN.out]]
        clear hru hrb hb7
        refine hK.out _ _ hS7 (fun hS => ?_)
        try simp only [Act.put, List.setIfInBounds_toArray, List.set_cons_zero, List.set_cons_succ, List.getElem_toArray, List.getElem_cons_zero, List.getElem_cons_succ]
        clear hK
        refine wpAnyH_pre (j := 11) (by kernel_rfl) ?_
        iterate 4
          refine wpAnyH_nx (v := ?_) rfl (by kernel_rfl) (by kernel_rfl) (by kernel_rfl) (fun _ _ _ h => h) (Or.inl ⟨by rfl, ?_⟩) hS ?_
          rotate_left
          · intro W' hS'
            go_simp
            rfl
          try simp only [Act.put, List.setIfInBounds_toArray, List.set_cons_zero, List.set_cons_succ, List.getElem_toArray, List.getElem_cons_zero, List.getElem_cons_succ]
        refine wpAnyH_done (by kernel_rfl) ?_ _
        clear hS E0
        go_wp2_with fail
        go_ret2
        exact HEN.out
      have HSB := Lib.hid (HS.out hk1)
      have HK1 := Lib.hid hk1
      have e12 : ((kd : Int) == 2) = false := beq_eq_false_iff_ne.2 hk1
      clear hk1
      go_upto_region 8 with (fail)
      clear y0 k1 e12
      obtain ⟨w4, rfl⟩ : ∃ w4, w4 = wr := ⟨_, rfl⟩
      go_wp2_with fail
      go_loopw [14, 15, 16] (fun ov bv kv wr => ∃ k : Nat, k ≤ n ∧ kv = .int .i64 k ∧ Hid (wr.ownsRow w4.heap.size 27 3 ov k (triC (fun k => kidU (sD l (ksAt ks k)) u1 (gAt got k)) k) ∧ wr.ownsRow w4.heap.size 4 1 bv k (booC (fun k => kidB (sD l (ksAt ks k)) u1 (gAt got k)) k) ∧ Below w4.heap.size w4 wr)) (fun _ _ kv _ => n - (intOf kv).toNat)
      case atStart => exact ⟨0, by omega, rfl, Lib.hid ⟨⟨rfl, .inl ⟨rfl, rfl⟩⟩, ⟨rfl, .inl ⟨rfl, rfl⟩⟩, Below.refl _ _⟩⟩
      case round =>
        obtain ⟨k, hk, rfl, HW⟩ := hrel
        obtain ⟨Au, cu, hvu⟩ := own_form HW.out.1
        obtain ⟨Ab, cb, hvb⟩ := own_form HW.out.2.1
        subst hvu
        subst hvb
        by_cases hl : k < n
        rotate_left
        · as_aux_lemma =>
          have q0 : decide ((k : Int) < (n : Int)) = false := decide_eq_false (by omega)
          have q0' : decide (k < n) = false := decide_eq_false hl
          have hkn : k = n := by omega
          have HEN : Hid (RKidsB l ks got u1 w wr (.returned (.tuple #[.slice Au k cu, .slice Ab k cb]))) := Lib.hid (by
            rw [hkn] at HW ⊢
            refine ⟨⟨Au, cu, Ab, cb, by rw [← HN.out], ?_, ?_⟩, ?_⟩
            · rw [← HN.out]; exact Reads.of_own HW.out.1
            · rw [← HN.out]; exact Reads.of_own HW.out.2.1
            · have h4 := H2.out.2.2.trans (HV.out.2.mono H2.out.2.2.size)
              exact h4.trans (HW.out.2.2.mono h4.size))
          clear hkn
          go_wp2_with fail
          go_ret2
          exact ⟨fun _ => HEN.out, fun h => absurd h HK1.out⟩
        as_aux_lemma =>
        have q0 : decide ((k : Int) < (n : Int)) = true := decide_eq_true (by omega)
        have q0' : decide (k < n) = true := decide_eq_true hl
        have hii : (k : Int) < (n : Int) := by omega
        have hi0 : (0 : Int) ≤ (k : Int) := by omega
        have wi : IntKind.i64.wrap ((k : Int) + 1) = (k : Int) + 1 := IntWalk.i64_in _ ⟨by omega, by omega⟩
        have h9 : k + 1 ≤ 4294967296 := by omega
        have hkl2 : k < ks.length := by rw [← HN.out]; exact hl
        have hkt : ksAt ks k = ks[k] := by unfold ksAt; rw [List.getElem?_eq_getElem hkl2]; rfl
        obtain ⟨s, hse⟩ : ∃ s, s = sD l (ksAt ks k) := ⟨_, rfl⟩
        obtain ⟨x, hxe⟩ : ∃ x, x = gAt got k := ⟨_, rfl⟩
        have hxb := HX.out k
        rw [← hxe] at hxb
        have HSW : Hid (s.kind ≠ 3 → StW s) := Lib.hid (by rw [hse, hkt]; exact HSB.out (ks[k]) (List.getElem_mem hkl2))
        have HTI : Hid (triC (fun k => kidU (sD l (ksAt ks k)) u1 (gAt got k)) (k + 1) = triC (fun k => kidU (sD l (ksAt ks k)) u1 (gAt got k)) k ++ [.int .i64 (kidU s u1 x).1, .int .i64 (kidU s u1 x).2.1, .int .i64 (kidU s u1 x).2.2] ∧ booC (fun k => kidB (sD l (ksAt ks k)) u1 (gAt got k)) (k + 1) = booC (fun k => kidB (sD l (ksAt ks k)) u1 (gAt got k)) k ++ [.bool (kidB s u1 x)]) := Lib.hid (by
          rw [triC_succ, booC_sc, hse, hxe]; exact ⟨rfl, rfl⟩)
        obtain ⟨gS, cap, hvS, _, hgS⟩ := HV.out.1.form (by omega)
        obtain rfl : As = some ⟨gS, 0, none⟩ := by injection hvS
        clear hvS
        have HLD : Hid (∀ W, Below wr.heap.size wr W → W.cell? ⟨gU, 0, none⟩ = some (.int .i64 u1) ∧ ∀ q v, (styCells s)[q]? = some v → W.cell? ((⟨gS, k * 43, none⟩ : Addr).add q) = some v) := Lib.hid (fun W h => by
          have hb4 := HW.out.2.2.trans (h.mono HW.out.2.2.size)
          have hb2 := HV.out.2.trans (hb4.mono HV.out.2.size)
          refine ⟨(HTC.out W hb2).2, fun q v hv => ?_⟩
          obtain ⟨ad, e, _, hc⟩ := (HSR.out W hb4).2 (by omega)
          injection e with e
          subst e
          have hq := (List.getElem?_eq_some_iff.1 hv).1
          rw [sty_len] at hq
          have hml : k < (ks.map (sD l)).length := by rw [List.length_map]; exact hkl2
          have h1 := hc (k * 43 + q) v (by rw [stC_at _ k q hml hq, List.getElem_map, ← hkt, ← hse]; exact hv)
          have ha : (⟨gS, k * 43, none⟩ : Addr).add q = (⟨gS, 0, none⟩ : Addr).add (k * 43 + q) := by
            rw [show (⟨gS, k * 43, none⟩ : Addr) = (⟨gS, 0, none⟩ : Addr).add (k * 43) by unfold Addr.add; split <;> simp_all, add_of_add]
          rw [ha]; exact h1)
        have HCK : Hid (∀ W, Below wr.heap.size wr W → W.cell? ⟨gS, k * 43, none⟩ = some (.int .u8 s.kind) ∧ W.cell? ⟨gS, k * 43 + 2, none⟩ = some (.int .u8 s.float)) := Lib.hid (fun W h => ⟨(HLD.out W h).2 0 _ rfl, (HLD.out W h).2 2 _ rfl⟩)
        have HFL : Hid (s.kind ≠ 3 → ∀ W, Calls Try.prog 18 #[.agg (styCells s).toArray, .int .i64 u1] W (AnsB (usedV (flowN s u1)) W)) := Lib.hid (fun h W => rflow_any s u1 W (HSW.out h) HC.out)
        have HFS : Hid (s.kind ≠ 3 → ∀ W, Calls Try.prog 26 #[.agg (styCells s).toArray, .int .i64 u1, .int .i64 x.least, .int .i64 x.greatest] W (AnsB (usedV (shrN s u1 x.least x.greatest)) W)) := Lib.hid (fun h W => rshr_any s u1 _ _ W (HSW.out h) HC.out hxb.1 hxb.2)
        have HGX : Hid (∀ h : k < mg, ∀ W, Below wr.heap.size wr W → ∃ ad : Addr, Ag = some ad ∧ W.cell? (ad.add (k * 4)) = some (.int .i64 x.least) ∧ W.cell? ⟨ad.block, (ad.add (k * 4)).off + 1, none⟩ = some (.int .i64 x.greatest) ∧ W.cell? ⟨ad.block, (ad.add (k * 4)).off + 2, none⟩ = some (.int .i64 x.ol) ∧ W.cell? ⟨ad.block, (ad.add (k * 4)).off + 3, none⟩ = some (.int .i64 x.og)) := Lib.hid (fun h W hb => by
          have hb4 := HW.out.2.2.trans (hb.mono HW.out.2.2.size)
          have hb2 := HV.out.2.trans (hb4.mono HV.out.2.size)
          have hgl : k < got.length := by rw [← HMG.out]; exact h
          obtain ⟨ad, e, _, h1, h2, h3, h4⟩ := (HRD.out W hb2).2.2.cn HMG.out hgl
          have ex : x = got[k] := by rw [hxe]; unfold gAt; rw [List.getElem?_eq_getElem hgl]; rfl
          rw [ex]
          exact ⟨ad, e, h1, h2, h3, h4⟩)
        have HGN : Hid (¬ k < mg → x.least = 0 ∧ x.greatest = 0) := Lib.hid (fun h => by
          have hgl : ¬ k < got.length := by rw [← HMG.out]; exact h
          rw [hxe]; unfold gAt; rw [List.getElem?_eq_none (by omega)]; exact ⟨rfl, rfl⟩)
        clear hse hxe hkt hxb
        go_upto_block 4 with (fail)
        obtain ⟨gx, hgx⟩ : ∃ gx, gx = wr.heap.size := ⟨_, rfl⟩
        have H6 : Hid (RuI gx 0 0 0 wr (wr.alloc (.cells #[.int .i64 0, .int .i64 0, .int .i64 0] 27))) := Lib.hid ⟨Blk.at_ _ _ _ hgx, balW (Below.refl _ _) _, by omega⟩
        obtain ⟨w6, hw6⟩ : ∃ w6, w6 = wr.alloc (.cells #[.int .i64 0, .int .i64 0, .int .i64 0] 27) := ⟨_, rfl⟩
        rw [← hw6] at H6 ⊢
        rw [← hgx]
        have HGX0 := Lib.hid hgx
        clear hw6 hgx
        obtain ⟨z1, z2, z3, hzz⟩ : ∃ z1 z2 z3, kidU s u1 x = (z1, z2, z3) := ⟨_, _, _, rfl⟩
        obtain ⟨zb, hzb⟩ : ∃ zb, kidB s u1 x = zb := ⟨_, rfl⟩
        rw [hzz, hzb] at HTI
        have HZ := Lib.hid (And.intro hzz hzb)
        clear hzz hzb
        go_cut [18] (fun cv wx => cv = .bool zb ∧ Hid (RuI gx z1 z2 z3 wr wx))
        case first =>
          as_aux_lemma =>
          have ck := HCK.out w6 H6.out.b
          by_cases h3 : s.kind = 3
          · have e3 : (s.kind == 3) = true := beq_iff_eq.2 h3
            have HKV : Hid (z1 = 0 ∧ z2 = 0 ∧ z3 = 0 ∧ zb = false) := Lib.hid (by
              have h1 := HZ.out.1
              have h2 := HZ.out.2
              unfold kidU at h1
              unfold kidB at h2
              rw [if_pos h3] at h1 h2
              injection h1 with h1 h1'
              injection h1' with h1' h1''
              exact ⟨h1.symm, h1'.symm, h1''.symm, h2.symm⟩)
            clear h3
            go_wp2_with fail
            go_meet
            exact ⟨by rw [HKV.out.2.2.2], Lib.hid (by rw [HKV.out.1, HKV.out.2.1, HKV.out.2.2.1]; exact H6.out)⟩
          · have e3 : (s.kind == 3) = false := beq_eq_false_iff_ne.2 h3
            have HF1 := Lib.hid (HFL.out h3)
            have HF2 := Lib.hid (HFS.out h3)
            by_cases hf : s.float = 0
            · have ef : (s.float == 0) = true := beq_iff_eq.2 hf
              have ef2 : (s.float != 0) = false := by rw [bne, ef]; rfl
              obtain ⟨x1, x2, x3, y, hv, hk1, hk2⟩ : ∃ x1 x2 x3 y, usedV (flowN s u1) = .tuple #[.agg #[.int .i64 x1, .int .i64 x2, .int .i64 x3], .bool y] ∧ kidU s u1 x = (x1, x2, x3) ∧ kidB s u1 x = y := by
                refine ⟨_, _, _, _, rfl, ?_, ?_⟩
                · unfold kidU kidK; rw [if_neg h3, if_neg h3, if_neg (by simp [hf])]; rfl
                · unfold kidB kidK; rw [if_neg h3, if_neg h3, if_neg (by simp [hf])]
              have HKV : Hid ((z1 = x1 ∧ z2 = x2 ∧ z3 = x3) ∧ zb = y) := Lib.hid (by
                have h1 := HZ.out.1.symm.trans hk1
                injection h1 with h1 h1'
                injection h1' with h1' h1''
                exact ⟨⟨h1, h1', h1''⟩, HZ.out.2.symm.trans hk2⟩)
              rw [hv] at HF1
              have HF := Lib.hid HF1.out
              clear h3 hf hv hk1 hk2 HF1 HF2
              go_upto_region 15 with (fail)
              have E0 : RuI gx 0 0 0 wr w6.drew := H6.out.bel (Below.refl _ _).drew
              refine wp_region_S (fun b _ _ W => (if b then RuI gx x1 x2 x3 wr W else RuI gx 0 0 0 wr W)) 10 1000 100000 false true (by kernel_rfl) (by kernel_rfl) (by kernel_rfl) (E0) ?_
              refine wpAnyS_pre (j := 0) (by kernel_rfl) ?_
              iterate 3
                refine wpAnyS_nx (v := ?_) rfl (by kernel_rfl) (by kernel_rfl) (by kernel_rfl) (fun _ _ _ h => h) (by rfl) (gives_pureF (by rfl) (by kernel_rfl) ?_) ?_
                rotate_left
                · intro d' u' W' hS'
                  have q := (show RuI gx 0 0 0 wr W' from hS')
                  have ck := HCK.out W' q.b
                  have y1 := (HLD.out W' q.b).1
                  go_simp
                  rfl
                try simp only [Act.put, List.setIfInBounds_toArray, List.set_cons_zero, List.set_cons_succ, List.getElem_toArray, List.getElem_cons_zero, List.getElem_cons_succ]
              refine wpAnyS_take (i := 3) (v := .agg (styCells s).toArray) rfl (by kernel_rfl) (by kernel_rfl) (by kernel_rfl) (fun _ _ _ h => h) (by rfl) (gives_yields ?_) ?_
              · refine yieldsIf_load_at (by rfl) 52 (.tmp 68) rfl (⟨gS, k * 43, none⟩) rfl (styCells s) _ ?_ Try.underlying52 rfl (by kernel_rfl)
                rintro W' ⟨b', d', u', hS'⟩
                exact (HLD.out W' (by cases b' <;> exact (show RuI _ _ _ _ wr W' from hS').b)).2
              try simp only [Act.put, List.setIfInBounds_toArray, List.set_cons_zero, List.set_cons_succ, List.getElem_toArray, List.getElem_cons_zero, List.getElem_cons_succ]
              refine wpAnyS_pre (j := 4) (by kernel_rfl) ?_
              iterate 2
                refine wpAnyS_nx (v := ?_) rfl (by kernel_rfl) (by kernel_rfl) (by kernel_rfl) (fun _ _ _ h => h) (by rfl) (gives_pureF (by rfl) (by kernel_rfl) ?_) ?_
                rotate_left
                · intro d' u' W' hS'
                  have q := (show RuI gx 0 0 0 wr W' from hS')
                  have ck := HCK.out W' q.b
                  have y1 := (HLD.out W' q.b).1
                  go_simp
                  rfl
                try simp only [Act.put, List.setIfInBounds_toArray, List.set_cons_zero, List.set_cons_succ, List.getElem_toArray, List.getElem_cons_zero, List.getElem_cons_succ]
              refine wpAnyS_take (i := 6) (v := .tuple #[.agg #[.int .i64 x1, .int .i64 x2, .int .i64 x3], .bool y]) rfl (by kernel_rfl) (by kernel_rfl) (by kernel_rfl) (fun _ _ _ h => h) (by rfl) (gives_callF (by rfl) (by kernel_rfl) _ _ ?_ (fun d' u' W' hS' => (HF.out W').mono (fun _ _ h => ⟨h.1, (show RuI gx 0 0 0 wr W' from hS').bel h.2⟩))) ?_
              · intro W'
                first | rfl | kernel_rfl
              try simp only [Act.put, List.setIfInBounds_toArray, List.set_cons_zero, List.set_cons_succ, List.getElem_toArray, List.getElem_cons_zero, List.getElem_cons_succ]
              refine wpAnyS_pre (j := 7) (by kernel_rfl) ?_
              iterate 2
                refine wpAnyS_nx (v := ?_) rfl (by kernel_rfl) (by kernel_rfl) (by kernel_rfl) (fun _ _ _ h => h) (by rfl) (gives_pureF (by rfl) (by kernel_rfl) ?_) ?_
                rotate_left
                · intro d' u' W' hS'
                  have q := (show RuI gx 0 0 0 wr W' from hS')
                  have ck := HCK.out W' q.b
                  have y1 := (HLD.out W' q.b).1
                  go_simp
                  rfl
                try simp only [Act.put, List.setIfInBounds_toArray, List.set_cons_zero, List.set_cons_succ, List.getElem_toArray, List.getElem_cons_zero, List.getElem_cons_succ]
              refine wpAnyS_take (i := 9) (v := ?_) rfl (by kernel_rfl) (by kernel_rfl) (by kernel_rfl) (fun _ _ _ h => h) (by rfl) (gives_pure (by rfl) ?_) ?_
              rotate_left
              · intro b' d' u' W' hS'
                go_simp
                rfl
              try simp only [Act.put, List.setIfInBounds_toArray, List.set_cons_zero, List.set_cons_succ, List.getElem_toArray, List.getElem_cons_zero, List.getElem_cons_succ]
              refine wpAnyS_store (i := 10) (d := true) (fun W' => (((W'.setCell ⟨gx, 0, none⟩ (.int .i64 x1)).setCell ⟨gx, 1, none⟩ (.int .i64 x2)).setCell ⟨gx, 2, none⟩ (.int .i64 x3))) rfl (by kernel_rfl) (by rfl) (by rfl) (by kernel_rfl) rfl ?_ (fun W' hS' => (show RuI gx 0 0 0 wr W' from hS').fin x1 x2 x3) ?_
              · intro W' hS'
                have q := (show RuI gx 0 0 0 wr W' from hS')
                have ck := HCK.out W' q.b
                have y1 := (HLD.out W' q.b).1
                have z0 := q.us.get 0 rfl
                have z1 := q.us.get 1 rfl
                have z2 := q.us.get 2 rfl
                have f0 := q.us.frozen 0
                have f1 := q.us.frozen 1
                have f2 := q.us.frozen 2
                go_simp
                try rfl
              try simp only [Act.put, List.setIfInBounds_toArray, List.set_cons_zero, List.set_cons_succ, List.getElem_toArray, List.getElem_cons_zero, List.getElem_cons_succ]
              refine wpAnyS_take (i := 11) (v := ?_) rfl (by kernel_rfl) (by kernel_rfl) (by kernel_rfl) (fun _ _ _ h => h) (by rfl) (gives_pure (by rfl) ?_) ?_
              rotate_left
              · intro b' d' u' W' hS'
                go_simp
                rfl
              try simp only [Act.put, List.setIfInBounds_toArray, List.set_cons_zero, List.set_cons_succ, List.getElem_toArray, List.getElem_cons_zero, List.getElem_cons_succ]
              refine wpAnyS_done (b := true) (d := true) (by kernel_rfl) (by kernel_rfl) (by kernel_rfl) rfl (fun wS hS => ?_) _
              have HS := Lib.hid (show RuI gx x1 x2 x3 wr wS from hS)
              clear hS E0
              go_wp2_with fail
              go_meet
              exact ⟨by rw [HKV.out.2], Lib.hid (by rw [HKV.out.1.1, HKV.out.1.2.1, HKV.out.1.2.2]; exact HS.out)⟩
            · have ef : (s.float == 0) = false := beq_eq_false_iff_ne.2 hf
              have ef2 : (s.float != 0) = true := by rw [bne, ef]; rfl
              obtain ⟨x1, x2, x3, y, hv, hk1, hk2⟩ : ∃ x1 x2 x3 y, usedV (shrN s u1 x.least x.greatest) = .tuple #[.agg #[.int .i64 x1, .int .i64 x2, .int .i64 x3], .bool y] ∧ kidU s u1 x = (x1, x2, x3) ∧ kidB s u1 x = y := by
                refine ⟨_, _, _, _, rfl, ?_, ?_⟩
                · unfold kidU kidK; rw [if_neg h3, if_neg h3, if_pos hf]; rfl
                · unfold kidB kidK; rw [if_neg h3, if_neg h3, if_pos hf]
              have HKV : Hid ((z1 = x1 ∧ z2 = x2 ∧ z3 = x3) ∧ zb = y) := Lib.hid (by
                have h1 := HZ.out.1.symm.trans hk1
                injection h1 with h1 h1'
                injection h1' with h1' h1''
                exact ⟨⟨h1, h1', h1''⟩, HZ.out.2.symm.trans hk2⟩)
              rw [hv] at HF2
              have HF := Lib.hid HF2.out
              clear h3 hf hv hk1 hk2 HF1 HF2
              go_upto_region 19 with (fail)
              obtain ⟨gc, hgc⟩ : ∃ gc, gc = w6.heap.size := ⟨_, rfl⟩
              have HC7 : Hid (Blk (w6.alloc (.cells #[.int .i64 0, .int .i64 0, .int .i64 0, .int .i64 0] 45)) gc 45 #[.int .i64 0, .int .i64 0, .int .i64 0, .int .i64 0] ∧ RuI gx 0 0 0 wr (w6.alloc (.cells #[.int .i64 0, .int .i64 0, .int .i64 0, .int .i64 0] 45))) := Lib.hid ⟨Blk.at_ _ _ _ hgc, H6.out.bel (balW (Below.refl _ _) _)⟩
              have HNE : Hid (gc ≠ gx) := Lib.hid (by have := H6.out.us.lt; omega)
              have hgcl : wr.heap.size ≤ gc := by have := H6.out.b.size; omega
              obtain ⟨w7, hw7⟩ : ∃ w7, w7 = w6.alloc (.cells #[.int .i64 0, .int .i64 0, .int .i64 0, .int .i64 0] 45) := ⟨_, rfl⟩
              rw [← hw7] at HC7 ⊢
              rw [← hgc]
              clear hw7 hgc ck
              go_upto_if 92 with (fail)
              go_cut [] (fun wx => ∃ o1 o2, Hid (Blk wx gc 45 #[.int .i64 x.least, .int .i64 x.greatest, .int .i64 o1, .int .i64 o2] ∧ RuI gx 0 0 0 wr wx))
              case first =>
                have y0 := HC7.out.1.get 0 rfl
                have y1 := HC7.out.1.get 1 rfl
                have y2 := HC7.out.1.get 2 rfl
                have y3 := HC7.out.1.get 3 rfl
                have f0 := HC7.out.1.frozen 0
                have f1 := HC7.out.1.frozen 1
                have f2 := HC7.out.1.frozen 2
                have f3 := HC7.out.1.frozen 3
                by_cases hm : k < mg
                · have d : decide ((k : Int) < (mg : Int)) = true := decide_eq_true (by omega)
                  have d' : decide (k < mg) = true := decide_eq_true hm
                  have hm2 : (k : Int) < (mg : Int) := by omega
                  obtain ⟨ag, hag, g0, g1, g2, g3⟩ := HGX.out hm w7 HC7.out.2.b
                  subst hag
                  go_wp2_with fail
                  go_meet
                  exact ⟨x.ol, x.og, Lib.hid ⟨by have h := (((HC7.out.1.set_ 0 (.int .i64 x.least)).set_ 1 (.int .i64 x.greatest)).set_ 2 (.int .i64 x.ol)).set_ 3 (.int .i64 x.og); simpa using h, ⟨(((HC7.out.2.us.far HNE.out.symm _).far HNE.out.symm _).far HNE.out.symm _).far HNE.out.symm _, (((HC7.out.2.b.setCell (p := ⟨gc, 0, none⟩) hgcl _).setCell (p := ⟨gc, 1, none⟩) hgcl _).setCell (p := ⟨gc, 2, none⟩) hgcl _).setCell (p := ⟨gc, 3, none⟩) hgcl _, HC7.out.2.lo⟩⟩⟩
                · have d : decide ((k : Int) < (mg : Int)) = false := decide_eq_false (by omega)
                  have d' : decide (k < mg) = false := decide_eq_false hm
                  have HG0 := Lib.hid (HGN.out hm)
                  go_wp2_with fail
                  go_meet
                  exact ⟨0, 0, Lib.hid ⟨by rw [HG0.out.1, HG0.out.2]; exact HC7.out.1, HC7.out.2⟩⟩
              case rest =>
              obtain ⟨o1, o2, HC8⟩ := hcut
              obtain ⟨w8, rfl⟩ : ∃ w8, w8 = wc := ⟨_, rfl⟩
              clear HC7
              go_upto_region 21 with (fail)
              have E0 : RuI gx 0 0 0 wr w8.drew ∧ Blk w8.drew gc 45 #[.int .i64 x.least, .int .i64 x.greatest, .int .i64 o1, .int .i64 o2] := ⟨HC8.out.2.bel (Below.refl _ _).drew, HC8.out.1.below (Below.refl _ _).drew HC8.out.1.lt⟩
              refine wp_region_S (fun b _ _ W => (if b then RuI gx x1 x2 x3 wr W else RuI gx 0 0 0 wr W) ∧ Blk W gc 45 #[.int .i64 x.least, .int .i64 x.greatest, .int .i64 o1, .int .i64 o2]) 14 1000 100000 false true (by kernel_rfl) (by kernel_rfl) (by kernel_rfl) (E0) ?_
              refine wpAnyS_pre (j := 0) (by kernel_rfl) ?_
              iterate 3
                refine wpAnyS_nx (v := ?_) rfl (by kernel_rfl) (by kernel_rfl) (by kernel_rfl) (fun _ _ _ h => h) (by rfl) (gives_pureF (by rfl) (by kernel_rfl) ?_) ?_
                rotate_left
                · intro d' u' W' hS'
                  have q := (show RuI gx 0 0 0 wr W' ∧ Blk W' gc 45 #[.int .i64 x.least, .int .i64 x.greatest, .int .i64 o1, .int .i64 o2] from hS')
                  have ck := HCK.out W' q.1.b
                  have y1 := (HLD.out W' q.1.b).1
                  have e0 := q.2.get 0 rfl
                  have e1 := q.2.get 1 rfl
                  go_simp
                  rfl
                try simp only [Act.put, List.setIfInBounds_toArray, List.set_cons_zero, List.set_cons_succ, List.getElem_toArray, List.getElem_cons_zero, List.getElem_cons_succ]
              refine wpAnyS_take (i := 3) (v := .agg (styCells s).toArray) rfl (by kernel_rfl) (by kernel_rfl) (by kernel_rfl) (fun _ _ _ h => h) (by rfl) (gives_yields ?_) ?_
              · refine yieldsIf_load_at (by rfl) 52 (.tmp 100) rfl (⟨gS, k * 43, none⟩) rfl (styCells s) _ ?_ Try.underlying52 rfl (by kernel_rfl)
                rintro W' ⟨b', d', u', hS'⟩
                exact (HLD.out W' (by cases b' <;> exact hS'.1.b)).2
              try simp only [Act.put, List.setIfInBounds_toArray, List.set_cons_zero, List.set_cons_succ, List.getElem_toArray, List.getElem_cons_zero, List.getElem_cons_succ]
              refine wpAnyS_pre (j := 4) (by kernel_rfl) ?_
              iterate 6
                refine wpAnyS_nx (v := ?_) rfl (by kernel_rfl) (by kernel_rfl) (by kernel_rfl) (fun _ _ _ h => h) (by rfl) (gives_pureF (by rfl) (by kernel_rfl) ?_) ?_
                rotate_left
                · intro d' u' W' hS'
                  have q := (show RuI gx 0 0 0 wr W' ∧ Blk W' gc 45 #[.int .i64 x.least, .int .i64 x.greatest, .int .i64 o1, .int .i64 o2] from hS')
                  have ck := HCK.out W' q.1.b
                  have y1 := (HLD.out W' q.1.b).1
                  have e0 := q.2.get 0 rfl
                  have e1 := q.2.get 1 rfl
                  go_simp
                  rfl
                try simp only [Act.put, List.setIfInBounds_toArray, List.set_cons_zero, List.set_cons_succ, List.getElem_toArray, List.getElem_cons_zero, List.getElem_cons_succ]
              refine wpAnyS_take (i := 10) (v := .tuple #[.agg #[.int .i64 x1, .int .i64 x2, .int .i64 x3], .bool y]) rfl (by kernel_rfl) (by kernel_rfl) (by kernel_rfl) (fun _ _ _ h => h) (by rfl) (gives_callF (by rfl) (by kernel_rfl) _ _ ?_ (fun d' u' W' hS' => (HF.out W').mono (fun _ _ h => ⟨h.1, (show RuI gx 0 0 0 wr W' ∧ Blk W' gc 45 #[.int .i64 x.least, .int .i64 x.greatest, .int .i64 o1, .int .i64 o2] from hS').1.bel h.2, (show RuI gx 0 0 0 wr W' ∧ Blk W' gc 45 #[.int .i64 x.least, .int .i64 x.greatest, .int .i64 o1, .int .i64 o2] from hS').2.below h.2 (show RuI gx 0 0 0 wr W' ∧ Blk W' gc 45 #[.int .i64 x.least, .int .i64 x.greatest, .int .i64 o1, .int .i64 o2] from hS').2.lt⟩))) ?_
              · intro W'
                first | rfl | kernel_rfl
              try simp only [Act.put, List.setIfInBounds_toArray, List.set_cons_zero, List.set_cons_succ, List.getElem_toArray, List.getElem_cons_zero, List.getElem_cons_succ]
              refine wpAnyS_pre (j := 11) (by kernel_rfl) ?_
              iterate 2
                refine wpAnyS_nx (v := ?_) rfl (by kernel_rfl) (by kernel_rfl) (by kernel_rfl) (fun _ _ _ h => h) (by rfl) (gives_pureF (by rfl) (by kernel_rfl) ?_) ?_
                rotate_left
                · intro d' u' W' hS'
                  have q := (show RuI gx 0 0 0 wr W' ∧ Blk W' gc 45 #[.int .i64 x.least, .int .i64 x.greatest, .int .i64 o1, .int .i64 o2] from hS')
                  have ck := HCK.out W' q.1.b
                  have y1 := (HLD.out W' q.1.b).1
                  have e0 := q.2.get 0 rfl
                  have e1 := q.2.get 1 rfl
                  go_simp
                  rfl
                try simp only [Act.put, List.setIfInBounds_toArray, List.set_cons_zero, List.set_cons_succ, List.getElem_toArray, List.getElem_cons_zero, List.getElem_cons_succ]
              refine wpAnyS_take (i := 13) (v := ?_) rfl (by kernel_rfl) (by kernel_rfl) (by kernel_rfl) (fun _ _ _ h => h) (by rfl) (gives_pure (by rfl) ?_) ?_
              rotate_left
              · intro b' d' u' W' hS'
                go_simp
                rfl
              try simp only [Act.put, List.setIfInBounds_toArray, List.set_cons_zero, List.set_cons_succ, List.getElem_toArray, List.getElem_cons_zero, List.getElem_cons_succ]
              refine wpAnyS_store (i := 14) (d := true) (fun W' => (((W'.setCell ⟨gx, 0, none⟩ (.int .i64 x1)).setCell ⟨gx, 1, none⟩ (.int .i64 x2)).setCell ⟨gx, 2, none⟩ (.int .i64 x3))) rfl (by kernel_rfl) (by rfl) (by rfl) (by kernel_rfl) rfl ?_ (fun W' hS' => ⟨(show RuI gx 0 0 0 wr W' ∧ Blk W' gc 45 #[.int .i64 x.least, .int .i64 x.greatest, .int .i64 o1, .int .i64 o2] from hS').1.fin x1 x2 x3, (((show RuI gx 0 0 0 wr W' ∧ Blk W' gc 45 #[.int .i64 x.least, .int .i64 x.greatest, .int .i64 o1, .int .i64 o2] from hS').2.far HNE.out _).far HNE.out _).far HNE.out _⟩) ?_
              · intro W' hS'
                have q := (show RuI gx 0 0 0 wr W' ∧ Blk W' gc 45 #[.int .i64 x.least, .int .i64 x.greatest, .int .i64 o1, .int .i64 o2] from hS')
                have ck := HCK.out W' q.1.b
                have y1 := (HLD.out W' q.1.b).1
                have e0 := q.2.get 0 rfl
                have e1 := q.2.get 1 rfl
                have z0 := q.1.us.get 0 rfl
                have z1 := q.1.us.get 1 rfl
                have z2 := q.1.us.get 2 rfl
                have f0 := q.1.us.frozen 0
                have f1 := q.1.us.frozen 1
                have f2 := q.1.us.frozen 2
                go_simp
                try rfl
              try simp only [Act.put, List.setIfInBounds_toArray, List.set_cons_zero, List.set_cons_succ, List.getElem_toArray, List.getElem_cons_zero, List.getElem_cons_succ]
              refine wpAnyS_take (i := 15) (v := ?_) rfl (by kernel_rfl) (by kernel_rfl) (by kernel_rfl) (fun _ _ _ h => h) (by rfl) (gives_pure (by rfl) ?_) ?_
              rotate_left
              · intro b' d' u' W' hS'
                go_simp
                rfl
              try simp only [Act.put, List.setIfInBounds_toArray, List.set_cons_zero, List.set_cons_succ, List.getElem_toArray, List.getElem_cons_zero, List.getElem_cons_succ]
              refine wpAnyS_done (b := true) (d := true) (by kernel_rfl) (by kernel_rfl) (by kernel_rfl) rfl (fun wS hS => ?_) _
              have HS := Lib.hid (show RuI gx x1 x2 x3 wr wS from hS.1)
              clear hS E0
              go_wp2_with fail
              go_meet
              exact ⟨by rw [HKV.out.2], Lib.hid (by rw [HKV.out.1.1, HKV.out.1.2.1, HKV.out.1.2.2]; exact HS.out)⟩
        case rest =>
        obtain ⟨rfl, HU⟩ := hcut
        as_aux_lemma =>
        obtain ⟨wx, rfl⟩ : ∃ wx, wx = wc := ⟨_, rfl⟩
        have u0 := HU.out.us.get 0 rfl
        have u1' := HU.out.us.get 1 rfl
        have u2' := HU.out.us.get 2 rfl
        have HWX : Hid ((wx.ownsRow w4.heap.size 27 3 (.slice Au k cu) k (triC (fun k => kidU (sD l (ksAt ks k)) u1 (gAt got k)) k) ∧ wx.ownsRow w4.heap.size 4 1 (.slice Ab k cb) k (booC (fun k => kidB (sD l (ksAt ks k)) u1 (gAt got k)) k) ∧ Below w4.heap.size w4 wx) ∧ w4.heap.size ≤ wx.heap.size) := Lib.hid (by
          have hb := HW.out.2.2.trans (HU.out.b.mono HW.out.2.2.size)
          exact ⟨⟨own_kp HW.out.1 (Kp.of_below HU.out.b (fun _ => False)) (fun _ _ h => h), own_kp HW.out.2.1 (Kp.of_below HU.out.b (fun _ => False)) (fun _ _ h => h), hb⟩, hb.size⟩)
        clear HU
        go_upto_region 23 with (at_builtin; refine wpList_app (m := 1) rfl _ _ rfl el_used HWX.out.1.1 HWX.out.2 rfl [.int .i64 z1, .int .i64 z2, .int .i64 z3] rfl rfl (by simp [Value.oneCell']) h9 (by omega) ?_; intro A1 c1 w10 hown10 hB10 hg10 _; have HV2 : Hid (w10.ownsRow w4.heap.size 27 3 (.slice A1 (k + 1) c1) (k + 1) (triC (fun k => kidU (sD l (ksAt ks k)) u1 (gAt got k)) (k + 1)) ∧ w10.ownsRow w4.heap.size 4 1 (.slice Ab k cb) k (booC (fun k => kidB (sD l (ksAt ks k)) u1 (gAt got k)) k) ∧ Below w4.heap.size w4 w10 ∧ w4.heap.size ≤ w10.heap.size) := Lib.hid ⟨by rw [HTI.out.1]; exact hown10, HWX.out.1.2.1.kept hg10 (own_ne HWX.out.1.2.1 HWX.out.1.1 (by decide)), hB10 _ _ (Nat.le_refl _) HWX.out.1.2.2, (hB10 _ _ (Nat.le_refl _) HWX.out.1.2.2).size⟩; clear hown10 hB10 hg10)
        clear u0 u1' u2'
        go_wp2_with (at_builtin; refine wpList_app (m := 1) rfl _ _ rfl el_boo HV2.out.2.1 HV2.out.2.2.2 rfl [.bool zb] rfl rfl (by simp [Value.oneCell']) h9 (by omega) ?_; intro A2 c2 w11 hown11 hB11 hg11 _; have HV4 : Hid (w11.ownsRow w4.heap.size 27 3 (.slice A1 (k + 1) c1) (k + 1) (triC (fun k => kidU (sD l (ksAt ks k)) u1 (gAt got k)) (k + 1)) ∧ w11.ownsRow w4.heap.size 4 1 (.slice A2 (k + 1) c2) (k + 1) (booC (fun k => kidB (sD l (ksAt ks k)) u1 (gAt got k)) (k + 1)) ∧ Below w4.heap.size w4 w11) := Lib.hid ⟨HV2.out.1.kept hg11 (own_ne HV2.out.1 HV2.out.2.1 (by decide)), by rw [HTI.out.2]; exact hown11, hB11 _ _ (Nat.le_refl _) HV2.out.2.2.1⟩; clear hown11 hB11 hg11)
        go_roundw
        case rel => exact ⟨k + 1, by omega, by go_num, HV4⟩
        case measure => simp [intOf] <;> omega
end Go.Proofs.Ytbopeofglhkffaa
