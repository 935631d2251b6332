/- Rows of numbers in memory: a slice of slices, each in a block of its own. -/
import Derived.Test.YtbopeofglhkffaaIta
import Derived.Test.YtbopeofglhkffaaSth
import Derived.Test.YtbopeofglhkffaaTra
import Derived.Test.YtbopeofglhkffaaWs
import Derived.Test.YtbopeofglhkffaaApp
import Derived.Laws.OwnMore
import Derived.OneCell
set_option linter.unusedSimpArgs false
set_option linter.unusedVariables false
namespace Go.Proofs.Ytbopeofglhkffaa
open Go.RowKit
attribute [local go_sem] block_of_add run_store_hi run_store_lo
/-- The items of the numbers below n, each in a block of its own. -/
structure Its (n : Nat) (B : Nat → Nat) (M : Nat → It) (w : World) : Prop where
  b : ∀ k, k < n → Blk w (B k) 89 (itCells (M k)).toArray
  inj : ∀ i j, i < n → j < n → B i = B j → i = j
def isB (n : Nat) (B : Nat → Nat) (g : Nat) : Prop := ∃ k, k < n ∧ g = B k
section
variable {n : Nat} {B : Nat → Nat} {M : Nat → It} {w w' : World}
theorem Its.bel (h : Its n B M w) (hb : Below w.heap.size w w') : Its n B M w' := ⟨fun k hk => (h.b k hk).below hb (h.b k hk).lt, h.inj⟩
theorem Its.drew (h : Its n B M w) : Its n B M w.drew := ⟨fun k hk => (h.b k hk).drew, h.inj⟩
theorem Its.congr {M' : Nat → It} (h : Its n B M w) (e : ∀ k, k < n → M k = M' k) : Its n B M' w := ⟨fun k hk => e k hk ▸ h.b k hk, h.inj⟩
end
def styD : Sty := ⟨0, false, 0, 0, ⟨0, 0⟩, ⟨0, 0⟩, ⟨0, 0⟩, ⟨0, 0⟩, ⟨0, 0⟩, ⟨0, 0⟩, ⟨0, 0⟩, ⟨0, 0⟩, ⟨0, 0⟩, ⟨0, 0⟩, 0, 0, 0, 0, 0, 0, 0, 0, 0, 0, false, 0, 0, 0, 0, 0, ⟨0, 0⟩, [], .slice none 0 0⟩
def stK (l : List Sty) (k : Nat) : Sty := (l[k]?).getD styD
theorem stK_at {l : List Sty} {k : Nat} (h : k < l.length) : stK l k = l[k] := by unfold stK; rw [List.getElem?_eq_getElem h]; rfl
/-- All items, as kids stand. -/
def itM (l : List Sty) (c : Int) (got : List Cn) (k : Nat) : It := measF (stK l k) c (gAt got k).greatest
def ptrC (B : Nat → Nat) (ks : List Nat) : List Value := ks.map fun k => Value.pointer (some ⟨B k, 0, none⟩)
def ptrU (B : Nat → Nat) (k n : Nat) : List Value := (List.range n).map fun i => if i < k then Value.pointer (some ⟨B i, 0, none⟩) else Value.pointer none
theorem ptrU_len (B : Nat → Nat) (k n : Nat) : (ptrU B k n).length = n := by simp [ptrU]
theorem ptrU_all (B : Nat → Nat) (n : Nat) : ptrU B n n = ptrC B (List.range n) := List.map_congr_left fun x hx => if_pos (List.mem_range.1 hx)
theorem ptrU_none (B : Nat → Nat) (n : Nat) : ptrU B 0 n = List.replicate n (Value.pointer none) := by
  apply List.ext_getElem <;> simp [ptrU]
theorem ptrU_at (B : Nat → Nat) (k n : Nat) (h : k < n) : (ptrU B k n).toArray[k]? = some (.pointer none) := by simp [ptrU, h]
theorem ptrU_set (B : Nat → Nat) (k n g : Nat) (h : k < n) : (ptrU B k n).toArray.setIfInBounds k (.pointer (some ⟨g, 0, none⟩)) = (ptrU (fun i => if i = k then g else B i) (k + 1) n).toArray := by
  apply Array.ext_getElem?
  intro x
  simp only [Array.getElem?_setIfInBounds, List.size_toArray, ptrU_len, List.getElem?_toArray]
  by_cases hx : x < n
  · have hr : (ptrU (fun i => if i = k then g else B i) (k + 1) n)[x]? = some (if x < k + 1 then Value.pointer (some ⟨if x = k then g else B x, 0, none⟩) else Value.pointer none) := by simp [ptrU, hx]
    have hl : (ptrU B k n)[x]? = some (if x < k then Value.pointer (some ⟨B x, 0, none⟩) else Value.pointer none) := by simp [ptrU, hx]
    rw [hr, hl]
    by_cases e : k = x
    · subst e; simp [h]
    · have e2 : ¬ x = k := fun h => e h.symm
      have : (x < k + 1) = (x < k) := by apply propext; omega
      simp [e, e2, this]
  · have hr : (ptrU (fun i => if i = k then g else B i) (k + 1) n)[x]? = none := List.getElem?_eq_none (by rw [ptrU_len]; omega)
    have e : ¬ k = x := by omega
    have hl : (ptrU B k n)[x]? = none := List.getElem?_eq_none (by rw [ptrU_len]; omega)
    rw [hr, hl]; simp [e]
theorem el_ptr : El Try.prog 79 82 (.pointer none) 1 8 := ⟨Try.underlying79, by kernel_rfl, rfl, by decide⟩
theorem make_ptrs (n : Nat) (hn : n ≤ 1000000) (w : World) : (Instr.makeSlice 79 (.int .i64 (n : Int)) (.int .i64 (n : Int))).run Try.prog w = .ok (.slice (some ⟨w.heap.size, 0, none⟩) n n) (w.alloc (.cells (ptrU (fun _ => 0) 0 n).toArray 82)) := by
  obtain ⟨i, hi, hz, hs, hb⟩ := info_parts el_ptr.info
  have h := run_makeSlice (P := Try.prog) (w := w) 79 82 i (.pointer none) el_ptr.ht hi hz .i64 .i64 (n : Int) (n : Int) (by omega) (by omega) (by rw [hs]; omega) (by rw [hb]; omega) (by omega)
  have hm : madeCells (Value.pointer none).cells (n * 1) = (ptrU (fun _ => 0) 0 n).toArray := by
    rw [ptrU_none]
    apply Array.toList_inj.1
    show (madeCells #[.pointer none] (n * 1)).toList = _
    rw [Nat.mul_one, toList_madeCells_one]
  rw [h, hs, Int.toNat_natCast, hm]
/-- What measured asks of the styles. -/
structure StM (s : Sty) : Prop where
  m1 : LnM s.m1
  m3 : LnM s.m3
  w : LnM s.w
  basis : LnM s.basis
  maxw : LnM s.maxw
  minw : LnM s.minw
  b : StyB s
/-- The variables of measured. -/
structure MdI (N n : Nat) (l : List Sty) (c : Int) (got : List Cn) (k : Nat) (B : Nat → Nat) (w wr : World) : Prop where
  all : Blk wr N 45 (cnsCells (allF got n)).toArray
  pt : Blk wr (N + 1) 82 (ptrU B k n).toArray
  its : Its k B (itM l c got) wr
  ge : ∀ i, i < k → N + 1 < B i
  b : Below N w wr
structure MdS (N gs k : Nat) (s : Sty) (x : Cn) (W : World) : Prop where
  st : Blk W gs 52 (styCells s).toArray
  c0 : W.cell? ⟨N, k * 4, none⟩ = some (.int .i64 x.least)
  c1 : W.cell? ⟨N, k * 4 + 1, none⟩ = some (.int .i64 x.greatest)
  c2 : W.cell? ⟨N, k * 4 + 2, none⟩ = some (.int .i64 x.ol)
  c3 : W.cell? ⟨N, k * 4 + 3, none⟩ = some (.int .i64 x.og)
  lt : N < W.heap.size
theorem MdS.bel {N gs k : Nat} {s : Sty} {x : Cn} {W W' : World} (h : MdS N gs k s x W) (hb : Below W.heap.size W W') : MdS N gs k s x W' :=
  ⟨h.st.below hb h.st.lt, (hb.cell (p := ⟨N, k * 4, none⟩) h.lt).trans h.c0, (hb.cell (p := ⟨N, k * 4 + 1, none⟩) h.lt).trans h.c1, (hb.cell (p := ⟨N, k * 4 + 2, none⟩) h.lt).trans h.c2, (hb.cell (p := ⟨N, k * 4 + 3, none⟩) h.lt).trans h.c3, Nat.lt_of_lt_of_le h.lt hb.size⟩
structure MeasAns (n : Nat) (l : List Sty) (c : Int) (got : List Cn) (w w' : World) (e : Ending) : Prop where
  ex : ∃ B, e = .returned (.slice (some ⟨w.heap.size + 1, 0, none⟩) n n) ∧ Blk w' (w.heap.size + 1) 82 (ptrC B (List.range n)).toArray ∧ Its n B (itM l c got) w' ∧ ∀ k, k < n → w.heap.size + 1 < B k
  b : Below w.heap.size w w'
set_option maxRecDepth 100000 in
set_option maxHeartbeats 2000000 in
theorem measured_any (l : List Sty) (got : List Cn) (c : Int) (A Ag : Option Addr) (ck cg : Nat) (w : World) (hn : l.length ≤ 100000) (hr : Reads w w.heap.size 43 A l.length (stysCells l)) (huv : ∀ s ∈ l, ∃ Au nu cu, s.uv = .slice Au nu cu)
    (hg : Reads w w.heap.size 4 Ag got.length (cnsCells got)) (hc : CB c) (hs : ∀ s ∈ l, StM s) (hgc : ∀ x ∈ got, 0 ≤ x.greatest ∧ x.greatest ≤ 1099511627776) :
    Calls Try.prog 37 #[.int .i64 c, .slice A l.length ck, .slice Ag got.length cg] w fun e w' => MeasAns l.length l c got w w' e := by
  have HR := Lib.hid hr
  have HGC := Lib.hid hgc
  have HS := Lib.hid hs
  have HC := Lib.hid hc
  have HUV := Lib.hid huv
  obtain ⟨v16, hcp⟩ := run_copy_cns (P := Try.prog) w 28 28 3 45 el_cn.ht (by kernel_rfl) l.length cg got 45 hg (Nat.le_refl _)
  clear hr hgc hs hc hg huv
  obtain ⟨n, hne⟩ : ∃ n, n = l.length := ⟨_, rfl⟩
  rw [← hne] at hn hcp ⊢
  rw [← hne] at HR
  have HN := Lib.hid hne
  clear hne
  have hmk := fun W => make_cns n (by omega) W
  have hmk2 := fun W => make_ptrs n (by omega) W
  go_enter Try.func37, Try.ntmps37
  go_wp2_with fail
  go_loopw [22] (fun kv wr => ∃ k : Nat, k ≤ n ∧ kv = .int .i64 k ∧ Hid (∃ B, MdI w.heap.size n l c got k B w wr)) (fun kv _ => n - (intOf kv).toNat)
  case atStart =>
    exact ⟨0, by omega, rfl, Lib.hid ⟨fun _ => 0, (Blk.new _ _ _).alloc _, Blk.at_ _ _ _ (by simp), ⟨fun k h => by omega, fun i j h => by omega⟩, fun i h => by omega, ((Below.refl _ _).alloc (Nat.le_refl _) _).alloc (by simp) _⟩⟩
  case round =>
    obtain ⟨k, hk, rfl, H⟩ := hrel
    obtain ⟨B, hB⟩ := H.out
    have HB := Lib.hid hB
    clear hB H
    by_cases hlt : k < n
    · have g0 : decide ((k : Int) < (n : Int)) = true := decide_eq_true (by omega)
      have g0' : decide (k < n) = true := decide_eq_true hlt
      have hki : (k : Int) < (n : Int) := by omega
      have hk0 : (0 : Int) ≤ (k : Int) := by omega
      have wk : IntKind.i64.wrap ((k : Int) + 1) = (k : Int) + 1 := IntWalk.i64_in _ ⟨by omega, by omega⟩
      have hkl : k < l.length := by rw [← HN.out]; exact hlt
      obtain ⟨ad, rfl, hst⟩ := HR.out.st HN.out hkl
      obtain ⟨s, hse⟩ : ∃ s, s = l[k] := ⟨_, rfl⟩
      have HLD : Hid (∀ j u, (styCells s)[j]? = some u → wr.cell? ((ad.add (k * 43)).add j) = some u) := Lib.hid (fun j u hu => by
        obtain ⟨ad', e, hb, hcc⟩ := (HR.out.below HB.out.b).2 (by omega)
        injection e with e; subst e
        have hj : j < 43 := by have := (List.getElem?_eq_some_iff.1 hu).1; rw [sty_len] at this; exact this
        rw [add_of_add]
        exact hcc _ u (by rw [stysCells_at l k j hkl hj, ← hse]; exact hu))
      obtain ⟨Au, nu, cu, huv⟩ := HUV.out l[k] (List.getElem_mem hkl)
      have HO := Lib.hid (Sty.one s (by rw [hse]; exact huv))
      have HSS := Lib.hid (HS.out l[k] (List.getElem_mem hkl))
      rw [← hse] at HSS
      have HIT : Hid (itM l c got k = measF s c (gAt got k).greatest) := Lib.hid (by unfold itM; rw [stK_at hkl, ← hse])
      clear hse hst huv
      go_upto_region 7 with (first
        | refine wpList_load_at rfl 52 _ rfl _ rfl (styCells s) _ HLD.out Try.underlying52 rfl (by kernel_rfl) ?_
        | refine wpList_store_new rfl 52 _ _ rfl _ (by simp) (styCells s).toArray rfl rfl 52 _ (by kernel_rfl) rfl HO.out ?_)
      have hx : (allF got n)[k]'(by rw [allF_len]; exact hlt) = gAt got k := by simp only [allF, List.getElem_map, List.getElem_range]
      have hxb : 0 ≤ (gAt got k).greatest ∧ (gAt got k).greatest ≤ 1099511627776 := by
        by_cases h : k < got.length
        · have := HGC.out got[k] (List.getElem_mem h)
          unfold gAt; rw [List.getElem?_eq_getElem h]; exact this
        · unfold gAt; rw [List.getElem?_eq_none (by omega)]; simp
      have HX := Lib.hid (And.intro hx hxb)
      clear hx hxb
      have HQ0 : Hid (MdS w.heap.size wr.heap.size k s (gAt got k) (wr.alloc (.cells (styCells s).toArray 52))) := Lib.hid ⟨Blk.new _ _ _,
        (World.cell?_alloc_lt _ _ _ HB.out.all.lt).trans (HB.out.all.get (k * 4) (by have := cnsCells_at (allF got n) k 0 (by rw [allF_len]; exact hlt) (by omega); rw [HX.out.1] at this; simpa [cnCells] using this)),
        (World.cell?_alloc_lt _ _ _ HB.out.all.lt).trans (HB.out.all.get (k * 4 + 1) (by have := cnsCells_at (allF got n) k 1 (by rw [allF_len]; exact hlt) (by omega); rw [HX.out.1] at this; simpa [cnCells] using this)),
        (World.cell?_alloc_lt _ _ _ HB.out.all.lt).trans (HB.out.all.get (k * 4 + 2) (by have := cnsCells_at (allF got n) k 2 (by rw [allF_len]; exact hlt) (by omega); rw [HX.out.1] at this; simpa [cnCells] using this)),
        (World.cell?_alloc_lt _ _ _ HB.out.all.lt).trans (HB.out.all.get (k * 4 + 3) (by have := cnsCells_at (allF got n) k 3 (by rw [allF_len]; exact hlt) (by omega); rw [HX.out.1] at this; simpa [cnCells] using this)),
        by have := HB.out.all.lt; simp; omega⟩
      have HE0 : Hid (Blk (wr.alloc (.cells (styCells s).toArray 52)) w.heap.size 45 (cnsCells (allF got n)).toArray ∧ Blk (wr.alloc (.cells (styCells s).toArray 52)) (w.heap.size + 1) 82 (ptrU B k n).toArray ∧ Its k B (itM l c got) (wr.alloc (.cells (styCells s).toArray 52)) ∧ Below w.heap.size w (wr.alloc (.cells (styCells s).toArray 52)) ∧ wr.heap.size < (wr.alloc (.cells (styCells s).toArray 52)).heap.size) := Lib.hid
        ⟨HB.out.all.alloc _, HB.out.pt.alloc _, HB.out.its.bel (bal (Below.refl _ _) _), bal HB.out.b _, by simp⟩
      obtain ⟨w1, hw1⟩ : ∃ w1, w1 = wr.alloc (.cells (styCells s).toArray 52) := ⟨_, rfl⟩
      rw [← hw1] at HQ0 HE0 ⊢
      clear hw1
      obtain ⟨gs, hgs⟩ : ∃ gs, gs = wr.heap.size := ⟨_, rfl⟩
      rw [← hgs] at HQ0 HE0 ⊢
      have HGS := Lib.hid hgs
      clear hgs
      have HM := Lib.hid (measure_any s c (gAt got k) w1.drew HSS.out.m1 HSS.out.m3 HSS.out.w HSS.out.basis HSS.out.maxw HSS.out.minw HC.out HSS.out.b HX.out.2)
      obtain ⟨gi, hgi⟩ : ∃ gi, gi = w1.drew.heap.size + 1 + 1 := ⟨_, rfl⟩
      rw [← hgi] at HM
      have HGI : Hid (w1.heap.size < gi) := Lib.hid (by rw [hgi]; show w1.heap.size < w1.heap.size + 1 + 1; omega)
      clear hgi
      have E0 : MdS w.heap.size gs k s (gAt got k) w1.drew := HQ0.out.bel (Below.refl _ _).drew
      try simp only [Act.put]
      refine wp_region_held_drew (S := MdS w.heap.size gs k s (gAt got k)) (by kernel_rfl) E0 (fun hS => ?_)
      refine wpAnyH_pre (j := 0) (by kernel_rfl) ?_
      iterate 2
        refine wpAnyH_nx (v := ?_) rfl (by kernel_rfl) (by kernel_rfl) (by kernel_rfl) (fun _ _ _ h => h) (Or.inl ⟨by rfl, ?_⟩) hS ?_
        rotate_left
        · intro W' hS'
          have q0 := hS'.c0
          have q1 := hS'.c1
          have q2 := hS'.c2
          have q3 := hS'.c3
          go_simp
          rfl
        try simp only [Act.put, List.setIfInBounds_toArray, List.set_cons_zero, List.set_cons_succ, List.getElem_toArray, List.getElem_cons_zero, List.getElem_cons_succ]
      refine wpAnyH_take (i := 2) (v := .agg (styCells s).toArray) rfl (by kernel_rfl) (by kernel_rfl) (by kernel_rfl) (fun _ _ _ h => h) ?_ hS ?_
      · exact yieldsIf_load_mid (by rfl) 52 (.tmp 10) rfl gs 0 rfl (styCells s) _ (fun W' hS' => sty_rngB hS'.st) Try.underlying52 rfl (by kernel_rfl)
      try simp only [Act.put, List.setIfInBounds_toArray, List.set_cons_zero, List.set_cons_succ, List.getElem_toArray, List.getElem_cons_zero, List.getElem_cons_succ]
      refine wpAnyH_pre (j := 3) (by kernel_rfl) ?_
      iterate 5
        refine wpAnyH_nx (v := ?_) rfl (by kernel_rfl) (by kernel_rfl) (by kernel_rfl) (fun _ _ _ h => h) (Or.inl ⟨by rfl, ?_⟩) hS ?_
        rotate_left
        · intro W' hS'
          have q0 := hS'.c0
          have q1 := hS'.c1
          have q2 := hS'.c2
          have q3 := hS'.c3
          go_simp
          rfl
        try simp only [Act.put, List.setIfInBounds_toArray, List.set_cons_zero, List.set_cons_succ, List.getElem_toArray, List.getElem_cons_zero, List.getElem_cons_succ]
      refine wpAnyH_ready (rs := [8]) (by kernel_rfl) (by simp) (AllReadyH.cons rfl (fun K hK => ?_) AllReadyH.nil)
      go_simp
      refine HM.out.mono ?_
      rintro e w2 ⟨rfl, hbk, hb2⟩
      have HB2 := Lib.hid (And.intro hbk (And.intro (show Below w1.heap.size w1 w2 from (Below.refl w1.heap.size w1).drew.trans hb2) hb2))
      clear hbk hb2
      have p1 : w2.cell? ⟨w.heap.size + 1, k, none⟩ = some (.pointer none) := (HE0.out.2.1.below (HB2.out.2.1) HE0.out.2.1.lt).get k (ptrU_at B k n hlt)
      have p2 : w2.frozen? ⟨w.heap.size + 1, k, none⟩ = false := (HE0.out.2.1.below (HB2.out.2.1) HE0.out.2.1.lt).frozen k
      refine hK.out _ _ (hS.bel HB2.out.2.2) (fun hS => ?_)
      try simp only [Act.put, List.setIfInBounds_toArray, List.set_cons_zero, List.set_cons_succ, List.getElem_toArray, List.getElem_cons_zero, List.getElem_cons_succ]
      clear hK
      refine wpAnyH_take (i := 9) (v := ?_) rfl (by kernel_rfl) (by kernel_rfl) (by kernel_rfl) (fun _ _ _ h => h) (Or.inl ⟨by rfl, ?_⟩) hS ?_
      rotate_left
      · intro W' hS'
        have q0 := hS'.c0
        have q1 := hS'.c1
        have q2 := hS'.c2
        have q3 := hS'.c3
        go_simp
        rfl
      try simp only [Act.put, List.setIfInBounds_toArray, List.set_cons_zero, List.set_cons_succ, List.getElem_toArray, List.getElem_cons_zero, List.getElem_cons_succ]
      refine wpAnyH_ready (rs := [10]) (by kernel_rfl) (by simp) (AllReadyH.cons rfl (fun K hK => ?_) AllReadyH.nil)
      go_simp
      refine hK.out _ _ (⟨hS.st.far (by show gs ≠ w.heap.size + 1; have := HGS.out; have := HB.out.pt.lt; omega) _, (World.cell?_setCell_far _ _ _ _ (by simp)).trans hS.c0, (World.cell?_setCell_far _ _ _ _ (by simp)).trans hS.c1, (World.cell?_setCell_far _ _ _ _ (by simp)).trans hS.c2, (World.cell?_setCell_far _ _ _ _ (by simp)).trans hS.c3, by have := hS.lt; simpa [World.setCell] using this⟩) (fun hS => ?_)
      try simp only [Act.put, List.setIfInBounds_toArray, List.set_cons_zero, List.set_cons_succ, List.getElem_toArray, List.getElem_cons_zero, List.getElem_cons_succ]
      clear hK
      refine wpAnyH_done (by kernel_rfl) ?_ _
      clear hS p1 p2
      have HF : Hid (MdI w.heap.size n l c got (k + 1) (fun i => if i = k then gi else B i) w (w2.setCell ⟨w.heap.size + 1, k, none⟩ (.pointer (some ⟨gi, 0, none⟩)))) := Lib.hid (by
        have z1 := HE0.out.2.1.lt
        have z2 := HGI.out
        have b2 : Below w1.heap.size w1 w2 := HB2.out.2.1
        refine ⟨(HE0.out.1.below b2 HE0.out.1.lt).far (by show w.heap.size ≠ w.heap.size + 1; omega) _, ?_, ⟨fun i hi => ?_, fun i j hi hj e => ?_⟩, fun i hi => ?_, (HE0.out.2.2.2.1.trans (b2.mono (by omega))).setCell (p := ⟨w.heap.size + 1, k, none⟩) (by show w.heap.size ≤ w.heap.size + 1; omega) _⟩
        · rw [← ptrU_set B k n gi hlt]; exact (HE0.out.2.1.below b2 z1).set_ k _
        · by_cases e : i = k
          · subst e
            simp only [if_true]
            rw [HIT.out]
            exact HB2.out.1.far (by show gi ≠ w.heap.size + 1; omega) _
          · simp only [if_neg e]
            have := HB.out.ge i (by omega)
            exact (((HE0.out.2.2.1.b i (by omega)).below b2 (HE0.out.2.2.1.b i (by omega)).lt)).far (by show B i ≠ w.heap.size + 1; omega) _
        · have li : ∀ i, i < k → B i < w1.heap.size := fun i hi => (HE0.out.2.2.1.b i hi).lt
          by_cases e1 : i = k <;> by_cases e2 : j = k
          · omega
          · simp only [if_pos e1, if_neg e2] at e; have := li j (by omega); omega
          · simp only [if_neg e1, if_pos e2] at e; have := li i (by omega); omega
          · simp only [if_neg e1, if_neg e2] at e; exact HB.out.its.inj i j (by omega) (by omega) e
        · by_cases e : i = k
          · simp only [if_pos e]; omega
          · simp only [if_neg e]; exact HB.out.ge i (by omega))
      go_wp2_with fail
      go_roundw
      case rel => exact ⟨k + 1, by omega, by go_num, Lib.hid ⟨_, HF.out⟩⟩
      case measure => simp [intOf] <;> omega
    · have g0 : decide ((k : Int) < (n : Int)) = false := decide_eq_false (by omega)
      have g0' : decide (k < n) = false := decide_eq_false hlt
      have hkn : k = n := by omega
      rw [hkn] at HB
      have hP := ptrU_all B n
      have HP := Lib.hid hP
      clear hkn hlt hP
      go_wp2_with fail
      go_ret
      exact ⟨⟨B, rfl, by rw [← HP.out]; exact HB.out.pt, HB.out.its, HB.out.ge⟩, HB.out.b⟩
end Go.Proofs.Ytbopeofglhkffaa
namespace Go.Proofs.Ytbopeofglhkffaa
open Go.RowKit
def nCells (l : List Nat) : List Value := l.map fun x : Nat => Value.int .i64 (x : Int)
theorem nCells_app (a : List Nat) (k : Nat) : nCells (a ++ [k]) = nCells a ++ [.int .i64 (k : Int)] := by simp [nCells]
def rowAt (rows : List (List Nat)) (p : Nat) : List Nat := (rows[p]?).getD []
theorem el_row : El Try.prog 34 36 (.slice none 0 0) 1 24 := ⟨Try.underlying34, by kernel_rfl, rfl, by decide⟩
/-- Blocks of two types are two. -/
theorem own_ne {w : World} {base base' : Nat} {e e' : TypeId} {size size' n n' : Nat} {v v' : Value} {xs xs' : List Value} (h : w.ownsRow base e size v n xs) (h' : w.ownsRow base' e' size' v' n' xs') (hne : e ≠ e') : v.ownBlock = none ∨ v.ownBlock ≠ v'.ownBlock := by
  rcases h.2 with ⟨h1, _⟩ | ⟨g, cap, cur, h1, _, hg, _⟩
  · exact .inl (by rw [h1]; rfl)
  · refine .inr fun e0 => ?_
    rcases h'.2 with ⟨h2, _⟩ | ⟨g', cap', cur', h2, _, hg', _⟩
    · rw [h1, h2] at e0; simp [Value.ownBlock] at e0
    · rw [h1, h2] at e0
      have : g = g' := by simpa [Value.ownBlock] using e0
      subst this
      rw [hg] at hg'
      injection hg' with hg'
      injection hg' with _ ht
      exact hne ht
structure RInv (rows : List (List Nat)) (base : Nat) (vs : List Value) (v : Value) (w : World) : Prop where
  len : vs.length = rows.length
  own : ∀ p (h : p < vs.length), w.ownsRow base 3 1 vs[p] (rowAt rows p).length (nCells (rowAt rows p))
  ne : ∀ p q (hp : p < vs.length) (hq : q < vs.length), p ≠ q → vs[p].ownBlock = none ∨ vs[p].ownBlock ≠ vs[q].ownBlock
  v : w.ownsRow base 36 1 v vs.length vs
section
variable {rows : List (List Nat)} {base : Nat} {vs : List Value} {v : Value} {w w' : World}
theorem RInv.start (base : Nat) (w : World) : RInv [] base [] (.slice none 0 0) w := ⟨rfl, fun p h => by simp at h, fun p q h => by simp at h, World.ownsRow_nil _ _ _ _⟩
theorem RInv.kept (h : RInv rows base vs v w) (hb : Below w.heap.size w w') : RInv rows base vs v w' := ⟨h.len, fun p hp => own_below (h.own p hp) hb, h.ne, own_below h.v hb⟩
theorem RInv.low (h : RInv rows base vs v w) {a : Addr} (ha : a.block < base) (u : Value) : RInv rows base vs v (w.setCell a u) := ⟨h.len, fun p hp => ownsRow_setCell_below (h.own p hp) ha u, h.ne, ownsRow_setCell_below h.v ha u⟩
/-- A store into a block that was made later. -/
theorem RInv.far {w0 : World} (h : RInv rows base vs v w) (h0 : RInv rows base vs v w0) {g : Nat} (hg : w0.heap.size ≤ g) (i : Nat) (u : Value) : RInv rows base vs v (w.setCell ⟨g, i, none⟩ u) :=
  ⟨h.len, fun p hp => ownsRow_setCell_other (h.own p hp) (a := ⟨g, i, none⟩) (fun e => by have := ((h0.own p hp).lt g e).2; omega) u, h.ne, ownsRow_setCell_other h.v (a := ⟨g, i, none⟩) (fun e => by have := (h0.v.lt g e).2; omega) u⟩
/-- A row more, with nothing in it. -/
theorem RInv.push (h : RInv rows base vs v w) {nv : Value} (hown : w'.ownsRow base 36 1 nv (vs.length + 1) (vs ++ [.slice none 0 0])) (hg : w.grownBy w' v.ownBlock) : RInv (rows ++ [[]]) base (vs ++ [.slice none 0 0]) nv w' := by
  refine ⟨by simp [h.len], fun p hp => ?_, fun p q hp hq hne => ?_, by simpa using hown⟩
  · by_cases hl : p < vs.length
    · rw [List.getElem_append_left hl]
      have e : rowAt (rows ++ [[]]) p = rowAt rows p := by unfold rowAt; rw [List.getElem?_append_left (by rw [← h.len]; exact hl)]
      rw [e]
      exact (h.own p hl).kept hg (own_ne (h.own p hl) h.v (by decide))
    · have hpe : p = vs.length := by simp at hp; omega
      subst hpe
      have e : rowAt (rows ++ [[]]) vs.length = [] := by unfold rowAt; rw [List.getElem?_append_right (by rw [h.len]; exact Nat.le_refl _), h.len]; simp
      rw [e]
      simp only [List.getElem_append_right (Nat.le_refl _), Nat.sub_self, List.getElem_cons_zero]
      exact World.ownsRow_nil _ _ _ _
  · by_cases hl : p < vs.length
    · by_cases hl2 : q < vs.length
      · rw [List.getElem_append_left hl, List.getElem_append_left hl2]; exact h.ne p q hl hl2 hne
      · have hqe : q = vs.length := by simp at hq; omega
        subst hqe
        rw [List.getElem_append_left hl]
        simp only [List.getElem_append_right (Nat.le_refl _), Nat.sub_self, List.getElem_cons_zero]
        cases hb : vs[p].ownBlock with
        | none => exact .inl rfl
        | some b => exact .inr (by simp [Value.ownBlock])
    · have hpe : p = vs.length := by simp at hp; omega
      subst hpe
      simp only [List.getElem_append_right (Nat.le_refl _), Nat.sub_self, List.getElem_cons_zero]
      exact .inl rfl
/-- A number more at the end of a row. -/
theorem RInv.add (h : RInv rows base vs v w) {q k : Nat} (hq : q < vs.length) {nv : Value} (hown : w'.ownsRow base 3 1 nv ((rowAt rows q).length + 1) (nCells (rowAt rows q) ++ [.int .i64 (k : Int)])) (hg : w.grownBy w' vs[q].ownBlock)
    (hob : nv.ownBlock = vs[q].ownBlock ∨ w.heap.size ≤ (nv.ownBlock).getD w.heap.size) {g n c : Nat} (hv : v = .slice (some ⟨g, 0, none⟩) n c) : RInv (rows.set q (rowAt rows q ++ [k])) base (vs.set q nv) v (w'.setCell ⟨g, q, none⟩ nv) := by
  have hv' : w'.ownsRow base 36 1 v vs.length vs := h.v.kept hg (own_ne h.v (h.own q hq) (by decide))
  have lt : ∀ p (hp : p < vs.length) (b : Nat), vs[p].ownBlock = some b → b < w.heap.size := fun p hp b e => ((h.own p hp).lt b e).2
  have far : ∀ {u : Value} {n : Nat} {xs : List Value}, w'.ownsRow base 3 1 u n xs → (w'.setCell ⟨g, q, none⟩ nv).ownsRow base 3 1 u n xs := fun {u n xs} hu => ownsRow_setCell_other hu (a := ⟨g, q, none⟩) (by
    rcases own_ne hu hv' (by decide) with e | e
    · rw [e]; simp
    · rw [hv] at e; simpa [Value.ownBlock] using e) _
  refine ⟨by simp [h.len], fun p hp => ?_, fun p r hp hr hne => ?_, ?_⟩
  · rw [List.length_set] at hp
    rw [List.getElem_set]
    by_cases hpq : q = p
    · subst hpq
      rw [if_pos rfl]
      have e : rowAt (rows.set q (rowAt rows q ++ [k])) q = rowAt rows q ++ [k] := by
        have : q < rows.length := by rw [← h.len]; exact hq
        unfold rowAt; rw [List.getElem?_set_self this]; rfl
      rw [e, nCells_app, List.length_append]
      exact far hown
    · rw [if_neg hpq]
      have e : rowAt (rows.set q (rowAt rows q ++ [k])) p = rowAt rows p := by unfold rowAt; rw [List.getElem?_set_ne hpq]
      rw [e]
      exact far ((h.own p hp).kept hg (h.ne p q hp hq (fun e => hpq e.symm)))
  · rw [List.length_set] at hp hr
    rw [List.getElem_set, List.getElem_set]
    by_cases h1 : q = p
    · subst h1
      rw [if_pos rfl, if_neg hne]
      rcases hob with hob | hob
      · rw [hob]; exact h.ne q r hp hr hne
      · cases hn : nv.ownBlock with
        | none => exact .inl rfl
        | some b =>
          refine .inr fun e => ?_
          have := lt r hr b e.symm
          rw [hn] at hob; simp at hob; omega
    · rw [if_neg h1]
      by_cases h2 : q = r
      · subst h2
        rw [if_pos rfl]
        rcases hob with hob | hob
        · rw [hob]; exact h.ne p q hp hr hne
        · cases hn : vs[p].ownBlock with
          | none => exact .inl rfl
          | some b =>
            refine .inr fun e => ?_
            have := lt p hp b hn
            rw [← e] at hob; simp at hob; omega
      · rw [if_neg h2]; exact h.ne p r hp hr hne
  · rw [List.length_set]
    have hn : n = vs.length := by
      rcases hv'.2 with ⟨h1, h2⟩ | ⟨g', cap, cur, h1, _⟩
      · rw [hv] at h1; cases h1
      · rw [hv] at h1; injection h1
    rw [hv, hn] at hv' ⊢
    exact (hv'.stored q nv).1
end
/-- Rows of numbers that can be read; all their blocks from lo on, below B. -/
structure RowsAt (w : World) (lo B : Nat) (v : Value) (rows : List (List Nat)) : Prop where
  ex : ∃ A c, v = .slice A rows.length c ∧ rows.length ≤ c ∧ (0 < rows.length → ∃ g, A = some ⟨g, 0, none⟩ ∧ lo ≤ g ∧ g < B ∧
    ∀ p, p < rows.length → ∃ Ar cr, w.cell? ⟨g, p, none⟩ = some (.slice Ar (rowAt rows p).length cr) ∧ (rowAt rows p).length ≤ cr ∧ Reads w B 1 Ar (rowAt rows p).length (nCells (rowAt rows p)) ∧ ∀ ad, Ar = some ad → lo ≤ ad.block)
theorem RowsAt.keep {w w' : World} {lo B : Nat} {v : Value} {rows : List (List Nat)} (h : RowsAt w lo B v rows) (hk : ∀ p : Addr, lo ≤ p.block → p.block < B → w'.cell? p = w.cell? p) : RowsAt w' lo B v rows := by
  obtain ⟨A, c, e, hc, h0⟩ := h.ex
  refine ⟨A, c, e, hc, fun hp => ?_⟩
  obtain ⟨g, hA, h1, h2, h3⟩ := h0 hp
  refine ⟨g, hA, h1, h2, fun p hp => ?_⟩
  obtain ⟨Ar, cr, h4, h5, h6, h7⟩ := h3 p hp
  refine ⟨Ar, cr, (hk ⟨g, p, none⟩ h1 h2).trans h4, h5, ⟨h6.1, fun hl => ?_⟩, h7⟩
  obtain ⟨ad, ea, hb, hcell⟩ := h6.2 hl
  exact ⟨ad, ea, hb, fun j u hu => (hk _ (by rw [block_of_add]; exact h7 ad ea) (by rw [block_of_add]; exact hb)).trans (hcell j u hu)⟩
theorem RowsAt.below {w w' : World} {lo B : Nat} {v : Value} {rows : List (List Nat)} (h : RowsAt w lo B v rows) (hb : Below B w w') : RowsAt w' lo B v rows := h.keep fun _ _ h2 => hb.cell h2
theorem RInv.fin {rows : List (List Nat)} {base lo : Nat} {vs : List Value} {v : Value} {w : World} (h : RInv rows base vs v w) (hl : lo ≤ base) : RowsAt w lo w.heap.size v rows := by
  obtain ⟨A, c, e⟩ := own_form h.v
  have hc := own_cap (e ▸ h.v)
  have hv := h.v
  rw [e] at hv
  have hlt := hv.lt
  have hcell := @World.ownsRow.cells _ _ _ _ _ _ _ hv
  refine ⟨A, c, by rw [e, h.len], by rw [← h.len]; exact hc, fun h0 => ?_⟩
  obtain ⟨g, c', e2, _⟩ := hv.form (by rw [h.len]; exact h0)
  injection e2 with e2
  subst e2
  have hl2 := hlt g rfl
  refine ⟨g, rfl, by omega, hl2.2, fun p hp => ?_⟩
  have hpv : p < vs.length := by rw [h.len]; exact hp
  obtain ⟨Ar, cr, er⟩ := own_form (h.own p hpv)
  have ho := h.own p hpv
  rw [er] at ho
  refine ⟨Ar, cr, ?_, own_cap ho, Reads.of_own ho, fun ad hA => Nat.le_trans hl (ho.lt ad.block (by rw [hA]; rfl)).1⟩
  have h3 := hcell (g := g) rfl p vs[p] (List.getElem?_eq_getElem hpv)
  rw [er] at h3
  have ha : (⟨g, 0, none⟩ : Addr).add p = ⟨g, p, none⟩ := by unfold Addr.add; split <;> simp_all
  rw [ha] at h3; exact h3
end Go.Proofs.Ytbopeofglhkffaa
