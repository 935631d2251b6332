/- assign.Kids of a block. -/
import Derived.Test.YtjhfcpadnofdnaaGreatAsa
import Derived.Test.YtjhfcpadnofdnaaGreatTra
import Derived.Laws.CopyOwn
import Derived.Test.YtjhfcpadnofdnaaGreatWq
set_option linter.unusedSimpArgs false
set_option linter.unusedVariables false
namespace Go.Proofs.YtjhfcpadnofdnaaGreat
open Go.RowKit
attribute [local go_sem] block_of_add
/-- A store of a whole struct. -/
theorem exec_store_mid {P : Program} {a : Act} {op : Oper} (ty : TypeId) (x y : Operand) (ho : op.op = .store ty x y) (b o : Nat) (cells : List Value) (hx : a.eval x = .pointer (some ⟨b, o, none⟩)) (hy : a.eval y = .agg cells.toArray) (w : World)
    (ht : w.there b o cells.length) (hi : (P.info? ty).map (·.size) = some cells.length) (h1 : cells.toArray.all (·.oneCell') = true) : (execOp a.eval op).run P w = .ok .skip (w.setCells b o cells) := by
  have h := run_storeAt_mid (P := P) w b o ty cells.toArray (by simpa using ht) (by simpa using hi) h1
  unfold execOp
  simp only [ho, hx, hy, Sem.run_bind, h, Result.andThen_ok, Sem.run_pure]
def styZ : Sty := ⟨0, false, 0, 0, ⟨0, 0⟩, ⟨0, 0⟩, ⟨0, 0⟩, ⟨0, 0⟩, ⟨0, 0⟩, ⟨0, 0⟩, ⟨0, 0⟩, ⟨0, 0⟩, ⟨0, 0⟩, ⟨0, 0⟩, 0, 0, 0, 0, 0, 0, 0, 0, 0, 0, false, 0, 0, 0, 0, 0, ⟨0, 0⟩, [], .slice none 0 0⟩
theorem there_blkO {w : World} {g : Nat} {t : TypeId} {cs : Array Value} {k o : Nat} (h : Blk w g t cs) (hk : o + k ≤ cs.size) : w.there g o k := fun j hj => by
  rw [h.cell (o + j), Array.getElem?_eq_getElem (by omega)]; exact ⟨rfl, h.frozen (o + j)⟩
theorem el_styA : El Tryz.prog 137 67 (.agg (styCells styZ).toArray) 43 320 := ⟨Tryz.underlying137, by kernel_rfl, rfl, by decide⟩
theorem make_stys (n : Nat) (hn : n ≤ 300000) (w : World) : (Instr.makeSlice 137 (.int .i64 (n : Int)) (.int .i64 (n : Int))).run Tryz.prog w = .ok (.slice (some ⟨w.heap.size, 0, none⟩) n n) (w.alloc (.cells (stlC (List.replicate n styZ)).toArray 67)) := by
  obtain ⟨i, hi, hz, hs, hb⟩ := info_parts el_styA.info
  have h := run_makeSlice (P := Tryz.prog) (w := w) 137 67 i (.agg (styCells styZ).toArray) el_styA.ht hi hz .i64 .i64 (n : Int) (n : Int) (by omega) (by omega) (by rw [hs]; omega) (by rw [hb]; omega) (by omega)
  have hm : madeCells (Value.agg (styCells styZ).toArray).cells (n * 43) = (stlC (List.replicate n styZ)).toArray := by
    apply Array.ext_getElem?
    intro x
    by_cases hx : x < n * 43
    · obtain ⟨j, r, hr, rfl⟩ : ∃ j r, r < 43 ∧ x = j * 43 + r := ⟨x / 43, x % 43, by omega, by omega⟩
      have hj : j < n := by omega
      have hm : (j * 43 + r) % 43 = r := by omega
      rw [Array.getElem?_eq_getElem (by rw [size_madeCells]; exact hx)]
      rw [List.getElem?_toArray, stC_at _ j r (by simp; omega) hr, List.getElem_replicate]
      simp only [madeCells, Array.getElem_map, Array.getElem_range]
      have hsz : (Value.agg (styCells styZ).toArray).cells.size = 43 := rfl
      rw [hsz, hm, List.getElem?_eq_getElem (by rw [sty_len]; exact hr)]
      have hge : (styCells styZ).toArray[r]! = (styCells styZ)[r]'(by rw [sty_len]; exact hr) := by
        rw [getElem!_pos (styCells styZ).toArray r (by rw [List.size_toArray, sty_len]; exact hr)]; rfl
      show some ((styCells styZ).toArray[r]!) = _
      rw [hge]
    · rw [Array.getElem?_eq_none (by rw [size_madeCells]; omega), List.getElem?_toArray, List.getElem?_eq_none (by rw [stC_len, List.length_replicate]; omega)]
  rw [h, hs, Int.toNat_natCast, hm]
theorem run_copy_cnsG {P : Program} (w : World) (g : Nat) (dT sT ty elem : TypeId) (hu : P.underlying dT = some (.slice elem)) (hsz : (P.info? elem).map (·.size) = some 4) (n : Nat) {B : Nat} {A : Option Addr} (sCap : Nat) (got : List Cn) (t : TypeId)
    (hb : Blk w g t (cnsCells (List.replicate n cn0)).toArray) (hr : Reads w B 4 A got.length (cnsCells got)) :
    ∃ v, (Builtin.copy_ #[dT, sT] ty #[.slice (some ⟨g, 0, none⟩) n n, .slice A got.length sCap]).run P w = .ok v (w.setRow g (cnsCells (allF got n)).toArray) := by
  rcases A with _ | ad
  · have h0 : got.length = 0 := by
      rcases Nat.eq_zero_or_pos got.length with h | h
      · exact h
      · obtain ⟨_, e, _⟩ := hr.2 h; cases e
    have hg0 : got = [] := List.eq_nil_of_length_eq_zero h0
    subst hg0
    have e : allF [] n = List.replicate n cn0 := by rw [allF_eq]; simp
    rw [e, setRow_self w g _ t (0, 0) hb]
    cases hq : P.info? elem with
    | none => simp [hq] at hsz
    | some i => exact ⟨_, by simp [Builtin.copy_, run_underlying hu, Builtin.lenOf, Builtin.firstCells, sizeOf, typeInfo, hq, storeCells]; rfl⟩
  · have hcl : (cnsCells (got.take n)).length = Nat.min got.length n * 4 := by rw [cnsCells_len, List.length_take, Nat.min_comm]
    have hrun := run_copy_rowz (P := P) w dT sT ty elem 4 g n n ad got.length sCap (cnsCells (List.replicate n cn0)).toArray t (cnsCells (got.take n)) hu hsz hb hcl
      (by
        intro j v hv
        have hj : (cnsCells got)[j]? = some v := by
          have : cnsCells got = cnsCells (got.take n) ++ cnsCells (got.drop n) := by rw [← cnsCells_app, List.take_append_drop]
          rw [this, List.getElem?_append_left (List.getElem?_eq_some_iff.1 hv).1]; exact hv
        have hjl := (List.getElem?_eq_some_iff.1 hj).1
        obtain ⟨ad', e, _, hc⟩ := hr.2 (by rw [cnsCells_len] at hjl; omega)
        injection e with e; subst e
        exact hc j v hj)
      (by rw [hcl, List.size_toArray, cnsCells_len, List.length_replicate]; exact Nat.mul_le_mul_right 4 (Nat.min_le_right _ _)) (cnsCells_one _)
    refine ⟨goInt (Nat.min got.length n), hrun.trans ?_⟩
    congr 2
    rw [allF_eq, cnsCells_app, cns_zero, cns_zero]
    simp only [List.drop_replicate]
    congr 3
    rw [hcl]
    have : Nat.min got.length n = min got.length n := rfl
    rw [this]; omega
/-- The style of a child. -/
def sD (l : List Nd) (k : Int) : Sty := ((l[k.toNat]?).map Nd.s).getD styZ
def ksAt (ks : List Int) (q : Nat) : Int := (ks[q]?).getD 0
def ssF (l : List Nd) (ks : List Int) (n j : Nat) : List Sty := (List.range n).map fun q => if q < j then sD l (ksAt ks q) else styZ
theorem ssF_len (l : List Nd) (ks : List Int) (n j : Nat) : (ssF l ks n j).length = n := by simp [ssF]
theorem ssF_zero (l : List Nd) (ks : List Int) (n : Nat) : ssF l ks n 0 = List.replicate n styZ := by
  apply List.ext_getElem
  · simp [ssF]
  · intro i h1 h2; simp [ssF]
theorem ssF_set (l : List Nd) (ks : List Int) (n j : Nat) : (ssF l ks n j).set j (sD l (ksAt ks j)) = ssF l ks n (j + 1) := by
  apply List.ext_getElem
  · simp [ssF]
  · intro i h1 h2
    rw [List.getElem_set]
    simp only [ssF, List.getElem_map, List.getElem_range]
    by_cases e : j = i
    · subst e; rw [if_pos rfl, if_pos (by omega)]
    · rw [if_neg e]
      by_cases h : i < j
      · rw [if_pos h, if_pos (by omega)]
      · rw [if_neg h, if_neg (by omega)]
theorem ssF_at (l : List Nd) (ks : List Int) (n k : Nat) (h : k < (ssF l ks n n).length) : (ssF l ks n n)[k] = sD l (ksAt ks k) := by
  have h2 : k < n := by rw [ssF_len] at h; exact h
  simp [ssF, h2]
theorem allF_at (got : List Cn) (n k : Nat) (h : k < (allF got n).length) : (allF got n)[k] = gAt got k := by simp [allF]
/-- The giver while its styles are laid. -/
structure AsI (gT gU gg gS gG n m2 c2 ml : Nat) (A A2 : Option Addr) (view u1 u2 u3 : Int) (ss : List Sty) (xs : List Cn) (w2 W : World) : Prop where
  gv : GvI gg gS gG n u1 ss xs W
  b : Below w2.heap.size w2 W
  lo : w2.heap.size ≤ gg ∧ w2.heap.size ≤ gS ∧ w2.heap.size ≤ gG
  ne : gg ≠ gS ∧ gG ≠ gS ∧ gg ≠ gG
section
variable {gT gU gg gS gG n m2 c2 ml k : Nat} {A A2 : Option Addr} {view u1 u2 u3 : Int} {ss : List Sty} {xs xs2 : List Cn} {w2 W W' : World} {s : Sty}
theorem AsI.bel (h : AsI gT gU gg gS gG n m2 c2 ml A A2 view u1 u2 u3 ss xs w2 W) (hb : Below W.heap.size W W') : AsI gT gU gg gS gG n m2 c2 ml A A2 view u1 u2 u3 ss xs w2 W' := ⟨h.gv.bel hb, h.b.trans (hb.mono h.b.size), h.lo, h.ne⟩
theorem AsI.put (h : AsI gT gU gg gS gG n m2 c2 ml A A2 view u1 u2 u3 ss xs w2 W) (hk : k < ss.length) : AsI gT gU gg gS gG n m2 c2 ml A A2 view u1 u2 u3 (ss.set k s) xs w2 (W.setCells gS (k * 43) (styCells s)) := by
  have far : ∀ (vs : List Value) (o : Nat) (W : World) {g : Nat} {t : TypeId} {cs : Array Value}, g ≠ gS → Blk W g t cs → Blk (W.setCells gS o vs) g t cs := fun vs => by
    induction vs with
    | nil => intro o W g t cs _ h; exact h
    | cons v r ih => intro o W g t cs hne h; exact ih (o + 1) _ hne (h.far hne v)
  refine ⟨⟨far _ _ _ h.ne.1 h.gv.g, ?_, far _ _ _ h.ne.2.1 h.gv.x⟩, below_setCells h.lo.2.1 _ _ _ _ h.b, h.lo, h.ne⟩
  have := Blk.setCells (styCells s) (k * 43) W _ h.gv.s
  rw [stC_set ss k s hk] at this
  exact this
theorem AsI.row (h : AsI gT gU gg gS gG n m2 c2 ml A A2 view u1 u2 u3 ss xs w2 W) : AsI gT gU gg gS gG n m2 c2 ml A A2 view u1 u2 u3 ss xs2 w2 (W.setRow gG (cnsCells xs2).toArray) :=
  ⟨⟨(setRow_other W gG gg _ h.ne.2.2).trans h.gv.g, (setRow_other W gG gS _ (fun e => h.ne.2.1 e.symm)).trans h.gv.s, setRow_heap W gG _ _ _ _ h.gv.x⟩, below_setRow h.b h.lo.2.2 _, h.lo, h.ne⟩
end
/-- The giver and what is given. -/
structure AoI (gT gU gg gS gG n m2 c2 ml gu gb : Nat) (A A2 : Option Addr) (view u1 u2 u3 : Int) (ss : List Sty) (xs : List Cn) (p : Nat → Int × Int × Int) (b : Nat → Bool) (w2 W : World) : Prop where
  a : AsI gT gU gg gS gG n m2 c2 ml A A2 view u1 u2 u3 ss xs w2 W
  us : Blk W gu 40 (triC p n).toArray
  bo : Blk W gb 4 (booC b n).toArray
  ne : (gg ≠ gu ∧ gS ≠ gu ∧ gG ≠ gu) ∧ (gg ≠ gb ∧ gS ≠ gb ∧ gG ≠ gb) ∧ gu ≠ gb
  lo : w2.heap.size ≤ gu ∧ w2.heap.size ≤ gb
theorem stepU (P : Nat → Int × Int × Int) (k : Nat) : ∀ q, (if q < k + 1 then P q else (0, 0, 0)) = updT (fun q => if q < k then P q else (0, 0, 0)) k (P k) q := fun q => by
  unfold updT
  dsimp only
  by_cases e : q = k
  · subst e; rw [if_pos (by omega), if_pos rfl]
  · rw [if_neg e]
    by_cases h : q < k
    · rw [if_pos (by omega), if_pos h]
    · rw [if_neg (by omega), if_neg h]
theorem stepBo (P : Nat → Bool) (k : Nat) : ∀ q, (if q < k + 1 then P q else false) = (if q = k then P k else if q < k then P q else false) := fun q => by
  by_cases e : q = k
  · subst e; rw [if_pos (by omega), if_pos rfl]
  · rw [if_neg e]
    by_cases h : q < k
    · rw [if_pos (by omega), if_pos h]
    · rw [if_neg (by omega), if_neg h]
theorem triC_cg {p q : Nat → Int × Int × Int} {m : Nat} (h : ∀ k, k < m → q k = p k) : triC p m = triC q m := by
  unfold triC
  rw [List.flatMap_def, List.flatMap_def]
  congr 1
  exact List.map_congr_left fun k hk => by rw [h k (List.mem_range.1 hk)]
theorem booC_cg {p q : Nat → Bool} {m : Nat} (h : ∀ k, k < m → q k = p k) : booC p m = booC q m := List.map_congr_left fun k hk => by rw [h k (List.mem_range.1 hk)]
section
variable {gT gU gg gS gG n m2 c2 ml gu gb : Nat} {A A2 : Option Addr} {view u1 u2 u3 : Int} {ss : List Sty} {xs : List Cn} {p p2 : Nat → Int × Int × Int} {b b2 : Nat → Bool} {w2 W W' : World}
theorem AoI.bel (h : AoI gT gU gg gS gG n m2 c2 ml gu gb A A2 view u1 u2 u3 ss xs p b w2 W) (hb : Below W.heap.size W W') : AoI gT gU gg gS gG n m2 c2 ml gu gb A A2 view u1 u2 u3 ss xs p b w2 W' := ⟨h.a.bel hb, h.us.below hb h.us.lt, h.bo.below hb h.bo.lt, h.ne, h.lo⟩
theorem AoI.same (h : AoI gT gU gg gS gG n m2 c2 ml gu gb A A2 view u1 u2 u3 ss xs p b w2 W) (h1 : ∀ k, k < n → p2 k = p k) (h2 : ∀ k, k < n → b2 k = b k) : AoI gT gU gg gS gG n m2 c2 ml gu gb A A2 view u1 u2 u3 ss xs p2 b2 w2 W :=
  ⟨h.a, by rw [← triC_cg h1]; exact h.us, by rw [← booC_cg h2]; exact h.bo, h.ne, h.lo⟩
theorem AoI.put (h : AoI gT gU gg gS gG n m2 c2 ml gu gb A A2 view u1 u2 u3 ss xs p b w2 W) {k : Nat} (hk : k < n) (x y z : Int) (v : Bool) : AoI gT gU gg gS gG n m2 c2 ml gu gb A A2 view u1 u2 u3 ss xs (updT p k (x, y, z)) (fun q => if q = k then v else b q) w2
    ((((W.setCell ⟨gu, k * 3, none⟩ (.int .i64 x)).setCell ⟨gu, k * 3 + 1, none⟩ (.int .i64 y)).setCell ⟨gu, k * 3 + 2, none⟩ (.int .i64 z)).setCell ⟨gb, k, none⟩ (.bool v)) := by
  obtain ⟨⟨e1, e2, e3⟩, ⟨f1, f2, f3⟩, g1⟩ := h.ne
  refine ⟨⟨((((h.a.gv.far e1 e2 e3 _ _).far e1 e2 e3 _ _).far e1 e2 e3 _ _).far f1 f2 f3 _ _), ((((h.a.b.setCell (p := ⟨gu, k * 3, none⟩) h.lo.1 _).setCell (p := ⟨gu, k * 3 + 1, none⟩) h.lo.1 _).setCell (p := ⟨gu, k * 3 + 2, none⟩) h.lo.1 _).setCell (p := ⟨gb, k, none⟩) h.lo.2 _), h.a.lo, h.a.ne⟩, ?_, ?_, h.ne, h.lo⟩
  · have h1 := ((h.us.set_ (k * 3) (.int .i64 x)).set_ (k * 3 + 1) (.int .i64 y)).set_ (k * 3 + 2) (.int .i64 z)
    rw [triC_set p n k x y z hk] at h1
    exact h1.far g1 _
  · have h1 := (((h.bo.far (fun e => g1 e.symm) (.int .i64 x) (p := ⟨gu, k * 3, none⟩)).far (fun e => g1 e.symm) (.int .i64 y) (p := ⟨gu, k * 3 + 1, none⟩)).far (fun e => g1 e.symm) (.int .i64 z) (p := ⟨gu, k * 3 + 2, none⟩)).set_ k (.bool v)
    rw [booC_set b n k v hk] at h1
    exact h1
end
/-- What assign.Kids answers of a block. -/
structure KidsB (l : List Nd) (ks : List Int) (got : List Cn) (u1 : Int) (w w' : World) (e : Ending) : Prop where
  ex : ∃ gu gb, e = .returned (.tuple #[.slice (some ⟨gu, 0, none⟩) ks.length ks.length, .slice (some ⟨gb, 0, none⟩) ks.length ks.length]) ∧ Blk w' gu 40 (triC (fun k => kidU (sD l (ksAt ks k)) u1 (gAt got k)) ks.length).toArray ∧
    Blk w' gb 4 (booC (fun k => kidB (sD l (ksAt ks k)) u1 (gAt got k)) ks.length).toArray ∧ w.heap.size ≤ gu ∧ w.heap.size ≤ gb
  b : Below w.heap.size w w'
set_option maxRecDepth 100000 in
set_option maxHeartbeats 8000000 in
theorem akids_any (l : List Nd) (i : Nat) (hi : i < l.length) (hln : l.length ≤ 65536) (A A2 Ak Ag : Option Addr) (c m c2 ck cg : Nat) (view u1 u2 u3 : Int) (ks : List Int) (got : List Cn) (w : World)
    (hr : Reads w w.heap.size 44 A l.length (ndsCells l)) (huv : ∀ x ∈ l, ∃ Au nu cu, x.s.uv = .slice Au nu cu) (kd : Int) (hkd : kd ≠ 2) (hbk : l[i].s.kind = kd) (hk : Reads w w.heap.size 1 Ak ks.length (i64s ks)) (hkn : ∀ k ∈ ks, 0 ≤ k ∧ k < (l.length : Int)) (hkl : ks.length ≤ 100000)
    (hg : Reads w w.heap.size 4 Ag got.length (cnsCells got)) (hc : CB u1) (hs : ∀ k ∈ ks, (sD l k).kind ≠ 3 → StW (sD l k)) (hx : ∀ x ∈ got, (0 ≤ x.least ∧ x.least ≤ 1099511627776) ∧ 0 ≤ x.greatest ∧ x.greatest ≤ 1099511627776) :
    Calls Tryz.prog 100 #[.agg #[.slice A l.length c, .slice A2 m c2, .int .i64 view], .int .i64 (i : Int), .agg #[.int .i64 u1, .int .i64 u2, .int .i64 u3], .slice Ak ks.length ck, .slice Ag got.length cg] w fun e w' => KidsB l ks got u1 w w' e := by
  have HE12 : Hid ((kd == 2) = false) := Lib.hid (beq_eq_false_iff_ne.2 hkd)
  clear hkd
  have HR := Lib.hid hr
  have HUV := Lib.hid huv
  have HK := Lib.hid hk
  have HG := Lib.hid hg
  have HKN := Lib.hid hkn
  have HS := Lib.hid hs
  have HX : Hid (∀ q, (0 ≤ (gAt got q).least ∧ (gAt got q).least ≤ 1099511627776) ∧ 0 ≤ (gAt got q).greatest ∧ (gAt got q).greatest ≤ 1099511627776) := Lib.hid (fun q => by
    unfold gAt
    by_cases h : q < got.length
    · rw [List.getElem?_eq_getElem h]; exact hx _ (List.getElem_mem h)
    · rw [List.getElem?_eq_none (by omega)]; simp)
  have HC := Lib.hid hc
  have hmk := fun W => make_stys ks.length (by omega) W
  have hmc := fun W => make_cns ks.length (by omega) W
  have hmu := fun W => make_useds ks.length (by omega) W
  have hmb := fun W => make_bools ks.length (by omega) W
  have HKD : Hid (∀ W, Reads W w.heap.size 44 A l.length (ndsCells l) → ∃ ad : Addr, A = some ad ∧ ad.block < w.heap.size ∧ W.cell? ⟨ad.block, (ad.add (i * 44)).off + 1, none⟩ = some (.int .u8 kd)) := Lib.hid (fun W h => by
    obtain ⟨ad, rfl, hnd⟩ := h.nd rfl hi
    have hz := hnd.lt
    rw [block_of_add] at hz
    refine ⟨ad, rfl, hz, ?_⟩
    rw [← hbk, ← block_of_add ad (i * 44)]; exact hnd.cs 0 _ rfl)
  clear hr huv hk hg hkn hs hx hc hbk
  obtain ⟨n, hne⟩ : ∃ n, n = ks.length := ⟨_, rfl⟩
  rw [← hne] at HK hkl hmk hmc hmu hmb ⊢
  have HN := Lib.hid hne
  clear hne
  obtain ⟨ll, hle⟩ : ∃ ll, ll = l.length := ⟨_, rfl⟩
  rw [← hle] at HR HKN hi hln HKD ⊢
  have HLL := Lib.hid hle
  clear hle
  obtain ⟨mg, hme⟩ : ∃ mg, mg = got.length := ⟨_, rfl⟩
  rw [← hme] at HG ⊢
  have HMG := Lib.hid hme
  clear hme
  have hi2 : (i : Int) < (ll : Int) := by omega
  have hi3 : (0 : Int) ≤ (i : Int) := by omega
  have d1 : decide ((i : Int) < 0) = false := decide_eq_false (by omega)
  have d2 : decide ((ll : Int) ≤ (i : Int)) = false := decide_eq_false (by omega)
  have d2' : decide (ll ≤ i) = false := decide_eq_false (by omega)
  go_enter Tryz.func100, Tryz.ntmps100
  go_upto_region 1 with (fail)
  obtain ⟨gT, hgT⟩ : ∃ gT, gT = w.heap.size := ⟨_, rfl⟩
  obtain ⟨gU, hgU⟩ : ∃ gU, gU = w.heap.size + 1 := ⟨_, rfl⟩
  have H2 : Hid (Blk ((w.alloc (.cells #[.slice A ll c, .slice A2 m c2, .int .i64 view] 25)).alloc (.cells #[.int .i64 u1, .int .i64 u2, .int .i64 u3] 40)) gT 25 #[.slice A ll c, .slice A2 m c2, .int .i64 view] ∧ Blk ((w.alloc (.cells #[.slice A ll c, .slice A2 m c2, .int .i64 view] 25)).alloc (.cells #[.int .i64 u1, .int .i64 u2, .int .i64 u3] 40)) gU 40 #[.int .i64 u1, .int .i64 u2, .int .i64 u3] ∧ Below w.heap.size w ((w.alloc (.cells #[.slice A ll c, .slice A2 m c2, .int .i64 view] 25)).alloc (.cells #[.int .i64 u1, .int .i64 u2, .int .i64 u3] 40))) := Lib.hid
    ⟨(Blk.at_ _ _ _ hgT).alloc _, Blk.at_ _ _ _ (by rw [hgU]; simp), balW (balW (Below.refl _ _) _) _⟩
  obtain ⟨w2, hw2⟩ : ∃ w2, w2 = ((w.alloc (.cells #[.slice A ll c, .slice A2 m c2, .int .i64 view] 25)).alloc (.cells #[.int .i64 u1, .int .i64 u2, .int .i64 u3] 40)) := ⟨_, rfl⟩
  rw [← hw2] at H2 ⊢
  first | rw [← hgU] | skip
  rw [← hgT]
  try rw [show gT + 1 = gU by omega]
  clear hw2 hgT hgU
  have HTC : Hid (∀ W, Below w2.heap.size w2 W → W.cell? ⟨gT, 0, none⟩ = some (.slice A ll c) ∧ W.cell? ⟨gU, 0, none⟩ = some (.int .i64 u1)) := Lib.hid (fun W h => ⟨(H2.out.1.below h H2.out.1.lt).get 0 rfl, (H2.out.2.1.below h H2.out.2.1.lt).get 0 rfl⟩)
  have HRD : Hid (∀ W, Below w2.heap.size w2 W → Reads W w.heap.size 44 A ll (ndsCells l) ∧ Reads W w.heap.size 1 Ak n (i64s ks) ∧ Reads W w.heap.size 4 Ag mg (cnsCells got)) := Lib.hid (fun W h => by
    have hb := H2.out.2.2.trans (h.mono H2.out.2.2.size)
    exact ⟨HR.out.below hb, HK.out.below hb, HG.out.below hb⟩)
  have y0 := (HTC.out w2 (Below.refl _ _)).1
  have y1 := (HTC.out w2 (Below.refl _ _)).2
  go_upto_region 3 with (fail)
  clear d1 d2 d2'
  go_cut [12] (fun sx wx => ∃ gg gS gG, sx = .pointer (some ⟨gg, 0, none⟩) ∧ Hid (AsI gT gU gg gS gG n m c2 ll A A2 view u1 u2 u3 (ssF l ks n 0) (List.replicate n cn0) w2 wx))
  case first =>
    have E0 : Below w2.heap.size w2 w2.drew := (Below.refl _ _).drew
    refine wp_region_held_drew (S := fun W => Below w2.heap.size w2 W) (by kernel_rfl) E0 (fun hS => ?_)
    refine wpAnyH_pre (j := 0) (by kernel_rfl) ?_
    iterate 4
      refine wpAnyH_nx (v := ?_) rfl (by kernel_rfl) (by kernel_rfl) (by kernel_rfl) (fun _ _ _ h => h) (Or.inl ⟨by rfl, ?_⟩) hS ?_
      rotate_left
      · intro W' hS'
        have y1 := (HTC.out W' hS').2; go_simp
        rfl
      try simp only [Act.put, List.setIfInBounds_toArray, List.set_cons_zero, List.set_cons_succ, List.getElem_toArray, List.getElem_cons_zero, List.getElem_cons_succ]
    refine wpAnyH_take (i := 5) (v := ?_) rfl (by kernel_rfl) (by kernel_rfl) (by kernel_rfl) (fun _ _ _ h => h) (Or.inl ⟨by rfl, ?_⟩) hS ?_
    rotate_left
    · intro W' hS'
      have y1 := (HTC.out W' hS').2; go_simp
      rfl
    try simp only [Act.put, List.setIfInBounds_toArray, List.set_cons_zero, List.set_cons_succ, List.getElem_toArray, List.getElem_cons_zero, List.getElem_cons_succ]
    refine wpAnyH_take (i := 6) (v := ?_) rfl (by kernel_rfl) (by kernel_rfl) (by kernel_rfl) (fun _ _ _ h => h) (Or.inl ⟨by rfl, ?_⟩) hS ?_
    rotate_left
    · intro W' hS'
      have y1 := (HTC.out W' hS').2; go_simp
      rfl
    try simp only [Act.put, List.setIfInBounds_toArray, List.set_cons_zero, List.set_cons_succ, List.getElem_toArray, List.getElem_cons_zero, List.getElem_cons_succ]
    refine wpAnyH_ready (rs := [4, 7]) (by kernel_rfl) (by simp) (AllReadyH.cons rfl (fun K hK => ?_) (AllReadyH.cons rfl (fun K hK => ?_) AllReadyH.nil))
    · go_simp
      refine hK.out _ _ (hS.alloc hS.size _) (fun hS => ?_)
      try simp only [Act.put, List.setIfInBounds_toArray, List.set_cons_zero, List.set_cons_succ, List.getElem_toArray, List.getElem_cons_zero, List.getElem_cons_succ]
      clear hK
      refine wpAnyH_ready (rs := [7]) (by kernel_rfl) (by simp) (AllReadyH.cons rfl (fun K hK => ?_) AllReadyH.nil)
      go_simp
      refine hK.out _ _ (hS.alloc hS.size _) (fun hS => ?_)
      try simp only [Act.put, List.setIfInBounds_toArray, List.set_cons_zero, List.set_cons_succ, List.getElem_toArray, List.getElem_cons_zero, List.getElem_cons_succ]
      clear hK
      refine wpAnyH_ready (rs := [8]) (by kernel_rfl) (by simp) (AllReadyH.cons rfl (fun K hK => ?_) AllReadyH.nil)
      go_simp
      refine hK.out _ _ hS (fun hS => ?_)
      try simp only [Act.put, List.setIfInBounds_toArray, List.set_cons_zero, List.set_cons_succ, List.getElem_toArray, List.getElem_cons_zero, List.getElem_cons_succ]
      clear hK
      refine wpAnyH_ready (rs := [9]) (by kernel_rfl) (by simp) (AllReadyH.cons rfl (fun K hK => ?_) AllReadyH.nil)
      go_simp
      refine hK.out _ _ (hS.alloc hS.size _) (fun hS => ?_)
      try simp only [Act.put, List.setIfInBounds_toArray, List.set_cons_zero, List.set_cons_succ, List.getElem_toArray, List.getElem_cons_zero, List.getElem_cons_succ]
      clear hK
      refine wpAnyH_take (i := 10) (v := ?_) rfl (by kernel_rfl) (by kernel_rfl) (by kernel_rfl) (fun _ _ _ h => h) (Or.inl ⟨by rfl, ?_⟩) hS ?_
      rotate_left
      · intro W' hS'
        go_simp
        rfl
      try simp only [Act.put, List.setIfInBounds_toArray, List.set_cons_zero, List.set_cons_succ, List.getElem_toArray, List.getElem_cons_zero, List.getElem_cons_succ]
      refine wpAnyH_done (by kernel_rfl) ?_ _
      go_wp2_with fail
      go_meet
      exact ⟨_, _, _, rfl, Lib.hid ⟨⟨(by repeat (with_reducible first | exact Blk.new _ _ _ | (refine Blk.at_ _ _ _ ?_; simp; done) | apply Blk.drew | apply Blk.alloc)), by rw [ssF_zero]; exact (by repeat (with_reducible first | exact Blk.new _ _ _ | (refine Blk.at_ _ _ _ ?_; simp; done) | apply Blk.drew | apply Blk.alloc)), (by repeat (with_reducible first | exact Blk.new _ _ _ | (refine Blk.at_ _ _ _ ?_; simp; done) | apply Blk.drew | apply Blk.alloc))⟩, hS, ⟨by omega, by omega, by omega⟩, ⟨by omega, by omega, by omega⟩⟩⟩
    · go_simp
      refine hK.out _ _ (hS.alloc hS.size _) (fun hS => ?_)
      try simp only [Act.put, List.setIfInBounds_toArray, List.set_cons_zero, List.set_cons_succ, List.getElem_toArray, List.getElem_cons_zero, List.getElem_cons_succ]
      clear hK
      refine wpAnyH_ready (rs := [4]) (by kernel_rfl) (by simp) (AllReadyH.cons rfl (fun K hK => ?_) AllReadyH.nil)
      go_simp
      refine hK.out _ _ (hS.alloc hS.size _) (fun hS => ?_)
      try simp only [Act.put, List.setIfInBounds_toArray, List.set_cons_zero, List.set_cons_succ, List.getElem_toArray, List.getElem_cons_zero, List.getElem_cons_succ]
      clear hK
      refine wpAnyH_ready (rs := [8]) (by kernel_rfl) (by simp) (AllReadyH.cons rfl (fun K hK => ?_) AllReadyH.nil)
      go_simp
      refine hK.out _ _ hS (fun hS => ?_)
      try simp only [Act.put, List.setIfInBounds_toArray, List.set_cons_zero, List.set_cons_succ, List.getElem_toArray, List.getElem_cons_zero, List.getElem_cons_succ]
      clear hK
      refine wpAnyH_ready (rs := [9]) (by kernel_rfl) (by simp) (AllReadyH.cons rfl (fun K hK => ?_) AllReadyH.nil)
      go_simp
      refine hK.out _ _ (hS.alloc hS.size _) (fun hS => ?_)
      try simp only [Act.put, List.setIfInBounds_toArray, List.set_cons_zero, List.set_cons_succ, List.getElem_toArray, List.getElem_cons_zero, List.getElem_cons_succ]
      clear hK
      refine wpAnyH_take (i := 10) (v := ?_) rfl (by kernel_rfl) (by kernel_rfl) (by kernel_rfl) (fun _ _ _ h => h) (Or.inl ⟨by rfl, ?_⟩) hS ?_
      rotate_left
      · intro W' hS'
        go_simp
        rfl
      try simp only [Act.put, List.setIfInBounds_toArray, List.set_cons_zero, List.set_cons_succ, List.getElem_toArray, List.getElem_cons_zero, List.getElem_cons_succ]
      refine wpAnyH_done (by kernel_rfl) ?_ _
      go_wp2_with fail
      go_meet
      exact ⟨_, _, _, rfl, Lib.hid ⟨⟨(by repeat (with_reducible first | exact Blk.new _ _ _ | (refine Blk.at_ _ _ _ ?_; simp; done) | apply Blk.drew | apply Blk.alloc)), by rw [ssF_zero]; exact (by repeat (with_reducible first | exact Blk.new _ _ _ | (refine Blk.at_ _ _ _ ?_; simp; done) | apply Blk.drew | apply Blk.alloc)), (by repeat (with_reducible first | exact Blk.new _ _ _ | (refine Blk.at_ _ _ _ ?_; simp; done) | apply Blk.drew | apply Blk.alloc))⟩, hS, ⟨by omega, by omega, by omega⟩, ⟨by omega, by omega, by omega⟩⟩⟩
  case rest =>
  obtain ⟨gg, gS, gG, rfl, HJ0⟩ := hcut
  obtain ⟨w3, rfl⟩ : ∃ w3, w3 = wc := ⟨_, rfl⟩
  clear y0 y1 hmk hmc
  as_aux_lemma =>
  obtain ⟨v45, hcp⟩ := run_copy_cnsG (P := Tryz.prog) w3 gG 28 28 3 38 el_cn.ht (by kernel_rfl) n cg got 38 HJ0.out.gv.x (by rw [← HMG.out]; exact (HRD.out w3 HJ0.out.b).2.2)
  rw [← HMG.out] at hcp
  have z2 : w3.cell? ⟨gg, 2, none⟩ = some (.slice (some ⟨gG, 0, none⟩) n n) := HJ0.out.gv.g.get 2 rfl
  have HJ1 : Hid (AsI gT gU gg gS gG n m c2 ll A A2 view u1 u2 u3 (ssF l ks n 0) (allF got n) w2 (w3.setRow gG (cnsCells (allF got n)).toArray)) := Lib.hid HJ0.out.row
  go_upto_region 5 with (fail)
  obtain ⟨w4, hw4⟩ : ∃ w4, w4 = w3.setRow gG (cnsCells (allF got n)).toArray := ⟨_, rfl⟩
  rw [← hw4] at HJ1 ⊢
  clear hw4 hcp z2 HJ0
  go_wp2_with fail
  go_loopw [48] (fun kv wr => ∃ j : Nat, j ≤ n ∧ kv = .int .i64 j ∧ Hid (AsI gT gU gg gS gG n m c2 ll A A2 view u1 u2 u3 (ssF l ks n j) (allF got n) w2 wr)) (fun kv _ => n - (intOf kv).toNat)
  case atStart => exact ⟨0, by omega, rfl, HJ1⟩
  case round =>
    obtain ⟨j, hj, rfl, HJ⟩ := hrel
    clear HJ1
    by_cases hlt : j < n
    · as_aux_lemma =>
      have q0 : decide ((j : Int) < (n : Int)) = true := decide_eq_true (by omega)
      have q0' : decide (j < n) = true := decide_eq_true hlt
      have hii : (j : Int) < (n : Int) := by omega
      have hi0 : (0 : Int) ≤ (j : Int) := by omega
      have wi : IntKind.i64.wrap ((j : Int) + 1) = (j : Int) + 1 := IntWalk.i64_in _ ⟨by omega, by omega⟩
      have hjl : j < ks.length := by rw [← HN.out]; exact hlt
      obtain ⟨k, hk⟩ : ∃ k, k = ks[j] := ⟨_, rfl⟩
      have hkb := HKN.out k (by rw [hk]; exact List.getElem_mem hjl)
      obtain ⟨ak, uk, rfl, _, hxk, hck⟩ := (HRD.out wr HJ.out.b).2.1.at_ hlt
      have ek : uk = .int .i64 k := by rw [hk]; simpa [i64s, hjl] using hxk.symm
      subst ek
      have HKA : Hid (ksAt ks j = k) := Lib.hid (by unfold ksAt; rw [List.getElem?_eq_getElem hjl, hk]; rfl)
      obtain ⟨kk, hkk⟩ : ∃ kk : Nat, k = (kk : Int) := ⟨k.toNat, by omega⟩
      clear hxk hk
      subst hkk
      have hkn : kk < ll := by omega
      have hkn2 : (kk : Int) < (ll : Int) := by omega
      have hkn3 : (0 : Int) ≤ (kk : Int) := by omega
      have d3 : decide ((0 : Int) ≤ (kk : Int)) = true := decide_eq_true (by omega)
      have d4 : decide ((kk : Int) < (ll : Int)) = true := decide_eq_true (by omega)
      have d4' : decide (kk < ll) = true := decide_eq_true hkn
      have hkl2 : kk < l.length := by rw [← HLL.out]; exact hkn
      obtain ⟨s, hse⟩ : ∃ s, s = l[kk].s := ⟨_, rfl⟩
      have HSD : Hid (sD l (ksAt ks j) = s) := Lib.hid (by rw [HKA.out, hse]; unfold sD; rw [Int.toNat_natCast, List.getElem?_eq_getElem hkl2]; rfl)
      have HO : Hid ((styCells s).toArray.all (·.oneCell') = true) := Lib.hid (by
        obtain ⟨Au, nu, cu, e⟩ := HUV.out _ (List.getElem_mem hkl2)
        rw [hse]; exact Sty.one _ e)
      obtain ⟨ad, hA, _⟩ := (HRD.out wr HJ.out.b).1.nd HLL.out hkl2
      subst hA
      have HLD : Hid (∀ W, Below w2.heap.size w2 W → ∀ q v, (styCells s)[q]? = some v → W.cell? ((⟨ad.block, (ad.add (kk * 44)).off + 1, none⟩ : Addr).add q) = some v) := Lib.hid (fun W h q v hv => by
        obtain ⟨ad2, e, hnd⟩ := (HRD.out W h).1.nd HLL.out hkl2
        injection e with e
        subst e
        have hx := hnd.cs q v (by rw [← hse]; exact hv)
        rw [block_of_add] at hx
        have ha : (⟨ad.block, (ad.add (kk * 44)).off + 1, none⟩ : Addr).add q = ⟨ad.block, (ad.add (kk * 44)).off + (1 + q), none⟩ := by
          unfold Addr.add
          split
          · simp_all
          · simp; omega
        rw [ha]; exact hx)
      clear hse
      have y0 := (HTC.out wr HJ.out.b).1
      go_upto_region 9 with (fail)
      clear y0 hck d3 d4 d4'
      have E0 := HJ.out.bel (Below.refl _ _).drew
      refine wp_region_S (fun b _ _ W => if b then AsI gT gU gg gS gG n m c2 ll (some ad) A2 view u1 u2 u3 (ssF l ks n (j + 1)) (allF got n) w2 W else AsI gT gU gg gS gG n m c2 ll (some ad) A2 view u1 u2 u3 (ssF l ks n j) (allF got n) w2 W) 12 1000 100000 false true (by kernel_rfl) (by kernel_rfl) (by kernel_rfl) (E0) ?_
      refine wpAnyS_pre (j := 0) (by kernel_rfl) ?_
      iterate 10
        refine wpAnyS_nx (v := ?_) rfl (by kernel_rfl) (by kernel_rfl) (by kernel_rfl) (fun _ _ _ h => h) (by rfl) (gives_pureF (by rfl) (by kernel_rfl) ?_) ?_
        rotate_left
        · intro d' u' W' hS'
          have q := (show AsI gT gU gg gS gG n m c2 ll (some ad) A2 view u1 u2 u3 (ssF l ks n j) (allF got n) w2 W' from hS')
          have y0 := (HTC.out W' q.b).1
          have z1 : W'.cell? ⟨gg, 1, none⟩ = some (.slice (some ⟨gS, 0, none⟩) n n) := q.gv.g.get 1 rfl
          go_simp
          rfl
        try simp only [Act.put, List.setIfInBounds_toArray, List.set_cons_zero, List.set_cons_succ, List.getElem_toArray, List.getElem_cons_zero, List.getElem_cons_succ]
      refine wpAnyS_take (i := 10) (v := .agg (styCells s).toArray) rfl (by kernel_rfl) (by kernel_rfl) (by kernel_rfl) (fun _ _ _ h => h) (by rfl) (gives_yields ?_) ?_
      · refine yieldsIf_load_at (by rfl) 67 (.tmp 71) rfl (⟨ad.block, (ad.add (kk * 44)).off + 1, none⟩) rfl (styCells s) _ ?_ Tryz.underlying67 rfl (by kernel_rfl)
        rintro W' ⟨b', d', u', hS'⟩
        exact by cases b' <;> exact HLD.out W' hS'.b
      try simp only [Act.put, List.setIfInBounds_toArray, List.set_cons_zero, List.set_cons_succ, List.getElem_toArray, List.getElem_cons_zero, List.getElem_cons_succ]
      refine wpAnyS_take (i := 11) (v := ?_) rfl (by kernel_rfl) (by kernel_rfl) (by kernel_rfl) (fun _ _ _ h => h) (by rfl) (gives_pureF (by rfl) (by kernel_rfl) ?_) ?_
      rotate_left
      · intro d' u' W' hS'
        have q := (show AsI gT gU gg gS gG n m c2 ll (some ad) A2 view u1 u2 u3 (ssF l ks n j) (allF got n) w2 W' from hS')
        have y0 := (HTC.out W' q.b).1
        have z1 : W'.cell? ⟨gg, 1, none⟩ = some (.slice (some ⟨gS, 0, none⟩) n n) := q.gv.g.get 1 rfl
        go_simp
        rfl
      try simp only [Act.put, List.setIfInBounds_toArray, List.set_cons_zero, List.set_cons_succ, List.getElem_toArray, List.getElem_cons_zero, List.getElem_cons_succ]
      refine wpAnyS_store (i := 12) (d := true) (fun W' => W'.setCells gS (j * 43) (styCells s)) rfl (by kernel_rfl) (by rfl) (by rfl) (by kernel_rfl) rfl ?_ (fun W' hS' => by have h := (show AsI gT gU gg gS gG n m c2 ll (some ad) A2 view u1 u2 u3 (ssF l ks n j) (allF got n) w2 W' from hS').put (k := j) (s := s) (by rw [ssF_len]; exact hlt); rw [← HSD.out, ssF_set, HSD.out] at h; exact h) ?_
      · intro W' hS'
        have q := (show AsI gT gU gg gS gG n m c2 ll (some ad) A2 view u1 u2 u3 (ssF l ks n j) (allF got n) w2 W' from hS')
        exact exec_store_mid 67 (.tmp 73) (.tmp 72) rfl gS (j * 43) (styCells s) rfl rfl W' (there_blkO q.gv.s (by rw [List.size_toArray, sty_len, stC_len, ssF_len]; omega)) (by kernel_rfl) HO.out
      try simp only [Act.put, List.setIfInBounds_toArray, List.set_cons_zero, List.set_cons_succ, List.getElem_toArray, List.getElem_cons_zero, List.getElem_cons_succ]
      refine wpAnyS_done (b := true) (d := true) (by kernel_rfl) (by kernel_rfl) (by kernel_rfl) rfl (fun wS hS => ?_) _
      have HS9 := Lib.hid hS
      clear hS E0
      go_wp2_with fail
      go_roundw
      case rel => exact ⟨j + 1, by omega, by go_num, HS9⟩
      case measure => simp [intOf] <;> omega
    · as_aux_lemma =>
      have q0 : decide ((j : Int) < (n : Int)) = false := decide_eq_false (by omega)
      have q0' : decide (j < n) = false := decide_eq_false hlt
      have hjn : j = n := by omega
      rw [hjn] at HJ
      rw [hjn]
      clear hjn hlt hj
      have q1 : decide ((n : Int) < (n : Int)) = false := decide_eq_false (by omega)
      obtain ⟨ad, rfl, hadb, k1⟩ := HKD.out wr (HRD.out wr HJ.out.b).1
      have y0 := (HTC.out wr HJ.out.b).1
      have e12 : ((kd : Int) == 2) = false := HE12.out
      go_upto_region 18 with (fail)
      clear y0 k1 q0 q0' q1
      have z1 : wr.cell? ⟨gg, 1, none⟩ = some (.slice (some ⟨gS, 0, none⟩) n n) := HJ.out.gv.g.get 1 rfl
      go_upto_region 20 with (fail)
      obtain ⟨gu, hgu⟩ : ∃ gu, gu = wr.heap.size := ⟨_, rfl⟩
      obtain ⟨gb, hgb⟩ : ∃ gb, gb = wr.heap.size + 1 := ⟨_, rfl⟩
      have H5 : Hid (AoI gT gU gg gS gG n m c2 ll gu gb (some ad) A2 view u1 u2 u3 (ssF l ks n n) (allF got n) (fun _ => (0, 0, 0)) (fun _ => false) w2 ((wr.alloc (.cells (triC (fun _ => (0, 0, 0)) n).toArray 40)).alloc (.cells (booC (fun _ => false) n).toArray 4))) := Lib.hid
        ⟨HJ.out.bel (balW (balW (Below.refl _ _) _) _), (Blk.at_ _ _ _ hgu).alloc _, Blk.at_ _ _ _ (by rw [hgb]; simp), by have := HJ.out.gv.g.lt; have := HJ.out.gv.s.lt; have := HJ.out.gv.x.lt; omega, by have := HJ.out.b.size; omega⟩
      obtain ⟨w5, hw5⟩ : ∃ w5, w5 = ((wr.alloc (.cells (triC (fun _ => (0, 0, 0)) n).toArray 40)).alloc (.cells (booC (fun _ => false) n).toArray 4)) := ⟨_, rfl⟩
      rw [← hw5] at H5 ⊢
      first | rw [← hgb] | skip
      rw [← hgu]
      try rw [show gu + 1 = gb by omega]
      clear hw5 hgu hgb z1 hmu hmb HJ
      have z1 : w5.cell? ⟨gg, 1, none⟩ = some (.slice (some ⟨gS, 0, none⟩) n n) := H5.out.a.gv.g.get 1 rfl
      go_wp2_with fail
      clear z1
      obtain ⟨wq, rfl⟩ : ∃ wq, wq = wr := ⟨_, rfl⟩
      go_loopw [141] (fun kv wr => ∃ k : Nat, k ≤ n ∧ kv = .int .i64 k ∧ Hid (AoI gT gU gg gS gG n m c2 ll gu gb (some ad) A2 view u1 u2 u3 (ssF l ks n n) (allF got n) (fun q => if q < k then kidU (sD l (ksAt ks q)) u1 (gAt got q) else (0, 0, 0)) (fun q => if q < k then kidB (sD l (ksAt ks q)) u1 (gAt got q) else false) w2 wr)) (fun kv _ => n - (intOf kv).toNat)
      case atStart => exact ⟨0, by omega, rfl, Lib.hid (H5.out.same (fun q _ => by simp) (fun q _ => by simp))⟩
      case round =>
        obtain ⟨k, hk, rfl, HJ⟩ := hrel
        clear H5
        by_cases hlt : k < n
        rotate_left
        · as_aux_lemma =>
          have q0 : decide ((k : Int) < (n : Int)) = false := decide_eq_false (by omega)
          have q0' : decide (k < n) = false := decide_eq_false hlt
          have HEN : Hid (KidsB l ks got u1 w wr (.returned (.tuple #[.slice (some ⟨gu, 0, none⟩) n n, .slice (some ⟨gb, 0, none⟩) n n]))) := Lib.hid (by
            have h := HJ.out.same (p2 := fun q => kidU (sD l (ksAt ks q)) u1 (gAt got q)) (b2 := fun q => kidB (sD l (ksAt ks q)) u1 (gAt got q)) (fun q hq => by simp [show q < k by omega]) (fun q hq => by simp [show q < k by omega])
            have hsz := H2.out.2.2.size
            refine ⟨⟨gu, gb, by rw [HN.out], by rw [← HN.out]; exact h.us, by rw [← HN.out]; exact h.bo, by have := h.lo.1; omega, by have := h.lo.2; omega⟩, H2.out.2.2.trans (h.a.b.mono hsz)⟩)
          go_wp2_with fail
          go_ret2
          exact HEN.out
        as_aux_lemma =>
        have q0 : decide ((k : Int) < (n : Int)) = true := decide_eq_true (by omega)
        have q0' : decide (k < n) = true := decide_eq_true hlt
        have hii : (k : Int) < (n : Int) := by omega
        have hi0 : (0 : Int) ≤ (k : Int) := by omega
        have wi : IntKind.i64.wrap ((k : Int) + 1) = (k : Int) + 1 := IntWalk.i64_in _ ⟨by omega, by omega⟩
        have hkl2 : k < ks.length := by rw [← HN.out]; exact hlt
        obtain ⟨s, hse⟩ : ∃ s, s = sD l (ksAt ks k) := ⟨_, rfl⟩
        obtain ⟨x, hxe⟩ : ∃ x, x = gAt got k := ⟨_, rfl⟩
        have hlS := ssF_len l ks n n
        have hlX : (allF got n).length = n := allF_len got n
        have eS : (ssF l ks n n)[k]'(by omega) = s := by rw [hse]; exact ssF_at l ks n k _
        have eX : (allF got n)[k]'(by omega) = x := by rw [hxe]; exact allF_at got n k _
        have hxb := HX.out k
        rw [← hxe] at hxb
        have HSW : Hid (s.kind ≠ 3 → StW s) := Lib.hid (by
          rw [hse]
          have h := HS.out (ks[k]) (List.getElem_mem hkl2)
          have e : ksAt ks k = ks[k] := by unfold ksAt; rw [List.getElem?_eq_getElem hkl2]; rfl
          rw [e]; exact h)
        have HLD : Hid (∀ j v, (styCells s)[j]? = some v → wr.cell? ((⟨gS, k * 43, none⟩ : Addr).add j) = some v) := Lib.hid (by
          rw [← eS]; exact HJ.out.a.gv.sty (by omega))
        have HGO : Hid (kidU (sD l (ksAt ks k)) u1 (gAt got k) = kidU s u1 x ∧ kidB (sD l (ksAt ks k)) u1 (gAt got k) = kidB s u1 x) := Lib.hid (by rw [hse, hxe]; exact ⟨rfl, rfl⟩)
        have HFL : Hid (s.kind ≠ 3 → ∀ W, GvI gg gS gG n u1 (ssF l ks n n) (allF got n) W → Calls Tryz.prog 170 #[.pointer (some ⟨gg, 0, none⟩), .int .i64 (k : Int)] W (AnsB (usedV (flowN s u1)) W)) := Lib.hid (fun h W hg => by
          have := gflow_any gg gS gG n k u1 _ _ W hg hlS hlX hlt hkl (by rw [eS]; exact HSW.out h) HC.out
          rw [eS] at this; exact this)
        have HFS : Hid (s.kind ≠ 3 → ∀ W, GvI gg gS gG n u1 (ssF l ks n n) (allF got n) W → Calls Tryz.prog 173 #[.pointer (some ⟨gg, 0, none⟩), .int .i64 (k : Int)] W (AnsB (usedV (shrN s u1 x.least x.greatest)) W)) := Lib.hid (fun h W hg => by
          have := gshr_any gg gS gG n k u1 _ _ W hg hlS hlX hlt hkl (by rw [eS]; exact HSW.out h) HC.out (by rw [eX]; exact hxb.1) (by rw [eX]; exact hxb.2)
          rw [eS, eX] at this; exact this)
        have HO : Hid ((styCells s).toArray.all (·.oneCell') = true) := Lib.hid (by
          have hb := HKN.out _ (List.getElem_mem hkl2)
          have e : ksAt ks k = ks[k] := by unfold ksAt; rw [List.getElem?_eq_getElem hkl2]; rfl
          have hm : ks[k].toNat < l.length := by rw [← HLL.out]; omega
          obtain ⟨Au, nu, cu, e2⟩ := HUV.out _ (List.getElem_mem hm)
          rw [hse, e]
          have e3 : sD l ks[k] = l[ks[k].toNat].s := by unfold sD; rw [List.getElem?_eq_getElem hm]; rfl
          rw [e3]; exact Sty.one _ e2)
        clear hse hxe eS eX hlS hlX hxb
        go_upto_region 23 with (first
          | refine wpList_load_at rfl 67 (.tmp 144) rfl ⟨gS, k * 43, none⟩ rfl (styCells s) _ HLD.out Tryz.underlying67 rfl (by kernel_rfl) ?_
          | refine wpList_store_new rfl 67 _ _ rfl _ rfl (styCells s).toArray rfl rfl 67 _ (by kernel_rfl) rfl HO.out ?_)
        simp only [Act.put]
        obtain ⟨gs, hgs⟩ : ∃ gs, gs = wr.heap.size := ⟨_, rfl⟩
        have H6 : Hid (AoI gT gU gg gS gG n m c2 ll gu gb (some ad) A2 view u1 u2 u3 (ssF l ks n n) (allF got n) (fun q => if q < k then kidU (sD l (ksAt ks q)) u1 (gAt got q) else (0, 0, 0)) (fun q => if q < k then kidB (sD l (ksAt ks q)) u1 (gAt got q) else false) w2 (wr.alloc (.cells (styCells s).toArray 67))) := Lib.hid (HJ.out.bel (balW (Below.refl _ _) _))
        have HBS : Hid (Blk (wr.alloc (.cells (styCells s).toArray 67)) gs 67 (styCells s).toArray) := Lib.hid (Blk.at_ _ _ _ hgs)
        obtain ⟨w6, hw6⟩ : ∃ w6, w6 = wr.alloc (.cells (styCells s).toArray 67) := ⟨_, rfl⟩
        rw [← hw6] at H6 HBS ⊢
        rw [← hgs]
        clear hw6 hgs HLD HO HJ
        have hgn := H6.out.ne.2.2
        have hgn2 : gb ≠ gu := fun e => hgn e.symm
        have c0 : w6.cell? ⟨gs, 0, none⟩ = some (.int .u8 s.kind) := HBS.out.get 0 rfl
        have c2' : w6.cell? ⟨gs, 2, none⟩ = some (.int .u8 s.float) := HBS.out.get 2 rfl
        clear HBS
        by_cases h3 : s.kind = 3
        · have e3 : (s.kind == 3) = true := beq_iff_eq.2 h3
          have HKV : Hid (kidU s u1 x = (0, 0, 0) ∧ kidB s u1 x = false) := Lib.hid (by unfold kidU kidB; rw [if_pos h3, if_pos h3]; exact ⟨rfl, rfl⟩)
          clear h3
          go_upto_region 30 with (fail)
          have HCU : Hid (kidU (sD l (ksAt ks k)) u1 (gAt got k) = (0, 0, 0) ∧ kidB (sD l (ksAt ks k)) u1 (gAt got k) = false) := Lib.hid (by rw [HGO.out.1, HGO.out.2]; exact HKV.out)
          go_wp2_with (go_at_call 171; refine (gnone_any _ _ _).mono ?_; rintro e w7 ⟨rfl, hb7⟩; have H7 := Lib.hid (H6.out.bel hb7); clear hb7; have z0 := H7.out.us.get (k * 3) (triC_g0 _ hlt); have z1 := H7.out.us.get (k * 3 + 1) (triC_g1 _ hlt); have z2 := H7.out.us.get (k * 3 + 2) (triC_g2 _ hlt); have z3 := H7.out.bo.get k (by rw [List.getElem?_toArray]; exact booC_at _ hlt); have f0 := H7.out.us.frozen (k * 3); have f1 := H7.out.us.frozen (k * 3 + 1); have f2 := H7.out.us.frozen (k * 3 + 2); have f3 := H7.out.bo.frozen k)
          go_roundw
          case rel => exact ⟨k + 1, by omega, by go_num, Lib.hid ((H7.out.put hlt 0 0 0 false).same (fun q _ => by rw [stepU (fun q => kidU (sD l (ksAt ks q)) u1 (gAt got q)) k q, HCU.out.1]) (fun q _ => by rw [stepBo (fun q => kidB (sD l (ksAt ks q)) u1 (gAt got q)) k q, HCU.out.2]))⟩
          case measure => simp [intOf] <;> omega
        · have e3 : (s.kind == 3) = false := beq_eq_false_iff_ne.2 h3
          have HF1 := Lib.hid (HFL.out h3)
          have HF2 := Lib.hid (HFS.out h3)
          by_cases hf : s.float = 0
          · have ef : (s.float == 0) = true := beq_iff_eq.2 hf
            have ef2 : (s.float != 0) = false := by rw [bne, ef]; rfl
            obtain ⟨x1, x2, x3, y, hv, hk1, hk2⟩ : ∃ x1 x2 x3 y, usedV (flowN s u1) = .tuple #[.agg #[.int .i64 x1, .int .i64 x2, .int .i64 x3], .bool y] ∧ kidU s u1 x = (x1, x2, x3) ∧ kidB s u1 x = y := by
              refine ⟨_, _, _, _, rfl, ?_, ?_⟩
              · unfold kidU kidK; rw [if_neg h3, if_neg h3, if_neg (by simp [hf])]; rfl
              · unfold kidB kidK; rw [if_neg h3, if_neg h3, if_neg (by simp [hf])]
            have HKV : Hid (kidU s u1 x = (x1, x2, x3) ∧ kidB s u1 x = y) := Lib.hid ⟨hk1, hk2⟩
            rw [hv] at HF1
            clear h3 hf hv hk1 hk2 HF2
            go_upto_region 30 with (fail)
            have HCU : Hid (kidU (sD l (ksAt ks k)) u1 (gAt got k) = (x1, x2, x3) ∧ kidB (sD l (ksAt ks k)) u1 (gAt got k) = y) := Lib.hid (by rw [HGO.out.1, HGO.out.2]; exact HKV.out)
            go_wp2_with (go_at_call 170; refine (HF1.out _ H6.out.a.gv).mono ?_; rintro e w7 ⟨rfl, hb7⟩; have H7 := Lib.hid (H6.out.bel hb7); clear hb7; have z0 := H7.out.us.get (k * 3) (triC_g0 _ hlt); have z1 := H7.out.us.get (k * 3 + 1) (triC_g1 _ hlt); have z2 := H7.out.us.get (k * 3 + 2) (triC_g2 _ hlt); have z3 := H7.out.bo.get k (by rw [List.getElem?_toArray]; exact booC_at _ hlt); have f0 := H7.out.us.frozen (k * 3); have f1 := H7.out.us.frozen (k * 3 + 1); have f2 := H7.out.us.frozen (k * 3 + 2); have f3 := H7.out.bo.frozen k)
            go_roundw
            case rel => exact ⟨k + 1, by omega, by go_num, Lib.hid ((H7.out.put hlt x1 x2 x3 y).same (fun q _ => by rw [stepU (fun q => kidU (sD l (ksAt ks q)) u1 (gAt got q)) k q, HCU.out.1]) (fun q _ => by rw [stepBo (fun q => kidB (sD l (ksAt ks q)) u1 (gAt got q)) k q, HCU.out.2]))⟩
            case measure => simp [intOf] <;> omega
          · have ef : (s.float == 0) = false := beq_eq_false_iff_ne.2 hf
            have ef2 : (s.float != 0) = true := by rw [bne, ef]; rfl
            obtain ⟨x1, x2, x3, y, hv, hk1, hk2⟩ : ∃ x1 x2 x3 y, usedV (shrN s u1 x.least x.greatest) = .tuple #[.agg #[.int .i64 x1, .int .i64 x2, .int .i64 x3], .bool y] ∧ kidU s u1 x = (x1, x2, x3) ∧ kidB s u1 x = y := by
              refine ⟨_, _, _, _, rfl, ?_, ?_⟩
              · unfold kidU kidK; rw [if_neg h3, if_neg h3, if_pos hf]; rfl
              · unfold kidB kidK; rw [if_neg h3, if_neg h3, if_pos hf]
            have HKV : Hid (kidU s u1 x = (x1, x2, x3) ∧ kidB s u1 x = y) := Lib.hid ⟨hk1, hk2⟩
            rw [hv] at HF2
            clear h3 hf hv hk1 hk2 HF1
            go_upto_region 30 with (fail)
            have HCU : Hid (kidU (sD l (ksAt ks k)) u1 (gAt got k) = (x1, x2, x3) ∧ kidB (sD l (ksAt ks k)) u1 (gAt got k) = y) := Lib.hid (by rw [HGO.out.1, HGO.out.2]; exact HKV.out)
            go_wp2_with (go_at_call 173; refine (HF2.out _ H6.out.a.gv).mono ?_; rintro e w7 ⟨rfl, hb7⟩; have H7 := Lib.hid (H6.out.bel hb7); clear hb7; have z0 := H7.out.us.get (k * 3) (triC_g0 _ hlt); have z1 := H7.out.us.get (k * 3 + 1) (triC_g1 _ hlt); have z2 := H7.out.us.get (k * 3 + 2) (triC_g2 _ hlt); have z3 := H7.out.bo.get k (by rw [List.getElem?_toArray]; exact booC_at _ hlt); have f0 := H7.out.us.frozen (k * 3); have f1 := H7.out.us.frozen (k * 3 + 1); have f2 := H7.out.us.frozen (k * 3 + 2); have f3 := H7.out.bo.frozen k)
            go_roundw
            case rel => exact ⟨k + 1, by omega, by go_num, Lib.hid ((H7.out.put hlt x1 x2 x3 y).same (fun q _ => by rw [stepU (fun q => kidU (sD l (ksAt ks q)) u1 (gAt got q)) k q, HCU.out.1]) (fun q _ => by rw [stepBo (fun q => kidB (sD l (ksAt ks q)) u1 (gAt got q)) k q, HCU.out.2]))⟩
            case measure => simp [intOf] <;> omega
end Go.Proofs.YtjhfcpadnofdnaaGreat
