/- again.may, again.reads. -/
import Derived.Test.YtjhfcpadnofdnaaGreatSrt
import Derived.Test.YtjhfcpadnofdnaaGreatPcx
import Derived.Deep.DeepCutAuto
import Derived.Deep.CutRange
set_option linter.unusedSimpArgs false
set_option linter.unusedVariables false
namespace Go.Proofs.YtjhfcpadnofdnaaGreat
open Go.RowKit
attribute [local go_sem] block_of_add
section
variable (l : List Nd) (adv : List Int) (A A2 : Option Addr) (c c2 : Nat) (view : Int) (w : World)
set_option maxHeartbeats 1000000 in
theorem amay_any (hr : Reads w w.heap.size 44 A l.length (ndsCells l)) (ha : Reads w w.heap.size 1 A2 adv.length (i64s adv)) (hal : adv.length ≤ 4294967296) (hu : ∀ x ∈ l, ∃ Au cu, x.s.uv = .slice Au x.s.units.length cu) :
    Calls Tryz.prog 35 #[.agg #[.slice A l.length c, .slice A2 adv.length c2, .int .i64 view]] w fun e w' => BoolIff (CheckE l adv view) w w' e := by
  have HB1 : Hid (Below w.heap.size w (w.alloc (.cells #[.slice A l.length c, .slice A2 adv.length c2, .int .i64 view] 25))) := Lib.hid ((Below.refl _ _).alloc (Nat.le_refl _) _)
  have HC := Lib.hid (fun W (hb : Below w.heap.size w W) => pcheckX_any l adv A A2 c c2 view W ((hr.below hb).more hb.size) ((ha.below hb).more hb.size) hal hu)
  clear hr ha hu
  go_enter Tryz.func35, Tryz.ntmps35
  go_wp2_with fail
  refine (HC.out _ HB1.out).mono ?_
  rintro e w1 ⟨⟨n, r, rfl, hr⟩, hb1⟩
  have HR := Lib.hid hr
  have HB := Lib.hid (HB1.out.trans (hb1.mono (by simp)))
  clear hr hb1
  by_cases h0 : r = 0
  · have e1 : (r == 0) = true := beq_iff_eq.2 h0
    have HY := Lib.hid (HR.out.1 h0)
    clear h0
    go_wp2_with fail
    go_ret
    exact ⟨⟨true, rfl, fun _ => HY.out, fun _ => rfl⟩, HB.out⟩
  · have e1 : (r == 0) = false := beq_eq_false_iff_ne.2 h0
    have HY := Lib.hid (show ¬ CheckE l adv view from fun h => h0 (HR.out.2 h))
    clear h0
    go_wp2_with fail
    go_ret
    exact ⟨⟨false, rfl, fun h => by simp at h, fun h => absurd h HY.out⟩, HB.out⟩
end
def boCellsR (l : List Bool) : List Value := l.map Value.bool
theorem el_boR : El Tryz.prog 57 4 (.bool false) 1 1 := ⟨Tryz.underlying57, by kernel_rfl, rfl, by decide⟩
theorem make_bosR (n : Nat) (hn : n ≤ 1000000) (w : World) : (Instr.makeSlice 57 (.int .i64 (n : Int)) (.int .i64 (n : Int))).run Tryz.prog w = .ok (.slice (some ⟨w.heap.size, 0, none⟩) n n) (w.alloc (.cells (boCellsR (List.replicate n false)).toArray 4)) := by
  obtain ⟨i, hi, hz, hs, hb⟩ := info_parts el_boR.info
  have h := run_makeSlice (P := Tryz.prog) (w := w) 57 4 i _ el_boR.ht hi hz .i64 .i64 (n : Int) (n : Int) (by omega) (by omega) (by rw [hs]; omega) (by rw [hb]; omega) (by omega)
  have hm : madeCells (Value.bool false).cells (n * 1) = (boCellsR (List.replicate n false)).toArray := by
    apply Array.toList_inj.1
    rw [Nat.mul_one]
    show (madeCells #[.bool false] n).toList = _
    rw [toList_madeCells_one]; simp [boCellsR]
  rw [h, hs, Int.toNat_natCast, hm]
theorem bo_setR (l : List Bool) (k : Nat) (b : Bool) : (boCellsR l).toArray.setIfInBounds k (.bool b) = (boCellsR (l.set k b)).toArray := by
  rw [List.setIfInBounds_toArray]; congr 1; unfold boCellsR; rw [List.map_set]
/-- append([]int{r}, l...) -/
theorem wpList_app1 {P : Program} {w : World} {o : Oper} {a : Act} {t e : TypeId} {z : Value} {bytes m : Nat} {ops : Array Oper} {rest : List Oper} {Q : Exit → Act → World → Prop} (hgd : o.guard = none) (s x : Operand)
    (ho : o.op = .call { callee := .builtin .append, args := #[s, x], argTypes := #[t, t] }) (hE : El P t e z 1 bytes) (old : Value) {g : Nat} (hgs : g = w.heap.size) (hs : a.eval s = .slice (some ⟨g, 0, none⟩) 1 1) (h1o : old.oneCell' = true)
    (news : List Value) {A : Option Addr} {c : Nat} (hx : a.eval x = .slice A m c) (hr : Reads w w.heap.size 1 A m news) (h1 : ∀ u ∈ news, u.oneCell' = true) (h63 : m ≤ 1000000) (hby : bytes ≤ 32768)
    (h : ∀ A' c' w', w'.ownsRow w.heap.size e 1 (.slice A' (1 + m) c') (1 + m) (old :: news) → Below w.heap.size w w' → wpList P ops Q rest (a.put o.dst (.slice A' (1 + m) c')) w') :
    wpList P ops Q (o :: rest) a (w.alloc (.cells #[old] e)) := by
  subst hgs
  obtain ⟨i, hi, hz, hsz, hb⟩ := info_parts hE.info
  have hbytes : (1 + m) * bytes ≤ 140737488355328 := by
    have := Nat.mul_le_mul (show 1 + m ≤ 1000001 by omega) hby; omega
  have hB := Blk.new w e #[old]
  have key : ∃ A' c' w', (Builtin.append_ #[t, t] o.type #[.slice (some ⟨w.heap.size, 0, none⟩) 1 1, .slice A m c]).run P (w.alloc (.cells #[old] e)) = .ok (.slice A' (1 + m) c') w' ∧ w'.ownsRow w.heap.size e 1 (.slice A' (1 + m) c') (1 + m) (old :: news) ∧ Below w.heap.size w w' := by
    rcases Nat.eq_zero_or_pos m with h0 | h0
    · subst h0
      have hx : news = [] := by have := hr.1; simpa using this
      subst hx
      refine ⟨some ⟨w.heap.size, 0, none⟩, 1, w.alloc (.cells #[old] e), ?_, ⟨rfl, .inr ⟨w.heap.size, 1, #[old], rfl, Nat.le_refl _, hB, Nat.le_refl _, by unfold maxLen; omega, rfl, rfl⟩⟩, (Below.refl _ _).alloc (Nat.le_refl _) _⟩
      rcases A with _ | ad
      · simp [Builtin.append_, run_underlying hE.ht, sizeOf, typeInfo, hi, Builtin.lenOf, Builtin.firstCells, storeCells]
      · simp [Builtin.append_, run_underlying hE.ht, sizeOf, typeInfo, hi, Builtin.lenOf, Builtin.firstCells, storeCells, loadCells, loadCellsFrom]
    · have hr' : Reads (w.alloc (.cells #[old] e)) w.heap.size 1 A m news := hr.alloc (Nat.le_refl _) _
      obtain ⟨ad, rfl, _, hc⟩ := hr'.2 h0
      obtain ⟨v', w', hrun, hown, hg⟩ := run_append_arg_grows (P := P) (w.alloc (.cells #[old] e)) t o.type e i z 1 bytes hE.ht hi hz hsz hb hE.hzs hE.pos ⟨w.heap.size, 0, none⟩ 1 1 [old] (by simp) (fun j u hu => by
        rcases j with _ | j
        · have := hB.get 0 (v := u) (by simpa using hu); simpa [Addr.add] using this
        · simp at hu) ad m c news hr.1 hc (by omega) (by simp only [maxLen]; omega) (by simpa using hbytes)
      obtain ⟨A', c', rfl⟩ := own_form hown
      refine ⟨A', c', w', hrun, ?_, ?_⟩
      · exact ⟨hown.1, hown.2.elim .inl (fun ⟨g, cap, cur, a, b, r⟩ => .inr ⟨g, cap, cur, a, by simp at b; omega, r⟩)⟩
      · exact ((Below.refl _ _).alloc (Nat.le_refl _) _).grown hg (by simp) (fun k hk => by cases hk)
  obtain ⟨A', c', w', hrun, h2, h3⟩ := key
  refine wpList_plain hgd fun K hK => ?_
  unfold Oper.wp execOp
  simp only [ho, resolve, invoke, builtin, Sem.run_bind, Sem.run_pure, Result.andThen_ok, List.map_toArray, List.map_cons, List.map_nil, hs, hx, hrun]
  exact hK _ _ (h A' c' w' h2 h3)
theorem own_setneR {w : World} {base : Nat} {e : TypeId} {size n : Nat} {v : Value} {xs : List Value} (o : w.ownsRow base e size v n xs) {p : Addr} (h : v.ownBlock ≠ some p.block) (u : Value) : (w.setCell p u).ownsRow base e size v n xs :=
  own_kp o ((Kp.refl (fun k => k = p.block) w).setCell (.inl rfl) u) fun g hg he => h (by rw [hg, he])
theorem RdI_ne {w W : World} {base : Nat} {size n : Nat} {v : Value} {xs : List Value} (o : W.ownsRow base 3 size v n xs) {g : Nat} {cs : Array Value} (h : Blk W g 4 cs) : v.ownBlock ≠ some g := own_blk_ne o h (by decide)
/-- Whose texts are read, behind q of the boxes. -/
def lieQ (l : List Nd) (bs : List Nat) (r q j : Nat) : Bool := j == r || (decide (j ∈ bs.take q) && !rootX l j)
theorem lieQ_succ {l : List Nd} {bs : List Nat} {r q : Nat} (hq : q < bs.length) (hr : bs[q] ≠ r) (j : Nat) : lieQ l bs r (q + 1) j = if j = bs[q] then !rootX l bs[q] else lieQ l bs r q j := by
  have hm : ∀ y, y ∈ bs.take (q + 1) ↔ y ∈ bs.take q ∨ y = bs[q] := fun y => by rw [List.take_succ_eq_append_getElem hq, List.mem_append, List.mem_singleton]
  unfold lieQ
  by_cases h : j = bs[q]
  · rw [if_pos h]
    have e1 : (j == r) = false := beq_eq_false_iff_ne.2 (by rw [h]; exact hr)
    have e2 : decide (j ∈ bs.take (q + 1)) = true := decide_eq_true ((hm j).2 (.inr h))
    rw [e1, e2, h]; simp
  · rw [if_neg h]
    have e2 : decide (j ∈ bs.take (q + 1)) = decide (j ∈ bs.take q) := by
      rw [decide_eq_decide, hm j]; simp [h]
    rw [e2]
theorem lieQ_all {l : List Nd} (ht : TrO l) {r e j : Nat} (hj : r ≤ j) (hje : j < e) (he : e ≤ l.length) : lieQ l ((List.range' (r + 1) (e - (r + 1))).filter (takeG (Pl l) (K3l l) (rootX l) true r)) r ((List.range' (r + 1) (e - (r + 1))).filter (takeG (Pl l) (K3l l) (rootX l) true r)).length j = lieX l r j := by
  unfold lieQ lieX
  rw [List.take_length]
  by_cases h : j = r
  · simp [h]
  · have : (j == r) = false := beq_eq_false_iff_ne.2 h
    rw [this, Bool.false_or, Bool.false_or]
    congr 1
    rw [Bool.eq_iff_iff, decide_eq_true_iff, List.mem_filter, List.mem_range'_1]
    unfold takeG
    simp only [Bool.true_and]
    constructor
    · intro hh; exact hh.2
    · intro hh; exact ⟨by omega, hh⟩
/-- What stands while the boxes are gone through. -/
structure RdI (w : World) (gL r e : Nat) (l : List Nd) (bs : List Nat) (A A2 : Option Addr) (c m c2 : Nat) (view : Int) (f : Nat → Bool) (W : World) : Prop where
  lo : Below w.heap.size w W
  t : Blk W w.heap.size 25 #[.slice A l.length c, .slice A2 m c2, .int .i64 view]
  b : ∃ L : List Bool, L.length = e - r ∧ (∀ j, r ≤ j → j < e → L[j - r]? = some (f j)) ∧ Blk W gL 4 (boCellsR L).toArray
  g : w.heap.size < gL
theorem RdI.below {w : World} {gL r e : Nat} {l : List Nd} {bs : List Nat} {A A2 : Option Addr} {c m c2 : Nat} {view : Int} {f : Nat → Bool} {W W' : World} (h : RdI w gL r e l bs A A2 c m c2 view f W) (hb : Below W.heap.size W W') : RdI w gL r e l bs A A2 c m c2 view f W' := by
  obtain ⟨L, h1, h2, h3⟩ := h.b
  exact ⟨h.lo.trans (hb.mono h.lo.size), h.t.below hb h.t.lt, ⟨L, h1, h2, h3.below hb h3.lt⟩, h.g⟩
theorem RdI.grown {w : World} {gL r e : Nat} {l : List Nd} {bs : List Nat} {A A2 : Option Addr} {c m c2 : Nat} {view : Int} {f : Nat → Bool} {W W' : World} (h : RdI w gL r e l bs A A2 c m c2 view f W) {base n : Nat} {ty : TypeId} {v : Value} {xs : List Value} {size : Nat} (ho : W.ownsRow base ty size v n xs) (hgb : gL < base) (hg : W.grownBy W' v.ownBlock) (hB : ∀ B' w0, B' ≤ base → Below B' w0 W → Below B' w0 W') : RdI w gL r e l bs A A2 c m c2 view f W' := by
  obtain ⟨L, h1, h2, h3⟩ := h.b
  have hgg := h.g
  exact ⟨hB _ _ (by omega) h.lo, h.t.grown hg (own_far ho (by omega)), ⟨L, h1, h2, h3.grown hg (own_far ho hgb)⟩, h.g⟩
theorem RdI.cell {w : World} {gL r e : Nat} {l : List Nd} {bs : List Nat} {A A2 : Option Addr} {c m c2 : Nat} {view : Int} {f : Nat → Bool} {W : World} (h : RdI w gL r e l bs A A2 c m c2 view f W) {j : Nat} (h1 : r ≤ j) (h2 : j < e) : W.cell? ⟨gL, j - r, none⟩ = some (.bool (f j)) := by
  obtain ⟨L, a1, a2, a3⟩ := h.b
  exact a3.get (j - r) (by have := a2 j h1 h2; simp [boCellsR, this])
theorem RdI.frozen {w : World} {gL r e : Nat} {l : List Nd} {bs : List Nat} {A A2 : Option Addr} {c m c2 : Nat} {view : Int} {f : Nat → Bool} {W : World} (h : RdI w gL r e l bs A A2 c m c2 view f W) (k : Nat) : W.frozen? ⟨gL, k, none⟩ = false := by
  obtain ⟨L, a1, a2, a3⟩ := h.b
  exact a3.frozen k
theorem RdI.lt {w : World} {gL r e : Nat} {l : List Nd} {bs : List Nat} {A A2 : Option Addr} {c m c2 : Nat} {view : Int} {f : Nat → Bool} {W : World} (h : RdI w gL r e l bs A A2 c m c2 view f W) : gL < W.heap.size := by
  obtain ⟨L, a1, a2, a3⟩ := h.b
  exact a3.lt
theorem RdI.set {w : World} {gL r e : Nat} {l : List Nd} {bs : List Nat} {A A2 : Option Addr} {c m c2 : Nat} {view : Int} {f f' : Nat → Bool} {W : World} (h : RdI w gL r e l bs A A2 c m c2 view f W) {k : Nat} (b : Bool) (hk : r ≤ k) (hke : k < e) (hf : ∀ j, r ≤ j → j < e → f' j = if j = k then b else f j) : RdI w gL r e l bs A A2 c m c2 view f' (W.setCell ⟨gL, k - r, none⟩ (.bool b)) := by
  obtain ⟨L, a1, a2, a3⟩ := h.b
  refine ⟨h.lo.setCell (p := ⟨gL, k - r, none⟩) (by have := h.g; simp; omega) _, h.t.far (by have := h.g; simp; omega) _, ⟨L.set (k - r) b, by simp [a1], fun j j1 j2 => ?_, by rw [← bo_setR]; exact a3.set_ _ _⟩, h.g⟩
  rw [hf j j1 j2, List.getElem?_set]
  by_cases hj : j = k
  · subst hj; rw [if_pos rfl, if_pos rfl, if_pos (by omega)]
  · rw [if_neg hj, if_neg (by omega)]; exact a2 j j1 j2
structure RdAns (l : List Nd) (r : Nat) (w w' : World) (e : Ending) : Prop where
  ex : ∃ A c, e = .returned (.slice A (rdF l r).length c) ∧ w'.ownsRow w.heap.size 3 1 (.slice A (rdF l r).length c) (rdF l r).length ((rdF l r).map fun (i : Nat) => Value.int .i64 i)
  b : Below w.heap.size w w'
section
variable (l : List Nd) (A A2 : Option Addr) (c m c2 : Nat) (view : Int) (w : World)
set_option maxRecDepth 100000 in
set_option maxHeartbeats 4000000 in
theorem areads_any (r : Nat) (hrl : r < l.length) (hn : l.length ≤ 65536) (hr : Reads w w.heap.size 44 A l.length (ndsCells l)) (hu : ∀ x ∈ l, ∃ Au cu, x.s.uv = .slice Au x.s.units.length cu) (ht : TrO l) (hrt : rootX l r = true) :
    Calls Tryz.prog 37 #[.agg #[.slice A l.length c, .slice A2 m c2, .int .i64 view], .int .i64 r] w fun e w' => RdAns l r w w' e := by
  obtain ⟨e, bs, he, hre, hel, h1, h2, hbs⟩ := dnG_spec (K3 := K3l l) (rt := rootX l) ht.lt ht.or (l.length + 1) r (r + 1) true (by omega) (by omega) (by omega) (fun m a b => by omega)
  have hpar : ∀ i (h : i < l.length), 0 < i → 0 ≤ l[i].parent := fun i h h0 => by rw [ht.par i h h0]; omega
  have HIN := Lib.hid (fun W (hb : Below w.heap.size w W) => insideG_any W l A A2 c m c2 view r hrl hn ((hr.below hb).more hb.size) hpar hrt _ e bs he)
  have HRT := Lib.hid (fun W (i : Nat) (hi : i < l.length) (hb : Below w.heap.size w W) => rootG_any l A A2 c m c2 view W i hi hn ((hr.below hb).more hb.size))
  have HR := Lib.hid hr
  have HU := Lib.hid hu
  have HT := Lib.hid ht
  have HE := Lib.hid (And.intro h1 (And.intro h2 hbs))
  have HT0 : Hid (Blk (w.alloc (.cells #[.slice A l.length c, .slice A2 m c2, .int .i64 view] 25)) w.heap.size 25 #[.slice A l.length c, .slice A2 m c2, .int .i64 view]) := Lib.hid (Blk.new _ _ _)
  have HB0 : Hid (Below w.heap.size w (w.alloc (.cells #[.slice A l.length c, .slice A2 m c2, .int .i64 view] 25))) := Lib.hid ((Below.refl _ _).alloc (Nat.le_refl _) _)
  have hbl : bs.length ≤ 65536 := by rw [hbs]; have := List.length_filter_le (takeG (Pl l) (K3l l) (rootX l) true r) (List.range' (r + 1) (e - (r + 1))); rw [List.length_range'] at this; omega
  have HBL := Lib.hid hbl
  have HBM : Hid (∀ (q : Nat) (h : q < bs.length), r < bs[q] ∧ bs[q] < e) := Lib.hid (fun q h => by
    have hm := List.getElem_mem h
    generalize bs[q] = y at hm
    rw [hbs, List.mem_filter, List.mem_range'_1] at hm
    omega)
  have hw1 : IntKind.i64.wrap ((r : Int) + 1) = ((r + 1 : Nat) : Int) := by rw [IntWalk.i64_in _ ⟨by omega, by omega⟩]; omega
  have hw2 : IntKind.i64.wrap ((e : Int) - (r : Int)) = ((e - r : Nat) : Int) := by rw [IntWalk.i64_in _ ⟨by omega, by omega⟩]; omega
  have hmk : ∀ W : World, (Instr.makeSlice 57 (.int .i64 ((e - r : Nat) : Int)) (.int .i64 ((e - r : Nat) : Int))).run Tryz.prog W = .ok (.slice (some ⟨W.heap.size, 0, none⟩) (e - r) (e - r)) (W.alloc (.cells (boCellsR (List.replicate (e - r) false)).toArray 4)) := fun W => make_bosR (e - r) (by omega) W
  clear hr hu ht h1 h2 hbs he hpar hbl
  go_enter Tryz.func37, Tryz.ntmps37
  go_wp2_with fail
  refine (HIN.out _ HB0.out).mono ?_
  rintro en w1 ⟨Av, cv, rfl, ho1, hb1⟩
  have HT1 := Lib.hid (HT0.out.below hb1 HT0.out.lt)
  have HB1 := Lib.hid (HB0.out.trans (hb1.mono (by simp)))
  have HO1 : Hid (w1.ownsRow (w.heap.size + 1) 3 1 (.slice Av bs.length cv) bs.length (bs.map fun (i : Nat) => Value.int .i64 i)) := Lib.hid (by simpa using ho1)
  clear ho1 hb1
  obtain ⟨t0, t1, t2⟩ := HT1.out.c3
  have lt1 := HT1.out.lt
  go_wp2_with fail
  go_loopw [6] (fun ev wx => ∃ q : Nat, r < q ∧ q ≤ e ∧ ev = .int .i64 q ∧ w1 = wx) (fun ev _ => e - (intOf ev).toNat)
  case atStart => exact ⟨r + 1, by omega, by omega, by simp, rfl⟩
  case round =>
    obtain ⟨q, hq1, hq2, rfl, rfl⟩ := hrel
    go_upto_region 3 with (fail)
    go_cut [32] (fun s32 wx => s32 = .bool (decide (q < e)) ∧ w1 = wx)
    case first =>
      by_cases hql : q < l.length
      · have d0 : decide ((q : Int) < (l.length : Int)) = true := decide_eq_true (by omega)
        have d0' : decide (q < l.length) = true := decide_eq_true hql
        have hqi : (q : Int) < (l.length : Int) := by omega
        obtain ⟨ad, hA, hnd⟩ := (HR.out.below HB1.out).nd rfl hql
        have y0 := (nd_cG hnd).1
        rw [HT.out.par q hql (by omega)] at y0
        have hlb : ad.block < w1.heap.size := by have := hnd.lt; rw [block_of_add] at this; have := HB1.out.size; omega
        subst hA
        by_cases hqe : q < e
        · have HPQ := Lib.hid (par_in HT.out (by omega) hql (HE.out.1 q hq1 hqe))
          have d1 : decide ((r : Int) ≤ (Pl l q : Int)) = true := decide_eq_true (by have := HPQ.out; omega)
          have d1' : decide (r ≤ Pl l q) = true := decide_eq_true HPQ.out
          have HD := Lib.hid (decide_eq_true hqe)
          clear hnd
          go_wp2_with fail
          go_meet
          case rel => exact ⟨by rw [HD.out], by first | rfl | trivial⟩
        · have HPQ : Hid (Pl l q < r) := Lib.hid (by
            have hqe2 : q = e := by omega
            have := par_out HT.out (r := r) (e := e) (by omega) (by omega) HE.out.1 (HE.out.2.1 (by omega))
            rw [hqe2]; exact this)
          have d1 : decide ((r : Int) ≤ (Pl l q : Int)) = false := decide_eq_false (by have := HPQ.out; omega)
          have d1' : decide (r ≤ Pl l q) = false := decide_eq_false (by have := HPQ.out; omega)
          have HD := Lib.hid (decide_eq_false hqe)
          clear hnd
          go_wp2_with fail
          go_meet
          case rel => exact ⟨by rw [HD.out], by first | rfl | trivial⟩
      · have d0 : decide ((q : Int) < (l.length : Int)) = false := decide_eq_false (by omega)
        have d0' : decide (q < l.length) = false := decide_eq_false hql
        have HD := Lib.hid (decide_eq_false (show ¬ q < e by omega))
        go_wp2_with fail
        go_meet
        case rel => exact ⟨by rw [HD.out], by first | rfl | trivial⟩
    case rest =>
    obtain ⟨rfl, rfl⟩ := hcut
    by_cases hqe : q < e
    · have e1 : decide (q < e) = true := decide_eq_true hqe
      have hwq : IntKind.i64.wrap ((q : Int) + 1) = (q : Int) + 1 := IntWalk.i64_in _ ⟨by omega, by omega⟩
      rw [e1]
      go_wp2_with fail
      go_roundw
      case rel => exact ⟨q + 1, by omega, by omega, by go_num, by first | rfl | trivial⟩
      case measure => simp [intOf]; omega
    have e1 : decide (q < e) = false := decide_eq_false hqe
    rw [e1]
    obtain rfl : q = e := by omega
    clear e1 hqe hq2
    go_upto_region 6 with (fail)
    obtain ⟨gL, hgL⟩ : ∃ g, g = w1.heap.size := ⟨_, rfl⟩
    obtain ⟨W2, hW2⟩ : ∃ W, W = w1.alloc (.cells (boCellsR (List.replicate (q - r) false)).toArray 4) := ⟨_, rfl⟩
    have HI2 : Hid (RdI w gL r q l bs A A2 c m c2 view (fun _ => false) W2) := Lib.hid (by
      rw [hW2, hgL]
      exact ⟨HB1.out.alloc HB1.out.size _, HT1.out.alloc _, ⟨_, by simp, fun j j1 j2 => by rw [List.getElem?_replicate, if_pos (by omega)], Blk.new _ _ _⟩, HT1.out.lt⟩)
    have HO2 : Hid (W2.ownsRow (w.heap.size + 1) 3 1 (.slice Av bs.length cv) bs.length (bs.map fun (i : Nat) => Value.int .i64 i)) := Lib.hid (by rw [hW2]; exact own_below HO1.out ((Below.refl _ _).alloc (Nat.le_refl _) _))
    rw [← hW2, ← hgL]
    have HG := Lib.hid (show w1.heap.size = gL ∧ w.heap.size < gL from ⟨hgL.symm, by rw [hgL]; exact HT1.out.lt⟩)
    clear hW2 hgL t0 t1 t2 lt1 hmk hw2
    have z1 := HI2.out.cell (j := r) (Nat.le_refl _) hq1
    rw [Nat.sub_self] at z1
    have z2 := HI2.out.frozen 0
    have z3 := HI2.out.lt
    have z4 : (0 : Int) < ((q - r : Nat) : Int) := by omega
    have z4' : 0 < q - r := by omega
    go_upto_region 7 with (fail)
    obtain ⟨W3, hW3⟩ : ∃ W, W = W2.setCell ⟨gL, 0, none⟩ (.bool true) := ⟨_, rfl⟩
    have HI3 : Hid (RdI w gL r q l bs A A2 c m c2 view (lieQ l bs r 0) W3) := Lib.hid (by
      rw [hW3]
      have := HI2.out.set (f' := lieQ l bs r 0) (k := r) true (Nat.le_refl _) hq1 (fun j j1 j2 => by
        unfold lieQ
        by_cases h : j = r
        · simp [h]
        · simp [h])
      rw [Nat.sub_self] at this
      exact this)
    have HO3 : Hid (W3.ownsRow (w.heap.size + 1) 3 1 (.slice Av bs.length cv) bs.length (bs.map fun (i : Nat) => Value.int .i64 i)) := Lib.hid (by
      rw [hW3]
      obtain ⟨L, _, _, hL⟩ := HI2.out.b
      exact own_setneR HO2.out (RdI_ne (w := w) HO2.out hL) _)
    rw [← hW3]
    clear hW3 z1 z2 z3 z4 z4'
    go_wp2_with fail
    go_loopw [43] (fun iv wx => ∃ k : Nat, k ≤ bs.length ∧ iv = .int .i64 k ∧ Hid (RdI w gL r q l bs A A2 c m c2 view (lieQ l bs r k) wx ∧ wx.ownsRow (w.heap.size + 1) 3 1 (.slice Av bs.length cv) bs.length (bs.map fun (i : Nat) => Value.int .i64 i))) (fun iv _ => bs.length - (intOf iv).toNat)
    case atStart => exact ⟨0, by omega, rfl, Lib.hid ⟨HI3.out, HO3.out⟩⟩
    case round =>
      obtain ⟨k, hk, rfl, H⟩ := hrel
      by_cases hkl : k < bs.length
      · have d0 : decide ((k : Int) < (bs.length : Int)) = true := decide_eq_true (by omega)
        have d0' : decide (k < bs.length) = true := decide_eq_true hkl
        have hki : (k : Int) < (bs.length : Int) := by omega
        obtain ⟨y, hy⟩ : ∃ y, y = bs[k] := ⟨_, rfl⟩
        have hby := HBM.out k hkl
        rw [← hy] at hby
        obtain ⟨gB, hAv⟩ := own_addrP H.out.2 (by omega)
        have HAV := Lib.hid hAv
        have b0 : wr.cell? ⟨gB, k, none⟩ = some (.int .i64 y) := by
          have ho := H.out.2
          rw [hAv] at ho
          exact own_atP ho (by rw [List.getElem?_map, List.getElem?_eq_getElem hkl, ← hy]; rfl)
        have hgB : gB < wr.heap.size := by
          have ho := H.out.2
          rw [hAv] at ho
          exact (own_lt ho gB rfl).2
        have HY := Lib.hid hy
        have hwy : IntKind.i64.wrap ((y : Int) - (r : Int)) = ((y - r : Nat) : Int) := by rw [IntWalk.i64_in _ ⟨by omega, by omega⟩]; omega
        have hwk : IntKind.i64.wrap ((k : Int) + 1) = (k : Int) + 1 := IntWalk.i64_in _ ⟨by omega, by have := HBL.out; omega⟩
        obtain ⟨t0, t1, t2⟩ := H.out.1.t.c3
        have lt1 := H.out.1.t.lt
        subst hAv
        clear hy
        go_wp2_with fail
        refine (HRT.out _ y (by omega) H.out.1.lo).mono ?_
        rintro en w4 ⟨rfl, hb4⟩
        have HI4 := Lib.hid (H.out.1.below hb4)
        have HO4 := Lib.hid (own_below H.out.2 hb4)
        have z1 := HI4.out.cell (j := y) (by omega) hby.2
        have z2 := HI4.out.frozen (y - r)
        have z3 := HI4.out.lt
        have z4 : ((y - r : Nat) : Int) < ((q - r : Nat) : Int) := by omega
        have z4' : y - r < q - r := by omega
        obtain ⟨bo, hbo⟩ : ∃ b, b = rootX l y := ⟨_, rfl⟩
        rw [← hbo]
        have HBO := Lib.hid hbo
        clear hb4 hbo t0 t1 t2 lt1 b0
        go_wp2_with fail
        have HI5 : Hid (RdI w gL r q l bs A A2 c m c2 view (lieQ l bs r (k + 1)) (w4.setCell ⟨gL, y - r, none⟩ (.bool !bo))) := Lib.hid (HI4.out.set (k := y) (!bo) (by omega) hby.2 (fun j j1 j2 => by
          have hyk := HY.out
          rw [lieQ_succ hkl (by rw [← hyk]; omega), ← hyk, HBO.out]))
        have HO5 : Hid ((w4.setCell ⟨gL, y - r, none⟩ (.bool !bo)).ownsRow (w.heap.size + 1) 3 1 (.slice (some ⟨gB, 0, none⟩) bs.length cv) bs.length (bs.map fun (i : Nat) => Value.int .i64 i)) := Lib.hid (by
          obtain ⟨L, _, _, hL⟩ := HI4.out.b
          exact own_setneR HO4.out (RdI_ne (w := w) HO4.out hL) _)
        go_roundw
        case rel => exact ⟨k + 1, by omega, by go_num, Lib.hid ⟨HI5.out, HO5.out⟩⟩
        case measure => simp [intOf]; omega
      obtain rfl : k = bs.length := by omega
      have d0 : decide ((bs.length : Int) < (bs.length : Int)) = false := decide_eq_false (by omega)
      have d0' : decide (bs.length < bs.length) = false := decide_eq_false (by omega)
      have HI6 : Hid (RdI w gL r q l bs A A2 c m c2 view (lieX l r) wr) := Lib.hid (by
        obtain ⟨L, a1, a2, a3⟩ := H.out.1.b
        refine ⟨H.out.1.lo, H.out.1.t, ⟨L, a1, fun j j1 j2 => ?_, a3⟩, H.out.1.g⟩
        rw [a2 j j1 j2]
        have := lieQ_all HT.out j1 j2 hel
        rw [← HE.out.2.2] at this
        rw [this])
      have HO6 := Lib.hid H.out.2
      have HRD := Lib.hid (Reads.of_own H.out.2)
      have hbl6 : bs.length ≤ 1000000 := by have := HBL.out; omega
      clear H hk hkl
      go_upto_region 13 with (at_builtin; refine wpList_app1 rfl _ _ rfl el_intP (.int .i64 r) (by first | rfl | simp) rfl rfl _ rfl HRD.out (by intro u hu; rw [List.mem_map] at hu; obtain ⟨i, _, rfl⟩ := hu; rfl) hbl6 (by omega) ?_; intro A7 c7 w7 hown7 hb7)
      have HI7 := Lib.hid (HI6.out.below hb7)
      have HO7 : Hid (w7.ownsRow (gL + 1) 3 1 (.slice A7 (1 + bs.length) c7) (1 + bs.length) (((r :: bs) ++ txF l r (r + 1)).map fun (i : Nat) => Value.int .i64 i)) := Lib.hid (by
        have hx : txF l r (r + 1) = [] := by unfold txF; simp
        rw [hx, List.append_nil]
        exact ⟨by simpa using hown7.1, hown7.2.elim (fun h => .inl ⟨h.1, by simpa using h.2⟩) (fun ⟨g, cap, cur, a, b, d⟩ => .inr ⟨g, cap, cur, a, by have := HI6.out.lt; omega, by simpa using d⟩)⟩)
      clear hown7 hb7
      obtain ⟨n7, hn7⟩ : ∃ n, n = 1 + bs.length := ⟨_, rfl⟩
      rw [← hn7] at HO7 ⊢
      have HN7 := Lib.hid hn7
      clear hn7
      have HG7 := Lib.hid HI7.out.g
      go_wp2_with fail
      go_loopw [11, 10] (fun iv lv wx => ∃ k nk : Nat, r < k ∧ k ≤ q ∧ iv = .int .i64 k ∧ nk ≤ 200000 ∧ Hid (RdI w gL r q l bs A A2 c m c2 view (lieX l r) wx ∧ nk = (((r :: bs) ++ txF l r k)).length ∧ wx.ownsRow (gL + 1) 3 1 lv nk (((r :: bs) ++ txF l r k).map fun (i : Nat) => Value.int .i64 i))) (fun iv _ _ => q - (intOf iv).toNat)
      case atStart => exact ⟨r + 1, n7, by omega, by omega, by simp, by have := HN7.out; have := HBL.out; omega, Lib.hid ⟨HI7.out, (by have hx : txF l r (r + 1) = [] := (by unfold txF; simp); rw [hx]; have := HN7.out; simp; omega), HO7.out⟩⟩
      case round =>
        obtain ⟨k, nk, hk1, hk2, rfl, hnk, H⟩ := hrel
        by_cases hkq : k < q
        · have d0 : decide ((k : Int) < (q : Int)) = true := decide_eq_true (by omega)
          have d0' : decide (k < q) = true := decide_eq_true hkq
          have hkl : k < l.length := by omega
          have hki : (k : Int) < (l.length : Int) := by omega
          have hwk : IntKind.i64.wrap ((k : Int) + 1) = (k : Int) + 1 := IntWalk.i64_in _ ⟨by omega, by omega⟩
          obtain ⟨A8, c8, h8⟩ := own_form H.out.2.2
          subst h8
          obtain ⟨x, hx⟩ : ∃ x, x = l[k] := ⟨_, rfl⟩
          obtain ⟨Au, cu, huv⟩ := HU.out l[k] (List.getElem_mem hkl)
          rw [← hx] at huv
          obtain ⟨ad, hA, hnd⟩ := (HR.out.below H.out.1.lo).nd rfl hkl
          have hlb : ad.block < w.heap.size := by have := hnd.lt; rw [block_of_add] at this; exact this
          have HC : Hid (∀ j u, (ndCells x)[j]? = some u → wr.cell? ((ad.add (k * 44)).add j) = some u) := Lib.hid (by
            intro j u hu
            obtain ⟨ad', e, hb, hc⟩ := (HR.out.below H.out.1.lo).2 (by omega)
            rw [hA] at e; injection e with e; subst e
            have hj : j < 44 := by have := (List.getElem?_eq_some_iff.1 hu).1; rw [nd_len] at this; exact this
            rw [add_of_add]
            exact hc _ u (by rw [ndsCells_at l k j hkl hj, ← hx]; exact hu))
          obtain ⟨gN, hgN⟩ : ∃ g, g = wr.heap.size := ⟨_, rfl⟩
          obtain ⟨W8, hW8⟩ : ∃ W, W = wr.alloc (.cells (ndCells x).toArray 69) := ⟨_, rfl⟩
          have HB8 : Hid (Below wr.heap.size wr W8) := Lib.hid (by rw [hW8]; exact (Below.refl _ _).alloc (Nat.le_refl _) _)
          have HX8 : Hid (Blk W8 gN 69 (ndCells x).toArray) := Lib.hid (by rw [hW8, hgN]; exact Blk.new _ _ _)
          have HI8 := Lib.hid (H.out.1.below HB8.out)
          have HO8 := Lib.hid (own_below H.out.2.2 HB8.out)
          have HN8 := Lib.hid H.out.2.1
          have HO := Lib.hid (Nd.one x huv)
          have HPK := Lib.hid (HT.out.par k hkl (by omega))
          have HK3 := Lib.hid (k3_at hkl)
          have HTP := Lib.hid (par_in HT.out (by omega) hkl (HE.out.1 k hk1 hkq))
          have HLT := Lib.hid (HT.out.lt k (by omega) hkl)
          have HTX := Lib.hid (txF_succ l hk1)
          rw [← hx] at HPK HK3
          obtain ⟨t0, t1, t2⟩ := H.out.1.t.c3
          have lt1 := H.out.1.t.lt
          have HW8 := Lib.hid hW8
          clear hnd hx huv H
          subst hA
          go_upto_region 17 with (first
            | refine wpList_load_at rfl 69 _ rfl (ad.add (k * 44)) rfl (ndCells x) _ HC.out Tryz.underlying69 rfl (by kernel_rfl) ?_
            | refine wpList_store_new rfl 69 _ _ rfl wr.heap.size (by simp) (ndCells x).toArray rfl rfl 69 _ (by kernel_rfl) rfl HO.out ?_)
          rw [← hW8, ← hgN]
          clear hW8 hgN t0 t1 t2 lt1
          obtain ⟨kd, hkd⟩ : ∃ y, y = x.s.kind := ⟨_, rfl⟩
          obtain ⟨pp, hpp⟩ : ∃ y, y = Pl l k := ⟨_, rfl⟩
          have n0 : W8.cell? ⟨gN, 0, none⟩ = some (.int .i64 pp) := by rw [hpp, ← HPK.out]; exact HX8.out.get 0 rfl
          have n1 : W8.cell? ⟨gN, 1, none⟩ = some (.int .u8 kd) := by rw [hkd]; exact HX8.out.get 1 rfl
          have lN := HX8.out.lt
          rw [← hkd] at HK3
          rw [← hpp] at HTP HLT HTX
          clear hkd hpp
          by_cases hk3 : kd = 3
          · have e3 : (kd == 3) = true := beq_iff_eq.2 hk3
            have hp1 := HTP.out
            have hp2 := HLT.out
            have z1 := HI8.out.cell (j := pp) hp1 (by omega)
            have z3 := HI8.out.lt
            have z4 : ((pp - r : Nat) : Int) < ((q - r : Nat) : Int) := by omega
            have z4' : pp - r < q - r := by omega
            have hwp : IntKind.i64.wrap ((pp : Int) - (r : Int)) = ((pp - r : Nat) : Int) := by rw [IntWalk.i64_in _ ⟨by omega, by omega⟩]; omega
            obtain ⟨lb, hlb⟩ : ∃ b, b = lieX l r pp := ⟨_, rfl⟩
            rw [← hlb] at z1 HTX
            have HK3' := Lib.hid (HK3.out.trans e3)
            rw [HK3'.out, Bool.true_and] at HTX
            clear hlb hk3
            cases lb
            · have HTN : Hid (txF l r (k + 1) = txF l r k) := Lib.hid (by rw [HTX.out]; simp)
              go_wp2_with fail
              go_roundw
              case rel => exact ⟨k + 1, nk, by omega, by omega, by go_num, by omega, Lib.hid ⟨HI8.out, by rw [HTN.out]; exact HN8.out, by rw [HTN.out]; exact HO8.out⟩⟩
              case measure => simp [intOf]; omega
            · have HTN : Hid (txF l r (k + 1) = txF l r k ++ [k]) := Lib.hid (by rw [HTX.out]; simp)
              have HSZ := Lib.hid (show gL + 1 ≤ W8.heap.size from HI8.out.lt)
              have HLN : Hid (nk + 1 ≤ 200000) := Lib.hid (by
                have h1 := HN8.out
                have h2 : (txF l r k).length ≤ k := by
                  unfold txF
                  have := List.length_filter_le (fun x => K3l l x && lieX l r (Pl l x)) (List.range' (r + 1) (k - (r + 1)))
                  rw [List.length_range'] at this; omega
                have h3 := HBL.out
                rw [List.length_append, List.length_cons] at h1
                omega)
              have hn9 : nk + 1 ≤ 4294967296 := by omega
              go_wp2_with (at_builtin; refine wpList_app (m := 1) rfl _ _ rfl el_intP HO8.out HSZ.out rfl [.int .i64 k] rfl (by simp) (by simp [Value.oneCell']) hn9 (by omega) ?_; intro A' c' w9 hown hB hg hob)
              have HI9 := Lib.hid (HI8.out.grown HO8.out (by omega) hg hB)
              have HO9 := Lib.hid hown
              clear hown hB hg hob
              go_roundw
              case rel => exact ⟨k + 1, nk + 1, by omega, by omega, by go_num, HLN.out, Lib.hid ⟨HI9.out, by rw [HTN.out, ← List.append_assoc, List.length_append]; have := HN8.out; simp only [List.length_cons, List.length_nil]; omega, by rw [HTN.out, ← List.append_assoc, List.map_append]; exact HO9.out⟩⟩
              case measure => simp [intOf]; omega
          · have e3 : (kd == 3) = false := beq_eq_false_iff_ne.2 hk3
            have HK3' := Lib.hid (HK3.out.trans e3)
            rw [HK3'.out, Bool.false_and] at HTX
            have HTN : Hid (txF l r (k + 1) = txF l r k) := Lib.hid (by rw [HTX.out]; simp)
            clear hk3
            go_wp2_with fail
            go_roundw
            case rel => exact ⟨k + 1, nk, by omega, by omega, by go_num, by omega, Lib.hid ⟨HI8.out, by rw [HTN.out]; exact HN8.out, by rw [HTN.out]; exact HO8.out⟩⟩
            case measure => simp [intOf]; omega
        · obtain rfl : k = q := by omega
          have d0 : decide ((k : Int) < (k : Int)) = false := decide_eq_false (by omega)
          have d0' : decide (k < k) = false := decide_eq_false (by omega)
          obtain ⟨A8, c8, h8⟩ := own_form H.out.2.2
          subst h8
          have HPM : Hid ((((r :: bs) ++ txF l r k)).Perm (rdF l r)) := Lib.hid (by
            have := rd_perm HT.out hrl hk1 hel HE.out.1 HE.out.2.1
            rw [← HE.out.2.2] at this
            exact this)
          have HSO := Lib.hid (sort_own (gL + 1) A8 nk c8 (((r :: bs) ++ txF l r k).map fun (i : Nat) => (i : Int)) (by rw [List.length_map]; exact H.out.2.1.symm) wr (by
            have := H.out.2.2
            rw [show (((r :: bs) ++ txF l r k).map fun (i : Nat) => Value.int .i64 i) = ((((r :: bs) ++ txF l r k).map fun (i : Nat) => (i : Int)).map (Value.int .i64)) by rw [List.map_map]; rfl] at this
            exact this) (by have := H.out.2.1; simp at this; omega) (by omega))
          have HNR : Hid (nk = (rdF l r).length) := Lib.hid (by rw [H.out.2.1]; exact HPM.out.length_eq)
          have HSR := Lib.hid (sort_rd HPM.out)
          have HI10 := Lib.hid H.out.1
          have HOX := Lib.hid H.out.2.2
          clear H
          go_wp2_with fail
          refine HSO.out.mono ?_
          rintro en w9 ⟨rfl, hown, hg⟩
          have HB9 := Lib.hid (HI10.out.lo.trans (below_grownS hg HOX.out (B := w.heap.size) (by have := HI10.out.g; omega) HI10.out.lo.size))
          have HO9 := Lib.hid hown
          clear hown hg
          rw [HSR.out] at HO9
          rw [HNR.out] at HO9 ⊢
          go_wp2_with fail
          go_ret
          refine ⟨⟨A8, c8, rfl, ?_⟩, HB9.out⟩
          have := HO9.out
          rw [List.map_map] at this
          exact ⟨this.1, this.2.elim .inl (fun ⟨g, cap, cur, a, b, d⟩ => .inr ⟨g, cap, cur, a, by have := HI10.out.g; omega, d⟩)⟩
end
end Go.Proofs.YtjhfcpadnofdnaaGreat
