/- Contracts: jamblaw17.Up. -/
import Derived.Test.YtbopeofglhkffaaCnj
import Derived.Test.YtbopeofglhkffaaBta
import Derived.Test.YtbopeofglhkffaaTrh
import Derived.BigQuiet
set_option linter.unusedSimpArgs false
set_option linter.unusedVariables false
namespace Go.Proofs.Ytbopeofglhkffaa
open Go.RowKit
attribute [local go_sem] block_of_add
def blsC (l : List Bool) : List Value := l.map Value.bool
def cAt (out : List Cn) (k : Int) : Cn := (out[k.toNat]?).getD cn0
theorem el_boolU : El Try.prog 38 4 (.bool false) 1 1 := ⟨Try.underlying38, by kernel_rfl, rfl, by decide⟩
theorem made_bls (n : Nat) : madeCells (Value.bool false).cells (n * 1) = (blsC (List.replicate n false)).toArray := by
  apply Array.toList_inj.1
  rw [Nat.mul_one]
  show (madeCells #[.bool false] n).toList = _
  rw [toList_madeCells_one]; simp [blsC]
theorem make_bls (n : Nat) (hn : n ≤ 1000000) (w : World) : (Instr.makeSlice 38 (.int .i64 (n : Int)) (.int .i64 (n : Int))).run Try.prog w = .ok (.slice (some ⟨w.heap.size, 0, none⟩) n n) (w.alloc (.cells (blsC (List.replicate n false)).toArray 4)) := by
  obtain ⟨i, hi, hz, hs, hb⟩ := info_parts el_boolU.info
  have h := run_makeSlice (P := Try.prog) (w := w) 38 4 i (.bool false) el_boolU.ht hi hz .i64 .i64 (n : Int) (n : Int) (by omega) (by omega) (by rw [hs]; omega) (by rw [hb]; omega) (by omega)
  rw [h, hs, Int.toNat_natCast, made_bls]
theorem cnsCells_set (l : List Cn) : ∀ (i : Nat) (c : Cn), i < l.length → cnsCells (l.set i c) = (((((cnsCells l).set (i * 4) (.int .i64 c.least)).set (i * 4 + 1) (.int .i64 c.greatest)).set (i * 4 + 2) (.int .i64 c.ol)).set (i * 4 + 3) (.int .i64 c.og)) := by
  induction l with
  | nil => intro i c h; simp at h
  | cons a t ih =>
    intro i c h
    cases i with
    | zero => simp [cnsCells, cnCells]
    | succ i =>
      have e : ∀ l : List Cn, cnsCells (a :: l) = (.int .i64 a.least) :: (.int .i64 a.greatest) :: (.int .i64 a.ol) :: (.int .i64 a.og) :: cnsCells l := fun l => by simp [cnsCells, cnCells]
      rw [List.set_cons_succ, e, e, ih i c (by simpa using h), show (i + 1) * 4 = i * 4 + 1 + 1 + 1 + 1 by omega]
      simp [List.set_cons_succ, Nat.add_right_comm]
theorem unK_sub (l : List Nd) (ns : List Nat) : (∀ n ∈ ns, n < l.length) → ns.Pairwise (· < ·) → (ns.map fun (n : Nat) => ((styAt l (n : Int)).map fun s => s.units.length).getD 0).sum ≤ unF l := by
  intro h1 h2
  have key : ∀ (l : List Nd) (b : Nat) (ns : List Nat), (∀ n ∈ ns, b ≤ n ∧ n < b + l.length) → ns.Pairwise (· < ·) → (ns.map fun (n : Nat) => ((l[n - b]?).map fun x => x.s.units.length).getD 0).sum ≤ unF l := by
    intro l
    induction l with
    | nil =>
      intro b ns h _
      cases ns with
      | nil => simp
      | cons a t => have := h a (by simp); simp at this; omega
    | cons x t ih =>
      intro b ns h hp
      have e : unF (x :: t) = x.s.units.length + unF t := by simp [unF]
      rw [e]
      have tail : ∀ ns : List Nat, (∀ n ∈ ns, b + 1 ≤ n ∧ n < b + 1 + t.length) → ns.Pairwise (· < ·) → (ns.map fun (n : Nat) => (((x :: t)[n - b]?).map fun x => x.s.units.length).getD 0).sum ≤ unF t := by
        intro ns h hp
        have := ih (b + 1) ns h hp
        refine Nat.le_trans (Nat.le_of_eq ?_) this
        congr 1
        apply List.map_congr_left
        intro n hn
        have hb := h n hn
        rw [show n - b = (n - (b + 1)) + 1 by omega, List.getElem?_cons_succ]
      cases ns with
      | nil => simp
      | cons a ns =>
        have ha := h a (by simp)
        rw [List.length_cons] at ha
        rw [List.pairwise_cons] at hp
        by_cases hab : a = b
        · have := tail ns (fun n hn => by have h3 := h n (by simp [hn]); have h4 := hp.1 n hn; rw [List.length_cons] at h3; omega) hp.2
          rw [List.map_cons, List.sum_cons, hab, Nat.sub_self, List.getElem?_cons_zero]
          show x.s.units.length + _ ≤ _
          omega
        · have := tail (a :: ns) (fun n hn => by
            have h3 := h n hn
            rw [List.length_cons] at h3
            rcases List.mem_cons.1 hn with rfl | hn
            · omega
            · have := hp.1 n hn; omega) (List.pairwise_cons.2 hp)
          omega
  have := key l 0 ns (fun n hn => ⟨by omega, by have := h1 n hn; omega⟩) h2
  refine Nat.le_trans (Nat.le_of_eq ?_) this
  congr 1
  apply List.map_congr_left
  intro n hn
  have hn := h1 n hn
  rw [styAt_nat hn, Nat.sub_zero, List.getElem?_eq_getElem hn]; rfl
theorem unK_kids (l : List Nd) (i : Nat) : unK l (kidsF l i) ≤ unF l := by
  have := unK_sub l ((List.range l.length).filter fun k => parF l k == (i : Int)) (fun n hn => by simpa using (List.mem_filter.1 hn).1) (List.Pairwise.filter _ List.pairwise_lt_range)
  unfold unK kidsF
  rw [List.map_map]
  exact this
theorem nodeP_bd (l : List Nd) (adv : List Int) (i : Int) (ks : List Int) (got : List Cn) : (0 ≤ (nodeP l adv i ks got).1.ol ∧ (nodeP l adv i ks got).1.ol ≤ 4611686018427387904) ∧ (0 ≤ (nodeP l adv i ks got).1.og ∧ (nodeP l adv i ks got).1.og ≤ 4611686018427387904) := by
  unfold nodeP
  split
  · simp
  · split
    · simp
    · rename_i s _ _
      have h : ∀ v, 0 ≤ cutF (outP s v) ∧ cutF (outP s v) ≤ 4611686018427387904 := fun v => ⟨cutF_nn (outP_nn s v), by have := cutF_le (outP s v); omega⟩
      exact ⟨h _, h _⟩
/-- From r on all nodes' contents are those of their children's. -/
structure UpK (l : List Nd) (adv : List Int) (r : Nat) (out : List Cn) (bey : List Bool) : Prop where
  lo : out.length = l.length
  lb : bey.length = l.length
  ok : ∀ i (h : i < l.length), r ≤ i → (cAt out i, (bey[i]?).getD false) = nodeP l adv i (kidsF l i) ((kidsF l i).map (cAt out))
  z : ∀ i, i < r → cAt out i = cn0
theorem UpK.bd {l : List Nd} {adv : List Int} {r : Nat} {out : List Cn} {bey : List Bool} (h : UpK l adv r out bey) (i : Nat) (hi : i < l.length) : (0 ≤ (cAt out i).ol ∧ (cAt out i).ol ≤ 4611686018427387904) ∧ (0 ≤ (cAt out i).og ∧ (cAt out i).og ≤ 4611686018427387904) := by
  by_cases hr : r ≤ i
  · have := h.ok i hi hr
    have e : cAt out i = (nodeP l adv i (kidsF l i) ((kidsF l i).map (cAt out))).1 := by rw [← this]
    rw [e]; exact nodeP_bd ..
  · rw [h.z i (by omega)]; simp [cn0]
theorem UpK.start (l : List Nd) (adv : List Int) : UpK l adv l.length (List.replicate l.length cn0) (List.replicate l.length false) :=
  ⟨by simp, by simp, fun i h h2 => by omega, fun i h => by unfold cAt; rw [Int.toNat_natCast, List.getElem?_replicate, if_pos h]; rfl⟩
theorem cAt_set {out : List Cn} {i : Nat} {c : Cn} (hi : i < out.length) (k : Nat) : cAt (out.set i c) (k : Int) = if k = i then c else cAt out k := by
  unfold cAt
  rw [Int.toNat_natCast]
  by_cases h : k = i
  · subst h; rw [if_pos rfl, List.getElem?_set_self hi]; rfl
  · rw [if_neg h, List.getElem?_set_ne (Ne.symm h)]
theorem UpK.step {l : List Nd} {adv : List Int} {i : Nat} {out : List Cn} {bey : List Bool} (h : UpK l adv (i + 1) out bey) (hi : i < l.length) :
    UpK l adv i (out.set i (nodeP l adv i (kidsF l i) ((kidsF l i).map (cAt out))).1) (bey.set i (nodeP l adv i (kidsF l i) ((kidsF l i).map (cAt out))).2) := by
  have hio : i < out.length := by rw [h.lo]; exact hi
  have hmap : ∀ j, i ≤ j → (kidsF l j).map (cAt (out.set i (nodeP l adv i (kidsF l i) ((kidsF l i).map (cAt out))).1)) = (kidsF l j).map (cAt out) := fun j hj => by
    apply List.map_congr_left
    intro k hk
    obtain ⟨n, rfl, hn, hp, hlt⟩ := kids_mem hk
    rw [cAt_set hio, if_neg (by omega)]
  refine ⟨by rw [List.length_set]; exact h.lo, by rw [List.length_set]; exact h.lb, fun j hj hr => ?_, fun j hj => ?_⟩
  · rw [hmap j hr, cAt_set hio]
    by_cases e : j = i
    · subst e
      rw [if_pos rfl, List.getElem?_set_self (by rw [h.lb]; exact hi)]; rfl
    · rw [if_neg e, List.getElem?_set_ne (Ne.symm e)]
      exact h.ok j hj (by omega)
  · rw [cAt_set hio, if_neg (by omega)]; exact h.z j (by omega)
structure UpI (l : List Nd) (gk : Nat) (w wr : World) (bt : Array Value) (out : List Cn) (bey : List Bool) : Prop where
  t : Blk wr (w.heap.size) 25 bt
  o : Blk wr (w.heap.size + 1) 45 (cnsCells out).toArray
  y : Blk wr (w.heap.size + 1 + 1) 4 (blsC bey).toArray
  k : KidsAt wr (w.heap.size + 1 + 1 + 1) wr.heap.size gk l
  b : Below w.heap.size w wr
theorem UpI.kept {l : List Nd} {gk : Nat} {w wr w' : World} {bt : Array Value} {out : List Cn} {bey : List Bool} (h : UpI l gk w wr bt out bey) (hb : Below wr.heap.size wr w') : UpI l gk w w' bt out bey :=
  ⟨h.t.below hb h.t.lt, h.o.below hb h.o.lt, h.y.below hb h.y.lt, (h.k.below hb).more hb.size, h.b.trans (hb.mono h.b.size)⟩
theorem UpI.sets {l : List Nd} {gk : Nat} {w wr : World} {bt : Array Value} {out : List Cn} {bey : List Bool} (h : UpI l gk w wr bt out bey) (i : Nat) (hi : i < out.length) (c : Cn) :
    UpI l gk w ((((wr.setCell ⟨w.heap.size + 1, i * 4, none⟩ (.int .i64 c.least)).setCell ⟨w.heap.size + 1, i * 4 + 1, none⟩ (.int .i64 c.greatest)).setCell ⟨w.heap.size + 1, i * 4 + 2, none⟩ (.int .i64 c.ol)).setCell ⟨w.heap.size + 1, i * 4 + 3, none⟩ (.int .i64 c.og)) bt (out.set i c) bey := by
  have f1 : (w.heap.size) ≠ w.heap.size + 1 := by omega
  have f2 : (w.heap.size + 1 + 1) ≠ w.heap.size + 1 := by omega
  have f3 : w.heap.size + 1 < w.heap.size + 1 + 1 + 1 := by omega
  have f4 : w.heap.size ≤ w.heap.size + 1 := by omega
  have hk := (((h.k.set_ (p := ⟨w.heap.size + 1, i * 4, none⟩) f3 (.int .i64 c.least)).set_ (p := ⟨w.heap.size + 1, i * 4 + 1, none⟩) f3 (.int .i64 c.greatest)).set_ (p := ⟨w.heap.size + 1, i * 4 + 2, none⟩) f3 (.int .i64 c.ol)).set_ (p := ⟨w.heap.size + 1, i * 4 + 3, none⟩) f3 (.int .i64 c.og)
  refine ⟨(((h.t.far f1 _).far f1 _).far f1 _).far f1 _, ?_, (((h.y.far f2 _).far f2 _).far f2 _).far f2 _, by simpa [World.setCell] using hk, (((h.b.setCell (p := ⟨w.heap.size + 1, i * 4, none⟩) f4 _).setCell (p := ⟨w.heap.size + 1, i * 4 + 1, none⟩) f4 _).setCell (p := ⟨w.heap.size + 1, i * 4 + 2, none⟩) f4 _).setCell (p := ⟨w.heap.size + 1, i * 4 + 3, none⟩) f4 _⟩
  have := (((h.o.set_ (i * 4) (.int .i64 c.least)).set_ (i * 4 + 1) (.int .i64 c.greatest)).set_ (i * 4 + 2) (.int .i64 c.ol)).set_ (i * 4 + 3) (.int .i64 c.og)
  rw [cnsCells_set out i c hi]
  simpa using this
theorem UpI.setb {l : List Nd} {gk : Nat} {w wr : World} {bt : Array Value} {out : List Cn} {bey : List Bool} (h : UpI l gk w wr bt out bey) (i : Nat) (b : Bool) :
    UpI l gk w (wr.setCell ⟨w.heap.size + 1 + 1, i, none⟩ (.bool b)) bt out (bey.set i b) := by
  have f1 : (w.heap.size) ≠ w.heap.size + 1 + 1 := by omega
  have f2 : (w.heap.size + 1) ≠ w.heap.size + 1 + 1 := by omega
  have f3 : w.heap.size + 1 + 1 < w.heap.size + 1 + 1 + 1 := by omega
  have f4 : w.heap.size ≤ w.heap.size + 1 + 1 := by omega
  refine ⟨h.t.far f1 _, h.o.far f2 _, ?_, by simpa [World.setCell] using h.k.set_ (p := ⟨w.heap.size + 1 + 1, i, none⟩) f3 (.bool b), h.b.setCell (p := ⟨w.heap.size + 1 + 1, i, none⟩) f4 _⟩
  have := h.y.set_ i (.bool b)
  simpa [blsC, List.map_set] using this
/-- What the region that asks for a node's contents reads. -/
structure UpS (g0 gk i n c m c2 kn ck : Nat) (A A2 Ak : Option Addr) (view : Int) (W : World) : Prop where
  l0 : g0 < W.heap.size
  lk : gk < W.heap.size
  c0 : W.cell? ⟨g0, 0, none⟩ = some (.slice A n c)
  c1 : W.cell? ⟨g0, 1, none⟩ = some (.slice A2 m c2)
  c2 : W.cell? ⟨g0, 2, none⟩ = some (.int .i64 view)
  ck : W.cell? ⟨gk, i, none⟩ = some (.slice Ak kn ck)
theorem UpS.below {g0 gk i n c m c2 kn ck : Nat} {A A2 Ak : Option Addr} {view : Int} {W W' : World} (h : UpS g0 gk i n c m c2 kn ck A A2 Ak view W) (hb : Below W.heap.size W W') : UpS g0 gk i n c m c2 kn ck A A2 Ak view W' :=
  ⟨Nat.lt_of_lt_of_le h.l0 hb.size, Nat.lt_of_lt_of_le h.lk hb.size, (hb.cell (p := ⟨g0, 0, none⟩) h.l0).trans h.c0, (hb.cell (p := ⟨g0, 1, none⟩) h.l0).trans h.c1, (hb.cell (p := ⟨g0, 2, none⟩) h.l0).trans h.c2, (hb.cell (p := ⟨gk, i, none⟩) h.lk).trans h.ck⟩
theorem UpS.set_ {g0 gk i n c m c2 kn ck : Nat} {A A2 Ak : Option Addr} {view : Int} {W : World} (h : UpS g0 gk i n c m c2 kn ck A A2 Ak view W) {p : Addr} (h0 : g0 ≠ p.block) (hk : gk ≠ p.block) (u : Value) : UpS g0 gk i n c m c2 kn ck A A2 Ak view (W.setCell p u) :=
  have e : ∀ g j, g ≠ p.block → (W.setCell p u).cell? ⟨g, j, none⟩ = W.cell? ⟨g, j, none⟩ := fun g j hg => World.cell?_of_block (Below.heap_setCell W p u g hg)
  ⟨by simpa [World.setCell] using h.l0, by simpa [World.setCell] using h.lk, (e _ _ h0).trans h.c0, (e _ _ h0).trans h.c1, (e _ _ h0).trans h.c2, (e _ _ hk).trans h.ck⟩
structure UpAns (l : List Nd) (adv : List Int) (w w' : World) (e : Ending) : Prop where
  ex : ∃ go gb out bey, e = .returned (.tuple #[.slice (some ⟨go, 0, none⟩) l.length l.length, .slice (some ⟨gb, 0, none⟩) l.length l.length]) ∧ Blk w' go 45 (cnsCells out).toArray ∧ Blk w' gb 4 (blsC bey).toArray ∧ UpK l adv 0 out bey
  b : Below w.heap.size w w'
section
variable (l : List Nd) (adv : List Int) (A A2 : Option Addr) (c c2 : Nat) (view : Int) (w : World)
set_option maxRecDepth 100000 in
set_option maxHeartbeats 1000000 in
theorem up_any (ht : TrH w w.heap.size A A2 l adv) (hsb : ∀ (i : Nat) (h : i < l.length), StyB l[i].s) (hun : unF l ≤ 1000000) (h0 : 0 < l.length) :
    Calls Try.prog 13 #[.agg #[.slice A l.length c, .slice A2 adv.length c2, .int .i64 view]] w fun e w' => UpAns l adv w w' e := by
  have HT := Lib.hid ht
  have HSB := Lib.hid hsb
  have HUN := Lib.hid hun
  have HN := Lib.hid ht.n
  have HB3 : Hid (Below w.heap.size w (((w.alloc (.cells #[.slice A l.length c, .slice A2 adv.length c2, .int .i64 view] 25)).alloc (.cells (cnsCells (List.replicate l.length cn0)).toArray 45)).alloc (.cells (blsC (List.replicate l.length false)).toArray 4))) := Lib.hid ((((Below.refl _ _).alloc (Nat.le_refl _) _).alloc (by simp) _).alloc (by simp; omega) _)
  have HKI := Lib.hid (kids_any l A A2 c adv.length c2 view (((w.alloc (.cells #[.slice A l.length c, .slice A2 adv.length c2, .int .i64 view] 25)).alloc (.cells (cnsCells (List.replicate l.length cn0)).toArray 45)).alloc (.cells (blsC (List.replicate l.length false)).toArray 4)) (by have := ht.n; omega) ((ht.nd.below HB3.out).more HB3.out.size))
  have HB0 : Hid (Blk (((w.alloc (.cells #[.slice A l.length c, .slice A2 adv.length c2, .int .i64 view] 25)).alloc (.cells (cnsCells (List.replicate l.length cn0)).toArray 45)).alloc (.cells (blsC (List.replicate l.length false)).toArray 4)) (w.heap.size) 25 #[.slice A l.length c, .slice A2 adv.length c2, .int .i64 view] ∧ Blk (((w.alloc (.cells #[.slice A l.length c, .slice A2 adv.length c2, .int .i64 view] 25)).alloc (.cells (cnsCells (List.replicate l.length cn0)).toArray 45)).alloc (.cells (blsC (List.replicate l.length false)).toArray 4)) (w.heap.size + 1) 45 (cnsCells (List.replicate l.length cn0)).toArray ∧ Blk (((w.alloc (.cells #[.slice A l.length c, .slice A2 adv.length c2, .int .i64 view] 25)).alloc (.cells (cnsCells (List.replicate l.length cn0)).toArray 45)).alloc (.cells (blsC (List.replicate l.length false)).toArray 4)) (w.heap.size + 1 + 1) 4 (blsC (List.replicate l.length false)).toArray) := Lib.hid ⟨((Blk.new _ _ _).alloc _).alloc _, (Blk.at_ _ _ _ (by simp)).alloc _, Blk.at_ _ _ _ (by simp)⟩
  have hm1 := fun W => make_cns l.length (by have := ht.n; omega) W
  have hm2 := fun W => make_bls l.length (by have := ht.n; omega) W
  have hw0 : IntKind.i64.wrap ((l.length : Int) - 1) = (l.length : Int) - 1 := IntWalk.i64_in _ ⟨by omega, by have := ht.n; omega⟩
  clear ht hsb hun
  go_enter Try.func13, Try.ntmps13
  go_wp2_with fail
  refine HKI.out.mono ?_
  rintro e w3 ⟨⟨gk, rfl, hka⟩, hb3⟩
  have hz3 : ∀ W : World, (((W.alloc (.cells #[.slice A l.length c, .slice A2 adv.length c2, .int .i64 view] 25)).alloc (.cells (cnsCells (List.replicate l.length cn0)).toArray 45)).alloc (.cells (blsC (List.replicate l.length false)).toArray 4)).heap.size = W.heap.size + 1 + 1 + 1 := fun W => by simp
  have HU0 : Hid (UpI l gk w w3 #[.slice A l.length c, .slice A2 adv.length c2, .int .i64 view] (List.replicate l.length cn0) (List.replicate l.length false)) := Lib.hid ⟨HB0.out.1.below hb3 HB0.out.1.lt, HB0.out.2.1.below hb3 HB0.out.2.1.lt, HB0.out.2.2.below hb3 HB0.out.2.2.lt, by rw [hz3 w] at hka; exact hka, HB3.out.trans (hb3.mono HB3.out.size)⟩
  have bt := HU0.out.t.c3
  clear hka hb3 hz3 hm1 hm2
  go_wp2_with fail
  clear bt
  go_loopw [7, 8, 9] (fun iv v8 v9 wr => ∃ (r : Nat) (z : Int), r ≤ l.length ∧ z = (r : Int) - 1 ∧ iv = .int .i64 z ∧ Hid (∃ out bey, UpI l gk w wr #[.slice A l.length c, .slice A2 adv.length c2, .int .i64 view] out bey ∧ UpK l adv r out bey)) (fun iv _ _ _ => (intOf iv + 1).toNat)
  case atStart => exact ⟨l.length, _, Nat.le_refl _, rfl, rfl, Lib.hid ⟨_, _, HU0.out, UpK.start l adv⟩⟩
  case round =>
    obtain ⟨r, z, hr, hz, rfl, H⟩ := hrel
    obtain ⟨out, bey, hui, huk⟩ := H.out
    have HI := Lib.hid hui
    have HK := Lib.hid huk
    clear hui huk H
    by_cases hz0 : 0 ≤ z
    rotate_left
    · have d0 : decide (0 ≤ z) = false := decide_eq_false hz0
      have HR0 := Lib.hid (show r = 0 by omega)
      go_wp2_with fail
      go_ret2
      exact ⟨⟨_, _, out, bey, rfl, HI.out.o, HI.out.y, by have := HK.out; rw [HR0.out] at this; exact this⟩, HI.out.b⟩
    obtain ⟨i, rfl⟩ := Int.eq_ofNat_of_zero_le hz0
    obtain rfl : r = i + 1 := by omega
    have hil : i < l.length := by omega
    have d0 : decide ((0 : Int) ≤ (i : Int)) = true := decide_eq_true hz0
    have d1 : decide ((i : Int) < (l.length : Int)) = true := decide_eq_true (by omega)
    have hwi : IntKind.i64.wrap ((i : Int) - 1) = (i : Int) - 1 := IntWalk.i64_in _ ⟨by omega, by have := HN.out; omega⟩
    obtain ⟨Ak, ck, hk1, hk2, hk3, hk4⟩ := HI.out.k.at_ i hil
    obtain ⟨ks, hks⟩ : ∃ ks, ks = kidsF l i := ⟨_, rfl⟩
    have hkn := kids_len l i
    rw [← hks] at hk1 hk2 hk3 hkn
    have HKS := Lib.hid hks
    have HKR := Lib.hid hk3
    have HK1 := Lib.hid hk1
    have hin : (i : Int) < (l.length : Int) := by omega
    clear hk2 hk3 hk4 hks hz hz0
    go_wp2_with fail
    clear hk1
    have HBK : Hid (∀ wx, Below wr.heap.size wr wx → UpI l gk w wx #[.slice A l.length c, .slice A2 adv.length c2, .int .i64 view] out bey ∧ wx.cell? ⟨gk, i, none⟩ = some (.slice Ak ks.length ck) ∧ Reads wx wx.heap.size 1 Ak ks.length (i64s ks)) := Lib.hid (fun wx hb => ⟨HI.out.kept hb, (hb.cell (p := ⟨gk, i, none⟩) HI.out.k.lt).trans HK1.out, (HKR.out.below hb).more hb.size⟩)
    go_loopw [8, 9] (fun v8 jv wx => ∃ j : Nat, j ≤ ks.length ∧ jv = .int .i64 j ∧ Hid (Below wr.heap.size wr wx ∧ wx.ownsRow wr.heap.size 45 4 v8 j (cnsCells ((ks.take j).map (cAt out))))) (fun _ jv _ => ks.length - (intOf jv).toNat)
    case atStart => exact ⟨0, by omega, rfl, Lib.hid ⟨Below.refl _ _, rfl, .inl ⟨rfl, rfl⟩⟩⟩
    case round =>
      obtain ⟨j, hj, rfl, H8⟩ := hrel
      have HX := Lib.hid (HBK.out wr H8.out.1)
      have hk1 := HX.out.2.1
      have bt := HX.out.1.t.c3
      obtain ⟨A8, c8, h8⟩ := own_form H8.out.2
      subst h8
      have hwj : IntKind.i64.wrap ((j : Int) + 1) = (j : Int) + 1 := IntWalk.i64_in _ ⟨by omega, by have := HN.out; omega⟩
      by_cases hjl : j < ks.length
      · have g0 : decide ((j : Int) < (ks.length : Int)) = true := decide_eq_true (by omega)
        have g0' : decide (j < ks.length) = true := decide_eq_true hjl
        obtain ⟨adk, u, hAk, hab, hx, hc⟩ := HX.out.2.2.at_ hjl
        subst hAk
        have hmem : ∀ k, k ∈ ks → k ∈ kidsF l i := by rw [HKS.out]; exact fun _ h => h
        obtain ⟨q, hq, hql, hqp, hqi⟩ := kids_mem (l := l) (p := i) (k := ks[j]) (hmem _ (List.getElem_mem hjl))
        have hu : u = .int .i64 (q : Int) := by rw [← hq]; simpa [i64s, hjl] using hx.symm
        subst hu
        have g1 : decide ((q : Int) < (l.length : Int)) = true := decide_eq_true (by omega)
        have hqi' : (q : Int) < (l.length : Int) := by omega
        obtain ⟨x, hxc⟩ : ∃ x, x = cAt out q := ⟨_, rfl⟩
        have hqo : q < out.length := by rw [HK.out.lo]; exact hql
        have hoc : ∀ t v, t < 4 → (cnCells x)[t]? = some v → (cnsCells out).toArray[q * 4 + t]? = some v := fun t v ht hv => by
          have := cnsCells_at out q t hqo ht
          have e : out[q] = x := by rw [hxc]; unfold cAt; rw [Int.toNat_natCast, List.getElem?_eq_getElem hqo]; rfl
          rw [e] at this
          rw [List.getElem?_toArray, this]; exact hv
        have k0 := HX.out.1.o.get (q * 4) (v := .int .i64 x.least) (hoc 0 _ (by omega) rfl)
        have k1 := HX.out.1.o.get (q * 4 + 1) (v := .int .i64 x.greatest) (hoc 1 _ (by omega) rfl)
        have k2 := HX.out.1.o.get (q * 4 + 2) (v := .int .i64 x.ol) (hoc 2 _ (by omega) rfl)
        have k3 := HX.out.1.o.get (q * 4 + 3) (v := .int .i64 x.og) (hoc 3 _ (by omega) rfl)
        have HTK : Hid ((ks.take (j + 1)).map (cAt out) = (ks.take j).map (cAt out) ++ [x]) := Lib.hid (by rw [List.take_add_one, List.getElem?_eq_getElem hjl, hq, List.map_append, hxc]; rfl)
        have hj9 : j + 1 ≤ 4294967296 := by have := HN.out; omega
        clear hab hx hqo hoc hxc hq hqp hqi
        go_wp2_with (at_builtin; refine wpList_app (m := 1) rfl _ _ rfl el_cn H8.out.2 H8.out.1.size rfl [_, _, _, _] rfl (by simp) (by simp [Value.oneCell']) hj9 (by omega) ?_; intro A6 c6 w6 hown6 hB6 hg6 hob6; have HO6 := Lib.hid (And.intro (hB6 _ _ (Nat.le_refl _) H8.out.1) hown6); clear hown6 hB6 hg6 hob6)
        go_roundw
        case rel => exact ⟨j + 1, by omega, by go_num, Lib.hid ⟨HO6.out.1, by rw [HTK.out, cnsCells_app]; exact HO6.out.2⟩⟩
        case measure => simp [intOf]; omega
      · have g0 : decide ((j : Int) < (ks.length : Int)) = false := decide_eq_false (by omega)
        have g0' : decide (j < ks.length) = false := decide_eq_false hjl
        have HG : Hid ((ks.take j).map (cAt out) = (kidsF l i).map (cAt out) ∧ j = ks.length) := Lib.hid ⟨by rw [List.take_of_length_le (by omega), HKS.out], by omega⟩
        rw [HG.out.2] at H8
        have HGO : Hid (Reads wr wr.heap.size 4 A8 ((kidsF l i).map (cAt out)).length (cnsCells ((kidsF l i).map (cAt out)))) := Lib.hid (by
          have h := Reads.of_own H8.out.2
          have e := HG.out.1
          rw [HG.out.2] at e
          rw [e] at h
          rw [← HKS.out] at h
          rw [List.length_map, ← HKS.out]; exact h)
        obtain ⟨nc, hnc⟩ : ∃ nc, nc = nodeP l adv i (kidsF l i) ((kidsF l i).map (cAt out)) := ⟨_, rfl⟩
        have HNC := Lib.hid hnc
        have HNO : Hid (∀ W, Below wr.heap.size wr W → Calls Try.prog 27 #[.agg #[.slice A l.length c, .slice A2 adv.length c2, .int .i64 view], .int .i64 i, .slice Ak ks.length ck, .slice A8 j c8] W fun e w' => e = .returned (.tuple #[.agg #[.int .i64 nc.1.least, .int .i64 nc.1.greatest, .int .i64 nc.1.ol, .int .i64 nc.1.og], .bool nc.2]) ∧ Below W.heap.size W w') := Lib.hid (fun W hb => by
          have hbw := HX.out.1.b.trans (hb.mono HX.out.1.b.size)
          have h := node17_any l adv (kidsF l i) ((kidsF l i).map (cAt out)) A A2 Ak A8 c c2 ck c8 view W i hil ((HT.out.below hbw).more hbw.size) (fun _ => HSB.out i hil) (by rw [← HKS.out]; exact (HX.out.2.2.below hb).more hb.size) (fun k hk => by
            obtain ⟨n, rfl, hn, _⟩ := kids_mem hk
            omega) (by rw [← HKS.out]; have := HN.out; omega) (fun _ => Nat.le_trans (unK_kids l i) HUN.out) ((HGO.out.below hb).more hb.size) (fun x hx => by
            obtain ⟨k, hk, rfl⟩ := List.mem_map.1 hx
            obtain ⟨n, rfl, hn, _⟩ := kids_mem hk
            exact HK.out.bd n hn)
          rw [List.length_map, ← hnc, ← HKS.out] at h
          rw [HG.out.2]; exact h)
        clear hnc
        have hio : i < out.length := by rw [HK.out.lo]; exact hil
        have HS0 : Hid (UpS (w.heap.size) gk i l.length c adv.length c2 ks.length ck A A2 Ak view wr) := Lib.hid ⟨HX.out.1.t.lt, HX.out.1.k.lt, bt.1, bt.2.1, bt.2.2, hk1⟩
        have HGK : Hid ((w.heap.size) ≠ w.heap.size + 1 ∧ (w.heap.size) ≠ w.heap.size + 1 + 1 ∧ gk ≠ w.heap.size + 1 ∧ gk ≠ w.heap.size + 1 + 1) := Lib.hid (by have := HX.out.1.k.ge; omega)
        go_upto_region 12 with (fail)
        clear hk1 bt
        refine wp_region_held_drew (S := UpS (w.heap.size) gk i l.length c adv.length c2 ks.length ck A A2 Ak view) (by kernel_rfl) (HS0.out.below (Below.refl _ _).drew) (fun hS => ?_)
        refine wpAnyH_take (i := 0) (v := ?_) rfl (by kernel_rfl) (by kernel_rfl) (by kernel_rfl) (fun _ _ _ h => h) (Or.inl ⟨by rfl, ?_⟩) hS ?_
        rotate_left
        · rintro W' ⟨l0', lk', c0', c1', c2', ck'⟩
          go_simp
          rfl
        try simp only [Act.put, List.setIfInBounds_toArray, List.set_cons_zero, List.set_cons_succ, List.getElem_toArray, List.getElem_cons_zero, List.getElem_cons_succ]
        refine wpAnyH_take (i := 1) (v := ?_) rfl (by kernel_rfl) (by kernel_rfl) (by kernel_rfl) (fun _ _ _ h => h) (Or.inl ⟨by rfl, ?_⟩) hS ?_
        rotate_left
        · rintro W' ⟨l0', lk', c0', c1', c2', ck'⟩
          go_simp
          rfl
        try simp only [Act.put, List.setIfInBounds_toArray, List.set_cons_zero, List.set_cons_succ, List.getElem_toArray, List.getElem_cons_zero, List.getElem_cons_succ]
        refine wpAnyH_take (i := 2) (v := ?_) rfl (by kernel_rfl) (by kernel_rfl) (by kernel_rfl) (fun _ _ _ h => h) (Or.inl ⟨by rfl, ?_⟩) hS ?_
        rotate_left
        · rintro W' ⟨l0', lk', c0', c1', c2', ck'⟩
          go_simp
          rfl
        try simp only [Act.put, List.setIfInBounds_toArray, List.set_cons_zero, List.set_cons_succ, List.getElem_toArray, List.getElem_cons_zero, List.getElem_cons_succ]
        refine wpAnyH_take (i := 3) (v := ?_) rfl (by kernel_rfl) (by kernel_rfl) (by kernel_rfl) (fun _ _ _ h => h) (Or.inl ⟨by rfl, ?_⟩) hS ?_
        rotate_left
        · rintro W' ⟨l0', lk', c0', c1', c2', ck'⟩
          go_simp
          rfl
        try simp only [Act.put, List.setIfInBounds_toArray, List.set_cons_zero, List.set_cons_succ, List.getElem_toArray, List.getElem_cons_zero, List.getElem_cons_succ]
        refine wpAnyH_take (i := 4) (v := ?_) rfl (by kernel_rfl) (by kernel_rfl) (by kernel_rfl) (fun _ _ _ h => h) (Or.inl ⟨by rfl, ?_⟩) hS ?_
        rotate_left
        · rintro W' ⟨l0', lk', c0', c1', c2', ck'⟩
          go_simp
          rfl
        try simp only [Act.put, List.setIfInBounds_toArray, List.set_cons_zero, List.set_cons_succ, List.getElem_toArray, List.getElem_cons_zero, List.getElem_cons_succ]
        refine wpAnyH_take (i := 5) (v := ?_) rfl (by kernel_rfl) (by kernel_rfl) (by kernel_rfl) (fun _ _ _ h => h) (Or.inl ⟨by rfl, ?_⟩) hS ?_
        rotate_left
        · rintro W' ⟨l0', lk', c0', c1', c2', ck'⟩
          go_simp
          rfl
        try simp only [Act.put, List.setIfInBounds_toArray, List.set_cons_zero, List.set_cons_succ, List.getElem_toArray, List.getElem_cons_zero, List.getElem_cons_succ]
        refine wpAnyH_take (i := 6) (v := ?_) rfl (by kernel_rfl) (by kernel_rfl) (by kernel_rfl) (fun _ _ _ h => h) (Or.inl ⟨by rfl, ?_⟩) hS ?_
        rotate_left
        · rintro W' ⟨l0', lk', c0', c1', c2', ck'⟩
          go_simp
          rfl
        try simp only [Act.put, List.setIfInBounds_toArray, List.set_cons_zero, List.set_cons_succ, List.getElem_toArray, List.getElem_cons_zero, List.getElem_cons_succ]
        refine wpAnyH_take (i := 7) (v := ?_) rfl (by kernel_rfl) (by kernel_rfl) (by kernel_rfl) (fun _ _ _ h => h) (Or.inl ⟨by rfl, ?_⟩) hS ?_
        rotate_left
        · rintro W' ⟨l0', lk', c0', c1', c2', ck'⟩
          go_simp
          rfl
        try simp only [Act.put, List.setIfInBounds_toArray, List.set_cons_zero, List.set_cons_succ, List.getElem_toArray, List.getElem_cons_zero, List.getElem_cons_succ]
        refine wpAnyH_take (i := 8) (v := ?_) rfl (by kernel_rfl) (by kernel_rfl) (by kernel_rfl) (fun _ _ _ h => h) (Or.inl ⟨by rfl, ?_⟩) hS ?_
        rotate_left
        · rintro W' ⟨l0', lk', c0', c1', c2', ck'⟩
          go_simp
          rfl
        try simp only [Act.put, List.setIfInBounds_toArray, List.set_cons_zero, List.set_cons_succ, List.getElem_toArray, List.getElem_cons_zero, List.getElem_cons_succ]
        refine wpAnyH_take (i := 9) (v := ?_) rfl (by kernel_rfl) (by kernel_rfl) (by kernel_rfl) (fun _ _ _ h => h) (Or.inl ⟨by rfl, ?_⟩) hS ?_
        rotate_left
        · rintro W' ⟨l0', lk', c0', c1', c2', ck'⟩
          go_simp
          rfl
        try simp only [Act.put, List.setIfInBounds_toArray, List.set_cons_zero, List.set_cons_succ, List.getElem_toArray, List.getElem_cons_zero, List.getElem_cons_succ]
        refine wpAnyH_take (i := 10) (v := ?_) rfl (by kernel_rfl) (by kernel_rfl) (by kernel_rfl) (fun _ _ _ h => h) (Or.inl ⟨by rfl, ?_⟩) hS ?_
        rotate_left
        · rintro W' ⟨l0', lk', c0', c1', c2', ck'⟩
          go_simp
          rfl
        try simp only [Act.put, List.setIfInBounds_toArray, List.set_cons_zero, List.set_cons_succ, List.getElem_toArray, List.getElem_cons_zero, List.getElem_cons_succ]
        refine wpAnyH_ready (rs := [11]) (by kernel_rfl) (by simp) (AllReadyH.cons rfl (fun K hK => ?_) AllReadyH.nil)
        go_simp
        have HC := HNO.out wr.drew (Below.refl _ _).drew
        with_reducible refine HC.mono ?_
        rintro e w9 ⟨rfl, hb9⟩
        have HU9 := Lib.hid (HX.out.1.kept ((Below.refl _ _).drew.trans hb9))
        obtain ⟨x, hxc⟩ : ∃ x, x = cAt out i := ⟨_, rfl⟩
        have hoc : ∀ t v, t < 4 → (cnCells x)[t]? = some v → (cnsCells out).toArray[i * 4 + t]? = some v := fun t v ht hv => by
          have := cnsCells_at out i t hio ht
          have e : out[i] = x := by rw [hxc]; unfold cAt; rw [Int.toNat_natCast, List.getElem?_eq_getElem hio]; rfl
          rw [e] at this
          rw [List.getElem?_toArray, this]; exact hv
        have k0 := HU9.out.o.get (i * 4) (v := .int .i64 x.least) (hoc 0 _ (by omega) rfl)
        have k1 := HU9.out.o.get (i * 4 + 1) (v := .int .i64 x.greatest) (hoc 1 _ (by omega) rfl)
        have k2 := HU9.out.o.get (i * 4 + 2) (v := .int .i64 x.ol) (hoc 2 _ (by omega) rfl)
        have k3 := HU9.out.o.get (i * 4 + 3) (v := .int .i64 x.og) (hoc 3 _ (by omega) rfl)
        have z0 := HU9.out.o.frozen (i * 4)
        have z1 := HU9.out.o.frozen (i * 4 + 1)
        have z2 := HU9.out.o.frozen (i * 4 + 2)
        have z3 := HU9.out.o.frozen (i * 4 + 3)
        have hby : (blsC bey).toArray[i]? = some (.bool ((bey[i]?).getD false)) := by
          have hib : i < bey.length := by rw [HK.out.lb]; exact hil
          rw [List.getElem?_toArray, blsC, List.getElem?_map, List.getElem?_eq_getElem hib]; rfl
        have y0 := HU9.out.y.get i hby
        have y1 := HU9.out.y.frozen i
        clear hoc hxc hby
        refine hK.out _ _ (hS.below hb9) (fun hS => ?_)
        try simp only [Act.put, List.setIfInBounds_toArray, List.set_cons_zero, List.set_cons_succ, List.getElem_toArray, List.getElem_cons_zero, List.getElem_cons_succ]
        clear hK
        refine wpAnyH_take (i := 12) (v := ?_) rfl (by kernel_rfl) (by kernel_rfl) (by kernel_rfl) (fun _ _ _ h => h) (Or.inl ⟨by rfl, ?_⟩) hS ?_
        rotate_left
        · rintro W' ⟨l0', lk', c0', c1', c2', ck'⟩
          go_simp
          rfl
        try simp only [Act.put, List.setIfInBounds_toArray, List.set_cons_zero, List.set_cons_succ, List.getElem_toArray, List.getElem_cons_zero, List.getElem_cons_succ]
        refine wpAnyH_take (i := 13) (v := ?_) rfl (by kernel_rfl) (by kernel_rfl) (by kernel_rfl) (fun _ _ _ h => h) (Or.inl ⟨by rfl, ?_⟩) hS ?_
        rotate_left
        · rintro W' ⟨l0', lk', c0', c1', c2', ck'⟩
          go_simp
          rfl
        try simp only [Act.put, List.setIfInBounds_toArray, List.set_cons_zero, List.set_cons_succ, List.getElem_toArray, List.getElem_cons_zero, List.getElem_cons_succ]
        refine wpAnyH_take (i := 14) (v := ?_) rfl (by kernel_rfl) (by kernel_rfl) (by kernel_rfl) (fun _ _ _ h => h) (Or.inl ⟨by rfl, ?_⟩) hS ?_
        rotate_left
        · rintro W' ⟨l0', lk', c0', c1', c2', ck'⟩
          go_simp
          rfl
        try simp only [Act.put, List.setIfInBounds_toArray, List.set_cons_zero, List.set_cons_succ, List.getElem_toArray, List.getElem_cons_zero, List.getElem_cons_succ]
        refine wpAnyH_take (i := 15) (v := ?_) rfl (by kernel_rfl) (by kernel_rfl) (by kernel_rfl) (fun _ _ _ h => h) (Or.inl ⟨by rfl, ?_⟩) hS ?_
        rotate_left
        · rintro W' ⟨l0', lk', c0', c1', c2', ck'⟩
          go_simp
          rfl
        try simp only [Act.put, List.setIfInBounds_toArray, List.set_cons_zero, List.set_cons_succ, List.getElem_toArray, List.getElem_cons_zero, List.getElem_cons_succ]
        refine wpAnyH_ready (rs := [16]) (by kernel_rfl) (by simp) (AllReadyH.cons rfl (fun K hK => ?_) AllReadyH.nil)
        go_simp
        refine hK.out _ _ ((fun hS : UpS _ _ _ _ _ _ _ _ _ _ _ _ _ _ => ((((hS.set_ (p := ⟨w.heap.size + 1, i * 4, none⟩) HGK.out.1 HGK.out.2.2.1 _).set_ (p := ⟨w.heap.size + 1, i * 4 + 1, none⟩) HGK.out.1 HGK.out.2.2.1 _).set_ (p := ⟨w.heap.size + 1, i * 4 + 2, none⟩) HGK.out.1 HGK.out.2.2.1 _).set_ (p := ⟨w.heap.size + 1, i * 4 + 3, none⟩) HGK.out.1 HGK.out.2.2.1 _)) hS) (fun hS => ?_)
        try simp only [Act.put, List.setIfInBounds_toArray, List.set_cons_zero, List.set_cons_succ, List.getElem_toArray, List.getElem_cons_zero, List.getElem_cons_succ]
        clear hK
        refine wpAnyH_take (i := 17) (v := ?_) rfl (by kernel_rfl) (by kernel_rfl) (by kernel_rfl) (fun _ _ _ h => h) (Or.inl ⟨by rfl, ?_⟩) hS ?_
        rotate_left
        · rintro W' ⟨l0', lk', c0', c1', c2', ck'⟩
          go_simp
          rfl
        try simp only [Act.put, List.setIfInBounds_toArray, List.set_cons_zero, List.set_cons_succ, List.getElem_toArray, List.getElem_cons_zero, List.getElem_cons_succ]
        refine wpAnyH_ready (rs := [18]) (by kernel_rfl) (by simp) (AllReadyH.cons rfl (fun K hK => ?_) AllReadyH.nil)
        go_simp
        refine hK.out _ _ (hS.set_ (p := ⟨w.heap.size + 1 + 1, i, none⟩) HGK.out.2.1 HGK.out.2.2.2 _) (fun hS => ?_)
        try simp only [Act.put, List.setIfInBounds_toArray, List.set_cons_zero, List.set_cons_succ, List.getElem_toArray, List.getElem_cons_zero, List.getElem_cons_succ]
        clear hK
        refine wpAnyH_done (by kernel_rfl) ?_ _
        have HUF := Lib.hid ((HU9.out.sets i hio nc.1).setb i nc.2)
        have HKF : Hid (UpK l adv i (out.set i nc.1) (bey.set i nc.2)) := Lib.hid (by rw [HNC.out]; exact HK.out.step hil)
        clear hS hb9 k0 k1 k2 k3 z0 z1 z2 z3 y0 y1
        go_wp2_with fail
        go_roundw
        case rel => exact ⟨i, (i : Int) - 1, by omega, rfl, by go_num, Lib.hid ⟨_, _, HUF.out, HKF.out⟩⟩
        case measure => simp [intOf]
end
end Go.Proofs.Ytbopeofglhkffaa
