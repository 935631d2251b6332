/- Contracts: content.gather. -/
import Derived.Test.YtbopeofglhkffaaGat
import Derived.Test.YtbopeofglhkffaaCnb
import Derived.Test.YtbopeofglhkffaaDone
import Derived.Test.YtbopeofglhkffaaExtent
import Derived.Test.YtbopeofglhkffaaApp
import Derived.Deep.DeepCutAuto
import Derived.Deep.CutRange
set_option linter.unusedSimpArgs false
set_option linter.unusedVariables false
namespace Go.Proofs.Ytbopeofglhkffaa
open Go.RowKit
attribute [local go_sem] block_of_add
/-- A tree's memory. -/
structure TrH (w : World) (B : Nat) (A A2 : Option Addr) (l : List Nd) (adv : List Int) : Prop where
  nd : Reads w B 44 A l.length (ndsCells l)
  ad : Reads w B 1 A2 adv.length (i64s adv)
  un : ∀ x ∈ l, ∃ Au cu, x.s.uv = .slice Au x.s.units.length cu ∧ x.s.units.length ≤ cu ∧ Reads w B 1 Au x.s.units.length (u16s x.s.units) ∧ U16s x.s.units ∧ x.s.units.length ≤ 1048576
  i64 : I64s adv
  n : l.length ≤ 65536
theorem TrH.below {w w' : World} {B : Nat} {A A2 : Option Addr} {l : List Nd} {adv : List Int} (h : TrH w B A A2 l adv) (hb : Below B w w') : TrH w' B A A2 l adv :=
  ⟨h.nd.below hb, h.ad.below hb, fun x hx => by obtain ⟨Au, cu, h1, h2, h3, h4⟩ := h.un x hx; exact ⟨Au, cu, h1, h2, h3.below hb, h4⟩, h.i64, h.n⟩
theorem TrH.more {w : World} {B B' : Nat} {A A2 : Option Addr} {l : List Nd} {adv : List Int} (h : TrH w B A A2 l adv) (hb : B ≤ B') : TrH w B' A A2 l adv :=
  ⟨h.nd.more hb, h.ad.more hb, fun x hx => by obtain ⟨Au, cu, h1, h2, h3, h4⟩ := h.un x hx; exact ⟨Au, cu, h1, h2, h3.more hb, h4⟩, h.i64, h.n⟩
theorem own_ty_ne {w : World} {b1 b2 n1 n2 s1 s2 : Nat} {e1 e2 : TypeId} {v1 v2 : Value} {x1 x2 : List Value} (h1 : w.ownsRow b1 e1 s1 v1 n1 x1) (h2 : w.ownsRow b2 e2 s2 v2 n2 x2) (hne : e1 ≠ e2) : v1.ownBlock = none ∨ v1.ownBlock ≠ v2.ownBlock := by
  rcases h2.2 with ⟨rfl, _⟩ | ⟨g, cap, cur, rfl, _, hh, _⟩
  · cases h : v1.ownBlock with
    | none => exact .inl rfl
    | some b => exact .inr (by simp [Value.ownBlock])
  · exact .inr (own_blk_ne h1 (g := g) (t := e2) (cs := cur) hh hne)
/-- The rows of gather: words, their nodes. -/
structure GatI (w wr : World) (v4 v5 : Value) (W : List Wd) (N : List Int) (bt : Array Value) : Prop where
  o4 : wr.ownsRow (w.heap.size + 1) 146 5 v4 W.length (wdsCells W)
  o5 : wr.ownsRow (w.heap.size + 1) 3 1 v5 W.length (i64s N)
  ln : N.length = W.length
  b : Below w.heap.size w wr
  bx : Blk wr w.heap.size 25 bt
theorem GatI.kept {w wr w' : World} {v4 v5 : Value} {W : List Wd} {N : List Int} {bt : Array Value} (h : GatI w wr v4 v5 W N bt) (hb : Below wr.heap.size wr w') : GatI w w' v4 v5 W N bt :=
  ⟨own_below h.o4 hb, own_below h.o5 hb, h.ln, h.b.trans (hb.mono h.b.size), h.bx.below hb h.bx.lt⟩
/-- One word more. -/
theorem GatI.step {w wr W1 w1 w2 : World} {v4 v5 : Value} {W : List Wd} {N : List Int} {bt : Array Value} (h : GatI w wr v4 v5 W N bt) (hb : Below wr.heap.size wr W1) {x : Wd} {q : Int} {A4 A5 : Option Addr} {c4 c5 : Nat}
    (h4 : w1.ownsRow (w.heap.size + 1) 146 5 (.slice A4 (W.length + 1) c4) (W.length + 1) (wdsCells W ++ wdCells x)) (hg : W1.grownBy w1 v4.ownBlock)
    (h5 : w2.ownsRow (w.heap.size + 1) 3 1 (.slice A5 (W.length + 1) c5) (W.length + 1) (i64s N ++ [.int .i64 q])) (hg2 : w1.grownBy w2 v5.ownBlock) :
    GatI w w2 (.slice A4 (W.length + 1) c4) (.slice A5 (W.length + 1) c5) (W ++ [x]) (N ++ [q]) bt := by
  have k := h.kept hb
  have hz := k.bx.lt
  have o5 := k.o5.kept hg (own_ty_ne k.o5 k.o4 (by decide))
  have o4 := h4.kept hg2 (own_ty_ne h4 o5 (by decide))
  refine ⟨by rw [List.length_append, wdsCells_snoc]; exact o4, by rw [List.length_append]; simpa [i64s] using h5, by simp [h.ln], ?_, ?_⟩
  · exact (k.b.grown hg k.b.size (fun g e => by have := (k.o4.lt g e.symm.symm).1; omega)).grown hg2 (Nat.le_trans k.b.size hg.size) (fun g e => by have := (o5.lt g e.symm.symm).1; omega)
  · exact (k.bx.grown hg (own_far k.o4 (by omega))).grown hg2 (own_far o5 (by omega))
/-- The rows of gather while a text's words are gone through. -/
structure GatJ (w wr : World) (v4 v5 v9 : Value) (W : List Wd) (N : List Int) (bt : Array Value) (L : List Wd) : Prop where
  gi : GatI w wr v4 v5 W N bt
  o9 : ∃ b, wr.ownsRow b 146 5 v9 L.length (wdsCells L)
  dj : v9.ownBlock = none ∨ v9.ownBlock ≠ v4.ownBlock
theorem GatJ.o5k {w wr W1 w1 : World} {v4 v5 v9 : Value} {W L : List Wd} {N : List Int} {bt : Array Value} (h : GatJ w wr v4 v5 v9 W N bt L) (hb : Below wr.heap.size wr W1) (hg : W1.grownBy w1 v4.ownBlock) :
    w1.ownsRow (w.heap.size + 1) 3 1 v5 W.length (i64s N) ∧ w.heap.size + 1 ≤ w1.heap.size := by
  have k := h.gi.kept hb
  have hz := k.bx.lt
  exact ⟨k.o5.kept hg (own_ty_ne k.o5 k.o4 (by decide)), by have := hg.size; omega⟩
theorem GatJ.step {w wr W1 w1 w2 : World} {v4 v5 v9 : Value} {W L : List Wd} {N : List Int} {bt : Array Value} (h : GatJ w wr v4 v5 v9 W N bt L) (hb : Below wr.heap.size wr W1) {x : Wd} {q : Int} {A4 A5 : Option Addr} {c4 c5 : Nat}
    (h4 : w1.ownsRow (w.heap.size + 1) 146 5 (.slice A4 (W.length + 1) c4) (W.length + 1) (wdsCells W ++ wdCells x)) (hg : W1.grownBy w1 v4.ownBlock) (hob : (Value.slice A4 (W.length + 1) c4).ownBlock = v4.ownBlock ∨ W1.heap.size ≤ ((Value.slice A4 (W.length + 1) c4).ownBlock).getD W1.heap.size)
    (h5 : w2.ownsRow (w.heap.size + 1) 3 1 (.slice A5 (W.length + 1) c5) (W.length + 1) (i64s N ++ [.int .i64 q])) (hg2 : w1.grownBy w2 v5.ownBlock) :
    GatJ w w2 (.slice A4 (W.length + 1) c4) (.slice A5 (W.length + 1) c5) v9 (W ++ [x]) (N ++ [q]) bt L := by
  obtain ⟨b, h9⟩ := h.o9
  have h91 := own_below h9 hb
  have h92 := h91.kept hg h.dj
  have o5 := (h.o5k hb hg).1
  refine ⟨h.gi.step hb h4 hg h5 hg2, ⟨b, h92.kept hg2 (own_ty_ne h92 o5 (by decide))⟩, ?_⟩
  rcases hob with e | e
  · rw [e]; exact h.dj
  · cases hv : v9.ownBlock with
    | none => exact .inl rfl
    | some g =>
      have := (h91.lt g hv).2
      refine .inr fun e2 => ?_
      rw [← e2] at e; simp at e; omega
theorem words_sl2 (l t : List Int) (A B : Option Addr) (c d : Nat) (w : World) (hl : U16s l) (ht : I64s t) (hn : l.length ≤ 1048576) (hc : l.length ≤ c) (hrl : Reads w w.heap.size 1 A l.length (u16s l)) (hrt : Reads w w.heap.size 1 B t.length (i64s t)) :
    Calls Try.prog 93 #[.slice A l.length c, .slice B t.length d] w fun e w' => (∃ A' c', e = .returned (.tuple #[.slice A' (wordsF t l).1.length c', .bool (wordsF t l).2]) ∧ w'.ownsRow w.heap.size 146 5 (.slice A' (wordsF t l).1.length c') (wordsF t l).1.length (wdsCells (wordsF t l).1)) ∧ Below w.heap.size w w' :=
  (words_any l t A B c d w hl ht hn hc hrl hrt).mono fun e w' ⟨v, he, ho, hb⟩ => by
    obtain ⟨A', c', rfl⟩ := own_form ho
    exact ⟨⟨A', c', he, ho⟩, hb⟩
structure GatAns (l : List Nd) (adv ks : List Int) (w w' : World) (e : Ending) : Prop where
  ex : ∃ A4 c4 A5 c5, e = .returned (.tuple #[.slice A4 (gatherF l adv ks).1.length c4, .slice A5 (gatherF l adv ks).1.length c5, .bool (gatherF l adv ks).2.2]) ∧ Reads w' w'.heap.size 5 A4 (gatherF l adv ks).1.length (wdsCells (gatherF l adv ks).1) ∧ Reads w' w'.heap.size 1 A5 (gatherF l adv ks).1.length (i64s (gatherF l adv ks).2.1)
  b : Below w.heap.size w w'
/-- What the region that asks for words reads. -/
structure WrdS (A A2 : Option Addr) (ad : Addr) (q n m c c2 g : Nat) (uv : Value) (W : World) : Prop where
  lt : g < W.heap.size
  lta : ad.block < W.heap.size
  c0 : W.cell? ⟨g, 0, none⟩ = some (.slice (some ad) n c)
  c1 : W.cell? ⟨g, 1, none⟩ = some (.slice A2 m c2)
  cu : W.cell? ⟨ad.block, (ad.add (q * 44)).off + 43, none⟩ = some uv
theorem WrdS.below {A A2 : Option Addr} {ad : Addr} {q n m c c2 g : Nat} {uv : Value} {W W' : World} (h : WrdS A A2 ad q n m c c2 g uv W) (hb : Below W.heap.size W W') : WrdS A A2 ad q n m c c2 g uv W' :=
  ⟨Nat.lt_of_lt_of_le h.lt hb.size, Nat.lt_of_lt_of_le h.lta hb.size, (hb.cell (p := ⟨g, 0, none⟩) h.lt).trans h.c0, (hb.cell (p := ⟨g, 1, none⟩) h.lt).trans h.c1, (hb.cell (p := ⟨ad.block, (ad.add (q * 44)).off + 43, none⟩) h.lta).trans h.cu⟩
section
variable (l : List Nd) (adv ks : List Int) (A A2 Ak : Option Addr) (c c2 ck : Nat) (view : Int) (w : World)
set_option maxRecDepth 100000 in
set_option maxHeartbeats 1000000 in
theorem gather_any (ht : TrH w w.heap.size A A2 l adv) (hk : Reads w w.heap.size 1 Ak ks.length (i64s ks)) (hks : ∀ k ∈ ks, 0 ≤ k ∧ k < l.length) (hkn : ks.length ≤ 1000000) (hun : unK l ks ≤ 1000000) :
    Calls Try.prog 73 #[.agg #[.slice A l.length c, .slice A2 adv.length c2, .int .i64 view], .slice Ak ks.length ck] w fun e w' => GatAns l adv ks w w' e := by
  have HT := Lib.hid ht
  have HKS := Lib.hid hks
  have HKR := Lib.hid hk
  have HKN := Lib.hid hkn
  have HUN := Lib.hid hun
  have HI0 : Hid (GatI w (w.alloc (.cells #[.slice A l.length c, .slice A2 adv.length c2, .int .i64 view] 25)) (.slice none 0 0) (.slice none 0 0) [] [] #[.slice A l.length c, .slice A2 adv.length c2, .int .i64 view]) := Lib.hid ⟨⟨rfl, .inl ⟨rfl, rfl⟩⟩, ⟨rfl, .inl ⟨rfl, rfl⟩⟩, rfl, (Below.refl _ _).alloc (Nat.le_refl _) _, Blk.new _ _ _⟩
  have HN := Lib.hid ht.n
  clear ht hks hk hkn hun
  go_enter Try.func73, Try.ntmps73
  go_wp2_with fail
  go_loopw [4, 5, 6, 8, 9, 10, 12, 15] (fun v4 v5 v6 v8 v9 v10 v12 iv wr => ∃ (j : Nat) (bo : Bool), j ≤ ks.length ∧ iv = .int .i64 j ∧ v6 = .bool bo ∧ Hid (bo = (gatherF l adv (ks.take j)).2.2 ∧ GatI w wr v4 v5 (gatherF l adv (ks.take j)).1 (gatherF l adv (ks.take j)).2.1 #[.slice A l.length c, .slice A2 adv.length c2, .int .i64 view])) (fun _ _ _ _ _ _ _ iv _ => ks.length - (intOf iv).toNat)
  case atStart => exact ⟨0, false, by omega, rfl, rfl, Lib.hid ⟨rfl, HI0.out⟩⟩
  case round =>
    obtain ⟨j, bo, hj, rfl, rfl, H⟩ := hrel
    have bt := H.out.2.bx.c3
    have hwj : IntKind.i64.wrap ((j : Int) + 1) = (j : Int) + 1 := IntWalk.i64_in _ ⟨by omega, by have := HKN.out; omega⟩
    by_cases hlt : j < ks.length
    rotate_left
    · have d0 : decide ((j : Int) < (ks.length : Int)) = false := decide_eq_false (by omega)
      have d0' : decide (j < ks.length) = false := decide_eq_false hlt
      have HL := Lib.hid (show ks.take j = ks from List.take_of_length_le (by omega))
      obtain ⟨A4, c4, h4⟩ := own_form H.out.2.o4
      obtain ⟨A5, c5, h5⟩ := own_form H.out.2.o5
      have HG := H.out
      rw [HL.out] at HG h4 h5
      rw [h4, h5] at HG
      have HGG := Lib.hid HG
      have H4 := Lib.hid (And.intro h4 h5)
      clear HG h4 h5 H
      go_wp2_with fail
      go_ret3
      exact ⟨⟨A4, c4, A5, c5, by show Ending.returned (.tuple #[u4, u5, .bool bo]) = _; rw [H4.out.1, H4.out.2, HGG.out.1], Reads.of_own HGG.out.2.o4, Reads.of_own HGG.out.2.o5⟩, HGG.out.2.b⟩
    have d0 : decide ((j : Int) < (ks.length : Int)) = true := decide_eq_true (by omega)
    have d0' : decide (j < ks.length) = true := decide_eq_true hlt
    obtain ⟨hk0, hk1⟩ := HKS.out ks[j] (List.getElem_mem hlt)
    obtain ⟨q, hq⟩ := Int.eq_ofNat_of_zero_le hk0
    have hql : q < l.length := by omega
    obtain ⟨adk, u, hAk, hab, hx, hc⟩ := (HKR.out.below H.out.2.b).at_ hlt
    subst hAk
    have hu : u = .int .i64 (q : Int) := by rw [← hq]; simpa [i64s, hlt] using hx.symm
    subst hu
    have e1 : decide ((q : Int) < 0) = false := decide_eq_false (by omega)
    have e2 : decide ((l.length : Int) ≤ (q : Int)) = false := decide_eq_false (by omega)
    have e2' : decide (l.length ≤ q) = false := decide_eq_false (by omega)
    have e3 : decide ((q : Int) < (l.length : Int)) = true := decide_eq_true (by omega)
    have HQ := Lib.hid hq
    obtain ⟨ad, hA, hnd⟩ := HT.out.nd.nd rfl hql
    subst hA
    obtain ⟨Au, cu, huv, hcu, hru, hu16, hun⟩ := HT.out.un l[q] (List.getElem_mem hql)
    have HWS : Hid (WrdS none A2 ad q l.length adv.length c c2 w.heap.size l[q].s.uv wr) := Lib.hid ⟨H.out.2.bx.lt, Nat.lt_of_lt_of_le (by have := hnd.lt; rw [block_of_add] at this; exact this) H.out.2.b.size, bt.1, bt.2.1, (H.out.2.b.cell (p := ⟨ad.block, (ad.add (q * 44)).off + 43, none⟩) (by have := hnd.lt; rw [block_of_add] at this; exact this)).trans (by rw [← block_of_add ad (q * 44)]; exact hnd.cs 42 _ rfl)⟩
    obtain ⟨un, hunn⟩ : ∃ un, un = l[q].s.units := ⟨_, rfl⟩
    rw [huv] at HWS
    rw [← hunn] at HWS hru hcu hu16 hun
    have HU := Lib.hid (And.intro hcu (And.intro hru (And.intro hu16 hun)))
    have HUE := Lib.hid hunn
    have HST := Lib.hid (gatherF_succ l adv ks hlt hq hql)
    rw [← hunn] at HST
    clear hk0 hk1 hx hab hnd huv hcu hru hu16 hun hunn hq
    go_upto_region 5 with (fail)
    refine wp_region_held_drew (S := WrdS none A2 ad q l.length adv.length c c2 w.heap.size (.slice Au un.length cu)) (by kernel_rfl) (HWS.out.below (Below.refl _ _).drew) (fun hS => ?_)
    refine wpAnyH_take (i := 0) (v := ?_) rfl (by kernel_rfl) (by kernel_rfl) (by kernel_rfl) (fun _ _ _ h => h) (Or.inl ⟨by rfl, ?_⟩) hS ?_
    rotate_left
    · rintro W' ⟨hl', hla', c0', c1', cu'⟩
      go_simp
      rfl
    try simp only [Act.put, List.setIfInBounds_toArray, List.set_cons_zero, List.set_cons_succ, List.getElem_toArray, List.getElem_cons_zero, List.getElem_cons_succ]
    refine wpAnyH_take (i := 1) (v := ?_) rfl (by kernel_rfl) (by kernel_rfl) (by kernel_rfl) (fun _ _ _ h => h) (Or.inl ⟨by rfl, ?_⟩) hS ?_
    rotate_left
    · rintro W' ⟨hl', hla', c0', c1', cu'⟩
      go_simp
      rfl
    try simp only [Act.put, List.setIfInBounds_toArray, List.set_cons_zero, List.set_cons_succ, List.getElem_toArray, List.getElem_cons_zero, List.getElem_cons_succ]
    refine wpAnyH_take (i := 2) (v := ?_) rfl (by kernel_rfl) (by kernel_rfl) (by kernel_rfl) (fun _ _ _ h => h) (Or.inl ⟨by rfl, ?_⟩) hS ?_
    rotate_left
    · rintro W' ⟨hl', hla', c0', c1', cu'⟩
      go_simp
      rfl
    try simp only [Act.put, List.setIfInBounds_toArray, List.set_cons_zero, List.set_cons_succ, List.getElem_toArray, List.getElem_cons_zero, List.getElem_cons_succ]
    refine wpAnyH_take (i := 3) (v := ?_) rfl (by kernel_rfl) (by kernel_rfl) (by kernel_rfl) (fun _ _ _ h => h) (Or.inl ⟨by rfl, ?_⟩) hS ?_
    rotate_left
    · rintro W' ⟨hl', hla', c0', c1', cu'⟩
      go_simp
      rfl
    try simp only [Act.put, List.setIfInBounds_toArray, List.set_cons_zero, List.set_cons_succ, List.getElem_toArray, List.getElem_cons_zero, List.getElem_cons_succ]
    refine wpAnyH_take (i := 4) (v := ?_) rfl (by kernel_rfl) (by kernel_rfl) (by kernel_rfl) (fun _ _ _ h => h) (Or.inl ⟨by rfl, ?_⟩) hS ?_
    rotate_left
    · rintro W' ⟨hl', hla', c0', c1', cu'⟩
      go_simp
      rfl
    try simp only [Act.put, List.setIfInBounds_toArray, List.set_cons_zero, List.set_cons_succ, List.getElem_toArray, List.getElem_cons_zero, List.getElem_cons_succ]
    refine wpAnyH_take (i := 5) (v := ?_) rfl (by kernel_rfl) (by kernel_rfl) (by kernel_rfl) (fun _ _ _ h => h) (Or.inl ⟨by rfl, ?_⟩) hS ?_
    rotate_left
    · rintro W' ⟨hl', hla', c0', c1', cu'⟩
      go_simp
      rfl
    try simp only [Act.put, List.setIfInBounds_toArray, List.set_cons_zero, List.set_cons_succ, List.getElem_toArray, List.getElem_cons_zero, List.getElem_cons_succ]
    refine wpAnyH_take (i := 6) (v := ?_) rfl (by kernel_rfl) (by kernel_rfl) (by kernel_rfl) (fun _ _ _ h => h) (Or.inl ⟨by rfl, ?_⟩) hS ?_
    rotate_left
    · rintro W' ⟨hl', hla', c0', c1', cu'⟩
      go_simp
      rfl
    try simp only [Act.put, List.setIfInBounds_toArray, List.set_cons_zero, List.set_cons_succ, List.getElem_toArray, List.getElem_cons_zero, List.getElem_cons_succ]
    refine wpAnyH_take (i := 7) (v := ?_) rfl (by kernel_rfl) (by kernel_rfl) (by kernel_rfl) (fun _ _ _ h => h) (Or.inl ⟨by rfl, ?_⟩) hS ?_
    rotate_left
    · rintro W' ⟨hl', hla', c0', c1', cu'⟩
      go_simp
      rfl
    try simp only [Act.put, List.setIfInBounds_toArray, List.set_cons_zero, List.set_cons_succ, List.getElem_toArray, List.getElem_cons_zero, List.getElem_cons_succ]
    refine wpAnyH_take (i := 8) (v := ?_) rfl (by kernel_rfl) (by kernel_rfl) (by kernel_rfl) (fun _ _ _ h => h) (Or.inl ⟨by rfl, ?_⟩) hS ?_
    rotate_left
    · rintro W' ⟨hl', hla', c0', c1', cu'⟩
      go_simp
      rfl
    try simp only [Act.put, List.setIfInBounds_toArray, List.set_cons_zero, List.set_cons_succ, List.getElem_toArray, List.getElem_cons_zero, List.getElem_cons_succ]
    refine wpAnyH_ready (rs := [9]) (by kernel_rfl) (by simp) (AllReadyH.cons rfl (fun K hK => ?_) AllReadyH.nil)
    go_simp
    refine (words_sl2 un adv Au A2 cu c2 _ HU.out.2.2.1 HT.out.i64 HU.out.2.2.2 HU.out.1 ((HU.out.2.1.below (H.out.2.b.trans (Below.refl _ _).drew)).more H.out.2.b.size) ((HT.out.ad.below (H.out.2.b.trans (Below.refl _ _).drew)).more H.out.2.b.size)).mono ?_
    rintro e w2 ⟨⟨A9, c9, rfl, hown9⟩, hb9⟩
    refine hK.out _ _ (hS.below hb9) (fun hS => ?_)
    try simp only [Act.put, List.setIfInBounds_toArray, List.set_cons_zero, List.set_cons_succ, List.getElem_toArray, List.getElem_cons_zero, List.getElem_cons_succ]
    clear hK
    refine wpAnyH_take (i := 10) (v := ?_) rfl (by kernel_rfl) (by kernel_rfl) (by kernel_rfl) (fun _ _ _ h => h) (Or.inl ⟨by rfl, ?_⟩) hS ?_
    rotate_left
    · rintro W' ⟨hl', hla', c0', c1', cu'⟩
      go_simp
      rfl
    try simp only [Act.put, List.setIfInBounds_toArray, List.set_cons_zero, List.set_cons_succ, List.getElem_toArray, List.getElem_cons_zero, List.getElem_cons_succ]
    refine wpAnyH_take (i := 11) (v := ?_) rfl (by kernel_rfl) (by kernel_rfl) (by kernel_rfl) (fun _ _ _ h => h) (Or.inl ⟨by rfl, ?_⟩) hS ?_
    rotate_left
    · rintro W' ⟨hl', hla', c0', c1', cu'⟩
      go_simp
      rfl
    try simp only [Act.put, List.setIfInBounds_toArray, List.set_cons_zero, List.set_cons_succ, List.getElem_toArray, List.getElem_cons_zero, List.getElem_cons_succ]
    refine wpAnyH_take (i := 12) (v := ?_) rfl (by kernel_rfl) (by kernel_rfl) (by kernel_rfl) (fun _ _ _ h => h) (Or.inl ⟨by rfl, ?_⟩) hS ?_
    rotate_left
    · rintro W' ⟨hl', hla', c0', c1', cu'⟩
      go_simp
      rfl
    try simp only [Act.put, List.setIfInBounds_toArray, List.set_cons_zero, List.set_cons_succ, List.getElem_toArray, List.getElem_cons_zero, List.getElem_cons_succ]
    refine wpAnyH_take (i := 13) (v := ?_) rfl (by kernel_rfl) (by kernel_rfl) (by kernel_rfl) (fun _ _ _ h => h) (Or.inl ⟨by rfl, ?_⟩) hS ?_
    rotate_left
    · rintro W' ⟨hl', hla', c0', c1', cu'⟩
      go_simp
      rfl
    try simp only [Act.put, List.setIfInBounds_toArray, List.set_cons_zero, List.set_cons_succ, List.getElem_toArray, List.getElem_cons_zero, List.getElem_cons_succ]
    refine wpAnyH_take (i := 14) (v := ?_) rfl (by kernel_rfl) (by kernel_rfl) (by kernel_rfl) (fun _ _ _ h => h) (Or.inl ⟨by rfl, ?_⟩) hS ?_
    rotate_left
    · rintro W' ⟨hl', hla', c0', c1', cu'⟩
      go_simp
      rfl
    try simp only [Act.put, List.setIfInBounds_toArray, List.set_cons_zero, List.set_cons_succ, List.getElem_toArray, List.getElem_cons_zero, List.getElem_cons_succ]
    refine wpAnyH_done (by kernel_rfl) ?_ _
    clear hS
    obtain ⟨L, hL⟩ : ∃ L, L = (wordsF adv un).1 := ⟨_, rfl⟩
    obtain ⟨bx, hbx⟩ : ∃ bx, bx = (wordsF adv un).2 := ⟨_, rfl⟩
    have HJ0 : Hid (GatJ w w2 u4 u5 (.slice A9 (wordsF adv un).1.length c9) (gatherF l adv (ks.take j)).1 (gatherF l adv (ks.take j)).2.1 #[.slice (some ad) l.length c, .slice A2 adv.length c2, .int .i64 view] (wordsF adv un).1) := Lib.hid ⟨H.out.2.kept ((Below.refl _ _).drew.trans hb9), ⟨_, hown9⟩, by
      cases hv : (Value.slice A9 (wordsF adv un).1.length c9).ownBlock with
      | none => exact .inl rfl
      | some g =>
        have h1 := (hown9.lt g hv).1
        refine .inr fun e => ?_
        have h2 := (H.out.2.o4.lt g e.symm).2
        simp at h1; omega⟩
    have hLn := wordsF_bd adv un
    rw [← hL] at HJ0 HST hLn
    rw [← hbx] at HST
    rw [← hL, ← hbx]
    have HLU := Lib.hid (And.intro hL hbx)
    have hL9 : L.length ≤ 1048576 := by have := HU.out.2.2.2; omega
    clear hL hbx hown9 hb9 hLn
    go_upto_region 6 with (fail)
    go_cut [6, 15] from 15 to 60 (fun s6 s15 wx => s6 = .bool (bo || bx) ∧ s15 = .int .i64 j ∧ w2 = wx)
    case first =>
      cases bo
      all_goals
        go_wp2_with fail
        go_meet
        case rel => exact ⟨rfl, rfl, rfl⟩
    case rest =>
      obtain ⟨rfl, rfl, rfl⟩ := hcut
      go_wp2_with fail
      go_loopw [4, 5, 12, 47] (fun v4 v5 v12 iv wx => ∃ i : Nat, i ≤ L.length ∧ iv = .int .i64 i ∧ Hid (GatJ w wx v4 v5 (.slice A9 L.length c9) ((gatherF l adv (ks.take j)).1 ++ L.take i) ((gatherF l adv (ks.take j)).2.1 ++ List.replicate i (q : Int)) #[.slice (some ad) l.length c, .slice A2 adv.length c2, .int .i64 view] L)) (fun _ _ _ iv _ => L.length - (intOf iv).toNat)
      case atStart => exact ⟨0, by omega, rfl, Lib.hid (by simpa using HJ0.out)⟩
      case round =>
        obtain ⟨i, hi, rfl, HJ⟩ := hrel
        have hwi : IntKind.i64.wrap ((i : Int) + 1) = (i : Int) + 1 := IntWalk.i64_in _ ⟨by omega, by omega⟩
        by_cases hil : i < L.length
        · have g0 : decide ((i : Int) < (L.length : Int)) = true := decide_eq_true (by omega)
          have g0' : decide (i < L.length) = true := decide_eq_true hil
          obtain ⟨WW, hWW⟩ : ∃ WW, WW = (gatherF l adv (ks.take j)).1 ++ L.take i := ⟨_, rfl⟩
          obtain ⟨NN, hNN⟩ : ∃ NN, NN = (gatherF l adv (ks.take j)).2.1 ++ List.replicate i (q : Int) := ⟨_, rfl⟩
          rw [← hWW, ← hNN] at HJ
          have HWN := Lib.hid (And.intro hWW hNN)
          have hcnt : WW.length + 1 ≤ 4294967296 := by have := gat_bd l adv (ks.take j); have := unK_take l ks j; have := HUN.out; rw [hWW, List.length_append, List.length_take]; omega
          clear hWW hNN
          obtain ⟨b9, ho9⟩ := HJ.out.o9
          obtain ⟨ad9, rfl, hab9, k0, k1, k2, k3, k4⟩ := (Reads.of_own ho9).wd rfl hil
          obtain ⟨A4, c4, h4⟩ := own_form HJ.out.gi.o4
          obtain ⟨A5, c5, h5⟩ := own_form HJ.out.gi.o5
          subst h4 h5
          obtain ⟨x, hx⟩ : ∃ x, x = L[i] := ⟨_, rfl⟩
          rw [← hx] at k0 k1 k2 k3 k4
          have HXX : Hid (L.take (i + 1) = L.take i ++ [x]) := Lib.hid (by rw [hx]; exact List.take_succ_eq_append_getElem hil)
          have HB1 : Hid (Below wr.heap.size wr (wr.alloc (.cells #[.int .i64 x.fr, .int .i64 x.up, .int .i64 x.w, .int .i64 x.gap, .int .i64 x.forced] 146))) := Lib.hid ((Below.refl _ _).alloc (Nat.le_refl _) _)
          have HO4 := Lib.hid (own_below HJ.out.gi.o4 HB1.out)
          have HSZ : Hid (w.heap.size + 1 ≤ (wr.alloc (.cells #[.int .i64 x.fr, .int .i64 x.up, .int .i64 x.w, .int .i64 x.gap, .int .i64 x.forced] 146)).heap.size) := Lib.hid (by have := HJ.out.gi.bx.lt; simp; omega)
          have HGZ : Hid (wr.heap.size + 1 = (wr.alloc (.cells #[.int .i64 x.fr, .int .i64 x.up, .int .i64 x.w, .int .i64 x.gap, .int .i64 x.forced] 146)).heap.size) := Lib.hid (by simp)
          clear ho9 hab9 hx
          go_wp2_with (first
            | (at_builtin; refine wpList_appG (m := 1) rfl _ _ rfl el_word HO4.out HSZ.out rfl [_, _, _, _, _] rfl HGZ.out rfl (by simp [Value.oneCell']) hcnt (by omega) ?_; intro A6 c6 w6 hown6 hB6 hg6 hob6; have HO6 := Lib.hid (And.intro hown6 (And.intro hg6 hob6)); have HO5 := Lib.hid (HJ.out.o5k HB1.out hg6); clear hown6 hB6 hg6 hob6)
            | (at_builtin; refine wpList_appG (m := 1) rfl _ _ rfl el_int2 HO5.out.1 HO5.out.2 rfl [_] rfl rfl rfl (by simp [Value.oneCell']) hcnt (by omega) ?_; intro A7 c7 w7 hown7 hB7 hg7 hob7; have HO7 := Lib.hid (And.intro hown7 hg7); clear hown7 hB7 hg7 hob7))
          go_roundw
          case rel => exact ⟨i + 1, by omega, by go_num, Lib.hid (by
            have h := HJ.out.step HB1.out (x := x) HO6.out.1 HO6.out.2.1 HO6.out.2.2 HO7.out.1 HO7.out.2
            rw [HXX.out, ← List.append_assoc, ← HWN.out.1, List.replicate_succ', ← List.append_assoc, ← HWN.out.2]
            exact h)⟩
          case measure => simp [intOf]; omega
        · have g0 : decide ((i : Int) < (L.length : Int)) = false := decide_eq_false (by omega)
          have g0' : decide (i < L.length) = false := decide_eq_false hil
          have HE : Hid (L.take i = L ∧ i = L.length) := Lib.hid ⟨List.take_of_length_le (by omega), by omega⟩
          go_wp2_with fail
          go_roundw
          case rel => exact ⟨j + 1, _, by omega, by go_num, rfl, Lib.hid ⟨by rw [HST.out, ← H.out.1], by have h := HJ.out.gi; rw [HE.out.1, HE.out.2] at h; rw [HST.out]; exact h⟩⟩
          case measure => simp [intOf]; omega
end
end Go.Proofs.Ytbopeofglhkffaa
