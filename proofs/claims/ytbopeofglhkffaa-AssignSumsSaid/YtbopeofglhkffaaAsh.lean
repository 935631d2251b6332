/- What AssignSums holds of its widths. -/
import Derived.Test.YtbopeofglhkffaaUp
import Derived.Test.YtbopeofglhkffaaBta
import Derived.Test.YtbopeofglhkffaaAsc
import Derived.Test.YtbopeofglhkffaaAbs
import Derived.Test.YtbopeofglhkffaaRot
import Derived.Lib.MinMax
set_option linter.unusedSimpArgs false
set_option linter.unusedVariables false
namespace Go.Proofs.Ytbopeofglhkffaa
open Go.RowKit
theorem exLeast_nn (l : List Wd) (hn : ∀ x ∈ l, Nn x) : ∀ k, k ≤ l.length → 0 ≤ (exAt l k).least := by
  intro k
  induction k with
  | zero => intro _; simp [exAt]
  | succ k ih =>
    intro hk
    have hlt : k < l.length := by omega
    have hw := (hn l[k] (List.getElem_mem hlt)).1
    have h1 := ih (by omega)
    have hl : 0 ≤ exLeast k (exAt l k).least l[k] := by unfold exLeast; split <;> assumption
    rw [exAt_succ l hlt]
    unfold exStep
    split <;> exact hl
theorem gat_nn (l : List Nd) (adv ks : List Int) (ha : ∀ x ∈ adv, 0 ≤ x) : ∀ x ∈ (gatherF l adv ks).1, Nn x := fun x hx => by
  obtain ⟨u, h⟩ := gat_mem hx
  exact (nn_vw ha (words_abs adv u).1).1 x h
theorem tot_nn (l : List Wd) (hn : ∀ x ∈ l, Nn x) : 0 ≤ tot l := by
  unfold tot
  exact sum_nn fun x hx => by
    obtain ⟨y, hy, rfl⟩ := List.mem_map.1 hx
    have := hn y hy; have h1 := this.1; have h2 := this.2.1; omega
theorem allF_self (got : List Cn) : allF got got.length = got := by rw [allF_eq]; simp
/-- What is known of contents that come up. -/
def CnOk (c : Cn) : Prop := 0 ≤ c.least ∧ c.least ≤ c.greatest ∧ c.greatest ≤ 1099511627776 ∧ 0 ≤ c.ol ∧ c.ol ≤ c.og ∧ c.og ≤ 1099511627776
theorem flow_side {l : List Nd} {ks ogs : List Int} {k : Nat} (h1 : k < ks.length) (h2 : k < ogs.length) : ogs[k] ∈ flowF l ks ogs ∨ ogs[k] ∈ sideF l ks ogs := by
  have hz : (ks[k], ogs[k]) ∈ ks.zip ogs := by
    have h3 : k < (ks.zip ogs).length := by rw [List.length_zip]; omega
    have := List.getElem_mem h3
    rwa [List.getElem_zip] at this
  by_cases hf : (floatAt l ks[k] == 0) = true
  · exact .inl (List.mem_map.2 ⟨_, List.mem_filter.2 ⟨hz, hf⟩, rfl⟩)
  · exact .inr (List.mem_map.2 ⟨_, List.mem_filter.2 ⟨hz, by simpa using hf⟩, rfl⟩)
theorem og_le {l : List Nd} {ks : List Int} {got : List Cn} (hl : got.length = ks.length) (hg : ∀ x ∈ got, 0 ≤ x.og) {x : Cn} (hx : x ∈ got) : x.og ≤ max (mostF (flowF l ks (got.map Cn.og))) (sideF l ks (got.map Cn.og)).sum := by
  obtain ⟨k, hk, rfl⟩ := List.mem_iff_getElem.1 hx
  have h := flow_side (l := l) (ks := ks) (ogs := got.map Cn.og) (k := k) (by omega) (by rw [List.length_map]; exact hk)
  rw [List.getElem_map] at h
  rcases h with h | h
  · have := mostF_ge h; omega
  · have := sum_ge (fun y hy => by
      have := side_mem hy
      obtain ⟨z, hz, rfl⟩ := List.mem_map.1 this
      exact hg z hz) h
    omega
theorem sum_le_sum (got : List Cn) (h : ∀ x ∈ got, x.ol ≤ x.og) : (got.map Cn.ol).sum ≤ (got.map Cn.og).sum := by
  induction got with
  | nil => simp
  | cons a t ih =>
    have h1 := h a (by simp)
    have h2 := ih fun x hx => h x (by simp [hx])
    simp only [List.map_cons, List.sum_cons]; omega
theorem want_ok (l : List Nd) (adv : List Int) (s : Sty) (ks : List Int) (got : List Cn) (ha : ∀ x ∈ adv, 0 ≤ x) (hl : got.length = ks.length) (hg : ∀ x ∈ got, CnOk x) : 0 ≤ (wantF l adv s ks got).1 ∧ (wantF l adv s ks got).1 ≤ (wantF l adv s ks got).2.1 := by
  have e : wantF l adv s ks got = wantL l adv s ks got := by rw [wantF_L, ← hl, allF_self]
  have hog : ∀ x ∈ got, 0 ≤ x.og := fun x hx => by obtain ⟨_, _, _, h1, h2, _⟩ := hg x hx; omega
  have hol : ∀ x ∈ got.map Cn.ol, 0 ≤ x := fun x hx => by obtain ⟨y, hy, rfl⟩ := List.mem_map.1 hx; exact (hg y hy).2.2.2.1
  have hogm : ∀ x ∈ got.map Cn.og, 0 ≤ x := fun x hx => by obtain ⟨y, hy, rfl⟩ := List.mem_map.1 hx; exact hog y hy
  rw [e]
  unfold wantL
  split
  · split
    · refine ⟨mostF_nn _, mostF_le (sum_nn hogm) fun x hx => ?_⟩
      obtain ⟨y, hy, rfl⟩ := List.mem_map.1 hx
      have := sum_ge hogm (List.mem_map_of_mem (f := Cn.og) hy)
      have := (hg y hy).2.2.2.2.1
      dsimp only
      omega
    · exact ⟨sum_nn hol, sum_le_sum got fun x hx => (hg x hx).2.2.2.2.1⟩
  · split
    · have hn := gat_nn l adv ks ha
      exact ⟨exLeast_nn _ hn _ (Nat.le_refl _), (ext_order _ hn _ (Int.le_refl _) (tot_nn _ hn)).1⟩
    · refine ⟨mostF_nn _, mostF_le ?_ fun x hx => ?_⟩
      · have := mostF_nn (flowF l ks (got.map Cn.og)); dsimp only; omega
      · obtain ⟨y, hy, rfl⟩ := List.mem_map.1 hx
        have := og_le (l := l) hl hog hy
        have := (hg y hy).2.2.2.2.1
        dsimp only
        omega
theorem con_ok {s : Sty} (hs : StyB s) {r : Int × Int × Bool} (h0 : 0 ≤ r.1) (h1 : r.1 ≤ r.2.1) : CnOk (conP s r).1 :=
  ⟨cutF_nn h0, cutF_mono h1, cutF_le _, cutF_nn (outP_nn s _), cutF_mono (outP_mono hs h1), cutF_le _⟩
theorem up_ok {l : List Nd} {adv : List Int} {out : List Cn} {bey : List Bool} (hk : UpK l adv 0 out bey) (ha : ∀ x ∈ adv, 0 ≤ x) (hs : ∀ (i : Nat) (h : i < l.length), StyB l[i].s) : ∀ (d i : Nat), l.length - i ≤ d → i < l.length → CnOk (cAt out i) := by
  intro d
  induction d with
  | zero => intro i h1 h2; omega
  | succ d ih =>
    intro i h1 h2
    have h := hk.ok i h2 (Nat.zero_le _)
    have e : cAt out i = (nodeP l adv i (kidsF l i) ((kidsF l i).map (cAt out))).1 := by rw [← h]
    rw [e]
    unfold nodeP
    rw [styAt_nat h2]
    simp only
    split
    · unfold CnOk; simp
    · have hw := want_ok l adv l[i].s (kidsF l i) ((kidsF l i).map (cAt out)) ha (by rw [List.length_map]) (fun x hx => by
        obtain ⟨k, hk2, rfl⟩ := List.mem_map.1 hx
        obtain ⟨n, rfl, hn, hp, hlt⟩ := kids_mem hk2
        exact ih n (by omega) hn)
      exact con_ok (hs i h2) hw.1 hw.2
end Go.Proofs.Ytbopeofglhkffaa
namespace Go.Proofs.Ytbopeofglhkffaa
open Go.RowKit
theorem eqU3s (a1 a2 a3 b1 b2 b3 : Int) (w : World) : (Op.equalIn 10000 27 (.agg #[.int .i64 a1, .int .i64 a2, .int .i64 a3]) (.agg #[.int .i64 b1, .int .i64 b2, .int .i64 b3])).run Try.prog w = .ok (a1 == b1 && a2 == b2 && a3 == b3) w := by
  have u2 := Try.underlying2
  have g2 := Try.isAgg2
  have z2 := Try.sizeOf2
  have hS : Try.prog.underlying 27 = some (.struct (Try.prog.fieldsOf 27)) := by kernel_rfl
  have hp : Try.prog.stoodInHeld 27 = false := by kernel_rfl
  rw [show (10000 : Nat) = 9999 + 1 from rfl, run_equalIn_agg w 9999 27 _ _ hS hp]
  simp only [Program.fieldsOf, Try.underlying27]
  go_simp
  by_cases h1 : a1 = b1 <;> by_cases h2 : a2 = b2 <;> by_cases h3 : a3 = b3 <;> simp [h1, h2, h3]
theorem guardU3s (op : BinOp) (x y : Operand) (xs ys : Array Value) (w : World) : (eqGuard op 27 x y (.agg xs) (.agg ys)).run Try.prog w = .ok () w := run_eqGuard_agg w op _ x y xs ys (by kernel_rfl)
theorem run_max3 {P : Program} (w : World) (ts : Array TypeId) (t : TypeId) (k k' k2 : IntKind) (x y z : Int) :
    (Builtin.max_ ts t #[.int k x, .int k' y, .int k2 z]).run P w = .ok (.int k (max (max x y) z)) w := by
  have e : ∀ x y : Int, (if y > x then y else x) = max x y := fun x y => by
    rw [Int.max_def]
    split <;> split <;> omega
  simp [Builtin.max_, Builtin.max2, e]
attribute [local go_sem] block_of_add eqU3s guardU3s
theorem un_leS (l : List Nd) {x : Nd} (h : x ∈ l) : x.s.units.length ≤ unF l := by
  induction l with
  | nil => simp at h
  | cons a t ih =>
    have e : unF (a :: t) = a.s.units.length + unF t := by simp [unF]
    rw [e]
    rcases List.mem_cons.1 h with rfl | h
    · omega
    · have := ih h; omega
theorem TrI.trhS {w : World} {A A2 : Option Addr} {l : List Nd} {adv : List Int} {view : Int} (h : TrI w A A2 l adv) (hs : SmallOk l adv view) : TrH w w.heap.size A A2 l adv :=
  ⟨h.nd, h.ad, fun x hx => by
    obtain ⟨Au, cu, h1, h2, h3, h4⟩ := h.un x hx
    exact ⟨Au, cu, h1, h2, h3, h4, by have := un_leS l hx; have := hs.u; omega⟩, h.i64, by have := hs.n; omega⟩
/-- What assign.Kids answers, and where. -/
structure KG (n : Nat) (pU : Nat → Int × Int × Int) (pB : Nat → Bool) (w w' : World) (e : Ending) : Prop where
  ex : ∃ gu gb, e = .returned (.tuple #[.slice (some ⟨gu, 0, none⟩) n n, .slice (some ⟨gb, 0, none⟩) n n]) ∧ Blk w' gu 27 (triC pU n).toArray ∧ Blk w' gb 4 (booC pB n).toArray ∧ w.heap.size ≤ gu ∧ w.heap.size ≤ gb
  b : Below w.heap.size w w'
theorem sums21 (l : List Nd) (adv : List Int) (vw : Int) (hok : SmallOk l adv vw) (hu : ∀ x ∈ l, ∃ Au nu cu, x.s.uv = .slice Au nu cu) (i : Nat) (hi : i < l.length) (n : Nat) (ks : List Int) (hks : ks = kidsF l i) (hn : n = ks.length) (xs : List Cn) (hm : xs.length = n)
    (hx : ∀ x ∈ xs, (0 ≤ x.least ∧ x.least ≤ 1099511627776) ∧ 0 ≤ x.greatest ∧ x.greatest ≤ 1099511627776) (ln : Nat) (hln : ln = l.length) (u1 u2 u3 : Int) (hc : CB u1) (A A2 : Option Addr) (c m2 c2 : Nat) (view : Int) :
    ∃ (pU : Nat → Int × Int × Int) (pB : Nat → Bool),
      (∀ (W : World) (Ak Ag : Option Addr) (ck cg : Nat), Reads W W.heap.size 44 A ln (ndsCells l) → Reads W W.heap.size 1 Ak n (i64s ks) → Reads W W.heap.size 4 Ag n (cnsCells xs) →
        Calls Try.prog 11 #[.agg #[.slice A ln c, .slice A2 m2 c2, .int .i64 view], .int .i64 (i : Int), .agg #[.int .i64 u1, .int .i64 u2, .int .i64 u3], .slice Ak n ck, .slice Ag n cg] W fun e w' => KG n pU pB W w' e) ∧
      ∀ k, k < n → KidG (sD l (ksAt ks k)) l[i].s.kind u1 (gAt xs k).least (pU k) (pB k) ∧ (l[i].s.kind = 2 → (sD l (ksAt ks k)).float = 0) := by
  subst hln
  subst hn
  have hl := hok.n
  have hkn : ∀ k ∈ ks, 0 ≤ k ∧ k < (l.length : Int) := fun k hk => by
    rw [hks] at hk
    obtain ⟨q, hq, rfl, _⟩ := kid_of hk
    omega
  have hkl : ks.length ≤ 1000 := by
    have := kidsF_len l i
    rw [← hks] at this
    omega
  have hw : ∀ k ∈ ks, StW (sD l k) := fun k hk => by
    rw [hks] at hk
    obtain ⟨q, hq, _, e, _⟩ := kid_of hk
    rw [e]; exact lim_w2 (hok.ok.nd q hq).sty
  have hat : ∀ k, k < ks.length → ksAt ks k ∈ ks := fun k hk => by
    unfold ksAt; rw [List.getElem?_eq_getElem hk]; exact List.getElem_mem hk
  by_cases hk2 : l[i].s.kind = 2
  · have hx2 : ∀ k ∈ ks, (sD l k).kind ≠ 3 ∧ (sD l k).float = 0 ∧ StX (sD l k) := fun k hk => by
      rw [hks] at hk
      exact flex_kid hok hi hk2 hk
    refine ⟨fun k => usedT (mainsM l[i].s u1 (ks.map (sD l)) xs k), fun k => usedB (mainsM l[i].s u1 (ks.map (sD l)) xs k), ?_, ?_⟩
    · intro W Ak Ag ck cg h1 h2 h3
      have h := fkids_any l i hi (by omega) A A2 Ak Ag c m2 c2 ck cg view u1 u2 u3 ks xs W h1 hu hk2 h2 hkn hkl (by rw [hm]; exact h3) hc (fun k hk => ⟨(hx2 k hk).1, (hx2 k hk).2.2⟩) hx
      rw [hm] at h
      refine h.mono fun e w' hh => ?_
      obtain ⟨⟨gu, gb, he, a, b, e1, e2⟩, h⟩ := hh
      rw [mainsM_all _ _ _ (by omega)] at a b
      exact ⟨⟨gu, gb, he, a, b, e1, e2⟩, h⟩
    · intro k hk
      rw [hk2]
      exact ⟨used_good _ _ _ _ _ _ _ _ (hx2 _ (hat k hk)).1, fun _ => (hx2 _ (hat k hk)).2.1⟩
  · refine ⟨fun k => kidU (sD l (ksAt ks k)) u1 (gAt xs k), fun k => kidB (sD l (ksAt ks k)) u1 (gAt xs k), ?_, ?_⟩
    · intro W Ak Ag ck cg h1 h2 h3
      have h := akids_any l i hi (by omega) A A2 Ak Ag c m2 c2 ck cg view u1 u2 u3 ks xs W h1 hu l[i].s.kind hk2 rfl h2 hkn (by omega) (by rw [hm]; exact h3) hc (fun k hk _ => hw k hk) hx
      rw [hm] at h
      refine h.mono fun e w' hh => ?_
      obtain ⟨⟨gu, gb, he, a, b, e1, e2⟩, h⟩ := hh
      exact ⟨⟨gu, gb, he, a, b, e1, e2⟩, h⟩
    · intro k hk
      exact ⟨kid_good _ _ _ _, fun h => absurd h hk2⟩
/-- The widths given so far. -/
structure SmI (w6 : World) (gu gb n : Nat) (pu : Nat → Int × Int × Int) (pb : Nat → Bool) (W : World) : Prop where
  u : Blk W gu 27 (triC pu n).toArray
  b : Blk W gb 4 (booC pb n).toArray
  l : Below w6.heap.size w6 W
  ge : w6.heap.size ≤ gu ∧ w6.heap.size ≤ gb
section
variable {w6 : World} {gu gb n : Nat} {pu : Nat → Int × Int × Int} {pb : Nat → Bool} {W W' : World}
theorem SmI.bel (h : SmI w6 gu gb n pu pb W) (hb : Below W.heap.size W W') : SmI w6 gu gb n pu pb W' := ⟨h.u.below hb h.u.lt, h.b.below hb h.b.lt, h.l.trans (hb.mono h.l.size), h.ge⟩
theorem SmI.putU (h : SmI w6 gu gb n pu pb W) {k : Nat} (hk : k < n) (x y z : Int) : SmI w6 gu gb n (updT pu k (x, y, z)) pb (((W.setCell ⟨gu, k * 3, none⟩ (.int .i64 x)).setCell ⟨gu, k * 3 + 1, none⟩ (.int .i64 y)).setCell ⟨gu, k * 3 + 2, none⟩ (.int .i64 z)) := by
  have g1 : gb ≠ gu := h.b.ne_ h.u (by decide)
  refine ⟨?_, ((h.b.far g1 _ (p := ⟨gu, k * 3, none⟩)).far g1 _ (p := ⟨gu, k * 3 + 1, none⟩)).far g1 _ (p := ⟨gu, k * 3 + 2, none⟩), ((h.l.setCell (p := ⟨gu, k * 3, none⟩) h.ge.1 _).setCell (p := ⟨gu, k * 3 + 1, none⟩) h.ge.1 _).setCell (p := ⟨gu, k * 3 + 2, none⟩) h.ge.1 _, h.ge⟩
  have h1 := ((h.u.set_ (k * 3) (.int .i64 x)).set_ (k * 3 + 1) (.int .i64 y)).set_ (k * 3 + 2) (.int .i64 z)
  rw [triC_set pu n k x y z hk] at h1
  exact h1
theorem SmI.putB (h : SmI w6 gu gb n pu pb W) {k : Nat} (hk : k < n) (v : Bool) : SmI w6 gu gb n pu (fun q => if q = k then v else pb q) (W.setCell ⟨gb, k, none⟩ (.bool v)) := by
  have g1 : gu ≠ gb := h.u.ne_ h.b (by decide)
  refine ⟨h.u.far g1 _ (p := ⟨gb, k, none⟩), ?_, h.l.setCell (p := ⟨gb, k, none⟩) h.ge.2 _, h.ge⟩
  have h1 := h.b.set_ k (.bool v)
  rw [booC_set pb n k v hk] at h1
  exact h1
end
/-- The children's widths, while they are laid down. -/
structure SmJ (w6 : World) (gu gb n lo gq gr p : Nat) (v9 : Value) (xs : List Cn) (pU : Nat → Int × Int × Int) (pB : Nat → Bool) (pu : Nat → Int × Int × Int) (pb : Nat → Bool) (W : World) : Prop where
  s : SmI w6 gu gb n pu pb W
  q : Blk W gq 27 (triC pU p).toArray
  r : Blk W gr 4 (booC pB p).toArray
  o : W.ownsRow lo 45 4 v9 p (cnsCells xs)
  ne : gu < lo ∧ gb < lo ∧ lo ≤ gq ∧ lo ≤ gr
section
variable {w6 : World} {gu gb n lo gq gr p : Nat} {v9 : Value} {xs : List Cn} {pU : Nat → Int × Int × Int} {pB : Nat → Bool} {pu : Nat → Int × Int × Int} {pb : Nat → Bool} {W W' : World}
theorem SmJ.bel (h : SmJ w6 gu gb n lo gq gr p v9 xs pU pB pu pb W) (hb : Below W.heap.size W W') : SmJ w6 gu gb n lo gq gr p v9 xs pU pB pu pb W' := ⟨h.s.bel hb, h.q.below hb h.q.lt, h.r.below hb h.r.lt, own_below h.o hb, h.ne⟩
theorem SmJ.putU (h : SmJ w6 gu gb n lo gq gr p v9 xs pU pB pu pb W) {k : Nat} (hk : k < n) (x y z : Int) : SmJ w6 gu gb n lo gq gr p v9 xs pU pB (updT pu k (x, y, z)) pb (((W.setCell ⟨gu, k * 3, none⟩ (.int .i64 x)).setCell ⟨gu, k * 3 + 1, none⟩ (.int .i64 y)).setCell ⟨gu, k * 3 + 2, none⟩ (.int .i64 z)) := by
  have hn := h.ne
  have e1 : gq ≠ gu := by omega
  have e2 : gr ≠ gu := by omega
  exact ⟨h.s.putU hk x y z, ((h.q.far e1 _ (p := ⟨gu, k * 3, none⟩)).far e1 _ (p := ⟨gu, k * 3 + 1, none⟩)).far e1 _ (p := ⟨gu, k * 3 + 2, none⟩), ((h.r.far e2 _ (p := ⟨gu, k * 3, none⟩)).far e2 _ (p := ⟨gu, k * 3 + 1, none⟩)).far e2 _ (p := ⟨gu, k * 3 + 2, none⟩),
    ownsRow_setCell_below (ownsRow_setCell_below (ownsRow_setCell_below h.o (a := ⟨gu, k * 3, none⟩) hn.1 _) (a := ⟨gu, k * 3 + 1, none⟩) hn.1 _) (a := ⟨gu, k * 3 + 2, none⟩) hn.1 _, hn⟩
theorem SmJ.putB (h : SmJ w6 gu gb n lo gq gr p v9 xs pU pB pu pb W) {k : Nat} (hk : k < n) (v : Bool) : SmJ w6 gu gb n lo gq gr p v9 xs pU pB pu (fun q => if q = k then v else pb q) (W.setCell ⟨gb, k, none⟩ (.bool v)) := by
  have hn := h.ne
  have e1 : gq ≠ gb := by omega
  have e2 : gr ≠ gb := by omega
  exact ⟨h.s.putB hk v, h.q.far e1 _ (p := ⟨gb, k, none⟩), h.r.far e2 _ (p := ⟨gb, k, none⟩), ownsRow_setCell_below h.o (a := ⟨gb, k, none⟩) hn.2.1 _, hn⟩
end
end Go.Proofs.Ytbopeofglhkffaa
