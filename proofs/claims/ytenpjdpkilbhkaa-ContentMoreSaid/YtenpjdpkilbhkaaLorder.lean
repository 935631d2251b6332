/- The law ContentOrder, walked. -/
import Derived.Test.YtenpjdpkilbhkaaUp
import Derived.BigQuiet
/- ContentOrder: plain. -/
set_option linter.unusedSimpArgs false
set_option linter.unusedVariables false
namespace Go.Proofs.Ytenpjdpkilbhkaa
open Go.RowKit

theorem exLeast_nn (l : List Wd) (hn : ∀ x ∈ l, Nn x) : ∀ k, k ≤ l.length → 0 ≤ (exAt l k).least := by
  intro k
  induction k with
  | zero => intro _; simp [exAt]
  | succ k ih =>
    intro hk
    have hlt : k < l.length := by omega
    have hw := (hn l[k] (List.getElem_mem hlt)).1
    have h1 := ih (by omega)
    have hl : 0 ≤ exLeast k (exAt l k).least l[k] := by unfold exLeast; split <;> assumption
    rw [exAt_succ l hlt]
    unfold exStep
    split <;> exact hl
theorem gat_nn (l : List Nd) (adv ks : List Int) (ha : ∀ x ∈ adv, 0 ≤ x) : ∀ x ∈ (gatherF l adv ks).1, Nn x := fun x hx => by
  obtain ⟨u, h⟩ := gat_mem hx
  exact (nn_vw ha (words_abs adv u).1).1 x h
theorem tot_nn (l : List Wd) (hn : ∀ x ∈ l, Nn x) : 0 ≤ tot l := by
  unfold tot
  exact sum_nn fun x hx => by
    obtain ⟨y, hy, rfl⟩ := List.mem_map.1 hx
    have := hn y hy; have h1 := this.1; have h2 := this.2.1; omega
theorem allF_self (got : List Cn) : allF got got.length = got := by rw [allF_eq]; simp
/-- What is known of contents that come up. -/
def CnOk (c : Cn) : Prop := 0 ≤ c.least ∧ c.least ≤ c.greatest ∧ c.greatest ≤ 1099511627776 ∧ 0 ≤ c.ol ∧ c.ol ≤ c.og ∧ c.og ≤ 1099511627776
theorem flow_side {l : List Nd} {ks ogs : List Int} {k : Nat} (h1 : k < ks.length) (h2 : k < ogs.length) : ogs[k] ∈ flowF l ks ogs ∨ ogs[k] ∈ sideF l ks ogs := by
  have hz : (ks[k], ogs[k]) ∈ ks.zip ogs := by
    have h3 : k < (ks.zip ogs).length := by rw [List.length_zip]; omega
    have := List.getElem_mem h3
    rwa [List.getElem_zip] at this
  by_cases hf : (floatAt l ks[k] == 0) = true
  · exact .inl (List.mem_map.2 ⟨_, List.mem_filter.2 ⟨hz, hf⟩, rfl⟩)
  · exact .inr (List.mem_map.2 ⟨_, List.mem_filter.2 ⟨hz, by simpa using hf⟩, rfl⟩)
theorem og_le {l : List Nd} {ks : List Int} {got : List Cn} (hl : got.length = ks.length) (hg : ∀ x ∈ got, 0 ≤ x.og) {x : Cn} (hx : x ∈ got) : x.og ≤ max (mostF (flowF l ks (got.map Cn.og))) (sideF l ks (got.map Cn.og)).sum := by
  obtain ⟨k, hk, rfl⟩ := List.mem_iff_getElem.1 hx
  have h := flow_side (l := l) (ks := ks) (ogs := got.map Cn.og) (k := k) (by omega) (by rw [List.length_map]; exact hk)
  rw [List.getElem_map] at h
  rcases h with h | h
  · have := mostF_ge h; omega
  · have := sum_ge (fun y hy => by
      have := side_mem hy
      obtain ⟨z, hz, rfl⟩ := List.mem_map.1 this
      exact hg z hz) h
    omega
theorem sum_le_sum (got : List Cn) (h : ∀ x ∈ got, x.ol ≤ x.og) : (got.map Cn.ol).sum ≤ (got.map Cn.og).sum := by
  induction got with
  | nil => simp
  | cons a t ih =>
    have h1 := h a (by simp)
    have h2 := ih fun x hx => h x (by simp [hx])
    simp only [List.map_cons, List.sum_cons]; omega
theorem want_ok (l : List Nd) (adv : List Int) (s : Sty) (ks : List Int) (got : List Cn) (ha : ∀ x ∈ adv, 0 ≤ x) (hl : got.length = ks.length) (hg : ∀ x ∈ got, CnOk x) : 0 ≤ (wantF l adv s ks got).1 ∧ (wantF l adv s ks got).1 ≤ (wantF l adv s ks got).2.1 := by
  have e : wantF l adv s ks got = wantL l adv s ks got := by rw [wantF_L, ← hl, allF_self]
  have hog : ∀ x ∈ got, 0 ≤ x.og := fun x hx => by obtain ⟨_, _, _, h1, h2, _⟩ := hg x hx; omega
  have hol : ∀ x ∈ got.map Cn.ol, 0 ≤ x := fun x hx => by obtain ⟨y, hy, rfl⟩ := List.mem_map.1 hx; exact (hg y hy).2.2.2.1
  have hogm : ∀ x ∈ got.map Cn.og, 0 ≤ x := fun x hx => by obtain ⟨y, hy, rfl⟩ := List.mem_map.1 hx; exact hog y hy
  rw [e]
  unfold wantL
  split
  · split
    · refine ⟨mostF_nn _, mostF_le (sum_nn hogm) fun x hx => ?_⟩
      obtain ⟨y, hy, rfl⟩ := List.mem_map.1 hx
      have := sum_ge hogm (List.mem_map_of_mem (f := Cn.og) hy)
      have := (hg y hy).2.2.2.2.1
      dsimp only
      omega
    · exact ⟨sum_nn hol, sum_le_sum got fun x hx => (hg x hx).2.2.2.2.1⟩
  · split
    · have hn := gat_nn l adv ks ha
      exact ⟨exLeast_nn _ hn _ (Nat.le_refl _), (ext_order _ hn _ (Int.le_refl _) (tot_nn _ hn)).1⟩
    · refine ⟨mostF_nn _, mostF_le ?_ fun x hx => ?_⟩
      · have := mostF_nn (flowF l ks (got.map Cn.og)); dsimp only; omega
      · obtain ⟨y, hy, rfl⟩ := List.mem_map.1 hx
        have := og_le (l := l) hl hog hy
        have := (hg y hy).2.2.2.2.1
        dsimp only
        omega
theorem con_ok {s : Sty} (hs : StyB s) {r : Int × Int × Bool} (h0 : 0 ≤ r.1) (h1 : r.1 ≤ r.2.1) : CnOk (conP s r).1 :=
  ⟨cutF_nn h0, cutF_mono h1, cutF_le _, cutF_nn (outP_nn s _), cutF_mono (outP_mono hs h1), cutF_le _⟩
theorem up_ok {l : List Nd} {adv : List Int} {out : List Cn} {bey : List Bool} (hk : UpK l adv 0 out bey) (ha : ∀ x ∈ adv, 0 ≤ x) (hs : ∀ (i : Nat) (h : i < l.length), StyB l[i].s) : ∀ (d i : Nat), l.length - i ≤ d → i < l.length → CnOk (cAt out i) := by
  intro d
  induction d with
  | zero => intro i h1 h2; omega
  | succ d ih =>
    intro i h1 h2
    have h := hk.ok i h2 (Nat.zero_le _)
    have e : cAt out i = (nodeP l adv i (kidsF l i) ((kidsF l i).map (cAt out))).1 := by rw [← h]
    rw [e]
    unfold nodeP
    rw [styAt_nat h2]
    simp only
    split
    · unfold CnOk; simp
    · have hw := want_ok l adv l[i].s (kidsF l i) ((kidsF l i).map (cAt out)) ha (by rw [List.length_map]) (fun x hx => by
        obtain ⟨k, hk2, rfl⟩ := List.mem_map.1 hx
        obtain ⟨n, rfl, hn, hp, hlt⟩ := kids_mem hk2
        exact ih n (by omega) hn)
      exact con_ok (hs i h2) hw.1 hw.2
/-- A box wants at least what each of its children wants. -/
theorem up_par {l : List Nd} {adv : List Int} {out : List Cn} {bey : List Bool} (hk : UpK l adv 0 out bey) (ha : ∀ x ∈ adv, 0 ≤ x) (hnd : ∀ (i : Nat) (h : i < l.length), NdOk l i l[i]) {i p : Nat} (hi : i < l.length) (hp : l[i].parent = (p : Int)) (hb : (bey[p]?).getD false = false) (h3 : l[i].s.kind ≠ 3) :
    (cAt out i).ol ≤ (cAt out p).least ∧ (cAt out i).og ≤ (cAt out p).greatest ∧ p < l.length := by
  have hs : ∀ (i : Nat) (h : i < l.length), StyB l[i].s := fun i h => (hnd i h).sty.b
  have hok := fun i h => up_ok hk ha hs l.length i (by omega) h
  have hpar := (hnd i hi).par
  have hpi : p < i ∧ 0 < i := by omega
  have hpl : p < l.length := by omega
  have hpf : parF l i = (p : Int) := by unfold parF; rw [List.getElem?_eq_getElem hi]; simp only; rw [hp, if_pos (by omega)]
  have hmem : (i : Int) ∈ kidsF l p := by
    unfold kidsF
    exact List.mem_map.2 ⟨i, List.mem_filter.2 ⟨List.mem_range.2 hi, by simpa using hpf⟩, rfl⟩
  have hup := (hnd i hi).up p hpi.2 hp l[p] (List.getElem?_eq_getElem hpl)
  have h := hk.ok p hpl (Nat.zero_le _)
  have e1 : cAt out p = (nodeP l adv p (kidsF l p) ((kidsF l p).map (cAt out))).1 := by rw [← h]
  have e2 : (nodeP l adv p (kidsF l p) ((kidsF l p).map (cAt out))).2 = false := by rw [← h]; exact hb
  unfold nodeP at e1 e2
  rw [styAt_nat hpl] at e1 e2
  simp only at e1 e2
  rw [if_neg hup.1] at e1 e2
  have hlen : ((kidsF l p).map (cAt out)).length = (kidsF l p).length := List.length_map ..
  have hgm : cAt out i ∈ (kidsF l p).map (cAt out) := List.mem_map_of_mem hmem
  have hgok : ∀ x ∈ (kidsF l p).map (cAt out), CnOk x := fun x hx => by
    obtain ⟨k, hk2, rfl⟩ := List.mem_map.1 hx
    obtain ⟨n, rfl, hn, _⟩ := kids_mem hk2
    exact hok n hn
  have hog : ∀ x ∈ (kidsF l p).map (cAt out), 0 ≤ x.og := fun x hx => by obtain ⟨_, _, _, h1, h2, _⟩ := hgok x hx; omega
  have hogm : ∀ x ∈ ((kidsF l p).map (cAt out)).map Cn.og, 0 ≤ x := fun x hx => by obtain ⟨y, hy, rfl⟩ := List.mem_map.1 hx; exact hog y hy
  have holm : ∀ x ∈ ((kidsF l p).map (cAt out)).map Cn.ol, 0 ≤ x := fun x hx => by obtain ⟨y, hy, rfl⟩ := List.mem_map.1 hx; exact (hgok y hy).2.2.2.1
  have hw : (cAt out i).ol ≤ (wantF l adv l[p].s (kidsF l p) ((kidsF l p).map (cAt out))).1 ∧ (cAt out i).og ≤ (wantF l adv l[p].s (kidsF l p) ((kidsF l p).map (cAt out))).2.1 := by
    have e : wantF l adv l[p].s (kidsF l p) ((kidsF l p).map (cAt out)) = wantL l adv l[p].s (kidsF l p) ((kidsF l p).map (cAt out)) := by rw [wantF_L, ← hlen, allF_self]
    rw [e]
    unfold wantL
    split
    · refine ⟨?_, sum_ge hogm (List.mem_map_of_mem (f := Cn.og) hgm)⟩
      split
      · exact mostF_ge (List.mem_map_of_mem (f := Cn.ol) hgm)
      · exact sum_ge holm (List.mem_map_of_mem (f := Cn.ol) hgm)
    · rename_i hk2
      have hnl : linesK l (kidsF l p) = false := by
        cases hks : kidsF l p with
        | nil => rfl
        | cons a t =>
          have ha' : a ∈ kidsF l p := by rw [hks]; simp
          obtain ⟨k, rfl, hkl, hkp, hpk⟩ := kids_mem ha'
          show (kindAt l (k : Int) == 3) = false
          unfold kindAt
          rw [styAt_nat hkl]
          show (l[k].s.kind == 3) = false
          refine beq_eq_false_iff_ne.2 fun hc => ?_
          have hsorted : (kidsF l p).Pairwise (· < ·) := by
            unfold kidsF
            refine List.Pairwise.map _ ?_ (List.Pairwise.filter _ List.pairwise_lt_range)
            intro a b h; simpa using h
          rw [hks] at hsorted hmem
          rcases List.mem_cons.1 hmem with e | e
          · have : i = k := by omega
            subst this; exact h3 hc
          · have hki : (k : Int) < (i : Int) := (List.pairwise_cons.1 hsorted).1 _ e
            have := (hup.2.2 hk2 k l[k] (by omega) (by omega) hkp (fun j hj1 hj2 hj3 => by
              have hjm : (j : Int) ∈ kidsF l p := by
                unfold kidsF
                exact List.mem_map.2 ⟨j, List.mem_filter.2 ⟨List.mem_range.2 (by omega), by simpa using hj3⟩, rfl⟩
              rw [hks] at hjm
              rcases List.mem_cons.1 hjm with e | e
              · omega
              · have := (List.pairwise_cons.1 hsorted).1 _ e; omega) (List.getElem?_eq_getElem hkl)).1 hc
            exact h3 this
      rw [if_neg (by rw [hnl]; simp)]
      exact ⟨mostF_ge (List.mem_map_of_mem (f := Cn.ol) hgm), og_le hlen hog hgm⟩
  have hb1 : cutB (wantF l adv l[p].s (kidsF l p) ((kidsF l p).map (cAt out))).1 = false ∧ cutB (wantF l adv l[p].s (kidsF l p) ((kidsF l p).map (cAt out))).2.1 = false := by
    unfold conP at e2
    simp only [Bool.or_eq_false_iff] at e2
    exact ⟨e2.1.1.1.2, e2.1.1.2⟩
  have c1 := cutB_in hb1.1
  have c2 := cutB_in hb1.2
  rw [e1]
  refine ⟨?_, ?_, hpl⟩
  · show _ ≤ cutF _
    rw [cutF_in c1.1 c1.2]; exact hw.1
  · show _ ≤ cutF _
    rw [cutF_in c2.1 c2.2]; exact hw.2
end Go.Proofs.Ytenpjdpkilbhkaa
set_option linter.unusedSimpArgs false
set_option linter.unusedVariables false
namespace Go.Proofs.Ytenpjdpkilbhkaa
open Go.RowKit
attribute [local go_sem] block_of_add

/-- A tree that is handed in. -/
structure TrI (w : World) (A A2 : Option Addr) (l : List Nd) (adv : List Int) : Prop where
  nd : Reads w w.heap.size 44 A l.length (ndsCells l)
  ad : Reads w w.heap.size 1 A2 adv.length (i64s adv)
  un : ∀ x ∈ l, ∃ Au cu, x.s.uv = .slice Au x.s.units.length cu ∧ x.s.units.length ≤ cu ∧ Reads w w.heap.size 1 Au x.s.units.length (u16s x.s.units) ∧ U16s x.s.units
  i64 : I64s adv
theorem un_le (l : List Nd) {x : Nd} (h : x ∈ l) : x.s.units.length ≤ unF l := by
  induction l with
  | nil => simp at h
  | cons a t ih =>
    have e : unF (a :: t) = a.s.units.length + unF t := by simp [unF]
    rw [e]
    rcases List.mem_cons.1 h with rfl | h
    · omega
    · have := ih h; omega
theorem TrI.trh {w : World} {A A2 : Option Addr} {l : List Nd} {adv : List Int} {view : Int} (h : TrI w A A2 l adv) (hs : SmallOk l adv view) : TrH w w.heap.size A A2 l adv :=
  ⟨h.nd, h.ad, fun x hx => by obtain ⟨Au, cu, h1, h2, h3, h4⟩ := h.un x hx; exact ⟨Au, cu, h1, h2, h3, h4, by have := un_le l hx; have := hs.u; omega⟩, h.i64, by have := hs.n; omega⟩
section
variable (l : List Nd) (adv : List Int) (A A2 : Option Addr) (c c2 : Nat) (view : Int) (w : World)
set_option maxRecDepth 100000 in
set_option maxHeartbeats 1000000 in
theorem contentOrder_any (ht : TrI w A A2 l adv) :
    Calls Try.prog 3 #[.agg #[.slice A l.length c, .slice A2 adv.length c2, .int .i64 view]] w fun e w' => e = .returned (.bool true) ∧ Below w.heap.size w w' := by
  have HT := Lib.hid ht
  have HB1 : Hid (Below w.heap.size w (w.alloc (.cells #[.slice A l.length c, .slice A2 adv.length c2, .int .i64 view] 25))) := Lib.hid ((Below.refl _ _).alloc (Nat.le_refl _) _)
  have HBT : Hid (Blk (w.alloc (.cells #[.slice A l.length c, .slice A2 adv.length c2, .int .i64 view] 25)) w.heap.size 25 #[.slice A l.length c, .slice A2 adv.length c2, .int .i64 view]) := Lib.hid (Blk.new _ _ _)
  have HSM := Lib.hid (small_any l adv A A2 c c2 view (w.alloc (.cells #[.slice A l.length c, .slice A2 adv.length c2, .int .i64 view] 25)) ((ht.nd.below HB1.out).more HB1.out.size) ((ht.ad.below HB1.out).more HB1.out.size) (fun x hx => by obtain ⟨Au, cu, h1, _⟩ := ht.un x hx; exact ⟨Au, cu, h1⟩))
  clear ht
  go_enter Try.func3, Try.ntmps3
  go_wp2_with fail
  refine HSM.out.mono ?_
  rintro e w1 ⟨⟨b, rfl, hb⟩, hw1⟩
  have HS := Lib.hid hb
  have HB2 := Lib.hid (HB1.out.trans (hw1.mono HB1.out.size))
  have HT1 := Lib.hid (HBT.out.below hw1 HBT.out.lt)
  clear hb hw1
  have bt := HT1.out.c3
  cases b
  · go_wp2_with fail
    refine (works_any _).mono ?_
    rintro e w2 ⟨rfl, hw2⟩
    have HB3 := Lib.hid (HB2.out.trans (hw2.mono HB2.out.size))
    clear bt hw2
    go_wp2_with fail
    go_ret
    exact ⟨rfl, HB3.out⟩
  have HOK := Lib.hid (HS.out (by simp))
  have HH := Lib.hid (HT.out.trh HOK.out)
  go_wp2_with fail
  refine (up_any l adv A A2 c c2 view w1 ((HH.out.below HB2.out).more HB2.out.size) (fun i h => (HOK.out.ok.nd i h).sty.b) (by have := HOK.out.u; omega) HOK.out.ok.n.1).mono ?_
  rintro e w2 ⟨⟨go, gb, out, bey, rfl, ho, hy, hk⟩, hw2⟩
  have HB3 := Lib.hid (HB2.out.trans (hw2.mono HB2.out.size))
  have HT2 := Lib.hid (HT1.out.below hw2 HT1.out.lt)
  have HO := Lib.hid ho
  have HY := Lib.hid hy
  have HK := Lib.hid hk
  have HA : Hid (∀ x ∈ adv, 0 ≤ x) := Lib.hid (fun x hx => by
    obtain ⟨k, hk, rfl⟩ := List.mem_iff_getElem.1 hx
    exact (HOK.out.ok.a k hk).1)
  have HCN : Hid (∀ i, i < l.length → CnOk (cAt out i)) := Lib.hid (fun i h => up_ok HK.out HA.out (fun i h => (HOK.out.ok.nd i h).sty.b) l.length i (by omega) h)
  have HN := Lib.hid HOK.out.n
  clear bt ho hy hk hw2
  go_wp2_with fail
  go_loopw [5, 6, 7] (fun iv v6 v7 wr => ∃ i : Nat, i ≤ l.length ∧ iv = .int .i64 i ∧ Hid (Below w2.heap.size w2 wr)) (fun iv _ _ _ => l.length - (intOf iv).toNat)
  case atStart => exact ⟨0, by omega, rfl, Lib.hid (Below.refl _ _)⟩
  case round =>
    obtain ⟨i, hi, rfl, H⟩ := hrel
    have hwi : IntKind.i64.wrap ((i : Int) + 1) = (i : Int) + 1 := IntWalk.i64_in _ ⟨by omega, by have := HN.out; omega⟩
    by_cases hil : i < l.length
    rotate_left
    · have d0 : decide ((i : Int) < (l.length : Int)) = false := decide_eq_false (by omega)
      have d0' : decide (i < l.length) = false := decide_eq_false hil
      go_wp2_with fail
      refine (works_any _).mono ?_
      rintro e w9 ⟨rfl, hw9⟩
      have HB9 := Lib.hid (HB3.out.trans ((H.out.trans (hw9.mono H.out.size)).mono HB3.out.size))
      clear hw9
      go_wp2_with fail
      go_ret
      exact ⟨rfl, HB9.out⟩
    have d0 : decide ((i : Int) < (l.length : Int)) = true := decide_eq_true (by omega)
    have d0' : decide (i < l.length) = true := decide_eq_true hil
    have hii : (i : Int) < (l.length : Int) := by omega
    have HBO := Lib.hid (HO.out.below H.out HO.out.lt)
    have HBY := Lib.hid (HY.out.below H.out HY.out.lt)
    have HBTr := Lib.hid (HT2.out.below H.out HT2.out.lt)
    have bt := HBTr.out.c3
    have lg := HBO.out.lt
    have lt0 := HBTr.out.lt
    have ly := HBY.out.lt
    have hio : i < out.length := by rw [HK.out.lo]; exact hil
    obtain ⟨x, hx⟩ : ∃ x, x = cAt out i := ⟨_, rfl⟩
    have hoc : ∀ (q : Nat) (y : Cn), q < out.length → y = cAt out q → ∀ t v, t < 4 → (cnCells y)[t]? = some v → (cnsCells out).toArray[q * 4 + t]? = some v := fun q y hq hy t v ht hv => by
      have := cnsCells_at out q t hq ht
      have e : out[q] = y := by rw [hy]; unfold cAt; rw [Int.toNat_natCast, List.getElem?_eq_getElem hq]; rfl
      rw [e] at this
      rw [List.getElem?_toArray, this]; exact hv
    have k0 := HBO.out.get (i * 4) (v := .int .i64 x.least) (hoc i x hio hx 0 _ (by omega) rfl)
    have k1 := HBO.out.get (i * 4 + 1) (v := .int .i64 x.greatest) (hoc i x hio hx 1 _ (by omega) rfl)
    have k2 := HBO.out.get (i * 4 + 2) (v := .int .i64 x.ol) (hoc i x hio hx 2 _ (by omega) rfl)
    have k3 := HBO.out.get (i * 4 + 3) (v := .int .i64 x.og) (hoc i x hio hx 3 _ (by omega) rfl)
    obtain ⟨c1, c2', c3, c4, c5, c6⟩ := HCN.out i hil
    rw [← hx] at c1 c2' c3 c4 c5 c6
    have e1 : decide (x.least < 0) = false := decide_eq_false (by omega)
    have e2 : decide (x.greatest < x.least) = false := decide_eq_false (by omega)
    have e3 : decide (x.ol < 0) = false := decide_eq_false (by omega)
    have e4 : decide (x.og < x.ol) = false := decide_eq_false (by omega)
    have e5 : decide (1099511627776 < x.greatest) = false := decide_eq_false (by omega)
    have e6 : decide (1099511627776 < x.og) = false := decide_eq_false (by omega)
    obtain ⟨ad, hA, hnd⟩ := (HT.out.nd.below (HB3.out.trans (H.out.mono HB3.out.size))).nd rfl hil
    subst hA
    obtain ⟨nx, hnx⟩ : ∃ nx, nx = l[i] := ⟨_, rfl⟩
    rw [← hnx] at hnd
    have n0 := hnd.par
    have n1 : wr.cell? ⟨ad.block, (ad.add (i * 44)).off + 1, none⟩ = some (.int .u8 nx.s.kind) := by rw [← block_of_add ad (i * 44)]; exact hnd.cs 0 _ rfl
    have hadl : ad.block < wr.heap.size := by have h1 := hnd.lt; rw [block_of_add] at h1; have := HB3.out.size; have := H.out.size; omega
    have HX := Lib.hid (And.intro hx hnx)
    have HHO := Lib.hid hoc
    clear hx hnd c1 c2' c3 c4 c5 c6 hoc hnx
    obtain ⟨P, hP⟩ : ∃ P, P = nx.parent := ⟨_, rfl⟩
    rw [← hP] at n0
    have HP := Lib.hid hP
    clear hP
    by_cases hP0 : 0 ≤ P
    rotate_left
    · have p0 : decide (0 ≤ P) = false := decide_eq_false hP0
      go_upto_region 11 with (fail)
      go_quiet (fail)
      go_wp2_with fail
      go_roundw
      case rel => exact ⟨i + 1, by omega, by go_num, Lib.hid (below_dr (H.out.alloc H.out.size _) _)⟩
      case measure => simp [intOf]; omega
    obtain ⟨q, rfl⟩ := Int.eq_ofNat_of_zero_le hP0
    have p0 : decide ((0 : Int) ≤ (q : Int)) = true := decide_eq_true hP0
    have hql : q < l.length := by
      have h1 := (HOK.out.ok.nd i hil).par
      have h2 := HX.out.2
      rw [← h2] at h1
      have h3 := HP.out
      omega
    have hqq : (q : Int) < (l.length : Int) := by omega
    have p1 : decide ((q : Int) < (l.length : Int)) = true := decide_eq_true hqq
    obtain ⟨b, hb⟩ : ∃ b, b = (bey[q]?).getD false := ⟨_, rfl⟩
    have yq : wr.cell? ⟨gb, q, none⟩ = some (.bool b) := HBY.out.get q (by
      have hib : q < bey.length := by rw [HK.out.lb]; exact hql
      rw [hb, List.getElem?_toArray, blsC, List.getElem?_map, List.getElem?_eq_getElem hib]; rfl)
    have HBQ := Lib.hid hb
    clear hb
    cases b
    rotate_left
    · go_upto_region 11 with (fail)
      go_quiet (fail)
      go_wp2_with fail
      go_roundw
      case rel => exact ⟨i + 1, by omega, by go_num, Lib.hid (below_dr (H.out.alloc H.out.size _) _)⟩
      case measure => simp [intOf]; omega
    by_cases h3 : nx.s.kind = 3
    · have q1 : (nx.s.kind == 3) = true := beq_iff_eq.2 h3
      have q2 : (nx.s.kind != 3) = false := by rw [bne, q1]; rfl
      clear h3
      go_upto_region 11 with (fail)
      go_quiet (fail)
      go_wp2_with fail
      go_roundw
      case rel => exact ⟨i + 1, by omega, by go_num, Lib.hid (below_dr (H.out.alloc H.out.size _) _)⟩
      case measure => simp [intOf]; omega
    have q1 : (nx.s.kind == 3) = false := beq_eq_false_iff_ne.2 h3
    have q2 : (nx.s.kind != 3) = true := by rw [bne, q1]; rfl
    obtain ⟨y, hy⟩ : ∃ y, y = cAt out q := ⟨_, rfl⟩
    have hqo : q < out.length := by rw [HK.out.lo]; exact hql
    have j0 := HBO.out.get (q * 4) (v := .int .i64 y.least) (HHO.out q y hqo hy 0 _ (by omega) rfl)
    have j1 := HBO.out.get (q * 4 + 1) (v := .int .i64 y.greatest) (HHO.out q y hqo hy 1 _ (by omega) rfl)
    have hup := up_par HK.out HA.out HOK.out.ok.nd hil (p := q) (by rw [← HX.out.2]; exact HP.out.symm) HBQ.out.symm (by rw [← HX.out.2]; exact h3)
    rw [← HX.out.1, ← hy] at hup
    have g1 : decide (y.least < x.ol) = false := decide_eq_false (by omega)
    have g2 : decide (y.greatest < x.og) = false := decide_eq_false (by omega)
    clear h3 hup hy
    go_upto_region 11 with (fail)
    go_quiet (fail)
    go_wp2_with fail
    go_roundw
    case rel => exact ⟨i + 1, by omega, by go_num, Lib.hid (below_dr (H.out.alloc H.out.size _) _)⟩
    case measure => simp [intOf]; omega
end
end Go.Proofs.Ytenpjdpkilbhkaa
