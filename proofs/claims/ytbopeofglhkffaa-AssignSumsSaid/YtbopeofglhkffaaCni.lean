/- make and copy of contents. -/
import Derived.Test.YtbopeofglhkffaaCng
import Derived.Laws.CopyRow
set_option linter.unusedSimpArgs false
set_option linter.unusedVariables false
namespace Go.Proofs.Ytbopeofglhkffaa
open Go.RowKit
attribute [local go_sem] block_of_add
def wantL (l : List Nd) (adv : List Int) (s : Sty) (kids : List Int) (all : List Cn) : Int × Int × Bool :=
  if s.kind = 2 then (if s.wrap then mostF (all.map Cn.ol) else (all.map Cn.ol).sum, (all.map Cn.og).sum, false)
  else if linesK l kids then let g := gatherF l adv kids; ((extF g.1).1, (extF g.1).2.1, g.2.2 || (extF g.1).2.2)
  else (mostF (all.map Cn.ol), max (mostF (flowF l kids (all.map Cn.og))) (sideF l kids (all.map Cn.og)).sum, false)
theorem wantF_L (l : List Nd) (adv : List Int) (s : Sty) (kids : List Int) (got : List Cn) : wantF l adv s kids got = wantL l adv s kids (allF got kids.length) := rfl
theorem WanI.sz {w wr : World} {v9 v10 : Value} {L G : List Int} {bt bs bk : Array Value} (h : WanI w wr v9 v10 L G bt bs bk) : w.heap.size + 1 + 1 + 1 + 1 + 1 ≤ wr.heap.size := h.c10.lt
structure WantAns (R : Int × Int × Bool) (w w' : World) (e : Ending) : Prop where
  ex : ∃ (F : FuncId) (caps : Array Value), e = .returned (.func (.func F) #[] caps) ∧ (∀ args W, (callFunc F args).run Try.prog W = .ok (.enter F args) W) ∧ ∀ W', Below w'.heap.size w' W' → Calls Try.prog F caps W' fun e w'' => PairAns R W' w'' e
  b : Below w.heap.size w w'
theorem WanI.two {w wr W' : World} {v9 v10 : Value} {L G : List Int} {bt bs bk : Array Value} (h : WanI w wr v9 v10 L G bt bs bk) (hb : Below wr.heap.size wr W') : TwoS (w.heap.size + 1 + 1 + 1) (w.heap.size + 1 + 1 + 1 + 1) v9 v10 W' ∧ SlAt W' W'.heap.size v9 L ∧ SlAt W' W'.heap.size v10 G :=
  ⟨⟨Nat.lt_of_lt_of_le h.c9.lt hb.size, Nat.lt_of_lt_of_le h.c10.lt hb.size, (hb.cell (p := ⟨w.heap.size + 1 + 1 + 1, 0, none⟩) h.c9.lt).trans h.c9.c1, (hb.cell (p := ⟨w.heap.size + 1 + 1 + 1 + 1, 0, none⟩) h.c10.lt).trans h.c10.c1⟩, ((SlAt.own h.o9).below hb).more hb.size, ((SlAt.own h.o10).below hb).more hb.size⟩
section
variable (l : List Nd) (adv ks : List Int) (s : Sty) (al : List Cn) (A A2 Ak Aa : Option Addr) (c c2 ck ca : Nat) (view : Int) (w : World)
set_option maxRecDepth 100000 in
set_option maxHeartbeats 1000000 in
theorem wanted_any (ht : TrH w w.heap.size A A2 l adv) (hk : Reads w w.heap.size 1 Ak ks.length (i64s ks)) (hks : ∀ k ∈ ks, 0 ≤ k ∧ k < l.length) (hkn : ks.length ≤ 100000) (hun : linesK l ks = true → unK l ks ≤ 1000000)
    (ha : Reads w w.heap.size 4 Aa al.length (cnsCells al)) (hal : al.length = ks.length) (hac : ∀ x ∈ al, (0 ≤ x.ol ∧ x.ol ≤ 4611686018427387904) ∧ (0 ≤ x.og ∧ x.og ≤ 4611686018427387904)) :
    Calls Try.prog 47 #[.agg #[.slice A l.length c, .slice A2 adv.length c2, .int .i64 view], .agg (styCells s).toArray, .slice Ak ks.length ck, .slice Aa al.length ca] w fun e w' => WantAns (wantL l adv s ks al) w w' e := by
  have HT := Lib.hid ht
  have HK := Lib.hid hk
  have HKS := Lib.hid hks
  have HKN := Lib.hid hkn
  have HUN := Lib.hid hun
  have HA := Lib.hid ha
  have HAL := Lib.hid hal
  have hal9 : al.length ≤ 100000 := by omega
  have HO := Lib.hid (show Ok62 (al.map Cn.ol) ∧ Ok62 (al.map Cn.og) from ⟨⟨fun x hx => by obtain ⟨y, hy, rfl⟩ := List.mem_map.1 hx; exact (hac y hy).1, by rw [List.length_map]; omega⟩, ⟨fun x hx => by obtain ⟨y, hy, rfl⟩ := List.mem_map.1 hx; exact (hac y hy).2, by rw [List.length_map]; omega⟩⟩)
  have hIz : ∀ w : World, WanI w (((((w.alloc (.cells #[.slice A l.length c, .slice A2 adv.length c2, .int .i64 view] 25)).alloc (.cells (styCells s).toArray 52)).alloc (.cells #[.slice Ak ks.length ck] 36)).alloc (.cells #[.slice none 0 0] 23)).alloc (.cells #[.slice none 0 0] 23)) (.slice none 0 0) (.slice none 0 0) [] [] #[.slice A l.length c, .slice A2 adv.length c2, .int .i64 view] (styCells s).toArray #[.slice Ak ks.length ck] := fun w =>
    ⟨⟨rfl, .inl ⟨rfl, rfl⟩⟩, ⟨rfl, .inl ⟨rfl, rfl⟩⟩, .inl rfl, .inl rfl, (Blk.at_ _ _ _ (by simp)).alloc _, Blk.at_ _ _ _ (by simp), ((((Blk.new _ _ _).alloc _).alloc _).alloc _).alloc _, (((Blk.at_ _ _ _ (by simp)).alloc _).alloc _).alloc _, ((Blk.at_ _ _ _ (by simp)).alloc _).alloc _,
      (((((Below.refl _ _).alloc (Nat.le_refl _) _).alloc (by simp) _).alloc (by simp; omega) _).alloc (by simp; omega) _).alloc (by simp; omega) _⟩
  have HI0 := Lib.hid (hIz w)
  clear ht hk hks hkn hun ha hac hal hIz
  go_enter Try.func47, Try.ntmps47
  go_wp2_with fail
  go_loopw [12, 15] (fun v12 iv wr => ∃ k : Nat, k ≤ al.length ∧ iv = .int .i64 k ∧ Hid (∃ v9 v10, WanI w wr v9 v10 ((al.take k).map Cn.ol) ((al.take k).map Cn.og) #[.slice A l.length c, .slice A2 adv.length c2, .int .i64 view] (styCells s).toArray #[.slice Ak ks.length ck])) (fun _ iv _ => al.length - (intOf iv).toNat)
  case atStart => exact ⟨0, by omega, rfl, Lib.hid ⟨_, _, HI0.out⟩⟩
  case round =>
    obtain ⟨k, hk, rfl, H⟩ := hrel
    obtain ⟨v9, v10, hv⟩ := H.out
    have HV := Lib.hid hv
    clear hv H
    have hwk : IntKind.i64.wrap ((k : Int) + 1) = (k : Int) + 1 := IntWalk.i64_in _ ⟨by omega, by omega⟩
    have hz := HV.out.sz
    by_cases hlt : k < al.length
    · have d0 : decide ((k : Int) < (al.length : Int)) = true := decide_eq_true (by omega)
      have d0' : decide (k < al.length) = true := decide_eq_true hlt
      obtain ⟨ad, hA, hab, x0, x1, x2, x3⟩ := (HA.out.below HV.out.b).cn rfl hlt
      subst hA
      obtain ⟨x, hx⟩ : ∃ x, x = al[k] := ⟨_, rfl⟩
      rw [← hx] at x0 x1 x2 x3
      have HSU : Hid ((al.take (k + 1)).map Cn.ol = (al.take k).map Cn.ol ++ [x.ol] ∧ (al.take (k + 1)).map Cn.og = (al.take k).map Cn.og ++ [x.og]) := Lib.hid (by rw [List.take_add_one, List.getElem?_eq_getElem hlt, List.map_append, List.map_append, hx]; exact ⟨rfl, rfl⟩)
      obtain ⟨L, hL⟩ : ∃ L, L = (al.take k).map Cn.ol := ⟨_, rfl⟩
      obtain ⟨G, hG⟩ : ∃ G, G = (al.take k).map Cn.og := ⟨_, rfl⟩
      have hLn : L.length + 1 ≤ 4294967296 := by rw [hL, List.length_map, List.length_take]; omega
      have hGn : G.length + 1 ≤ 4294967296 := by rw [hG, List.length_map, List.length_take]; omega
      rw [← hL, ← hG] at HV HSU
      obtain ⟨A9, c9, h9⟩ := own_form HV.out.o9
      obtain ⟨A10, c10, h10⟩ := own_form HV.out.o10
      rw [h9, h10] at HV
      have b9 := HV.out.c9.c1
      have b10 := HV.out.c10.c1
      have q3 : w.heap.size + 1 + 1 + 1 < wr.heap.size := by omega
      have q4 : w.heap.size + 1 + 1 + 1 + 1 < wr.heap.size := by omega
      have q5 : ¬ wr.heap.size = w.heap.size + 1 + 1 + 1 := by omega
      have q6 : ¬ wr.heap.size = w.heap.size + 1 + 1 + 1 + 1 := by omega
      have q7 : ¬ w.heap.size + 1 + 1 + 1 = wr.heap.size := by omega
      have q8 : ¬ w.heap.size + 1 + 1 + 1 + 1 = wr.heap.size := by omega
      have HW1 := Lib.hid (HV.out.kept ((Below.refl wr.heap.size wr).alloc (Nat.le_refl _) (.cells #[.int .i64 x.least, .int .i64 x.greatest, .int .i64 x.ol, .int .i64 x.og] 45)))
      have HBX := Lib.hid (Blk.new wr 45 #[.int .i64 x.least, .int .i64 x.greatest, .int .i64 x.ol, .int .i64 x.og])
      have HSZ1 := Lib.hid HW1.out.sz
      have HGZ : Hid (wr.heap.size + 1 = (wr.alloc (.cells #[.int .i64 x.least, .int .i64 x.greatest, .int .i64 x.ol, .int .i64 x.og] 45)).heap.size) := Lib.hid (by simp)
      clear hx hL hG h9 h10 hab
      go_wp2_with (first
        | (at_builtin; refine wpList_appG (m := 1) rfl _ _ rfl el_i64c HW1.out.o9 HSZ1.out rfl [.int .i64 x.ol] rfl HGZ.out rfl (by simp [Value.oneCell']) hLn (by omega) ?_; intro A6 c6 w6 hown6 hB6 hg6 hob6; have hm6 := HW1.out.mid9 hg6; have v6 := hm6.1.c1; have f6 := hm6.1.frozen 0; have v6b := hm6.2.c1; have hb6 := (grown_far HV.out.o9 hg6 HBX.out (Nat.le_refl _)).c4; have s6 : (wr.alloc (.cells #[.int .i64 x.least, .int .i64 x.greatest, .int .i64 x.ol, .int .i64 x.og] 45)).heap.size ≤ w6.heap.size := hg6.size; have HW4 := Lib.hid (HW1.out.step9 hown6 hg6 hob6); have HSZ4 := Lib.hid HW4.out.sz; clear hown6 hB6 hg6 hob6 hm6)
        | (at_builtin; refine wpList_appG (m := 1) rfl _ _ rfl el_i64c HW4.out.o10 HSZ4.out rfl [.int .i64 x.og] rfl (by simp [World.setCell]) rfl (by simp [Value.oneCell']) hGn (by omega) ?_; intro A7 c7 w7 hown7 hB7 hg7 hob7; have hm7 := HW4.out.mid10 hg7; have v7 := hm7.2.c1; have f7 := hm7.2.frozen 0; have HW7 := Lib.hid (HW4.out.step10 hown7 hg7 hob7); clear hown7 hB7 hg7 hob7 hm7))
      go_roundw
      case rel => exact ⟨k + 1, by omega, by go_num, Lib.hid (by rw [HSU.out.1, HSU.out.2]; exact ⟨_, _, HW7.out⟩)⟩
      case measure => simp [intOf]; omega
    · have d0 : decide ((k : Int) < (al.length : Int)) = false := decide_eq_false (by omega)
      have d0' : decide (k < al.length) = false := decide_eq_false hlt
      rw [List.take_of_length_le (by omega : al.length ≤ k)] at HV
      obtain ⟨L, hL⟩ : ∃ L, L = al.map Cn.ol := ⟨_, rfl⟩
      obtain ⟨G, hG⟩ : ∃ G, G = al.map Cn.og := ⟨_, rfl⟩
      rw [← hL, ← hG] at HV HO
      have HR : Hid (wantL l adv s ks al = if s.kind = 2 then (if s.wrap then mostF L else L.sum, G.sum, false)
        else if linesK l ks then ((extF (gatherF l adv ks).1).1, (extF (gatherF l adv ks).1).2.1, (gatherF l adv ks).2.2 || (extF (gatherF l adv ks).1).2.2) else (mostF L, max (mostF (flowF l ks G)) (sideF l ks G).sum, false)) := Lib.hid (by rw [hL, hG]; rfl)
      have HGL := Lib.hid (show G.length = ks.length by rw [hG, List.length_map]; exact HAL.out)
      clear hL hG
      have y0 := HV.out.s.get _ (sty_a0 s)
      have y34 := HV.out.s.get _ (sty_a34 s)
      by_cases h2 : s.kind = 2
      · have e2 : (s.kind == 2) = true := beq_iff_eq.2 h2
        have H2 := Lib.hid h2
        clear h2
        cases hw : s.wrap
        · rw [hw] at y34
          have HWR : Hid (s.wrap = false) := Lib.hid hw
          clear hw
          go_wp2_with fail
          go_ret
          refine ⟨⟨70, _, rfl, fun _ _ => by kernel_rfl, fun W' hb => ?_⟩, HV.out.b⟩
          have h := HV.out.two hb
          rw [HR.out, if_pos H2.out, HWR.out]
          exact clos2_any _ _ v9 v10 L G W' h.1 h.2.1 h.2.2 HO.out.1 HO.out.2
        · rw [hw] at y34
          have HWR : Hid (s.wrap = true) := Lib.hid hw
          clear hw
          go_wp2_with fail
          go_ret
          refine ⟨⟨68, _, rfl, fun _ _ => by kernel_rfl, fun W' hb => ?_⟩, HV.out.b⟩
          have h := HV.out.two hb
          rw [HR.out, if_pos H2.out, HWR.out]
          exact clos1_any _ _ v9 v10 L G W' h.1 h.2.1 h.2.2 HO.out.1 HO.out.2
      have e2 : (s.kind == 2) = false := beq_eq_false_iff_ne.2 h2
      have H2 := Lib.hid h2
      clear h2
      have HE4 : Hid (∀ W', Below wr.heap.size wr W' → ¬ linesK l ks = true → Calls Try.prog 75 #[.pointer (some ⟨w.heap.size + 1 + 1 + 1 + 1, 0, none⟩), .pointer (some ⟨w.heap.size, 0, none⟩), .pointer (some ⟨w.heap.size + 1 + 1, 0, none⟩), .pointer (some ⟨w.heap.size + 1 + 1 + 1, 0, none⟩)] W' fun e w'' => PairAns (wantL l adv s ks al) W' w'' e) := Lib.hid (fun W' hb hl => by
        have h := HV.out.two hb
        have hbb := HV.out.b.trans (hb.mono HV.out.b.size)
        rw [HR.out, if_neg H2.out, if_neg hl]
        exact clos4_any l adv ks A A2 Ak c c2 ck _ _ _ _ view v9 v10 L G W' ((HT.out.below hbb).more hbb.size) ((HK.out.below hbb).more hbb.size) HKS.out HGL.out (HV.out.t.below hb HV.out.t.lt) (HV.out.k.below hb HV.out.k.lt) h.1 h.2.1 h.2.2 HO.out.1 HO.out.2)
      have bt := HV.out.t.c3
      have bk := HV.out.k.c1
      by_cases h0 : ks.length = 0
      · have z0 : decide (0 < ks.length) = false := decide_eq_false (by omega)
        have z0' : decide ((0 : Int) < (ks.length : Int)) = false := decide_eq_false (by omega)
        have HNL : Hid (¬ linesK l ks = true) := Lib.hid (by rw [List.eq_nil_of_length_eq_zero h0]; simp [linesK])
        clear h0
        go_upto_region 12 with (fail)
        go_quiet (fail)
        go_wp2_with fail
        go_ret
        exact ⟨⟨75, _, rfl, fun _ _ => by kernel_rfl, fun W' hb => HE4.out W' ((below_dr (Below.refl _ _) _).trans hb) HNL.out⟩, below_dr HV.out.b _⟩
      have z0 : decide (0 < ks.length) = true := decide_eq_true (by omega)
      have z0' : decide ((0 : Int) < (ks.length : Int)) = true := decide_eq_true (by omega)
      have hj0 : 0 < ks.length := by omega
      obtain ⟨hk0, hk1⟩ := HKS.out ks[0] (List.getElem_mem hj0)
      obtain ⟨q, hq⟩ := Int.eq_ofNat_of_zero_le hk0
      have hql : q < l.length := by omega
      obtain ⟨adk, u, hAk, hab, hx, hck⟩ := (HK.out.below HV.out.b).at_ hj0
      subst hAk
      have hu : u = .int .i64 (q : Int) := by rw [← hq]; simpa [i64s, hj0] using hx.symm
      subst hu
      have HC4 : Hid (C4S (w.heap.size) (w.heap.size + 1 + 1) 0 l.length c adv.length c2 ks.length ck A A2 view adk q wr) := Lib.hid ⟨HV.out.t.lt, HV.out.k.lt, Nat.lt_of_lt_of_le hab HV.out.b.size, bt.1, bt.2.1, bt.2.2, bk, hck⟩
      obtain ⟨sq, hsq⟩ : ∃ sq, sq = l[q].s := ⟨_, rfl⟩
      have HLK : Hid (linesK l ks = (sq.kind == 3)) := Lib.hid (by
        rw [hsq]
        cases hks : ks with
        | nil => rw [hks] at hj0; simp at hj0
        | cons a t =>
          have ha : a = (q : Int) := by rw [← hq]; simp [hks]
          show (kindAt l a == 3) = _
          rw [ha]; unfold kindAt; rw [styAt_nat hql]; rfl)
      have HSE := Lib.hid hsq
      have HB3 : Hid (Blk wr (w.heap.size) 25 #[.slice A l.length c, .slice A2 adv.length c2, .int .i64 view] ∧ Blk wr (w.heap.size + 1 + 1) 36 #[.slice (some adk) ks.length ck]) := Lib.hid ⟨HV.out.t, HV.out.k⟩
      clear hk0 hk1 hx hab hck hq hsq h0 bk
      go_upto_region 12 with (fail)
      refine wp_region_held_drew (S := C4S (w.heap.size) (w.heap.size + 1 + 1) 0 l.length c adv.length c2 ks.length ck A A2 view adk q) (by kernel_rfl) (HC4.out.below (Below.refl _ _).drew) (fun hS => ?_)
      refine wpAnyH_take (i := 0) (v := ?_) rfl (by kernel_rfl) (by kernel_rfl) (by kernel_rfl) (fun _ _ _ h => h) (Or.inl ⟨by rfl, ?_⟩) hS ?_
      rotate_left
      · rintro W' ⟨l4', l6', la', c0', c1', c2', c6', ck'⟩
        have ck2 : W'.cell? adk = some (.int .i64 (q : Int)) := by simpa [Addr.add] using ck'
        go_simp
        rfl
      try simp only [Act.put, List.setIfInBounds_toArray, List.set_cons_zero, List.set_cons_succ, List.getElem_toArray, List.getElem_cons_zero, List.getElem_cons_succ]
      refine wpAnyH_take (i := 1) (v := ?_) rfl (by kernel_rfl) (by kernel_rfl) (by kernel_rfl) (fun _ _ _ h => h) (Or.inl ⟨by rfl, ?_⟩) hS ?_
      rotate_left
      · rintro W' ⟨l4', l6', la', c0', c1', c2', c6', ck'⟩
        have ck2 : W'.cell? adk = some (.int .i64 (q : Int)) := by simpa [Addr.add] using ck'
        go_simp
        rfl
      try simp only [Act.put, List.setIfInBounds_toArray, List.set_cons_zero, List.set_cons_succ, List.getElem_toArray, List.getElem_cons_zero, List.getElem_cons_succ]
      refine wpAnyH_take (i := 2) (v := ?_) rfl (by kernel_rfl) (by kernel_rfl) (by kernel_rfl) (fun _ _ _ h => h) (Or.inl ⟨by rfl, ?_⟩) hS ?_
      rotate_left
      · rintro W' ⟨l4', l6', la', c0', c1', c2', c6', ck'⟩
        have ck2 : W'.cell? adk = some (.int .i64 (q : Int)) := by simpa [Addr.add] using ck'
        go_simp
        rfl
      try simp only [Act.put, List.setIfInBounds_toArray, List.set_cons_zero, List.set_cons_succ, List.getElem_toArray, List.getElem_cons_zero, List.getElem_cons_succ]
      refine wpAnyH_take (i := 3) (v := ?_) rfl (by kernel_rfl) (by kernel_rfl) (by kernel_rfl) (fun _ _ _ h => h) (Or.inl ⟨by rfl, ?_⟩) hS ?_
      rotate_left
      · rintro W' ⟨l4', l6', la', c0', c1', c2', c6', ck'⟩
        have ck2 : W'.cell? adk = some (.int .i64 (q : Int)) := by simpa [Addr.add] using ck'
        go_simp
        rfl
      try simp only [Act.put, List.setIfInBounds_toArray, List.set_cons_zero, List.set_cons_succ, List.getElem_toArray, List.getElem_cons_zero, List.getElem_cons_succ]
      refine wpAnyH_take (i := 4) (v := ?_) rfl (by kernel_rfl) (by kernel_rfl) (by kernel_rfl) (fun _ _ _ h => h) (Or.inl ⟨by rfl, ?_⟩) hS ?_
      rotate_left
      · rintro W' ⟨l4', l6', la', c0', c1', c2', c6', ck'⟩
        have ck2 : W'.cell? adk = some (.int .i64 (q : Int)) := by simpa [Addr.add] using ck'
        go_simp
        rfl
      try simp only [Act.put, List.setIfInBounds_toArray, List.set_cons_zero, List.set_cons_succ, List.getElem_toArray, List.getElem_cons_zero, List.getElem_cons_succ]
      refine wpAnyH_take (i := 5) (v := ?_) rfl (by kernel_rfl) (by kernel_rfl) (by kernel_rfl) (fun _ _ _ h => h) (Or.inl ⟨by rfl, ?_⟩) hS ?_
      rotate_left
      · rintro W' ⟨l4', l6', la', c0', c1', c2', c6', ck'⟩
        have ck2 : W'.cell? adk = some (.int .i64 (q : Int)) := by simpa [Addr.add] using ck'
        go_simp
        rfl
      try simp only [Act.put, List.setIfInBounds_toArray, List.set_cons_zero, List.set_cons_succ, List.getElem_toArray, List.getElem_cons_zero, List.getElem_cons_succ]
      refine wpAnyH_take (i := 6) (v := ?_) rfl (by kernel_rfl) (by kernel_rfl) (by kernel_rfl) (fun _ _ _ h => h) (Or.inl ⟨by rfl, ?_⟩) hS ?_
      rotate_left
      · rintro W' ⟨l4', l6', la', c0', c1', c2', c6', ck'⟩
        have ck2 : W'.cell? adk = some (.int .i64 (q : Int)) := by simpa [Addr.add] using ck'
        go_simp
        rfl
      try simp only [Act.put, List.setIfInBounds_toArray, List.set_cons_zero, List.set_cons_succ, List.getElem_toArray, List.getElem_cons_zero, List.getElem_cons_succ]
      refine wpAnyH_take (i := 7) (v := ?_) rfl (by kernel_rfl) (by kernel_rfl) (by kernel_rfl) (fun _ _ _ h => h) (Or.inl ⟨by rfl, ?_⟩) hS ?_
      rotate_left
      · rintro W' ⟨l4', l6', la', c0', c1', c2', c6', ck'⟩
        have ck2 : W'.cell? adk = some (.int .i64 (q : Int)) := by simpa [Addr.add] using ck'
        go_simp
        rfl
      try simp only [Act.put, List.setIfInBounds_toArray, List.set_cons_zero, List.set_cons_succ, List.getElem_toArray, List.getElem_cons_zero, List.getElem_cons_succ]
      refine wpAnyH_ready (rs := [8]) (by kernel_rfl) (by simp) (AllReadyH.cons rfl (fun K hK => ?_) AllReadyH.nil)
      go_simp
      refine (style_any l adv A A2 c adv.length c2 view _ q hql (HT.out.below (HV.out.b.trans (Below.refl _ _).drew) |>.more HV.out.b.size)).mono ?_
      rintro e w2 ⟨rfl, hb2⟩
      rw [← HSE.out]
      refine hK.out _ _ (hS.below hb2) (fun hS => ?_)
      try simp only [Act.put, List.setIfInBounds_toArray, List.set_cons_zero, List.set_cons_succ, List.getElem_toArray, List.getElem_cons_zero, List.getElem_cons_succ]
      clear hK
      refine wpAnyH_take (i := 9) (v := ?_) rfl (by kernel_rfl) (by kernel_rfl) (by kernel_rfl) (fun _ _ _ h => h) (Or.inl ⟨by rfl, ?_⟩) hS ?_
      rotate_left
      · rintro W' ⟨l4', l6', la', c0', c1', c2', c6', ck'⟩
        have ck2 : W'.cell? adk = some (.int .i64 (q : Int)) := by simpa [Addr.add] using ck'
        go_simp
        rfl
      try simp only [Act.put, List.setIfInBounds_toArray, List.set_cons_zero, List.set_cons_succ, List.getElem_toArray, List.getElem_cons_zero, List.getElem_cons_succ]
      refine wpAnyH_take (i := 10) (v := ?_) rfl (by kernel_rfl) (by kernel_rfl) (by kernel_rfl) (fun _ _ _ h => h) (Or.inl ⟨by rfl, ?_⟩) hS ?_
      rotate_left
      · rintro W' ⟨l4', l6', la', c0', c1', c2', c6', ck'⟩
        have ck2 : W'.cell? adk = some (.int .i64 (q : Int)) := by simpa [Addr.add] using ck'
        go_simp
        rfl
      try simp only [Act.put, List.setIfInBounds_toArray, List.set_cons_zero, List.set_cons_succ, List.getElem_toArray, List.getElem_cons_zero, List.getElem_cons_succ]
      refine wpAnyH_take (i := 11) (v := ?_) rfl (by kernel_rfl) (by kernel_rfl) (by kernel_rfl) (fun _ _ _ h => h) (Or.inl ⟨by rfl, ?_⟩) hS ?_
      rotate_left
      · rintro W' ⟨l4', l6', la', c0', c1', c2', c6', ck'⟩
        have ck2 : W'.cell? adk = some (.int .i64 (q : Int)) := by simpa [Addr.add] using ck'
        go_simp
        rfl
      try simp only [Act.put, List.setIfInBounds_toArray, List.set_cons_zero, List.set_cons_succ, List.getElem_toArray, List.getElem_cons_zero, List.getElem_cons_succ]
      refine wpAnyH_take (i := 12) (v := ?_) rfl (by kernel_rfl) (by kernel_rfl) (by kernel_rfl) (fun _ _ _ h => h) (Or.inl ⟨by rfl, ?_⟩) hS ?_
      rotate_left
      · rintro W' ⟨l4', l6', la', c0', c1', c2', c6', ck'⟩
        have ck2 : W'.cell? adk = some (.int .i64 (q : Int)) := by simpa [Addr.add] using ck'
        go_simp
        rfl
      try simp only [Act.put, List.setIfInBounds_toArray, List.set_cons_zero, List.set_cons_succ, List.getElem_toArray, List.getElem_cons_zero, List.getElem_cons_succ]
      refine wpAnyH_done (by kernel_rfl) ?_ _
      clear hS
      have HB2 := Lib.hid ((Below.refl wr.heap.size wr).drew.trans hb2)
      clear hb2
      by_cases hf : sq.kind = 3
      · have f0 : (sq.kind == 3) = true := beq_iff_eq.2 hf
        have HLT := Lib.hid (HLK.out.trans f0)
        clear hf
        go_wp2_with fail
        go_ret
        refine ⟨⟨72, _, rfl, fun _ _ => by kernel_rfl, fun W' hb => ?_⟩, HV.out.b.trans (HB2.out.mono HV.out.b.size)⟩
        have hb3 := HB2.out.trans (hb.mono HB2.out.size)
        have hbb := HV.out.b.trans (hb3.mono HV.out.b.size)
        rw [HR.out, if_neg H2.out, if_pos HLT.out]
        exact clos3_any l adv ks A A2 _ c c2 ck _ _ view W' ((HT.out.below hbb).more hbb.size) ((HK.out.below hbb).more hbb.size) HKS.out (by have := HKN.out; omega) (HUN.out HLT.out) (HB3.out.1.below hb3 HB3.out.1.lt) (HB3.out.2.below hb3 HB3.out.2.lt)
      · have f0 : (sq.kind == 3) = false := beq_eq_false_iff_ne.2 hf
        have HLT := Lib.hid (show ¬ linesK l ks = true by rw [HLK.out, f0]; simp)
        clear hf
        go_wp2_with fail
        go_ret
        exact ⟨⟨75, _, rfl, fun _ _ => by kernel_rfl, fun W' hb => HE4.out W' (HB2.out.trans (hb.mono HB2.out.size)) HLT.out⟩, HV.out.b.trans (HB2.out.mono HV.out.b.size)⟩
end
end Go.Proofs.Ytbopeofglhkffaa
set_option linter.unusedSimpArgs false
set_option linter.unusedVariables false
namespace Go.Proofs.Ytbopeofglhkffaa
open Go.RowKit
end Go.Proofs.Ytbopeofglhkffaa
