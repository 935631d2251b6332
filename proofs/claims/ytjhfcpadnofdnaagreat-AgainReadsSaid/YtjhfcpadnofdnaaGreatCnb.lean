/- Contracts: content.outer. -/
import Derived.Test.YtjhfcpadnofdnaaGreatCop
import Derived.Test.YtjhfcpadnofdnaaGreatCna
import Derived.Deep.DeepCutAuto
import Derived.Deep.CutRange
set_option linter.unusedSimpArgs false
set_option linter.unusedVariables false
namespace Go.Proofs.YtjhfcpadnofdnaaGreat
open Go.RowKit
attribute [local go_sem] block_of_add
/-- A slice of numbers that can be read. -/
def SlAt (w : World) (B : Nat) (v : Value) (l : List Int) : Prop := ∃ A c, v = .slice A l.length c ∧ (A = none → c = 0) ∧ l.length ≤ c ∧ Reads w B 1 A l.length (i64s l) ∧ ∀ g, v.ownBlock = some g → g < B ∧ ∃ cs, Blk w g 2 cs
theorem SlAt.below {w w' : World} {B : Nat} {v : Value} {l : List Int} (h : SlAt w B v l) (hb : Below B w w') : SlAt w' B v l := by
  obtain ⟨A, c, h1, h2, h3, h4, h5⟩ := h
  exact ⟨A, c, h1, h2, h3, h4.below hb, fun g hg => ⟨(h5 g hg).1, by obtain ⟨h6, cs, h7⟩ := h5 g hg; exact ⟨cs, h7.below hb h6⟩⟩⟩
theorem SlAt.more {w : World} {B B' : Nat} {v : Value} {l : List Int} (h : SlAt w B v l) (hb : B ≤ B') : SlAt w B' v l := by
  obtain ⟨A, c, h1, h2, h3, h4, h5⟩ := h
  exact ⟨A, c, h1, h2, h3, h4.more hb, fun g hg => ⟨Nat.lt_of_lt_of_le (h5 g hg).1 hb, (h5 g hg).2⟩⟩
theorem SlAt.own {w : World} {base : Nat} {v : Value} {l : List Int} (h : w.ownsRow base 2 1 v l.length (i64s l)) : SlAt w w.heap.size v l := by
  obtain ⟨A, c, rfl⟩ := own_form h
  refine ⟨A, c, rfl, fun e => ?_, own_cap h, Reads.of_own h, fun g hg => ⟨(h.lt g hg).2, ?_⟩⟩
  · rcases h.2 with ⟨h1, _⟩ | ⟨g, cap, cur, h1, _⟩
    · injection h1
    · injection h1 with h1; rw [e] at h1; cases h1
  · rcases h.2 with ⟨h1, _⟩ | ⟨g', cap, cur, h1, _, h2, _⟩
    · rw [h1] at hg; simp [Value.ownBlock] at hg
    · rw [h1] at hg
      have : g' = g := by simpa [Value.ownBlock] using hg
      subst this
      exact ⟨cur, h2⟩
theorem SlAt.one (w : World) (n : Int) : SlAt (w.alloc (.cells #[.int .i64 n] 2)) (w.heap.size + 1) (.slice (some ⟨w.heap.size, 0, none⟩) 1 1) [n] := by
  have h : (w.alloc (.cells #[.int .i64 n] 2)).ownsRow w.heap.size 2 1 (.slice (some ⟨w.heap.size, 0, none⟩) 1 1) 1 [.int .i64 n] :=
    ⟨rfl, .inr ⟨w.heap.size, 1, #[.int .i64 n], rfl, Nat.le_refl _, Blk.new _ _ _, Nat.le_refl _, by decide, rfl, rfl⟩⟩
  have := SlAt.own (l := [n]) h
  rw [show (w.alloc (.cells #[.int .i64 n] 2)).heap.size = w.heap.size + 1 by simp] at this
  exact this
/-- A store into a block of another type. -/
theorem SlAt.set_ {w : World} {B g : Nat} {v : Value} {l : List Int} {t : TypeId} {cs : Array Value} (h : SlAt w B v l) (hb : Blk w g t cs) (ht : t ≠ 2) (i : Nat) (u : Value) : SlAt (w.setCell ⟨g, i, none⟩ u) B v l := by
  obtain ⟨A, c, h1, h2, h3, h4, h5⟩ := h
  have hne : ∀ g', v.ownBlock = some g' → g' ≠ g := fun g' hg' => by
    obtain ⟨_, cs', h7⟩ := h5 g' hg'
    exact Blk.ne_ h7 hb (fun e => ht e.symm)
  refine ⟨A, c, h1, h2, h3, ⟨h4.1, fun h0 => ?_⟩, fun g' hg' => ⟨(h5 g' hg').1, ?_⟩⟩
  · obtain ⟨ad, e, hlt, hc⟩ := h4.2 h0
    refine ⟨ad, e, hlt, fun j x hx => (World.cell?_of_block ?_).trans (hc j x hx)⟩
    refine Below.heap_setCell w _ u _ ?_
    rw [block_of_add]
    exact hne ad.block (by rw [h1, e]; rfl)
  · obtain ⟨_, cs', h7⟩ := h5 g' hg'
    exact ⟨cs', h7.far (hne g' hg') u⟩
theorem clone_sl (l : List Int) (v : Value) (w : World) (hn : l.length ≤ 1000000) (hv : SlAt w w.heap.size v l) :
    Calls Tryz.prog 215 #[v] w fun e w' => CloneAns l w w' e := by
  obtain ⟨A, c, rfl, h1, h2, h3, _⟩ := hv
  rcases A with _ | ad
  · have hc : c = 0 := h1 rfl
    have hl : l.length = 0 := by omega
    have hl2 : l = [] := List.eq_nil_of_length_eq_zero hl
    subst hl2 hc
    have hns := fun w => sl_nil w
    show Calls Tryz.prog 215 #[.slice none 0 0] w _
    clear h1 h2 h3 hl
    go_enter Tryz.func215, Tryz.ntmps215
    go_wp2_with fail
    go_ret
    exact ⟨⟨none, 0, rfl, ⟨rfl, .inl ⟨rfl, rfl⟩⟩⟩, Below.refl _ _⟩
  · exact clone_any l ad c w hn h3
theorem sum_sl (l : List Int) (v : Value) (w : World) (hl : I64s l) (hn : l.length ≤ 1000000) (hv : SlAt w w.heap.size v l) :
    Calls Tryz.prog 123 #[v] w fun e w' => e = .returned (.tuple #[.int .i64 (cutF l.sum), .bool (cutB l.sum)]) ∧ Below w.heap.size w w' := by
  obtain ⟨A, c, rfl, h1, h2, h3, _⟩ := hv
  exact sum_any l A c w hl (by omega) h3
theorem sty_rng {W : World} {g : Nat} {s : Sty} (hb : Blk W g 67 (styCells s).toArray) : W.rangeAt g 0 (styCells s) := fun j v hv => by rw [Nat.zero_add]; exact hb.get j (by simpa using hv)
/-- The margins of a style in a block. -/
structure MarS (s : Sty) (g : Nat) (W : World) : Prop where
  lt : g < W.heap.size
  c18 : W.cell? ⟨g, 18, none⟩ = some (.int .u8 s.m1.k)
  c19 : W.cell? ⟨g, 19, none⟩ = some (.int .i64 s.m1.n)
  c22 : W.cell? ⟨g, 22, none⟩ = some (.int .u8 s.m3.k)
  c23 : W.cell? ⟨g, 23, none⟩ = some (.int .i64 s.m3.n)
theorem MarS.below {s : Sty} {g : Nat} {W W' : World} (h : MarS s g W) (hb : Below W.heap.size W W') : MarS s g W' :=
  ⟨Nat.lt_of_lt_of_le h.lt hb.size, (hb.cell (p := ⟨g, 18, none⟩) h.lt).trans h.c18, (hb.cell (p := ⟨g, 19, none⟩) h.lt).trans h.c19, (hb.cell (p := ⟨g, 22, none⟩) h.lt).trans h.c22, (hb.cell (p := ⟨g, 23, none⟩) h.lt).trans h.c23⟩
theorem MarS.at_ {s : Sty} {g B : Nat} {W W' : World} (h : MarS s g W) (hb : Below B W W') (hB : g < B) : MarS s g W' :=
  ⟨Nat.lt_of_lt_of_le h.lt hb.size, (hb.cell (p := ⟨g, 18, none⟩) hB).trans h.c18, (hb.cell (p := ⟨g, 19, none⟩) hB).trans h.c19, (hb.cell (p := ⟨g, 22, none⟩) hB).trans h.c22, (hb.cell (p := ⟨g, 23, none⟩) hB).trans h.c23⟩
theorem MarS.mk_ {s : Sty} {g : Nat} {W : World} (h : Blk W g 67 (styCells s).toArray) : MarS s g W := ⟨h.lt, h.get _ (sty_a18 s), h.get _ (sty_a19 s), h.get _ (sty_a22 s), h.get _ (sty_a23 s)⟩
theorem SlAt.drew {w : World} {B : Nat} {v : Value} {l : List Int} (h : SlAt w B v l) : SlAt w.drew B v l := h.below (Below.refl _ _).drew
structure OutH (s : Sty) (g : Nat) (w wx : World) (v : Value) (S : Int) : Prop where
  b : Below w.heap.size w wx
  st : Blk wx g 67 (styCells s).toArray
  g : g = w.heap.size
  sl : ∃ l, SlAt wx wx.heap.size v l ∧ l.sum = S ∧ I64s l ∧ l.length ≤ 100000
set_option maxRecDepth 100000 in
set_option maxHeartbeats 1000000 in
theorem outer_any (s : Sty) (l : List Int) (v : Value) (w : World) (hs : StyB s) (hl : I64s l) (hn : l.length ≤ 100000) (hv : SlAt w w.heap.size v l) {Au : Option Addr} {nu cu : Nat} (huv : s.uv = .slice Au nu cu) :
    Calls Tryz.prog 124 #[.agg (styCells s).toArray, v] w fun e w' => e = .returned (.tuple #[.int .i64 (cutF (outP s l.sum)), .bool (cutB (outP s l.sum))]) ∧ Below w.heap.size w w' := by
  have HS := Lib.hid hs
  have HH0 : Hid (OutH s w.heap.size w (w.alloc (.cells (styCells s).toArray 67)) v l.sum) := Lib.hid ⟨(Below.refl _ _).alloc (Nat.le_refl _) _, Blk.new _ _ _, rfl, l, (hv.below ((Below.refl _ _).alloc (Nat.le_refl _) _)).more (by simp), rfl, hl, hn⟩
  have HUV := Lib.hid huv
  clear hs hl hn hv huv
  have q4 := HH0.out.st.get _ (sty_a4 s)
  have q5 := HH0.out.st.get _ (sty_a5 s)
  go_enter Tryz.func124, Tryz.ntmps124
  go_upto_if 18 with (fail)
  go_cut [1] (fun s1 wx => Hid (OutH s w.heap.size w wx s1 (out1 s l.sum)))
  case first =>
    by_cases h : s.w.k = 1
    · have e1 : (s.w.k == 1) = true := beq_iff_eq.2 h
      have HO := Lib.hid (show out1 s l.sum = s.w.n by unfold out1; rw [if_pos h])
      clear h
      go_wp2_with fail
      go_meet
      case rel => exact Lib.hid ⟨HH0.out.b.alloc (by simp) _, HH0.out.st.alloc _, rfl, [s.w.n], by have := SlAt.one (w.alloc (.cells (styCells s).toArray 67)) s.w.n; simpa using this, by rw [HO.out]; simp, fun x hx => by have := HS.out.w; simp at hx; omega, by simp⟩
    · have e1 : (s.w.k == 1) = false := beq_eq_false_iff_ne.2 h
      have HO := Lib.hid (show out1 s l.sum = l.sum by unfold out1; rw [if_neg h])
      clear h
      go_wp2_with fail
      go_meet
      case rel => exact Lib.hid (by rw [HO.out]; exact HH0.out)
  case rest =>
    have H1 := hcut
    clear hcut q4 q5
    obtain ⟨l1, hl1⟩ := H1.out.sl
    have HL1 := Lib.hid hl1
    clear hl1
    go_wp2_with fail
    refine (sum_sl l1 _ _ HL1.out.2.2.1 (by have := HL1.out.2.2.2; omega) HL1.out.1).mono ?_
    rintro e w2 ⟨rfl, hw2⟩
    have H2 : Hid (OutH s w.heap.size w w2 u1 (out1 s l.sum)) := Lib.hid ⟨H1.out.b.trans (hw2.mono H1.out.b.size), H1.out.st.below hw2 H1.out.st.lt, rfl, l1, (HL1.out.1.below hw2).more hw2.size, HL1.out.2.1, HL1.out.2.2⟩
    have hc1 : l1.sum = out1 s l.sum := HL1.out.2.1
    rw [hc1]
    obtain ⟨n1, hn1⟩ : ∃ n1, n1 = cutF (out1 s l.sum) := ⟨_, rfl⟩
    rw [← hn1]
    have HN1 := Lib.hid hn1
    clear hc1 hn1 hw2 HL1
    have q10 := H2.out.st.get _ (sty_a10 s)
    have q11 := H2.out.st.get _ (sty_a11 s)
    have hm := H2.out.b.size
    go_upto_region 4 with (fail)
    go_cut [38] (fun sx wx => ∃ b : Bool, sx = .bool b ∧ Hid (b = decide (s.maxw.k = 1 ∧ s.maxw.n ≤ n1)) ∧ w2 = wx)
    case first =>
      by_cases h : s.maxw.k = 1
      · have e1 : (s.maxw.k == 1) = true := beq_iff_eq.2 h
        cases hd : decide (s.maxw.n ≤ n1)
        · have HO := Lib.hid (show false = decide (s.maxw.k = 1 ∧ s.maxw.n ≤ n1) from (decide_eq_false (fun x => by have := of_decide_eq_false hd; omega)).symm)
          clear h
          go_wp2_with fail
          go_meet
          case rel => exact ⟨false, rfl, HO, rfl⟩
        · have HO := Lib.hid (show true = decide (s.maxw.k = 1 ∧ s.maxw.n ≤ n1) from (decide_eq_true ⟨h, of_decide_eq_true hd⟩).symm)
          clear h
          go_wp2_with fail
          go_meet
          case rel => exact ⟨true, rfl, HO, rfl⟩
      · have e1 : (s.maxw.k == 1) = false := beq_eq_false_iff_ne.2 h
        have HO := Lib.hid (show false = decide (s.maxw.k = 1 ∧ s.maxw.n ≤ n1) from (decide_eq_false (fun x => h x.1)).symm)
        clear h
        go_wp2_with fail
        go_meet
        case rel => exact ⟨false, rfl, HO, rfl⟩
    case rest =>
      obtain ⟨b, rfl, HB, rfl⟩ := hcut
      go_upto_if 38 with (fail)
      go_cut [1] (fun s1 wx => Hid (OutH s w.heap.size w wx s1 (o2P s l.sum)))
      case first =>
        cases b
        · have HO := Lib.hid (show o2P s l.sum = out1 s l.sum by unfold o2P; rw [if_neg (by have := of_decide_eq_false HB.out.symm; rw [HN1.out] at this; exact this)])
          go_wp2_with fail
          go_meet
          case rel => exact Lib.hid (by rw [HO.out]; exact H2.out)
        · have HO := Lib.hid (show o2P s l.sum = s.maxw.n by unfold o2P; rw [if_pos (by have := of_decide_eq_true HB.out.symm; rw [HN1.out] at this; exact this)])
          go_wp2_with fail
          go_meet
          case rel => exact Lib.hid ⟨H2.out.b.alloc hm _, H2.out.st.alloc _, rfl, [s.maxw.n], by have := SlAt.one w2 s.maxw.n; simpa using this, by rw [HO.out]; simp, fun x hx => by have := HS.out.maxw; simp at hx; omega, by simp⟩
      case rest =>
        have H3 := hcut
        clear hcut q10 q11 hm
        obtain ⟨l3, hl3⟩ := H3.out.sl
        have HL3 := Lib.hid hl3
        clear hl3
        go_wp2_with fail
        refine (sum_sl l3 _ _ HL3.out.2.2.1 (by have := HL3.out.2.2.2; omega) HL3.out.1).mono ?_
        rintro e w4 ⟨rfl, hw4⟩
        have H4 : Hid (OutH s w.heap.size w w4 u1 (o2P s l.sum)) := Lib.hid ⟨H3.out.b.trans (hw4.mono H3.out.b.size), H3.out.st.below hw4 H3.out.st.lt, rfl, l3, (HL3.out.1.below hw4).more hw4.size, HL3.out.2.1, HL3.out.2.2⟩
        have hc3 : l3.sum = o2P s l.sum := HL3.out.2.1
        rw [hc3]
        obtain ⟨n3, hn3⟩ : ∃ n3, n3 = cutF (o2P s l.sum) := ⟨_, rfl⟩
        rw [← hn3]
        have HN3 := Lib.hid hn3
        clear hc3 hn3 hw4 HL3
        have q8 := H4.out.st.get _ (sty_a8 s)
        have q9 := H4.out.st.get _ (sty_a9 s)
        have hm := H4.out.b.size
        go_upto_region 7 with (fail)
        go_cut [58] (fun sx wx => ∃ b : Bool, sx = .bool b ∧ Hid (b = decide (s.minw.k = 1 ∧ n3 ≤ s.minw.n)) ∧ w4 = wx)
        case first =>
          by_cases h : s.minw.k = 1
          · have e1 : (s.minw.k == 1) = true := beq_iff_eq.2 h
            cases hd : decide (n3 ≤ s.minw.n)
            · have HO := Lib.hid (show false = decide (s.minw.k = 1 ∧ n3 ≤ s.minw.n) from (decide_eq_false (fun x => by have := of_decide_eq_false hd; omega)).symm)
              clear h
              go_wp2_with fail
              go_meet
              case rel => exact ⟨false, rfl, HO, rfl⟩
            · have HO := Lib.hid (show true = decide (s.minw.k = 1 ∧ n3 ≤ s.minw.n) from (decide_eq_true ⟨h, of_decide_eq_true hd⟩).symm)
              clear h
              go_wp2_with fail
              go_meet
              case rel => exact ⟨true, rfl, HO, rfl⟩
          · have e1 : (s.minw.k == 1) = false := beq_eq_false_iff_ne.2 h
            have HO := Lib.hid (show false = decide (s.minw.k = 1 ∧ n3 ≤ s.minw.n) from (decide_eq_false (fun x => h x.1)).symm)
            clear h
            go_wp2_with fail
            go_meet
            case rel => exact ⟨false, rfl, HO, rfl⟩
        case rest =>
          obtain ⟨b, rfl, HB, rfl⟩ := hcut
          go_upto_if 58 with (fail)
          go_cut [1] (fun s1 wx => Hid (OutH s w.heap.size w wx s1 (o3P s l.sum)))
          case first =>
            cases b
            · have HO := Lib.hid (show o3P s l.sum = o2P s l.sum by unfold o3P; rw [if_neg (by have := of_decide_eq_false HB.out.symm; rw [HN3.out] at this; exact this)])
              go_wp2_with fail
              go_meet
              case rel => exact Lib.hid (by rw [HO.out]; exact H4.out)
            · have HO := Lib.hid (show o3P s l.sum = s.minw.n by unfold o3P; rw [if_pos (by have := of_decide_eq_true HB.out.symm; rw [HN3.out] at this; exact this)])
              go_wp2_with fail
              go_meet
              case rel => exact Lib.hid ⟨H4.out.b.alloc hm _, H4.out.st.alloc _, rfl, [s.minw.n], by have := SlAt.one w4 s.minw.n; simpa using this, by rw [HO.out]; simp, fun x hx => by have := HS.out.minw; simp at hx; omega, by simp⟩
          case rest =>
            have H5 := hcut
            clear hcut q8 q9 hm
            obtain ⟨l5, hl5⟩ := H5.out.sl
            have HL5 := Lib.hid hl5
            clear hl5
            have HRG := Lib.hid (sty_rng H5.out.st)
            go_wp2_with (refine wpList_load_mid rfl 67 _ rfl w.heap.size 0 rfl (styCells s) _ HRG.out Tryz.underlying67 rfl (by kernel_rfl) ?_)
            refine (frame_any s _ HS.out).mono ?_
            rintro e w6 ⟨⟨d, rfl⟩, rfl⟩
            have HW6 : Hid (Below w.heap.size w (wc.alloc (.cells (styCells s).toArray 67)) ∧ MarS s w.heap.size (wc.alloc (.cells (styCells s).toArray 67)) ∧ SlAt (wc.alloc (.cells (styCells s).toArray 67)) (wc.alloc (.cells (styCells s).toArray 67)).heap.size u1 l5) := Lib.hid ⟨H5.out.b.alloc H5.out.b.size _, (MarS.mk_ H5.out.st).below ((Below.refl _ _).alloc (Nat.le_refl _) _), (HL5.out.1.below ((Below.refl _ _).alloc (Nat.le_refl _) _)).more (by simp)⟩
            go_wp2_with fail
            obtain ⟨w6, hw6⟩ : ∃ w6, w6 = wc.alloc (.cells (styCells s).toArray 67) := ⟨_, rfl⟩
            rw [← hw6] at HW6
            rw [← hw6]
            clear hw6
            refine wp_region_held_drew (S := MarS s w.heap.size) (by kernel_rfl) (HW6.out.2.1.below (Below.refl _ _).drew) (fun hS => ?_)
            refine wpAnyH_take (i := 0) (v := ?_) rfl (by kernel_rfl) (by kernel_rfl) (by kernel_rfl) (fun _ _ _ h => h) (Or.inl ⟨by rfl, ?_⟩) hS ?_
            rotate_left
            · rintro W' ⟨hl', c18', c19', c22', c23'⟩
              go_simp
              rfl
            try simp only [Act.put, List.setIfInBounds_toArray, List.set_cons_zero, List.set_cons_succ, List.getElem_toArray, List.getElem_cons_zero, List.getElem_cons_succ]
            refine wpAnyH_take (i := 2) (v := ?_) rfl (by kernel_rfl) (by kernel_rfl) (by kernel_rfl) (fun _ _ _ h => h) (Or.inl ⟨by rfl, ?_⟩) hS ?_
            rotate_left
            · rintro W' ⟨hl', c18', c19', c22', c23'⟩
              go_simp
              rfl
            try simp only [Act.put, List.setIfInBounds_toArray, List.set_cons_zero, List.set_cons_succ, List.getElem_toArray, List.getElem_cons_zero, List.getElem_cons_succ]
            refine wpAnyH_take (i := 3) (v := ?_) rfl (by kernel_rfl) (by kernel_rfl) (by kernel_rfl) (fun _ _ _ h => h) (Or.inl ⟨by rfl, ?_⟩) hS ?_
            rotate_left
            · rintro W' ⟨hl', c18', c19', c22', c23'⟩
              go_simp
              rfl
            try simp only [Act.put, List.setIfInBounds_toArray, List.set_cons_zero, List.set_cons_succ, List.getElem_toArray, List.getElem_cons_zero, List.getElem_cons_succ]
            refine wpAnyH_take (i := 4) (v := ?_) rfl (by kernel_rfl) (by kernel_rfl) (by kernel_rfl) (fun _ _ _ h => h) (Or.inl ⟨by rfl, ?_⟩) hS ?_
            rotate_left
            · rintro W' ⟨hl', c18', c19', c22', c23'⟩
              go_simp
              rfl
            try simp only [Act.put, List.setIfInBounds_toArray, List.set_cons_zero, List.set_cons_succ, List.getElem_toArray, List.getElem_cons_zero, List.getElem_cons_succ]
            refine wpAnyH_take (i := 5) (v := ?_) rfl (by kernel_rfl) (by kernel_rfl) (by kernel_rfl) (fun _ _ _ h => h) (Or.inl ⟨by rfl, ?_⟩) hS ?_
            rotate_left
            · rintro W' ⟨hl', c18', c19', c22', c23'⟩
              go_simp
              rfl
            try simp only [Act.put, List.setIfInBounds_toArray, List.set_cons_zero, List.set_cons_succ, List.getElem_toArray, List.getElem_cons_zero, List.getElem_cons_succ]
            refine wpAnyH_take (i := 7) (v := ?_) rfl (by kernel_rfl) (by kernel_rfl) (by kernel_rfl) (fun _ _ _ h => h) (Or.inl ⟨by rfl, ?_⟩) hS ?_
            rotate_left
            · rintro W' ⟨hl', c18', c19', c22', c23'⟩
              go_simp
              rfl
            try simp only [Act.put, List.setIfInBounds_toArray, List.set_cons_zero, List.set_cons_succ, List.getElem_toArray, List.getElem_cons_zero, List.getElem_cons_succ]
            refine wpAnyH_take (i := 8) (v := ?_) rfl (by kernel_rfl) (by kernel_rfl) (by kernel_rfl) (fun _ _ _ h => h) (Or.inl ⟨by rfl, ?_⟩) hS ?_
            rotate_left
            · rintro W' ⟨hl', c18', c19', c22', c23'⟩
              go_simp
              rfl
            try simp only [Act.put, List.setIfInBounds_toArray, List.set_cons_zero, List.set_cons_succ, List.getElem_toArray, List.getElem_cons_zero, List.getElem_cons_succ]
            refine wpAnyH_take (i := 9) (v := ?_) rfl (by kernel_rfl) (by kernel_rfl) (by kernel_rfl) (fun _ _ _ h => h) (Or.inl ⟨by rfl, ?_⟩) hS ?_
            rotate_left
            · rintro W' ⟨hl', c18', c19', c22', c23'⟩
              go_simp
              rfl
            try simp only [Act.put, List.setIfInBounds_toArray, List.set_cons_zero, List.set_cons_succ, List.getElem_toArray, List.getElem_cons_zero, List.getElem_cons_succ]
            refine wpAnyH_ready (rs := [1]) (by kernel_rfl) (by simp) (AllReadyH.cons rfl (fun K hK => ?_) AllReadyH.nil)
            go_simp
            refine (clone_sl l5 _ _ (by have := HL5.out.2.2.2; omega) HW6.out.2.2.drew).mono ?_
            rintro e w7 ⟨⟨A7, c7, rfl, hown7⟩, hb7⟩
            have HB7 := Lib.hid (HW6.out.1.trans ((Below.refl _ _).drew.trans (hb7.mono HW6.out.1.size)))
            refine hK.out _ _ (hS.below hb7) (fun hS => ?_)
            try simp only [Act.put, List.setIfInBounds_toArray, List.set_cons_zero, List.set_cons_succ, List.getElem_toArray, List.getElem_cons_zero, List.getElem_cons_succ]
            clear hK
            refine wpAnyH_ready (rs := [6]) (by kernel_rfl) (by simp) (AllReadyH.cons rfl (fun K hK => ?_) AllReadyH.nil)
            go_simp
            refine (bare_any s.m3.k s.m3.n _).mono ?_
            rintro e w8 ⟨rfl, rfl⟩
            refine hK.out _ _ (hS.below ((Below.refl _ _).alloc (Nat.le_refl _) _)) (fun hS => ?_)
            try simp only [Act.put, List.setIfInBounds_toArray, List.set_cons_zero, List.set_cons_succ, List.getElem_toArray, List.getElem_cons_zero, List.getElem_cons_succ]
            clear hK
            refine wpAnyH_ready (rs := [10]) (by kernel_rfl) (by simp) (AllReadyH.cons rfl (fun K hK => ?_) AllReadyH.nil)
            go_simp
            refine (bare_any s.m1.k s.m1.n _).mono ?_
            rintro e w8 ⟨rfl, rfl⟩
            refine hK.out _ _ (hS.below ((Below.refl _ _).alloc (Nat.le_refl _) _)) (fun hS => ?_)
            try simp only [Act.put, List.setIfInBounds_toArray, List.set_cons_zero, List.set_cons_succ, List.getElem_toArray, List.getElem_cons_zero, List.getElem_cons_succ]
            clear hK
            refine wpAnyH_ready (rs := [11]) (by kernel_rfl) (by simp) (AllReadyH.cons rfl (fun K hK => ?_) AllReadyH.nil)
            go_simp
            refine hK.out _ _ (hS.below ((Below.refl _ _).alloc (Nat.le_refl _) _)) (fun hS => ?_)
            try simp only [Act.put, List.setIfInBounds_toArray, List.set_cons_zero, List.set_cons_succ, List.getElem_toArray, List.getElem_cons_zero, List.getElem_cons_succ]
            clear hK
            refine wpAnyH_ready (rs := [12]) (by kernel_rfl) (by simp) (AllReadyH.cons rfl (fun K hK => ?_) AllReadyH.nil)
            have HO9 := Lib.hid ((hown7.alloc (.cells #[.int .u8 s.m3.k, .int .i64 s.m3.n] 62)).alloc (.cells #[.int .u8 s.m1.k, .int .i64 s.m1.n] 62))
            have hsz9 : w6.drew.heap.size ≤ ((w7.alloc (.cells #[.int .u8 s.m3.k, .int .i64 s.m3.n] 62)).alloc (.cells #[.int .u8 s.m1.k, .int .i64 s.m1.n] 62)).heap.size := by have := hb7.size; simp at this ⊢; omega
            refine step_appG (m := 3) rfl _ _ rfl el_i64c HO9.out hsz9 rfl [.int .i64 (frameF s), .int .i64 (bareF s.m3), .int .i64 (bareF s.m1)] rfl (by simp) rfl (by simp [Value.oneCell']) (by have := HL5.out.2.2.2; omega) (by omega) ?_
            intro A9 c9 w9 hown9 hB9 hg9 _
            have HOW9 := Lib.hid hown9
            have HBL9 := Lib.hid (hB9 w.heap.size w (by have := HW6.out.1.size; simp; omega) ((HB7.out.alloc HB7.out.size _).alloc (by have := HB7.out.size; simp; omega) _))
            have HG9 := Lib.hid (show w.heap.size + 1 ≤ w6.drew.heap.size by have := HW6.out.2.1.lt; simp; omega)
            refine hK.out _ _ (((((HW6.out.2.1.below (Below.refl _ _).drew).below hb7).below ((Below.refl _ _).alloc (Nat.le_refl _) _)).below ((Below.refl _ _).alloc (Nat.le_refl _) _)).at_ (hB9 (w.heap.size + 1) _ HG9.out (Below.refl _ _)) (by omega)) (fun hS => ?_)
            try simp only [Act.put, List.setIfInBounds_toArray, List.set_cons_zero, List.set_cons_succ, List.getElem_toArray, List.getElem_cons_zero, List.getElem_cons_succ]
            clear hK
            refine wpAnyH_take (i := 13) (v := ?_) rfl (by kernel_rfl) (by kernel_rfl) (by kernel_rfl) (fun _ _ _ h => h) (Or.inl ⟨by rfl, ?_⟩) hS ?_
            rotate_left
            · rintro W' ⟨hl', c18', c19', c22', c23'⟩
              go_simp
              rfl
            try simp only [Act.put, List.setIfInBounds_toArray, List.set_cons_zero, List.set_cons_succ, List.getElem_toArray, List.getElem_cons_zero, List.getElem_cons_succ]
            refine wpAnyH_done (by kernel_rfl) ?_ _
            clear hS
            have hl10 : I64s (l5 ++ [frameF s, bareF s.m3, bareF s.m1]) := by
              intro x hx
              rcases List.mem_append.1 hx with hx | hx
              · exact HL5.out.2.2.1 x hx
              · have := HS.out.b1; have := HS.out.b3; have := HS.out.p1; have := HS.out.p3; have := HS.out.m1; have := HS.out.m3
                simp only [List.mem_cons, List.not_mem_nil, or_false] at hx
                rcases hx with rfl | rfl | rfl
                · unfold frameF; omega
                · unfold bareF; split <;> omega
                · unfold bareF; split <;> omega
            have hsl10 : SlAt w9 w9.heap.size (.slice A9 (l5.length + 3) c9) (l5 ++ [frameF s, bareF s.m3, bareF s.m1]) := SlAt.own (by simpa [i64s] using HOW9.out)
            have HX := Lib.hid (And.intro hl10 hsl10)
            have HSU : Hid ((l5 ++ [frameF s, bareF s.m3, bareF s.m1]).sum = o3P s l.sum + frameF s + bareF s.m3 + bareF s.m1) := Lib.hid (by rw [← HL5.out.2.1, List.sum_append]; simp; omega)
            clear hl10 hsl10 hown9 hB9 hg9 hb7 hown7 hsz9
            go_wp2_with fail
            refine (sum_sl (l5 ++ [frameF s, bareF s.m3, bareF s.m1]) _ _ HX.out.1 (by have := HL5.out.2.2.2; simp; omega) HX.out.2).mono ?_
            rintro e w10 ⟨rfl, hw10⟩
            have HW10 := Lib.hid (HBL9.out.trans (hw10.mono HBL9.out.size))
            rw [HSU.out]
            obtain ⟨S, hS0⟩ : ∃ S, S = o3P s l.sum + frameF s + bareF s.m3 + bareF s.m1 := ⟨_, rfl⟩
            rw [← hS0]
            have HP : Hid (outP s l.sum = max S 0) := Lib.hid (by rw [hS0]; rfl)
            obtain ⟨n9, hn9⟩ : ∃ n9, n9 = cutF S := ⟨_, rfl⟩
            rw [← hn9]
            have HN9 := Lib.hid hn9
            clear hS0 hn9 hw10
            cases hd : decide (n9 < 0)
            · have HF : Hid (outP s l.sum = S) := Lib.hid (by rw [HP.out]; have := of_decide_eq_false hd; rw [HN9.out] at this; have := cutF_cases S; omega)
              go_wp2_with fail
              go_ret2
              exact ⟨by rw [HF.out, ← HN9.out]; rfl, HW10.out⟩
            · have HF : Hid (outP s l.sum = 0) := Lib.hid (by rw [HP.out]; have := of_decide_eq_true hd; rw [HN9.out] at this; have := cutF_cases S; omega)
              go_wp2_with fail
              go_ret2
              exact ⟨by rw [HF.out]; rfl, HW10.out⟩
end Go.Proofs.YtjhfcpadnofdnaaGreat
