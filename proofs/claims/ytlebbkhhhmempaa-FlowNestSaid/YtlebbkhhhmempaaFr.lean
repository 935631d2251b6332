/- Contracts: told of flow's walk. -/
import Derived.Test.YtlebbkhhhmempaaFq
import Derived.Test.YtlebbkhhhmempaaFp
set_option linter.unusedSimpArgs false
set_option linter.unusedVariables false
namespace Go.Proofs.Ytlebbkhhhmempaa
open Go.RowKit
attribute [local go_sem] block_of_add
def parI (l : List Nd) (i : Nat) : Nat := (((l[i]?).map (fun x : Nd => x.parent)).getD 0).toNat
def spF (k : Wk) (i : Nat) : Sp := (k.sp[i]?).getD sp0
def frF (l : List Nd) (us : List Ud) (k : Wk) (i : Nat) : Fr := ⟨(spF k i).left - (spF k (parI l i)).left, (spF k i).top - (spF k (parI l i)).top, (usF us i).w, (spF k i).high⟩
def frB (f : Fr) : Bool := in40 f.x && in40 f.y && in40 f.w && in40 f.h
def lowF (k : Wk) : Int := k.fl.foldl (fun a f => max a (f.y + f.h)) (max 0 (markF k))
def isC (Ab : Option Addr) (n cb gF gB : Nat) (H : Int) : Array Value := #[.slice Ab n cb, .slice (some ⟨gF, 0, none⟩) n n, .slice (some ⟨gB, 0, none⟩) n n, .int .i64 H, .slice none 0 0, .bool false]
structure ToI (W : World) (gI gF gB : Nat) (is : Array Value) (frs : List Fr) (bos : List Bool) (W' : World) : Prop where
  r : Blk W' W.heap.size 52 #[.slice none 0 0, .slice none 0 0, .slice none 0 0, .int .i64 0, .slice none 0 0, .bool false]
  i : Blk W' gI 52 is
  f : Blk W' gF 58 (frsCells frs).toArray
  b : Blk W' gB 4 (boCells bos).toArray
  ge : W.heap.size < gI ∧ W.heap.size < gF ∧ W.heap.size < gB
  l : Below W.heap.size W W'
theorem ToI.below {W : World} {gI gF gB : Nat} {is : Array Value} {frs : List Fr} {bos : List Bool} {W1 W2 : World} (h : ToI W gI gF gB is frs bos W1) (hb : Below W1.heap.size W1 W2) : ToI W gI gF gB is frs bos W2 :=
  ⟨h.r.below hb h.r.lt, h.i.below hb h.i.lt, h.f.below hb h.f.lt, h.b.below hb h.b.lt, h.ge, h.l.trans (hb.mono h.l.size)⟩
theorem ToI.setI {W : World} {gI gF gB : Nat} {is : Array Value} {frs : List Fr} {bos : List Bool} {W1 : World} (h : ToI W gI gF gB is frs bos W1) (i : Nat) (v : Value) : ToI W gI gF gB (is.setIfInBounds i v) frs bos (W1.setCell ⟨gI, i, none⟩ v) :=
  ⟨h.r.far (by have := h.ge; simp; omega) _, h.i.set_ i v, h.f.far (h.f.ne_ h.i (by decide)) _, h.b.far (h.b.ne_ h.i (by decide)) _, h.ge, h.l.setCell (p := ⟨gI, i, none⟩) (by have := h.ge; simp; omega) _⟩
theorem World.cell?_lt {w : World} {a : Addr} {v : Value} (h : w.cell? a = some v) : a.block < w.heap.size := by
  rcases Nat.lt_or_ge a.block w.heap.size with h1 | h1
  · exact h1
  · unfold World.cell? at h; rw [Array.getElem?_eq_none h1] at h; simp at h
theorem rng_below {w1 w2 : World} {g : Nat} {cs : List Value} (h : w1.rangeAt g 0 cs) (hg : g < w1.heap.size) (hb : Below w1.heap.size w1 w2) : w2.rangeAt g 0 cs := fun j v hv => (hb.cell (p := ⟨g, 0 + j, none⟩) hg).trans (h j v hv)
theorem set_take {α : Type} (L : List α) (n j : Nat) (z v : α) (hL : L.length = n) (hj : j < n) (hv : L[j]? = some v) : (L.take j ++ List.replicate (n - j) z).set j v = L.take (j + 1) ++ List.replicate (n - (j + 1)) z := by
  have h1 : (L.take j).length = j := by rw [List.length_take]; omega
  rw [List.set_append_right _ _ (by omega), h1, Nat.sub_self, show n - j = (n - (j + 1)) + 1 by omega, List.replicate_succ, List.set_cons_zero, List.take_add_one, hv, List.append_assoc]
  rfl
theorem set_same {n j : Nat} (hj : j < n) : (List.replicate n false).set j false = List.replicate n false := by
  apply List.ext_getElem?
  intro i
  rw [List.getElem?_set]
  split
  · rename_i h; subst h; simp [hj]
  · rfl
theorem ToI.setF {W : World} {gI gF gB : Nat} {is : Array Value} {bos : List Bool} {cs : Array Value} {W1 : World} (h : Blk W1 W.heap.size 52 cs ∧ Blk W1 gI 52 is ∧ Blk W1 gB 4 (boCells bos).toArray ∧ (W.heap.size < gI ∧ W.heap.size < gF ∧ W.heap.size < gB) ∧ Below W.heap.size W W1 ∧ gF ≠ gI ∧ gF ≠ gB ∧ gF ≠ W.heap.size) (i : Nat) (v : Value) : Blk (W1.setCell ⟨gF, i, none⟩ v) W.heap.size 52 cs ∧ Blk (W1.setCell ⟨gF, i, none⟩ v) gI 52 is ∧ Blk (W1.setCell ⟨gF, i, none⟩ v) gB 4 (boCells bos).toArray ∧ (W.heap.size < gI ∧ W.heap.size < gF ∧ W.heap.size < gB) ∧ Below W.heap.size W (W1.setCell ⟨gF, i, none⟩ v) ∧ gF ≠ gI ∧ gF ≠ gB ∧ gF ≠ W.heap.size :=
  ⟨h.1.far (fun e => h.2.2.2.2.2.2.2 e.symm) _, h.2.1.far (fun e => h.2.2.2.2.2.1 e.symm) _, h.2.2.1.far (fun e => h.2.2.2.2.2.2.1 e.symm) _, h.2.2.2.1, h.2.2.2.2.1.setCell (p := ⟨gF, i, none⟩) (by have := h.2.2.2.1; simp; omega) _, h.2.2.2.2.2⟩
section
variable (C : Cx) (k : Wk) (Af Ao : Option Addr) (cf co : Nat) (W : World)
set_option maxRecDepth 100000 in
set_option maxHeartbeats 2000000 in
theorem told_any (hC : CxOk C) (h : WkI C k Af cf Ao co W) (hwb : wkB k = true) (n : Nat) (hn : C.l.length = n + 1) (Ab : Option Addr) (cb : Nat) (hbx : Reads W W.heap.size 1 Ab n ((List.range' 1 n).map fun (i : Nat) => Value.int .i64 i)) (s0 : Sty) (hs0 : styF C.l 0 = some s0) (hfr : ∀ i, 0 < i → i < C.l.length → frB (frF C.l C.us k i) = true) (hH : in40 (highF s0 (lowF k) + (roofF s0 + floorF s0)) = true) :
    Calls Try.prog 45 #[.pointer (some ⟨C.bw, 0, none⟩), .slice Ab n cb] W fun e w' => ∃ gF gB, e = .returned (.agg (isC Ab n cb gF gB (highF s0 (lowF k) + (roofF s0 + floorF s0)))) ∧ Blk w' gF 58 (frsCells ((List.range' 1 n).map (frF C.l C.us k))).toArray ∧ Below W.heap.size W w' := by
  have hi : 0 < C.l.length := hC.n1
  have h0 := hi
  have HFRB := Lib.hid hfr
  have HHB := Lib.hid hH
  have HBX := Lib.hid hbx
  have HWB := Lib.hid hwb
  have HNN := Lib.hid hn
  have HN1 : Hid (n ≤ 4095) := Lib.hid (by have := hC.n2; omega)
  obtain ⟨i, hi0⟩ : ∃ i : Nat, i = 0 := ⟨_, rfl⟩
  obtain ⟨s, hs⟩ : ∃ s, s = s0 := ⟨_, rfl⟩
  have HS0 : Hid (C.l[0] = { parent := (C.l[0]).parent, s := s0 }) := Lib.hid (by unfold styF at hs0; rw [List.getElem?_eq_getElem hi] at hs0; simp at hs0; rw [← hs0])
  have HST : Hid (StyT s0) := Lib.hid (by have := (hC.sty _ (List.getElem_mem hi)).1; rw [HS0.out] at this; exact this)
  have HO : Hid ((styCells s0).toArray.all (·.oneCell') = true) := Lib.hid (by obtain ⟨_, _, _, e⟩ := hC.uv _ (List.getElem_mem hi); rw [HS0.out] at e; exact Sty.one s0 e)
  have HRNG : Hid (∃ ad : Addr, C.A = some ad ∧ ∀ W', Below W.heap.size W W' → W'.rangeAt (ad.add (0 * 44)).block ((ad.add (0 * 44)).off + 1) (styCells s0)) := Lib.hid (by
    obtain ⟨ad, hA, -, -, -, -⟩ := WkI.nd C k Af Ao cf co W hC h 0 hi
    refine ⟨ad, hA, fun W' hb => ?_⟩
    obtain ⟨ad', hA', -, -, -, hnd⟩ := WkI.nd C k Af Ao cf co W' hC (h.below hb) 0 hi
    rw [hA] at hA'
    injection hA' with hA'
    subst hA'
    have := hnd.range
    rw [HS0.out] at this
    exact this)
  obtain ⟨ad, hA, hrng⟩ := HRNG.out
  have HR0 := Lib.hid hrng
  have HMK := Lib.hid (fun W' (hb : Below W.heap.size W W') => mark_any C k Af Ao cf co W' hC (h.below hb) hwb)
  have HLN := Lib.hid (fun W' (hb : Below W.heap.size W W') i hi => lines_any C k Af Ao cf co W' hC (h.below hb) i hi)
  have HSP := Lib.hid (fun W' (hb : Below W.heap.size W W') i hi => spot_any C k Af Ao cf co W' hC (h.below hb) i hi)
  have HWD := Lib.hid (fun W' (hb : Below W.heap.size W W') i hi => wide_any C k Af Ao cf co W' hC (h.below hb) i hi)
  have HI := Lib.hid h
  have HC := Lib.hid hC
  have HFR := Lib.hid (fun W' => frameT_any s0 W' HST.out)
  have HHG := Lib.hid (fun a W' => high_any s0 a W' HST.out)
  have HCT := Lib.hid (fun x W' => cut_any x W')
  have hmk1 : ∀ W : World, (Instr.makeSlice 49 (.int .i64 (n : Int)) (.int .i64 (n : Int))).run Try.prog W = .ok (.slice (some ⟨W.heap.size, 0, none⟩) n n) (W.alloc (.cells (frsCells (List.replicate n fr0)).toArray 58)) := fun W => make_frags n (by have := HN1.out; omega) W
  have hmk2 : ∀ W : World, (Instr.makeSlice 38 (.int .i64 (n : Int)) (.int .i64 (n : Int))).run Try.prog W = .ok (.slice (some ⟨W.heap.size, 0, none⟩) n n) (W.alloc (.cells (boCells (List.replicate n false)).toArray 4)) := fun W => make_bos n (by have := HN1.out; omega) W
  clear hfr hH hbx hwb hn hs0 hrng h hC hi0 hs
  obtain ⟨aL, haL⟩ : ∃ aL, aL = lowF k := ⟨_, rfl⟩
  rw [← haL] at HHB ⊢
  obtain ⟨Hh, hHh⟩ : ∃ Hh, Hh = highF s0 aL + (roofF s0 + floorF s0) := ⟨_, rfl⟩
  rw [← hHh] at HHB ⊢
  have HHH := Lib.hid hHh
  have HAL := Lib.hid haL
  clear haL hHh
  go_enter Try.func45, Try.ntmps45
  go_upto_region 1 with (fail)
  go_cut [5] (fun v wx => ∃ gI gF gB : Nat, v = .pointer (some ⟨gI, 0, none⟩) ∧ Hid (ToI W gI gF gB (isC Ab n cb gF gB 0) (List.replicate n fr0) (List.replicate n false) wx))
  case first =>
    refine wp_region_held_drew (S := fun _ => True) (by kernel_rfl) trivial (fun hS => ?_)
    refine wpAnyH_take (i := 0) (v := ?_) rfl (by kernel_rfl) (by kernel_rfl) (by kernel_rfl) (fun _ _ _ h => h) (Or.inl ⟨by rfl, ?_⟩) hS ?_
    rotate_left
    · intro W' hS'
      go_simp
      rfl
    try simp only [Act.put, List.setIfInBounds_toArray, List.set_cons_zero, List.set_cons_succ, List.getElem_toArray, List.getElem_cons_zero, List.getElem_cons_succ]
    refine wpAnyH_take (i := 1) (v := ?_) rfl (by kernel_rfl) (by kernel_rfl) (by kernel_rfl) (fun _ _ _ h => h) (Or.inl ⟨by rfl, ?_⟩) hS ?_
    rotate_left
    · intro W' hS'
      go_simp
      rfl
    try simp only [Act.put, List.setIfInBounds_toArray, List.set_cons_zero, List.set_cons_succ, List.getElem_toArray, List.getElem_cons_zero, List.getElem_cons_succ]
    refine wpAnyH_take (i := 2) (v := ?_) rfl (by kernel_rfl) (by kernel_rfl) (by kernel_rfl) (fun _ _ _ h => h) (Or.inl ⟨by rfl, ?_⟩) hS ?_
    rotate_left
    · intro W' hS'
      go_simp
      rfl
    try simp only [Act.put, List.setIfInBounds_toArray, List.set_cons_zero, List.set_cons_succ, List.getElem_toArray, List.getElem_cons_zero, List.getElem_cons_succ]
    refine wpAnyH_take (i := 4) (v := ?_) rfl (by kernel_rfl) (by kernel_rfl) (by kernel_rfl) (fun _ _ _ h => h) (Or.inl ⟨by rfl, ?_⟩) hS ?_
    rotate_left
    · intro W' hS'
      go_simp
      rfl
    try simp only [Act.put, List.setIfInBounds_toArray, List.set_cons_zero, List.set_cons_succ, List.getElem_toArray, List.getElem_cons_zero, List.getElem_cons_succ]
    refine wpAnyH_take (i := 5) (v := ?_) rfl (by kernel_rfl) (by kernel_rfl) (by kernel_rfl) (fun _ _ _ h => h) (Or.inl ⟨by rfl, ?_⟩) hS ?_
    rotate_left
    · intro W' hS'
      go_simp
      rfl
    try simp only [Act.put, List.setIfInBounds_toArray, List.set_cons_zero, List.set_cons_succ, List.getElem_toArray, List.getElem_cons_zero, List.getElem_cons_succ]
    refine wpAnyH_ready (rs := [3, 6, 8]) (by kernel_rfl) (by simp) (AllReadyH.cons rfl (fun K hK => ?_) (AllReadyH.cons rfl (fun K hK => ?_) (AllReadyH.cons rfl (fun K hK => ?_) (AllReadyH.nil))))
    · go_simp
      refine hK.out _ _ trivial (fun hS => ?_)
      try simp only [Act.put, List.setIfInBounds_toArray, List.set_cons_zero, List.set_cons_succ, List.getElem_toArray, List.getElem_cons_zero, List.getElem_cons_succ]
      clear hK
      refine wpAnyH_ready (rs := [6, 8]) (by kernel_rfl) (by simp) (AllReadyH.cons rfl (fun K hK => ?_) (AllReadyH.cons rfl (fun K hK => ?_) (AllReadyH.nil)))
      · go_simp
        refine hK.out _ _ trivial (fun hS => ?_)
        try simp only [Act.put, List.setIfInBounds_toArray, List.set_cons_zero, List.set_cons_succ, List.getElem_toArray, List.getElem_cons_zero, List.getElem_cons_succ]
        clear hK
        refine wpAnyH_take (i := 7) (v := ?_) rfl (by kernel_rfl) (by kernel_rfl) (by kernel_rfl) (fun _ _ _ h => h) (Or.inl ⟨by rfl, ?_⟩) hS ?_
        rotate_left
        · intro W' hS'
          go_simp
          rfl
        try simp only [Act.put, List.setIfInBounds_toArray, List.set_cons_zero, List.set_cons_succ, List.getElem_toArray, List.getElem_cons_zero, List.getElem_cons_succ]
        refine wpAnyH_ready (rs := [8]) (by kernel_rfl) (by simp) (AllReadyH.cons rfl (fun K hK => ?_) (AllReadyH.nil))
        go_simp
        refine hK.out _ _ trivial (fun hS => ?_)
        try simp only [Act.put, List.setIfInBounds_toArray, List.set_cons_zero, List.set_cons_succ, List.getElem_toArray, List.getElem_cons_zero, List.getElem_cons_succ]
        clear hK
        generalize hw5 : World.drew (World.alloc (World.alloc (World.alloc (World.alloc W _) _) _) _) = w5
        have HR5 : Hid (Blk w5 W.heap.size 52 #[.slice none 0 0, .slice none 0 0, .slice none 0 0, .int .i64 0, .slice none 0 0, .bool false]) := Lib.hid (by rw [← hw5]; repeat (with_reducible first | (apply Blk.at_; simp; done) | apply Blk.drew | apply Blk.alloc))
        have HI5 : Hid (Blk w5 (W.heap.size + 1 + 1 + 1) 52 #[.slice none 0 0, .slice none 0 0, .slice none 0 0, .int .i64 0, .slice none 0 0, .bool false]) := Lib.hid (by rw [← hw5]; repeat (with_reducible first | (apply Blk.at_; simp; done) | apply Blk.drew | apply Blk.alloc))
        have HF5 : Hid (Blk w5 (W.heap.size + 1) 58 (frsCells (List.replicate n fr0)).toArray) := Lib.hid (by rw [← hw5]; repeat (with_reducible first | (apply Blk.at_; simp; done) | apply Blk.drew | apply Blk.alloc))
        have HB5 : Hid (Blk w5 (W.heap.size + 1 + 1) 4 (boCells (List.replicate n false)).toArray) := Lib.hid (by rw [← hw5]; repeat (with_reducible first | (apply Blk.at_; simp; done) | apply Blk.drew | apply Blk.alloc))
        have HL5 : Hid (Below W.heap.size W w5) := Lib.hid (by rw [← hw5]; exact ((((((Below.refl _ _).alloc (Nat.le_refl _) _).alloc (by simp) _).alloc (by simp; omega) _).alloc (by simp; omega) _).drew))
        clear hw5
        have HT5 : Hid (ToI W (W.heap.size + 1 + 1 + 1) (W.heap.size + 1) (W.heap.size + 1 + 1) #[.slice none 0 0, .slice none 0 0, .slice none 0 0, .int .i64 0, .slice none 0 0, .bool false] (List.replicate n fr0) (List.replicate n false) w5) := Lib.hid ⟨HR5.out, HI5.out, HF5.out, HB5.out, by omega, HL5.out⟩
        have x0 := HI5.out.get 0 rfl
        have x1 := HI5.out.get 1 rfl
        have x2 := HI5.out.get 2 rfl
        have x3 := HI5.out.get 3 rfl
        have x4 := HI5.out.get 4 rfl
        have x5 := HI5.out.get 5 rfl
        have xf := HI5.out.frozen
        refine wpAnyH_ready (rs := [9]) (by kernel_rfl) (by simp) (AllReadyH.cons rfl (fun K hK => ?_) AllReadyH.nil)
        go_simp
        refine hK.out _ _ trivial (fun hS => ?_)
        try simp only [Act.put, List.setIfInBounds_toArray, List.set_cons_zero, List.set_cons_succ, List.getElem_toArray, List.getElem_cons_zero, List.getElem_cons_succ]
        clear hK
        refine wpAnyH_done (by kernel_rfl) ?_ _
        go_wp2_with fail
        go_meet
        case rel => exact ⟨W.heap.size + 1 + 1 + 1, W.heap.size + 1, W.heap.size + 1 + 1, rfl, Lib.hid ((((((HT5.out.setI 0 _).setI 1 _).setI 2 _).setI 3 _).setI 4 _).setI 5 _)⟩
      · go_simp
        refine hK.out _ _ trivial (fun hS => ?_)
        try simp only [Act.put, List.setIfInBounds_toArray, List.set_cons_zero, List.set_cons_succ, List.getElem_toArray, List.getElem_cons_zero, List.getElem_cons_succ]
        clear hK
        refine wpAnyH_ready (rs := [6]) (by kernel_rfl) (by simp) (AllReadyH.cons rfl (fun K hK => ?_) (AllReadyH.nil))
        go_simp
        refine hK.out _ _ trivial (fun hS => ?_)
        try simp only [Act.put, List.setIfInBounds_toArray, List.set_cons_zero, List.set_cons_succ, List.getElem_toArray, List.getElem_cons_zero, List.getElem_cons_succ]
        clear hK
        generalize hw5 : World.drew (World.alloc (World.alloc (World.alloc (World.alloc W _) _) _) _) = w5
        have HR5 : Hid (Blk w5 W.heap.size 52 #[.slice none 0 0, .slice none 0 0, .slice none 0 0, .int .i64 0, .slice none 0 0, .bool false]) := Lib.hid (by rw [← hw5]; repeat (with_reducible first | (apply Blk.at_; simp; done) | apply Blk.drew | apply Blk.alloc))
        have HI5 : Hid (Blk w5 (W.heap.size + 1 + 1) 52 #[.slice none 0 0, .slice none 0 0, .slice none 0 0, .int .i64 0, .slice none 0 0, .bool false]) := Lib.hid (by rw [← hw5]; repeat (with_reducible first | (apply Blk.at_; simp; done) | apply Blk.drew | apply Blk.alloc))
        have HF5 : Hid (Blk w5 (W.heap.size + 1) 58 (frsCells (List.replicate n fr0)).toArray) := Lib.hid (by rw [← hw5]; repeat (with_reducible first | (apply Blk.at_; simp; done) | apply Blk.drew | apply Blk.alloc))
        have HB5 : Hid (Blk w5 (W.heap.size + 1 + 1 + 1) 4 (boCells (List.replicate n false)).toArray) := Lib.hid (by rw [← hw5]; repeat (with_reducible first | (apply Blk.at_; simp; done) | apply Blk.drew | apply Blk.alloc))
        have HL5 : Hid (Below W.heap.size W w5) := Lib.hid (by rw [← hw5]; exact ((((((Below.refl _ _).alloc (Nat.le_refl _) _).alloc (by simp) _).alloc (by simp; omega) _).alloc (by simp; omega) _).drew))
        clear hw5
        have HT5 : Hid (ToI W (W.heap.size + 1 + 1) (W.heap.size + 1) (W.heap.size + 1 + 1 + 1) #[.slice none 0 0, .slice none 0 0, .slice none 0 0, .int .i64 0, .slice none 0 0, .bool false] (List.replicate n fr0) (List.replicate n false) w5) := Lib.hid ⟨HR5.out, HI5.out, HF5.out, HB5.out, by omega, HL5.out⟩
        have x0 := HI5.out.get 0 rfl
        have x1 := HI5.out.get 1 rfl
        have x2 := HI5.out.get 2 rfl
        have x3 := HI5.out.get 3 rfl
        have x4 := HI5.out.get 4 rfl
        have x5 := HI5.out.get 5 rfl
        have xf := HI5.out.frozen
        refine wpAnyH_take (i := 7) (v := ?_) rfl (by kernel_rfl) (by kernel_rfl) (by kernel_rfl) (fun _ _ _ h => h) (Or.inl ⟨by rfl, ?_⟩) hS ?_
        rotate_left
        · intro W' hS'
          go_simp
          rfl
        try simp only [Act.put, List.setIfInBounds_toArray, List.set_cons_zero, List.set_cons_succ, List.getElem_toArray, List.getElem_cons_zero, List.getElem_cons_succ]
        refine wpAnyH_ready (rs := [9]) (by kernel_rfl) (by simp) (AllReadyH.cons rfl (fun K hK => ?_) AllReadyH.nil)
        go_simp
        refine hK.out _ _ trivial (fun hS => ?_)
        try simp only [Act.put, List.setIfInBounds_toArray, List.set_cons_zero, List.set_cons_succ, List.getElem_toArray, List.getElem_cons_zero, List.getElem_cons_succ]
        clear hK
        refine wpAnyH_done (by kernel_rfl) ?_ _
        go_wp2_with fail
        go_meet
        case rel => exact ⟨W.heap.size + 1 + 1, W.heap.size + 1, W.heap.size + 1 + 1 + 1, rfl, Lib.hid ((((((HT5.out.setI 0 _).setI 1 _).setI 2 _).setI 3 _).setI 4 _).setI 5 _)⟩
    · go_simp
      refine hK.out _ _ trivial (fun hS => ?_)
      try simp only [Act.put, List.setIfInBounds_toArray, List.set_cons_zero, List.set_cons_succ, List.getElem_toArray, List.getElem_cons_zero, List.getElem_cons_succ]
      clear hK
      refine wpAnyH_ready (rs := [3, 8]) (by kernel_rfl) (by simp) (AllReadyH.cons rfl (fun K hK => ?_) (AllReadyH.cons rfl (fun K hK => ?_) (AllReadyH.nil)))
      · go_simp
        refine hK.out _ _ trivial (fun hS => ?_)
        try simp only [Act.put, List.setIfInBounds_toArray, List.set_cons_zero, List.set_cons_succ, List.getElem_toArray, List.getElem_cons_zero, List.getElem_cons_succ]
        clear hK
        refine wpAnyH_take (i := 7) (v := ?_) rfl (by kernel_rfl) (by kernel_rfl) (by kernel_rfl) (fun _ _ _ h => h) (Or.inl ⟨by rfl, ?_⟩) hS ?_
        rotate_left
        · intro W' hS'
          go_simp
          rfl
        try simp only [Act.put, List.setIfInBounds_toArray, List.set_cons_zero, List.set_cons_succ, List.getElem_toArray, List.getElem_cons_zero, List.getElem_cons_succ]
        refine wpAnyH_ready (rs := [8]) (by kernel_rfl) (by simp) (AllReadyH.cons rfl (fun K hK => ?_) (AllReadyH.nil))
        go_simp
        refine hK.out _ _ trivial (fun hS => ?_)
        try simp only [Act.put, List.setIfInBounds_toArray, List.set_cons_zero, List.set_cons_succ, List.getElem_toArray, List.getElem_cons_zero, List.getElem_cons_succ]
        clear hK
        generalize hw5 : World.drew (World.alloc (World.alloc (World.alloc (World.alloc W _) _) _) _) = w5
        have HR5 : Hid (Blk w5 W.heap.size 52 #[.slice none 0 0, .slice none 0 0, .slice none 0 0, .int .i64 0, .slice none 0 0, .bool false]) := Lib.hid (by rw [← hw5]; repeat (with_reducible first | (apply Blk.at_; simp; done) | apply Blk.drew | apply Blk.alloc))
        have HI5 : Hid (Blk w5 (W.heap.size + 1 + 1 + 1) 52 #[.slice none 0 0, .slice none 0 0, .slice none 0 0, .int .i64 0, .slice none 0 0, .bool false]) := Lib.hid (by rw [← hw5]; repeat (with_reducible first | (apply Blk.at_; simp; done) | apply Blk.drew | apply Blk.alloc))
        have HF5 : Hid (Blk w5 (W.heap.size + 1 + 1) 58 (frsCells (List.replicate n fr0)).toArray) := Lib.hid (by rw [← hw5]; repeat (with_reducible first | (apply Blk.at_; simp; done) | apply Blk.drew | apply Blk.alloc))
        have HB5 : Hid (Blk w5 (W.heap.size + 1) 4 (boCells (List.replicate n false)).toArray) := Lib.hid (by rw [← hw5]; repeat (with_reducible first | (apply Blk.at_; simp; done) | apply Blk.drew | apply Blk.alloc))
        have HL5 : Hid (Below W.heap.size W w5) := Lib.hid (by rw [← hw5]; exact ((((((Below.refl _ _).alloc (Nat.le_refl _) _).alloc (by simp) _).alloc (by simp; omega) _).alloc (by simp; omega) _).drew))
        clear hw5
        have HT5 : Hid (ToI W (W.heap.size + 1 + 1 + 1) (W.heap.size + 1 + 1) (W.heap.size + 1) #[.slice none 0 0, .slice none 0 0, .slice none 0 0, .int .i64 0, .slice none 0 0, .bool false] (List.replicate n fr0) (List.replicate n false) w5) := Lib.hid ⟨HR5.out, HI5.out, HF5.out, HB5.out, by omega, HL5.out⟩
        have x0 := HI5.out.get 0 rfl
        have x1 := HI5.out.get 1 rfl
        have x2 := HI5.out.get 2 rfl
        have x3 := HI5.out.get 3 rfl
        have x4 := HI5.out.get 4 rfl
        have x5 := HI5.out.get 5 rfl
        have xf := HI5.out.frozen
        refine wpAnyH_ready (rs := [9]) (by kernel_rfl) (by simp) (AllReadyH.cons rfl (fun K hK => ?_) AllReadyH.nil)
        go_simp
        refine hK.out _ _ trivial (fun hS => ?_)
        try simp only [Act.put, List.setIfInBounds_toArray, List.set_cons_zero, List.set_cons_succ, List.getElem_toArray, List.getElem_cons_zero, List.getElem_cons_succ]
        clear hK
        refine wpAnyH_done (by kernel_rfl) ?_ _
        go_wp2_with fail
        go_meet
        case rel => exact ⟨W.heap.size + 1 + 1 + 1, W.heap.size + 1 + 1, W.heap.size + 1, rfl, Lib.hid ((((((HT5.out.setI 0 _).setI 1 _).setI 2 _).setI 3 _).setI 4 _).setI 5 _)⟩
      · go_simp
        refine hK.out _ _ trivial (fun hS => ?_)
        try simp only [Act.put, List.setIfInBounds_toArray, List.set_cons_zero, List.set_cons_succ, List.getElem_toArray, List.getElem_cons_zero, List.getElem_cons_succ]
        clear hK
        refine wpAnyH_ready (rs := [3]) (by kernel_rfl) (by simp) (AllReadyH.cons rfl (fun K hK => ?_) (AllReadyH.nil))
        go_simp
        refine hK.out _ _ trivial (fun hS => ?_)
        try simp only [Act.put, List.setIfInBounds_toArray, List.set_cons_zero, List.set_cons_succ, List.getElem_toArray, List.getElem_cons_zero, List.getElem_cons_succ]
        clear hK
        generalize hw5 : World.drew (World.alloc (World.alloc (World.alloc (World.alloc W _) _) _) _) = w5
        have HR5 : Hid (Blk w5 W.heap.size 52 #[.slice none 0 0, .slice none 0 0, .slice none 0 0, .int .i64 0, .slice none 0 0, .bool false]) := Lib.hid (by rw [← hw5]; repeat (with_reducible first | (apply Blk.at_; simp; done) | apply Blk.drew | apply Blk.alloc))
        have HI5 : Hid (Blk w5 (W.heap.size + 1 + 1) 52 #[.slice none 0 0, .slice none 0 0, .slice none 0 0, .int .i64 0, .slice none 0 0, .bool false]) := Lib.hid (by rw [← hw5]; repeat (with_reducible first | (apply Blk.at_; simp; done) | apply Blk.drew | apply Blk.alloc))
        have HF5 : Hid (Blk w5 (W.heap.size + 1 + 1 + 1) 58 (frsCells (List.replicate n fr0)).toArray) := Lib.hid (by rw [← hw5]; repeat (with_reducible first | (apply Blk.at_; simp; done) | apply Blk.drew | apply Blk.alloc))
        have HB5 : Hid (Blk w5 (W.heap.size + 1) 4 (boCells (List.replicate n false)).toArray) := Lib.hid (by rw [← hw5]; repeat (with_reducible first | (apply Blk.at_; simp; done) | apply Blk.drew | apply Blk.alloc))
        have HL5 : Hid (Below W.heap.size W w5) := Lib.hid (by rw [← hw5]; exact ((((((Below.refl _ _).alloc (Nat.le_refl _) _).alloc (by simp) _).alloc (by simp; omega) _).alloc (by simp; omega) _).drew))
        clear hw5
        have HT5 : Hid (ToI W (W.heap.size + 1 + 1) (W.heap.size + 1 + 1 + 1) (W.heap.size + 1) #[.slice none 0 0, .slice none 0 0, .slice none 0 0, .int .i64 0, .slice none 0 0, .bool false] (List.replicate n fr0) (List.replicate n false) w5) := Lib.hid ⟨HR5.out, HI5.out, HF5.out, HB5.out, by omega, HL5.out⟩
        have x0 := HI5.out.get 0 rfl
        have x1 := HI5.out.get 1 rfl
        have x2 := HI5.out.get 2 rfl
        have x3 := HI5.out.get 3 rfl
        have x4 := HI5.out.get 4 rfl
        have x5 := HI5.out.get 5 rfl
        have xf := HI5.out.frozen
        refine wpAnyH_take (i := 7) (v := ?_) rfl (by kernel_rfl) (by kernel_rfl) (by kernel_rfl) (fun _ _ _ h => h) (Or.inl ⟨by rfl, ?_⟩) hS ?_
        rotate_left
        · intro W' hS'
          go_simp
          rfl
        try simp only [Act.put, List.setIfInBounds_toArray, List.set_cons_zero, List.set_cons_succ, List.getElem_toArray, List.getElem_cons_zero, List.getElem_cons_succ]
        refine wpAnyH_ready (rs := [9]) (by kernel_rfl) (by simp) (AllReadyH.cons rfl (fun K hK => ?_) AllReadyH.nil)
        go_simp
        refine hK.out _ _ trivial (fun hS => ?_)
        try simp only [Act.put, List.setIfInBounds_toArray, List.set_cons_zero, List.set_cons_succ, List.getElem_toArray, List.getElem_cons_zero, List.getElem_cons_succ]
        clear hK
        refine wpAnyH_done (by kernel_rfl) ?_ _
        go_wp2_with fail
        go_meet
        case rel => exact ⟨W.heap.size + 1 + 1, W.heap.size + 1 + 1 + 1, W.heap.size + 1, rfl, Lib.hid ((((((HT5.out.setI 0 _).setI 1 _).setI 2 _).setI 3 _).setI 4 _).setI 5 _)⟩
    · go_simp
      refine hK.out _ _ trivial (fun hS => ?_)
      try simp only [Act.put, List.setIfInBounds_toArray, List.set_cons_zero, List.set_cons_succ, List.getElem_toArray, List.getElem_cons_zero, List.getElem_cons_succ]
      clear hK
      refine wpAnyH_ready (rs := [3, 6]) (by kernel_rfl) (by simp) (AllReadyH.cons rfl (fun K hK => ?_) (AllReadyH.cons rfl (fun K hK => ?_) (AllReadyH.nil)))
      · go_simp
        refine hK.out _ _ trivial (fun hS => ?_)
        try simp only [Act.put, List.setIfInBounds_toArray, List.set_cons_zero, List.set_cons_succ, List.getElem_toArray, List.getElem_cons_zero, List.getElem_cons_succ]
        clear hK
        refine wpAnyH_ready (rs := [6]) (by kernel_rfl) (by simp) (AllReadyH.cons rfl (fun K hK => ?_) (AllReadyH.nil))
        go_simp
        refine hK.out _ _ trivial (fun hS => ?_)
        try simp only [Act.put, List.setIfInBounds_toArray, List.set_cons_zero, List.set_cons_succ, List.getElem_toArray, List.getElem_cons_zero, List.getElem_cons_succ]
        clear hK
        generalize hw5 : World.drew (World.alloc (World.alloc (World.alloc (World.alloc W _) _) _) _) = w5
        have HR5 : Hid (Blk w5 W.heap.size 52 #[.slice none 0 0, .slice none 0 0, .slice none 0 0, .int .i64 0, .slice none 0 0, .bool false]) := Lib.hid (by rw [← hw5]; repeat (with_reducible first | (apply Blk.at_; simp; done) | apply Blk.drew | apply Blk.alloc))
        have HI5 : Hid (Blk w5 (W.heap.size + 1) 52 #[.slice none 0 0, .slice none 0 0, .slice none 0 0, .int .i64 0, .slice none 0 0, .bool false]) := Lib.hid (by rw [← hw5]; repeat (with_reducible first | (apply Blk.at_; simp; done) | apply Blk.drew | apply Blk.alloc))
        have HF5 : Hid (Blk w5 (W.heap.size + 1 + 1) 58 (frsCells (List.replicate n fr0)).toArray) := Lib.hid (by rw [← hw5]; repeat (with_reducible first | (apply Blk.at_; simp; done) | apply Blk.drew | apply Blk.alloc))
        have HB5 : Hid (Blk w5 (W.heap.size + 1 + 1 + 1) 4 (boCells (List.replicate n false)).toArray) := Lib.hid (by rw [← hw5]; repeat (with_reducible first | (apply Blk.at_; simp; done) | apply Blk.drew | apply Blk.alloc))
        have HL5 : Hid (Below W.heap.size W w5) := Lib.hid (by rw [← hw5]; exact ((((((Below.refl _ _).alloc (Nat.le_refl _) _).alloc (by simp) _).alloc (by simp; omega) _).alloc (by simp; omega) _).drew))
        clear hw5
        have HT5 : Hid (ToI W (W.heap.size + 1) (W.heap.size + 1 + 1) (W.heap.size + 1 + 1 + 1) #[.slice none 0 0, .slice none 0 0, .slice none 0 0, .int .i64 0, .slice none 0 0, .bool false] (List.replicate n fr0) (List.replicate n false) w5) := Lib.hid ⟨HR5.out, HI5.out, HF5.out, HB5.out, by omega, HL5.out⟩
        have x0 := HI5.out.get 0 rfl
        have x1 := HI5.out.get 1 rfl
        have x2 := HI5.out.get 2 rfl
        have x3 := HI5.out.get 3 rfl
        have x4 := HI5.out.get 4 rfl
        have x5 := HI5.out.get 5 rfl
        have xf := HI5.out.frozen
        refine wpAnyH_take (i := 7) (v := ?_) rfl (by kernel_rfl) (by kernel_rfl) (by kernel_rfl) (fun _ _ _ h => h) (Or.inl ⟨by rfl, ?_⟩) hS ?_
        rotate_left
        · intro W' hS'
          go_simp
          rfl
        try simp only [Act.put, List.setIfInBounds_toArray, List.set_cons_zero, List.set_cons_succ, List.getElem_toArray, List.getElem_cons_zero, List.getElem_cons_succ]
        refine wpAnyH_ready (rs := [9]) (by kernel_rfl) (by simp) (AllReadyH.cons rfl (fun K hK => ?_) AllReadyH.nil)
        go_simp
        refine hK.out _ _ trivial (fun hS => ?_)
        try simp only [Act.put, List.setIfInBounds_toArray, List.set_cons_zero, List.set_cons_succ, List.getElem_toArray, List.getElem_cons_zero, List.getElem_cons_succ]
        clear hK
        refine wpAnyH_done (by kernel_rfl) ?_ _
        go_wp2_with fail
        go_meet
        case rel => exact ⟨W.heap.size + 1, W.heap.size + 1 + 1, W.heap.size + 1 + 1 + 1, rfl, Lib.hid ((((((HT5.out.setI 0 _).setI 1 _).setI 2 _).setI 3 _).setI 4 _).setI 5 _)⟩
      · go_simp
        refine hK.out _ _ trivial (fun hS => ?_)
        try simp only [Act.put, List.setIfInBounds_toArray, List.set_cons_zero, List.set_cons_succ, List.getElem_toArray, List.getElem_cons_zero, List.getElem_cons_succ]
        clear hK
        refine wpAnyH_ready (rs := [3]) (by kernel_rfl) (by simp) (AllReadyH.cons rfl (fun K hK => ?_) (AllReadyH.nil))
        go_simp
        refine hK.out _ _ trivial (fun hS => ?_)
        try simp only [Act.put, List.setIfInBounds_toArray, List.set_cons_zero, List.set_cons_succ, List.getElem_toArray, List.getElem_cons_zero, List.getElem_cons_succ]
        clear hK
        generalize hw5 : World.drew (World.alloc (World.alloc (World.alloc (World.alloc W _) _) _) _) = w5
        have HR5 : Hid (Blk w5 W.heap.size 52 #[.slice none 0 0, .slice none 0 0, .slice none 0 0, .int .i64 0, .slice none 0 0, .bool false]) := Lib.hid (by rw [← hw5]; repeat (with_reducible first | (apply Blk.at_; simp; done) | apply Blk.drew | apply Blk.alloc))
        have HI5 : Hid (Blk w5 (W.heap.size + 1) 52 #[.slice none 0 0, .slice none 0 0, .slice none 0 0, .int .i64 0, .slice none 0 0, .bool false]) := Lib.hid (by rw [← hw5]; repeat (with_reducible first | (apply Blk.at_; simp; done) | apply Blk.drew | apply Blk.alloc))
        have HF5 : Hid (Blk w5 (W.heap.size + 1 + 1 + 1) 58 (frsCells (List.replicate n fr0)).toArray) := Lib.hid (by rw [← hw5]; repeat (with_reducible first | (apply Blk.at_; simp; done) | apply Blk.drew | apply Blk.alloc))
        have HB5 : Hid (Blk w5 (W.heap.size + 1 + 1) 4 (boCells (List.replicate n false)).toArray) := Lib.hid (by rw [← hw5]; repeat (with_reducible first | (apply Blk.at_; simp; done) | apply Blk.drew | apply Blk.alloc))
        have HL5 : Hid (Below W.heap.size W w5) := Lib.hid (by rw [← hw5]; exact ((((((Below.refl _ _).alloc (Nat.le_refl _) _).alloc (by simp) _).alloc (by simp; omega) _).alloc (by simp; omega) _).drew))
        clear hw5
        have HT5 : Hid (ToI W (W.heap.size + 1) (W.heap.size + 1 + 1 + 1) (W.heap.size + 1 + 1) #[.slice none 0 0, .slice none 0 0, .slice none 0 0, .int .i64 0, .slice none 0 0, .bool false] (List.replicate n fr0) (List.replicate n false) w5) := Lib.hid ⟨HR5.out, HI5.out, HF5.out, HB5.out, by omega, HL5.out⟩
        have x0 := HI5.out.get 0 rfl
        have x1 := HI5.out.get 1 rfl
        have x2 := HI5.out.get 2 rfl
        have x3 := HI5.out.get 3 rfl
        have x4 := HI5.out.get 4 rfl
        have x5 := HI5.out.get 5 rfl
        have xf := HI5.out.frozen
        refine wpAnyH_take (i := 7) (v := ?_) rfl (by kernel_rfl) (by kernel_rfl) (by kernel_rfl) (fun _ _ _ h => h) (Or.inl ⟨by rfl, ?_⟩) hS ?_
        rotate_left
        · intro W' hS'
          go_simp
          rfl
        try simp only [Act.put, List.setIfInBounds_toArray, List.set_cons_zero, List.set_cons_succ, List.getElem_toArray, List.getElem_cons_zero, List.getElem_cons_succ]
        refine wpAnyH_ready (rs := [9]) (by kernel_rfl) (by simp) (AllReadyH.cons rfl (fun K hK => ?_) AllReadyH.nil)
        go_simp
        refine hK.out _ _ trivial (fun hS => ?_)
        try simp only [Act.put, List.setIfInBounds_toArray, List.set_cons_zero, List.set_cons_succ, List.getElem_toArray, List.getElem_cons_zero, List.getElem_cons_succ]
        clear hK
        refine wpAnyH_done (by kernel_rfl) ?_ _
        go_wp2_with fail
        go_meet
        case rel => exact ⟨W.heap.size + 1, W.heap.size + 1 + 1 + 1, W.heap.size + 1 + 1, rfl, Lib.hid ((((((HT5.out.setI 0 _).setI 1 _).setI 2 _).setI 3 _).setI 4 _).setI 5 _)⟩
  case rest =>
    obtain ⟨gI, gF, gB, rfl, HT⟩ := hcut
    obtain ⟨mk, hmk⟩ : ∃ mk, mk = markF k := ⟨_, rfl⟩
    rw [← hmk] at HMK
    have HMM := Lib.hid hmk
    clear hmk
    have q2 := Lib.hid (HMK.out _ HT.out.l)
    go_upto_region 2 with (fail)
    go_cut [6] (fun v wx => v = .int .i64 (max 0 mk) ∧ Hid (ToI W gI gF gB (isC Ab n cb gF gB 0) (List.replicate n fr0) (List.replicate n false) wx))
    case first =>
      go_wp2_with (go_at_call 77; refine q2.out.mono ?_; rintro e w2 ⟨rfl, hb2⟩; have HT2 := Lib.hid (HT.out.below hb2); clear hb2)
      all_goals
        go_meet
        case rel => exact ⟨congrArg (Value.int .i64) (by omega), HT2⟩
    case rest =>
      obtain ⟨rfl, HT2⟩ := hcut
      have HI2 := Lib.hid (HI.out.below HT2.out.l)
      obtain ⟨c0, c1, c2, c3, c4, c5, c6, c7, c8, c9, c10, c11, c12⟩ := HI2.out.cs
      go_upto_region 3 with (fail)
      go_wp2_with fail
      clear c0 c1 c2 c3 c4 c5 c6 c7 c8 c9 c10 c11 c12 HI2
      have HNP := Lib.hid (wkB_p HWB.out)
      go_loopw [6, 36] (fun av q wr => ∃ j : Nat, j ≤ k.fl.length ∧ q = .int .i64 j ∧ av = .int .i64 ((k.fl.take j).foldl (fun a f => max a (f.y + f.h)) (max 0 mk)) ∧ Hid (ToI W gI gF gB (isC Ab n cb gF gB 0) (List.replicate n fr0) (List.replicate n false) wr)) (fun _ q _ => k.fl.length - (intOf q).toNat)
      case atStart => exact ⟨0, by omega, rfl, rfl, HT2⟩
      case round =>
        obtain ⟨j, hj, rfl, rfl, HJ⟩ := hrel
        by_cases hlt : j < k.fl.length
        · have d0 : decide ((j : Int) < (k.fl.length : Int)) = true := decide_eq_true (by omega)
          have d0' : decide (j < k.fl.length) = true := decide_eq_true hlt
          have hwk : IntKind.i64.wrap ((j : Int) + 1) = (j : Int) + 1 := IntWalk.i64_in _ ⟨by omega, by have := HNP.out; omega⟩
          obtain ⟨af, hAf, hlt', x0, x1, x2, x3, x4⟩ := (Reads.of_own (HI.out.below HJ.out.l).flo).fl rfl hlt
          have hfb := HNP.out.2.2.2.1 _ (List.getElem_mem hlt)
          unfold flB inL lim at hfb
          simp only [Bool.and_eq_true, decide_eq_true_eq] at hfb
          have hwy : IntKind.i64.wrap (k.fl[j].y + k.fl[j].h) = k.fl[j].y + k.fl[j].h := IntWalk.i64_in _ ⟨by omega, by omega⟩
          have HF := Lib.hid (foldl_take_succ (fun (a : Int) (f : Fl) => max a (f.y + f.h)) (max 0 mk) k.fl j hlt)
          obtain ⟨Y, HY⟩ : ∃ Y, Hid (Y = (k.fl.take j).foldl (fun (a : Int) (f : Fl) => max a (f.y + f.h)) (max 0 mk)) := ⟨_, Lib.hid rfl⟩
          rw [← HY.out] at HF ⊢
          rw [hAf]
          clear hfb
          go_wp2_with fail
          all_goals
            go_roundw
            case rel => exact ⟨j + 1, by omega, by go_num, congrArg (Value.int .i64) (by rw [HF.out]; omega), Lib.hid (HJ.out.below ((Below.refl _ _).alloc (Nat.le_refl _) _))⟩
            case measure => simp [intOf]; omega
        · have d0 : decide ((j : Int) < (k.fl.length : Int)) = false := decide_eq_false (by omega)
          have d0' : decide (j < k.fl.length) = false := decide_eq_false hlt
          have HK := Lib.hid (show j = k.fl.length by omega)
          rw [show (k.fl.take j).foldl (fun a f => max a (f.y + f.h)) (max 0 mk) = aL by rw [HK.out, List.take_length, HAL.out, HMM.out]; rfl]
          go_upto_region 8 with (fail)
          refine wp_region_S (fun b d u W' => Below wr.heap.size wr W' ∧ (d = true → ∃ gA, u = .pointer (some ⟨gA, 0, none⟩) ∧ wr.heap.size ≤ gA ∧ (if b then W'.rangeAt gA 0 (styCells s0) else Blk W' gA 69 (styCells styZF).toArray))) 13 12 9 false false (by kernel_rfl) (by kernel_rfl) (by kernel_rfl) (⟨(Below.refl _ _).drew, fun h => absurd h (by decide)⟩) ?_
          refine wpAnyS_take (i := 0) (v := ?_) rfl (by kernel_rfl) (by kernel_rfl) (by kernel_rfl) (fun _ _ _ h => h) (by rfl) (gives_pureF (by rfl) (by kernel_rfl) ?_) ?_
          rotate_left
          · intro d' u' W' hS'
            obtain ⟨c0, c1, c2, c3, c4, c5, c6, c7, c8, c9, c10, c11, c12⟩ := (HI.out.below (HJ.out.l.trans (hS'.1.mono HJ.out.l.size))).cs
            rw [hA] at c0
            go_simp
            rfl
          try simp only [Act.put, List.setIfInBounds_toArray, List.set_cons_zero, List.set_cons_succ, List.getElem_toArray, List.getElem_cons_zero, List.getElem_cons_succ]
          refine wpAnyS_take (i := 1) (v := ?_) rfl (by kernel_rfl) (by kernel_rfl) (by kernel_rfl) (fun _ _ _ h => h) (by rfl) (gives_pureF (by rfl) (by kernel_rfl) ?_) ?_
          rotate_left
          · intro d' u' W' hS'
            obtain ⟨c0, c1, c2, c3, c4, c5, c6, c7, c8, c9, c10, c11, c12⟩ := (HI.out.below (HJ.out.l.trans (hS'.1.mono HJ.out.l.size))).cs
            rw [hA] at c0
            go_simp
            rfl
          try simp only [Act.put, List.setIfInBounds_toArray, List.set_cons_zero, List.set_cons_succ, List.getElem_toArray, List.getElem_cons_zero, List.getElem_cons_succ]
          refine wpAnyS_take (i := 2) (v := ?_) rfl (by kernel_rfl) (by kernel_rfl) (by kernel_rfl) (fun _ _ _ h => h) (by rfl) (gives_pureF (by rfl) (by kernel_rfl) ?_) ?_
          rotate_left
          · intro d' u' W' hS'
            obtain ⟨c0, c1, c2, c3, c4, c5, c6, c7, c8, c9, c10, c11, c12⟩ := (HI.out.below (HJ.out.l.trans (hS'.1.mono HJ.out.l.size))).cs
            rw [hA] at c0
            go_simp
            rfl
          try simp only [Act.put, List.setIfInBounds_toArray, List.set_cons_zero, List.set_cons_succ, List.getElem_toArray, List.getElem_cons_zero, List.getElem_cons_succ]
          refine wpAnyS_take (i := 3) (v := ?_) rfl (by kernel_rfl) (by kernel_rfl) (by kernel_rfl) (fun _ _ _ h => h) (by rfl) (gives_pureF (by rfl) (by kernel_rfl) ?_) ?_
          rotate_left
          · intro d' u' W' hS'
            obtain ⟨c0, c1, c2, c3, c4, c5, c6, c7, c8, c9, c10, c11, c12⟩ := (HI.out.below (HJ.out.l.trans (hS'.1.mono HJ.out.l.size))).cs
            rw [hA] at c0
            go_simp
            rfl
          try simp only [Act.put, List.setIfInBounds_toArray, List.set_cons_zero, List.set_cons_succ, List.getElem_toArray, List.getElem_cons_zero, List.getElem_cons_succ]
          refine wpAnyS_take (i := 4) (v := ?_) rfl (by kernel_rfl) (by kernel_rfl) (by kernel_rfl) (fun _ _ _ h => h) (by rfl) (gives_pureF (by rfl) (by kernel_rfl) ?_) ?_
          rotate_left
          · intro d' u' W' hS'
            obtain ⟨c0, c1, c2, c3, c4, c5, c6, c7, c8, c9, c10, c11, c12⟩ := (HI.out.below (HJ.out.l.trans (hS'.1.mono HJ.out.l.size))).cs
            rw [hA] at c0
            go_simp
            rfl
          try simp only [Act.put, List.setIfInBounds_toArray, List.set_cons_zero, List.set_cons_succ, List.getElem_toArray, List.getElem_cons_zero, List.getElem_cons_succ]
          refine wpAnyS_take (i := 5) (v := ?_) rfl (by kernel_rfl) (by kernel_rfl) (by kernel_rfl) (fun _ _ _ h => h) (by rfl) (gives_pureF (by rfl) (by kernel_rfl) ?_) ?_
          rotate_left
          · intro d' u' W' hS'
            obtain ⟨c0, c1, c2, c3, c4, c5, c6, c7, c8, c9, c10, c11, c12⟩ := (HI.out.below (HJ.out.l.trans (hS'.1.mono HJ.out.l.size))).cs
            rw [hA] at c0
            go_simp
            rfl
          try simp only [Act.put, List.setIfInBounds_toArray, List.set_cons_zero, List.set_cons_succ, List.getElem_toArray, List.getElem_cons_zero, List.getElem_cons_succ]
          refine wpAnyS_take (i := 6) (v := ?_) rfl (by kernel_rfl) (by kernel_rfl) (by kernel_rfl) (fun _ _ _ h => h) (by rfl) (gives_pureF (by rfl) (by kernel_rfl) ?_) ?_
          rotate_left
          · intro d' u' W' hS'
            obtain ⟨c0, c1, c2, c3, c4, c5, c6, c7, c8, c9, c10, c11, c12⟩ := (HI.out.below (HJ.out.l.trans (hS'.1.mono HJ.out.l.size))).cs
            rw [hA] at c0
            go_simp
            rfl
          try simp only [Act.put, List.setIfInBounds_toArray, List.set_cons_zero, List.set_cons_succ, List.getElem_toArray, List.getElem_cons_zero, List.getElem_cons_succ]
          refine wpAnyS_take (i := 7) (v := ?_) rfl (by kernel_rfl) (by kernel_rfl) (by kernel_rfl) (fun _ _ _ h => h) (by rfl) (gives_pureF (by rfl) (by kernel_rfl) ?_) ?_
          rotate_left
          · intro d' u' W' hS'
            obtain ⟨c0, c1, c2, c3, c4, c5, c6, c7, c8, c9, c10, c11, c12⟩ := (HI.out.below (HJ.out.l.trans (hS'.1.mono HJ.out.l.size))).cs
            rw [hA] at c0
            go_simp
            rfl
          try simp only [Act.put, List.setIfInBounds_toArray, List.set_cons_zero, List.set_cons_succ, List.getElem_toArray, List.getElem_cons_zero, List.getElem_cons_succ]
          refine wpAnyS_take (i := 8) (v := ?_) rfl (by kernel_rfl) (by kernel_rfl) (by kernel_rfl) (fun _ _ _ h => h) (by rfl) (gives_pureF (by rfl) (by kernel_rfl) ?_) ?_
          rotate_left
          · intro d' u' W' hS'
            obtain ⟨c0, c1, c2, c3, c4, c5, c6, c7, c8, c9, c10, c11, c12⟩ := (HI.out.below (HJ.out.l.trans (hS'.1.mono HJ.out.l.size))).cs
            rw [hA] at c0
            go_simp
            rfl
          try simp only [Act.put, List.setIfInBounds_toArray, List.set_cons_zero, List.set_cons_succ, List.getElem_toArray, List.getElem_cons_zero, List.getElem_cons_succ]
          refine wpAnyS_take (i := 9) (v := ?_) rfl (by kernel_rfl) (by kernel_rfl) (by kernel_rfl) (fun _ _ _ h => h) (by rfl) (gives_pureF (by rfl) (by kernel_rfl) ?_) ?_
          rotate_left
          · intro d' u' W' hS'
            obtain ⟨c0, c1, c2, c3, c4, c5, c6, c7, c8, c9, c10, c11, c12⟩ := (HI.out.below (HJ.out.l.trans (hS'.1.mono HJ.out.l.size))).cs
            rw [hA] at c0
            go_simp
            rfl
          try simp only [Act.put, List.setIfInBounds_toArray, List.set_cons_zero, List.set_cons_succ, List.getElem_toArray, List.getElem_cons_zero, List.getElem_cons_succ]
          refine wpAnyS_take (i := 10) (v := ?_) rfl (by kernel_rfl) (by kernel_rfl) (by kernel_rfl) (fun _ _ _ h => h) (by rfl) (gives_pureF (by rfl) (by kernel_rfl) ?_) ?_
          rotate_left
          · intro d' u' W' hS'
            obtain ⟨c0, c1, c2, c3, c4, c5, c6, c7, c8, c9, c10, c11, c12⟩ := (HI.out.below (HJ.out.l.trans (hS'.1.mono HJ.out.l.size))).cs
            rw [hA] at c0
            go_simp
            rfl
          try simp only [Act.put, List.setIfInBounds_toArray, List.set_cons_zero, List.set_cons_succ, List.getElem_toArray, List.getElem_cons_zero, List.getElem_cons_succ]
          refine wpAnyS_take (i := 11) (v := .agg (styCells s0).toArray) rfl (by kernel_rfl) (by kernel_rfl) (by kernel_rfl) (fun _ _ _ h => h) (by rfl) (gives_yields ?_) ?_
          · refine yieldsIf_load_mid (by rfl) 69 (.tmp 58) rfl (ad.block) (ad.off + 1) rfl (styCells s0) _ ?_ Try.underlying69 rfl (by kernel_rfl)
            rintro W' ⟨b', d', u', hS'⟩
            exact (HR0.out _ (HJ.out.l.trans (hS'.1.mono HJ.out.l.size)))
          try simp only [Act.put, List.setIfInBounds_toArray, List.set_cons_zero, List.set_cons_succ, List.getElem_toArray, List.getElem_cons_zero, List.getElem_cons_succ]
          refine wpAnyS_alloc (i := 12) (b := false) (.cells (styCells styZF).toArray 69) rfl (by kernel_rfl) (by rfl) (by rfl) (by kernel_rfl) ?_ (fun u' W' hS' => ⟨hS'.1.alloc hS'.1.size _, fun _ => ⟨_, rfl, hS'.1.size, Blk.new _ _ _⟩⟩) (fun gA => ?_)
          · intro W'
            first | rfl | kernel_rfl
          try simp only [Act.put, List.setIfInBounds_toArray, List.set_cons_zero, List.set_cons_succ, List.getElem_toArray, List.getElem_cons_zero, List.getElem_cons_succ]
          refine wpAnyS_store (i := 13) (d := true) (fun W' => W'.setCells gA 0 (styCells s0)) rfl (by kernel_rfl) (by rfl) (by rfl) (by kernel_rfl) rfl ?_ (fun W' hS' => ?_) ?_
          · intro W' hS'
            obtain ⟨gA', e1, e2, e3⟩ := hS'.2 rfl
            have e4 : gA = gA' := by injection e1 with e1; injection e1 with e1; injection e1
            subst e4
            exact exec_store_midF 69 (.tmp 9) (.tmp 59) rfl gA 0 (styCells s0) rfl rfl W' (there_blkF e3 (Nat.le_refl _)) (by kernel_rfl) HO.out
          · obtain ⟨gA', e1, e2, e3⟩ := hS'.2 rfl
            have e4 : gA = gA' := by injection e1 with e1; injection e1 with e1; injection e1
            subst e4
            exact ⟨below_setCellsF e2 _ _ _ _ hS'.1, fun _ => ⟨gA, rfl, e2, World.rangeAt_setCells_same _ _ _ _ (there_blkF e3 (Nat.le_refl _))⟩⟩
          try simp only [Act.put, List.setIfInBounds_toArray, List.set_cons_zero, List.set_cons_succ, List.getElem_toArray, List.getElem_cons_zero, List.getElem_cons_succ]
          refine wpAnyS_done (b := true) (d := true) (by kernel_rfl) (by kernel_rfl) (by kernel_rfl) rfl (fun w3 hS => ?_) _
          obtain ⟨gA', e1, e2, e3⟩ := hS.2 rfl
          have e4 : gA = gA' := by injection e1 with e1; injection e1 with e1; injection e1
          subst e4
          have HT3 := Lib.hid (HJ.out.below hS.1)
          have HR3 : Hid (w3.rangeAt gA 0 (styCells s0)) := Lib.hid e3
          have HZ3 : Hid (gA < w3.heap.size) := Lib.hid (by have := World.cell?_lt (e3 0 _ rfl); simpa using this)
          clear hS e1 e2 e3
          obtain ⟨hv, hhv⟩ : ∃ hv, hv = highF s0 aL := ⟨_, rfl⟩
          obtain ⟨dn, hdn⟩ : ∃ dn, dn = roofF s0 + floorF s0 := ⟨_, rfl⟩
          have HHA := Lib.hid (fun W' => HHG.out aL W')
          rw [← hhv] at HHA
          have HFA := Lib.hid HFR.out
          rw [← hdn] at HFA
          have hbb := in40_p HHB.out
          have u1 : IntKind.i64.wrap (hv + dn) = Hh := by rw [hhv, hdn, ← HHH.out]; exact IntWalk.i64_in _ ⟨by omega, by omega⟩
          have HCH : Hid (∀ W', Calls Try.prog 60 #[.int .i64 Hh] W' fun e w' => e = .returned (.tuple #[.int .i64 Hh, .bool false]) ∧ W' = w') := Lib.hid (fun W' => by have := cut_any Hh W'; rw [(in40_cut HHB.out).1, (in40_cut HHB.out).2] at this; exact this)
          clear hhv hdn hbb
          go_upto_region 10 with (first | (refine wpList_load_mid rfl 69 (.tmp 9) rfl gA 0 rfl (styCells s0) _ HR3.out Try.underlying69 rfl (by kernel_rfl) ?_) | (go_at_call 50; refine (HFA.out _).mono ?_; rintro e w4 ⟨rfl, hw4⟩; have HB4 : Hid (Below w3.heap.size w3 w4) := Lib.hid (hw4 ▸ (Below.refl _ _).alloc (Nat.le_refl _) _); clear hw4; have HT4 := Lib.hid (HT3.out.below HB4.out); have HR4 := Lib.hid (rng_below HR3.out HZ3.out HB4.out)))
          have x3 := HT4.out.i.get 3 (v := .int .i64 0) rfl
          go_upto_region 12 with (first | (refine wpList_load_mid rfl 69 (.tmp 9) rfl gA 0 rfl (styCells s0) _ HR4.out Try.underlying69 rfl (by kernel_rfl) ?_) | (go_at_call 78; refine (HHA.out _).mono ?_; rintro e w5 ⟨rfl, hw5⟩; have HT5 := Lib.hid (HT4.out.below (hw5 ▸ (Below.refl _ _).alloc (Nat.le_refl _) _)); clear hw5 x3; have x3 := HT5.out.i.get 3 (v := .int .i64 0) rfl; have xf := HT5.out.i.frozen 3) | (go_at_call 60; refine (HCH.out _).mono ?_; rintro e w6 ⟨rfl, hw6⟩; subst hw6))
          have HT6' := Lib.hid (HT5.out.setI 3 (.int .i64 Hh))
          clear x3 xf
          generalize World.setCell w5 _ _ = w6 at HT6' ⊢
          have HT6 : Hid (ToI W gI gF gB (isC Ab n cb gF gB Hh) (List.replicate n fr0) (List.replicate n false) w6) := HT6'
          clear HT6' HT5 HT4 HR4 HB4 HR3 HT3
          have q12 := Lib.hid (HLN.out w6 HT6.out.l 0 h0)
          rw [show ((0 : Nat) : Int) = 0 from rfl] at q12
          obtain ⟨c0, c1, c2, c3, c4, c5, c6, c7, c8, c9, c10, c11, c12⟩ := (HI.out.below HT6.out.l).cs
          go_upto_region 13 with (go_at_call 79; refine q12.out.mono ?_; rintro e w7 ⟨rfl, hb7⟩; have HT7 := Lib.hid (HT6.out.below hb7); clear hb7; have x4 := HT7.out.i.get 4 (v := .slice none 0 0) rfl; have x5 := HT7.out.i.get 5 (v := .bool false) rfl; have xf := HT7.out.i.frozen)
          clear c0 c1 c2 c3 c4 c5 c6 c7 c8 c9 c10 c11 c12
          have HT8' := Lib.hid (((HT7.out.setI 4 (.slice none 0 0)).setI 5 (.bool false)).setI 5 (.bool false))
          go_upto_region 14 with (fail)
          clear x4 x5 xf
          generalize World.setCell (World.setCell (World.setCell w7 _ _) _ _) _ _ = w8 at HT8' ⊢
          have HT8 : Hid (ToI W gI gF gB (isC Ab n cb gF gB Hh) (List.replicate n fr0) (List.replicate n false) w8) := HT8'
          clear HT8'
          go_wp2_with fail
          have HADB : Hid (ad.block < W.heap.size) := Lib.hid (by obtain ⟨ad', hA', hb', -, -, -⟩ := WkI.nd C k Af Ao cf co W HC.out HI.out 0 h0; rw [hA] at hA'; injection hA' with hA'; subst hA'; exact hb')
          go_loopw [94] (fun q wr => ∃ j : Nat, j ≤ n ∧ q = .int .i64 j ∧ Hid (ToI W gI gF gB (isC Ab n cb gF gB Hh) (((List.range' 1 n).map (frF C.l C.us k)).take j ++ List.replicate (n - j) fr0) (List.replicate n false) wr)) (fun q _ => n - (intOf q).toNat)
          case atStart => exact ⟨0, by omega, rfl, Lib.hid (by simpa using HT8.out)⟩
          case round =>
            obtain ⟨j, hj, rfl, HJ2⟩ := hrel
            by_cases hlt : j < n
            · have hj0 := hlt
              have d0 : decide ((j : Int) < (n : Int)) = true := decide_eq_true (by omega)
              have d0' : decide (j < n) = true := decide_eq_true hlt
              have hwk : IntKind.i64.wrap ((j : Int) + 1) = (j : Int) + 1 := IntWalk.i64_in _ ⟨by omega, by have := HN1.out; omega⟩
              obtain ⟨ab, u, hAb, hblt, hu, hbc⟩ := (HBX.out.below HJ2.out.l).at_ hlt
              obtain ⟨ii, hii⟩ : ∃ ii, ii = j + 1 := ⟨_, rfl⟩
              have hu2 : u = .int .i64 (ii : Nat) := by
                rw [List.getElem?_map, List.getElem?_range' (by omega)] at hu
                simp at hu
                rw [← hu, hii]; simp; omega
              subst hu2
              have HII := Lib.hid hii
              have HIL : Hid (ii < C.l.length) := Lib.hid (by rw [HNN.out, hii]; omega)
              have HI0 : Hid (0 < ii) := Lib.hid (by omega)
              obtain ⟨p, hp⟩ := Int.eq_ofNat_of_zero_le (HC.out.par ii HIL.out HI0.out).1
              have HPL : Hid (p < C.l.length) := Lib.hid (by have := (HC.out.par ii HIL.out HI0.out).2; have := HIL.out; omega)
              have HPI : Hid (parI C.l ii = p) := Lib.hid (by unfold parI; rw [List.getElem?_eq_getElem HIL.out]; simp [hp])
              have HPC : Hid (∀ W', Below W.heap.size W W' → W'.cell? (ad.add (ii * 44)) = some (.int .i64 (p : Int))) := Lib.hid (fun W' hb => by
                obtain ⟨ad', hA', -, -, -, hnd⟩ := WkI.nd C k Af Ao cf co W' HC.out (HI.out.below hb) ii HIL.out
                rw [hA] at hA'
                injection hA' with hA'
                subst hA'
                have := (nd_c hnd).1
                rw [hp] at this
                exact this)
              have HIS : Hid (ii < k.sp.length) := Lib.hid (by rw [HI.out.len]; exact HIL.out)
              have HPS : Hid (p < k.sp.length) := Lib.hid (by rw [HI.out.len]; exact HPL.out)
              obtain ⟨fx, fy, fw, fh, HFV⟩ : ∃ fx fy fw fh, Hid (frF C.l C.us k ii = ⟨fx, fy, fw, fh⟩) := ⟨_, _, _, _, Lib.hid rfl⟩
              have HFQ : Hid (in40 fx = true ∧ in40 fy = true ∧ in40 fw = true ∧ in40 fh = true) := Lib.hid (by
                have := HFRB.out ii HI0.out HIL.out
                rw [HFV.out] at this
                unfold frB at this
                simp only [Bool.and_eq_true] at this
                exact ⟨this.1.1.1, this.1.1.2, this.1.2, this.2⟩)
              obtain ⟨sI, hsI⟩ : ∃ sI, k.sp[ii]'HIS.out = sI := ⟨_, rfl⟩
              obtain ⟨sP, hsP⟩ : ∃ sP, k.sp[p]'HPS.out = sP := ⟨_, rfl⟩
              obtain ⟨la, hla⟩ : ∃ la, sI.left = la := ⟨_, rfl⟩
              obtain ⟨ta, hta⟩ : ∃ ta, sI.top = ta := ⟨_, rfl⟩
              obtain ⟨lb, hlb⟩ : ∃ lb, sP.left = lb := ⟨_, rfl⟩
              obtain ⟨tb, htb⟩ : ∃ tb, sP.top = tb := ⟨_, rfl⟩
              have HVV : Hid (la - lb = fx ∧ ta - tb = fy ∧ (usF C.us ii).w = fw ∧ sI.high = fh) := Lib.hid (by
                have h := HFV.out
                unfold frF at h
                rw [HPI.out] at h
                injection h with h1 h2 h3 h4
                have e1 : spF k ii = sI := by unfold spF; rw [List.getElem?_eq_getElem HIS.out, hsI]; rfl
                have e2 : spF k p = sP := by unfold spF; rw [List.getElem?_eq_getElem HPS.out, hsP]; rfl
                rw [e1, e2] at h1 h2
                rw [e1] at h4
                rw [hla, hlb] at h1
                rw [hta, htb] at h2
                exact ⟨h1, h2, h3, h4⟩)
              have HSC : Hid (∀ W', Below W.heap.size W W' → W'.cell? ⟨C.bs, ii * 7, none⟩ = some (.int .i64 la) ∧ W'.cell? ⟨C.bs, ii * 7 + 1, none⟩ = some (.int .i64 ta) ∧ W'.cell? ⟨C.bs, ii * 7 + 2, none⟩ = some (.int .i64 fh) ∧ W'.cell? ⟨C.bs, p * 7, none⟩ = some (.int .i64 lb) ∧ W'.cell? ⟨C.bs, p * 7 + 1, none⟩ = some (.int .i64 tb)) := Lib.hid (fun W' hb => by
                have x1 := (HI.out.below hb).sc HIS.out
                have x2 := (HI.out.below hb).sc HPS.out
                rw [hsI, hla, hta, HVV.out.2.2.2] at x1
                rw [hsP, hlb, htb] at x2
                exact ⟨x1.1, x1.2.1, x1.2.2.1, x2.1, x2.2.1⟩)
              clear hsI hsP hla hta hlb htb
              have hq1 := in40_p HFQ.out.1
              have hq2 := in40_p HFQ.out.2.1
              have v1 : IntKind.i64.wrap (la - lb) = fx := (IntWalk.i64_in _ (by have := HVV.out.1; omega)).trans HVV.out.1
              have v2 : IntKind.i64.wrap (ta - tb) = fy := (IntWalk.i64_in _ (by have := HVV.out.2.1; omega)).trans HVV.out.2.1
              have HWD2 : Hid (∀ W', Below W.heap.size W W' → Calls Try.prog 81 #[.pointer (some ⟨C.bw, 0, none⟩), .int .i64 ii] W' fun e w' => e = .returned (.int .i64 fw) ∧ Below W'.heap.size W' w') := Lib.hid (fun W' hb => by have := HWD.out W' hb ii HIL.out; rw [HVV.out.2.2.1] at this; exact this)
              subst hAb
              have hal : ad.block < wr.heap.size := Nat.lt_of_lt_of_le HADB.out HJ2.out.l.size
              have hii2 : (ii : Int) < (C.l.length : Int) := by have := HIL.out; omega
              clear hii hu hp hq1 hq2
              go_upto_region 17 with (fail)
              refine wp_region_S (fun _ _ _ W' => Below wr.heap.size wr W') 1000 1000 100000 true true (by kernel_rfl) (by kernel_rfl) (by kernel_rfl) ((Below.refl _ _).drew) ?_
              refine wpAnyS_take (i := 0) (v := ?_) rfl (by kernel_rfl) (by kernel_rfl) (by kernel_rfl) (fun _ _ _ h => h) (by rfl) (gives_pure (by rfl) ?_) ?_
              rotate_left
              · intro b' d' u' W' hS'
                obtain ⟨c0, c1, c2, c3, c4, c5, c6, c7, c8, c9, c10, c11, c12⟩ := (HI.out.below (HJ2.out.l.trans (hS'.mono HJ2.out.l.size))).cs
                rw [hA] at c0
                have y0 := HPC.out _ (HJ2.out.l.trans (hS'.mono HJ2.out.l.size))
                go_simp
                rfl
              try simp only [Act.put, List.setIfInBounds_toArray, List.set_cons_zero, List.set_cons_succ, List.getElem_toArray, List.getElem_cons_zero, List.getElem_cons_succ]
              refine wpAnyS_take (i := 1) (v := ?_) rfl (by kernel_rfl) (by kernel_rfl) (by kernel_rfl) (fun _ _ _ h => h) (by rfl) (gives_pure (by rfl) ?_) ?_
              rotate_left
              · intro b' d' u' W' hS'
                obtain ⟨c0, c1, c2, c3, c4, c5, c6, c7, c8, c9, c10, c11, c12⟩ := (HI.out.below (HJ2.out.l.trans (hS'.mono HJ2.out.l.size))).cs
                rw [hA] at c0
                have y0 := HPC.out _ (HJ2.out.l.trans (hS'.mono HJ2.out.l.size))
                go_simp
                rfl
              try simp only [Act.put, List.setIfInBounds_toArray, List.set_cons_zero, List.set_cons_succ, List.getElem_toArray, List.getElem_cons_zero, List.getElem_cons_succ]
              refine wpAnyS_take (i := 2) (v := _) rfl (by kernel_rfl) (by kernel_rfl) (by kernel_rfl) (fun _ _ _ h => h) (by rfl) (gives_call (by rfl) _ _ ?_ (fun b' d' u' W' hS' => (HSP.out W' (HJ2.out.l.trans (hS'.mono HJ2.out.l.size)) ii HIL.out).mono (fun _ _ h => ⟨h.1, hS'.trans (h.2.mono hS'.size)⟩))) ?_
              · intro W'
                first | rfl | kernel_rfl
              try simp only [Act.put, List.setIfInBounds_toArray, List.set_cons_zero, List.set_cons_succ, List.getElem_toArray, List.getElem_cons_zero, List.getElem_cons_succ]
              refine wpAnyS_take (i := 3) (v := ?_) rfl (by kernel_rfl) (by kernel_rfl) (by kernel_rfl) (fun _ _ _ h => h) (by rfl) (gives_pure (by rfl) ?_) ?_
              rotate_left
              · intro b' d' u' W' hS'
                obtain ⟨c0, c1, c2, c3, c4, c5, c6, c7, c8, c9, c10, c11, c12⟩ := (HI.out.below (HJ2.out.l.trans (hS'.mono HJ2.out.l.size))).cs
                rw [hA] at c0
                have y0 := HPC.out _ (HJ2.out.l.trans (hS'.mono HJ2.out.l.size))
                go_simp
                rfl
              try simp only [Act.put, List.setIfInBounds_toArray, List.set_cons_zero, List.set_cons_succ, List.getElem_toArray, List.getElem_cons_zero, List.getElem_cons_succ]
              refine wpAnyS_take (i := 4) (v := ?_) rfl (by kernel_rfl) (by kernel_rfl) (by kernel_rfl) (fun _ _ _ h => h) (by rfl) (gives_pure (by rfl) ?_) ?_
              rotate_left
              · intro b' d' u' W' hS'
                obtain ⟨c0, c1, c2, c3, c4, c5, c6, c7, c8, c9, c10, c11, c12⟩ := (HI.out.below (HJ2.out.l.trans (hS'.mono HJ2.out.l.size))).cs
                rw [hA] at c0
                have y0 := HPC.out _ (HJ2.out.l.trans (hS'.mono HJ2.out.l.size))
                go_simp
                rfl
              try simp only [Act.put, List.setIfInBounds_toArray, List.set_cons_zero, List.set_cons_succ, List.getElem_toArray, List.getElem_cons_zero, List.getElem_cons_succ]
              refine wpAnyS_take (i := 5) (v := ?_) rfl (by kernel_rfl) (by kernel_rfl) (by kernel_rfl) (fun _ _ _ h => h) (by rfl) (gives_pure (by rfl) ?_) ?_
              rotate_left
              · intro b' d' u' W' hS'
                obtain ⟨c0, c1, c2, c3, c4, c5, c6, c7, c8, c9, c10, c11, c12⟩ := (HI.out.below (HJ2.out.l.trans (hS'.mono HJ2.out.l.size))).cs
                rw [hA] at c0
                have y0 := HPC.out _ (HJ2.out.l.trans (hS'.mono HJ2.out.l.size))
                go_simp
                rfl
              try simp only [Act.put, List.setIfInBounds_toArray, List.set_cons_zero, List.set_cons_succ, List.getElem_toArray, List.getElem_cons_zero, List.getElem_cons_succ]
              refine wpAnyS_take (i := 6) (v := ?_) rfl (by kernel_rfl) (by kernel_rfl) (by kernel_rfl) (fun _ _ _ h => h) (by rfl) (gives_pure (by rfl) ?_) ?_
              rotate_left
              · intro b' d' u' W' hS'
                obtain ⟨c0, c1, c2, c3, c4, c5, c6, c7, c8, c9, c10, c11, c12⟩ := (HI.out.below (HJ2.out.l.trans (hS'.mono HJ2.out.l.size))).cs
                rw [hA] at c0
                have y0 := HPC.out _ (HJ2.out.l.trans (hS'.mono HJ2.out.l.size))
                go_simp
                rfl
              try simp only [Act.put, List.setIfInBounds_toArray, List.set_cons_zero, List.set_cons_succ, List.getElem_toArray, List.getElem_cons_zero, List.getElem_cons_succ]
              refine wpAnyS_take (i := 7) (v := ?_) rfl (by kernel_rfl) (by kernel_rfl) (by kernel_rfl) (fun _ _ _ h => h) (by rfl) (gives_pure (by rfl) ?_) ?_
              rotate_left
              · intro b' d' u' W' hS'
                obtain ⟨c0, c1, c2, c3, c4, c5, c6, c7, c8, c9, c10, c11, c12⟩ := (HI.out.below (HJ2.out.l.trans (hS'.mono HJ2.out.l.size))).cs
                rw [hA] at c0
                have y0 := HPC.out _ (HJ2.out.l.trans (hS'.mono HJ2.out.l.size))
                go_simp
                rfl
              try simp only [Act.put, List.setIfInBounds_toArray, List.set_cons_zero, List.set_cons_succ, List.getElem_toArray, List.getElem_cons_zero, List.getElem_cons_succ]
              refine wpAnyS_take (i := 8) (v := ?_) rfl (by kernel_rfl) (by kernel_rfl) (by kernel_rfl) (fun _ _ _ h => h) (by rfl) (gives_pure (by rfl) ?_) ?_
              rotate_left
              · intro b' d' u' W' hS'
                obtain ⟨c0, c1, c2, c3, c4, c5, c6, c7, c8, c9, c10, c11, c12⟩ := (HI.out.below (HJ2.out.l.trans (hS'.mono HJ2.out.l.size))).cs
                rw [hA] at c0
                have y0 := HPC.out _ (HJ2.out.l.trans (hS'.mono HJ2.out.l.size))
                go_simp
                rfl
              try simp only [Act.put, List.setIfInBounds_toArray, List.set_cons_zero, List.set_cons_succ, List.getElem_toArray, List.getElem_cons_zero, List.getElem_cons_succ]
              refine wpAnyS_take (i := 9) (v := ?_) rfl (by kernel_rfl) (by kernel_rfl) (by kernel_rfl) (fun _ _ _ h => h) (by rfl) (gives_pure (by rfl) ?_) ?_
              rotate_left
              · intro b' d' u' W' hS'
                obtain ⟨c0, c1, c2, c3, c4, c5, c6, c7, c8, c9, c10, c11, c12⟩ := (HI.out.below (HJ2.out.l.trans (hS'.mono HJ2.out.l.size))).cs
                rw [hA] at c0
                have y0 := HPC.out _ (HJ2.out.l.trans (hS'.mono HJ2.out.l.size))
                go_simp
                rfl
              try simp only [Act.put, List.setIfInBounds_toArray, List.set_cons_zero, List.set_cons_succ, List.getElem_toArray, List.getElem_cons_zero, List.getElem_cons_succ]
              refine wpAnyS_take (i := 10) (v := ?_) rfl (by kernel_rfl) (by kernel_rfl) (by kernel_rfl) (fun _ _ _ h => h) (by rfl) (gives_pure (by rfl) ?_) ?_
              rotate_left
              · intro b' d' u' W' hS'
                obtain ⟨c0, c1, c2, c3, c4, c5, c6, c7, c8, c9, c10, c11, c12⟩ := (HI.out.below (HJ2.out.l.trans (hS'.mono HJ2.out.l.size))).cs
                rw [hA] at c0
                have y0 := HPC.out _ (HJ2.out.l.trans (hS'.mono HJ2.out.l.size))
                go_simp
                rfl
              try simp only [Act.put, List.setIfInBounds_toArray, List.set_cons_zero, List.set_cons_succ, List.getElem_toArray, List.getElem_cons_zero, List.getElem_cons_succ]
              refine wpAnyS_take (i := 11) (v := ?_) rfl (by kernel_rfl) (by kernel_rfl) (by kernel_rfl) (fun _ _ _ h => h) (by rfl) (gives_pure (by rfl) ?_) ?_
              rotate_left
              · intro b' d' u' W' hS'
                obtain ⟨c0, c1, c2, c3, c4, c5, c6, c7, c8, c9, c10, c11, c12⟩ := (HI.out.below (HJ2.out.l.trans (hS'.mono HJ2.out.l.size))).cs
                rw [hA] at c0
                have y0 := HPC.out _ (HJ2.out.l.trans (hS'.mono HJ2.out.l.size))
                go_simp
                rfl
              try simp only [Act.put, List.setIfInBounds_toArray, List.set_cons_zero, List.set_cons_succ, List.getElem_toArray, List.getElem_cons_zero, List.getElem_cons_succ]
              refine wpAnyS_take (i := 12) (v := ?_) rfl (by kernel_rfl) (by kernel_rfl) (by kernel_rfl) (fun _ _ _ h => h) (by rfl) (gives_pure (by rfl) ?_) ?_
              rotate_left
              · intro b' d' u' W' hS'
                obtain ⟨c0, c1, c2, c3, c4, c5, c6, c7, c8, c9, c10, c11, c12⟩ := (HI.out.below (HJ2.out.l.trans (hS'.mono HJ2.out.l.size))).cs
                rw [hA] at c0
                have y0 := HPC.out _ (HJ2.out.l.trans (hS'.mono HJ2.out.l.size))
                go_simp
                rfl
              try simp only [Act.put, List.setIfInBounds_toArray, List.set_cons_zero, List.set_cons_succ, List.getElem_toArray, List.getElem_cons_zero, List.getElem_cons_succ]
              refine wpAnyS_take (i := 13) (v := _) rfl (by kernel_rfl) (by kernel_rfl) (by kernel_rfl) (fun _ _ _ h => h) (by rfl) (gives_call (by rfl) _ _ ?_ (fun b' d' u' W' hS' => (HSP.out W' (HJ2.out.l.trans (hS'.mono HJ2.out.l.size)) p HPL.out).mono (fun _ _ h => ⟨h.1, hS'.trans (h.2.mono hS'.size)⟩))) ?_
              · intro W'
                first | rfl | kernel_rfl
              try simp only [Act.put, List.setIfInBounds_toArray, List.set_cons_zero, List.set_cons_succ, List.getElem_toArray, List.getElem_cons_zero, List.getElem_cons_succ]
              refine wpAnyS_take (i := 14) (v := ?_) rfl (by kernel_rfl) (by kernel_rfl) (by kernel_rfl) (fun _ _ _ h => h) (by rfl) (gives_pure (by rfl) ?_) ?_
              rotate_left
              · intro b' d' u' W' hS'
                obtain ⟨c0, c1, c2, c3, c4, c5, c6, c7, c8, c9, c10, c11, c12⟩ := (HI.out.below (HJ2.out.l.trans (hS'.mono HJ2.out.l.size))).cs
                rw [hA] at c0
                have y0 := HPC.out _ (HJ2.out.l.trans (hS'.mono HJ2.out.l.size))
                go_simp
                rfl
              try simp only [Act.put, List.setIfInBounds_toArray, List.set_cons_zero, List.set_cons_succ, List.getElem_toArray, List.getElem_cons_zero, List.getElem_cons_succ]
              refine wpAnyS_take (i := 15) (v := ?_) rfl (by kernel_rfl) (by kernel_rfl) (by kernel_rfl) (fun _ _ _ h => h) (by rfl) (gives_pure (by rfl) ?_) ?_
              rotate_left
              · intro b' d' u' W' hS'
                obtain ⟨c0, c1, c2, c3, c4, c5, c6, c7, c8, c9, c10, c11, c12⟩ := (HI.out.below (HJ2.out.l.trans (hS'.mono HJ2.out.l.size))).cs
                rw [hA] at c0
                have y0 := HPC.out _ (HJ2.out.l.trans (hS'.mono HJ2.out.l.size))
                go_simp
                rfl
              try simp only [Act.put, List.setIfInBounds_toArray, List.set_cons_zero, List.set_cons_succ, List.getElem_toArray, List.getElem_cons_zero, List.getElem_cons_succ]
              refine wpAnyS_done (b := true) (d := true) (by kernel_rfl) (by kernel_rfl) (by kernel_rfl) rfl (fun w9 hS => ?_) _
              have HT9 := Lib.hid (HJ2.out.below hS)
              clear hS hbc hblt
              go_upto_region 20 with (fail)
              obtain ⟨w10, hw10⟩ : ∃ w10, w10 = w9.alloc (.cells #[.bool false] 4) := ⟨_, rfl⟩
              have HG10' : Hid (Blk w10 w9.heap.size 4 #[.bool false]) := Lib.hid (by rw [hw10]; exact Blk.new _ _ _)
              have HT10 : Hid (ToI W gI gF gB (isC (some ab) n cb gF gB Hh) (((List.range' 1 n).map (frF C.l C.us k)).take j ++ List.replicate (n - j) fr0) (List.replicate n false) w10) := Lib.hid (by rw [hw10]; exact HT9.out.below ((Below.refl _ _).alloc (Nat.le_refl _) _))
              have HGB : Hid (gB < w9.heap.size ∧ gF < w9.heap.size) := Lib.hid ⟨HT9.out.b.lt, HT9.out.f.lt⟩
              rw [← hw10]
              obtain ⟨gb, hgb⟩ : ∃ gb, gb = w9.heap.size := ⟨_, rfl⟩
              rw [← hgb] at HG10' HGB ⊢
              have HG10 := HG10'
              clear hw10 hgb HG10' HT9
              refine wp_region_S (fun b d u W' => Below w10.heap.size w10 W' ∧ (d = true → ∃ gA, u = .pointer (some ⟨gA, 0, none⟩) ∧ w10.heap.size ≤ gA ∧ Blk W' gA 58 (if b then #[.int .i64 fx, .int .i64 fy, .int .i64 fw, .int .i64 fh, .slice none 0 0] else #[.int .i64 0, .int .i64 0, .int .i64 0, .int .i64 0, .slice none 0 0]))) 35 34 19 false false (by kernel_rfl) (by kernel_rfl) (by kernel_rfl) (⟨(Below.refl _ _).drew, fun h => absurd h (by decide)⟩) ?_
              refine wpAnyS_take (i := 0) (v := ?_) rfl (by kernel_rfl) (by kernel_rfl) (by kernel_rfl) (fun _ _ _ h => h) (by rfl) (gives_pureF (by rfl) (by kernel_rfl) ?_) ?_
              rotate_left
              · intro d' u' W' hS'
                obtain ⟨s0', s1', s2', r0', r1'⟩ := HSC.out W' (HT10.out.l.trans (hS'.1.mono HT10.out.l.size))
                go_simp
                rfl
              try simp only [Act.put, List.setIfInBounds_toArray, List.set_cons_zero, List.set_cons_succ, List.getElem_toArray, List.getElem_cons_zero, List.getElem_cons_succ]
              refine wpAnyS_take (i := 1) (v := ?_) rfl (by kernel_rfl) (by kernel_rfl) (by kernel_rfl) (fun _ _ _ h => h) (by rfl) (gives_pureF (by rfl) (by kernel_rfl) ?_) ?_
              rotate_left
              · intro d' u' W' hS'
                obtain ⟨s0', s1', s2', r0', r1'⟩ := HSC.out W' (HT10.out.l.trans (hS'.1.mono HT10.out.l.size))
                go_simp
                rfl
              try simp only [Act.put, List.setIfInBounds_toArray, List.set_cons_zero, List.set_cons_succ, List.getElem_toArray, List.getElem_cons_zero, List.getElem_cons_succ]
              refine wpAnyS_take (i := 2) (v := ?_) rfl (by kernel_rfl) (by kernel_rfl) (by kernel_rfl) (fun _ _ _ h => h) (by rfl) (gives_pureF (by rfl) (by kernel_rfl) ?_) ?_
              rotate_left
              · intro d' u' W' hS'
                obtain ⟨s0', s1', s2', r0', r1'⟩ := HSC.out W' (HT10.out.l.trans (hS'.1.mono HT10.out.l.size))
                go_simp
                rfl
              try simp only [Act.put, List.setIfInBounds_toArray, List.set_cons_zero, List.set_cons_succ, List.getElem_toArray, List.getElem_cons_zero, List.getElem_cons_succ]
              refine wpAnyS_take (i := 3) (v := ?_) rfl (by kernel_rfl) (by kernel_rfl) (by kernel_rfl) (fun _ _ _ h => h) (by rfl) (gives_pureF (by rfl) (by kernel_rfl) ?_) ?_
              rotate_left
              · intro d' u' W' hS'
                obtain ⟨s0', s1', s2', r0', r1'⟩ := HSC.out W' (HT10.out.l.trans (hS'.1.mono HT10.out.l.size))
                go_simp
                rfl
              try simp only [Act.put, List.setIfInBounds_toArray, List.set_cons_zero, List.set_cons_succ, List.getElem_toArray, List.getElem_cons_zero, List.getElem_cons_succ]
              refine wpAnyS_take (i := 4) (v := ?_) rfl (by kernel_rfl) (by kernel_rfl) (by kernel_rfl) (fun _ _ _ h => h) (by rfl) (gives_pureF (by rfl) (by kernel_rfl) ?_) ?_
              rotate_left
              · intro d' u' W' hS'
                obtain ⟨s0', s1', s2', r0', r1'⟩ := HSC.out W' (HT10.out.l.trans (hS'.1.mono HT10.out.l.size))
                go_simp
                rfl
              try simp only [Act.put, List.setIfInBounds_toArray, List.set_cons_zero, List.set_cons_succ, List.getElem_toArray, List.getElem_cons_zero, List.getElem_cons_succ]
              refine wpAnyS_take (i := 5) (v := ?_) rfl (by kernel_rfl) (by kernel_rfl) (by kernel_rfl) (fun _ _ _ h => h) (by rfl) (gives_pureF (by rfl) (by kernel_rfl) ?_) ?_
              rotate_left
              · intro d' u' W' hS'
                obtain ⟨s0', s1', s2', r0', r1'⟩ := HSC.out W' (HT10.out.l.trans (hS'.1.mono HT10.out.l.size))
                go_simp
                rfl
              try simp only [Act.put, List.setIfInBounds_toArray, List.set_cons_zero, List.set_cons_succ, List.getElem_toArray, List.getElem_cons_zero, List.getElem_cons_succ]
              refine wpAnyS_take (i := 6) (v := ?_) rfl (by kernel_rfl) (by kernel_rfl) (by kernel_rfl) (fun _ _ _ h => h) (by rfl) (gives_pureF (by rfl) (by kernel_rfl) ?_) ?_
              rotate_left
              · intro d' u' W' hS'
                obtain ⟨s0', s1', s2', r0', r1'⟩ := HSC.out W' (HT10.out.l.trans (hS'.1.mono HT10.out.l.size))
                go_simp
                rfl
              try simp only [Act.put, List.setIfInBounds_toArray, List.set_cons_zero, List.set_cons_succ, List.getElem_toArray, List.getElem_cons_zero, List.getElem_cons_succ]
              refine wpAnyS_take (i := 7) (v := ?_) rfl (by kernel_rfl) (by kernel_rfl) (by kernel_rfl) (fun _ _ _ h => h) (by rfl) (gives_pureF (by rfl) (by kernel_rfl) ?_) ?_
              rotate_left
              · intro d' u' W' hS'
                obtain ⟨s0', s1', s2', r0', r1'⟩ := HSC.out W' (HT10.out.l.trans (hS'.1.mono HT10.out.l.size))
                go_simp
                rfl
              try simp only [Act.put, List.setIfInBounds_toArray, List.set_cons_zero, List.set_cons_succ, List.getElem_toArray, List.getElem_cons_zero, List.getElem_cons_succ]
              refine wpAnyS_take (i := 8) (v := ?_) rfl (by kernel_rfl) (by kernel_rfl) (by kernel_rfl) (fun _ _ _ h => h) (by rfl) (gives_pureF (by rfl) (by kernel_rfl) ?_) ?_
              rotate_left
              · intro d' u' W' hS'
                obtain ⟨s0', s1', s2', r0', r1'⟩ := HSC.out W' (HT10.out.l.trans (hS'.1.mono HT10.out.l.size))
                go_simp
                rfl
              try simp only [Act.put, List.setIfInBounds_toArray, List.set_cons_zero, List.set_cons_succ, List.getElem_toArray, List.getElem_cons_zero, List.getElem_cons_succ]
              refine wpAnyS_take (i := 9) (v := ?_) rfl (by kernel_rfl) (by kernel_rfl) (by kernel_rfl) (fun _ _ _ h => h) (by rfl) (gives_pureF (by rfl) (by kernel_rfl) ?_) ?_
              rotate_left
              · intro d' u' W' hS'
                obtain ⟨s0', s1', s2', r0', r1'⟩ := HSC.out W' (HT10.out.l.trans (hS'.1.mono HT10.out.l.size))
                go_simp
                rfl
              try simp only [Act.put, List.setIfInBounds_toArray, List.set_cons_zero, List.set_cons_succ, List.getElem_toArray, List.getElem_cons_zero, List.getElem_cons_succ]
              refine wpAnyS_take (i := 10) (v := _) rfl (by kernel_rfl) (by kernel_rfl) (by kernel_rfl) (fun _ _ _ h => h) (by rfl) (gives_callF (by rfl) (by kernel_rfl) _ _ ?_ (fun d' u' W' hS' => (tcut_any gb fx W' HFQ.out.1 (HG10.out.below hS'.1 HG10.out.lt)).mono (fun _ _ h => ⟨h.1, ⟨hS'.1.trans (h.2.mono hS'.1.size), fun hd => by obtain ⟨gA, e1, e2, e3⟩ := hS'.2 hd; exact ⟨gA, e1, e2, e3.below h.2 e3.lt⟩⟩⟩))) ?_
              · intro W'
                first | rfl | kernel_rfl
              try simp only [Act.put, List.setIfInBounds_toArray, List.set_cons_zero, List.set_cons_succ, List.getElem_toArray, List.getElem_cons_zero, List.getElem_cons_succ]
              refine wpAnyS_take (i := 11) (v := ?_) rfl (by kernel_rfl) (by kernel_rfl) (by kernel_rfl) (fun _ _ _ h => h) (by rfl) (gives_pureF (by rfl) (by kernel_rfl) ?_) ?_
              rotate_left
              · intro d' u' W' hS'
                obtain ⟨s0', s1', s2', r0', r1'⟩ := HSC.out W' (HT10.out.l.trans (hS'.1.mono HT10.out.l.size))
                go_simp
                rfl
              try simp only [Act.put, List.setIfInBounds_toArray, List.set_cons_zero, List.set_cons_succ, List.getElem_toArray, List.getElem_cons_zero, List.getElem_cons_succ]
              refine wpAnyS_take (i := 12) (v := ?_) rfl (by kernel_rfl) (by kernel_rfl) (by kernel_rfl) (fun _ _ _ h => h) (by rfl) (gives_pureF (by rfl) (by kernel_rfl) ?_) ?_
              rotate_left
              · intro d' u' W' hS'
                obtain ⟨s0', s1', s2', r0', r1'⟩ := HSC.out W' (HT10.out.l.trans (hS'.1.mono HT10.out.l.size))
                go_simp
                rfl
              try simp only [Act.put, List.setIfInBounds_toArray, List.set_cons_zero, List.set_cons_succ, List.getElem_toArray, List.getElem_cons_zero, List.getElem_cons_succ]
              refine wpAnyS_take (i := 13) (v := ?_) rfl (by kernel_rfl) (by kernel_rfl) (by kernel_rfl) (fun _ _ _ h => h) (by rfl) (gives_pureF (by rfl) (by kernel_rfl) ?_) ?_
              rotate_left
              · intro d' u' W' hS'
                obtain ⟨s0', s1', s2', r0', r1'⟩ := HSC.out W' (HT10.out.l.trans (hS'.1.mono HT10.out.l.size))
                go_simp
                rfl
              try simp only [Act.put, List.setIfInBounds_toArray, List.set_cons_zero, List.set_cons_succ, List.getElem_toArray, List.getElem_cons_zero, List.getElem_cons_succ]
              refine wpAnyS_take (i := 14) (v := ?_) rfl (by kernel_rfl) (by kernel_rfl) (by kernel_rfl) (fun _ _ _ h => h) (by rfl) (gives_pureF (by rfl) (by kernel_rfl) ?_) ?_
              rotate_left
              · intro d' u' W' hS'
                obtain ⟨s0', s1', s2', r0', r1'⟩ := HSC.out W' (HT10.out.l.trans (hS'.1.mono HT10.out.l.size))
                go_simp
                rfl
              try simp only [Act.put, List.setIfInBounds_toArray, List.set_cons_zero, List.set_cons_succ, List.getElem_toArray, List.getElem_cons_zero, List.getElem_cons_succ]
              refine wpAnyS_take (i := 15) (v := ?_) rfl (by kernel_rfl) (by kernel_rfl) (by kernel_rfl) (fun _ _ _ h => h) (by rfl) (gives_pureF (by rfl) (by kernel_rfl) ?_) ?_
              rotate_left
              · intro d' u' W' hS'
                obtain ⟨s0', s1', s2', r0', r1'⟩ := HSC.out W' (HT10.out.l.trans (hS'.1.mono HT10.out.l.size))
                go_simp
                rfl
              try simp only [Act.put, List.setIfInBounds_toArray, List.set_cons_zero, List.set_cons_succ, List.getElem_toArray, List.getElem_cons_zero, List.getElem_cons_succ]
              refine wpAnyS_take (i := 16) (v := ?_) rfl (by kernel_rfl) (by kernel_rfl) (by kernel_rfl) (fun _ _ _ h => h) (by rfl) (gives_pureF (by rfl) (by kernel_rfl) ?_) ?_
              rotate_left
              · intro d' u' W' hS'
                obtain ⟨s0', s1', s2', r0', r1'⟩ := HSC.out W' (HT10.out.l.trans (hS'.1.mono HT10.out.l.size))
                go_simp
                rfl
              try simp only [Act.put, List.setIfInBounds_toArray, List.set_cons_zero, List.set_cons_succ, List.getElem_toArray, List.getElem_cons_zero, List.getElem_cons_succ]
              refine wpAnyS_take (i := 17) (v := ?_) rfl (by kernel_rfl) (by kernel_rfl) (by kernel_rfl) (fun _ _ _ h => h) (by rfl) (gives_pureF (by rfl) (by kernel_rfl) ?_) ?_
              rotate_left
              · intro d' u' W' hS'
                obtain ⟨s0', s1', s2', r0', r1'⟩ := HSC.out W' (HT10.out.l.trans (hS'.1.mono HT10.out.l.size))
                go_simp
                rfl
              try simp only [Act.put, List.setIfInBounds_toArray, List.set_cons_zero, List.set_cons_succ, List.getElem_toArray, List.getElem_cons_zero, List.getElem_cons_succ]
              refine wpAnyS_take (i := 18) (v := ?_) rfl (by kernel_rfl) (by kernel_rfl) (by kernel_rfl) (fun _ _ _ h => h) (by rfl) (gives_pureF (by rfl) (by kernel_rfl) ?_) ?_
              rotate_left
              · intro d' u' W' hS'
                obtain ⟨s0', s1', s2', r0', r1'⟩ := HSC.out W' (HT10.out.l.trans (hS'.1.mono HT10.out.l.size))
                go_simp
                rfl
              try simp only [Act.put, List.setIfInBounds_toArray, List.set_cons_zero, List.set_cons_succ, List.getElem_toArray, List.getElem_cons_zero, List.getElem_cons_succ]
              refine wpAnyS_take (i := 19) (v := ?_) rfl (by kernel_rfl) (by kernel_rfl) (by kernel_rfl) (fun _ _ _ h => h) (by rfl) (gives_pureF (by rfl) (by kernel_rfl) ?_) ?_
              rotate_left
              · intro d' u' W' hS'
                obtain ⟨s0', s1', s2', r0', r1'⟩ := HSC.out W' (HT10.out.l.trans (hS'.1.mono HT10.out.l.size))
                go_simp
                rfl
              try simp only [Act.put, List.setIfInBounds_toArray, List.set_cons_zero, List.set_cons_succ, List.getElem_toArray, List.getElem_cons_zero, List.getElem_cons_succ]
              refine wpAnyS_take (i := 20) (v := ?_) rfl (by kernel_rfl) (by kernel_rfl) (by kernel_rfl) (fun _ _ _ h => h) (by rfl) (gives_pureF (by rfl) (by kernel_rfl) ?_) ?_
              rotate_left
              · intro d' u' W' hS'
                obtain ⟨s0', s1', s2', r0', r1'⟩ := HSC.out W' (HT10.out.l.trans (hS'.1.mono HT10.out.l.size))
                go_simp
                rfl
              try simp only [Act.put, List.setIfInBounds_toArray, List.set_cons_zero, List.set_cons_succ, List.getElem_toArray, List.getElem_cons_zero, List.getElem_cons_succ]
              refine wpAnyS_take (i := 21) (v := _) rfl (by kernel_rfl) (by kernel_rfl) (by kernel_rfl) (fun _ _ _ h => h) (by rfl) (gives_callF (by rfl) (by kernel_rfl) _ _ ?_ (fun d' u' W' hS' => (tcut_any gb fy W' HFQ.out.2.1 (HG10.out.below hS'.1 HG10.out.lt)).mono (fun _ _ h => ⟨h.1, ⟨hS'.1.trans (h.2.mono hS'.1.size), fun hd => by obtain ⟨gA, e1, e2, e3⟩ := hS'.2 hd; exact ⟨gA, e1, e2, e3.below h.2 e3.lt⟩⟩⟩))) ?_
              · intro W'
                first | rfl | kernel_rfl
              try simp only [Act.put, List.setIfInBounds_toArray, List.set_cons_zero, List.set_cons_succ, List.getElem_toArray, List.getElem_cons_zero, List.getElem_cons_succ]
              refine wpAnyS_take (i := 22) (v := ?_) rfl (by kernel_rfl) (by kernel_rfl) (by kernel_rfl) (fun _ _ _ h => h) (by rfl) (gives_pureF (by rfl) (by kernel_rfl) ?_) ?_
              rotate_left
              · intro d' u' W' hS'
                obtain ⟨s0', s1', s2', r0', r1'⟩ := HSC.out W' (HT10.out.l.trans (hS'.1.mono HT10.out.l.size))
                go_simp
                rfl
              try simp only [Act.put, List.setIfInBounds_toArray, List.set_cons_zero, List.set_cons_succ, List.getElem_toArray, List.getElem_cons_zero, List.getElem_cons_succ]
              refine wpAnyS_take (i := 23) (v := ?_) rfl (by kernel_rfl) (by kernel_rfl) (by kernel_rfl) (fun _ _ _ h => h) (by rfl) (gives_pureF (by rfl) (by kernel_rfl) ?_) ?_
              rotate_left
              · intro d' u' W' hS'
                obtain ⟨s0', s1', s2', r0', r1'⟩ := HSC.out W' (HT10.out.l.trans (hS'.1.mono HT10.out.l.size))
                go_simp
                rfl
              try simp only [Act.put, List.setIfInBounds_toArray, List.set_cons_zero, List.set_cons_succ, List.getElem_toArray, List.getElem_cons_zero, List.getElem_cons_succ]
              refine wpAnyS_take (i := 24) (v := ?_) rfl (by kernel_rfl) (by kernel_rfl) (by kernel_rfl) (fun _ _ _ h => h) (by rfl) (gives_pureF (by rfl) (by kernel_rfl) ?_) ?_
              rotate_left
              · intro d' u' W' hS'
                obtain ⟨s0', s1', s2', r0', r1'⟩ := HSC.out W' (HT10.out.l.trans (hS'.1.mono HT10.out.l.size))
                go_simp
                rfl
              try simp only [Act.put, List.setIfInBounds_toArray, List.set_cons_zero, List.set_cons_succ, List.getElem_toArray, List.getElem_cons_zero, List.getElem_cons_succ]
              refine wpAnyS_take (i := 25) (v := _) rfl (by kernel_rfl) (by kernel_rfl) (by kernel_rfl) (fun _ _ _ h => h) (by rfl) (gives_callF (by rfl) (by kernel_rfl) _ _ ?_ (fun d' u' W' hS' => (HWD2.out W' (HT10.out.l.trans (hS'.1.mono HT10.out.l.size))).mono (fun _ _ h => ⟨h.1, ⟨hS'.1.trans (h.2.mono hS'.1.size), fun hd => by obtain ⟨gA, e1, e2, e3⟩ := hS'.2 hd; exact ⟨gA, e1, e2, e3.below h.2 e3.lt⟩⟩⟩))) ?_
              · intro W'
                first | rfl | kernel_rfl
              try simp only [Act.put, List.setIfInBounds_toArray, List.set_cons_zero, List.set_cons_succ, List.getElem_toArray, List.getElem_cons_zero, List.getElem_cons_succ]
              refine wpAnyS_take (i := 26) (v := _) rfl (by kernel_rfl) (by kernel_rfl) (by kernel_rfl) (fun _ _ _ h => h) (by rfl) (gives_callF (by rfl) (by kernel_rfl) _ _ ?_ (fun d' u' W' hS' => (tcut_any gb fw W' HFQ.out.2.2.1 (HG10.out.below hS'.1 HG10.out.lt)).mono (fun _ _ h => ⟨h.1, ⟨hS'.1.trans (h.2.mono hS'.1.size), fun hd => by obtain ⟨gA, e1, e2, e3⟩ := hS'.2 hd; exact ⟨gA, e1, e2, e3.below h.2 e3.lt⟩⟩⟩))) ?_
              · intro W'
                first | rfl | kernel_rfl
              try simp only [Act.put, List.setIfInBounds_toArray, List.set_cons_zero, List.set_cons_succ, List.getElem_toArray, List.getElem_cons_zero, List.getElem_cons_succ]
              refine wpAnyS_take (i := 27) (v := ?_) rfl (by kernel_rfl) (by kernel_rfl) (by kernel_rfl) (fun _ _ _ h => h) (by rfl) (gives_pureF (by rfl) (by kernel_rfl) ?_) ?_
              rotate_left
              · intro d' u' W' hS'
                obtain ⟨s0', s1', s2', r0', r1'⟩ := HSC.out W' (HT10.out.l.trans (hS'.1.mono HT10.out.l.size))
                go_simp
                rfl
              try simp only [Act.put, List.setIfInBounds_toArray, List.set_cons_zero, List.set_cons_succ, List.getElem_toArray, List.getElem_cons_zero, List.getElem_cons_succ]
              refine wpAnyS_take (i := 28) (v := ?_) rfl (by kernel_rfl) (by kernel_rfl) (by kernel_rfl) (fun _ _ _ h => h) (by rfl) (gives_pureF (by rfl) (by kernel_rfl) ?_) ?_
              rotate_left
              · intro d' u' W' hS'
                obtain ⟨s0', s1', s2', r0', r1'⟩ := HSC.out W' (HT10.out.l.trans (hS'.1.mono HT10.out.l.size))
                go_simp
                rfl
              try simp only [Act.put, List.setIfInBounds_toArray, List.set_cons_zero, List.set_cons_succ, List.getElem_toArray, List.getElem_cons_zero, List.getElem_cons_succ]
              refine wpAnyS_take (i := 29) (v := ?_) rfl (by kernel_rfl) (by kernel_rfl) (by kernel_rfl) (fun _ _ _ h => h) (by rfl) (gives_pureF (by rfl) (by kernel_rfl) ?_) ?_
              rotate_left
              · intro d' u' W' hS'
                obtain ⟨s0', s1', s2', r0', r1'⟩ := HSC.out W' (HT10.out.l.trans (hS'.1.mono HT10.out.l.size))
                go_simp
                rfl
              try simp only [Act.put, List.setIfInBounds_toArray, List.set_cons_zero, List.set_cons_succ, List.getElem_toArray, List.getElem_cons_zero, List.getElem_cons_succ]
              refine wpAnyS_take (i := 30) (v := ?_) rfl (by kernel_rfl) (by kernel_rfl) (by kernel_rfl) (fun _ _ _ h => h) (by rfl) (gives_pureF (by rfl) (by kernel_rfl) ?_) ?_
              rotate_left
              · intro d' u' W' hS'
                obtain ⟨s0', s1', s2', r0', r1'⟩ := HSC.out W' (HT10.out.l.trans (hS'.1.mono HT10.out.l.size))
                go_simp
                rfl
              try simp only [Act.put, List.setIfInBounds_toArray, List.set_cons_zero, List.set_cons_succ, List.getElem_toArray, List.getElem_cons_zero, List.getElem_cons_succ]
              refine wpAnyS_take (i := 31) (v := ?_) rfl (by kernel_rfl) (by kernel_rfl) (by kernel_rfl) (fun _ _ _ h => h) (by rfl) (gives_pureF (by rfl) (by kernel_rfl) ?_) ?_
              rotate_left
              · intro d' u' W' hS'
                obtain ⟨s0', s1', s2', r0', r1'⟩ := HSC.out W' (HT10.out.l.trans (hS'.1.mono HT10.out.l.size))
                go_simp
                rfl
              try simp only [Act.put, List.setIfInBounds_toArray, List.set_cons_zero, List.set_cons_succ, List.getElem_toArray, List.getElem_cons_zero, List.getElem_cons_succ]
              refine wpAnyS_take (i := 32) (v := _) rfl (by kernel_rfl) (by kernel_rfl) (by kernel_rfl) (fun _ _ _ h => h) (by rfl) (gives_callF (by rfl) (by kernel_rfl) _ _ ?_ (fun d' u' W' hS' => (tcut_any gb fh W' HFQ.out.2.2.2 (HG10.out.below hS'.1 HG10.out.lt)).mono (fun _ _ h => ⟨h.1, ⟨hS'.1.trans (h.2.mono hS'.1.size), fun hd => by obtain ⟨gA, e1, e2, e3⟩ := hS'.2 hd; exact ⟨gA, e1, e2, e3.below h.2 e3.lt⟩⟩⟩))) ?_
              · intro W'
                first | rfl | kernel_rfl
              try simp only [Act.put, List.setIfInBounds_toArray, List.set_cons_zero, List.set_cons_succ, List.getElem_toArray, List.getElem_cons_zero, List.getElem_cons_succ]
              refine wpAnyS_take (i := 33) (v := ?_) rfl (by kernel_rfl) (by kernel_rfl) (by kernel_rfl) (fun _ _ _ h => h) (by rfl) (gives_pureF (by rfl) (by kernel_rfl) ?_) ?_
              rotate_left
              · intro d' u' W' hS'
                obtain ⟨s0', s1', s2', r0', r1'⟩ := HSC.out W' (HT10.out.l.trans (hS'.1.mono HT10.out.l.size))
                go_simp
                rfl
              try simp only [Act.put, List.setIfInBounds_toArray, List.set_cons_zero, List.set_cons_succ, List.getElem_toArray, List.getElem_cons_zero, List.getElem_cons_succ]
              refine wpAnyS_alloc (i := 34) (b := false) (.cells #[.int .i64 0, .int .i64 0, .int .i64 0, .int .i64 0, .slice none 0 0] 58) rfl (by kernel_rfl) (by rfl) (by rfl) (by kernel_rfl) ?_ (fun u' W' hS' => ⟨hS'.1.alloc hS'.1.size _, fun _ => ⟨_, rfl, hS'.1.size, Blk.new _ _ _⟩⟩) (fun gA => ?_)
              · intro W'
                first | rfl | kernel_rfl
              try simp only [Act.put, List.setIfInBounds_toArray, List.set_cons_zero, List.set_cons_succ, List.getElem_toArray, List.getElem_cons_zero, List.getElem_cons_succ]
              refine wpAnyS_store (i := 35) (d := true) (fun W' => ((((W'.setCell ⟨gA, 0, none⟩ (.int .i64 fx)).setCell ⟨gA, 1, none⟩ (.int .i64 fy)).setCell ⟨gA, 2, none⟩ (.int .i64 fw)).setCell ⟨gA, 3, none⟩ (.int .i64 fh)).setCell ⟨gA, 4, none⟩ (.slice none 0 0)) rfl (by kernel_rfl) (by rfl) (by rfl) (by kernel_rfl) rfl ?_ (fun W' hS' => by
          obtain ⟨k1, k2⟩ := hS'
          obtain ⟨gA', e1, e2, e3⟩ := k2 rfl
          have e4 : gA = gA' := by injection e1 with e1; injection e1 with e1; injection e1
          subst e4
          have hl : ∀ (W' : World) (i : Nat) (v : Value), Below w10.heap.size w10 W' → Below w10.heap.size w10 (W'.setCell ⟨gA, i, none⟩ v) := fun W' i v h => h.setCell (p := ⟨gA, i, none⟩) e2 _
          exact ⟨hl _ _ _ (hl _ _ _ (hl _ _ _ (hl _ _ _ (hl _ _ _ k1)))), fun _ => ⟨gA, rfl, e2, ((((e3.set_ 0 _).set_ 1 _).set_ 2 _).set_ 3 _).set_ 4 _⟩⟩) ?_
              · intro W' hS'
                obtain ⟨gA', e1, e2, e3⟩ := hS'.2 rfl
                have e4 : gA = gA' := by injection e1 with e1; injection e1 with e1; injection e1
                subst e4
                obtain ⟨p0, p1, p2, p3, p4⟩ := Blk.c5 e3
                have pf := e3.frozen
                clear e3 e1
                go_simp
                try rfl
              try simp only [Act.put, List.setIfInBounds_toArray, List.set_cons_zero, List.set_cons_succ, List.getElem_toArray, List.getElem_cons_zero, List.getElem_cons_succ]
              refine wpAnyS_done (b := true) (d := true) (by kernel_rfl) (by kernel_rfl) (by kernel_rfl) rfl (fun w11 hS => ?_) _
              obtain ⟨gA', e1, e2, e3⟩ := hS.2 rfl
              have e4 : gA = gA' := by injection e1 with e1; injection e1 with e1; injection e1
              subst e4
              have HA11 : Hid (Blk w11 gA 58 #[.int .i64 fx, .int .i64 fy, .int .i64 fw, .int .i64 fh, .slice none 0 0]) := Lib.hid e3
              have HT11 := Lib.hid (HT10.out.below hS.1)
              have HG11 := Lib.hid (HG10.out.below hS.1 HG10.out.lt)
              have HNGF : Hid (gb ≠ gF) := Lib.hid (by have := HGB.out; omega)
              have HNG : Hid (gF ≠ gA ∧ gB ≠ gb ∧ gb ≠ gA) := Lib.hid ⟨by have := HT10.out.f.lt; omega, by have := HGB.out; omega, by have := HG10.out.lt; omega⟩
              have HWA : Hid (W.heap.size ≤ gA) := Lib.hid (Nat.le_trans HT10.out.l.size e2)
              clear hS e1 e2 e3
              have q21 := Lib.hid (HLN.out w11 HT11.out.l ii HIL.out)
              go_upto_region 22 with (go_at_call 79; refine q21.out.mono ?_; rintro e w12 ⟨rfl, hb12⟩; have HT12 := Lib.hid (HT11.out.below hb12); have HA12 := Lib.hid (HA11.out.below hb12 HA11.out.lt); have HG12 := Lib.hid (HG11.out.below hb12 HG11.out.lt); clear hb12; have a4 := HA12.out.get 4 (v := .slice none 0 0) rfl; have af := HA12.out.frozen 4)
              clear a4 af
              have HT13 : Hid (ToI W gI gF gB (isC (some ab) n cb gF gB Hh) (((List.range' 1 n).map (frF C.l C.us k)).take j ++ List.replicate (n - j) fr0) (List.replicate n false) (w12.setCell ⟨gA, 4, none⟩ (.slice none 0 0))) := Lib.hid ⟨HT12.out.r.far (by have := HWA.out; have := HT12.out.r.lt; intro e; have := HA12.out.ne_ HT12.out.r (by decide); exact this e.symm) _, HT12.out.i.far (fun e => HA12.out.ne_ HT12.out.i (by decide) e.symm) _, HT12.out.f.far HNG.out.1 _, HT12.out.b.far (fun e => HA12.out.ne_ HT12.out.b (by decide) e.symm) _, HT12.out.ge, HT12.out.l.setCell (p := ⟨gA, 4, none⟩) HWA.out _⟩
              have HA13 : Hid (Blk (w12.setCell ⟨gA, 4, none⟩ (.slice none 0 0)) gA 58 #[.int .i64 fx, .int .i64 fy, .int .i64 fw, .int .i64 fh, .slice none 0 0]) := Lib.hid (HA12.out.set_ 4 _)
              have HG13 := Lib.hid (HG12.out.far (p := ⟨gA, 4, none⟩) HNG.out.2.2 (.slice none 0 0))
              generalize World.setCell w12 _ _ = w13 at HT13 HA13 HG13 ⊢
              obtain ⟨frs, hfrs⟩ : ∃ frs, frs = ((List.range' 1 n).map (frF C.l C.us k)).take j ++ List.replicate (n - j) fr0 := ⟨_, rfl⟩
              rw [← hfrs] at HT13
              have HFRS := Lib.hid hfrs
              have HFL : Hid (j < frs.length) := Lib.hid (by rw [hfrs]; simp; omega)
              clear hfrs
              obtain ⟨p0, p1, p2, p3, p4⟩ := Blk.c5 HA13.out
              have i1 := HT13.out.i.get 1 (v := .slice (some ⟨gF, 0, none⟩) n n) rfl
              have i2 := HT13.out.i.get 2 (v := .slice (some ⟨gB, 0, none⟩) n n) rfl
              have ff := HT13.out.f.frozen
              have fg : ∀ r, r < 5 → ∃ v, w13.cell? ⟨gF, j * 5 + r, none⟩ = some v := fun r hr => by
                have h := frsCells_at frs j r HFL.out hr
                obtain ⟨v, hv⟩ : ∃ v, (frCells frs[j])[r]? = some v := ⟨_, List.getElem?_eq_getElem (show r < (frCells frs[j]).length from hr)⟩
                exact ⟨v, HT13.out.f.get _ (by rw [List.getElem?_toArray, h]; exact hv)⟩
              obtain ⟨z0, y0⟩ := fg 0 (by omega)
              obtain ⟨z1, y1⟩ := fg 1 (by omega)
              obtain ⟨z2, y2⟩ := fg 2 (by omega)
              obtain ⟨z3, y3⟩ := fg 3 (by omega)
              obtain ⟨z4, y4⟩ := fg 4 (by omega)
              rw [Nat.add_zero] at y0
              clear fg
              go_upto_region 23 with (fail)
              have HNF : Hid (gF ≠ gI ∧ gF ≠ gB ∧ gF ≠ W.heap.size) := Lib.hid ⟨HT13.out.f.ne_ HT13.out.i (by decide), HT13.out.f.ne_ HT13.out.b (by decide), HT13.out.f.ne_ HT13.out.r (by decide)⟩
              have HT14' := Lib.hid (ToI.setF (gF := gF) (ToI.setF (gF := gF) (ToI.setF (gF := gF) (ToI.setF (gF := gF) (ToI.setF (gF := gF) ⟨HT13.out.r, HT13.out.i, HT13.out.b, HT13.out.ge, HT13.out.l, HNF.out⟩ (j * 5) (.int .i64 fx)) (j * 5 + 1) (.int .i64 fy)) (j * 5 + 2) (.int .i64 fw)) (j * 5 + 3) (.int .i64 fh)) (j * 5 + 4) (.slice none 0 0))
              have HF14 := Lib.hid (((((HT13.out.f.set_ (j * 5) (.int .i64 fx)).set_ (j * 5 + 1) (.int .i64 fy)).set_ (j * 5 + 2) (.int .i64 fw)).set_ (j * 5 + 3) (.int .i64 fh)).set_ (j * 5 + 4) (.slice none 0 0))
              clear y0 y1 y2 y3 y4 ff p0 p1 p2 p3 p4 i1 i2
              have HG14 := Lib.hid (((((HG13.out.far (p := ⟨gF, j * 5, none⟩) HNGF.out (.int .i64 fx)).far (p := ⟨gF, j * 5 + 1, none⟩) HNGF.out (.int .i64 fy)).far (p := ⟨gF, j * 5 + 2, none⟩) HNGF.out (.int .i64 fw)).far (p := ⟨gF, j * 5 + 3, none⟩) HNGF.out (.int .i64 fh)).far (p := ⟨gF, j * 5 + 4, none⟩) HNGF.out (.slice none 0 0))
              generalize World.setCell (World.setCell (World.setCell (World.setCell (World.setCell w13 _ _) _ _) _ _) _ _) _ _ = w14 at HT14' HF14 HG14 ⊢
              have HT14 : Hid (ToI W gI gF gB (isC (some ab) n cb gF gB Hh) (frs.set j ⟨fx, fy, fw, fh⟩) (List.replicate n false) w14) := Lib.hid ⟨HT14'.out.1, HT14'.out.2.1, by have := HF14.out; rw [fr_set frs j HFL.out ⟨fx, fy, fw, fh⟩] at this; exact this, HT14'.out.2.2.1, HT14'.out.2.2.2.1, HT14'.out.2.2.2.2.1⟩
              clear HT14' HF14
              have HFN : Hid (frs.set j ⟨fx, fy, fw, fh⟩ = ((List.range' 1 n).map (frF C.l C.us k)).take (j + 1) ++ List.replicate (n - (j + 1)) fr0) := Lib.hid (by
                rw [HFRS.out]
                refine set_take ((List.range' 1 n).map (frF C.l C.us k)) n j fr0 _ (by simp) hlt ?_
                rw [List.getElem?_map, List.getElem?_range' (by omega)]
                simp
                rw [show 1 + j = ii by rw [HII.out]; omega]
                exact HFV.out)
              have i2 := HT14.out.i.get 2 (v := .slice (some ⟨gB, 0, none⟩) n n) rfl
              have g0 := HG14.out.c1
              have bj := HT14.out.b.get j (v := .bool false) (by rw [List.getElem?_toArray]; unfold boCells; rw [List.getElem?_map, List.getElem?_replicate]; simp [hlt])
              have bf := HT14.out.b.frozen j
              go_wp2_with fail
              go_roundw
              case rel =>
                refine ⟨j + 1, by omega, by go_num, Lib.hid ?_⟩
                rw [← HFN.out]
                have hb := HT14.out.b.set_ j (.bool false)
                rw [bo_set, set_same hlt] at hb
                exact ⟨HT14.out.r.far (by have := HT14.out.ge; simp; omega) _, HT14.out.i.far (fun e => HT14.out.b.ne_ HT14.out.i (by decide) e.symm) _, HT14.out.f.far (HT14.out.f.ne_ HT14.out.b (by decide)) _, hb, HT14.out.ge, HT14.out.l.setCell (p := ⟨gB, j, none⟩) (by have := HT14.out.ge; simp; omega) _⟩
              case measure => simp [intOf]; omega
            · have d0 : decide ((j : Int) < (n : Int)) = false := decide_eq_false (by omega)
              have d0' : decide (j < n) = false := decide_eq_false hlt
              have HJN := Lib.hid (show j = n by omega)
              have x0 := HJ2.out.i.get 0 (v := .slice Ab n cb) rfl
              have x1 := HJ2.out.i.get 1 (v := .slice (some ⟨gF, 0, none⟩) n n) rfl
              have x2 := HJ2.out.i.get 2 (v := .slice (some ⟨gB, 0, none⟩) n n) rfl
              have x3 := HJ2.out.i.get 3 (v := .int .i64 Hh) rfl
              have x4 := HJ2.out.i.get 4 (v := .slice none 0 0) rfl
              have x5 := HJ2.out.i.get 5 (v := .bool false) rfl
              have o0 := HJ2.out.r.get 0 (v := .slice none 0 0) rfl
              have o1 := HJ2.out.r.get 1 (v := .slice none 0 0) rfl
              have o2 := HJ2.out.r.get 2 (v := .slice none 0 0) rfl
              have o3 := HJ2.out.r.get 3 (v := .int .i64 0) rfl
              have o4 := HJ2.out.r.get 4 (v := .slice none 0 0) rfl
              have o5 := HJ2.out.r.get 5 (v := .bool false) rfl
              have of := HJ2.out.r.frozen
              go_wp2_with fail
              have hlf : ((List.range' 1 n).map (frF C.l C.us k)).take j ++ List.replicate (n - j) fr0 = ((List.range' 1 n).map (frF C.l C.us k)) := by rw [HJN.out, Nat.sub_self, List.replicate_zero, List.append_nil, List.take_of_length_le (by simp)]
              have HTE := HJ2.out
              rw [hlf] at HTE
              refine bodyPost_ret (results_cell_row rfl _ _ W.heap.size 52 #[_, _, _, _, _, _] (0, 0) _ rfl ((((((HTE.r.set_ 0 (.slice Ab n cb)).set_ 1 (.slice (some ⟨gF, 0, none⟩) n n)).set_ 2 (.slice (some ⟨gB, 0, none⟩) n n)).set_ 3 (.int .i64 Hh)).set_ 4 (.slice none 0 0)).set_ 5 (.bool false)) Try.underlying52 rfl (by kernel_rfl)) rfl ⟨gF, gB, rfl, ?_, ?_⟩
              · have hne := HTE.f.ne_ HTE.r (by decide)
                exact (((((HTE.f.far hne _).far hne _).far hne _).far hne _).far hne _).far hne _
              · have hl : ∀ (W' : World) (i : Nat) (v : Value), Below W.heap.size W W' → Below W.heap.size W (W'.setCell ⟨W.heap.size, i, none⟩ v) := fun W' i v h => h.setCell (p := ⟨W.heap.size, i, none⟩) (Nat.le_refl _) _
                exact hl _ _ _ (hl _ _ _ (hl _ _ _ (hl _ _ _ (hl _ _ _ (hl _ _ _ HTE.l)))))
end
end Go.Proofs.Ytlebbkhhhmempaa
