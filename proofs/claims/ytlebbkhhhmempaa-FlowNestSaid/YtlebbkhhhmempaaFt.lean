/- Contracts: flow.Block on trees without texts. -/
import Derived.Test.YtlebbkhhhmempaaFn
import Derived.Test.YtlebbkhhhmempaaFo
import Derived.Test.YtlebbkhhhmempaaFr
import Derived.Test.YtlebbkhhhmempaaFs
set_option linter.unusedSimpArgs false
set_option linter.unusedVariables false
namespace Go.Proofs.Ytlebbkhhhmempaa
open Go.RowKit
attribute [local go_sem] block_of_add
/-- Trees that the walk of chapter 22's towers goes through. -/
structure TrB (l : List Nd) (us : List Ud) (hs : List Int) (n f : Nat) : Prop where
  ln : l.length = n + 1
  n2 : l.length ≤ 4096
  un : us.length = l.length
  hn : hs.length ≤ 4096
  sty : ∀ x ∈ l, StyT x.s ∧ (x.s.float = 0 ∨ x.s.float = 1 ∨ x.s.float = 2) ∧ (x.s.clear = 0 ∨ x.s.clear = 1 ∨ x.s.clear = 2 ∨ x.s.clear = 3)
  uv : ∀ x ∈ l, ∃ A n c, x.s.uv = .slice A n c
  par : ∀ i (h : i < l.length), 0 < i → 0 ≤ l[i].parent ∧ l[i].parent < i
  par0 : parF l 0 < 0
  us : ∀ u ∈ us, inL u.w = true ∧ inL u.left = true ∧ inL u.right = true
  dn : dnF f l 0 1 = some (n + 1)
  pf : ∀ i, 0 < i → i < l.length → parF l i = 0 ∨ rootF l (parF l i).toNat = false
def k0F (n : Nat) (ro : Int) : Wk := ⟨0, ⟨0, 0⟩, [], [], (List.replicate (n + 1) sp0).set 0 ⟨0, -ro, 0, false⟩⟩
theorem blk_rngF {w : World} {g : Nat} {t : TypeId} {s : Sty} (h : Blk w g t (styCells s).toArray) : w.rangeAt g 0 (styCells s) := fun j v hv => by
  rw [Nat.zero_add]; exact h.get j (by rw [List.getElem?_toArray]; exact hv)
theorem wkB_k0 (n : Nat) (ro : Int) (h : 0 ≤ ro ∧ ro ≤ 2097152) : wkB (k0F n ro) = true := by
  have h0 : inL 0 = true := by decide
  have h1 : inL (-ro) = true := by unfold inL lim; simp only [Bool.and_eq_true, decide_eq_true_eq]; omega
  unfold wkB k0F
  simp only [h0, Bool.true_and, List.all_nil, List.length_nil, Bool.and_eq_true, decide_eq_true_eq, List.all_eq_true]
  refine ⟨by omega, fun s hs => ?_⟩
  rcases List.mem_or_eq_of_mem_set hs with h | h
  · rw [List.mem_replicate] at h
    rw [h.2]; decide
  · rw [h]; unfold spB; simp only [h0, h1, Bool.and_true]
section
variable (w : World) (l : List Nd) (us : List Ud) (hs : List Int) (A A2 uA hA : Option Addr) (c m c2 uc hc : Nat) (view : Int)
set_option maxRecDepth 100000 in
set_option maxHeartbeats 2000000 in
theorem block_any (n f g : Nat) (ht : TrB l us hs n f) (hr : Reads w w.heap.size 44 A l.length (ndsCells l)) (hru : Reads w w.heap.size 3 uA us.length (udsCells us)) (hrh : Reads w w.heap.size 1 hA hs.length (hs.map (Value.int .i64))) (s0 : Sty) (hs0 : styF l 0 = some s0) (k : Wk) (hk : contF g l us hs (k0F n (roofF s0)) 0 0 = some k) (hfr : ∀ i, 0 < i → i < l.length → frB (frF l us k i) = true) (hH : in40 (highF s0 (lowF k) + (roofF s0 + floorF s0)) = true) :
    Calls Try.prog 20 #[.agg #[.slice A l.length c, .slice A2 m c2, .int .i64 view], .int .i64 0, .slice uA us.length uc, .slice hA hs.length hc] w fun e w' => ∃ Ab cb gF gB, e = .returned (.agg (isC Ab n cb gF gB (highF s0 (lowF k) + (roofF s0 + floorF s0)))) ∧ Blk w' gF 58 (frsCells ((List.range' 1 n).map (frF l us k))).toArray ∧ Below w.heap.size w w' := by
  have hl0 : 0 < l.length := by have := ht.ln; omega
  have HT := Lib.hid ht
  have HR := Lib.hid hr
  have HRU := Lib.hid hru
  have HRH := Lib.hid hrh
  have HK := Lib.hid hk
  have HFR := Lib.hid hfr
  have HH := Lib.hid hH
  have hn2 := ht.n2
  have HS0 : Hid (l[0] = { parent := (l[0]).parent, s := s0 }) := Lib.hid (by unfold styF at hs0; rw [List.getElem?_eq_getElem hl0] at hs0; simp at hs0; rw [← hs0])
  have HST : Hid (StyT s0) := Lib.hid (by have := (ht.sty _ (List.getElem_mem hl0)).1; rw [HS0.out] at this; exact this)
  have HO : Hid ((styCells s0).toArray.all (·.oneCell') = true) := Lib.hid (by obtain ⟨_, _, _, e⟩ := ht.uv _ (List.getElem_mem hl0); rw [HS0.out] at e; exact Sty.one s0 e)
  obtain ⟨ad, hA9, hnd⟩ := hr.nd rfl hl0
  have hadl : ad.block < w.heap.size := by have h1 := hnd.lt; rwa [block_of_add] at h1
  have HRNG : Hid (∀ W', Below w.heap.size w W' → W'.rangeAt ad.block (ad.off + 1) (styCells s0)) := Lib.hid (fun W' hb j v hv => by
    have h1 := hnd.range
    rw [HS0.out] at h1
    have h2 := h1 j v hv
    exact (hb.cell (p := ⟨ad.block, ad.off + 1 + j, none⟩) hadl).trans h2)
  have HKD : Hid (∀ W', Below w.heap.size w W' → W'.cell? ⟨ad.block, ad.off + 1, none⟩ = some (.int .u8 1)) := Lib.hid (fun W' hb => by
    have := HRNG.out W' hb 0 (.int .u8 1) (by rw [← HST.out.kind]; rfl)
    exact this)
  have HRT := Lib.hid (fun W' (hb : Below w.heap.size w W') => rootT_any l A A2 c m c2 view W' 0 hl0 hn2 ((hr.below hb).more hb.size) (fun h => absurd h (by omega)) (fun x hx => (ht.sty x hx).1))
  have hrf : rootF l 0 = true := by unfold rootF; simp
  rw [hrf] at HRT
  have HIN := Lib.hid (fun W' (hb : Below w.heap.size w W') => inside_any W' l A A2 c m c2 view hl0 hn2 ((hr.below hb).more hb.size) (fun x hx => (ht.sty x hx).1) (fun i h h0 => ht.par i h h0) f (n + 1) ht.dn)
  have HLN := Lib.hid ht.ln
  have HUN := Lib.hid ht.un
  have HA9 := Lib.hid hA9
  clear ht hr hru hrh hk hfr hH hnd hrf hs0
  rw [hA9] at HRT HIN ⊢
  go_enter Try.func20, Try.ntmps20
  obtain ⟨w1, hw1⟩ : ∃ w1, w1 = (w.alloc (.cells #[.slice (some ad) l.length c, .slice A2 m c2, .int .i64 view] 25)).alloc (.cells #[.slice none 0 0, .slice none 0 0, .slice none 0 0, .int .i64 0, .slice none 0 0, .bool false] 52) := ⟨_, rfl⟩
  have HT1 : Hid (Blk w1 w.heap.size 25 #[.slice (some ad) l.length c, .slice A2 m c2, .int .i64 view]) := Lib.hid (by rw [hw1]; exact (Blk.new _ _ _).alloc _)
  have HL1 : Hid (Below w.heap.size w w1) := Lib.hid (by rw [hw1]; exact ((Below.refl _ _).alloc (Nat.le_refl _) _).alloc (by simp) _)
  have HI1 : Hid (Blk w1 (w.heap.size + 1) 52 #[.slice none 0 0, .slice none 0 0, .slice none 0 0, .int .i64 0, .slice none 0 0, .bool false]) := Lib.hid (by rw [hw1]; exact Blk.at_ _ _ _ (by simp))
  go_upto_region 1 with (fail)
  rw [← hw1]
  clear hw1
  obtain ⟨t0, t1, t2⟩ := HT1.out.c3
  have q1 := Lib.hid (HRT.out w1 HL1.out)
  go_upto_region 3 with (go_at_call 39; refine q1.out.mono ?_; rintro e w2 ⟨rfl, hb2⟩; have HT2 := Lib.hid (HT1.out.below hb2 HT1.out.lt); have HI2 := Lib.hid (HI1.out.below hb2 HI1.out.lt); have HL2 := Lib.hid (HL1.out.trans (hb2.mono HL1.out.size)); clear hb2 t0 t1 t2; obtain ⟨t0, t1, t2⟩ := HT2.out.c3; have y0 := HKD.out w2 HL2.out; have hl2 := HL2.out.size)
  have q3 := Lib.hid (HIN.out w2 HL2.out)
  rw [Nat.add_sub_cancel] at q3
  go_upto_region 4 with (go_at_call 40; refine q3.out.mono ?_; rintro e w3 ⟨Ab, cb, rfl, hown3, hb3⟩; have HT3 := Lib.hid (HT2.out.below hb3 HT2.out.lt); have HI3 := Lib.hid (HI2.out.below hb3 HI2.out.lt); have HL3 := Lib.hid (HL2.out.trans (hb3.mono HL2.out.size)); have HO3 := Lib.hid hown3; have HZ3 := Lib.hid hb3.size; clear hb3 hown3 t0 t1 t2 y0; obtain ⟨t0, t1, t2⟩ := HT3.out.c3)
  have hl3 := HL3.out.size
  go_upto_region 5 with (fail)
  obtain ⟨w4, hw4⟩ : ∃ w4, w4 = w3.alloc (.cells (lwC (some ad) A2 uA hA l.length c m c2 us.length uc hs.length hc view (.slice none 0 0) (.slice none 0 0)) 107) := ⟨_, rfl⟩
  obtain ⟨bw, hbw⟩ : ∃ bw, bw = w3.heap.size := ⟨_, rfl⟩
  have HW4 : Hid (Blk w4 bw 107 (lwC (some ad) A2 uA hA l.length c m c2 us.length uc hs.length hc view (.slice none 0 0) (.slice none 0 0))) := Lib.hid (by rw [hw4, hbw]; exact Blk.new _ _ _)
  have HB4 : Hid (Below w3.heap.size w3 w4) := Lib.hid (by rw [hw4]; exact (Below.refl _ _).alloc (Nat.le_refl _) _)
  have HBW : Hid (bw = w3.heap.size) := Lib.hid hbw
  try rw [show (#[Value.slice (some ad) l.length c, .slice A2 m c2, .int .i64 view, .int .i64 0, .slice uA us.length uc, .slice hA hs.length hc, .slice none 0 0, .slice none 0 0, .int .i64 0, .int .i64 0, .int .i64 0, .slice none 0 0, .slice none 0 0] : Array Value) = lwC (some ad) A2 uA hA l.length c m c2 us.length uc hs.length hc view (.slice none 0 0) (.slice none 0 0) from rfl]
  rw [← hw4, ← hbw]
  clear hw4 hbw t0 t1 t2
  have hbz : w.heap.size ≤ bw := by rw [HBW.out]; exact hl3
  have HL4 : Hid (Below w.heap.size w w4) := Lib.hid (HL3.out.trans (HB4.out.mono hl3))
  have HBX4 : Hid (Reads w4 bw 1 Ab n ((List.range' 1 n).map fun (i : Nat) => Value.int .i64 i)) := Lib.hid (by rw [HBW.out]; exact (Reads.of_own HO3.out).below HB4.out)
  have q5 := Lib.hid (lay_any w4 l (some ad) A2 uA hA Ab c m c2 us.length uc hs.length hc cb bw bw view n HLN.out hn2 HW4.out (Nat.le_refl _) (by rw [← HA9.out]; exact (HR.out.below HL4.out).more hbz) HBX4.out (fun x hx => (HT.out.sty x hx).1) HT.out.par HT.out.par0 HT.out.pf)
  go_upto_region 6 with (go_at_call 41; refine q5.out.mono ?_; rintro e w5 ⟨⟨_, rfl⟩, gk, gs, gl, vs, hy5, hk5⟩; have HY5 := Lib.hid hy5; have HK5 := Lib.hid hk5; clear hy5 hk5)
  have HZ5 := Lib.hid HW4.out.lt
  have HL5 : Hid (Below w.heap.size w w5) := Lib.hid (HL4.out.trans (HY5.out.lo.mono hbz))
  obtain ⟨C, hC⟩ : ∃ C : Cx, C = { l := l, us := us, hs := hs, A := some ad, c := c, A2 := A2, m := m, c2 := c2, view := view, uA := uA, uc := uc, hA := hA, hc := hc, gk := gk, bw := bw, bs := gs, lo := bw, w0 := w5 } := ⟨_, rfl⟩
  have HCX := Lib.hid hC
  have HCO : Hid (CxOk C) := Lib.hid (by
    have hge := HY5.out.ge
    subst hC
    refine ⟨?_, hn2, HUN.out, HT.out.hn, ?_, HY5.out.wk.lt, HY5.out.s.lt, Nat.le_refl _, ?_, ?_, ?_, ?_, ?_, ?_, HT.out.sty, HT.out.uv, HT.out.par, HT.out.us⟩
    · show 1 ≤ l.length; omega
    · show bw ≠ gs; omega
    · show bw ≤ gs; omega
    · show Reads w5 bw 44 (some ad) l.length (ndsCells l); rw [← HA9.out]; exact (HR.out.below HL5.out).more hbz
    · exact (HRU.out.below HL5.out).more hbz
    · exact (HRH.out.below HL5.out).more hbz
    · exact ⟨by show gk ≠ bw; omega, by show gk ≠ gs; omega, HY5.out.k.lt⟩
    · intro p hp
      have hv : p < vs.length := by rw [HK5.out.len]; exact hp
      have ho := HK5.out.own p hv
      obtain ⟨A', c', e⟩ := own_form ho
      rw [e] at ho
      refine ⟨A', c', ?_, fun j hj => ?_⟩
      · show w5.cell? ⟨gk, p, none⟩ = _
        rw [HY5.out.k.cell, List.getElem?_toArray, List.getElem?_eq_getElem hv, e]; rfl
      · obtain ⟨a', u, e1, hlt, hu, hc⟩ := (Reads.of_own ho).at_ hj
        have hb := ho.lt a'.block (by rw [e1]; rfl)
        refine ⟨a', e1, ?_, ?_, hlt, ?_⟩
        · show a'.block ≠ bw; omega
        · show a'.block ≠ gs; omega
        · rw [show w5.cell? (a'.add j) = some u from hc]
          have hj2 : j < (kidsK l p l.length).length := hj
          have : u = .int .i64 ((kidsK l p l.length)[j]'hj2) := by
            unfold i64s at hu
            rw [List.getElem?_map, List.getElem?_eq_getElem hj2] at hu
            simpa using hu.symm
          rw [this]; rfl)
  have HWI : Hid (WkI C ⟨0, ⟨0, 0⟩, [], [], List.replicate l.length sp0⟩ none 0 none 0 w5) := Lib.hid (by
    subst hC
    exact ⟨Kp.refl _ _, HY5.out.wk, HY5.out.s, own_nil _ _ _ _, own_nil _ _ _ _, by simp, by simp⟩)
  have HCB : Hid (C.bw = bw ∧ C.bs = gs ∧ C.l = l) := Lib.hid (by rw [hC]; exact ⟨rfl, rfl, rfl⟩)
  clear hC
  have HT5 : Hid (Blk w5 w.heap.size 25 #[.slice (some ad) l.length c, .slice A2 m c2, .int .i64 view]) := Lib.hid ((HT3.out.below HB4.out HT3.out.lt).below HY5.out.lo (by have := HT3.out.lt; rw [HBW.out]; exact this))
  have HI5 : Hid (Blk w5 (w.heap.size + 1) 52 #[.slice none 0 0, .slice none 0 0, .slice none 0 0, .int .i64 0, .slice none 0 0, .bool false]) := Lib.hid ((HI3.out.below HB4.out HI3.out.lt).below HY5.out.lo (by have := HI3.out.lt; rw [HBW.out]; exact this))
  obtain ⟨t0, t1, t2⟩ := HT5.out.c3
  have hl5 := HL5.out.size
  have ha5 : ad.block < w5.heap.size := by omega
  have hll : (0 : Int) < (l.length : Int) := by omega
  go_upto_region 7 with (first | refine wpList_load_mid rfl 69 (.tmp 44) rfl ad.block (ad.off + 1) rfl (styCells s0) _ (HRNG.out _ HL5.out) Try.underlying69 rfl (by kernel_rfl) ?_ | refine wpList_store_new rfl 69 _ _ rfl _ rfl (styCells s0).toArray rfl rfl 69 _ (by kernel_rfl) rfl HO.out ?_)
  obtain ⟨w6, hw6⟩ : ∃ w6, w6 = w5.alloc (.cells (styCells s0).toArray 69) := ⟨_, rfl⟩
  have HS6 : Hid (Blk w6 w5.heap.size 69 (styCells s0).toArray) := Lib.hid (by rw [hw6]; exact Blk.new _ _ _)
  have HB6 : Hid (Below w5.heap.size w5 w6) := Lib.hid (by rw [hw6]; exact (Below.refl _ _).alloc (Nat.le_refl _) _)
  rw [← hw6]
  obtain ⟨gS, hgS⟩ : ∃ gS, gS = w5.heap.size := ⟨_, rfl⟩
  rw [← hgS] at HS6 ⊢
  have HGS : Hid (w.heap.size + 1 < gS ∧ bw < gS ∧ gs < gS) := Lib.hid (by rw [hgS]; exact ⟨by have := HI5.out.lt; omega, HY5.out.wk.lt, HY5.out.s.lt⟩)
  clear hw6 hgS t0 t1 t2
  have HWI6 := Lib.hid (HWI.out.below HB6.out)
  have hcl0 : 0 < C.l.length := by rw [HCB.out.2.2]; exact hl0
  have q7 := Lib.hid (spot_any C _ none none 0 0 w6 HCO.out HWI6.out 0 hcl0)
  rw [HCB.out.1, HCB.out.2.1, Nat.zero_mul, show ((0 : Nat) : Int) = 0 from rfl] at q7
  go_upto_region 8 with (go_at_call 42; refine q7.out.mono ?_; rintro e w7 ⟨rfl, hb7⟩; have HWI7 := Lib.hid (HWI6.out.below hb7); have HS7 := Lib.hid (HS6.out.below hb7 HS6.out.lt); have HB7 := Lib.hid (HB6.out.trans (hb7.mono HB6.out.size)); clear hb7)
  have hsl : 0 < (⟨0, ⟨0, 0⟩, [], [], List.replicate l.length sp0⟩ : Wk).sp.length := by simpa using hl0
  obtain ⟨s0c, s1c, -, -, -⟩ := HWI7.out.sc (i := 0) hsl
  rw [HCB.out.2.1, Nat.zero_mul] at s0c
  rw [HCB.out.2.1, Nat.zero_mul, Nat.zero_add] at s1c
  have fs := (wk_fr HWI7.out).2
  rw [HCB.out.2.1] at fs
  have y27 := HS7.out.get 27 (v := .int .i64 0) (by rw [← HST.out.b3]; rfl)
  have y31 := HS7.out.get 31 (v := .int .i64 0) (by rw [← HST.out.p3]; rfl)
  obtain ⟨ro, hro⟩ : ∃ ro, ro = roofF s0 := ⟨_, rfl⟩
  have HRB : Hid (0 ≤ ro ∧ ro ≤ 2097152) := Lib.hid (by rw [hro]; exact roof_bd HST.out)
  have HROF := Lib.hid (fun W' => roof_any s0 W' HST.out)
  rw [← hro] at HROF HK
  have hrb := HRB.out
  have u1 : IntKind.i64.wrap (-ro) = -ro := IntWalk.i64_in _ ⟨by omega, by omega⟩
  clear hro hrb
  go_upto_region 9 with (fail)
  have HW8' := Lib.hid (HWI7.out.setS HCO.out (i := 0) hsl 0 (by omega) (.int .i64 0) (fun p => { p with left := 0 }) (fun _ => rfl))
  rw [HCB.out.2.1, Nat.zero_mul, Nat.add_zero] at HW8'
  have HNS : Hid (gS ≠ gs ∧ gS ≠ bw) := Lib.hid (by have := HGS.out; omega)
  have HS8 := Lib.hid (HS7.out.far (p := ⟨gs, 0, none⟩) HNS.out.1 (.int .i64 0))
  have HB8 : Hid (Below w.heap.size w (w7.setCell ⟨gs, 0, none⟩ (.int .i64 0))) := Lib.hid ((HL5.out.trans (HB7.out.mono hl5)).setCell (p := ⟨gs, 0, none⟩) (by have := HY5.out.ge; have := HL4.out.size; simp; omega) _)
  clear s0c s1c y27 y31 fs
  generalize World.setCell w7 _ _ = w8 at HW8' HS8 HB8 ⊢
  have hsl2 : 0 < (setSp ⟨0, ⟨0, 0⟩, [], [], List.replicate l.length sp0⟩ 0 fun p => { p with left := 0 }).sp.length := by show 0 < (List.modify _ _ _).length; rw [List.length_modify]; exact hsl
  go_upto_region 10 with (first | (refine wpList_load_mid rfl 69 (.tmp 11) rfl gS 0 rfl (styCells s0) _ (blk_rngF HS8.out) Try.underlying69 rfl (by kernel_rfl) ?_) | (go_at_call 43; refine (HROF.out _).mono ?_; rintro e w9 ⟨rfl, hw9⟩; have HW9 := Lib.hid (HW8'.out.below (hw9 ▸ (Below.refl _ _).alloc (Nat.le_refl _) _)); have HB9 : Hid (Below w.heap.size w w9) := Lib.hid (hw9 ▸ HB8.out.alloc HB8.out.size _); clear hw9; obtain ⟨-, s1c, -, -, -⟩ := HW9.out.sc (i := 0) hsl2; rw [HCB.out.2.1, Nat.zero_mul, Nat.zero_add] at s1c; have fs := (wk_fr HW9.out).2; rw [HCB.out.2.1] at fs))
  have HW10' := Lib.hid (HW9.out.setS HCO.out (i := 0) hsl2 1 (by omega) (.int .i64 (-ro)) (fun p => { p with top := -ro }) (fun _ => rfl))
  rw [HCB.out.2.1, Nat.zero_mul, Nat.zero_add] at HW10'
  have HB10 : Hid (Below w.heap.size w (w9.setCell ⟨gs, 1, none⟩ (.int .i64 (-ro)))) := Lib.hid (HB9.out.setCell (p := ⟨gs, 1, none⟩) (by have := HY5.out.ge; have := HL4.out.size; simp; omega) _)
  clear s1c fs
  generalize World.setCell w9 _ _ = w10 at HW10' HB10 ⊢
  have e0 : setSp (setSp ⟨0, ⟨0, 0⟩, [], [], List.replicate l.length sp0⟩ 0 fun p => { p with left := 0 }) 0 (fun p => { p with top := -ro }) = k0F n ro := by
    rw [HLN.out]; unfold setSp k0F; rw [List.replicate_succ]; rfl
  rw [e0] at HW10'
  have hk0 : wkB (k0F n ro) = true := wkB_k0 n ro HRB.out
  have q10 := Lib.hid (contents_any C HCO.out g (k0F n ro) _ _ _ _ w10 0 0 k HW10'.out hk0 hcl0 (by have := HK.out; rw [HCX.out]; exact this))
  rw [HCB.out.1, show ((0 : Nat) : Int) = 0 from rfl] at q10
  go_upto_region 11 with (go_at_call 44; refine q10.out.mono ?_; rintro e w11 ⟨⟨_, rfl⟩, Af, cf, Ao, co, hi11⟩; have HI11 := Lib.hid hi11; clear hi11)
  have HL11 : Hid (Below bw w5 w11) := Lib.hid (by have := HI11.out.bl C HCO.out; rw [HCX.out] at this; exact this)
  have HI11b := Lib.hid (HI5.out.below HL11.out (by have := HI3.out.lt; rw [HBW.out]; exact this))
  have HBX11 : Hid (Reads w11 w11.heap.size 1 Ab n ((List.range' 1 n).map fun (i : Nat) => Value.int .i64 i)) := Lib.hid (((HBX4.out.below HY5.out.lo).below HL11.out).more (by have := HL11.out.size; have := HY5.out.wk.lt; omega))
  have HL12 : Hid (Below w.heap.size w w11) := Lib.hid (HL5.out.trans (HL11.out.mono hbz))
  have q11 := Lib.hid (told_any C k Af Ao cf co w11 HCO.out HI11.out (contF_wkB hk0 HK.out) n (by rw [HCB.out.2.2]; exact HLN.out) Ab cb HBX11.out s0 (by rw [HCB.out.2.2]; unfold styF; rw [List.getElem?_eq_getElem hl0, HS0.out]; rfl) (by have := HFR.out; rw [HCX.out]; exact this) HH.out)
  rw [HCB.out.1] at q11
  obtain ⟨Hh, hHh⟩ : ∃ Hh, Hh = highF s0 (lowF k) + (roofF s0 + floorF s0) := ⟨_, rfl⟩
  rw [← hHh] at q11
  have HHH := Lib.hid hHh
  clear hHh
  go_wp2_with (go_at_call 45; refine q11.out.mono ?_; rintro e w12 ⟨gF, gB, rfl, hf12, hb12⟩; have HF12 : Hid (Blk w12 gF 58 (frsCells ((List.range' 1 n).map (frF l us k))).toArray) := Lib.hid (by have := hf12; rw [HCX.out] at this; exact this); have HL13 := Lib.hid (HL12.out.trans (hb12.mono HL12.out.size)); have HI12 := Lib.hid (HI11b.out.below hb12 HI11b.out.lt); clear hf12 hb12; have x0 := HI12.out.get 0 (v := .slice none 0 0) rfl; have x1 := HI12.out.get 1 (v := .slice none 0 0) rfl; have x2 := HI12.out.get 2 (v := .slice none 0 0) rfl; have x3 := HI12.out.get 3 (v := .int .i64 0) rfl; have x4 := HI12.out.get 4 (v := .slice none 0 0) rfl; have x5 := HI12.out.get 5 (v := .bool false) rfl; have xf := HI12.out.frozen; unfold isC)
  refine bodyPost_ret (results_cell_row rfl _ _ (w.heap.size + 1) 52 #[_, _, _, _, _, _] (0, 0) _ rfl ((((((HI12.out.set_ 0 (.slice Ab n cb)).set_ 1 (.slice (some ⟨gF, 0, none⟩) n n)).set_ 2 (.slice (some ⟨gB, 0, none⟩) n n)).set_ 3 (.int .i64 Hh)).set_ 4 (.slice none 0 0)).set_ 5 (.bool false)) Try.underlying52 rfl (by kernel_rfl)) rfl ⟨Ab, cb, gF, gB, ?_, ?_, ?_⟩
  · rw [← HHH.out]; rfl
  · have hne := HF12.out.ne_ HI12.out (by decide)
    exact (((((HF12.out.far hne _).far hne _).far hne _).far hne _).far hne _).far hne _
  · have hl : ∀ (W' : World) (i : Nat) (v : Value), Below w.heap.size w W' → Below w.heap.size w (W'.setCell ⟨w.heap.size + 1, i, none⟩ v) := fun W' i v h => h.setCell (p := ⟨w.heap.size + 1, i, none⟩) (by simp) _
    exact hl _ _ _ (hl _ _ _ (hl _ _ _ (hl _ _ _ (hl _ _ _ (hl _ _ _ HL13.out)))))
end
end Go.Proofs.Ytlebbkhhhmempaa
