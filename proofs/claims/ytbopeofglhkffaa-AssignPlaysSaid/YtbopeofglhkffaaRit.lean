/- The document's items of chapter 19: jambref19.Items. -/
import Derived.Test.YtbopeofglhkffaaTri
import Derived.Test.YtbopeofglhkffaaItg
import Derived.Test.YtbopeofglhkffaaRwi
set_option linter.unusedSimpArgs false
set_option linter.unusedVariables false
namespace Go.Proofs.Ytbopeofglhkffaa
open Go.RowKit
attribute [local go_sem] block_of_add
/-- An item as the document keeps it. -/
def riCells (s : Sty) (a b c d e : Int) : List Value := styCells s ++ [.int .i64 a, .int .i64 b, .int .i64 c, .int .i64 d, .int .i64 e, .int .i64 0, .bool false, .int .i64 0]
def riC (x : It) : List Value := riCells x.s x.left x.right x.sides x.base x.guess
def risC (M : Nat → It) (n : Nat) : List Value := (List.range n).flatMap fun k => riC (M k)
theorem risC_succ (M : Nat → It) (n : Nat) : risC M (n + 1) = risC M n ++ riC (M n) := by simp [risC, List.range_succ]
theorem ri_set (s : Sty) : setAll (riCells styD 0 0 0 0 0).toArray 0 (styCells s) = (riCells s 0 0 0 0 0).toArray :=
  setAll_mid (styCells s) (styCells styD) [] [.int .i64 0, .int .i64 0, .int .i64 0, .int .i64 0, .int .i64 0, .int .i64 0, .bool false, .int .i64 0] (by rw [sty_len, sty_len])
theorem ri_len (s : Sty) (a b c d e : Int) : (riCells s a b c d e).length = 51 := rfl
theorem el_ri : El Try.prog 91 97 (.agg (riCells styD 0 0 0 0 0).toArray) 51 384 := ⟨Try.underlying91, by kernel_rfl, rfl, by decide⟩
/-- The item that is being made. -/
structure RiI (B g : Nat) (n i : Nat) (M : Nat → It) (v : Value) (y : List Value) (w W : World) : Prop where
  own : W.ownsRow B 97 51 v i (risC M i)
  it : Blk W g 97 y.toArray
  b : Below B w W
  ge : B ≤ g
  lo : B ≤ W.heap.size
  ne : v.ownBlock ≠ some g
section
variable {B g n i : Nat} {M : Nat → It} {v : Value} {y y2 : List Value} {w W W' : World}
theorem RiI.bel (h : RiI B g n i M v y w W) (hb : Below W.heap.size W W') : RiI B g n i M v y w W' :=
  ⟨own_below h.own hb, h.it.below hb h.it.lt, h.b.trans (hb.mono h.lo), h.ge, Nat.le_trans h.lo hb.size, h.ne⟩
theorem RiI.set (h : RiI B g n i M v y w W) (j : Nat) (u : Value) (e : y.toArray.setIfInBounds j u = y2.toArray) : RiI B g n i M v y2 w (W.setCell ⟨g, j, none⟩ u) :=
  ⟨ownsRow_setCell_other h.own (a := ⟨g, j, none⟩) h.ne u, by rw [← e]; exact h.it.set_ j u, h.b.setCell (p := ⟨g, j, none⟩) h.ge u, h.ge, by have := h.lo; simpa [World.setCell] using this, h.ne⟩
theorem RiI.sets (h : RiI B g n i M v y w W) (o : Nat) (vs : List Value) (e : setAll y.toArray o vs = y2.toArray) : RiI B g n i M v y2 w (W.setCells g o vs) :=
  ⟨own_setCells h.ne vs o W h.own, by rw [← e]; exact Blk.setCells vs o W _ h.it, below_setCells h.ge vs o _ _ h.b, h.ge, by rw [size_setCells]; exact h.lo, h.ne⟩
end
theorem there_blk {w : World} {g : Nat} {t : TypeId} {cs : Array Value} {k : Nat} (h : Blk w g t cs) (hk : k ≤ cs.size) : w.there g 0 k := fun j hj => by
  rw [Nat.zero_add, h.cell j, Array.getElem?_eq_getElem (by omega)]; exact ⟨rfl, h.frozen j⟩
theorem ri_rng {W : World} {g : Nat} {s : Sty} {a b c d e : Int} (hb : Blk W g 97 (riCells s a b c d e).toArray) : W.rangeAt g 0 (styCells s) := blk_rng hb fun j v hv => by
  rw [Nat.zero_add]
  unfold riCells
  rw [List.getElem?_append_left (by have := (List.getElem?_eq_some_iff.1 hv).1; exact this)]; exact hv
theorem ri_ones {s : Sty} {a b c d e : Int} (h : (styCells s).toArray.all (·.oneCell') = true) : ∀ u ∈ riCells s a b c d e, u.oneCell' = true := fun u hu => by
  unfold riCells at hu
  rcases List.mem_append.1 hu with h1 | h1
  · exact Array.all_eq_true'.1 h u (by simpa using h1)
  · simp at h1; rcases h1 with rfl | rfl | rfl | rfl | rfl | rfl | rfl | rfl <;> rfl
theorem res_b (l : Ln) (c : Int) (w : World) (hl : LnM l) (hc : CB c) : Calls Try.prog 33 #[.agg #[.int .u8 l.k, .int .i64 l.n], .int .i64 c] w (AnsB (.tuple #[.int .i64 (resF l c).1, .bool (resF l c).2]) w) :=
  (rresolve_any l.k l.n c w hl hc).mono fun _ _ ⟨he, hw⟩ => ⟨he, hw ▸ bal (Below.refl _ _) _⟩
theorem rcl_b (s : Sty) (c v : Int) (w : World) (h1 : LnM s.maxw) (h2 : LnM s.minw) (hc : CB c) : Calls Try.prog 34 #[.agg (styCells s).toArray, .int .i64 c, .int .i64 v] w (AnsB (.int .i64 (clampF s c v)) w) :=
  (rclamp_any s c v w h1 h2 hc).mono fun _ _ ⟨he, hw⟩ => ⟨he, hw ▸ bal (bal (bal (Below.refl _ _) _) _) _⟩
/-! Items, walked. -/
set_option maxRecDepth 100000 in
set_option maxHeartbeats 4000000 in
theorem ritems_any (c : Int) (l : List Sty) (got : List Cn) (A Ag : Option Addr) (ck cg : Nat) (w : World) (hn : l.length ≤ 1000) (hr : Reads w w.heap.size 43 A l.length (stysCells l)) (huv : ∀ s ∈ l, ∃ Au nu cu, s.uv = .slice Au nu cu)
    (hg : Reads w w.heap.size 4 Ag got.length (cnsCells got)) (hc : CB c) (hs : ∀ s ∈ l, StM s) (hgc : ∀ x ∈ got, 0 ≤ x.greatest ∧ x.greatest ≤ 1099511627776) :
    Calls Try.prog 43 #[.int .i64 c, .slice A l.length ck, .slice Ag got.length cg] w fun e w' => (∃ v, e = .returned v ∧ w'.ownsRow w.heap.size 97 51 v l.length (risC (itM l c got) l.length)) ∧ Below w.heap.size w w' := by
  have HR := Lib.hid hr
  have HG := Lib.hid hg
  have HUV := Lib.hid huv
  have HC := Lib.hid hc
  have HS := Lib.hid hs
  have HGB := Lib.hid (gAt_bd hgc)
  clear hr hg huv hc hs hgc
  obtain ⟨n, hne⟩ : ∃ n, n = l.length := ⟨_, rfl⟩
  rw [← hne] at HR hn ⊢
  have HN := Lib.hid hne
  clear hne
  obtain ⟨m, hme⟩ : ∃ m, m = got.length := ⟨_, rfl⟩
  rw [← hme] at HG ⊢
  have HM := Lib.hid hme
  clear hme
  go_enter Try.func43, Try.ntmps43
  go_wp2_with fail
  go_loopw [7, 8] (fun v kv wr => ∃ i : Nat, i ≤ n ∧ kv = .int .i64 i ∧ Hid (wr.ownsRow w.heap.size 97 51 v i (risC (itM l c got) i) ∧ Below w.heap.size w wr)) (fun _ kv _ => n - (intOf kv).toNat)
  case atStart => exact ⟨0, by omega, rfl, Lib.hid ⟨World.ownsRow_nil _ _ _ _, Below.refl _ _⟩⟩
  case round =>
    obtain ⟨i, hi, rfl, H⟩ := hrel
    obtain ⟨A7, c7, hv7⟩ := own_form H.out.1
    subst hv7
    by_cases hlt : i < n
    rotate_left
    · have g0 : decide ((i : Int) < (n : Int)) = false := decide_eq_false (by omega)
      have g0' : decide (i < n) = false := decide_eq_false hlt
      have hin : i = n := by omega
      rw [hin] at H ⊢
      clear hin hlt g0'
      have g0' : decide (n < n) = false := decide_eq_false (by omega)
      go_wp2_with fail
      go_ret
      exact ⟨⟨_, rfl, H.out.1⟩, H.out.2⟩
    have g0 : decide ((i : Int) < (n : Int)) = true := decide_eq_true (by omega)
    have g0' : decide (i < n) = true := decide_eq_true hlt
    have hki : (i : Int) < (n : Int) := by omega
    have hk0 : (0 : Int) ≤ (i : Int) := by omega
    have wk : IntKind.i64.wrap ((i : Int) + 1) = (i : Int) + 1 := IntWalk.i64_in _ ⟨by omega, by omega⟩
    have hil : i < l.length := by rw [← HN.out]; exact hlt
    obtain ⟨ad, rfl, hst⟩ := HR.out.st HN.out hil
    obtain ⟨s, hse⟩ : ∃ s, s = l[i] := ⟨_, rfl⟩
    have HLD0 : Hid (∀ W, Below w.heap.size w W → ∀ j u, (styCells s)[j]? = some u → W.cell? ((ad.add (i * 43)).add j) = some u) := Lib.hid (fun W hb j u hu => by
      obtain ⟨ad', e, hb, hcc⟩ := (HR.out.below hb).2 (by omega)
      injection e with e; subst e
      have hj : j < 43 := by have := (List.getElem?_eq_some_iff.1 hu).1; rw [sty_len] at this; exact this
      rw [add_of_add]
      exact hcc _ u (by rw [stysCells_at l i j hil hj, ← hse]; exact hu))
    obtain ⟨Au, nu, cu, huv⟩ := HUV.out l[i] (List.getElem_mem hil)
    rw [← hse] at huv
    have HO := Lib.hid (Sty.one s huv)
    have HSM : Hid (StM s) := Lib.hid (by rw [hse]; exact HS.out l[i] (List.getElem_mem hil))
    obtain ⟨x, hx⟩ : ∃ x, x = itM l c got i := ⟨_, rfl⟩
    have HX : Hid (x = measF s c (gAt got i).greatest) := Lib.hid (by rw [hx]; unfold itM; rw [stK_at hil, ← hse])
    have HXI := Lib.hid hx
    clear hst hse huv hx
    go_upto_region 6 with (fail)
    obtain ⟨gi, hgi⟩ : ∃ gi, gi = wr.heap.size := ⟨_, rfl⟩
    have H3 : Hid (RiI w.heap.size gi n i (itM l c got) (.slice A7 i c7) (riCells styD 0 0 0 0 0) w (wr.alloc (.cells (riCells styD 0 0 0 0 0).toArray 97))) := Lib.hid
      ⟨own_below H.out.1 (bal (Below.refl _ _) _), Blk.at_ _ _ _ hgi, bal H.out.2 _, by rw [hgi]; exact H.out.2.size, Nat.le_trans H.out.2.size (by simp), fun e => by have := (H.out.1.lt gi e).2; omega⟩
    change Code.wp Try.prog _ _ _ (wr.alloc (.cells (riCells styD 0 0 0 0 0).toArray 97))
    rw [← hgi]
    obtain ⟨w3, hw3⟩ : ∃ w3, w3 = wr.alloc (.cells (riCells styD 0 0 0 0 0).toArray 97) := ⟨_, rfl⟩
    rw [← hw3] at H3 ⊢
    clear hw3 hgi
    have HLD := Lib.hid (HLD0.out w3 H3.out.b)
    have HTH := Lib.hid (there_blk (k := 43) H3.out.it (by rw [List.size_toArray, ri_len]; omega))
    go_upto_region 7 with (first
      | refine wpList_load_at rfl 52 _ rfl _ rfl (styCells s) _ HLD.out Try.underlying52 rfl (by kernel_rfl) ?_
      | refine wpList_store_mid rfl 52 _ _ rfl gi 0 (styCells s).toArray rfl rfl HTH.out (by kernel_rfl) HO.out ?_)
    have H4 := Lib.hid (H3.out.sets (y2 := riCells s 0 0 0 0 0) 0 (styCells s) (ri_set s))
    change Code.wp Try.prog _ _ _ (w3.setCells gi 0 (styCells s))
    obtain ⟨w4, hw4⟩ : ∃ w4, w4 = w3.setCells gi 0 (styCells s) := ⟨_, rfl⟩
    rw [← hw4] at H4 ⊢
    clear hw4 HLD HTH HLD0 H3 H
    obtain ⟨p3, hp3⟩ : ∃ p, p = resF s.m3 c := ⟨_, rfl⟩
    obtain ⟨p1, hp1⟩ : ∃ p, p = resF s.m1 c := ⟨_, rfl⟩
    obtain ⟨pb, hpb⟩ : ∃ p, p = resF s.basis c := ⟨_, rfl⟩
    obtain ⟨pw, hpw⟩ : ∃ p, p = resF s.w c := ⟨_, rfl⟩
    obtain ⟨fr, hfr⟩ : ∃ fr, fr = frameF s := ⟨_, rfl⟩
    have b3 := res_bd HSM.out.m3 HC.out
    have b1 := res_bd HSM.out.m1 HC.out
    have bf : 0 ≤ frameF s ∧ frameF s ≤ 4398046511104 := by
      have h := HSM.out.b
      have h1 := h.b1
      have h2 := h.b3
      have h3 := h.p1
      have h4 := h.p3
      unfold frameF; omega
    have HR3 := Lib.hid (fun W => res_b s.m3 c W HSM.out.m3 HC.out)
    have HR1 := Lib.hid (fun W => res_b s.m1 c W HSM.out.m1 HC.out)
    have HRB := Lib.hid (fun W => res_b s.basis c W HSM.out.basis HC.out)
    have HRW := Lib.hid (fun W => res_b s.w c W HSM.out.w HC.out)
    have HFR := Lib.hid (fun W => rframe_any s W HSM.out.b)
    have HCL := Lib.hid (fun W v => rcl_b s c v W HSM.out.maxw HSM.out.minw HC.out)
    rw [← hp3] at b3 HR3
    rw [← hp1] at b1 HR1
    rw [← hpb] at HRB
    rw [← hpw] at HRW
    rw [← hfr] at bf HFR
    have HXE : Hid (∀ base, base = (if pb.2 then pb.1 else if pw.2 then pw.1 else (gAt got i).greatest) → riC x = riCells s p3.1 p1.1 (p3.1 + p1.1 + fr) base (clampF s c base)) := Lib.hid (fun base hb => by
      have e : baseF s c (gAt got i).greatest = base := by unfold baseF; rw [← hpb, ← hpw, hb]
      rw [HX.out]; unfold riC measF; rw [e, ← hp3, ← hp1, ← hfr])
    have HW0 : Hid (pw.2 = false → pw.1 = 0) := Lib.hid (by rw [hpw]; exact res_no s.w c)
    clear hp3 hp1 hpb hpw hfr
    obtain ⟨L, hL⟩ : ∃ L, L = p3.1 := ⟨_, rfl⟩
    obtain ⟨R, hR⟩ : ∃ R, R = p1.1 := ⟨_, rfl⟩
    rw [← hL] at b3 HR3 HXE
    rw [← hR] at b1 HR1 HXE
    clear hL hR
    have w1 : IntKind.i64.wrap (L + R) = L + R := IntWalk.i64_in _ ⟨by omega, by omega⟩
    have w2 : IntKind.i64.wrap (L + R + fr) = L + R + fr := IntWalk.i64_in _ ⟨by omega, by omega⟩
    have c1 : w4.cell? ⟨gi, 22, none⟩ = some (.int .u8 s.m3.k) := H4.out.it.get 22 rfl
    have c2 : w4.cell? ⟨gi, 23, none⟩ = some (.int .i64 s.m3.n) := H4.out.it.get 23 rfl
    go_upto_region 8 with (go_at_call 33; refine (HR3.out _).mono ?_; rintro e w5 ⟨rfl, hb5⟩; have H5 := Lib.hid (H4.out.bel hb5); clear hb5; have q1 : w5.cell? ⟨gi, 43, none⟩ = some (.int .i64 0) := H5.out.it.get 43 rfl; have q2 := H5.out.it.frozen 43)
    clear c1 c2 q1 q2
    have H6 := Lib.hid (H5.out.set (y2 := riCells s L 0 0 0 0) 43 (.int .i64 L) rfl)
    obtain ⟨w6, hw6⟩ : ∃ w6, w6 = w5.setCell ⟨gi, 43, none⟩ (.int .i64 L) := ⟨_, rfl⟩
    rw [← hw6] at H6 ⊢
    clear hw6
    have c1 : w6.cell? ⟨gi, 18, none⟩ = some (.int .u8 s.m1.k) := H6.out.it.get 18 rfl
    have c2 : w6.cell? ⟨gi, 19, none⟩ = some (.int .i64 s.m1.n) := H6.out.it.get 19 rfl
    go_upto_region 9 with (go_at_call 33; refine (HR1.out _).mono ?_; rintro e w7 ⟨rfl, hb7⟩; have H7 := Lib.hid (H6.out.bel hb7); clear hb7; have q1 : w7.cell? ⟨gi, 44, none⟩ = some (.int .i64 0) := H7.out.it.get 44 rfl; have q2 := H7.out.it.frozen 44)
    clear c1 c2 q1 q2
    have H8 := Lib.hid (H7.out.set (y2 := riCells s L R 0 0 0) 44 (.int .i64 R) rfl)
    obtain ⟨w8, hw8⟩ : ∃ w8, w8 = w7.setCell ⟨gi, 44, none⟩ (.int .i64 R) := ⟨_, rfl⟩
    rw [← hw8] at H8 ⊢
    clear hw8
    have HRG := Lib.hid (ri_rng H8.out.it)
    go_upto_region 10 with (first
      | refine wpList_load_mid rfl 52 (.tmp 46) rfl gi 0 rfl (styCells s) _ HRG.out Try.underlying52 rfl (by kernel_rfl) ?_
      | (go_at_call 14; refine (HFR.out _).mono ?_; rintro e w9 ⟨⟨d, rfl⟩, hb9⟩; have H9 := Lib.hid (H8.out.bel hb9); clear hb9))
    clear HRG
    have c1 : w9.cell? ⟨gi, 43, none⟩ = some (.int .i64 L) := H9.out.it.get 43 rfl
    have c2 : w9.cell? ⟨gi, 44, none⟩ = some (.int .i64 R) := H9.out.it.get 44 rfl
    have q1 : w9.cell? ⟨gi, 45, none⟩ = some (.int .i64 0) := H9.out.it.get 45 rfl
    have q2 := H9.out.it.frozen 45
    go_upto_region 11 with (fail)
    clear c1 c2 q1 q2
    have H10 := Lib.hid (H9.out.set (y2 := riCells s L R (L + R + fr) 0 0) 45 (.int .i64 (L + R + fr)) rfl)
    obtain ⟨w10, hw10⟩ : ∃ w10, w10 = w9.setCell ⟨gi, 45, none⟩ (.int .i64 (L + R + fr)) := ⟨_, rfl⟩
    rw [← hw10] at H10 ⊢
    clear hw10
    have c1 : w10.cell? ⟨gi, 40, none⟩ = some (.int .u8 s.basis.k) := H10.out.it.get 40 rfl
    have c2 : w10.cell? ⟨gi, 41, none⟩ = some (.int .i64 s.basis.n) := H10.out.it.get 41 rfl
    go_upto_region 12 with (go_at_call 33; refine (HRB.out _).mono ?_; rintro e w11 ⟨rfl, hb11⟩; have H11 := Lib.hid (H10.out.bel hb11); clear hb11)
    clear c1 c2 w1 w2
    obtain ⟨B1, hB1⟩ : ∃ B1, B1 = pb.1 := ⟨_, rfl⟩
    obtain ⟨b2, hb2⟩ : ∃ b2, b2 = pb.2 := ⟨_, rfl⟩
    obtain ⟨W1, hW1⟩ : ∃ W1, W1 = pw.1 := ⟨_, rfl⟩
    obtain ⟨v2, hv2⟩ : ∃ v2, v2 = pw.2 := ⟨_, rfl⟩
    rw [← hB1, ← hb2] at HXE ⊢
    rw [← hW1, ← hv2] at HXE HRW HW0
    clear hB1 hb2 hW1 hv2
    cases b2
    rotate_left
    · have HBE := Lib.hid (HXE.out B1 rfl)
      go_upto_region 16 with (fail)
      have q1 : w11.cell? ⟨gi, 46, none⟩ = some (.int .i64 0) := H11.out.it.get 46 rfl
      have q2 := H11.out.it.frozen 46
      go_upto_region 17 with (fail)
      clear q1 q2
      have H20 := Lib.hid (H11.out.set (y2 := riCells s L R (L + R + fr) B1 0) 46 (.int .i64 B1) rfl)
      obtain ⟨w20, hw20⟩ : ∃ w20, w20 = w11.setCell ⟨gi, 46, none⟩ (.int .i64 B1) := ⟨_, rfl⟩
      rw [← hw20] at H20 ⊢
      clear hw20
      have HRG := Lib.hid (ri_rng H20.out.it)
      go_upto_region 18 with (first
        | refine wpList_load_mid rfl 52 (.tmp 92) rfl gi 0 rfl (styCells s) _ HRG.out Try.underlying52 rfl (by kernel_rfl) ?_
        | (go_at_call 34; refine (HCL.out _ _).mono ?_; rintro e w21 ⟨rfl, hb21⟩; have H21 := Lib.hid (H20.out.bel hb21); clear hb21; have q1 : w21.cell? ⟨gi, 47, none⟩ = some (.int .i64 0) := H21.out.it.get 47 rfl; have q2 := H21.out.it.frozen 47))
      clear q1 q2 HRG
      have H22 := Lib.hid (H21.out.set (y2 := riC x) 47 (.int .i64 (clampF s c B1)) (by rw [HBE.out]; rfl))
      obtain ⟨w22, hw22⟩ : ∃ w22, w22 = w21.setCell ⟨gi, 47, none⟩ (.int .i64 (clampF s c B1)) := ⟨_, rfl⟩
      rw [← hw22] at H22 ⊢
      clear hw22
      have HO1 : Hid (∀ u ∈ riC x, u.oneCell' = true) := Lib.hid (by rw [HBE.out]; exact ri_ones HO.out)
      have HLN : Hid ((riC x).length = 51) := Lib.hid (by rw [HBE.out]; rfl)
      have HRA := Lib.hid (show w22.rangeAt gi 0 (riC x) from blk_rng H22.out.it fun j v hv => by rw [Nat.zero_add]; exact hv)
      go_wp2_with (first
        | refine wpList_load_mid rfl 97 (.tmp 9) rfl gi 0 rfl (riC x) _ HRA.out Try.underlying97 rfl (by rw [HLN.out]; kernel_rfl) ?_
        | refine wpList_rows rfl 91 1 #[(0, .tmp 99)] rfl (.slice (some ⟨w22.heap.size, 0, none⟩) 1 1) (w22.alloc (.cells (riC x).toArray 97)) (by rw [HBE.out]; kernel_rfl) ?_
        | (at_builtin; refine wpList_app (m := 1) rfl _ _ rfl el_ri H22.out.own H22.out.lo rfl (riC x) rfl (by rw [HLN.out]) HO1.out (by omega) (by omega) ?_; intro A8 c8 w24 hown8 hB8 hg8 _; have H24 := Lib.hid (And.intro hown8 (hB8 _ _ (Nat.le_refl _) H22.out.b)); clear hown8 hB8 hg8))
      go_roundw
      case rel => exact ⟨i + 1, by omega, by go_num, Lib.hid ⟨by rw [risC_succ, ← HXI.out]; exact H24.out.1, H24.out.2⟩⟩
      case measure => simp [intOf] <;> omega
    have c1 : w11.cell? ⟨gi, 4, none⟩ = some (.int .u8 s.w.k) := H11.out.it.get 4 rfl
    have c2 : w11.cell? ⟨gi, 5, none⟩ = some (.int .i64 s.w.n) := H11.out.it.get 5 rfl
    go_upto_region 14 with (go_at_call 33; refine (HRW.out _).mono ?_; rintro e w12 ⟨rfl, hb12⟩; have H12 := Lib.hid (H11.out.bel hb12); clear hb12)
    clear c1 c2
    cases v2
    rotate_left
    · have HBE := Lib.hid (HXE.out W1 rfl)
      go_upto_region 16 with (fail)
      have q1 : w12.cell? ⟨gi, 46, none⟩ = some (.int .i64 0) := H12.out.it.get 46 rfl
      have q2 := H12.out.it.frozen 46
      go_upto_region 17 with (fail)
      clear q1 q2
      have H20 := Lib.hid (H12.out.set (y2 := riCells s L R (L + R + fr) W1 0) 46 (.int .i64 W1) rfl)
      obtain ⟨w20, hw20⟩ : ∃ w20, w20 = w12.setCell ⟨gi, 46, none⟩ (.int .i64 W1) := ⟨_, rfl⟩
      rw [← hw20] at H20 ⊢
      clear hw20
      have HRG := Lib.hid (ri_rng H20.out.it)
      go_upto_region 18 with (first
        | refine wpList_load_mid rfl 52 (.tmp 92) rfl gi 0 rfl (styCells s) _ HRG.out Try.underlying52 rfl (by kernel_rfl) ?_
        | (go_at_call 34; refine (HCL.out _ _).mono ?_; rintro e w21 ⟨rfl, hb21⟩; have H21 := Lib.hid (H20.out.bel hb21); clear hb21; have q1 : w21.cell? ⟨gi, 47, none⟩ = some (.int .i64 0) := H21.out.it.get 47 rfl; have q2 := H21.out.it.frozen 47))
      clear q1 q2 HRG
      have H22 := Lib.hid (H21.out.set (y2 := riC x) 47 (.int .i64 (clampF s c W1)) (by rw [HBE.out]; rfl))
      obtain ⟨w22, hw22⟩ : ∃ w22, w22 = w21.setCell ⟨gi, 47, none⟩ (.int .i64 (clampF s c W1)) := ⟨_, rfl⟩
      rw [← hw22] at H22 ⊢
      clear hw22
      have HO1 : Hid (∀ u ∈ riC x, u.oneCell' = true) := Lib.hid (by rw [HBE.out]; exact ri_ones HO.out)
      have HLN : Hid ((riC x).length = 51) := Lib.hid (by rw [HBE.out]; rfl)
      have HRA := Lib.hid (show w22.rangeAt gi 0 (riC x) from blk_rng H22.out.it fun j v hv => by rw [Nat.zero_add]; exact hv)
      go_wp2_with (first
        | refine wpList_load_mid rfl 97 (.tmp 9) rfl gi 0 rfl (riC x) _ HRA.out Try.underlying97 rfl (by rw [HLN.out]; kernel_rfl) ?_
        | refine wpList_rows rfl 91 1 #[(0, .tmp 99)] rfl (.slice (some ⟨w22.heap.size, 0, none⟩) 1 1) (w22.alloc (.cells (riC x).toArray 97)) (by rw [HBE.out]; kernel_rfl) ?_
        | (at_builtin; refine wpList_app (m := 1) rfl _ _ rfl el_ri H22.out.own H22.out.lo rfl (riC x) rfl (by rw [HLN.out]) HO1.out (by omega) (by omega) ?_; intro A8 c8 w24 hown8 hB8 hg8 _; have H24 := Lib.hid (And.intro hown8 (hB8 _ _ (Nat.le_refl _) H22.out.b)); clear hown8 hB8 hg8))
      go_roundw
      case rel => exact ⟨i + 1, by omega, by go_num, Lib.hid ⟨by rw [risC_succ, ← HXI.out]; exact H24.out.1, H24.out.2⟩⟩
      case measure => simp [intOf] <;> omega
    obtain ⟨G, hG⟩ : ∃ G, G = (gAt got i).greatest := ⟨_, rfl⟩
    have HBE := Lib.hid (HXE.out G (by rw [hG]; rfl))
    by_cases hlm : i < m
    · have m0 : decide ((i : Int) < (m : Int)) = true := decide_eq_true (by omega)
      have m0' : decide (i < m) = true := decide_eq_true hlm
      have hmi : (i : Int) < (m : Int) := by omega
      obtain ⟨ag, rfl, hab, x0, x1, x2, x3⟩ := ((HG.out.below H12.out.b)).cn HM.out (show i < got.length by rw [← HM.out]; exact hlm)
      have hye : (got[i]'(by rw [← HM.out]; exact hlm)).greatest = G := by
        rw [hG]; unfold gAt; rw [List.getElem?_eq_getElem (by rw [← HM.out]; exact hlm)]; rfl
      rw [hye] at x1
      clear hye hG x0 x2 x3
      go_upto_region 16 with (fail)
      clear x1
      have q1 : w12.cell? ⟨gi, 46, none⟩ = some (.int .i64 0) := H12.out.it.get 46 rfl
      have q2 := H12.out.it.frozen 46
      go_upto_region 17 with (fail)
      clear q1 q2
      have H20 := Lib.hid (H12.out.set (y2 := riCells s L R (L + R + fr) G 0) 46 (.int .i64 G) rfl)
      obtain ⟨w20, hw20⟩ : ∃ w20, w20 = w12.setCell ⟨gi, 46, none⟩ (.int .i64 G) := ⟨_, rfl⟩
      rw [← hw20] at H20 ⊢
      clear hw20
      have HRG := Lib.hid (ri_rng H20.out.it)
      go_upto_region 18 with (first
        | refine wpList_load_mid rfl 52 (.tmp 92) rfl gi 0 rfl (styCells s) _ HRG.out Try.underlying52 rfl (by kernel_rfl) ?_
        | (go_at_call 34; refine (HCL.out _ _).mono ?_; rintro e w21 ⟨rfl, hb21⟩; have H21 := Lib.hid (H20.out.bel hb21); clear hb21; have q1 : w21.cell? ⟨gi, 47, none⟩ = some (.int .i64 0) := H21.out.it.get 47 rfl; have q2 := H21.out.it.frozen 47))
      clear q1 q2 HRG
      have H22 := Lib.hid (H21.out.set (y2 := riC x) 47 (.int .i64 (clampF s c G)) (by rw [HBE.out]; rfl))
      obtain ⟨w22, hw22⟩ : ∃ w22, w22 = w21.setCell ⟨gi, 47, none⟩ (.int .i64 (clampF s c G)) := ⟨_, rfl⟩
      rw [← hw22] at H22 ⊢
      clear hw22
      have HO1 : Hid (∀ u ∈ riC x, u.oneCell' = true) := Lib.hid (by rw [HBE.out]; exact ri_ones HO.out)
      have HLN : Hid ((riC x).length = 51) := Lib.hid (by rw [HBE.out]; rfl)
      have HRA := Lib.hid (show w22.rangeAt gi 0 (riC x) from blk_rng H22.out.it fun j v hv => by rw [Nat.zero_add]; exact hv)
      go_wp2_with (first
        | refine wpList_load_mid rfl 97 (.tmp 9) rfl gi 0 rfl (riC x) _ HRA.out Try.underlying97 rfl (by rw [HLN.out]; kernel_rfl) ?_
        | refine wpList_rows rfl 91 1 #[(0, .tmp 99)] rfl (.slice (some ⟨w22.heap.size, 0, none⟩) 1 1) (w22.alloc (.cells (riC x).toArray 97)) (by rw [HBE.out]; kernel_rfl) ?_
        | (at_builtin; refine wpList_app (m := 1) rfl _ _ rfl el_ri H22.out.own H22.out.lo rfl (riC x) rfl (by rw [HLN.out]) HO1.out (by omega) (by omega) ?_; intro A8 c8 w24 hown8 hB8 hg8 _; have H24 := Lib.hid (And.intro hown8 (hB8 _ _ (Nat.le_refl _) H22.out.b)); clear hown8 hB8 hg8))
      go_roundw
      case rel => exact ⟨i + 1, by omega, by go_num, Lib.hid ⟨by rw [risC_succ, ← HXI.out]; exact H24.out.1, H24.out.2⟩⟩
      case measure => simp [intOf] <;> omega
    · have m0 : decide ((i : Int) < (m : Int)) = false := decide_eq_false (by omega)
      have m0' : decide (i < m) = false := decide_eq_false hlm
      have hG0 : G = 0 := by rw [hG]; unfold gAt; rw [List.getElem?_eq_none (by rw [← HM.out]; omega)]; rfl
      clear HBE
      have HBE := Lib.hid (HXE.out W1 (by show W1 = (gAt got i).greatest; rw [HW0.out rfl, ← hG, hG0]))
      clear hG hG0
      go_upto_region 16 with (fail)
      have q1 : w12.cell? ⟨gi, 46, none⟩ = some (.int .i64 0) := H12.out.it.get 46 rfl
      have q2 := H12.out.it.frozen 46
      go_upto_region 17 with (fail)
      clear q1 q2
      have H20 := Lib.hid (H12.out.set (y2 := riCells s L R (L + R + fr) W1 0) 46 (.int .i64 W1) rfl)
      obtain ⟨w20, hw20⟩ : ∃ w20, w20 = w12.setCell ⟨gi, 46, none⟩ (.int .i64 W1) := ⟨_, rfl⟩
      rw [← hw20] at H20 ⊢
      clear hw20
      have HRG := Lib.hid (ri_rng H20.out.it)
      go_upto_region 18 with (first
        | refine wpList_load_mid rfl 52 (.tmp 92) rfl gi 0 rfl (styCells s) _ HRG.out Try.underlying52 rfl (by kernel_rfl) ?_
        | (go_at_call 34; refine (HCL.out _ _).mono ?_; rintro e w21 ⟨rfl, hb21⟩; have H21 := Lib.hid (H20.out.bel hb21); clear hb21; have q1 : w21.cell? ⟨gi, 47, none⟩ = some (.int .i64 0) := H21.out.it.get 47 rfl; have q2 := H21.out.it.frozen 47))
      clear q1 q2 HRG
      have H22 := Lib.hid (H21.out.set (y2 := riC x) 47 (.int .i64 (clampF s c W1)) (by rw [HBE.out]; rfl))
      obtain ⟨w22, hw22⟩ : ∃ w22, w22 = w21.setCell ⟨gi, 47, none⟩ (.int .i64 (clampF s c W1)) := ⟨_, rfl⟩
      rw [← hw22] at H22 ⊢
      clear hw22
      have HO1 : Hid (∀ u ∈ riC x, u.oneCell' = true) := Lib.hid (by rw [HBE.out]; exact ri_ones HO.out)
      have HLN : Hid ((riC x).length = 51) := Lib.hid (by rw [HBE.out]; rfl)
      have HRA := Lib.hid (show w22.rangeAt gi 0 (riC x) from blk_rng H22.out.it fun j v hv => by rw [Nat.zero_add]; exact hv)
      go_wp2_with (first
        | refine wpList_load_mid rfl 97 (.tmp 9) rfl gi 0 rfl (riC x) _ HRA.out Try.underlying97 rfl (by rw [HLN.out]; kernel_rfl) ?_
        | refine wpList_rows rfl 91 1 #[(0, .tmp 99)] rfl (.slice (some ⟨w22.heap.size, 0, none⟩) 1 1) (w22.alloc (.cells (riC x).toArray 97)) (by rw [HBE.out]; kernel_rfl) ?_
        | (at_builtin; refine wpList_app (m := 1) rfl _ _ rfl el_ri H22.out.own H22.out.lo rfl (riC x) rfl (by rw [HLN.out]) HO1.out (by omega) (by omega) ?_; intro A8 c8 w24 hown8 hB8 hg8 _; have H24 := Lib.hid (And.intro hown8 (hB8 _ _ (Nat.le_refl _) H22.out.b)); clear hown8 hB8 hg8))
      go_roundw
      case rel => exact ⟨i + 1, by omega, by go_num, Lib.hid ⟨by rw [risC_succ, ← HXI.out]; exact H24.out.1, H24.out.2⟩⟩
      case measure => simp [intOf] <;> omega
end Go.Proofs.Ytbopeofglhkffaa
