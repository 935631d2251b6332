/- Contracts: tree.Root, widths and margins of boxes in flow's walk. -/
import Derived.Test.YtlebbkhhhmempaaFh
import Derived.Test.YtlebbkhhhmempaaBig
import Derived.Lib.OwnKind
set_option linter.unusedSimpArgs false
set_option linter.unusedVariables false
namespace Go.Proofs.Ytlebbkhhhmempaa
open Go.RowKit
attribute [local go_sem] block_of_add

def rootF (l : List Nd) (i : Nat) : Bool := decide (i = 0) || ((styF l i).map fun s => decide (s.float ≠ 0)).getD false
/-- A style's first cells, behind its node's number of the parent. -/
theorem nd_c {w : World} {B : Nat} {ad : Addr} {i : Nat} {x : Nd} (h : NdAt w B (ad.add (i * 44)) x) :
    w.cell? (ad.add (i * 44)) = some (.int .i64 x.parent) ∧ w.cell? ⟨ad.block, (ad.add (i * 44)).off + 1, none⟩ = some (.int .u8 x.s.kind) ∧ w.cell? ⟨ad.block, (ad.add (i * 44)).off + 1 + 1, none⟩ = some (.bool x.s.flow) ∧ w.cell? ⟨ad.block, (ad.add (i * 44)).off + 1 + 2, none⟩ = some (.int .u8 x.s.float) := by
  have e : (ad.add (i * 44)).block = ad.block := block_of_add _ _
  have g := h.range
  rw [e] at g
  exact ⟨h.par, g 0 _ rfl, g 1 _ rfl, g 2 _ rfl⟩
theorem nd_range {w : World} {B : Nat} {ad : Addr} {i : Nat} {x : Nd} (h : NdAt w B (ad.add (i * 44)) x) : w.rangeAt ad.block ((ad.add (i * 44)).off + 1) (styCells x.s) := by
  have g := h.range
  rwa [block_of_add] at g
theorem el_fl : El Try.prog 105 165 (.agg #[.int .u8 0, .int .i64 0, .int .i64 0, .int .i64 0, .int .i64 0]) 5 40 := ⟨Try.underlying105, by kernel_rfl, rfl, by decide⟩
theorem own_apart {w : World} {b b' : Nat} {e e' : TypeId} {size size' n n' : Nat} {v v' : Value} {xs xs' : List Value} (h : w.ownsRow b e size v n xs) (h' : w.ownsRow b' e' size' v' n' xs') (hne : e ≠ e') : v.ownBlock = none ∨ v.ownBlock ≠ v'.ownBlock := by
  cases hv : v.ownBlock with
  | none => exact .inl rfl
  | some g =>
    refine .inr fun e9 => hne ?_
    obtain ⟨c, fz, h1⟩ := Lib.ownsRow_kind h g hv
    obtain ⟨c', fz', h2⟩ := Lib.ownsRow_kind h' g e9.symm
    rw [h1] at h2
    simp at h2
    exact h2.2.1
theorem WkI.appF {C : Cx} (hC : CxOk C) {k : Wk} {Af Ao : Option Addr} {cf co : Nat} {W w' : World} (h : WkI C k Af cf Ao co W) {A' : Option Addr} {c' : Nat} (f : Fl) (hown : w'.ownsRow C.w0.heap.size 165 5 (.slice A' (k.fl.length + 1) c') (k.fl.length + 1) (flsCells k.fl ++ flCells f)) (hg : W.grownBy w' (Value.slice Af k.fl.length cf).ownBlock) :
    WkI C { k with fl := k.fl ++ [f] } A' c' Ao co (w'.setCell ⟨C.bw, 11, none⟩ (.slice A' (k.fl.length + 1) c')) := by
  have e1 : (k.fl ++ [f]).length = k.fl.length + 1 := by simp
  have e2 : flsCells (k.fl ++ [f]) = flsCells k.fl ++ flCells f := by simp [flsCells]
  have hbw := own_far h.flo hC.bw
  have hbs := own_far h.flo hC.bs
  refine ⟨kp_set (h.kp.grown hg fun g e => .inr (h.flo.lt g e).1) _ _ (.inl rfl) _, ?_, (h.spt.grown hg hbs).far (fun e => hC.ne e.symm) _, ?_, own_low (h.opn.kept hg (own_apart h.opn h.flo (by decide))) _ _ hC.bw _, h.len, h.opl⟩
  · show Blk _ _ _ (wkCells C _ (.slice A' (k.fl ++ [f]).length c') _)
    rw [e1]
    exact (h.blk.grown hg hbw).set_ 11 _
  · show World.ownsRow _ _ _ _ (.slice A' (k.fl ++ [f]).length c') (k.fl ++ [f]).length (flsCells (k.fl ++ [f]))
    rw [e1, e2]
    exact own_low hown _ _ hC.bw _
theorem WkI.appO {C : Cx} (hC : CxOk C) {k : Wk} {Af Ao : Option Addr} {cf co : Nat} {W w' : World} (h : WkI C k Af cf Ao co W) {A' : Option Addr} {c' : Nat} (i : Nat) (hi : i < C.l.length) (hown : w'.ownsRow C.w0.heap.size 3 1 (.slice A' (k.op.length + 1) c') (k.op.length + 1) ((k.op.map fun (i : Nat) => Value.int .i64 i) ++ [.int .i64 i])) (hg : W.grownBy w' (Value.slice Ao k.op.length co).ownBlock) :
    WkI C { k with op := k.op ++ [i] } Af cf A' c' (w'.setCell ⟨C.bw, 12, none⟩ (.slice A' (k.op.length + 1) c')) := by
  have e1 : (k.op ++ [i]).length = k.op.length + 1 := by simp
  have hbw := own_far h.opn hC.bw
  have hbs := own_far h.opn hC.bs
  refine ⟨kp_set (h.kp.grown hg fun g e => .inr (h.opn.lt g e).1) _ _ (.inl rfl) _, ?_, (h.spt.grown hg hbs).far (fun e => hC.ne e.symm) _, own_low (h.flo.kept hg (own_apart h.flo h.opn (by decide))) _ _ hC.bw _, ?_, h.len, ?_⟩
  · show Blk _ _ _ (wkCells C _ _ (.slice A' (k.op ++ [i]).length c'))
    rw [e1]
    exact (h.blk.grown hg hbw).set_ 12 _
  · show World.ownsRow _ _ _ _ (.slice A' (k.op ++ [i]).length c') (k.op ++ [i]).length ((k.op ++ [i]).map _)
    rw [e1, List.map_append]
    exact own_low hown _ _ hC.bw _
  · intro j hj
    rcases List.mem_append.1 hj with hj | hj
    · exact h.opl j hj
    · rw [List.mem_singleton.1 hj]; exact hi
section
variable (l : List Nd) (A A2 : Option Addr) (c m c2 : Nat) (view : Int) (w : World)
set_option maxRecDepth 100000 in
set_option maxHeartbeats 1000000 in
theorem pup_any (i : Nat) (hi : i < l.length) (hn : l.length ≤ 4096) (hr : Reads w w.heap.size 44 A l.length (ndsCells l)) (hp : 0 ≤ l[i].parent ∧ l[i].parent < i) :
    Calls Try.prog 67 #[.agg #[.slice A l.length c, .slice A2 m c2, .int .i64 view], .int .i64 i] w fun e w' => e = .returned (.int .i64 l[i].parent) ∧ Below w.heap.size w w' := by
  obtain ⟨ad, rfl, hnd⟩ := hr.nd rfl hi
  obtain ⟨y0, -, -, -⟩ := nd_c hnd
  have hb : ad.block < w.heap.size := by have := hnd.lt; rwa [block_of_add] at this
  obtain ⟨P, hP⟩ : ∃ P, l[i].parent = P := ⟨_, rfl⟩
  rw [hP] at y0 hp ⊢
  have d1 : decide (P < 0) = false := decide_eq_false (by omega)
  have d2 : decide ((i : Int) ≤ P) = false := decide_eq_false (by omega)
  clear hnd hr hP
  go_enter Try.func67, Try.ntmps67
  go_wp2_with fail
  go_ret
  exact ⟨rfl, (Below.refl _ _).alloc (Nat.le_refl _) _⟩
set_option maxRecDepth 100000 in
set_option maxHeartbeats 1000000 in
theorem rootT_any (i : Nat) (hi : i < l.length) (hn : l.length ≤ 4096) (hr : Reads w w.heap.size 44 A l.length (ndsCells l)) (hp : 0 < i → 0 ≤ l[i].parent ∧ l[i].parent < i) (hs : ∀ x ∈ l, StyT x.s) :
    Calls Try.prog 39 #[.agg #[.slice A l.length c, .slice A2 m c2, .int .i64 view], .int .i64 i] w fun e w' => e = .returned (.bool (rootF l i)) ∧ Below w.heap.size w w' := by
  have hsi := hs _ (List.getElem_mem hi)
  have e0 : rootF l i = (decide (i = 0) || decide (l[i].s.float ≠ 0)) := by unfold rootF styF; rw [List.getElem?_eq_getElem hi]; rfl
  rw [e0]
  have hr0 := hr
  obtain ⟨ad, rfl, hnd⟩ := hr.nd rfl hi
  obtain ⟨-, y0, y1, y2⟩ := nd_c hnd
  have hb : ad.block < w.heap.size := by have := hnd.lt; rwa [block_of_add] at this
  rw [hsi.kind] at y0
  rw [hsi.flow] at y1
  have d1 : decide ((i : Int) < 0) = false := decide_eq_false (by omega)
  have d2 : decide ((l.length : Int) ≤ (i : Int)) = false := decide_eq_false (by omega)
  obtain ⟨f, hf⟩ : ∃ f, l[i].s.float = f := ⟨_, rfl⟩
  rw [hf] at y2 ⊢
  have HR := Lib.hid hr0
  have HS := Lib.hid hs
  have HP := Lib.hid hp
  clear hnd hr hr0 hs hsi hp hf e0
  by_cases h0 : i = 0
  · have d3 : ((i : Int) == 0) = true := by simp [h0]
    rw [show (decide (i = 0) || decide (f ≠ 0)) = true by simp [h0]]
    clear h0
    go_enter Try.func39, Try.ntmps39
    go_wp2_with fail
    go_ret
    exact ⟨rfl, (Below.refl _ _).alloc (Nat.le_refl _) _⟩
  · have d3 : ((i : Int) == 0) = false := by simpa using (show ¬ ((i : Int) = 0) by omega)
    have HP0 := Lib.hid (HP.out (by omega))
    by_cases hf : f = 0
    · rw [show (decide (i = 0) || decide (f ≠ 0)) = false by simp [h0, hf]]
      subst hf
      obtain ⟨P, HPP⟩ : ∃ P, Hid (l[i].parent = P) := ⟨_, Lib.hid rfl⟩
      have HP1 : Hid (0 ≤ P ∧ P < i) := Lib.hid (by rw [← HPP.out]; exact HP0.out)
      obtain ⟨p, rfl⟩ := Int.eq_ofNat_of_zero_le HP1.out.1
      have hpl : p < l.length := by have := HP1.out; omega
      obtain ⟨ad', e9, hnd'⟩ := HR.out.nd rfl hpl
      cases e9
      obtain ⟨-, x0, -, -⟩ := nd_c hnd'
      rw [(HS.out _ (List.getElem_mem hpl)).kind] at x0
      have d4 : decide ((0 : Int) ≤ (p : Int)) = true := decide_eq_true (by omega)
      have HU := Lib.hid (fun (W : World) (hb : Below w.heap.size w W) => pup_any l (some ad) A2 c m c2 view W i hi hn ((HR.out.below hb).more hb.size) HP0.out)
      rw [HPP.out] at HU
      have HX : Hid (∀ w1, Below (w.alloc (.cells #[.slice (some ad) l.length c, .slice A2 m c2, .int .i64 view] 25)).heap.size (w.alloc (.cells #[.slice (some ad) l.length c, .slice A2 m c2, .int .i64 view] 25)) w1 → w1.cell? ⟨w.heap.size, 0, none⟩ = some (.slice (some ad) l.length c) ∧ w1.cell? ⟨ad.block, (ad.add (p * 44)).off + 1, none⟩ = some (.int .u8 1) ∧ ad.block < w1.heap.size ∧ Below w.heap.size w w1) := Lib.hid (fun w1 hb1 => ⟨(hb1.cell (p := ⟨w.heap.size, 0, none⟩) (by simp)).trans (Blk.c3 (Blk.new w 25 #[.slice (some ad) l.length c, .slice A2 m c2, .int .i64 view])).1, (hb1.cell (p := ⟨ad.block, (ad.add (p * 44)).off + 1, none⟩) (by simp; omega)).trans ((World.cell?_alloc_lt w _ (⟨ad.block, (ad.add (p * 44)).off + 1, none⟩ : Addr) hb).trans x0), by have := hb1.size; simp at this; omega, ((Below.refl _ _).alloc (Nat.le_refl _) _).trans (hb1.mono (by simp))⟩)
      have HU2 := Lib.hid (HU.out (w.alloc (.cells #[.slice (some ad) l.length c, .slice A2 m c2, .int .i64 view] 25)) ((Below.refl _ _).alloc (Nat.le_refl _) _))
      clear hnd' HU HR HS HP HP0 HPP HP1
      have hpl2 : (p : Int) < (l.length : Int) := by omega
      have hpl3 : (0 : Int) ≤ (p : Int) := by omega
      go_enter Try.func39, Try.ntmps39
      go_wp2_with (go_at_call 67; refine HU2.out.mono ?_; rintro e w1 ⟨rfl, hb1⟩; obtain ⟨z0, x1, hb2, hlow⟩ := HX.out w1 hb1; have HLOW := Lib.hid hlow; clear hlow)
      go_ret
      exact ⟨rfl, HLOW.out⟩
    · rw [show (decide (i = 0) || decide (f ≠ 0)) = true by simp [hf]]
      have d4 : (f == 0) = false := by simpa using hf
      have d5 : (f != 0) = true := by simpa using hf
      clear hf
      go_enter Try.func39, Try.ntmps39
      go_wp2_with fail
      go_ret
      exact ⟨rfl, (Below.refl _ _).alloc (Nat.le_refl _) _⟩
end
theorem nd_size (s : Sty) (p : Int) : (ndCells ⟨p, s⟩).toArray.size = 44 := rfl
section
variable (C : Cx) (k : Wk) (Af Ao : Option Addr) (cf co : Nat) (W : World)
/-- A node of the walk's tree, in memory. -/
theorem WkI.nd (hC : CxOk C) (h : WkI C k Af cf Ao co W) (i : Nat) (hi : i < C.l.length) : ∃ ad : Addr, C.A = some ad ∧ ad.block < W.heap.size ∧ ad.block ≠ C.bw ∧ ad.block ≠ C.bs ∧ NdAt W C.lo (ad.add (i * 44)) C.l[i] := by
  obtain ⟨ad, e, hnd⟩ := (hC.nd.below (h.bl C hC)).nd rfl hi
  have hb : ad.block < C.lo := by have := hnd.lt; rwa [block_of_add] at this
  have := h.blk.lt
  have := hC.lw
  have := hC.ls
  exact ⟨ad, e, by omega, by omega, by omega, hnd⟩
theorem WkI.tr (hC : CxOk C) (h : WkI C k Af cf Ao co W) : Reads W W.heap.size 44 C.A C.l.length (ndsCells C.l) := (hC.nd.below (h.bl C hC)).more (by have := hC.lw; have := h.blk.lt; omega)
theorem fld_w (a b c : Int) (w : World) : (Instr.field 27 (.agg #[.int .i64 a, .int .i64 b, .int .i64 c]) 0).run Try.prog w = .ok (.int .i64 a) w := by kernel_rfl
theorem fld_l (a b c : Int) (w : World) : (Instr.field 27 (.agg #[.int .i64 a, .int .i64 b, .int .i64 c]) 1).run Try.prog w = .ok (.int .i64 b) w := by kernel_rfl
attribute [local go_sem] fld_w fld_l
theorem us_bd (hC : CxOk C) (i : Nat) (hi : i < C.l.length) : (-lim ≤ (usF C.us i).w ∧ (usF C.us i).w ≤ lim) ∧ (-lim ≤ (usF C.us i).left ∧ (usF C.us i).left ≤ lim) ∧ (-lim ≤ (usF C.us i).right ∧ (usF C.us i).right ≤ lim) := by
  have hu : i < C.us.length := by rw [hC.un]; exact hi
  have e : usF C.us i = C.us[i] := by unfold usF; rw [List.getElem?_eq_getElem hu]; rfl
  have := hC.us _ (List.getElem_mem hu)
  rw [e]
  unfold inL at this
  simpa only [Bool.and_eq_true, decide_eq_true_eq] using this
set_option maxRecDepth 100000 in
set_option maxHeartbeats 1000000 in
theorem wide_any (hC : CxOk C) (h : WkI C k Af cf Ao co W) (i : Nat) (hi : i < C.l.length) :
    Calls Try.prog 81 #[.pointer (some ⟨C.bw, 0, none⟩), .int .i64 i] W fun e w' => e = .returned (.int .i64 (usF C.us i).w) ∧ Below W.heap.size W w' := by
  obtain ⟨ad, hA, hb, -, -, hnd⟩ := WkI.nd C k Af Ao cf co W hC h i hi
  have HRNG := Lib.hid (nd_range hnd)
  have HI := Lib.hid h
  have HF := Lib.hid (fun W' => frameT_any C.l[i].s W' (hC.sty _ (List.getElem_mem hi)).1)
  have HUS := Lib.hid (fun W' (hb : Below W.heap.size W W') => used_any C k Af Ao cf co W' hC (h.below hb) i hi)
  have hwk' : IntKind.i64.wrap (usF C.us i).w = (usF C.us i).w := IntWalk.i64_in _ (by have := (us_bd C hC i hi).1; unfold lim at this; omega)
  have hwk : IntKind.i64.wrap ((usF C.us i).w + 0) = (usF C.us i).w := by rw [Int.add_zero]; exact hwk'
  obtain ⟨c0, c1, c2, c3, c4, c5, c6, c7, c8, c9, c10, c11, c12⟩ := h.cs
  rw [hA] at c0
  obtain ⟨R, hR⟩ : ∃ R, R = roofF C.l[i].s + floorF C.l[i].s := ⟨_, rfl⟩
  rw [← hR] at HF
  obtain ⟨s, hs⟩ : ∃ s, s = C.l[i].s := ⟨_, rfl⟩
  rw [← hs] at HF HRNG
  obtain ⟨u, hu⟩ : ∃ u, u = usF C.us i := ⟨_, rfl⟩
  rw [← hu] at HUS hwk hwk' ⊢
  clear h hnd hR hs hu hA
  go_enter Try.func81, Try.ntmps81
  go_wp2_with (first
    | refine wpList_load_mid rfl 69 (.tmp 15) rfl ad.block ((ad.add (i * 44)).off + 1) rfl (styCells s) _ HRNG.out Try.underlying69 rfl (by kernel_rfl) ?_
    | (go_at_call 50; refine (HF.out _).mono ?_; rintro e w1 ⟨rfl, hw1⟩; have HB1 : Hid (Below W.heap.size W w1) := Lib.hid (hw1 ▸ (Below.refl _ _).alloc (Nat.le_refl _) _); clear hw1)
    | (go_at_call 69; refine (HUS.out _ HB1.out).mono ?_; rintro e w2 ⟨rfl, hb2⟩))
  go_ret
  exact ⟨rfl, HB1.out.trans (hb2.mono HB1.out.size)⟩
set_option maxRecDepth 100000 in
set_option maxHeartbeats 1000000 in
theorem margins_any (hC : CxOk C) (h : WkI C k Af cf Ao co W) (i : Nat) (hi : i < C.l.length) (h0 : 0 < i) :
    Calls Try.prog 105 #[.pointer (some ⟨C.bw, 0, none⟩), .int .i64 i] W fun e w' => e = .returned (.tuple #[.int .i64 (mgF C.l[i].s.m0), .int .i64 (mgF C.l[i].s.m2)]) ∧ Below W.heap.size W w' := by
  obtain ⟨ad, hA, hb, -, -, hnd⟩ := WkI.nd C k Af Ao cf co W hC h i hi
  have HPA : Hid (∃ p : Nat, C.l[i].parent = p ∧ p < C.l.length) := Lib.hid (by
    obtain ⟨h1, h2⟩ := hC.par i hi h0
    obtain ⟨p, hp⟩ := Int.eq_ofNat_of_zero_le h1
    exact ⟨p, hp, by omega⟩)
  obtain ⟨p, hp, hpl⟩ := HPA.out
  have HUS := Lib.hid (fun W' (hb : Below W.heap.size W W') => used_any C k Af Ao cf co W' hC (h.below hb) p hpl)
  have HST := Lib.hid (hC.sty _ (List.getElem_mem hi)).1
  obtain ⟨_, _, _, huv⟩ := hC.uv _ (List.getElem_mem hi)
  have HO := Lib.hid (Nd.one ⟨p, C.l[i].s⟩ huv)
  obtain ⟨s, hs⟩ : ∃ s, s = C.l[i].s := ⟨_, rfl⟩
  obtain ⟨u, hu⟩ : ∃ u, u = usF C.us p := ⟨_, rfl⟩
  rw [← hu] at HUS
  have HRNG : Hid (∀ j v, (ndCells ⟨p, s⟩)[j]? = some v → W.cell? ((ad.add (i * 44)).add j) = some v) := Lib.hid (by
    intro j v hv
    rcases j with _ | j
    · have := hnd.par
      rw [hp] at this
      simp [ndCells] at hv
      rw [← hv]; exact this
    · have := nd_range hnd j v (by rw [← hs]; simpa [ndCells] using hv)
      rw [show (ad.add (i * 44)).add (j + 1) = ⟨ad.block, (ad.add (i * 44)).off + 1 + j, none⟩ by rw [show ∀ q : Addr, q.add (j + 1) = ⟨q.block, q.off + (j + 1), none⟩ from fun q => by unfold Addr.add; rw [if_neg (by omega)], block_of_add]; congr 1; omega]
      exact this)
  rw [← hs] at HST HO ⊢
  clear huv
  have HR0 := Lib.hid (fun c W' => resT_any s.m0.k s.m0.n c W' HST.out.m0.1)
  have HR2 := Lib.hid (fun c W' => resT_any s.m2.k s.m2.n c W' HST.out.m2.1)
  obtain ⟨M0, hM0⟩ : ∃ M0, M0 = mgF s.m0 := ⟨_, rfl⟩
  obtain ⟨M2, hM2⟩ : ∃ M2, M2 = mgF s.m2 := ⟨_, rfl⟩
  rw [show mgF ⟨s.m0.k, s.m0.n⟩ = M0 from hM0.symm] at HR0
  rw [show mgF ⟨s.m2.k, s.m2.n⟩ = M2 from hM2.symm] at HR2
  rw [← hM0, ← hM2]
  obtain ⟨c0, c1, c2, c3, c4, c5, c6, c7, c8, c9, c10, c11, c12⟩ := h.cs
  rw [hA] at c0
  clear hnd hs hu hA hM0 hM2 hp c1 c2 c3 c4 c5 c6 c7 c8 c9 c10 c11 c12 h
  have z := nd_size s p
  go_enter Try.func105, Try.ntmps105
  go_upto_region 2 with (first | refine wpList_load_at rfl 71 (.tmp 14) rfl (ad.add (i * 44)) rfl (ndCells ⟨p, s⟩) _ HRNG.out Try.underlying71 rfl (by kernel_rfl) ?_ | refine wpList_store_new rfl 71 _ _ rfl _ rfl (ndCells ⟨p, s⟩).toArray rfl rfl 71 _ (by kernel_rfl) rfl HO.out ?_)
  obtain ⟨w1, hw1⟩ : ∃ w1, w1 = W.alloc (.cells (ndCells ⟨p, s⟩).toArray 71) := ⟨_, rfl⟩
  have HB : Hid (Blk w1 W.heap.size 71 (ndCells ⟨p, s⟩).toArray ∧ Below W.heap.size W w1) := Lib.hid (by rw [hw1]; exact ⟨Blk.new _ _ _, (Below.refl _ _).alloc (Nat.le_refl _) _⟩)
  rw [← hw1]
  clear hw1
  have y0 := HB.out.1.get 0 (v := .int .i64 p) rfl
  go_upto_region 3 with (go_at_call 69; refine (HUS.out _ HB.out.2).mono ?_; rintro e w2 ⟨rfl, hb2⟩; have HB2 : Hid (Blk w2 W.heap.size 71 (ndCells ⟨p, s⟩).toArray ∧ Below W.heap.size W w2) := Lib.hid ⟨HB.out.1.below hb2 HB.out.1.lt, HB.out.2.trans (hb2.mono HB.out.2.size)⟩; clear hb2)
  clear y0
  have y1 := HB2.out.1.get 17 (v := .int .u8 s.m0.k) rfl
  have y2 := HB2.out.1.get 18 (v := .int .i64 s.m0.n) rfl
  go_upto_region 4 with (go_at_call 49; refine (HR0.out _ _).mono ?_; rintro e w3 ⟨⟨_, rfl⟩, hb3⟩; have HB3 : Hid (Blk w3 W.heap.size 71 (ndCells ⟨p, s⟩).toArray ∧ Below W.heap.size W w3) := Lib.hid (hb3 ▸ ⟨HB2.out.1.alloc _, HB2.out.2.alloc HB2.out.2.size _⟩); clear hb3)
  clear y1 y2
  have y1 := HB3.out.1.get 21 (v := .int .u8 s.m2.k) rfl
  have y2 := HB3.out.1.get 22 (v := .int .i64 s.m2.n) rfl
  go_wp2_with (go_at_call 49; refine (HR2.out _ _).mono ?_; rintro e w4 ⟨⟨_, rfl⟩, hb4⟩; have HB4 : Hid (Below W.heap.size W w4) := Lib.hid (hb4 ▸ HB3.out.2.alloc HB3.out.2.size _); clear hb4)
  go_ret2
  exact ⟨rfl, HB4.out⟩
end
end Go.Proofs.Ytlebbkhhhmempaa
