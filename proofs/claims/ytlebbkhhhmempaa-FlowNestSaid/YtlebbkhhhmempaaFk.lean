/- Contracts: leave of flow's walk. -/
import Derived.Test.YtlebbkhhhmempaaFj
import Derived.WalkSmall
import Derived.StillTailTactics
set_option linter.unusedSimpArgs false
set_option linter.unusedVariables false
namespace Go.Proofs.Ytlebbkhhhmempaa
open Go.RowKit
attribute [local go_sem] block_of_add
theorem sty_rngF {w : World} {g : Nat} {t : TypeId} {s : Sty} (h : Blk w g t (styCells s).toArray) : w.rangeAt g 0 (styCells s) := fun j v hv => by
  rw [Nat.zero_add]; exact h.get j (by rw [List.getElem?_toArray]; exact hv)
theorem wpList_load_midG {P : Program} {ops : Array Oper} {rest : List Oper} {op : Oper} {a : Act} {w : World} {Q : Exit → Act → World → Prop} (hw : Region.wanted op (yielded ops a.tmps) = true) (ty : TypeId) (x : Operand) (ho : op.op = .load ty x)
    (b o : Nat) (hx : a.eval x = .pointer (some ⟨b, o, none⟩)) (cs : List Value) (d : TypeDesc) (hc : w.rangeAt b o cs)
    (hu : P.underlying ty = some d) (hd : d.isRow = true) (hi : (P.info? ty).map (·.size) = some cs.length)
    (h : wpList P ops Q rest (a.put op.dst (.agg cs.toArray)) w) : wpList P ops Q (op :: rest) a w := by
  unfold wpList
  rw [if_pos hw]
  exact .inl (wp_load_mid ty x ho b o hx cs d hc hu hd hi h)
theorem high_nn (s : Sty) (a : Int) : 0 ≤ highF s a := by unfold highF; omega
theorem WkI.popO {C : Cx} (hC : CxOk C) {k : Wk} {Af Ao : Option Addr} {cf co : Nat} {W : World} (h : WkI C k Af cf Ao co W) (hne : k.op ≠ []) : WkI C { k with op := k.op.dropLast } Af cf Ao co (W.setCell ⟨C.bw, 12, none⟩ (.slice Ao k.op.dropLast.length co)) := by
  refine h.setOp hC ?_ (fun i hi => h.opl i (List.dropLast_subset _ hi))
  have ho := h.opn
  have hp : 0 < k.op.length := by cases hk : k.op with | nil => exact absurd hk hne | cons a t => simp
  obtain ⟨g, cap, e⟩ : ∃ g cap, (Value.slice Ao k.op.length co) = .slice (some ⟨g, 0, none⟩) k.op.length cap := by
    rcases ho.2 with ⟨h1, h2⟩ | ⟨g, cap, cur, h1, _⟩
    · simp at h1; omega
    · exact ⟨g, cap, h1⟩
  have hl : k.op.length = k.op.dropLast.length + 1 := by cases hk : k.op with | nil => exact absurd hk hne | cons a t => simp
  have hx : (k.op.map fun (i : Nat) => Value.int .i64 i) = (k.op.dropLast.map fun (i : Nat) => Value.int .i64 i) ++ [Value.int .i64 (k.op.getLast hne : Nat)] := by
    conv => lhs; rw [← List.dropLast_concat_getLast hne]
    rw [List.map_append]; rfl
  have e1 : Ao = some ⟨g, 0, none⟩ := by injection e
  have e2 : co = cap := by injection e
  rw [e1, hx, hl] at ho
  rw [e1]
  exact ownsRow_pop (by simp) ho
section
variable (C : Cx) (k : Wk) (Af Ao : Option Addr) (cf co : Nat) (W : World)
attribute [local go_sem] fld_w fld_l
set_option maxRecDepth 100000 in
set_option maxHeartbeats 2000000 in
theorem leave_d (hC : CxOk C) (h : WkI C k Af cf Ao co W) (i : Nat) (hi : i < C.l.length) (below : Int) (hwb : wkB k = true) (k' : Wk) (hk' : leaveF C.l[i].s k i below = some k') (ho : ∀ own, k.sp[i]? = some own → own.op = true) (hf : floorF C.l[i].s = 0) (hh : highF C.l[i].s 0 = 0) :
    Calls Try.prog 111 #[.pointer (some ⟨C.bw, 0, none⟩), .int .i64 i, .int .i64 below] W fun e w' => (∃ v, e = .returned v) ∧ ∃ Af' cf' Ao' co', WkI C k' Af' cf' Ao' co' w' := by
  obtain ⟨ad, hA, hb, hadw, hads, hnd⟩ := WkI.nd C k Af Ao cf co W hC h i hi
  have HST := Lib.hid (hC.sty _ (List.getElem_mem hi))
  obtain ⟨_, _, _, huv⟩ := hC.uv _ (List.getElem_mem hi)
  have HO := Lib.hid (Sty.one C.l[i].s huv)
  have HSF : Hid (styF C.l i = some C.l[i].s) := Lib.hid (by unfold styF; rw [List.getElem?_eq_getElem hi]; rfl)
  have HRNG := Lib.hid (nd_range hnd)
  have HMG := Lib.hid (fun k' Af' cf' Ao' co' W' (h : WkI C k' Af' cf' Ao' co' W') (h0 : 0 < i) => margins_any C k' Af' Ao' cf' co' W' hC h i hi h0)
  obtain ⟨s, hs⟩ : ∃ s, s = C.l[i].s := ⟨_, rfl⟩
  rw [← hs] at HST HO HSF HRNG HMG
  have HI := Lib.hid h
  have HC := Lib.hid hC
  obtain ⟨c0, c1, c2, c3, c4, c5, c6, c7, c8, c9, c10, c11, c12⟩ := h.cs
  rw [hA] at c0
  clear huv hnd hC h hadw hads
  rw [← hs] at hf hh
  rw [← hs] at hk'
  clear hs
  have HWB := Lib.hid hwb
  have HK := Lib.hid hk'
  have HSP := Lib.hid (fun k' Af' cf' Ao' co' W' (h : WkI C k' Af' cf' Ao' co' W') => spot_any C k' Af' Ao' cf' co' W' HC.out h i hi)
  have HMK := Lib.hid (fun k' Af' cf' Ao' co' W' (h : WkI C k' Af' cf' Ao' co' W') (hb : wkB k' = true) => mark_any C k' Af' Ao' cf' co' W' HC.out h hb)
  have HSE := Lib.hid (fun k' Af' cf' Ao' co' W' (h : WkI C k' Af' cf' Ao' co' W') (hb : wkB k' = true) => settle_any C k' Af' Ao' cf' co' W' HC.out h hb)
  have HBE := Lib.hid (fun k' Af' cf' Ao' co' W' (h : WkI C k' Af' cf' Ao' co' W') y below => behind_any C k' Af' Ao' cf' co' W' HC.out h y below)
  have HJO := Lib.hid (fun (st : Stt) (m : Int) W' => join_any st m W')
  have HRO := Lib.hid (fun W' => roof_any s W' HST.out.1)
  have HFL := Lib.hid (fun W' => floor_any s W' HST.out.1)
  have HHG := Lib.hid (fun a W' => high_any s a W' HST.out.1)
  have HIL : Hid (i < k.sp.length) := Lib.hid (by rw [HI.out.len]; exact hi)
  obtain ⟨own, hown⟩ : ∃ own, own = k.sp[i]'HIL.out := ⟨_, rfl⟩
  have HSO : Hid (k.sp[i]? = some own) := Lib.hid (by rw [hown, List.getElem?_eq_getElem])
  have HOW := Lib.hid hown
  obtain ⟨fl, hfl⟩ : ∃ fl, fl = floorF s := ⟨_, rfl⟩
  obtain ⟨ro, hro⟩ : ∃ ro, ro = roofF s := ⟨_, rfl⟩
  obtain ⟨h0, hh0⟩ : ∃ h0, h0 = highF s 0 := ⟨_, rfl⟩
  rw [← hfl] at HFL
  rw [← hro] at HRO
  have HFF : Hid (0 ≤ fl ∧ fl ≤ 2097152 ∧ 0 ≤ ro ∧ ro ≤ 2097152 ∧ 0 ≤ h0) := Lib.hid (by rw [hfl, hro, hh0]; exact ⟨(floor_bd HST.out.1).1, (floor_bd HST.out.1).2, (roof_bd HST.out.1).1, (roof_bd HST.out.1).2, high_nn _ _⟩)
  have HEQ : Hid (fl = floorF s ∧ ro = roofF s ∧ h0 = highF s 0) := Lib.hid ⟨hfl, hro, hh0⟩
  have HH0 := Lib.hid (HHG.out 0)
  rw [← hh0] at HH0
  clear hk' hwb hown hfl hro hh0
  have f0 : fl = 0 := HEQ.out.1.trans hf
  have f1 : h0 = 0 := HEQ.out.2.2.trans hh
  subst f0
  subst f1
  have o1 : own.op = true := ho own HSO.out
  have HKK : Hid (k.op ≠ [] ∧ wkB (joinS { setSp k i (fun p => { p with top := markF k, high := 0, op := false }) with op := k.op.dropLast } below) = true ∧ k' = joinS { setSp k i (fun p => { p with top := markF k, high := 0, op := false }) with op := k.op.dropLast } below) := Lib.hid (by
    have h := HK.out
    unfold leaveF at h
    rw [HSO.out] at h
    simp only at h
    rw [if_pos ⟨o1, hf, hh⟩] at h
    split at h
    · simp at h
    · exact ⟨by assumption, chk_p h⟩)
  clear ho hf hh HK
  go_enter Try.func111, Try.ntmps111
  go_upto_region 1 with (first | refine wpList_load_mid rfl 69 (.tmp 17) rfl ad.block ((ad.add (i * 44)).off + 1) rfl (styCells s) _ HRNG.out Try.underlying69 rfl (by kernel_rfl) ?_ | refine wpList_store_new rfl 69 _ _ rfl _ rfl (styCells s).toArray rfl rfl 69 _ (by kernel_rfl) rfl HO.out ?_)
  obtain ⟨w1, hw1⟩ : ∃ w1, w1 = W.alloc (.cells (styCells s).toArray 69) := ⟨_, rfl⟩
  have HB1 : Hid (Blk w1 W.heap.size 69 (styCells s).toArray) := Lib.hid (by rw [hw1]; exact Blk.new _ _ _)
  have HI1 : Hid (WkI C k Af cf Ao co w1) := Lib.hid (by rw [hw1]; exact HI.out.below ((Below.refl _ _).alloc (Nat.le_refl _) _))
  have HL1 : Hid (Below W.heap.size W w1) := Lib.hid (by rw [hw1]; exact (Below.refl _ _).alloc (Nat.le_refl _) _)
  rw [← hw1]
  obtain ⟨g, hg⟩ : ∃ g, g = W.heap.size := ⟨_, rfl⟩
  rw [← hg] at HB1 ⊢
  have HG := Lib.hid hg
  clear hw1 hg c0 c1 c2 c3 c4 c5 c6 c7 c8 c9 c10 c11 c12 HRNG hb HI
  have HI1s := Lib.hid (HSP.out _ _ _ _ _ _ HI1.out)
  go_upto_region 2 with (go_at_call 42; refine HI1s.out.mono ?_; rintro e w2 ⟨rfl, hb2⟩; have HI2 := Lib.hid (HI1.out.below hb2); have HB2 := Lib.hid (HB1.out.below hb2 HB1.out.lt); clear hb2)
  obtain ⟨s0, s1, s2, s3, s4⟩ := HI2.out.sc HIL.out
  rw [← HOW.out] at s0 s1 s2 s3
  clear HI1s HI1 HB1 HL1 HG
  rw [o1] at s3
  go_upto_region 3 with (first
    | (refine wpList_load_midG (by rfl) 69 (.tmp 6) rfl g 0 rfl (styCells s) _ (sty_rngF HB2.out) Try.underlying69 rfl (by kernel_rfl) ?_)
    | (refine wpList_load_midG (by rfl) 69 (.tmp 6) rfl g 0 rfl (styCells s) _ (sty_rngF (HB2.out.alloc _)) Try.underlying69 rfl (by kernel_rfl) ?_)
    | (go_at_call 145; refine (HFL.out _).mono ?_; rintro e w3 ⟨rfl, hw3⟩; subst hw3)
    | (go_at_call 78; refine (HH0.out _).mono ?_; rintro e w3 ⟨rfl, hw3⟩; subst hw3))
  obtain ⟨w3, hww3⟩ : ∃ w3, w3 = (w2.alloc (.cells (styCells s).toArray 69)).alloc (.cells (styCells s).toArray 69) := ⟨_, rfl⟩
  have HI3 : Hid (WkI C k Af cf Ao co w3) := Lib.hid (by rw [hww3]; exact HI2.out.below (((Below.refl _ _).alloc (Nat.le_refl _) _).alloc (by simp) _))
  rw [← hww3]
  clear hww3
  have HM3 := Lib.hid (HMK.out _ _ _ _ _ _ HI3.out HWB.out)
  obtain ⟨mk, hmk⟩ : ∃ mk, mk = markF k := ⟨_, rfl⟩
  rw [← hmk] at HM3 HKK
  clear hmk
  clear s0 s1 s2 s3 s4
  go_upto_region 6 with (go_at_call 77; refine HM3.out.mono ?_; rintro e w4 ⟨rfl, hb4⟩; have HI4 := Lib.hid (HI3.out.below hb4); clear hb4; obtain ⟨s0, s1, s2, s3, s4⟩ := HI4.out.sc HIL.out; have fs := (wk_fr HI4.out).2)
  have HIL2 : Hid (∀ f, i < (setSp k i f).sp.length) := Lib.hid (fun f => by show i < (List.modify _ _ _).length; rw [List.length_modify]; exact HIL.out)
  have HIL3 : Hid (∀ f g, i < (setSp (setSp k i f) i g).sp.length) := Lib.hid (fun f g => by show i < (List.modify _ _ _).length; rw [List.length_modify]; exact HIL2.out f)
  have HI5' := Lib.hid (((HI4.out.setS HC.out HIL.out 1 (by omega) (.int .i64 mk) (fun p => { p with top := mk }) (fun _ => rfl)).setS HC.out (HIL2.out _) 2 (by omega) (.int .i64 0) (fun p => { p with high := 0 }) (fun _ => rfl)).setS HC.out (HIL3.out _ _) 3 (by omega) (.bool false) (fun p => { p with op := false }) (fun _ => rfl))
  obtain ⟨k5, hk5⟩ : ∃ k5, k5 = setSp k i (fun p => { p with top := mk, high := 0, op := false }) := ⟨_, rfl⟩
  have e5 : setSp (setSp (setSp k i fun p => { p with top := mk }) i fun p => { p with high := 0 }) i (fun p => { p with op := false }) = k5 := by
    rw [hk5]; unfold setSp; simp only [List.modify_modify_eq]; rfl
  rw [e5] at HI5'
  have HK5 : Hid (k5.op = k.op ∧ k5.st = k.st ∧ k' = joinS { k5 with op := k5.op.dropLast } below) := Lib.hid (by rw [hk5]; exact ⟨rfl, rfl, HKK.out.2.2⟩)
  clear s0 s1 s2 s3 s4 fs e5 hk5
  generalize World.setCell (World.setCell (World.setCell w4 _ _) _ _) _ _ = w5 at HI5' ⊢
  obtain ⟨m, hm⟩ : ∃ m, k.op.length = m + 1 := by
    cases h : k.op with
    | nil => exact absurd h HKK.out.1
    | cons a t => exact ⟨t.length, by simp⟩
  have HM := Lib.hid hm
  have HML : Hid (k5.op.length = m + 1) := Lib.hid (by rw [HK5.out.1]; exact hm)
  have HMD : Hid (k5.op.dropLast.length = m) := Lib.hid (by rw [List.length_dropLast, HML.out]; rfl)
  have hco := own_cap HI5'.out.opn
  rw [HML.out] at hco
  have hm60 := (wkB_p HWB.out).2.2.2.2.2.1
  rw [hm] at hm60
  have HNE : Hid (k5.op ≠ []) := Lib.hid (by rw [HK5.out.1]; exact HKK.out.1)
  have v1 : IntKind.i64.wrap (((m + 1 : Nat) : Int) - 1) = (m : Int) := by rw [show ((m + 1 : Nat) : Int) - 1 = m by omega]; exact IntWalk.i64_in _ ⟨by omega, by omega⟩
  have v2 : IntKind.i64.wrap ((m : Int) + 1 - 1) = (m : Int) := by rw [show (m : Int) + 1 - 1 = m by omega]; exact IntWalk.i64_in _ ⟨by omega, by omega⟩
  have v3 : IntKind.i64.wrap (m : Int) = (m : Int) := IntWalk.i64_in _ ⟨by omega, by omega⟩
  have v4 : m ≤ co := by omega
  have v5 : (m : Int) ≤ (co : Int) := by omega
  have v6 : ¬ co = 0 := by omega
  clear hm
  have E0 : WkI C k5 Af cf Ao co w5.drew := HI5'.out.below (Below.refl _ _).drew
  refine wp_region_S (fun b _ _ W' => if b then WkI C { k5 with op := k5.op.dropLast } Af cf Ao co W' else WkI C k5 Af cf Ao co W') 14 1000 100000 false true (by kernel_rfl) (by kernel_rfl) (by kernel_rfl) (E0) ?_
  refine wpAnyS_take (i := 0) (v := ?_) rfl (by kernel_rfl) (by kernel_rfl) (by kernel_rfl) (fun _ _ _ h => h) (by rfl) (gives_pureF (by rfl) (by kernel_rfl) ?_) ?_
  rotate_left
  · intro d' u' W' hS'
    have hh : WkI C k5 Af cf Ao co W' := hS'
    have c12 : W'.cell? ⟨C.bw, 12, none⟩ = some (.slice Ao (m + 1) co) := by rw [← HML.out]; exact hh.c 12 rfl
    clear hh
    go_simp
    rfl
  try simp only [Act.put, List.setIfInBounds_toArray, List.set_cons_zero, List.set_cons_succ, List.getElem_toArray, List.getElem_cons_zero, List.getElem_cons_succ]
  refine wpAnyS_take (i := 1) (v := ?_) rfl (by kernel_rfl) (by kernel_rfl) (by kernel_rfl) (fun _ _ _ h => h) (by rfl) (gives_pureF (by rfl) (by kernel_rfl) ?_) ?_
  rotate_left
  · intro d' u' W' hS'
    have hh : WkI C k5 Af cf Ao co W' := hS'
    have c12 : W'.cell? ⟨C.bw, 12, none⟩ = some (.slice Ao (m + 1) co) := by rw [← HML.out]; exact hh.c 12 rfl
    clear hh
    go_simp
    rfl
  try simp only [Act.put, List.setIfInBounds_toArray, List.set_cons_zero, List.set_cons_succ, List.getElem_toArray, List.getElem_cons_zero, List.getElem_cons_succ]
  refine wpAnyS_take (i := 2) (v := ?_) rfl (by kernel_rfl) (by kernel_rfl) (by kernel_rfl) (fun _ _ _ h => h) (by rfl) (gives_pureF (by rfl) (by kernel_rfl) ?_) ?_
  rotate_left
  · intro d' u' W' hS'
    have hh : WkI C k5 Af cf Ao co W' := hS'
    have c12 : W'.cell? ⟨C.bw, 12, none⟩ = some (.slice Ao (m + 1) co) := by rw [← HML.out]; exact hh.c 12 rfl
    clear hh
    go_simp
    rfl
  try simp only [Act.put, List.setIfInBounds_toArray, List.set_cons_zero, List.set_cons_succ, List.getElem_toArray, List.getElem_cons_zero, List.getElem_cons_succ]
  refine wpAnyS_take (i := 3) (v := ?_) rfl (by kernel_rfl) (by kernel_rfl) (by kernel_rfl) (fun _ _ _ h => h) (by rfl) (gives_pureF (by rfl) (by kernel_rfl) ?_) ?_
  rotate_left
  · intro d' u' W' hS'
    have hh : WkI C k5 Af cf Ao co W' := hS'
    have c12 : W'.cell? ⟨C.bw, 12, none⟩ = some (.slice Ao (m + 1) co) := by rw [← HML.out]; exact hh.c 12 rfl
    clear hh
    go_simp
    rfl
  try simp only [Act.put, List.setIfInBounds_toArray, List.set_cons_zero, List.set_cons_succ, List.getElem_toArray, List.getElem_cons_zero, List.getElem_cons_succ]
  refine wpAnyS_take (i := 4) (v := ?_) rfl (by kernel_rfl) (by kernel_rfl) (by kernel_rfl) (fun _ _ _ h => h) (by rfl) (gives_pureF (by rfl) (by kernel_rfl) ?_) ?_
  rotate_left
  · intro d' u' W' hS'
    have hh : WkI C k5 Af cf Ao co W' := hS'
    have c12 : W'.cell? ⟨C.bw, 12, none⟩ = some (.slice Ao (m + 1) co) := by rw [← HML.out]; exact hh.c 12 rfl
    clear hh
    go_simp
    rfl
  try simp only [Act.put, List.setIfInBounds_toArray, List.set_cons_zero, List.set_cons_succ, List.getElem_toArray, List.getElem_cons_zero, List.getElem_cons_succ]
  refine wpAnyS_take (i := 5) (v := ?_) rfl (by kernel_rfl) (by kernel_rfl) (by kernel_rfl) (fun _ _ _ h => h) (by rfl) (gives_pureF (by rfl) (by kernel_rfl) ?_) ?_
  rotate_left
  · intro d' u' W' hS'
    have hh : WkI C k5 Af cf Ao co W' := hS'
    have c12 : W'.cell? ⟨C.bw, 12, none⟩ = some (.slice Ao (m + 1) co) := by rw [← HML.out]; exact hh.c 12 rfl
    clear hh
    go_simp
    rfl
  try simp only [Act.put, List.setIfInBounds_toArray, List.set_cons_zero, List.set_cons_succ, List.getElem_toArray, List.getElem_cons_zero, List.getElem_cons_succ]
  refine wpAnyS_take (i := 6) (v := ?_) rfl (by kernel_rfl) (by kernel_rfl) (by kernel_rfl) (fun _ _ _ h => h) (by rfl) (gives_pureF (by rfl) (by kernel_rfl) ?_) ?_
  rotate_left
  · intro d' u' W' hS'
    have hh : WkI C k5 Af cf Ao co W' := hS'
    have c12 : W'.cell? ⟨C.bw, 12, none⟩ = some (.slice Ao (m + 1) co) := by rw [← HML.out]; exact hh.c 12 rfl
    clear hh
    go_simp
    rfl
  try simp only [Act.put, List.setIfInBounds_toArray, List.set_cons_zero, List.set_cons_succ, List.getElem_toArray, List.getElem_cons_zero, List.getElem_cons_succ]
  refine wpAnyS_take (i := 7) (v := ?_) rfl (by kernel_rfl) (by kernel_rfl) (by kernel_rfl) (fun _ _ _ h => h) (by rfl) (gives_pureF (by rfl) (by kernel_rfl) ?_) ?_
  rotate_left
  · intro d' u' W' hS'
    have hh : WkI C k5 Af cf Ao co W' := hS'
    have c12 : W'.cell? ⟨C.bw, 12, none⟩ = some (.slice Ao (m + 1) co) := by rw [← HML.out]; exact hh.c 12 rfl
    clear hh
    go_simp
    rfl
  try simp only [Act.put, List.setIfInBounds_toArray, List.set_cons_zero, List.set_cons_succ, List.getElem_toArray, List.getElem_cons_zero, List.getElem_cons_succ]
  refine wpAnyS_take (i := 8) (v := ?_) rfl (by kernel_rfl) (by kernel_rfl) (by kernel_rfl) (fun _ _ _ h => h) (by rfl) (gives_pureF (by rfl) (by kernel_rfl) ?_) ?_
  rotate_left
  · intro d' u' W' hS'
    have hh : WkI C k5 Af cf Ao co W' := hS'
    have c12 : W'.cell? ⟨C.bw, 12, none⟩ = some (.slice Ao (m + 1) co) := by rw [← HML.out]; exact hh.c 12 rfl
    clear hh
    go_simp
    rfl
  try simp only [Act.put, List.setIfInBounds_toArray, List.set_cons_zero, List.set_cons_succ, List.getElem_toArray, List.getElem_cons_zero, List.getElem_cons_succ]
  refine wpAnyS_take (i := 9) (v := ?_) rfl (by kernel_rfl) (by kernel_rfl) (by kernel_rfl) (fun _ _ _ h => h) (by rfl) (gives_pureF (by rfl) (by kernel_rfl) ?_) ?_
  rotate_left
  · intro d' u' W' hS'
    have hh : WkI C k5 Af cf Ao co W' := hS'
    have c12 : W'.cell? ⟨C.bw, 12, none⟩ = some (.slice Ao (m + 1) co) := by rw [← HML.out]; exact hh.c 12 rfl
    clear hh
    go_simp
    rfl
  try simp only [Act.put, List.setIfInBounds_toArray, List.set_cons_zero, List.set_cons_succ, List.getElem_toArray, List.getElem_cons_zero, List.getElem_cons_succ]
  refine wpAnyS_take (i := 10) (v := ?_) rfl (by kernel_rfl) (by kernel_rfl) (by kernel_rfl) (fun _ _ _ h => h) (by rfl) (gives_pureF (by rfl) (by kernel_rfl) ?_) ?_
  rotate_left
  · intro d' u' W' hS'
    have hh : WkI C k5 Af cf Ao co W' := hS'
    have c12 : W'.cell? ⟨C.bw, 12, none⟩ = some (.slice Ao (m + 1) co) := by rw [← HML.out]; exact hh.c 12 rfl
    clear hh
    go_simp
    rfl
  try simp only [Act.put, List.setIfInBounds_toArray, List.set_cons_zero, List.set_cons_succ, List.getElem_toArray, List.getElem_cons_zero, List.getElem_cons_succ]
  refine wpAnyS_take (i := 11) (v := ?_) rfl (by kernel_rfl) (by kernel_rfl) (by kernel_rfl) (fun _ _ _ h => h) (by rfl) (gives_pureF (by rfl) (by kernel_rfl) ?_) ?_
  rotate_left
  · intro d' u' W' hS'
    have hh : WkI C k5 Af cf Ao co W' := hS'
    have c12 : W'.cell? ⟨C.bw, 12, none⟩ = some (.slice Ao (m + 1) co) := by rw [← HML.out]; exact hh.c 12 rfl
    clear hh
    go_simp
    rfl
  try simp only [Act.put, List.setIfInBounds_toArray, List.set_cons_zero, List.set_cons_succ, List.getElem_toArray, List.getElem_cons_zero, List.getElem_cons_succ]
  refine wpAnyS_take (i := 12) (v := ?_) rfl (by kernel_rfl) (by kernel_rfl) (by kernel_rfl) (fun _ _ _ h => h) (by rfl) (gives_pureF (by rfl) (by kernel_rfl) ?_) ?_
  rotate_left
  · intro d' u' W' hS'
    have hh : WkI C k5 Af cf Ao co W' := hS'
    have c12 : W'.cell? ⟨C.bw, 12, none⟩ = some (.slice Ao (m + 1) co) := by rw [← HML.out]; exact hh.c 12 rfl
    clear hh
    go_simp
    rfl
  try simp only [Act.put, List.setIfInBounds_toArray, List.set_cons_zero, List.set_cons_succ, List.getElem_toArray, List.getElem_cons_zero, List.getElem_cons_succ]
  refine wpAnyS_take (i := 13) (v := ?_) rfl (by kernel_rfl) (by kernel_rfl) (by kernel_rfl) (fun _ _ _ h => h) (by rfl) (gives_pureF (by rfl) (by kernel_rfl) ?_) ?_
  rotate_left
  · intro d' u' W' hS'
    have hh : WkI C k5 Af cf Ao co W' := hS'
    have c12 : W'.cell? ⟨C.bw, 12, none⟩ = some (.slice Ao (m + 1) co) := by rw [← HML.out]; exact hh.c 12 rfl
    clear hh
    go_simp
    rfl
  try simp only [Act.put, List.setIfInBounds_toArray, List.set_cons_zero, List.set_cons_succ, List.getElem_toArray, List.getElem_cons_zero, List.getElem_cons_succ]
  refine wpAnyS_store (i := 14) (d := true) (fun W' => W'.setCell ⟨C.bw, 12, none⟩ (.slice Ao m co)) rfl (by kernel_rfl) (by rfl) (by rfl) (by kernel_rfl) rfl ?_ (fun W' hS' => by have hh : WkI C k5 Af cf Ao co W' := hS'; have := hh.popO HC.out HNE.out; rw [HMD.out] at this; exact this) ?_
  · intro W' hS'
    have hh : WkI C k5 Af cf Ao co W' := hS'
    have c12 : W'.cell? ⟨C.bw, 12, none⟩ = some (.slice Ao (m + 1) co) := by rw [← HML.out]; exact hh.c 12 rfl
    have fw := (wk_fr hh).1
    clear hh
    go_simp
    try rfl
  try simp only [Act.put, List.setIfInBounds_toArray, List.set_cons_zero, List.set_cons_succ, List.getElem_toArray, List.getElem_cons_zero, List.getElem_cons_succ]
  refine wpAnyS_done (b := true) (d := true) (by kernel_rfl) (by kernel_rfl) (by kernel_rfl) rfl (fun w6 hS => ?_) _
  have HI6 : Hid (WkI C { k5 with op := k5.op.dropLast } Af cf Ao co w6) := Lib.hid hS
  clear hS E0
  obtain ⟨c0, c1, c2, c3, c4, c5, c6, c7, c8, c9, c10, c11, c12⟩ := HI6.out.cs
  go_wp2_with (go_at_call 109; refine (HJO.out k5.st below _).mono ?_; rintro e w7 ⟨rfl, hw7⟩; have HI7 := Lib.hid (HI6.out.below (hw7 ▸ ((Below.refl _ _).alloc (Nat.le_refl _) _).alloc (by simp) _)); clear hw7; obtain ⟨c0, c1, c2, c3, c4, c5, c6, c7, c8, c9, c10, c11, c12⟩ := HI7.out.cs; have fw := (wk_fr HI7.out).1)
  have HI8 := Lib.hid (HI7.out.setSt HC.out (joinF k5.st below))
  exact bodyPost_ret (results_none rfl _ _ _) rfl ⟨⟨_, rfl⟩, _, _, _, _, by rw [HK5.out.2.2]; exact HI8.out⟩
end
end Go.Proofs.Ytlebbkhhhmempaa
