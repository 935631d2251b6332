/- Contracts of the small methods of flow's walk. -/
import Derived.Test.YtlebbkhhhmempaaFg
import Derived.BigQuiet
import Derived.Deep.DeepCutAuto
import Derived.Deep.CutRange
import Derived.Deep.CutBlock
import Derived.Test.YtlebbkhhhmempaaRgh
set_option linter.unusedSimpArgs false
set_option linter.unusedVariables false
namespace Go.Proofs.Ytlebbkhhhmempaa
open Go.RowKit
attribute [local go_sem] block_of_add
section
variable (C : Cx) (k : Wk) (Af Ao : Option Addr) (cf co : Nat) (W : World)
theorem i64_nat (n : Nat) (h : n ≤ 1000000) : IntKind.i64.wrap (n : Int) = n := IntWalk.i64_in _ ⟨by omega, by omega⟩
set_option maxRecDepth 100000 in
theorem spot_any (hC : CxOk C) (h : WkI C k Af cf Ao co W) (i : Nat) (hi : i < C.l.length) :
    Calls Try.prog 42 #[.pointer (some ⟨C.bw, 0, none⟩), .int .i64 i] W fun e w' => e = .returned (.pointer (some ⟨C.bs, i * 7, none⟩)) ∧ Below W.heap.size W w' := by
  obtain ⟨c0, c1, c2, c3, c4, c5, c6, c7, c8, c9, c10, c11, c12⟩ := h.cs
  have hn := hC.n2
  have e0 : IntKind.i64.wrap ((i : Int) - 0) = (i : Int) := IntWalk.i64_in _ ⟨by omega, by omega⟩
  have e0' : IntKind.i64.wrap (i : Int) = (i : Int) := i64_nat i (by omega)
  clear h c0 c1 c2 c4 c5 c6 c8 c9 c10 c11 c12
  go_enter Try.func42, Try.ntmps42
  go_wp2_with fail
  go_quiet (fail)
  go_wp2_with fail
  go_ret
  exact ⟨rfl, below_dr (Below.refl _ _) _⟩
set_option maxRecDepth 100000 in
theorem used_any (hC : CxOk C) (h : WkI C k Af cf Ao co W) (i : Nat) (hi : i < C.l.length) :
    Calls Try.prog 69 #[.pointer (some ⟨C.bw, 0, none⟩), .int .i64 i] W fun e w' => e = .returned (.agg #[.int .i64 (usF C.us i).w, .int .i64 (usF C.us i).left, .int .i64 (usF C.us i).right]) ∧ Below W.heap.size W w' := by
  obtain ⟨c0, c1, c2, c3, c4, c5, c6, c7, c8, c9, c10, c11, c12⟩ := h.cs
  have hn := hC.n2
  have hu := hC.un
  have d0 : decide ((i : Int) < (C.us.length : Int)) = true := decide_eq_true (by omega)
  have d0' : decide (i < C.us.length) = true := decide_eq_true (by omega)
  have hiu : i < C.us.length := by omega
  obtain ⟨ad, e, hb, hc⟩ := (hC.ud.below (h.bl C hC)).2 (by omega)
  have g := fun j (hj : j < 3) v (hv : (udCells C.us[i])[j]? = some v) => hc (i * 3 + j) v (by rw [udsCells_at _ _ _ hiu hj]; exact hv)
  have eu : usF C.us i = C.us[i] := by unfold usF; rw [List.getElem?_eq_getElem hiu]; rfl
  rw [eu]
  have g0 : W.cell? (ad.add (i * 3)) = some (.int .i64 C.us[i].w) := g 0 (by omega) _ rfl
  have g1 : W.cell? ⟨ad.block, (ad.add (i * 3)).off + 1, none⟩ = some (.int .i64 C.us[i].left) := by
    have := g 1 (by omega) _ rfl
    rwa [← add_of_add, show ∀ p : Addr, p.add 1 = ⟨p.block, p.off + 1, none⟩ from fun p => rfl, block_of_add] at this
  have g2 : W.cell? ⟨ad.block, (ad.add (i * 3)).off + 2, none⟩ = some (.int .i64 C.us[i].right) := by
    have := g 2 (by omega) _ rfl
    rwa [← add_of_add, show ∀ p : Addr, p.add 2 = ⟨p.block, p.off + 2, none⟩ from fun p => rfl, block_of_add] at this
  have hlo : C.bw < W.heap.size := h.blk.lt
  have hb2 : ad.block < W.heap.size := by have := hC.lw; omega
  rw [e] at c4
  obtain ⟨U, hU⟩ : ∃ U, C.us[i] = U := ⟨_, rfl⟩
  rw [hU] at g0 g1 g2 ⊢
  clear hU g eu hc e h hu
  go_enter Try.func69, Try.ntmps69
  go_wp2_with fail
  refine bodyPost_ret (results_cell_row rfl _ _ W.heap.size 27 #[_, _, _] (0, 0) _ rfl (Blk.at_ _ _ _ (by simp)) Try.underlying27 rfl (by kernel_rfl)) rfl ?_
  exact ⟨rfl, (Below.refl _ _).alloc (Nat.le_refl _) _⟩
set_option maxRecDepth 100000 in
theorem hi_any (hC : CxOk C) (h : WkI C k Af cf Ao co W) (i : Nat) (hi : i < C.l.length) :
    Calls Try.prog 108 #[.pointer (some ⟨C.bw, 0, none⟩), .int .i64 i] W fun e w' => e = .returned (.int .i64 (hiF C.hs i)) ∧ Below W.heap.size W w' := by
  obtain ⟨c0, c1, c2, c3, c4, c5, c6, c7, c8, c9, c10, c11, c12⟩ := h.cs
  by_cases hih : i < C.hs.length
  · have d0 : decide ((i : Int) < (C.hs.length : Int)) = true := decide_eq_true (by omega)
    have d0' : decide (i < C.hs.length) = true := decide_eq_true (by omega)
    obtain ⟨ad, u, e, hb, hu, hc⟩ := (hC.hi.below (h.bl C hC)).at_ hih
    have eu : hiF C.hs i = C.hs[i] := by unfold hiF; rw [List.getElem?_eq_getElem hih]; rfl
    have eu2 : u = .int .i64 C.hs[i] := by rw [List.getElem?_map, List.getElem?_eq_getElem hih] at hu; simpa using hu.symm
    rw [eu]
    subst eu2
    rw [e] at c5
    obtain ⟨U, hU⟩ : ∃ U, C.hs[i] = U := ⟨_, rfl⟩
    rw [hU] at hc ⊢
    have hlo : C.bw < W.heap.size := h.blk.lt
    have hb2 : ad.block < W.heap.size := by have := hC.lw; omega
    clear hU eu e hu h
    go_enter Try.func108, Try.ntmps108
    go_wp2_with fail
    go_ret
    exact ⟨rfl, Below.refl _ _⟩
  · have d0 : decide ((i : Int) < (C.hs.length : Int)) = false := decide_eq_false (by omega)
    have d0' : decide (i < C.hs.length) = false := decide_eq_false (by omega)
    have eu : hiF C.hs i = 0 := by unfold hiF; rw [List.getElem?_eq_none (by omega)]; rfl
    rw [eu]
    clear h
    go_enter Try.func108, Try.ntmps108
    go_wp2_with fail
    go_ret
    exact ⟨rfl, Below.refl _ _⟩
theorem wkB_p {k : Wk} (h : wkB k = true) : (-lim ≤ k.y ∧ k.y ≤ lim) ∧ (-lim ≤ k.st.most ∧ k.st.most ≤ lim) ∧ (-lim ≤ k.st.least ∧ k.st.least ≤ lim) ∧ (∀ f ∈ k.fl, flB f = true) ∧ k.fl.length ≤ 60000 ∧ k.op.length ≤ 60000 ∧ ∀ s ∈ k.sp, spB s = true := by
  unfold wkB inL at h
  simp only [Bool.and_eq_true, decide_eq_true_eq, List.all_eq_true] at h
  obtain ⟨⟨⟨⟨⟨⟨h1, h2⟩, h3⟩, h4⟩, h5⟩, h6⟩, h7⟩ := h
  exact ⟨h1, h2, h3, h4, h5, h6, h7⟩
theorem chk_p {k k' : Wk} (h : chk k = some k') : wkB k = true ∧ k' = k := by
  unfold chk at h
  split at h
  · exact ⟨by assumption, by simpa using h.symm⟩
  · simp at h
set_option maxRecDepth 100000 in
set_option maxHeartbeats 1000000 in
theorem mark_any (hC : CxOk C) (h : WkI C k Af cf Ao co W) (hb : wkB k = true) :
    Calls Try.prog 77 #[.pointer (some ⟨C.bw, 0, none⟩)] W fun e w' => e = .returned (.int .i64 (markF k)) ∧ Below W.heap.size W w' := by
  have hp := wkB_p hb
  have hs : -9223372036854775808 ≤ k.st.most + k.st.least ∧ k.st.most + k.st.least < 9223372036854775808 := by unfold lim at hp; omega
  have hw : IntKind.i64.wrap (k.y + (k.st.most + k.st.least)) = markF k := IntWalk.i64_in _ ⟨by unfold lim at hp; omega, by unfold lim at hp; omega⟩
  have HS := Lib.hid (fun W' => ssum_any k.st.most k.st.least W' hs)
  have HI := Lib.hid h
  clear h hp hb hs
  go_enter Try.func77, Try.ntmps77
  go_wp2_with fail
  refine wp_region_S (fun _ _ _ W' => Below W.heap.size W W') 1000 1000 100000 true true (by kernel_rfl) (by kernel_rfl) (by kernel_rfl) ((Below.refl _ _).drew) ?_
  refine wpAnyS_take (i := 0) (v := ?_) rfl (by kernel_rfl) (by kernel_rfl) (by kernel_rfl) (fun _ _ _ h => h) (by rfl) (gives_pure (by rfl) ?_) ?_
  rotate_left
  · intro b' d' u' W' hS'
    obtain ⟨c0, c1, c2, c3, c4, c5, c6, c7, c8, c9, c10, c11, c12⟩ := (HI.out.below hS').cs
    go_simp
    rfl
  try simp only [Act.put, List.setIfInBounds_toArray, List.set_cons_zero, List.set_cons_succ, List.getElem_toArray, List.getElem_cons_zero, List.getElem_cons_succ]
  refine wpAnyS_take (i := 1) (v := ?_) rfl (by kernel_rfl) (by kernel_rfl) (by kernel_rfl) (fun _ _ _ h => h) (by rfl) (gives_pure (by rfl) ?_) ?_
  rotate_left
  · intro b' d' u' W' hS'
    obtain ⟨c0, c1, c2, c3, c4, c5, c6, c7, c8, c9, c10, c11, c12⟩ := (HI.out.below hS').cs
    go_simp
    rfl
  try simp only [Act.put, List.setIfInBounds_toArray, List.set_cons_zero, List.set_cons_succ, List.getElem_toArray, List.getElem_cons_zero, List.getElem_cons_succ]
  refine wpAnyS_take (i := 2) (v := ?_) rfl (by kernel_rfl) (by kernel_rfl) (by kernel_rfl) (fun _ _ _ h => h) (by rfl) (gives_pure (by rfl) ?_) ?_
  rotate_left
  · intro b' d' u' W' hS'
    obtain ⟨c0, c1, c2, c3, c4, c5, c6, c7, c8, c9, c10, c11, c12⟩ := (HI.out.below hS').cs
    go_simp
    rfl
  try simp only [Act.put, List.setIfInBounds_toArray, List.set_cons_zero, List.set_cons_succ, List.getElem_toArray, List.getElem_cons_zero, List.getElem_cons_succ]
  refine wpAnyS_take (i := 3) (v := ?_) rfl (by kernel_rfl) (by kernel_rfl) (by kernel_rfl) (fun _ _ _ h => h) (by rfl) (gives_pure (by rfl) ?_) ?_
  rotate_left
  · intro b' d' u' W' hS'
    obtain ⟨c0, c1, c2, c3, c4, c5, c6, c7, c8, c9, c10, c11, c12⟩ := (HI.out.below hS').cs
    go_simp
    rfl
  try simp only [Act.put, List.setIfInBounds_toArray, List.set_cons_zero, List.set_cons_succ, List.getElem_toArray, List.getElem_cons_zero, List.getElem_cons_succ]
  refine wpAnyS_take (i := 4) (v := ?_) rfl (by kernel_rfl) (by kernel_rfl) (by kernel_rfl) (fun _ _ _ h => h) (by rfl) (gives_pure (by rfl) ?_) ?_
  rotate_left
  · intro b' d' u' W' hS'
    obtain ⟨c0, c1, c2, c3, c4, c5, c6, c7, c8, c9, c10, c11, c12⟩ := (HI.out.below hS').cs
    go_simp
    rfl
  try simp only [Act.put, List.setIfInBounds_toArray, List.set_cons_zero, List.set_cons_succ, List.getElem_toArray, List.getElem_cons_zero, List.getElem_cons_succ]
  refine wpAnyS_take (i := 5) (v := ?_) rfl (by kernel_rfl) (by kernel_rfl) (by kernel_rfl) (fun _ _ _ h => h) (by rfl) (gives_pure (by rfl) ?_) ?_
  rotate_left
  · intro b' d' u' W' hS'
    obtain ⟨c0, c1, c2, c3, c4, c5, c6, c7, c8, c9, c10, c11, c12⟩ := (HI.out.below hS').cs
    go_simp
    rfl
  try simp only [Act.put, List.setIfInBounds_toArray, List.set_cons_zero, List.set_cons_succ, List.getElem_toArray, List.getElem_cons_zero, List.getElem_cons_succ]
  refine wpAnyS_take (i := 6) (v := ?_) rfl (by kernel_rfl) (by kernel_rfl) (by kernel_rfl) (fun _ _ _ h => h) (by rfl) (gives_pure (by rfl) ?_) ?_
  rotate_left
  · intro b' d' u' W' hS'
    obtain ⟨c0, c1, c2, c3, c4, c5, c6, c7, c8, c9, c10, c11, c12⟩ := (HI.out.below hS').cs
    go_simp
    rfl
  try simp only [Act.put, List.setIfInBounds_toArray, List.set_cons_zero, List.set_cons_succ, List.getElem_toArray, List.getElem_cons_zero, List.getElem_cons_succ]
  refine wpAnyS_take (i := 7) (v := ?_) rfl (by kernel_rfl) (by kernel_rfl) (by kernel_rfl) (fun _ _ _ h => h) (by rfl) (gives_pure (by rfl) ?_) ?_
  rotate_left
  · intro b' d' u' W' hS'
    obtain ⟨c0, c1, c2, c3, c4, c5, c6, c7, c8, c9, c10, c11, c12⟩ := (HI.out.below hS').cs
    go_simp
    rfl
  try simp only [Act.put, List.setIfInBounds_toArray, List.set_cons_zero, List.set_cons_succ, List.getElem_toArray, List.getElem_cons_zero, List.getElem_cons_succ]
  refine wpAnyS_take (i := 8) (v := _) rfl (by kernel_rfl) (by kernel_rfl) (by kernel_rfl) (fun _ _ _ h => h) (by rfl) (gives_call (by rfl) _ _ ?_ (fun b' d' u' W' hS' => (HS.out W').mono (fun _ _ h => ⟨h.1, h.2 ▸ hS'.alloc hS'.size _⟩))) ?_
  · intro W'
    first | rfl | kernel_rfl
  try simp only [Act.put, List.setIfInBounds_toArray, List.set_cons_zero, List.set_cons_succ, List.getElem_toArray, List.getElem_cons_zero, List.getElem_cons_succ]
  refine wpAnyS_take (i := 9) (v := ?_) rfl (by kernel_rfl) (by kernel_rfl) (by kernel_rfl) (fun _ _ _ h => h) (by rfl) (gives_pure (by rfl) ?_) ?_
  rotate_left
  · intro b' d' u' W' hS'
    obtain ⟨c0, c1, c2, c3, c4, c5, c6, c7, c8, c9, c10, c11, c12⟩ := (HI.out.below hS').cs
    go_simp
    rfl
  try simp only [Act.put, List.setIfInBounds_toArray, List.set_cons_zero, List.set_cons_succ, List.getElem_toArray, List.getElem_cons_zero, List.getElem_cons_succ]
  refine wpAnyS_take (i := 10) (v := ?_) rfl (by kernel_rfl) (by kernel_rfl) (by kernel_rfl) (fun _ _ _ h => h) (by rfl) (gives_pure (by rfl) ?_) ?_
  rotate_left
  · intro b' d' u' W' hS'
    obtain ⟨c0, c1, c2, c3, c4, c5, c6, c7, c8, c9, c10, c11, c12⟩ := (HI.out.below hS').cs
    go_simp
    rfl
  try simp only [Act.put, List.setIfInBounds_toArray, List.set_cons_zero, List.set_cons_succ, List.getElem_toArray, List.getElem_cons_zero, List.getElem_cons_succ]
  refine wpAnyS_done (b := true) (d := true) (by kernel_rfl) (by kernel_rfl) (by kernel_rfl) rfl (fun wS hS => ?_) _
  have HS9 := Lib.hid hS
  clear hS
  go_wp2_with fail
  go_ret
  exact ⟨rfl, HS9.out⟩
/-- Settling: behind j of the open boxes; and where the next one's top is set. -/
def stJ (k : Wk) (j : Nat) : Wk := { y := markF k, st := ⟨0, 0⟩, fl := k.fl, op := k.op, sp := shutAll (markF k) k.sp (k.op.take j) }
def stT (k : Wk) (j : Nat) (i : Nat) : Wk := setSp (stJ k j) i fun x => { x with top := markF k }
theorem shutAll_len (m : Int) (l : List Nat) : ∀ sp : List Sp, (shutAll m sp l).length = sp.length := by
  induction l with
  | nil => intro sp; rfl
  | cons a t ih => intro sp; show (shutAll m (sp.modify a _) t).length = _; rw [ih]; simp
theorem stJ_succ (k : Wk) (j : Nat) (hj : j < k.op.length) : stJ k (j + 1) = setSp (setSp (stJ k j) k.op[j] fun x => { x with top := markF k }) k.op[j] fun x => { x with op := false } := by
  unfold stJ setSp shutAll
  simp only
  rw [foldl_take_succ _ _ _ _ hj]
  congr 1
  rw [List.modify_modify_eq]
  rfl
set_option maxRecDepth 100000 in
set_option maxHeartbeats 1000000 in
theorem settle_any (hC : CxOk C) (h : WkI C k Af cf Ao co W) (hb : wkB k = true) :
    Calls Try.prog 71 #[.pointer (some ⟨C.bw, 0, none⟩)] W fun e w' => (∃ v, e = .returned v) ∧ (∃ Ao' co', WkI C (settleF k) Af cf Ao' co' w') ∧ Kp (cxBad C) W w' := by
  have HM := Lib.hid (mark_any C k Af Ao cf co W hC h hb)
  have HN := Lib.hid (wkB_p hb)
  have HI := Lib.hid h
  have HC := Lib.hid hC
  clear h hb hC
  go_enter Try.func71, Try.ntmps71
  go_upto_region 1 with (go_at_call 77; refine HM.out.mono ?_; rintro e w1 ⟨rfl, hb1⟩; have HI1 := Lib.hid (HI.out.below hb1); have K1 : Hid (Kp (cxBad C) W w1) := Lib.hid (Kp.of_below hb1 _); obtain ⟨c0, c1, c2, c3, c4, c5, c6, c7, c8, c9, c10, c11, c12⟩ := HI1.out.cs; have f1 := (wk_fr HI1.out).1)
  have HI2 := Lib.hid (HI1.out.setY HC.out (markF k))
  have K2 := Lib.hid (K1.out.setCell (p := ⟨C.bw, 8, none⟩) (.inl (.inl rfl)) (.int .i64 (markF k)))
  clear c0 c1 c2 c3 c4 c5 c6 c7 c8 c9 c10 c11 c12 f1
  generalize World.setCell w1 _ _ = w2 at HI2 K2 ⊢
  obtain ⟨c0, c1, c2, c3, c4, c5, c6, c7, c8, c9, c10, c11, c12⟩ := HI2.out.cs
  have f1 := (wk_fr HI2.out).1
  go_upto_region 2 with (fail)
  have HI3 := Lib.hid (HI2.out.setSt HC.out ⟨0, 0⟩)
  have K3 := Lib.hid ((K2.out.setCell (p := ⟨C.bw, 9, none⟩) (.inl (.inl rfl)) (.int .i64 0)).setCell (p := ⟨C.bw, 10, none⟩) (.inl (.inl rfl)) (.int .i64 0))
  clear c0 c1 c2 c3 c4 c5 c6 c7 c8 c9 c10 c11 c12 f1
  generalize World.setCell (World.setCell w2 _ _) _ _ = w3 at HI3 K3 ⊢
  obtain ⟨c0, c1, c2, c3, c4, c5, c6, c7, c8, c9, c10, c11, c12⟩ := HI3.out.cs
  go_wp2_with fail
  clear c0 c1 c2 c3 c4 c5 c6 c7 c8 c9 c10 c11 c12
  go_loopw [18] (fun q wr => ∃ j : Nat, j ≤ k.op.length ∧ q = .int .i64 j ∧ Hid (WkI C (stJ k j) Af cf Ao co wr ∧ Kp (cxBad C) W wr)) (fun q _ => k.op.length - (intOf q).toNat)
  case atStart => exact ⟨0, by omega, rfl, Lib.hid ⟨HI3.out, K3.out⟩⟩
  case round =>
    obtain ⟨j, hj, rfl, HJK⟩ := hrel
    have HJ := Lib.hid HJK.out.1
    have KJ := Lib.hid HJK.out.2
    clear HJK
    by_cases hlt : j < k.op.length
    · have d0 : decide ((j : Int) < (k.op.length : Int)) = true := decide_eq_true (by omega)
      have d0' : decide (j < k.op.length) = true := decide_eq_true hlt
      have hwk : IntKind.i64.wrap ((j : Int) + 1) = (j : Int) + 1 := IntWalk.i64_in _ ⟨by omega, by have := HN.out; omega⟩
      obtain ⟨ad, u, hA, hlt', hu, hc⟩ := (Reads.of_own HJ.out.opn).at_ hlt
      have hu2 : u = .int .i64 (k.op[j] : Nat) := by
        have e : (stJ k j).op = k.op := rfl
        rw [e, List.getElem?_map, List.getElem?_eq_getElem hlt] at hu
        simpa using hu.symm
      subst hu2
      subst hA
      have HOP := Lib.hid (HJ.out.opl k.op[j] (List.getElem_mem hlt))
      have HOL : Hid (k.op[j] < (stJ k j).sp.length) := Lib.hid (by rw [HJ.out.len]; exact HOP.out)
      have HSP := Lib.hid (fun W' (h : WkI C (stJ k j) (Af) cf (some ad) co W') => spot_any C (stJ k j) Af (some ad) cf co W' HC.out h k.op[j] HOP.out)
      have E0 : WkI C (stJ k j) Af cf (some ad) co wr.drew ∧ Kp (cxBad C) W wr.drew := ⟨HJ.out.below (Below.refl _ _).drew, KJ.out.drew⟩
      go_upto_region 5 with (fail)
      refine wp_region_S (fun b _ _ W' => (if b then WkI C (stT k j (k.op[j])) Af cf (some ad) co W' else WkI C (stJ k j) Af cf (some ad) co W') ∧ Kp (cxBad C) W W') 9 1000 100000 false true (by kernel_rfl) (by kernel_rfl) (by kernel_rfl) (E0) ?_
      refine wpAnyS_take (i := 0) (v := ?_) rfl (by kernel_rfl) (by kernel_rfl) (by kernel_rfl) (fun _ _ _ h => h) (by rfl) (gives_pureF (by rfl) (by kernel_rfl) ?_) ?_
      rotate_left
      · intro d' u' W' hS'
        obtain ⟨c0, c1, c2, c3, c4, c5, c6, c7, c8, c9, c10, c11, c12⟩ := (show WkI C (stJ k j) Af cf (some ad) co W' from hS'.1).cs
        go_simp
        rfl
      try simp only [Act.put, List.setIfInBounds_toArray, List.set_cons_zero, List.set_cons_succ, List.getElem_toArray, List.getElem_cons_zero, List.getElem_cons_succ]
      refine wpAnyS_take (i := 1) (v := ?_) rfl (by kernel_rfl) (by kernel_rfl) (by kernel_rfl) (fun _ _ _ h => h) (by rfl) (gives_pureF (by rfl) (by kernel_rfl) ?_) ?_
      rotate_left
      · intro d' u' W' hS'
        obtain ⟨c0, c1, c2, c3, c4, c5, c6, c7, c8, c9, c10, c11, c12⟩ := (show WkI C (stJ k j) Af cf (some ad) co W' from hS'.1).cs
        go_simp
        rfl
      try simp only [Act.put, List.setIfInBounds_toArray, List.set_cons_zero, List.set_cons_succ, List.getElem_toArray, List.getElem_cons_zero, List.getElem_cons_succ]
      refine wpAnyS_take (i := 2) (v := _) rfl (by kernel_rfl) (by kernel_rfl) (by kernel_rfl) (fun _ _ _ h => h) (by rfl) (gives_callF (by rfl) (by kernel_rfl) _ _ ?_ (fun d' u' W' hS' => (HSP.out W' hS'.1).mono (fun _ _ h => ⟨h.1, (show WkI C (stJ k j) Af cf (some ad) co W' from hS'.1).below h.2, hS'.2.trans' (Kp.of_below h.2 (fun _ => False)) (fun _ _ h => h.elim)⟩))) ?_
      · intro W'
        first | rfl | kernel_rfl
      try simp only [Act.put, List.setIfInBounds_toArray, List.set_cons_zero, List.set_cons_succ, List.getElem_toArray, List.getElem_cons_zero, List.getElem_cons_succ]
      refine wpAnyS_take (i := 3) (v := ?_) rfl (by kernel_rfl) (by kernel_rfl) (by kernel_rfl) (fun _ _ _ h => h) (by rfl) (gives_pureF (by rfl) (by kernel_rfl) ?_) ?_
      rotate_left
      · intro d' u' W' hS'
        obtain ⟨c0, c1, c2, c3, c4, c5, c6, c7, c8, c9, c10, c11, c12⟩ := (show WkI C (stJ k j) Af cf (some ad) co W' from hS'.1).cs
        go_simp
        rfl
      try simp only [Act.put, List.setIfInBounds_toArray, List.set_cons_zero, List.set_cons_succ, List.getElem_toArray, List.getElem_cons_zero, List.getElem_cons_succ]
      refine wpAnyS_take (i := 4) (v := ?_) rfl (by kernel_rfl) (by kernel_rfl) (by kernel_rfl) (fun _ _ _ h => h) (by rfl) (gives_pureF (by rfl) (by kernel_rfl) ?_) ?_
      rotate_left
      · intro d' u' W' hS'
        obtain ⟨c0, c1, c2, c3, c4, c5, c6, c7, c8, c9, c10, c11, c12⟩ := (show WkI C (stJ k j) Af cf (some ad) co W' from hS'.1).cs
        go_simp
        rfl
      try simp only [Act.put, List.setIfInBounds_toArray, List.set_cons_zero, List.set_cons_succ, List.getElem_toArray, List.getElem_cons_zero, List.getElem_cons_succ]
      refine wpAnyS_take (i := 5) (v := ?_) rfl (by kernel_rfl) (by kernel_rfl) (by kernel_rfl) (fun _ _ _ h => h) (by rfl) (gives_pureF (by rfl) (by kernel_rfl) ?_) ?_
      rotate_left
      · intro d' u' W' hS'
        obtain ⟨c0, c1, c2, c3, c4, c5, c6, c7, c8, c9, c10, c11, c12⟩ := (show WkI C (stJ k j) Af cf (some ad) co W' from hS'.1).cs
        go_simp
        rfl
      try simp only [Act.put, List.setIfInBounds_toArray, List.set_cons_zero, List.set_cons_succ, List.getElem_toArray, List.getElem_cons_zero, List.getElem_cons_succ]
      refine wpAnyS_take (i := 6) (v := ?_) rfl (by kernel_rfl) (by kernel_rfl) (by kernel_rfl) (fun _ _ _ h => h) (by rfl) (gives_pureF (by rfl) (by kernel_rfl) ?_) ?_
      rotate_left
      · intro d' u' W' hS'
        obtain ⟨c0, c1, c2, c3, c4, c5, c6, c7, c8, c9, c10, c11, c12⟩ := (show WkI C (stJ k j) Af cf (some ad) co W' from hS'.1).cs
        go_simp
        rfl
      try simp only [Act.put, List.setIfInBounds_toArray, List.set_cons_zero, List.set_cons_succ, List.getElem_toArray, List.getElem_cons_zero, List.getElem_cons_succ]
      refine wpAnyS_take (i := 7) (v := ?_) rfl (by kernel_rfl) (by kernel_rfl) (by kernel_rfl) (fun _ _ _ h => h) (by rfl) (gives_pureF (by rfl) (by kernel_rfl) ?_) ?_
      rotate_left
      · intro d' u' W' hS'
        obtain ⟨c0, c1, c2, c3, c4, c5, c6, c7, c8, c9, c10, c11, c12⟩ := (show WkI C (stJ k j) Af cf (some ad) co W' from hS'.1).cs
        go_simp
        rfl
      try simp only [Act.put, List.setIfInBounds_toArray, List.set_cons_zero, List.set_cons_succ, List.getElem_toArray, List.getElem_cons_zero, List.getElem_cons_succ]
      refine wpAnyS_take (i := 8) (v := ?_) rfl (by kernel_rfl) (by kernel_rfl) (by kernel_rfl) (fun _ _ _ h => h) (by rfl) (gives_pureF (by rfl) (by kernel_rfl) ?_) ?_
      rotate_left
      · intro d' u' W' hS'
        obtain ⟨c0, c1, c2, c3, c4, c5, c6, c7, c8, c9, c10, c11, c12⟩ := (show WkI C (stJ k j) Af cf (some ad) co W' from hS'.1).cs
        go_simp
        rfl
      try simp only [Act.put, List.setIfInBounds_toArray, List.set_cons_zero, List.set_cons_succ, List.getElem_toArray, List.getElem_cons_zero, List.getElem_cons_succ]
      refine wpAnyS_store (i := 9) (d := true) (fun W' => W'.setCell ⟨C.bs, k.op[j] * 7 + 1, none⟩ (.int .i64 (markF k))) rfl (by kernel_rfl) (by rfl) (by rfl) (by kernel_rfl) rfl ?_ (fun W' hS' => ⟨(show WkI C (stJ k j) Af cf (some ad) co W' from hS'.1).setS HC.out HOL.out 1 (by omega) _ (fun x => { x with top := markF k }) (fun _ => rfl), hS'.2.setCell (p := ⟨C.bs, k.op[j] * 7 + 1, none⟩) (.inl (.inr rfl)) _⟩) ?_
      · intro W' hS'
        have s0 := (show WkI C (stJ k j) Af cf (some ad) co W' from hS'.1).sc HOL.out
        have f0 := (wk_fr (show WkI C (stJ k j) Af cf (some ad) co W' from hS'.1)).2
        go_simp
        try rfl
      try simp only [Act.put, List.setIfInBounds_toArray, List.set_cons_zero, List.set_cons_succ, List.getElem_toArray, List.getElem_cons_zero, List.getElem_cons_succ]
      refine wpAnyS_done (b := true) (d := true) (by kernel_rfl) (by kernel_rfl) (by kernel_rfl) rfl (fun wS hS => ?_) _
      have HS9 : Hid (WkI C (stT k j k.op[j]) Af cf (some ad) co wS) := Lib.hid hS.1
      have K9 := Lib.hid hS.2
      clear hS E0 hu hc
      have HSP2 := Lib.hid (spot_any C _ Af (some ad) cf co wS HC.out HS9.out k.op[j] HOP.out)
      go_upto_region 7 with (go_at_call 42; refine HSP2.out.mono ?_; rintro e w5 ⟨rfl, hb5⟩; have HI5 := Lib.hid (HS9.out.below hb5); have K5 := Lib.hid (K9.out.trans' (Kp.of_below hb5 (fun _ => False)) (fun _ _ h => h.elim)); obtain ⟨s0, s1, s2, s3, s4⟩ := HI5.out.sc (i := k.op[j]) (by show _ < (List.modify _ _ _).length; rw [List.length_modify]; exact HOL.out); have f1 := (wk_fr HI5.out).2)
      have HI6 := Lib.hid (HI5.out.setS HC.out (i := k.op[j]) (by show _ < (List.modify _ _ _).length; rw [List.length_modify]; exact HOL.out) 3 (by omega) (.bool false) (fun x => { x with op := false }) (fun _ => rfl))
      clear s0 s1 s2 s3 s4 f1
      go_wp2_with fail
      go_roundw
      case rel => exact ⟨j + 1, by omega, by go_num, Lib.hid ⟨by rw [stJ_succ k j hlt]; exact HI6.out, K5.out.setCell (p := ⟨C.bs, k.op[j] * 7 + 3, none⟩) (.inl (.inr rfl)) _⟩⟩
      case measure => simp [intOf]; omega
    · have d0 : decide ((j : Int) < (k.op.length : Int)) = false := decide_eq_false (by omega)
      have d0' : decide (j < k.op.length) = false := decide_eq_false hlt
      have HK := Lib.hid (show j = k.op.length by omega)
      obtain ⟨c0, c1, c2, c3, c4, c5, c6, c7, c8, c9, c10, c11, c12⟩ := HJ.out.cs
      have f1 := (wk_fr HJ.out).1
      have HF : Hid (WkI C (settleF k) Af cf none 0 (wr.setCell ⟨C.bw, 12, none⟩ (.slice none 0 0))) := Lib.hid (by
        have := HJ.out.setOp HC.out (op := []) (own_nil _ _ _ _) (by simp)
        rw [HK.out] at this
        unfold stJ at this
        rw [List.take_length] at this
        exact this)
      go_wp2_with fail
      go_end0
      exact ⟨⟨_, rfl⟩, ⟨none, 0, HF.out⟩, KJ.out.setCell (p := ⟨C.bw, 12, none⟩) (.inl (.inl rfl)) _⟩
set_option maxRecDepth 100000 in
set_option maxHeartbeats 1000000 in
theorem behind_any (hC : CxOk C) (h : WkI C k Af cf Ao co W) (y below : Int) :
    Calls Try.prog 110 #[.pointer (some ⟨C.bw, 0, none⟩), .int .i64 y, .int .i64 below] W fun e w' => (∃ v, e = .returned v) ∧ WkI C (behindF k y below) Af cf Ao co w' := by
  have HJ := Lib.hid (fun W' => join_any ⟨0, 0⟩ below W')
  have HI := Lib.hid h
  have HC := Lib.hid hC
  obtain ⟨c0, c1, c2, c3, c4, c5, c6, c7, c8, c9, c10, c11, c12⟩ := h.cs
  have f1 := (wk_fr h).1
  clear h hC
  go_enter Try.func110, Try.ntmps110
  go_upto_region 1 with (fail)
  have HI2 := Lib.hid (HI.out.setY HC.out y)
  clear c0 c1 c2 c3 c4 c5 c6 c7 c8 c9 c10 c11 c12 f1
  generalize World.setCell W _ _ = w2 at HI2 ⊢
  obtain ⟨J, hJ⟩ : ∃ J, J = joinF ⟨0, 0⟩ below := ⟨_, rfl⟩
  rw [← hJ] at HJ
  have HI3 := Lib.hid (fun w3 (hb : Below w2.heap.size w2 w3) => (HI2.out.below hb))
  go_wp2_with (go_at_call 109; refine (HJ.out _).mono ?_; rintro e w3 ⟨rfl, hb3⟩; have HB3 := Lib.hid (HI3.out w3 (hb3 ▸ ((Below.refl _ _).alloc (Nat.le_refl _) _).alloc (by simp) _)); clear hb3; obtain ⟨c0, c1, c2, c3, c4, c5, c6, c7, c8, c9, c10, c11, c12⟩ := HB3.out.cs; have f1 := (wk_fr HB3.out).1)
  have HI4 := Lib.hid (HB3.out.setSt HC.out J)
  go_end0
  exact ⟨⟨_, rfl⟩, by unfold behindF; rw [← hJ]; exact HI4.out⟩
end
end Go.Proofs.Ytlebbkhhhmempaa
