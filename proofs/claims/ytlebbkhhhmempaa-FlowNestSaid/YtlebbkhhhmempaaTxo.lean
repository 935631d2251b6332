/- Boxes one in the other: flow.Block on them. -/
import Derived.Test.YtlebbkhhhmempaaTxm
import Derived.Test.YtlebbkhhhmempaaToc
set_option linter.unusedSimpArgs false
set_option linter.unusedVariables false
namespace Go.Proofs.Ytlebbkhhhmempaa
open Go.RowKit
def jcF (s : Stt) (t : List Rw) : Stt := t.foldl (fun s r => joinF s r.b) s
theorem jc_swap (b : Int) : ∀ (t : List Rw) (s : Stt), jcF (joinF s b) t = joinF (jcF s t) b
  | [], _ => rfl
  | r :: t, s => by
    have e : joinF (joinF s b) r.b = joinF (joinF s r.b) b := by unfold joinF; dsimp only; congr 1 <;> omega
    show jcF (joinF (joinF s b) r.b) t = joinF (jcF (joinF s r.b) t) b
    rw [e, jc_swap b t]
theorem jb_jc : ∀ (t : List Rw), jbF t = jcF ⟨0, 0⟩ t
  | [] => rfl
  | r :: t => by
    show joinF (jbF t) r.b = jcF (joinF ⟨0, 0⟩ r.b) t
    rw [jc_swap, jb_jc t]
theorem k0_ns (n : Nat) : NsI (k0F n 0) := by
  unfold k0F
  refine ⟨by simp, by simp, by simp, rfl, by simp, fun s hs => ?_⟩
  rcases List.mem_or_eq_of_mem_set hs with h1 | h1
  · rw [List.mem_replicate] at h1; rw [h1.2]; decide
  · rw [h1]; decide
theorem k0_sp (n j : Nat) (h : j ≤ n) : (k0F n 0).sp[j]? = some sp0 := by
  unfold k0F
  rw [List.getElem?_set]
  cases j with
  | zero => simp [sp0]
  | succ j =>
    rw [if_neg (by omega), List.getElem?_replicate, if_pos (by omega)]
theorem ns_parI (bo : Int) (rs : List Rw) (i : Nat) (h : i < rs.length) : parI (nsL bo rs) (i + 1) = i := by
  unfold parI
  rw [ns_at, List.getElem?_eq_getElem h]
  show ((i : Int)).toNat = i
  exact Int.toNat_natCast i
structure NsR (rs : List Rw) (H : Int) : Prop where
  n : 1 ≤ rs.length ∧ rs.length ≤ 60
  h : 0 < H ∧ H ≤ 1048576
  r : ∀ r ∈ rs, RwOk r ∧ r.fl = 0 ∧ r.cl = 0
  l : ∀ i (h : i < rs.length), (rs[i]).h = if i + 1 = rs.length then H else -1
theorem nest_0 (rs : List Rw) (us : List Ud) (H : Int) (hR : NsR rs H) (hu : ∀ i, (usF us i).left = 0) :
    ∃ k, contF (rs.length + 1) (nsL 0 rs) us [] (k0F rs.length 0) 0 0 = some k ∧ (∀ i, i < rs.length → frF (nsL 0 rs) us k (i + 1) = ⟨0, if i = 0 then sumF (jaF ⟨0, 0⟩ rs) else 0, (usF us (i + 1)).w, H⟩) ∧ lowF k = max 0 (sumF (jaF ⟨0, 0⟩ rs) + H + sumF (jbF rs)) := by
  have hn := hR.n
  obtain ⟨k, hk, hO⟩ := nest_go 0 rs us H hR.h hu hR.r hR.l (rs.length - 1) 0 (rs.length + 1) (k0F rs.length 0) (by omega) (.inr rfl) (by omega) (k0_ns _) (by show -8388608 ≤ (0 : Int) ∧ (0 : Int) ≤ 8388608; omega) (by show 0 + _ ≤ _; omega) (k0_len _ _) (by intro j hj; cases hj)
  rw [List.drop_zero] at hO
  have hS : (k0F rs.length 0).y + sumF (jaF (k0F rs.length 0).st rs) = sumF (jaF ⟨0, 0⟩ rs) := by show 0 + _ = _; rw [Int.zero_add]; rfl
  rw [hS] at hO
  refine ⟨k, hk, fun i hi => ?_, ?_⟩
  · have h1 : spF k (i + 1) = ⟨0, sumF (jaF ⟨0, 0⟩ rs), H, false⟩ := by
      unfold spF
      rw [hO.sp, if_pos (by omega)]; rfl
    unfold frF
    rw [ns_parI 0 rs i hi, h1]
    by_cases h0 : i = 0
    · subst h0
      have h2 : spF k 0 = sp0 := by
        unfold spF
        rw [hO.sp, if_neg (by omega), if_neg (by intro h; cases h), k0_sp _ _ (by omega)]; rfl
      rw [h2]
      unfold sp0
      simp
    · obtain ⟨j, rfl⟩ : ∃ j, i = j + 1 := ⟨i - 1, by omega⟩
      have h2 : spF k (j + 1) = ⟨0, sumF (jaF ⟨0, 0⟩ rs), H, false⟩ := by
        unfold spF
        rw [hO.sp, if_pos (by omega)]; rfl
      rw [h2]
      simp
  · unfold lowF
    rw [hO.fl]
    show max 0 (markF k) = _
    unfold markF
    rw [hO.y, hO.st]
theorem nest_b (rs : List Rw) (us : List Ud) (H bo : Int) (hR : NsR rs H) (hu : ∀ i, (usF us i).left = 0) (h2 : 2 ≤ rs.length) (hbo : 0 < bo ∧ bo ≤ 1000) :
    ∃ k, contF (rs.length + 1) (nsL bo rs) us [] (k0F rs.length 0) 0 0 = some k ∧ k.fl = [] ∧ wkB k = true ∧ (-33554432 ≤ markF k ∧ markF k ≤ 33554432) ∧ (∀ j, (-33554432 ≤ (spF k j).left ∧ (spF k j).left ≤ 33554432) ∧ (-33554432 ≤ (spF k j).top ∧ (spF k j).top ≤ 33554432) ∧ (-33554432 ≤ (spF k j).high ∧ (spF k j).high ≤ 33554432)) ∧
      (spF k 0).top = 0 ∧ (spF k 1).top = (rs[0]'(by omega)).a ∧ (spF k 2).top = (rs[0]'(by omega)).a + bo + sumF (jaF ⟨0, 0⟩ (rs.drop 1)) := by
  have hn := hR.n
  have h0l : 0 < rs.length := by omega
  obtain ⟨hr, hf, hc⟩ := hR.r _ (List.getElem_mem h0l)
  have hh : (rs[0]).h = -1 := by rw [hR.l 0 h0l, if_neg (by omega)]
  obtain ⟨r, hre⟩ : ∃ r, r = rs[0]'h0l := ⟨_, rfl⟩
  rw [← hre] at hr hf hc hh
  have hst : styF (nsL bo rs) (0 + 1) = some (nsS bo r) := by rw [ns_sty bo rs 0 h0l, ← hre]; rfl
  have ha := hr.a
  have hb := hr.b
  obtain ⟨k0, hk0⟩ : ∃ k0, k0 = k0F rs.length 0 := ⟨_, rfl⟩
  have hI0 : NsI k0 := by rw [hk0]; exact k0_ns _
  have hy0 : k0.y = 0 := by rw [hk0]; rfl
  have hst0 : k0.st = ⟨0, 0⟩ := by rw [hk0]; rfl
  have hop0 : k0.op = [] := by rw [hk0]; rfl
  have hl0 : k0.sp.length = rs.length + 1 := by rw [hk0]; exact k0_len _ _
  have hsp0 : ∀ j, j ≤ rs.length → k0.sp[j]? = some sp0 := fun j hj => by rw [hk0]; exact k0_sp _ _ hj
  have hz : inL 0 = true := by decide
  obtain ⟨k1, hk1⟩ : ∃ k1, k1 = setSp (joinS k0 r.a) 1 (fun p => { p with left := 0 }) := ⟨_, rfl⟩
  have hmk : markF k1 = r.a := by
    rw [hk1]; show k0.y + sumF (joinF k0.st r.a) = r.a; rw [hy0, hst0]; unfold sumF joinF; dsimp only; omega
  have hJ : (0 ≤ (joinF k0.st r.a).most ∧ (joinF k0.st r.a).most ≤ 1048576) ∧ -1048576 ≤ (joinF k0.st r.a).least ∧ (joinF k0.st r.a).least ≤ 0 := by rw [hst0]; unfold joinF; dsimp only; omega
  have hI1 : NsI k1 := by
    rw [hk1]
    refine ⟨hI0.y, hJ.1, hJ.2, hI0.fl, hI0.op, fun s hs => ?_⟩
    rcases mem_modify hs with h | ⟨y, h, rfl⟩
    · exact hI0.sp s h
    · have := spB_iff.1 (hI0.sp y h); exact spB_iff.2 ⟨hz, this.2⟩
  obtain ⟨k2, hk2⟩ : ∃ k2 : Wk, k2 = { setSp (settleF k1) 1 (fun p => { p with top := r.a }) with y := r.a + bo } := ⟨_, rfl⟩
  have hsp2 : k2.sp = k0.sp.modify 1 fun p => { p with left := 0, top := r.a } := by
    rw [hk2]
    show (shutAll (markF k1) k1.sp k1.op).modify 1 _ = _
    have : k1.op = [] := by rw [hk1]; exact hop0
    rw [this, hk1]
    show (k0.sp.modify 1 _).modify 1 _ = _
    rw [List.modify_modify_eq]; rfl
  have hI2 : NsI k2 := by
    refine ⟨by rw [hk2]; show _ ≤ r.a + bo ∧ r.a + bo ≤ _; omega, by rw [hk2]; show 0 ≤ (0 : Int) ∧ (0 : Int) ≤ _; omega, by rw [hk2]; show _ ≤ (0 : Int) ∧ (0 : Int) ≤ 0; omega, by rw [hk2]; exact hI1.fl, by rw [hk2]; simp [setSp, settleF], fun s hs => ?_⟩
    rw [hsp2] at hs
    rcases mem_modify hs with h | ⟨y, h, rfl⟩
    · exact hI0.sp s h
    · have := spB_iff.1 (hI0.sp y h); exact spB_iff.2 ⟨hz, inL_far (by dsimp only; omega), this.2.2⟩
  have ho : openF us (nsS bo r) k0 1 0 = some k2 := by
    unfold openF
    rw [show mgF (nsS bo r).m0 = r.a from rfl, hu, Int.add_zero, ← hk1]
    unfold chk
    rw [if_pos hI1.wk]
    simp only
    have hcl : clearF k1.fl (nsS bo r).clear (markF k1) = markF k1 := by
      show clearF k1.fl r.cl _ = _
      rw [hc, clear_0]
    have hro : roofF (nsS bo r) = bo := by show bo + 0 = bo; omega
    rw [hcl, if_neg (by omega), hro, if_pos hbo.1, hmk, ← hk2, if_pos hI2.wk]
  obtain ⟨k3, hc3, hO⟩ := nest_go bo rs us H hR.h hu hR.r hR.l (rs.length - 2) 1 rs.length k2 (by omega) (.inl (by omega)) (by omega) hI2 (by rw [hk2]; show _ ≤ r.a + bo ∧ r.a + bo ≤ _; omega) (by rw [hk2]; simp [setSp, settleF]; omega) (by rw [hsp2, List.length_modify]; exact hl0) (by intro j hj; rw [hk2] at hj; cases hj)
  have hk2op : k2.op = [] := by rw [hk2]; rfl
  obtain ⟨S, hS⟩ : ∃ S, S = r.a + bo + sumF (jaF ⟨0, 0⟩ (rs.drop 1)) := ⟨_, rfl⟩
  have hS2 : k2.y + sumF (jaF k2.st (rs.drop 1)) = S := by rw [hS, hk2]; rfl
  rw [hS2] at hO
  have hJa := jaF_B (rs.drop 1) ⟨0, 0⟩ (fun x hx => (hR.r x (List.mem_of_mem_drop hx)).1) (by decide)
  have hJb := jbF_B (rs.drop 1) (fun x hx => (hR.r x (List.mem_of_mem_drop hx)).1)
  have hH := hR.h
  have hSb : -4194304 ≤ S ∧ S ≤ 4194304 := by rw [hS]; unfold sumF; omega
  have hat : ∀ j, j < 2 → k3.sp[j]? = k2.sp[j]? := fun j hj => by rw [hO.sp, if_neg (by omega), hk2op, if_neg (by intro h; cases h)]
  have hown : k3.sp[1]? = some ⟨0, r.a, 0, false⟩ := by
    rw [hat 1 (by omega), hsp2, List.getElem?_modify, hsp0 1 (by omega)]; simp [sp0]
  have hown0 : k3.sp[0]? = some sp0 := by
    rw [hat 0 (by omega), hsp2, List.getElem?_modify, hsp0 0 (by omega)]; simp
  obtain ⟨h, hhe⟩ : ∃ h, h = max (S + H - r.a - bo) 0 := ⟨_, rfl⟩
  have hspb : ∀ s ∈ k3.sp, (-33554432 ≤ s.left ∧ s.left ≤ 33554432) ∧ (-33554432 ≤ s.top ∧ s.top ≤ 33554432) ∧ (-33554432 ≤ s.high ∧ s.high ≤ 33554432) := fun s hs => by
    obtain ⟨j, hj⟩ := List.mem_iff_getElem?.1 hs
    rw [hO.sp, hk2op] at hj
    split at hj
    · injection hj with hj; rw [← hj]; dsimp only; omega
    · rw [if_neg (by intro h; cases h), hsp2, List.getElem?_modify] at hj
      by_cases hjl : j ≤ rs.length
      · rw [hsp0 j hjl] at hj
        by_cases e : 1 = j
        · simp [e] at hj; rw [← hj]; unfold sp0; dsimp only; omega
        · simp [e] at hj; rw [← hj]; decide
      · rw [List.getElem?_eq_none (by omega)] at hj; simp at hj
  have key : ∀ k4 : Wk, k4.sp = k3.sp.modify 1 (fun p => { p with high := bo + h + 0 }) → k4.fl = [] → k4.op = [] → (-16777216 ≤ k4.y ∧ k4.y ≤ 16777216) → ((0 ≤ k4.st.most ∧ k4.st.most ≤ 1048576) ∧ (-1048576 ≤ k4.st.least ∧ k4.st.least ≤ 0)) →
      k4.fl = [] ∧ wkB k4 = true ∧ (-33554432 ≤ markF k4 ∧ markF k4 ≤ 33554432) ∧ (∀ j, (-33554432 ≤ (spF k4 j).left ∧ (spF k4 j).left ≤ 33554432) ∧ (-33554432 ≤ (spF k4 j).top ∧ (spF k4 j).top ≤ 33554432) ∧ (-33554432 ≤ (spF k4 j).high ∧ (spF k4 j).high ≤ 33554432)) ∧ (spF k4 0).top = 0 ∧ (spF k4 1).top = r.a ∧ (spF k4 2).top = S := by
    intro k4 e1 e2 e3 e4 e5
    have hb4 : ∀ s ∈ k4.sp, (-33554432 ≤ s.left ∧ s.left ≤ 33554432) ∧ (-33554432 ≤ s.top ∧ s.top ≤ 33554432) ∧ (-33554432 ≤ s.high ∧ s.high ≤ 33554432) := fun s hs => by
      rw [e1] at hs
      rcases mem_modify hs with h | ⟨y, h', rfl⟩
      · exact hspb s h
      · have := hspb y h'; dsimp only; rw [hhe]; unfold sumF at hS; omega
    refine ⟨e2, ?_, by unfold markF sumF; omega, fun j => ?_, ?_, ?_, ?_⟩
    · exact wkB_of (by omega) (by omega) (by omega) (by rw [e2]; simp) (by rw [e2]; simp) (by rw [e3]; simp) (fun s hs => by
        have := hb4 s hs; exact spB_iff.2 ⟨inL_far (by omega), inL_far (by omega), inL_far (by omega)⟩)
    · unfold spF
      cases hx : k4.sp[j]? with
      | none => decide
      | some s => exact hb4 s (List.mem_of_getElem? hx)
    · unfold spF; rw [e1, List.getElem?_modify, hown0]; rfl
    · unfold spF; rw [e1, List.getElem?_modify, hown]; rfl
    · unfold spF; rw [e1, List.getElem?_modify, hO.sp, if_pos (by omega)]; rfl
  have hle : ∃ k4, leaveF (nsS bo r) k3 1 (mgF (nsS bo r).m2) = some k4 ∧ (k4.fl = [] ∧ wkB k4 = true ∧ (-33554432 ≤ markF k4 ∧ markF k4 ≤ 33554432) ∧ (∀ j, (-33554432 ≤ (spF k4 j).left ∧ (spF k4 j).left ≤ 33554432) ∧ (-33554432 ≤ (spF k4 j).top ∧ (spF k4 j).top ≤ 33554432) ∧ (-33554432 ≤ (spF k4 j).high ∧ (spF k4 j).high ≤ 33554432)) ∧ (spF k4 0).top = 0 ∧ (spF k4 1).top = r.a ∧ (spF k4 2).top = S) := by
    rw [show mgF (nsS bo r).m2 = r.b from rfl]
    unfold leaveF
    rw [hown]
    simp only
    have hhi : ∀ a : Int, highF (nsS bo r) a = max a 0 := fun a => by
      have := high_tw r a
      rw [if_neg (by omega)] at this
      exact this
    have hro : roofF (nsS bo r) = bo := by show bo + 0 = bo; omega
    rw [if_neg (by simp), if_neg (by simp), show floorF (nsS bo r) = 0 from rfl, if_neg (by omega), hown]
    simp only
    rw [hO.y, hro, hhi, ← hhe]
    have hjm : (0 ≤ (joinF k3.st r.b).most ∧ (joinF k3.st r.b).most ≤ 1048576) ∧ (-1048576 ≤ (joinF k3.st r.b).least ∧ (joinF k3.st r.b).least ≤ 0) := by rw [hO.st]; unfold joinF; dsimp only; omega
    have hjn : (0 ≤ (joinF ⟨0, 0⟩ r.b).most ∧ (joinF ⟨0, 0⟩ r.b).most ≤ 1048576) ∧ (-1048576 ≤ (joinF ⟨0, 0⟩ r.b).least ∧ (joinF ⟨0, 0⟩ r.b).least ≤ 0) := by unfold joinF; dsimp only; omega
    split
    · have q := key (joinS (setSp k3 1 fun p => { p with high := bo + h + 0 }) r.b) rfl hO.fl hO.op (by show _ ≤ k3.y ∧ k3.y ≤ _; rw [hO.y]; omega) hjm
      refine ⟨_, ?_, q⟩
      unfold chk
      rw [if_pos q.2.1]
    · have q := key (behindF (setSp k3 1 fun p => { p with high := bo + h + 0 }) (r.a + (bo + h + 0)) r.b) rfl hO.fl hO.op (by show _ ≤ r.a + (bo + h + 0) ∧ r.a + (bo + h + 0) ≤ _; rw [hhe]; omega) hjn
      refine ⟨_, ?_, q⟩
      unfold chk
      rw [if_pos q.2.1]
  obtain ⟨k4, hle, q⟩ := hle
  refine ⟨k4, ?_, q.1, q.2.1, q.2.2.1, q.2.2.2.1, q.2.2.2.2.1, by rw [q.2.2.2.2.2.1, hre], by rw [q.2.2.2.2.2.2, hS, hre]⟩
  rw [contF_succ, ns_kids, if_pos h0l]
  simp only [List.foldlM_cons, List.foldlM_nil]
  have hg : rs.length = (rs.length - 1) + 1 := by omega
  unfold stepC
  rw [Int.toNat_natCast, hst]
  simp only
  rw [if_neg (by show ¬ r.fl ≠ 0; rw [hf]; simp)]
  rw [← hk0, show (0 + 1 : Nat) = 1 from rfl, ho]
  simp only
  rw [hu, Int.add_zero, hc3]
  show Option.bind (leaveF (nsS bo r) k3 1 (mgF (nsS bo r).m2)) pure = some k4
  rw [hle]; rfl
end Go.Proofs.Ytlebbkhhhmempaa
