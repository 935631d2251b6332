/- FlowNest: memory; flow.Block on boxes one in the other. -/
import Derived.Test.YtlebbkhhhmempaaLth
import Derived.Test.YtlebbkhhhmempaaTxo
set_option linter.unusedSimpArgs false
set_option linter.unusedVariables false
namespace Go.Proofs.Ytlebbkhhhmempaa
open Go.RowKit
attribute [local go_sem] block_of_add
def r2h (r : Int × Int) : List Value := [.int .i16 r.1, .int .i16 r.2]
def I16p (r : Int × Int) : Prop := (-32768 ≤ r.1 ∧ r.1 ≤ 32767) ∧ (-32768 ≤ r.2 ∧ r.2 ≤ 32767)
def nrR (n : Nat) (H : Int) (i : Nat) (r : Int × Int) : Rw := ⟨if i + 1 = n then H else -1, r.1, r.2, 0, 0⟩
def nrF (n : Nat) (H : Int) : Nat → List (Int × Int) → List Rw
  | _, [] => []
  | i, r :: t => nrR n H i r :: nrF n H (i + 1) t
theorem nrF_len (n : Nat) (H : Int) : ∀ (t : List (Int × Int)) (i : Nat), (nrF n H i t).length = t.length
  | [], _ => rfl
  | r :: t, i => by simp [nrF, nrF_len n H t (i + 1)]
theorem nrF_at (n : Nat) (H : Int) : ∀ (t : List (Int × Int)) (i j : Nat), (nrF n H i t)[j]? = (t[j]?).map (nrR n H (i + j))
  | [], _, _ => by simp [nrF]
  | r :: t, i, 0 => by simp [nrF]
  | r :: t, i, j + 1 => by
    show (nrF n H (i + 1) t)[j]? = _
    rw [nrF_at n H t (i + 1) j, show i + 1 + j = i + (j + 1) by omega]; rfl
theorem nrF_app (n : Nat) (H : Int) (x : Int × Int) : ∀ (t : List (Int × Int)) (i : Nat), nrF n H i (t ++ [x]) = nrF n H i t ++ [nrR n H (i + t.length) x]
  | [], _ => rfl
  | r :: t, i => by
    show nrR n H i r :: nrF n H (i + 1) (t ++ [x]) = nrR n H i r :: (nrF n H (i + 1) t ++ _)
    rw [nrF_app n H x t (i + 1), List.length_cons, show i + 1 + t.length = i + (t.length + 1) by omega]
def rsN (l : List (Int × Int)) (H : Int) (j : Nat) : List Rw := nrF l.length H 0 (l.take j)
theorem rsN_len (l : List (Int × Int)) (H : Int) (j : Nat) (h : j ≤ l.length) : (rsN l H j).length = j := by unfold rsN; rw [nrF_len, List.length_take]; omega
theorem rsN_succ (l : List (Int × Int)) (H : Int) (j : Nat) (h : j < l.length) : rsN l H (j + 1) = rsN l H j ++ [nrR l.length H j l[j]] := by
  unfold rsN
  rw [List.take_add_one, List.getElem?_eq_getElem h]
  show nrF l.length H 0 (l.take j ++ [l[j]]) = _
  rw [nrF_app, List.length_take, Nat.zero_add, Nat.min_eq_left (by omega)]
theorem rsN_at (l : List (Int × Int)) (H : Int) (i : Nat) (h : i < l.length) : (rsN l H l.length)[i]? = some (nrR l.length H i l[i]) := by
  unfold rsN
  rw [List.take_length, nrF_at, List.getElem?_eq_getElem h, Nat.zero_add]; rfl
theorem rsN_R (l : List (Int × Int)) (H : Int) (hl : ∀ r ∈ l, I16p r) (hn : 1 ≤ l.length ∧ l.length ≤ 40) (hH : 0 < H ∧ H ≤ 70000) : NsR (rsN l H l.length) H := by
  have hlen := rsN_len l H l.length (Nat.le_refl _)
  refine ⟨by omega, by omega, fun r hr => ?_, fun i h => ?_⟩
  · obtain ⟨i, hi, rfl⟩ := List.getElem_of_mem hr
    have h := rsN_at l H i (by omega)
    rw [List.getElem?_eq_getElem hi] at h
    injection h with h
    rw [h]
    obtain ⟨⟨_, _⟩, _, _⟩ := hl _ (List.getElem_mem (show i < l.length by omega))
    refine ⟨⟨?_, ?_, ?_⟩, rfl, rfl⟩ <;> unfold nrR <;> dsimp only
    · split <;> omega
    · omega
    · omega
  · have h2 := rsN_at l H i (by omega)
    rw [List.getElem?_eq_getElem h] at h2
    injection h2 with h2
    rw [h2, hlen]; rfl
theorem nsT_bo (bo : Int) : ∀ (t : List Rw) (i : Nat), nsT bo (i + 1) t = nsT 0 (i + 1) t
  | [], _ => rfl
  | r :: t, i => by
    show nsN bo (i + 1) r :: nsT bo (i + 1 + 1) t = nsN 0 (i + 1) r :: nsT 0 (i + 1 + 1) t
    rw [nsT_bo bo t (i + 1)]
    congr 1
theorem nds_bo (bo : Int) (rs : List Rw) (h : 0 < rs.length) : ndsCells (nsL bo rs) = ((((ndsCells (nsL 0 rs)).set 69 (.int .i64 bo)).set 70 (.int .i64 0)).set 71 (.int .i64 0)).set 72 (.int .i64 0) := by
  cases rs with
  | nil => simp at h
  | cons r t =>
    have e : ∀ b : Int, ndsCells (nsL b (r :: t)) = ndCells ⟨-1, rootS 0 0⟩ ++ (ndCells (nsN b 0 r) ++ ndsCells (nsT 0 1 t)) := fun b => by
      show (⟨-1, rootS 0 0⟩ :: nsN b 0 r :: nsT b 1 t : List Nd).flatMap ndCells = _
      rw [nsT_bo b t 0]; simp [ndsCells]
    rw [e bo, e 0]
    generalize ndsCells (nsT 0 1 t) = X
    rfl
theorem ns_sty_T {r : Rw} (h : RwOk r) {bo : Int} (hb : 0 ≤ bo ∧ bo ≤ 1000) : StyT (nsS bo r) := by
  have q := twS_T h
  exact ⟨q.kind, q.flow, q.hk, q.hn, q.maxh, q.minh, q.m0, q.m2, by show 0 ≤ bo ∧ bo ≤ _; omega, q.b2, q.p0, q.p2, q.b1, q.b3, q.p1, q.p3⟩
theorem ns_trb (bo : Int) (rs : List Rw) (us : List Ud) (hb : 0 ≤ bo ∧ bo ≤ 1000) (hn : rs.length ≤ 60) (hr : ∀ r ∈ rs, RwOk r ∧ r.fl = 0 ∧ r.cl = 0) (hul : us.length = rs.length + 1) (hu : ∀ u ∈ us, inL u.w = true ∧ inL u.left = true ∧ inL u.right = true) : TrB (nsL bo rs) us [] rs.length (rs.length + 2) := by
  have hmem : ∀ x ∈ nsL bo rs, x = ⟨-1, rootS 0 0⟩ ∨ ∃ i r, r ∈ rs ∧ x = nsN bo i r := fun x hx => by
    obtain ⟨i, hi, rfl⟩ := List.getElem_of_mem hx
    cases i with
    | zero => exact .inl rfl
    | succ i =>
      have h := ns_at bo rs i
      rw [List.getElem?_eq_getElem hi] at h
      cases hx : rs[i]? with
      | none => rw [hx] at h; cases h
      | some r => rw [hx] at h; injection h with h; exact .inr ⟨i, r, List.mem_of_getElem? hx, h⟩
  refine ⟨ns_len bo rs, by rw [ns_len]; omega, by rw [ns_len]; exact hul, by simp, ?_, ?_, ?_, ?_, hu, ?_, ?_⟩
  · intro x hx
    rcases hmem x hx with rfl | ⟨i, r, hm, rfl⟩
    · exact ⟨rootS_T (by decide) (by decide), .inl rfl, .inl rfl⟩
    · refine ⟨ns_sty_T (hr r hm).1 (by split <;> omega), .inl (hr r hm).2.1, .inl (hr r hm).2.2⟩
  · intro x hx
    rcases hmem x hx with rfl | ⟨i, r, hm, rfl⟩
    · exact ⟨none, 0, 0, rfl⟩
    · exact ⟨none, 0, 0, rfl⟩
  · intro i h h0
    obtain ⟨i, rfl⟩ : ∃ j, i = j + 1 := ⟨i - 1, by omega⟩
    have e := ns_at bo rs i
    rw [List.getElem?_eq_getElem h] at e
    rw [ns_len] at h
    rw [List.getElem?_eq_getElem (by omega)] at e
    injection e with e
    rw [e]
    unfold nsN; dsimp only; omega
  · rw [ns_par, if_neg (by omega)]; omega
  · exact ns_dn bo rs (fun r h => (hr r h).2.1) rs.length 0 (rs.length + 2) (by omega) (by omega)
  · intro i h0 h
    rw [ns_len] at h
    rw [ns_par, if_pos (by omega)]
    by_cases h1 : i = 1
    · left; omega
    · right
      obtain ⟨j, rfl⟩ : ∃ j, i = j + 2 := ⟨i - 2, by omega⟩
      rw [show (((j + 2 : Nat) : Int) - 1).toNat = j + 1 by omega]
      unfold rootF
      rw [ns_sty bo rs j (by omega)]
      have := (hr _ (List.getElem_mem (show j < rs.length by omega))).2.1
      show (decide (j + 1 = 0) || decide ((rs[j]).fl ≠ 0)) = false
      rw [this]; simp
def nF0 (S H : Int) (i : Nat) : Fr := ⟨0, if i = 0 then S else 0, 100, H⟩
theorem usW (n : Nat) : (∀ i, (usF (wkU n) i).left = 0) ∧ ∀ u ∈ wkU n, (inL u.w = true ∧ inL u.left = true ∧ inL u.right = true) ∧ in40 u.w = true := by
  refine ⟨fun i => (usT_at n i).1, fun u hu => ?_⟩
  have := List.eq_of_mem_replicate hu
  subst this; decide
set_option maxRecDepth 100000 in
theorem nblock0_any (rs : List Rw) (H : Int) (n : Nat) (hn : rs.length = n) (hR : NsR rs H) (A uA : Option Addr) (c uc : Nat) (w : World) (hrn : Reads w w.heap.size 44 A (n + 1) (ndsCells (nsL 0 rs))) (hru : Reads w w.heap.size 3 uA (n + 1) (udsCells (wkU (n + 1)))) :
    Calls Try.prog 20 #[.agg #[.slice A (n + 1) c, .slice none 0 0, .int .i64 100], .int .i64 0, .slice uA (n + 1) uc, .slice none 0 0] w fun e w' => ∃ Ab cb gF gB, e = .returned (.agg #[.slice Ab n cb, .slice (some ⟨gF, 0, none⟩) n n, .slice (some ⟨gB, 0, none⟩) n n, .int .i64 (max 0 (sumF (jaF ⟨0, 0⟩ rs) + H + sumF (jbF rs))), .slice none 0 0, .bool false]) ∧
      Blk w' gF 58 (frsCells ((List.range n).map (nF0 (sumF (jaF ⟨0, 0⟩ rs)) H))).toArray ∧ Below w.heap.size w w' := by
  subst hn
  have hl : (wkU (rs.length + 1)).length = rs.length + 1 := by simp [wkU]
  obtain ⟨k, hk, hf, hlo⟩ := nest_0 rs (wkU (rs.length + 1)) H hR (usW _).1
  have hJa := jaF_B rs ⟨0, 0⟩ (fun x hx => (hR.r x hx).1) (by decide)
  have hJb := jbF_B rs (fun x hx => (hR.r x hx).1)
  have hH := hR.h
  have ht := ns_trb 0 rs (wkU (rs.length + 1)) (by decide) hR.n.2 hR.r hl (fun u h => ((usW _).2 u h).1)
  have hHi : highF (rootS 0 0) (lowF k) + (roofF (rootS 0 0) + floorF (rootS 0 0)) = max 0 (sumF (jaF ⟨0, 0⟩ rs) + H + sumF (jbF rs)) := by
    rw [root_high, root_frame, hlo]; omega
  have hu100 : ∀ i, i < rs.length → (usF (wkU (rs.length + 1)) (i + 1)).w = 100 := fun i hi => (usT_at (rs.length + 1) (i + 1)).2 (by omega)
  have h := block_any w (nsL 0 rs) (wkU (rs.length + 1)) [] A none uA none c 0 0 uc 0 100 rs.length (rs.length + 2) (rs.length + 1) ht (by rw [ns_len]; exact hrn) (by rw [hl]; exact hru) Reads.none_ (rootS 0 0) rfl k hk (fun i h0 hi => by
      obtain ⟨i, rfl⟩ : ∃ j, i = j + 1 := ⟨i - 1, by omega⟩
      rw [ns_len] at hi
      rw [hf i (by omega), hu100 i (by omega)]
      unfold frB
      rw [show in40 (0 : Int) = true from by decide, show in40 (100 : Int) = true from by decide, in40_of (by dsimp only; split <;> (try unfold sumF) <;> omega), in40_of (by dsimp only; omega)]; rfl)
    (by rw [hHi]; refine in40_of ?_; unfold sumF; omega)
  rw [ns_len, hl, hHi] at h
  have hr : (List.range' 1 rs.length).map (frF (nsL 0 rs) (wkU (rs.length + 1)) k) = (List.range rs.length).map (nF0 (sumF (jaF ⟨0, 0⟩ rs)) H) := by
    apply List.ext_getElem
    · simp
    · intro i h1 h2
      rw [List.length_map, List.length_range'] at h1
      rw [List.getElem_map, List.getElem_map, List.getElem_range', List.getElem_range, show 1 + 1 * i = i + 1 by omega, hf i h1, hu100 i h1]; rfl
  rw [hr] at h
  exact h
set_option maxRecDepth 100000 in
theorem nblockb_any (rs : List Rw) (H bo : Int) (n : Nat) (hn : rs.length = n) (hR : NsR rs H) (h2 : 2 ≤ n) (hbo : 0 < bo ∧ bo ≤ 1000) (r0 : Rw) (hr0 : rs[0]? = some r0) : ∃ (fs : Nat → Fr) (HG : Int), (fs 0).y = r0.a ∧ (fs 1).y = bo + sumF (jaF ⟨0, 0⟩ (rs.drop 1)) ∧ ∀ (A uA : Option Addr) (c uc : Nat) (w : World) (hrn : Reads w w.heap.size 44 A (n + 1) (ndsCells (nsL bo rs))) (hru : Reads w w.heap.size 3 uA (n + 1) (udsCells (wkU (n + 1)))),
    Calls Try.prog 20 #[.agg #[.slice A (n + 1) c, .slice none 0 0, .int .i64 100], .int .i64 0, .slice uA (n + 1) uc, .slice none 0 0] w fun e w' => ∃ Ab cb gF gB, e = .returned (.agg #[.slice Ab n cb, .slice (some ⟨gF, 0, none⟩) n n, .slice (some ⟨gB, 0, none⟩) n n, .int .i64 HG, .slice none 0 0, .bool false]) ∧
      Blk w' gF 58 (frsCells ((List.range n).map fs)).toArray ∧ Below w.heap.size w w' := by
  subst hn
  have hl : (wkU (rs.length + 1)).length = rs.length + 1 := by simp [wkU]
  obtain ⟨k, hk, hfl, hwb, hmb, hsb, ht0, ht1, ht2⟩ := nest_b rs (wkU (rs.length + 1)) H bo hR (usW _).1 h2 hbo
  have hr0' : rs[0]'(by omega) = r0 := by rw [List.getElem?_eq_getElem (by omega)] at hr0; injection hr0
  rw [hr0'] at ht1 ht2
  have ht := ns_trb bo rs (wkU (rs.length + 1)) (by omega) hR.n.2 hR.r hl (fun u h => ((usW _).2 u h).1)
  refine ⟨fun i => frF (nsL bo rs) (wkU (rs.length + 1)) k (i + 1), highF (rootS 0 0) (lowF k) + (roofF (rootS 0 0) + floorF (rootS 0 0)), ?_, ?_, ?_⟩
  · show (frF _ _ _ (0 + 1)).y = _
    unfold frF
    rw [ns_parI bo rs 0 (by omega)]
    show (spF k 1).top - (spF k 0).top = _
    omega
  · show (frF _ _ _ (1 + 1)).y = _
    unfold frF
    rw [ns_parI bo rs 1 (by omega)]
    show (spF k 2).top - (spF k 1).top = _
    omega
  · intro A uA c uc w hrn hru
    have hlo : 0 ≤ lowF k ∧ lowF k ≤ 33554432 := by
      unfold lowF
      rw [hfl]
      show 0 ≤ max 0 (markF k) ∧ max 0 (markF k) ≤ _
      omega
    have h := block_any w (nsL bo rs) (wkU (rs.length + 1)) [] A none uA none c 0 0 uc 0 100 rs.length (rs.length + 2) (rs.length + 1) ht (by rw [ns_len]; exact hrn) (by rw [hl]; exact hru) Reads.none_ (rootS 0 0) rfl k hk (fun i h0 hi => by
        have b1 := hsb i
        have b2 := hsb (parI (nsL bo rs) i)
        unfold frB
        have hw : in40 (frF (nsL bo rs) (wkU (rs.length + 1)) k i).w = true := by
          show in40 (usF (wkU (rs.length + 1)) i).w = true
          unfold usF
          by_cases h : i < (wkU (rs.length + 1)).length
          · rw [List.getElem?_eq_getElem h]; exact ((usW _).2 _ (List.getElem_mem h)).2
          · rw [List.getElem?_eq_none (by omega)]; decide
        rw [hw, in40_of (by unfold frF; dsimp only; omega), in40_of (by unfold frF; dsimp only; omega), in40_of (by unfold frF; dsimp only; omega)]; rfl)
      (by rw [root_high, root_frame]; exact in40_of (by omega))
    rw [ns_len, hl] at h
    have hr : (List.range' 1 rs.length).map (frF (nsL bo rs) (wkU (rs.length + 1)) k) = (List.range rs.length).map fun i => frF (nsL bo rs) (wkU (rs.length + 1)) k (i + 1) := by
      apply List.ext_getElem
      · simp
      · intro i h1 h2
        rw [List.getElem_map, List.getElem_map, List.getElem_range', List.getElem_range, show 1 + 1 * i = i + 1 by omega]
    rw [hr] at h
    exact h
end Go.Proofs.Ytlebbkhhhmempaa
