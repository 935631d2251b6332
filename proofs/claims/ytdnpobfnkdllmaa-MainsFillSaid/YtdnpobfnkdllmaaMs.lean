/- Mains: rows, and rows that are filled: plain. -/
import Derived.Test.YtdnpobfnkdllmaaMr
set_option linter.unusedSimpArgs false
set_option linter.unusedVariables false
namespace Go.Proofs.Ytdnpobfnkdllmaa

theorem last_split (l : List (List Nat)) (h : l ≠ []) : l.dropLast ++ [l.getLast?.getD []] = l := by
  rw [List.getLast?_eq_some_getLast h]
  exact List.dropLast_concat_getLast h
structure RowS (wrap : Bool) (c : Int) (own : Nat → Int) (l : List Nat) (p : List (List Nat) × Int) : Prop where
  flat : p.1.flatten = l
  ne : ∀ r ∈ p.1, r ≠ []
  one : wrap = false → p.1.length ≤ 1
  none : p.1 = [] → l = []
  long : p.1 ≠ [] → p.2 = ((p.1.getLast?.getD []).map own).sum
  room : wrap = true → ∀ r ∈ p.1, ∀ i, 0 < i → i < r.length → ((r.take (i + 1)).map own).sum ≤ c
  wraps : wrap = true → ∀ (i : Nat) (r s : List Nat), p.1[i]? = some r → p.1[i + 1]? = some s → ∃ k t, s = k :: t ∧ c < (r.map own).sum + own k
theorem rows_step (wrap : Bool) (c : Int) (own : Nat → Int) (l : List Nat) (p : List (List Nat) × Int) (k : Nat) (h : RowS wrap c own l p) : RowS wrap c own (l ++ [k]) (rowStep wrap c own p k) := by
  unfold rowStep
  by_cases hc : p.1.length = 0 ∨ (wrap = true ∧ c < p.2 + own k)
  · rw [if_pos hc]
    refine ⟨by rw [List.flatten_append, h.flat]; simp, fun r hr => ?_, fun hw => ?_, fun he => by simp at he, fun _ => by simp, fun hw r hr i h0 h1 => ?_, fun hw i r s h1 h2 => ?_⟩
    · rcases List.mem_append.1 hr with h1 | h1
      · exact h.ne r h1
      · simp at h1; rw [h1]; simp
    · rcases hc with hc | hc
      · simp [hc]
      · rw [hw] at hc; exact absurd hc.1 (by simp)
    · rcases List.mem_append.1 hr with h2 | h2
      · exact h.room hw r h2 i h0 h1
      · simp at h2; rw [h2] at h1; simp at h1; omega
    · by_cases hi : i + 1 < p.1.length
      · rw [List.getElem?_append_left (by omega)] at h1
        rw [List.getElem?_append_left hi] at h2
        exact h.wraps hw i r s h1 h2
      · have hl : i + 1 = p.1.length := by
          have := (List.getElem?_eq_some_iff.1 h2).1
          simp at this; omega
        rw [List.getElem?_append_left (by omega)] at h1
        rw [List.getElem?_append_right (by omega), show i + 1 - p.1.length = 0 by omega] at h2
        have hs : s = [k] := by simpa using h2.symm
        refine ⟨k, [], hs, ?_⟩
        have hne : p.1 ≠ [] := by intro e; rw [e] at hl; simp at hl
        have hr : p.1.getLast?.getD [] = r := by rw [List.getLast?_eq_getElem?, ← hl, Nat.add_sub_cancel, h1]; rfl
        rcases hc with hc | hc
        · omega
        · have := h.long hne; rw [hr] at this; rw [← this]; exact hc.2
  · rw [if_neg hc]
    have hne : p.1 ≠ [] := by intro e; apply hc; left; rw [e]; rfl
    have hsp := last_split p.1 hne
    obtain ⟨b, hb⟩ : ∃ b, b = p.1.getLast?.getD [] := ⟨_, rfl⟩
    rw [← hb] at hsp ⊢
    have hbm : b ∈ p.1 := by rw [← hsp]; simp
    have hlen : p.1.dropLast.length + 1 = p.1.length := by rw [← congrArg List.length hsp]; simp
    have hlong := h.long hne
    rw [← hb] at hlong
    refine ⟨?_, fun r hr => ?_, fun hw => ?_, fun he => by simp at he, fun _ => ?_, fun hw r hr i h0 h1 => ?_, fun hw i r s h1 h2 => ?_⟩
    · have := h.flat
      rw [← hsp] at this
      simp only [List.flatten_append, List.flatten_cons, List.flatten_nil, List.append_nil] at this ⊢
      rw [← List.append_assoc, this]
    · rcases List.mem_append.1 hr with h1 | h1
      · exact h.ne r (List.dropLast_subset _ h1)
      · simp at h1; rw [h1]; simp
    · have := h.one hw; simp; omega
    · simp [hlong]
    · rcases List.mem_append.1 hr with h2 | h2
      · exact h.room hw r (List.dropLast_subset _ h2) i h0 h1
      · simp at h2
        rw [h2] at h1 ⊢
        simp at h1
        by_cases hi : i + 1 ≤ b.length
        · rw [List.take_append_of_le_length hi]; exact h.room hw b hbm i h0 (by omega)
        · rw [List.take_of_length_le (by simp; omega)]
          have : ¬ c < p.2 + own k := fun h3 => hc (.inr ⟨hw, h3⟩)
          rw [hlong] at this
          simp; omega
    · by_cases hi : i + 1 < p.1.dropLast.length
      · rw [List.getElem?_append_left (by omega)] at h1
        rw [List.getElem?_append_left hi] at h2
        rw [List.getElem?_dropLast, if_pos (by omega)] at h1
        rw [List.getElem?_dropLast, if_pos (by omega)] at h2
        exact h.wraps hw i r s h1 h2
      · have hl : i + 1 = p.1.dropLast.length := by
          have := (List.getElem?_eq_some_iff.1 h2).1
          simp at this; simp at hi ⊢; omega
        rw [List.getElem?_append_left (by omega)] at h1
        rw [List.getElem?_append_right (by omega), show i + 1 - p.1.dropLast.length = 0 by omega] at h2
        have hs : s = b ++ [k] := by simpa using h2.symm
        rw [List.getElem?_dropLast, if_pos (by omega)] at h1
        have hb2 : p.1[i + 1]? = some b := by
          rw [← hsp, List.getElem?_append_right (by omega), show i + 1 - p.1.dropLast.length = 0 by omega]; rfl
        obtain ⟨j, t, e, hcj⟩ := h.wraps hw i r b h1 hb2
        exact ⟨j, t ++ [k], by rw [hs, e]; rfl, hcj⟩
theorem rows_all (wrap : Bool) (c : Int) (own : Nat → Int) (l : List Nat) : RowS wrap c own l (l.foldl (rowStep wrap c own) ([], 0)) := by
  have : ∀ (m l : List Nat) (p : List (List Nat) × Int), RowS wrap c own l p → RowS wrap c own (l ++ m) (m.foldl (rowStep wrap c own) p) := fun m => by
    induction m with
    | nil => intro l p h; rw [List.append_nil]; exact h
    | cons a t ih =>
      intro l p h
      have := ih (l ++ [a]) _ (rows_step wrap c own l p a h)
      rw [List.append_assoc] at this
      exact this
  have h0 : RowS wrap c own [] ([], 0) := ⟨rfl, by simp, by simp, by simp, by simp, by simp, by simp⟩
  exact this l [] _ h0
/-! Widths within their bounds. -/
theorem clamp_idem (s : Sty) (c v : Int) : clampF s c (clampF s c v) = clampF s c v := by
  unfold clampF
  cases (resF s.maxw c).2 <;> cases (resF s.minw c).2 <;> simp <;> omega
/-- Between the bounds. -/
def betwF (s : Sty) (c w : Int) : Prop := max (resF s.minw c).1 0 < w ∧ ((resF s.maxw c).2 = true → w < (resF s.maxw c).1)
theorem res_no (l : Ln) (c : Int) (h : (resF l c).2 = false) : (resF l c).1 = 0 := by
  unfold resF at *
  split at h
  · cases h
  · split at h
    · cases h
    · rename_i h1 h2; rw [if_neg h1, if_neg h2]
theorem clamp_betw (s : Sty) (c v : Int) (h : betwF s c (clampF s c v)) : clampF s c v = v := by
  unfold betwF at h
  unfold clampF at *
  cases h1 : (resF s.maxw c).2 <;> cases h2 : (resF s.minw c).2 <;> simp [h1, h2] at h ⊢ <;> omega
/-! A row is filled. -/
theorem map_idx (l : List Nat) (hn : l.Nodup) : l.map (fun k => l.idxOf k) = List.range l.length := by
  induction l with
  | nil => rfl
  | cons a t ih =>
    rw [List.nodup_cons] at hn
    rw [List.map_cons, List.length_cons, List.range_succ_eq_map, List.idxOf_cons_self]
    congr 1
    rw [← ih hn.2, List.map_map]
    refine List.map_congr_left fun k hk => ?_
    have : ¬ a = k := fun e => hn.1 (e ▸ hk)
    show (a :: t).idxOf k = _
    rw [List.idxOf_cons, beq_eq_false_iff_ne.2 this]; rfl
theorem sum_idx (l : List Nat) (hn : l.Nodup) (L : Int) (h0 : 0 ≤ L) (h1 : L ≤ l.length) : (l.map fun k => if (l.idxOf k : Int) < L then (1 : Int) else 0).sum = L := by
  have e : (l.map fun k => if (l.idxOf k : Int) < L then (1 : Int) else 0) = (l.map (fun k => l.idxOf k)).map fun k : Nat => if (k : Int) < L then (1 : Int) else 0 := by rw [List.map_map]; rfl
  rw [e, map_idx l hn, sum_below _ _ h0]; omega
theorem sum_sub (l : List Nat) (f g : Nat → Int) : (l.map fun k => f k - g k).sum = (l.map f).sum - (l.map g).sum := by
  induction l with
  | nil => rfl
  | cons a t ih => rw [List.map_cons, List.map_cons, List.map_cons, List.sum_cons, List.sum_cons, List.sum_cons, ih]; omega
theorem left_bd2 (l : List Nat) (g : Nat → Int) (R : Int) (hG : 0 < (l.map g).sum) : 0 ≤ R - (l.map fun k => R * g k / (l.map g).sum).sum ∧ R - (l.map fun k => R * g k / (l.map g).sum).sum ≤ l.length := by
  obtain ⟨G, hGe⟩ : ∃ G, G = (l.map g).sum := ⟨_, rfl⟩
  rw [← hGe] at hG ⊢
  obtain ⟨h1, h2⟩ := sum_floors l g R G hG
  rw [← hGe] at h1 h2
  obtain ⟨F, hF⟩ : ∃ F, F = (l.map fun k => R * g k / G).sum := ⟨_, rfl⟩
  rw [← hF] at h1 h2 ⊢
  rw [Int.mul_comm R G] at h1 h2
  have a1 : F ≤ R := Int.le_of_mul_le_mul_left h1 hG
  refine ⟨by omega, ?_⟩
  have e : (G - 1) * (l.length : Int) ≤ G * l.length := Int.mul_le_mul_of_nonneg_right (by omega) (by omega)
  have : G * R ≤ G * (F + l.length) := by rw [Int.mul_add]; omega
  have := Int.le_of_mul_le_mul_left this hG
  omega
/-- Aims that share an amount come to it. -/
theorem aims_sum (M : Nat → It) (oth : List Nat) (rest : Int) (grows : Bool) (hn : oth.Nodup) (hA : 0 < (if grows then rest else -rest)) (hall : 0 < sumM M It.factor oth) :
    (oth.map (aimF M oth rest grows)).sum = sumM M It.base oth + rest := by
  obtain ⟨A, hAe⟩ : ∃ A, A = (if grows then rest else -rest) := ⟨_, rfl⟩
  rw [← hAe] at hA
  have hL := left_bd2 oth (fun k => (M k).factor) A hall
  obtain ⟨L, hLe⟩ : ∃ L, L = A - (oth.map (partM M A (sumM M It.factor oth))).sum := ⟨_, rfl⟩
  have hL' : 0 ≤ L ∧ L ≤ oth.length := by rw [hLe]; exact hL
  have hm : (oth.map fun k => partM M A (sumM M It.factor oth) k + (if (oth.idxOf k : Int) < L then 1 else 0)).sum = A := by
    rw [sum_add, sum_idx oth hn L hL'.1 hL'.2]; omega
  have ha : ∀ k, aimF M oth rest grows k = if grows then (M k).base + (partM M A (sumM M It.factor oth) k + (if (oth.idxOf k : Int) < L then 1 else 0)) else (M k).base - (partM M A (sumM M It.factor oth) k + (if (oth.idxOf k : Int) < L then 1 else 0)) := fun k => by
    unfold aimF
    simp only [← hAe, ← hLe]
    rw [if_neg (by omega)]
  rw [sum_eqs oth _ _ fun k _ => ha k]
  cases grows
  · simp only [Bool.false_eq_true, if_false] at hAe ⊢
    rw [sum_sub, hm]; unfold sumM; omega
  · simp only [if_true] at hAe ⊢
    rw [sum_add, hm]; unfold sumM; omega
theorem cmpI_zero (a b : Int) (h : cmpI a b = 0) : a = b := by
  unfold cmpI at h
  by_cases h1 : a < b
  · rw [if_pos h1] at h; cases h
  · rw [if_neg h1] at h
    by_cases h2 : b < a
    · rw [if_pos h2] at h; cases h
    · omega
theorem sum_filter (M : Nat → It) (f : Nat → Int) (ks : List Nat) (p : Nat → Bool) : (ks.map f).sum = ((ks.filter p).map f).sum + ((ks.filter fun k => !p k).map f).sum := by
  induction ks with
  | nil => rfl
  | cons a t ih =>
    rw [List.map_cons, List.sum_cons, ih]
    cases hp : p a <;> simp [List.filter_cons, hp] <;> omega
/-- What is said of a row as its rounds go on: every item that is held stands within its bounds; of those that are not held as yet nothing is known. -/
theorem loop_fill : ∀ (n : Nat) (room : Int) (grows : Bool) (M : Nat → It) (ks : List Nat), ks.Nodup → (othM M ks).length ≤ n →
    ∀ k ∈ ks, (loopM n room grows M ks k).held = true ∧ ((M k).held = true → (loopM n room grows M ks k).width = (M k).width) ∧
      ((M k).held = false → clampF (M k).s (M k).c (loopM n room grows M ks k).width = (loopM n room grows M ks k).width ∧
        (betwF (M k).s (M k).c (loopM n room grows M ks k).width → (loopM n room grows M ks k).width ≠ (M k).base → sumM (loopM n room grows M ks) It.width ks = room))
  | 0, room, grows, M, ks, hd, hn, k, hk => by
    have ho : othM M ks = [] := List.length_eq_zero_iff.1 (by omega)
    have hh : (M k).held = true := by
      cases h : (M k).held
      · have : k ∈ othM M ks := List.mem_filter.2 ⟨hk, by rw [h]; rfl⟩
        rw [ho] at this; simp at this
      · rfl
    exact ⟨hh, fun _ => rfl, fun h => by rw [hh] at h; cases h⟩
  | n + 1, room, grows, M, ks, hd, hn, k, hk => by
    by_cases ho : othM M ks = []
    · rw [loop_done _ _ _ _ _ ho]
      have hh : (M k).held = true := by
        cases h : (M k).held
        · have : k ∈ othM M ks := List.mem_filter.2 ⟨hk, by rw [h]; rfl⟩
          rw [ho] at this; simp at this
        · rfl
      exact ⟨hh, fun _ => rfl, fun h => by rw [hh] at h; cases h⟩
    · have hless := round_less room grows M ks ho
      rw [loopM, if_neg ho]
      obtain ⟨i1, i2, i3⟩ := loop_fill n room grows (roundM room grows M ks) ks hd (by omega) k hk
      have hsame := round_same room grows M ks k
      have hheld : ∀ j, (M j).held = true → roundM room grows M ks j = M j := fun j hj => by
        have hjo : j ∉ othM M ks := fun h => by have := (List.mem_filter.1 h).2; rw [hj] at this; cases this
        unfold roundM holdM aimsM
        rw [if_neg hjo, if_neg hjo]
      refine ⟨i1, fun h => ?_, fun h => ?_⟩
      · have e := hheld k h
        rw [i2 (by rw [e]; exact h), e]
      · have hko : k ∈ othM M ks := List.mem_filter.2 ⟨hk, by rw [h]; rfl⟩
        obtain ⟨A, hA⟩ : ∃ A, A = aimsM M (othM M ks) (restM room M ks) grows := ⟨_, rfl⟩
        have hAk : ∀ j ∈ othM M ks, A j = { M j with aim := aimF M (othM M ks) (restM room M ks) grows j } := fun j hj => by rw [hA]; unfold aimsM; rw [if_pos hj]
        have hrk : ∀ j ∈ othM M ks, roundM room grows M ks j = holdI (wayM A (othM M ks)) (A j) := fun j hj => by unfold roundM holdM; rw [if_pos hj, ← hA]
        by_cases hh : (roundM room grows M ks k).held = true
        · -- held in this round
          have hw : wayM A (othM M ks) = 0 ∨ cmpI (clW (A k)) (A k).aim = wayM A (othM M ks) := by
            rw [hrk k hko] at hh
            unfold holdI at hh
            split at hh
            · assumption
            · rw [hAk k hko] at hh; rw [h] at hh; cases hh
          have hwid : (roundM room grows M ks k).width = clampF (M k).s (M k).c (A k).aim := by
            rw [hrk k hko]; unfold holdI; rw [if_pos hw, hAk k hko]; rfl
          rw [i2 hh, hwid]
          refine ⟨clamp_idem _ _ _, fun hb hbase => ?_⟩
          have hcl := clamp_betw _ _ _ hb
          have hak : (A k).aim = aimF M (othM M ks) (restM room M ks) grows k := by rw [hAk k hko]
          have hclw : clW (A k) = (A k).aim := by
            show clampF (A k).s (A k).c (A k).aim = (A k).aim
            rw [hAk k hko]; rw [hak] at hcl; exact hcl
          have hw0 : wayM A (othM M ks) = 0 := by
            rcases hw with hw | hw
            · exact hw
            · rw [hclw] at hw
              rw [← hw]; unfold cmpI; rw [if_neg (by omega), if_neg (by omega)]
          -- all of them are held
          have hall : ∀ j ∈ othM M ks, roundM room grows M ks j = { A j with held := true, width := clW (A j) } := fun j hj => by
            rw [hrk j hj, hw0]; unfold holdI; rw [if_pos (.inl rfl)]
          have hdone : othM (roundM room grows M ks) ks = [] := by
            refine oth_none _ _ fun j hj => ?_
            cases hjh : (M j).held
            · rw [hall j (List.mem_filter.2 ⟨hj, by rw [hjh]; rfl⟩)]
            · rw [hheld j hjh]; exact hjh
          rw [loop_done _ _ _ _ _ hdone]
          have hnb : ¬ ((if grows then restM room M ks else -restM room M ks) ≤ 0 ∨ sumM M It.factor (othM M ks) ≤ 0) := fun hneg => by
            apply hbase
            rw [hcl, hak]
            unfold aimF
            simp only []
            rw [if_pos hneg]
          have hsum := aims_sum M (othM M ks) (restM room M ks) grows (hd.sublist List.filter_sublist) (by omega) (by omega)
          have hz : ((othM M ks).map fun j => clW (A j) - (A j).aim).sum = 0 := cmpI_zero _ _ hw0
          rw [sum_sub] at hz
          have hz2 : ((othM M ks).map fun j => (A j).aim).sum = ((othM M ks).map (aimF M (othM M ks) (restM room M ks) grows)).sum := sum_eqs _ _ _ fun j hj => by rw [hAk j hj]
          -- the sum of all widths
          have hkeep : (ks.filter fun j => (M j).held).map (fun j => (roundM room grows M ks j).width) = (ks.filter fun j => (M j).held).map fun j => (M j).width := List.map_congr_left fun j hj => by rw [hheld j (List.mem_filter.1 hj).2]
          have hoth : (othM M ks).map (fun j => (roundM room grows M ks j).width) = (othM M ks).map fun j => clW (A j) := List.map_congr_left fun j hj => by rw [hall j hj]
          have h1 : sumM (roundM room grows M ks) It.width ks = ((ks.filter fun j => (M j).held).map fun j => (M j).width).sum + ((othM M ks).map fun j => clW (A j)).sum := by
            unfold sumM
            rw [sum_filter M _ ks fun j => (M j).held, hkeep]
            exact congrArg (_ + ·) (congrArg List.sum hoth)
          have h2 : sumM M (fun x => if x.held then x.width else x.base) ks = ((ks.filter fun j => (M j).held).map fun j => (M j).width).sum + sumM M It.base (othM M ks) := by
            unfold sumM
            rw [sum_filter M _ ks fun j => (M j).held]
            have ea : ((ks.filter fun j => (M j).held).map fun k => if (M k).held then (M k).width else (M k).base) = (ks.filter fun j => (M j).held).map fun j => (M j).width := List.map_congr_left fun j hj => by rw [(List.mem_filter.1 hj).2, if_pos rfl]
            have eb : ((ks.filter fun j => !(M j).held).map fun k => if (M k).held then (M k).width else (M k).base) = (othM M ks).map fun j => (M j).base := List.map_congr_left fun j hj => by
              have := (List.mem_filter.1 hj).2
              cases hjh : (M j).held
              · rw [if_neg (by simp)]
              · rw [hjh] at this; cases this
            rw [ea, eb]
          rw [h1]
          have h3 : restM room M ks = room - (((ks.filter fun j => (M j).held).map fun j => (M j).width).sum + sumM M It.base (othM M ks)) := by unfold restM; rw [h2]
          omega
        · -- not as yet
          have hh' : (roundM room grows M ks k).held = false := by
            cases hx : (roundM room grows M ks k).held
            · rfl
            · exact absurd hx hh
          obtain ⟨j1, j2⟩ := i3 hh'
          rw [hsame.s, hsame.c, hsame.base] at *
          exact ⟨j1, j2⟩
end Go.Proofs.Ytdnpobfnkdllmaa
