/- Mains: how great the numbers of a row become: plain. -/
import Derived.Test.YtbopeofglhkffaaMr
set_option linter.unusedSimpArgs false
set_option linter.unusedVariables false
namespace Go.Proofs.Ytbopeofglhkffaa
structure FitB (x : It) : Prop where
  held : x.held = false
  c : CB x.c
  maxw : LnM x.s.maxw
  minw : LnM x.s.minw
  sides : -30000000000000 ≤ x.sides ∧ x.sides ≤ 30000000000000
  base : -10995116277760 ≤ x.base ∧ x.base ≤ 10995116277760
  guess : 0 ≤ x.guess ∧ x.guess ≤ 10995116277760
  grow : 0 ≤ x.s.grow ∧ x.s.grow ≤ 60
  shrink : 0 ≤ x.s.shrink ∧ x.s.shrink ≤ 60
theorem facI_bd {grows : Bool} {x : It} (h : FitB x) : -1000000000000000 ≤ facI grows x ∧ facI grows x ≤ 1000000000000000 := by
  have hg := h.grow
  have hs := h.shrink
  have hb := h.base
  unfold facI
  cases grows
  · simp only [Bool.false_eq_true, if_false]
    have h1 : (x.s.shrink * x.base).natAbs ≤ 60 * 10995116277760 := by rw [Int.natAbs_mul]; exact Nat.mul_le_mul (by omega) (by omega)
    omega
  · simp only [if_true]; omega
theorem facI_nn {grows : Bool} {x : It} (h : FitB x) (hs : stopI grows x = false) : 0 ≤ facI grows x := by
  have hg := h.grow
  have hsh := h.shrink
  have hgu := h.guess
  unfold stopI at hs
  unfold facI at hs ⊢
  cases grows
  · simp only [Bool.false_eq_true, if_false] at hs ⊢
    simp at hs
    exact Int.mul_nonneg hsh.1 (by omega)
  · simp only [if_true]; omega
theorem clamp_off {s : Sty} {c v : Int} (h1 : LnM s.maxw) (h2 : LnM s.minw) (hc : CB c) (h : clampF s c v ≠ v) : 0 ≤ clampF s c v ∧ clampF s c v ≤ 10995116277760 := by
  have b1 := res_bd h1 hc
  have b2 := res_bd h2 hc
  revert h
  unfold clampF
  dsimp only
  cases (resF s.maxw c).2 <;> cases (resF s.minw c).2 <;> simp only [Bool.false_eq_true, if_true, if_false] <;> omega
theorem clamp_up {s : Sty} {c v : Int} (h1 : LnM s.maxw) (h2 : LnM s.minw) (hc : CB c) (h : v ≤ 9223372036854775807) : 0 ≤ clampF s c v ∧ clampF s c v ≤ 9223372036854775807 := by
  have b1 := res_bd h1 hc
  have b2 := res_bd h2 hc
  unfold clampF
  dsimp only
  cases (resF s.maxw c).2 <;> cases (resF s.minw c).2 <;> simp only [Bool.false_eq_true, if_true, if_false] <;> omega
/-- What holds of a row between two rounds. -/
structure RdB (grows : Bool) (M M' : Nat → It) (ks : List Nat) : Prop where
  same : ∀ k ∈ ks, SameI (M k) (M' k)
  fac : ∀ k ∈ ks, (M' k).factor = facI grows (M k)
  un : ∀ k ∈ ks, (M' k).held = false → stopI grows (M k) = false
  wd : (∀ k ∈ ks, (M' k).held = true → 0 ≤ (M' k).width ∧ (M' k).width ≤ 10995116277760) ∨ (∀ k ∈ ks, (M' k).held = true ∧ 0 ≤ (M' k).width ∧ (M' k).width ≤ 9223372036854775807)
theorem RdB.start {grows : Bool} {M : Nat → It} {ks : List Nat} (h : ∀ k ∈ ks, FitB (M k)) : RdB grows M (startM grows M ks) ks := by
  have e : ∀ k ∈ ks, startM grows M ks k = startI grows (M k) := fun k hk => if_pos hk
  refine ⟨fun k _ => start_same grows M ks k, fun k hk => ?_, fun k hk hh => ?_, .inl fun k hk hh => ?_⟩
  · rw [e k hk]; unfold startI; split <;> rfl
  · rw [e k hk] at hh
    unfold startI at hh
    split at hh
    · cases hh
    · rename_i hn
      cases hs : stopI grows (M k)
      · rfl
      · exact absurd hs hn
  · rw [e k hk] at hh ⊢
    have hg := (h k hk).guess
    have hu := (h k hk).held
    unfold startI at hh ⊢
    split at hh
    · rename_i hs
      rw [if_pos hs]; exact hg
    · exact absurd hh (by simp [hu])
theorem sum_abs (l : List Nat) (f : Nat → Int) (b : Int) (h : ∀ k ∈ l, -b ≤ f k ∧ f k ≤ b) : -(b * (l.length : Int)) ≤ (l.map f).sum ∧ (l.map f).sum ≤ b * l.length := by
  induction l with
  | nil => simp
  | cons a t ih =>
    have h1 := h a (by simp)
    have h2 := ih fun k hk => h k (by simp [hk])
    rw [List.map_cons, List.sum_cons, List.length_cons]
    have e : b * ((t.length + 1 : Nat) : Int) = b * t.length + b := by rw [Int.natCast_add, Int.mul_add]; simp
    rw [e]; omega
theorem room_bd {c : Int} {M : Nat → It} {ks : List Nat} (h : ∀ k ∈ ks, FitB (M k)) (hc : CB c) : -(30000000000000 * (ks.length : Int)) ≤ roomM c M ks ∧ roomM c M ks ≤ 1099511627776 + 30000000000000 * ks.length := by
  have h1 := sum_abs ks (fun k => (M k).sides) 30000000000000 fun k hk => (h k hk).sides
  have h2 := hc.b
  unfold roomM sumM; omega
theorem rest_bd {grows : Bool} {room : Int} {M M' : Nat → It} {ks : List Nat} (h : ∀ k ∈ ks, FitB (M k)) (hr : RdB grows M M' ks) (ho : othM M' ks ≠ []) : room - 10995116277760 * ks.length ≤ restM room M' ks ∧ restM room M' ks ≤ room + 10995116277760 * ks.length := by
  have hw : ∀ k ∈ ks, (M' k).held = true → 0 ≤ (M' k).width ∧ (M' k).width ≤ 10995116277760 := by
    rcases hr.wd with h1 | h1
    · exact h1
    · exfalso
      obtain ⟨k, hk⟩ := List.exists_mem_of_ne_nil _ ho
      obtain ⟨h2, h3⟩ := List.mem_filter.1 hk
      rw [(h1 k h2).1] at h3; cases h3
  have h1 := sum_abs ks (fun k => if (M' k).held then (M' k).width else (M' k).base) 10995116277760 fun k hk => by
    have hb := (h k hk).base
    have hs := (hr.same k hk).base
    cases hh : (M' k).held
    · simp only [Bool.false_eq_true, if_false]; omega
    · simp only [if_true]; have := hw k hk hh; omega
  unfold restM sumM
  have e : (ks.map fun k => (fun x : It => if x.held = true then x.width else x.base) (M' k)).sum = (ks.map fun k => if (M' k).held = true then (M' k).width else (M' k).base).sum := rfl
  rw [e]; omega
theorem aim_bd {grows : Bool} {M : Nat → It} {oth : List Nat} {rest : Int} (hr : -4000000000000000000 ≤ rest ∧ rest ≤ 4000000000000000000) (hf : ∀ k ∈ oth, 0 ≤ (M k).factor) (hb : ∀ k ∈ oth, -10995116277760 ≤ (M k).base ∧ (M k).base ≤ 10995116277760) (hle : ∀ k ∈ oth, (M k).factor ≤ sumM M It.factor oth) (k : Nat) (hk : k ∈ oth) :
    -4100000000000000000 ≤ aimF M oth rest grows k ∧ aimF M oth rest grows k ≤ 4100000000000000000 := by
  have hbk := hb k hk
  obtain ⟨amt, hamt⟩ : ∃ amt, amt = if grows then rest else -rest := ⟨_, rfl⟩
  have hab : -4000000000000000000 ≤ amt ∧ amt ≤ 4000000000000000000 := by rw [hamt]; cases grows <;> simp <;> omega
  unfold aimF
  simp only []
  rw [← hamt]
  split
  · omega
  · rename_i hn
    have h0 : 0 < amt ∧ 0 < sumM M It.factor oth := by omega
    have h1 : 0 ≤ partM M amt (sumM M It.factor oth) k := Int.ediv_nonneg (Int.mul_nonneg (by omega) (hf k hk)) (by omega)
    have h2 : partM M amt (sumM M It.factor oth) k ≤ amt := Int.ediv_le_of_le_mul h0.2 (Int.mul_le_mul_of_nonneg_left (hle k hk) (by omega))
    cases grows <;> simp only [Bool.false_eq_true, if_true, if_false] <;> split <;> omega
theorem RdB.round {grows : Bool} {room : Int} {M M' : Nat → It} {ks : List Nat} (h : ∀ k ∈ ks, FitB (M k)) (hr : RdB grows M M' ks) (ho : othM M' ks ≠ []) (ha : ∀ k ∈ othM M' ks, aimF M' (othM M' ks) (restM room M' ks) grows k ≤ 9223372036854775807) : RdB grows M (roundM room grows M' ks) ks := by
  have hw : ∀ k ∈ ks, (M' k).held = true → 0 ≤ (M' k).width ∧ (M' k).width ≤ 10995116277760 := by
    rcases hr.wd with h1 | h1
    · exact h1
    · exfalso
      obtain ⟨k, hk⟩ := List.exists_mem_of_ne_nil _ ho
      obtain ⟨h2, h3⟩ := List.mem_filter.1 hk
      rw [(h1 k h2).1] at h3; cases h3
  obtain ⟨A, hA⟩ : ∃ A, A = aimsM M' (othM M' ks) (restM room M' ks) grows := ⟨_, rfl⟩
  have hAk : ∀ j ∈ othM M' ks, A j = { M' j with aim := aimF M' (othM M' ks) (restM room M' ks) grows j } := fun j hj => by rw [hA]; unfold aimsM; rw [if_pos hj]
  have hrk : ∀ j ∈ othM M' ks, roundM room grows M' ks j = holdI (wayM A (othM M' ks)) (A j) := fun j hj => by unfold roundM holdM; rw [if_pos hj, ← hA]
  have hro : ∀ j, j ∉ othM M' ks → roundM room grows M' ks j = M' j := fun j hj => by unfold roundM holdM aimsM; rw [if_neg hj, if_neg hj]
  have hmem : ∀ k ∈ ks, (M' k).held = false → k ∈ othM M' ks := fun k hk hh => List.mem_filter.2 ⟨hk, by rw [hh]; rfl⟩
  refine ⟨fun k hk => (hr.same k hk).trans (round_same room grows M' ks k), fun k hk => ?_, fun k hk hh => ?_, ?_⟩
  · by_cases hko : k ∈ othM M' ks
    · rw [hrk k hko, ← hr.fac k hk]
      unfold holdI
      split <;> rw [hAk k hko]
    · rw [hro k hko]; exact hr.fac k hk
  · refine hr.un k hk ?_
    cases hx : (M' k).held
    · rfl
    · have := hold_held A (othM M' ks) k (by rw [hA, aims_held]; exact hx)
      have e : roundM room grows M' ks k = holdM A (othM M' ks) k := by unfold roundM; rw [← hA]
      rw [e, this] at hh; cases hh
  · by_cases hz : wayM A (othM M' ks) = 0
    · right
      intro k hk
      by_cases hko : k ∈ othM M' ks
      · rw [hrk k hko, hz]
        unfold holdI
        rw [if_pos (.inl rfl)]
        refine ⟨rfl, ?_⟩
        have hs := hr.same k hk
        show 0 ≤ clW (A k) ∧ clW (A k) ≤ 9223372036854775807
        rw [hAk k hko]
        exact clamp_up (by rw [hs.s]; exact (h k hk).maxw) (by rw [hs.s]; exact (h k hk).minw) (by rw [hs.c]; exact (h k hk).c) (ha k hko)
      · have hh : (M' k).held = true := by
          cases hx : (M' k).held
          · exact absurd (hmem k hk hx) hko
          · rfl
        rw [hro k hko]
        have := hw k hk hh
        exact ⟨hh, by omega, by omega⟩
    · left
      intro k hk hh
      by_cases hko : k ∈ othM M' ks
      · rw [hrk k hko] at hh ⊢
        unfold holdI at hh ⊢
        by_cases hc : wayM A (othM M' ks) = 0 ∨ cmpI (clW (A k)) (A k).aim = wayM A (othM M' ks)
        · rw [if_pos hc]
          have hne : clW (A k) ≠ (A k).aim := fun e => by
            rcases hc with hc | hc
            · exact hz hc
            · rw [e] at hc
              exact hz (by rw [← hc]; unfold cmpI; rw [if_neg (by omega), if_neg (by omega)])
          have hs := hr.same k hk
          show 0 ≤ clW (A k) ∧ clW (A k) ≤ 10995116277760
          unfold clW at hne ⊢
          have es : (A k).s = (M k).s := by rw [hAk k hko]; exact hs.s
          have ec : (A k).c = (M k).c := by rw [hAk k hko]; exact hs.c
          rw [es, ec] at hne ⊢
          exact clamp_off (h k hk).maxw (h k hk).minw (h k hk).c hne
        · rw [if_neg hc] at hh
          rw [hAk k hko] at hh
          have := (List.mem_filter.1 hko).2
          rw [show (M' k).held = true from hh] at this; cases this
      · rw [hro k hko] at hh ⊢; exact hw k hk hh
end Go.Proofs.Ytbopeofglhkffaa
