/- FlowClear: its tower, plain; flow.Block on it. -/
import Derived.Test.YtlebbkhhhmempaaLtk
import Derived.Test.YtlebbkhhhmempaaTxd
set_option linter.unusedSimpArgs false
set_option linter.unusedVariables false
namespace Go.Proofs.Ytlebbkhhhmempaa
open Go.RowKit
abbrev N3 := Nat × Nat × Nat
def r3b (r : N3) : List Value := [.int .u8 r.1, .int .u8 r.2.1, .int .u8 r.2.2]
def U8r (r : N3) : Prop := r.1 < 256 ∧ r.2.1 < 256 ∧ r.2.2 < 256
def fcR (r : N3) : Int × Int × Int := ((r.1 : Int) + 1, (r.2.1 : Int) % 32, 0)
def rP (r : N3) : Rw := ⟨(r.1 : Int) + 1, (r.2.1 : Int) % 32, 0, 0, 0⟩
def rF (r : N3) : Rw := ⟨(r.1 : Int) + 1, (r.2.1 : Int) % 32, 0, (r.2.2 : Int) % 3, 0⟩
def uFc (r : N3) : Ud := if r.2.2 % 3 = 0 then ⟨100, 0, 0⟩ else ⟨(r.2.2 : Int) / 3, 0, 0⟩
def hFc (r : N3) : Int := if r.2.2 % 3 = 0 then 0 else (r.1 : Int) + 1
def rsJ (l : List N3) (j : Nat) : List Rw := (l.take j).map rF ++ ((l.drop j).map rP ++ [⟨7, 5, 0, 0, 0⟩])
def usJ (l : List N3) (j : Nat) : List Ud := ⟨100, 0, 0⟩ :: ((l.take j).map uFc ++ List.replicate (l.length - j + 1) ⟨100, 0, 0⟩)
def hsJ (l : List N3) (j : Nat) : List Int := 0 :: ((l.take j).map hFc ++ List.replicate (l.length - j + 1) 0)
theorem flat_put {α : Type} (f : α → List Value) (n : Nat) (hf : ∀ x, (f x).length = n) (P S : List α) (x y : α) (i : Nat) (v : Value) (hy : f y = (f x).set i v) (hi : i < n) : (P ++ y :: S).flatMap f = ((P ++ x :: S).flatMap f).set (P.length * n + i) v := by
  have hl : (P.flatMap f).length = P.length * n := flat_len f n hf P
  rw [List.flatMap_append, List.flatMap_append, List.flatMap_cons, List.flatMap_cons, List.set_append_right _ _ (by omega), hl, Nat.add_sub_cancel_left, List.set_append_left _ _ (by rw [hf]; exact hi), hy]
theorem map_put (P S : List Int) (x y : Int) : (P ++ y :: S).map (Value.int .i64) = ((P ++ x :: S).map (Value.int .i64)).set P.length (.int .i64 y) := by
  rw [List.map_append, List.map_append, List.set_append_right _ _ (by rw [List.length_map]; exact Nat.le_refl _), List.length_map, Nat.sub_self]; rfl
theorem tk (l : List N3) (j : Nat) (h : j < l.length) : l.take (j + 1) = l.take j ++ [l[j]] := by
  rw [List.take_add_one, List.getElem?_eq_getElem h]; rfl
theorem rsJ_split (l : List N3) (j : Nat) (h : j < l.length) : rsJ l j = (l.take j).map rF ++ rP l[j] :: ((l.drop (j + 1)).map rP ++ [⟨7, 5, 0, 0, 0⟩]) := by
  unfold rsJ
  rw [List.drop_eq_getElem_cons h]; rfl
theorem rsJ_split' (l : List N3) (j : Nat) (h : j < l.length) : rsJ l (j + 1) = (l.take j).map rF ++ rF l[j] :: ((l.drop (j + 1)).map rP ++ [⟨7, 5, 0, 0, 0⟩]) := by
  unfold rsJ
  rw [tk l j h, List.map_append, List.append_assoc]; rfl
theorem nds_step (l : List N3) (j : Nat) (h : j < l.length) : ndsCells (twL 0 0 (rsJ l (j + 1))) = (ndsCells (twL 0 0 (rsJ l j))).set ((j + 1) * 44 + 3) (.int .u8 (((l[j]).2.2 : Int) % 3)) := by
  have e : ∀ (P : List Rw) (x : Rw) (S : List Rw), twL 0 0 (P ++ x :: S) = ((⟨-1, rootS 0 0⟩ :: P.map fun r => (⟨0, twS r⟩ : Nd)) : List Nd) ++ (⟨0, twS x⟩ : Nd) :: S.map fun r => (⟨0, twS r⟩ : Nd) := fun P x S => by unfold twL; simp
  rw [rsJ_split l j h, rsJ_split' l j h, e, e]
  unfold ndsCells
  have hq := flat_put ndCells 44 (fun _ => rfl) ((⟨-1, rootS 0 0⟩ :: ((l.take j).map rF).map fun r => ⟨0, twS r⟩) : List Nd) (((l.drop (j + 1)).map rP ++ [(⟨7, 5, 0, 0, 0⟩ : Rw)]).map fun r => (⟨0, twS r⟩ : Nd)) ⟨0, twS (rP l[j])⟩ ⟨0, twS (rF l[j])⟩ 3 (.int .u8 (((l[j]).2.2 : Int) % 3)) rfl (by omega)
  have hl : (((⟨-1, rootS 0 0⟩ :: ((l.take j).map rF).map fun r => ⟨0, twS r⟩) : List Nd)).length = j + 1 := by simp; omega
  rw [hl] at hq
  exact hq
theorem uds_step (l : List N3) (j : Nat) (h : j < l.length) : udsCells (usJ l (j + 1)) = if (l[j]).2.2 % 3 = 0 then udsCells (usJ l j) else (udsCells (usJ l j)).set ((j + 1) * 3) (.int .i64 (((l[j]).2.2 : Int) / 3)) := by
  have e1 : usJ l j = ((⟨100, 0, 0⟩ :: (l.take j).map uFc) : List Ud) ++ ⟨100, 0, 0⟩ :: List.replicate (l.length - (j + 1) + 1) ⟨100, 0, 0⟩ := by
    unfold usJ
    rw [show l.length - j + 1 = (l.length - (j + 1) + 1) + 1 by omega, List.replicate_succ]; simp
  have e2 : usJ l (j + 1) = ((⟨100, 0, 0⟩ :: (l.take j).map uFc) : List Ud) ++ uFc l[j] :: List.replicate (l.length - (j + 1) + 1) ⟨100, 0, 0⟩ := by
    unfold usJ
    rw [tk l j h, List.map_append, List.append_assoc]; rfl
  have hl : (((⟨100, 0, 0⟩ :: (l.take j).map uFc) : List Ud)).length = j + 1 := by simp; omega
  rw [e1, e2]
  unfold udsCells
  split
  · rename_i h0
    have : uFc l[j] = ⟨100, 0, 0⟩ := by unfold uFc; rw [if_pos h0]
    rw [this]
  · rename_i h0
    have hq := flat_put udCells 3 (fun _ => rfl) ((⟨100, 0, 0⟩ :: (l.take j).map uFc) : List Ud) (List.replicate (l.length - (j + 1) + 1) ⟨100, 0, 0⟩) ⟨100, 0, 0⟩ (uFc l[j]) 0 (.int .i64 (((l[j]).2.2 : Int) / 3)) (by unfold uFc; rw [if_neg h0]; rfl) (by omega)
    rw [hl, Nat.add_zero] at hq
    exact hq
theorem hs_step (l : List N3) (j : Nat) (h : j < l.length) : (hsJ l (j + 1)).map (Value.int .i64) = if (l[j]).2.2 % 3 = 0 then (hsJ l j).map (Value.int .i64) else ((hsJ l j).map (Value.int .i64)).set (j + 1) (.int .i64 (((l[j]).1 : Int) + 1)) := by
  have e1 : hsJ l j = ((0 :: (l.take j).map hFc) : List Int) ++ 0 :: List.replicate (l.length - (j + 1) + 1) 0 := by
    unfold hsJ
    rw [show l.length - j + 1 = (l.length - (j + 1) + 1) + 1 by omega, List.replicate_succ]; simp
  have e2 : hsJ l (j + 1) = ((0 :: (l.take j).map hFc) : List Int) ++ hFc l[j] :: List.replicate (l.length - (j + 1) + 1) 0 := by
    unfold hsJ
    rw [tk l j h, List.map_append, List.append_assoc]; rfl
  have hl : (((0 :: (l.take j).map hFc) : List Int)).length = j + 1 := by simp; omega
  rw [e1, e2]
  split
  · rename_i h0
    have : hFc l[j] = 0 := by unfold hFc; rw [if_pos h0]
    rw [this]
  · rename_i h0
    have hh : hFc l[j] = ((l[j]).1 : Int) + 1 := by unfold hFc; rw [if_neg h0]
    rw [hh]
    have hq := map_put (0 :: (l.take j).map hFc) (List.replicate (l.length - (j + 1) + 1) 0) 0 (((l[j]).1 : Int) + 1)
    rw [hl] at hq
    exact hq
def rsC (l : List N3) (side : Nat) : List Rw := l.map rF ++ [⟨7, 5, 0, 0, (side : Int)⟩]
theorem nds_last (l : List N3) (side : Nat) : ndsCells (twL 0 0 (rsC l side)) = (ndsCells (twL 0 0 (rsJ l l.length))).set ((l.length + 1) * 44 + 4) (.int .u8 (side : Int)) := by
  have e0 : rsJ l l.length = l.map rF ++ [⟨7, 5, 0, 0, 0⟩] := by unfold rsJ; simp
  have e : ∀ (P : List Rw) (x : Rw), twL 0 0 (P ++ [x]) = ((⟨-1, rootS 0 0⟩ :: P.map fun r => ⟨0, twS r⟩) : List Nd) ++ [(⟨0, twS x⟩ : Nd)] := fun P x => by unfold twL; simp
  unfold rsC
  rw [e0, e, e]
  unfold ndsCells
  have hq := flat_put ndCells 44 (fun _ => rfl) ((⟨-1, rootS 0 0⟩ :: (l.map rF).map fun r => ⟨0, twS r⟩) : List Nd) [] ⟨0, twS ⟨7, 5, 0, 0, 0⟩⟩ ⟨0, twS ⟨7, 5, 0, 0, (side : Int)⟩⟩ 4 (.int .u8 (side : Int)) rfl (by omega)
  have hl : (((⟨-1, rootS 0 0⟩ :: (l.map rF).map fun r => ⟨0, twS r⟩) : List Nd)).length = l.length + 1 := by simp
  rw [hl] at hq
  exact hq
theorem rsJ_len (l : List N3) (j : Nat) (h : j ≤ l.length) : (rsJ l j).length = l.length + 1 := by unfold rsJ; simp; omega
theorem usJ_len (l : List N3) (j : Nat) (h : j ≤ l.length) : (usJ l j).length = l.length + 2 := by unfold usJ; simp; omega
theorem hsJ_len (l : List N3) (j : Nat) (h : j ≤ l.length) : (hsJ l j).length = l.length + 2 := by unfold hsJ; simp; omega
theorem rs0 (l : List N3) : (l.map fcR ++ [((7, 5, 0) : Int × Int × Int)]).map rwOf = rsJ l 0 := by
  unfold rsJ
  simp only [List.take_zero, List.map_nil, List.nil_append, List.drop_zero, List.map_append, List.map_map, List.map_cons]
  rfl
theorem us0 (l : List N3) : usJ l 0 = wkU (l.length + 2) := by
  unfold usJ wkU
  simp only [List.take_zero, List.map_nil, List.nil_append, Nat.sub_zero]
  rw [← List.replicate_succ]
theorem hs0 (l : List N3) : hsJ l 0 = List.replicate (l.length + 2) 0 := by
  unfold hsJ
  simp only [List.take_zero, List.map_nil, List.nil_append, Nat.sub_zero]
  rw [← List.replicate_succ]
structure FcO (l : List N3) (side : Nat) (fs : Nat → Fr) (bs : List Int) (C E : Int) : Prop where
  len : bs.length = l.length
  fr : ∀ j (h : j < l.length), bs[j]? = some ((fs j).y + (fs j).h) ∧ ((l[j]).2.2 % 3 = 0 → (fs j).y + (fs j).h = (((l.map rF).take (j + 1)).foldl endR 0)) ∧ ((l[j]).2.2 % 3 ≠ 0 → ((l.map rF).take (j + 1)).foldl endR 0 = ((l.map rF).take j).foldl endR 0 ∧ (side = 3 ∨ side = (l[j]).2.2 % 3 → (fs j).y + (fs j).h ≤ C))
  bd : ∀ j, (-60000 ≤ (fs j).y ∧ (fs j).y ≤ 60000) ∧ (-60000 ≤ (fs j).h ∧ (fs j).h ≤ 60000)
  last : (fs l.length).y = C ∧ (fs l.length).h = 7
  c : E + 5 ≤ C ∧ C ≤ 60000 ∧ (side = 0 → C = E + 5)
  e : 0 ≤ E ∧ E ≤ 60000 ∧ E = (l.map rF).foldl endR 0
set_option maxRecDepth 100000 in
theorem fc_any (l : List N3) (side : Nat) (hl : ∀ r ∈ l, U8r r) (hn : l.length ≤ 40) (hs : side < 4) : ∃ fs bs C E, FcO l side fs bs C E ∧ ∀ (A uA hA : Option Addr) (c uc hc : Nat) (w : World), Reads w w.heap.size 44 A (l.length + 2) (ndsCells (twL 0 0 (rsC l side))) → Reads w w.heap.size 3 uA (l.length + 2) (udsCells (usJ l l.length)) → Reads w w.heap.size 1 hA (l.length + 2) ((hsJ l l.length).map (Value.int .i64)) →
    Calls Try.prog 20 #[.agg #[.slice A (l.length + 2) c, .slice none 0 0, .int .i64 100], .int .i64 0, .slice uA (l.length + 2) uc, .slice hA (l.length + 2) hc] w fun e w' => ∃ Ab cb gF gB, e = .returned (.agg #[.slice Ab (l.length + 1) cb, .slice (some ⟨gF, 0, none⟩) (l.length + 1) (l.length + 1), .slice (some ⟨gB, 0, none⟩) (l.length + 1) (l.length + 1), .int .i64 (bs.foldl max (C + 7)), .slice none 0 0, .bool false]) ∧
      Blk w' gF 58 (frsCells ((List.range (l.length + 1)).map fs)).toArray ∧ Below w.heap.size w w' := by
  have hus : ∀ j (h : j < l.length), usF (usJ l l.length) (j + 1) = uFc l[j] := fun j h => by
    unfold usF usJ
    rw [List.getElem?_cons_succ, List.getElem?_append_left (by simp; omega), List.take_length, List.getElem?_map, List.getElem?_eq_getElem h]; rfl
  have hhs : ∀ j (h : j < l.length), hiF (hsJ l l.length) (j + 1) = hFc l[j] := fun j h => by
    unfold hiF hsJ
    rw [List.getElem?_cons_succ, List.getElem?_append_left (by simp; omega), List.take_length, List.getElem?_map, List.getElem?_eq_getElem h]; rfl
  have hul : usF (usJ l l.length) (l.length + 1) = ⟨100, 0, 0⟩ := by
    unfold usF usJ
    rw [List.getElem?_cons_succ, List.getElem?_append_right (by simp)]
    simp
  have hat : ∀ j r, (l.map rF)[j]? = some r → ∃ h : j < l.length, r = rF l[j] := fun j r h => by
    rw [List.getElem?_map] at h
    cases hx : l[j]? with
    | none => rw [hx] at h; cases h
    | some x =>
      rw [hx] at h
      obtain ⟨h1, h2⟩ := List.getElem?_eq_some_iff.1 hx
      exact ⟨h1, by rw [h2]; injection h with h; exact h.symm⟩
  have hok : ∀ j (h : j < l.length), RcOk (rF l[j]) := fun j h => by
    have := hl _ (List.getElem_mem h)
    obtain ⟨h1, h2, h3⟩ := this
    exact ⟨by unfold rF; dsimp only; omega, by unfold rF; dsimp only; omega, rfl⟩
  obtain ⟨k, bs, C, hk, hO⟩ := clear_tow (l.map rF) (side : Int) (usJ l l.length) (hsJ l l.length) (by rw [List.length_map]; omega) (fun j r h => by
    obtain ⟨hj, rfl⟩ := hat j r h
    refine ⟨hok j hj, rfl, ?_⟩
    rw [hus j hj, hhs j hj]
    by_cases h0 : (l[j]).2.2 % 3 = 0
    · refine .inl ⟨by unfold rF; dsimp only; omega, ?_⟩
      unfold uFc; rw [if_pos h0]
    · refine .inr ⟨by unfold rF; dsimp only; omega, ⟨((l[j]).2.2 : Int) / 3, by unfold uFc; rw [if_neg h0], by omega, ?_⟩, by unfold hFc rF; rw [if_neg h0]⟩
      have := (hl _ (List.getElem_mem hj)).2.2
      omega) rfl (by rw [List.length_map, hul])
  rw [List.length_map] at hk
  have hrc : l.map rF ++ [(⟨7, 5, 0, 0, (side : Int)⟩ : Rw)] = rsC l side := rfl
  rw [hrc] at hk hO
  have hrl : (rsC l side).length = l.length + 1 := by unfold rsC; simp
  refine ⟨fun i => frF (twL 0 0 (rsC l side)) (usJ l l.length) k (i + 1), bs, C, (l.map rF).foldl endR 0, ?_, ?_⟩
  · have hlast := hO.last
    rw [List.length_map] at hlast
    refine ⟨by have := hO.len; rwa [List.length_map] at this, fun j h => ?_, fun j => ⟨(hO.bd (j + 1)).2.1, (hO.bd (j + 1)).2.2⟩, hlast, ⟨hO.c.1, hO.c.2.1, fun h => hO.c.2.2 (by omega)⟩, hO.e.1, hO.e.2, rfl⟩
    have hj : (l.map rF)[j]? = some (rF l[j]) := by rw [List.getElem?_map, List.getElem?_eq_getElem h]; rfl
    obtain ⟨h1, h2, h3⟩ := hO.fr j _ hj
    refine ⟨h1, fun h0 => h2 (by unfold rF; dsimp only; omega), fun h0 => ⟨?_, fun hs => h3 (by unfold rF; dsimp only; omega) (by unfold rF; dsimp only; omega)⟩⟩
    rw [List.take_add_one, hj, List.foldl_append]
    show endR _ (rF l[j]) = _
    unfold endR
    rw [if_neg (by unfold rF; dsimp only; omega)]
  · intro A uA hA c uc hc w h1 h2 h3
    have hu : ∀ u ∈ usJ l l.length, inL u.w = true ∧ inL u.left = true ∧ inL u.right = true ∧ in40 u.w = true := by
      intro u hu
      have hw : (0 ≤ u.w ∧ u.w ≤ 100) ∧ u.left = 0 ∧ u.right = 0 := by
        unfold usJ at hu
        rcases List.mem_cons.1 hu with rfl | hu
        · decide
        · rcases List.mem_append.1 hu with hu | hu
          · obtain ⟨r, hr, rfl⟩ := List.mem_map.1 hu
            have := (hl r (List.mem_of_mem_take hr)).2.2
            unfold uFc
            split
            · decide
            · dsimp only; omega
          · have := List.eq_of_mem_replicate hu
            subst this; decide
      exact ⟨inL_far (by omega), inL_far (by omega), inL_far (by omega), in40_of (by omega)⟩
    have ht : TrB (twL 0 0 (rsC l side)) (usJ l l.length) (hsJ l l.length) (l.length + 1) (l.length + 3) := by
      have := tw_trb 0 0 (rsC l side) (usJ l l.length) (hsJ l l.length) (by decide) (by decide) (by omega) (by
        intro r hr
        unfold rsC at hr
        rcases List.mem_append.1 hr with hr | hr
        · obtain ⟨x, hx, rfl⟩ := List.mem_map.1 hr
          obtain ⟨j, hj, rfl⟩ := List.getElem_of_mem hx
          exact ⟨(hok j hj).ok, by unfold rF; dsimp only; omega, .inl rfl⟩
        · rw [List.mem_singleton.1 hr]
          exact ⟨⟨by dsimp only; omega, by dsimp only; omega, by dsimp only; omega⟩, .inl rfl, by dsimp only; omega⟩) (by rw [usJ_len l _ (Nat.le_refl _), hrl]) (by rw [hsJ_len l _ (Nat.le_refl _)]; omega) (fun u h => ⟨(hu u h).1, (hu u h).2.1, (hu u h).2.2.1⟩)
      rw [hrl] at this
      exact this
    have hH : highF (rootS 0 0) (lowF k) + (roofF (rootS 0 0) + floorF (rootS 0 0)) = bs.foldl max (C + 7) := by
      rw [root_high, root_frame, hO.low]
      have : C + 7 ≤ bs.foldl max (C + 7) := by
        have g : ∀ (b : List Int) (a : Int), a ≤ b.foldl max a := by
          intro b
          induction b with
          | nil => intro a; exact Int.le_refl _
          | cons x b ih => intro a; have := ih (max a x); rw [List.foldl_cons]; omega
        exact g bs _
      have := hO.c.1
      have := hO.e.1
      omega
    have hHb : bs.foldl max (C + 7) ≤ 200000 := by
      have g : ∀ (b : List Int) (a : Int), a ≤ 200000 → (∀ x ∈ b, x ≤ 200000) → b.foldl max a ≤ 200000 := by
        intro b
        induction b with
        | nil => intro a h _; exact h
        | cons x b ih => intro a h hx; exact ih (max a x) (by have := hx x List.mem_cons_self; omega) (fun y hy => hx y (List.mem_cons_of_mem _ hy))
      refine g bs _ (by have := hO.c.2.1; omega) (fun x hx => ?_)
      obtain ⟨j, hj, rfl⟩ := List.getElem_of_mem hx
      have hjl : j < l.length := by have := hO.len; rw [List.length_map] at this; omega
      have := (hO.fr j _ (by rw [List.getElem?_map, List.getElem?_eq_getElem hjl]; rfl)).1
      rw [List.getElem?_eq_getElem hj] at this
      injection this with this
      have := hO.bd (j + 1)
      omega
    have hHg : 0 ≤ bs.foldl max (C + 7) := by
      rw [← hH, root_high, root_frame]; omega
    have h := block_any w (twL 0 0 (rsC l side)) (usJ l l.length) (hsJ l l.length) A none uA hA c 0 0 uc hc 100 (l.length + 1) (l.length + 3) 2 ht (by rw [twL_len, hrl]; exact h1) (by rw [usJ_len l _ (Nat.le_refl _)]; exact h2) (by rw [hsJ_len l _ (Nat.le_refl _)]; exact h3) (rootS 0 0) rfl k (by
        have e : roofF (rootS 0 0) = 0 := rfl
        rw [e]; exact hk)
      (fun i h0 hi => by
        have b := hO.bd i
        unfold frB
        have hw : in40 (frF (twL 0 0 (rsC l side)) (usJ l l.length) k i).w = true := by
          show in40 (usF (usJ l l.length) i).w = true
          unfold usF
          by_cases h : i < (usJ l l.length).length
          · rw [List.getElem?_eq_getElem h]; exact (hu _ (List.getElem_mem h)).2.2.2
          · rw [List.getElem?_eq_none (by omega)]; decide
        rw [hw, in40_of (by omega), in40_of (by omega), in40_of (by omega)]; rfl)
      (by rw [hH]; exact in40_of (by omega))
    rw [twL_len, hrl, usJ_len l _ (Nat.le_refl _), hsJ_len l _ (Nat.le_refl _), hH] at h
    have hr : (List.range' 1 (l.length + 1)).map (frF (twL 0 0 (rsC l side)) (usJ l l.length) k) = (List.range (l.length + 1)).map fun i => frF (twL 0 0 (rsC l side)) (usJ l l.length) k (i + 1) := by
      apply List.ext_getElem
      · simp
      · intro i h1 h2
        rw [List.getElem_map, List.getElem_map, List.getElem_range', List.getElem_range, show 1 + 1 * i = i + 1 by omega]
    rw [hr] at h
    exact h
end Go.Proofs.Ytlebbkhhhmempaa
