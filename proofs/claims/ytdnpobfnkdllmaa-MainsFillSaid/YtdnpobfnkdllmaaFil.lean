/- What MainsFill asks of rows and widths: plain. -/
import Derived.Test.YtdnpobfnkdllmaaMu
import Derived.Test.YtdnpobfnkdllmaaWm
import Derived.Test.YtdnpobfnkdllmaaRit
/- Rows that are read; the cells of a case. -/
set_option linter.unusedSimpArgs false
set_option linter.unusedVariables false
namespace Go.Proofs.Ytdnpobfnkdllmaa
open Go.RowKit

/-- Rows that are read. -/
structure RowsX (w : World) (B : Nat) (A : Option Addr) (rows : List (List Nat)) : Prop where
  at_ : ∀ r, r < rows.length → ∃ g Ar cr, A = some ⟨g, 0, none⟩ ∧ g < B ∧ w.cell? ⟨g, r, none⟩ = some (.slice Ar (rowAt rows r).length cr) ∧ Reads w B 1 Ar (rowAt rows r).length (nCells (rowAt rows r))
theorem RowsAt.x {w : World} {lo B n c : Nat} {A : Option Addr} {rows : List (List Nat)} (h : RowsAt w lo B (.slice A n c) rows) : RowsX w B A rows := by
  obtain ⟨A', c', e, _, hx⟩ := h.ex
  injection e with e1 e2 e3
  subst e1
  refine ⟨fun r hr => ?_⟩
  obtain ⟨g, hA, _, hB, hp⟩ := hx (by omega)
  obtain ⟨Ar, cr, h1, _, h2, _⟩ := hp r hr
  exact ⟨g, Ar, cr, hA, hB, h1, h2⟩
theorem RowsX.below {w w' : World} {B : Nat} {A : Option Addr} {rows : List (List Nat)} (h : RowsX w B A rows) (hb : Below B w w') : RowsX w' B A rows := ⟨fun r hr => by
  obtain ⟨g, Ar, cr, h1, h2, h3, h4⟩ := h.at_ r hr
  exact ⟨g, Ar, cr, h1, h2, (hb.cell (p := ⟨g, r, none⟩) h2).trans h3, h4.below hb⟩⟩
theorem rows_count {rows : List (List Nat)} (h : ∀ r ∈ rows, r ≠ []) : rows.length ≤ rows.flatten.length := by
  induction rows with
  | nil => simp
  | cons a t ih =>
    have h1 := ih fun r hr => h r (by simp [hr])
    have h3 := List.length_pos_iff.2 (h a (by simp))
    rw [List.flatten_cons, List.length_append, List.length_cons]; omega
theorem rowAt_len (rows : List (List Nat)) (r : Nat) : (rowAt rows r).length ≤ rows.flatten.length := by
  unfold rowAt
  rcases Nat.lt_or_ge r rows.length with h | h
  · rw [List.getElem?_eq_getElem h]; exact row_len h
  · rw [List.getElem?_eq_none h]; simp
end Go.Proofs.Ytdnpobfnkdllmaa
/- What MainsWrap asks of rows: plain. -/
set_option linter.unusedSimpArgs false
set_option linter.unusedVariables false
namespace Go.Proofs.Ytdnpobfnkdllmaa
open Go.RowKit
attribute [local go_sem] block_of_add

theorem risC_at (M : Nat → It) : ∀ (n k j : Nat), k < n → j < 51 → (risC M n)[k * 51 + j]? = (riC (M k))[j]?
  | 0, k, j, h, _ => by omega
  | n + 1, k, j, h, hj => by
    have hl : ∀ n, (risC M n).length = n * 51 := fun n => by
      induction n with
      | zero => rfl
      | succ n ih => rw [risC_succ, List.length_append, ih]; show n * 51 + 51 = _; omega
    rw [risC_succ]
    by_cases e : k = n
    · subst e; rw [List.getElem?_append_right (by rw [hl]; omega), hl, show k * 51 + j - k * 51 = j by omega]
    · rw [List.getElem?_append_left (by rw [hl]; omega)]; exact risC_at M n k j (by omega) hj
/-- The sides and the guess of an item in a row of the document's. -/
theorem Reads.ri {W : World} {B n k : Nat} {A : Option Addr} {M : Nat → It} (h : Reads W B 51 A n (risC M n)) (hk : k < n) :
    ∃ ad : Addr, A = some ad ∧ W.cell? ⟨ad.block, (ad.add (k * 51)).off + 45, none⟩ = some (.int .i64 (M k).sides) ∧ W.cell? ⟨ad.block, (ad.add (k * 51)).off + 47, none⟩ = some (.int .i64 (M k).guess) := by
  obtain ⟨ad, e, hb, hc⟩ := h.2 (by omega)
  have key : ∀ i u, i + 1 < 51 → (riC (M k))[i + 1]? = some u → W.cell? ⟨ad.block, (ad.add (k * 51)).off + (i + 1), none⟩ = some u := fun i u hi hu => by
    have ha : (⟨ad.block, (ad.add (k * 51)).off + (i + 1), none⟩ : Addr) = ad.add (k * 51 + (i + 1)) := by
      rw [← add_of_add, show ∀ p : Addr, p.add (i + 1) = ⟨p.block, p.off + (i + 1), none⟩ from fun p => by unfold Addr.add; rw [if_neg (by omega)], block_of_add]
    rw [ha]
    exact hc _ u (by rw [risC_at M n k (i + 1) hk hi]; exact hu)
  exact ⟨ad, e, key 44 _ (by omega) rfl, key 46 _ (by omega) rfl⟩
structure WrapF (n : Nat) (c : Int) (own : Nat → Int) (R : List (List Nat)) : Prop where
  cnt : R.length ≤ n
  rl : ∀ r, (rowAt R r).length ≤ n
  mem : ∀ r (i : Nat) (h : i < (rowAt R r).length), (rowAt R r)[i] < n
  room : ∀ r, r < R.length → ∀ i, 0 < i → i < (rowAt R r).length → (((rowAt R r).take (i + 1)).map own).sum ≤ c
  wraps : ∀ r, 0 < r → r < R.length → ∀ h : 0 < (rowAt R r).length, c < ((rowAt R (r - 1)).map own).sum + own (rowAt R r)[0]
theorem rowAt_eq {R : List (List Nat)} {r : Nat} (h : r < R.length) : rowAt R r = R[r] := by unfold rowAt; rw [List.getElem?_eq_getElem h]; rfl
theorem wrap_ans (c : Int) (own : Nat → Int) (o : Nat → Int) (n : Nat) : WrapF n c own (rowsF true c own (orderF o n)) := by
  have hr := rows_all true c own (orderF o n)
  obtain ⟨R, hR⟩ : ∃ R, R = rowsF true c own (orderF o n) := ⟨_, rfl⟩
  have e : ((orderF o n).foldl (rowStep true c own) ([], 0)).1 = R := hR.symm
  have hf : R.flatten = orderF o n := by rw [← e]; exact hr.flat
  have hfl : R.flatten.length = n := by rw [hf, orderF_len]
  have hne : ∀ r ∈ R, r ≠ [] := by rw [← e]; exact hr.ne
  rw [← hR]
  refine ⟨by rw [← hfl]; exact rows_count hne, fun r => by rw [← hfl]; exact rowAt_len _ _, fun r i h => ?_, fun r h i h0 hi => ?_, fun r h0 h hl => ?_⟩
  · have hrl : r < R.length := by
      rcases Nat.lt_or_ge r R.length with h2 | h2
      · exact h2
      · exfalso
        have : rowAt R r = [] := by unfold rowAt; rw [List.getElem?_eq_none h2]; rfl
        rw [this] at h; simp at h
    have hm : (rowAt R r)[i] ∈ R.flatten := List.mem_flatten.2 ⟨R[r], List.getElem_mem hrl, by rw [← rowAt_eq hrl]; exact List.getElem_mem h⟩
    rw [hf] at hm
    exact (orderF_mem _ _ _).1 hm
  · rw [rowAt_eq h] at hi ⊢
    exact hr.room rfl R[r] (by rw [e]; exact List.getElem_mem h) i h0 hi
  · have h1 : R[r - 1]? = some (rowAt R (r - 1)) := by rw [rowAt_eq (show r - 1 < R.length by omega)]; exact List.getElem?_eq_getElem (by omega)
    have h2 : R[r - 1 + 1]? = some (rowAt R r) := by rw [show r - 1 + 1 = r by omega, rowAt_eq h]; exact List.getElem?_eq_getElem h
    obtain ⟨k, t, hs, hc⟩ := hr.wraps rfl (r - 1) (rowAt R (r - 1)) (rowAt R r) (by rw [e]; exact h1) (by rw [e]; exact h2)
    have : (rowAt R r)[0] = k := by simp [hs]
    rw [this]; exact hc
end Go.Proofs.Ytdnpobfnkdllmaa
set_option linter.unusedSimpArgs false
set_option linter.unusedVariables false
namespace Go.Proofs.Ytdnpobfnkdllmaa
open Go.RowKit

theorem yieldsIf_load_at {P : Program} {ops : Array Oper} {S : World → Prop} {op : Oper} {a : Act} (hw : Region.wanted op (yielded ops a.tmps) = true) (ty : TypeId) (x : Operand) (ho : op.op = .load ty x) (p : Addr) (hx : a.eval x = .pointer (some p)) (cs : List Value) (d : TypeDesc)
    (hS : ∀ w, S w → ∀ j v, cs[j]? = some v → w.cell? (p.add j) = some v) (hu : P.underlying ty = some d) (hd : d.isRow = true) (hi : (P.info? ty).map (·.size) = some cs.length) : YieldsIf P ops S op (.agg cs.toArray) a :=
  .inl ⟨hw, fun w hw' => by
    unfold execOp
    simp only [ho, hx, Sem.run_bind, run_load_at w p ty cs d (hS w hw') hu hd hi, Result.andThen_ok, Sem.run_pure]⟩
/-- The item before, -1 where there is none. -/
def lastE (F : List Nat) (p : Nat) : Int := if p = 0 then -1 else ((F[p - 1]?.getD 0 : Nat) : Int)
theorem lastE_zero (F : List Nat) : lastE F 0 = -1 := rfl
theorem lastE_succ {F : List Nat} {p k : Nat} (h : F[p]? = some k) : lastE F (p + 1) = (k : Int) := by unfold lastE; rw [if_neg (by omega), Nat.add_sub_cancel, h]; rfl
theorem cutF_bd2 (x : Int) : -1099511627776 ≤ cutF x ∧ cutF x ≤ 1099511627776 := by unfold cutF; split <;> (try split) <;> omega
/-- The base of an item in a row of the document's. -/
theorem Reads.rib {W : World} {B n k : Nat} {ad : Addr} {M : Nat → It} (h : Reads W B 51 (some ad) n (risC M n)) (hk : k < n) : W.cell? ⟨ad.block, (ad.add (k * 51)).off + 46, none⟩ = some (.int .i64 (M k).base) := by
  obtain ⟨ad2, e, hb, hc⟩ := h.2 (by omega)
  injection e with e
  subst e
  have ha : (⟨ad.block, (ad.add (k * 51)).off + 46, none⟩ : Addr) = ad.add (k * 51 + 46) := by
    rw [← add_of_add, show ∀ p : Addr, p.add 46 = ⟨p.block, p.off + 46, none⟩ from fun p => by unfold Addr.add; rw [if_neg (by omega)], block_of_add]
  rw [ha]
  exact hc _ _ (by rw [risC_at M n k 46 hk (by omega)]; rfl)
theorem betw_b (x : Sty) (c t : Int) (h : (decide (max (resF x.minw c).1 0 < t) && (!(resF x.maxw c).2 || decide (t < (resF x.maxw c).1))) = true) : betwF x c t := by
  simp only [Bool.and_eq_true, decide_eq_true_eq, Bool.or_eq_true, Bool.not_eq_true'] at h
  refine ⟨h.1, fun h2 => ?_⟩
  rcases h.2 with h3 | h3
  · rw [h2] at h3; cases h3
  · exact h3
/-- The place of a row's first item among all. -/
def posR (R : List (List Nat)) (r : Nat) : Nat := (R.take r).flatten.length
theorem posR_zero (R : List (List Nat)) : posR R 0 = 0 := rfl
theorem posR_succ {R : List (List Nat)} {r : Nat} (h : r < R.length) : posR R (r + 1) = posR R r + (rowAt R r).length := by
  unfold posR; rw [List.take_succ_eq_append_getElem h, rowAt_eq h, List.flatten_append, List.length_append, List.flatten_cons, List.flatten_nil, List.append_nil]
theorem posR_all (R : List (List Nat)) : posR R R.length = R.flatten.length := by unfold posR; rw [List.take_length]
theorem flat_at {R : List (List Nat)} {r i : Nat} (hr : r < R.length) (h : i < (rowAt R r).length) : R.flatten[posR R r + i]? = some (rowAt R r)[i] := by
  have e : R = R.take r ++ R[r] :: R.drop (r + 1) := by rw [← List.drop_eq_getElem_cons hr, List.take_append_drop]
  have e2 : R.flatten = (R.take r).flatten ++ (rowAt R r ++ (R.drop (r + 1)).flatten) := by rw [rowAt_eq hr, ← List.flatten_cons, ← List.flatten_append, ← e]
  rw [e2, List.getElem?_append_right (by unfold posR; omega), show posR R r + i - (R.take r).flatten.length = i by unfold posR; omega, List.getElem?_append_left h, List.getElem?_eq_getElem h]
theorem used_in (x : It) (h : usedB x = false) : (usedT x).1 = x.width := by
  unfold usedB at h
  have h1 : cutB (numF x.width) = false := by
    cases hc : cutB (numF x.width)
    · rfl
    · rw [hc] at h; simp at h
  show cutF (numF x.width) = x.width
  unfold cutB at h1
  unfold cutF
  simp at h1
  unfold numF at h1 ⊢
  split at h1
  · omega
  · split at h1
    · omega
    · split
      · omega
      · split <;> omega
structure FillF (n : Nat) (c : Int) (wrap : Bool) (l : List Sty) (M U : Nat → It) (R : List (List Nat)) : Prop where
  cnt : R.length ≤ n
  one : wrap = false → R.length ≤ 1
  rl : ∀ r, (rowAt R r).length ≤ n
  mem : ∀ r (i : Nat) (h : i < (rowAt R r).length), (rowAt R r)[i] < n
  ne : ∀ r, r < R.length → 0 < (rowAt R r).length
  flat : R.flatten.length = n
  srt : ∀ p k j, R.flatten[p]? = some k → R.flatten[p + 1]? = some j → ordF l k < ordF l j ∨ (ordF l k = ordF l j ∧ k < j)
  clamp : ∀ k, k < n → usedB (U k) = false → clampF (stK l k) c (usedT (U k)).1 = (usedT (U k)).1
  fill : ∀ r, r < R.length → (∀ k ∈ rowAt R r, usedB (U k) = false) → ∀ k ∈ rowAt R r, betwF (stK l k) c (usedT (U k)).1 → (usedT (U k)).1 ≠ (M k).base → ((rowAt R r).map fun k => (usedT (U k)).1 + (M k).sides).sum = c
/-- One row, filled. -/
theorem fit_fill (c : Int) (M : Nat → It) (ks : List Nat) (hd : ks.Nodup) (hg : ∀ k ∈ ks, (M k).guess = clampF (M k).s (M k).c (M k).base) (hh : ∀ k ∈ ks, (M k).held = false) : ∀ k ∈ ks,
    clampF (M k).s (M k).c (fitM c M ks k).width = (fitM c M ks k).width ∧ (betwF (M k).s (M k).c (fitM c M ks k).width → (fitM c M ks k).width ≠ (M k).base → sumM (fitM c M ks) It.width ks + sumM M It.sides ks = c) := by
  intro k hk
  unfold fitM
  obtain ⟨grows, hgr⟩ : ∃ g, g = growsM c M ks := ⟨_, rfl⟩
  rw [← hgr]
  obtain ⟨S, hS⟩ : ∃ S, S = startM grows M ks := ⟨_, rfl⟩
  rw [← hS]
  have hSk : S k = startI grows (M k) := by rw [hS]; exact if_pos hk
  have hsm : SameI (M k) (S k) := by rw [hS]; exact start_same _ _ _ _
  obtain ⟨h1, h2, h3⟩ := loop_fill ks.length (roomM c M ks) grows S ks hd (List.length_filter_le _ _) k hk
  rw [hsm.s, hsm.c, hsm.base] at h3
  cases hst : stopI grows (M k)
  · have hhd : (S k).held = false := by
      rw [hSk]; unfold startI; rw [if_neg (by rw [hst]; simp)]; exact hh k hk
    obtain ⟨h4, h5⟩ := h3 hhd
    refine ⟨h4, fun hb hne => ?_⟩
    rw [h5 hb hne]; unfold roomM; omega
  · have hhd : (S k).held = true ∧ (S k).width = (M k).guess := by
      rw [hSk]; unfold startI; rw [if_pos hst]; exact ⟨rfl, rfl⟩
    have hw := h2 hhd.1
    rw [hhd.2, hg k hk] at hw
    rw [hw]
    refine ⟨clamp_idem _ _ _, fun hb hne => absurd (clamp_betw _ _ _ hb) hne⟩
theorem fill_ans (s : Sty) (c : Int) (l : List Sty) (got : List Cn) (n : Nat) (hn : n = l.length) :
    FillF n c s.wrap l (itM l c got) (mainsM s c l got) (rowsF s.wrap c (ownM (itM l c got)) (orderF (ordF l) l.length)) := by
  subst hn
  have hr := rows_all s.wrap c (ownM (itM l c got)) (orderF (ordF l) l.length)
  obtain ⟨M, hM⟩ : ∃ M, M = itM l c got := ⟨_, rfl⟩
  have hMs : ∀ k, (M k).s = stK l k ∧ (M k).c = c ∧ (M k).held = false ∧ (M k).guess = clampF (M k).s (M k).c (M k).base := fun k => by rw [hM]; exact ⟨rfl, rfl, rfl, rfl⟩
  unfold mainsM
  rw [← hM] at hr ⊢
  obtain ⟨R, hR⟩ : ∃ R, R = rowsF s.wrap c (ownM M) (orderF (ordF l) l.length) := ⟨_, rfl⟩
  have e : ((orderF (ordF l) l.length).foldl (rowStep s.wrap c (ownM M)) ([], 0)).1 = R := hR.symm
  rw [← hR]
  have hf : R.flatten = orderF (ordF l) l.length := by rw [← e]; exact hr.flat
  have hfl : R.flatten.length = l.length := by rw [hf, orderF_len]
  have hne : ∀ r ∈ R, r ≠ [] := by rw [← e]; exact hr.ne
  have hnd : R.flatten.Nodup := by rw [hf]; exact orderF_nodup _ _
  have hrow : ∀ r (h : r < R.length) k, k ∈ R[r] → fitsM c M R k = fitM c (fitsM c M (R.take r)) R[r] k := fun r h k hk => by
    have e1 : R = R.take (r + 1) ++ R.drop (r + 1) := (List.take_append_drop _ _).symm
    have e2 : fitsM c M R k = fitsM c (fitsM c M (R.take (r + 1))) (R.drop (r + 1)) k := by
      have : fitsM c M (R.take (r + 1) ++ R.drop (r + 1)) k = fitsM c (fitsM c M (R.take (r + 1))) (R.drop (r + 1)) k := by unfold fitsM; rw [List.foldl_append]
      rw [List.take_append_drop] at this; exact this
    have hnot : k ∉ (R.drop (r + 1)).flatten := fun hx => by
      have e3 : R = R.take r ++ R[r] :: R.drop (r + 1) := by rw [← List.drop_eq_getElem_cons h, List.take_append_drop]
      have hd := hnd
      rw [e3, List.flatten_append, List.flatten_cons] at hd
      exact (List.nodup_append.1 (List.nodup_append.1 hd).2.1).2.2 k hk k hx rfl
    rw [e2, fits_out c _ _ k hnot, fits_succ c R M h]
  have hbefore : ∀ r (h : r < R.length) k, k ∈ R[r] → fitsM c M (R.take r) k = M k := fun r h k hk => fits_take c R M hnd h hk
  have hfit : ∀ r (h : r < R.length), ∀ k ∈ R[r], clampF (stK l k) c (fitsM c M R k).width = (fitsM c M R k).width ∧ (betwF (stK l k) c (fitsM c M R k).width → (fitsM c M R k).width ≠ (M k).base → (R[r].map fun j => (fitsM c M R j).width).sum + (R[r].map fun j => (M j).sides).sum = c) := fun r h k hk => by
    have h1 := fit_fill c (fitsM c M (R.take r)) R[r] (row_nodup hnd h) (fun j hj => by rw [hbefore r h j hj]; exact (hMs j).2.2.2) (fun j hj => by rw [hbefore r h j hj]; exact (hMs j).2.2.1) k hk
    rw [hbefore r h k hk, (hMs k).1, (hMs k).2.1, ← hrow r h k hk] at h1
    refine ⟨h1.1, fun hb hbase => ?_⟩
    refine Eq.trans ?_ (h1.2 hb hbase)
    unfold sumM
    congr 1
    · exact congrArg List.sum (List.map_congr_left fun j hj => by rw [hrow r h j hj])
    · exact congrArg List.sum (List.map_congr_left fun j hj => by rw [hbefore r h j hj])
  have hin : ∀ k, k < l.length → ∃ r, ∃ h : r < R.length, k ∈ R[r] := fun k hk => by
    have : k ∈ R.flatten := by rw [hf]; exact (orderF_mem _ _ _).2 hk
    obtain ⟨x, hx, hkx⟩ := List.mem_flatten.1 this
    obtain ⟨r, hr, rfl⟩ := List.mem_iff_getElem.1 hx
    exact ⟨r, hr, hkx⟩
  refine ⟨by rw [← hfl]; exact rows_count hne, fun hw => by rw [← e]; exact hr.one hw, fun r => by rw [← hfl]; exact rowAt_len _ _, fun r i h => ?_, fun r h => ?_, hfl, fun p k j h1 h2 => ?_, fun k hk hb => ?_, fun r h hb k hk hbt hne2 => ?_⟩
  · have hrl : r < R.length := by
      rcases Nat.lt_or_ge r R.length with h2 | h2
      · exact h2
      · exfalso
        have : rowAt R r = [] := by unfold rowAt; rw [List.getElem?_eq_none h2]; rfl
        rw [this] at h; simp at h
    have hm : (rowAt R r)[i] ∈ R.flatten := List.mem_flatten.2 ⟨R[r], List.getElem_mem hrl, by rw [← rowAt_eq hrl]; exact List.getElem_mem h⟩
    rw [hf] at hm
    exact (orderF_mem _ _ _).1 hm
  · rw [rowAt_eq h]; exact List.length_pos_iff.2 (hne _ (List.getElem_mem h))
  · have hs := orderF_srt (ordF l) l.length
    rw [← hf] at hs
    obtain ⟨p1, q1⟩ := List.getElem?_eq_some_iff.1 h1
    obtain ⟨p2, q2⟩ := List.getElem?_eq_some_iff.1 h2
    have := (List.pairwise_iff_getElem.1 hs) p (p + 1) p1 p2 (by omega)
    rw [q1, q2] at this
    exact this
  · obtain ⟨r, h, hkr⟩ := hin k hk
    rw [used_in _ hb]
    exact (hfit r h k hkr).1
  · rw [rowAt_eq h] at hb hk ⊢
    rw [used_in _ (hb k hk)] at hbt hne2
    rw [sum_add R[r] (fun k => (usedT (fitsM c M R k)).1) (fun k => (M k).sides)]
    refine Eq.trans ?_ ((hfit r h k hk).2 hbt hne2)
    congr 1
    exact congrArg List.sum (List.map_congr_left fun j hj => by rw [used_in _ (hb j hj)])
end Go.Proofs.Ytdnpobfnkdllmaa
