/- Rows of numbers in memory: a slice of slices, each in a block of its own. -/
import Derived.Test.YtbopeofglhkffaaTrp
import Derived.Laws.OwnMore
import Derived.OneCell
set_option linter.unusedSimpArgs false
set_option linter.unusedVariables false
namespace Go.Proofs.Ytbopeofglhkffaa
open Go.RowKit
def nCells (l : List Nat) : List Value := l.map fun x : Nat => Value.int .i64 (x : Int)
theorem nCells_app (a : List Nat) (k : Nat) : nCells (a ++ [k]) = nCells a ++ [.int .i64 (k : Int)] := by simp [nCells]
def rowAt (rows : List (List Nat)) (p : Nat) : List Nat := (rows[p]?).getD []
theorem el_row : El Try.prog 34 36 (.slice none 0 0) 1 24 := ⟨Try.underlying34, by kernel_rfl, rfl, by decide⟩
/-- Blocks of two types are two. -/
theorem own_ne {w : World} {base base' : Nat} {e e' : TypeId} {size size' n n' : Nat} {v v' : Value} {xs xs' : List Value} (h : w.ownsRow base e size v n xs) (h' : w.ownsRow base' e' size' v' n' xs') (hne : e ≠ e') : v.ownBlock = none ∨ v.ownBlock ≠ v'.ownBlock := by
  rcases h.2 with ⟨h1, _⟩ | ⟨g, cap, cur, h1, _, hg, _⟩
  · exact .inl (by rw [h1]; rfl)
  · refine .inr fun e0 => ?_
    rcases h'.2 with ⟨h2, _⟩ | ⟨g', cap', cur', h2, _, hg', _⟩
    · rw [h1, h2] at e0; simp [Value.ownBlock] at e0
    · rw [h1, h2] at e0
      have : g = g' := by simpa [Value.ownBlock] using e0
      subst this
      rw [hg] at hg'
      injection hg' with hg'
      injection hg' with _ ht
      exact hne ht
structure RInv (rows : List (List Nat)) (base : Nat) (vs : List Value) (v : Value) (w : World) : Prop where
  len : vs.length = rows.length
  own : ∀ p (h : p < vs.length), w.ownsRow base 3 1 vs[p] (rowAt rows p).length (nCells (rowAt rows p))
  ne : ∀ p q (hp : p < vs.length) (hq : q < vs.length), p ≠ q → vs[p].ownBlock = none ∨ vs[p].ownBlock ≠ vs[q].ownBlock
  v : w.ownsRow base 36 1 v vs.length vs
section
variable {rows : List (List Nat)} {base : Nat} {vs : List Value} {v : Value} {w w' : World}
theorem RInv.start (base : Nat) (w : World) : RInv [] base [] (.slice none 0 0) w := ⟨rfl, fun p h => by simp at h, fun p q h => by simp at h, World.ownsRow_nil _ _ _ _⟩
theorem RInv.kept (h : RInv rows base vs v w) (hb : Below w.heap.size w w') : RInv rows base vs v w' := ⟨h.len, fun p hp => own_below (h.own p hp) hb, h.ne, own_below h.v hb⟩
theorem RInv.low (h : RInv rows base vs v w) {a : Addr} (ha : a.block < base) (u : Value) : RInv rows base vs v (w.setCell a u) := ⟨h.len, fun p hp => ownsRow_setCell_below (h.own p hp) ha u, h.ne, ownsRow_setCell_below h.v ha u⟩
/-- A store into a block that was made later. -/
theorem RInv.far {w0 : World} (h : RInv rows base vs v w) (h0 : RInv rows base vs v w0) {g : Nat} (hg : w0.heap.size ≤ g) (i : Nat) (u : Value) : RInv rows base vs v (w.setCell ⟨g, i, none⟩ u) :=
  ⟨h.len, fun p hp => ownsRow_setCell_other (h.own p hp) (a := ⟨g, i, none⟩) (fun e => by have := ((h0.own p hp).lt g e).2; omega) u, h.ne, ownsRow_setCell_other h.v (a := ⟨g, i, none⟩) (fun e => by have := (h0.v.lt g e).2; omega) u⟩
/-- A row more, with nothing in it. -/
theorem RInv.push (h : RInv rows base vs v w) {nv : Value} (hown : w'.ownsRow base 36 1 nv (vs.length + 1) (vs ++ [.slice none 0 0])) (hg : w.grownBy w' v.ownBlock) : RInv (rows ++ [[]]) base (vs ++ [.slice none 0 0]) nv w' := by
  refine ⟨by simp [h.len], fun p hp => ?_, fun p q hp hq hne => ?_, by simpa using hown⟩
  · by_cases hl : p < vs.length
    · rw [List.getElem_append_left hl]
      have e : rowAt (rows ++ [[]]) p = rowAt rows p := by unfold rowAt; rw [List.getElem?_append_left (by rw [← h.len]; exact hl)]
      rw [e]
      exact (h.own p hl).kept hg (own_ne (h.own p hl) h.v (by decide))
    · have hpe : p = vs.length := by simp at hp; omega
      subst hpe
      have e : rowAt (rows ++ [[]]) vs.length = [] := by unfold rowAt; rw [List.getElem?_append_right (by rw [h.len]; exact Nat.le_refl _), h.len]; simp
      rw [e]
      simp only [List.getElem_append_right (Nat.le_refl _), Nat.sub_self, List.getElem_cons_zero]
      exact World.ownsRow_nil _ _ _ _
  · by_cases hl : p < vs.length
    · by_cases hl2 : q < vs.length
      · rw [List.getElem_append_left hl, List.getElem_append_left hl2]; exact h.ne p q hl hl2 hne
      · have hqe : q = vs.length := by simp at hq; omega
        subst hqe
        rw [List.getElem_append_left hl]
        simp only [List.getElem_append_right (Nat.le_refl _), Nat.sub_self, List.getElem_cons_zero]
        cases hb : vs[p].ownBlock with
        | none => exact .inl rfl
        | some b => exact .inr (by simp [Value.ownBlock])
    · have hpe : p = vs.length := by simp at hp; omega
      subst hpe
      simp only [List.getElem_append_right (Nat.le_refl _), Nat.sub_self, List.getElem_cons_zero]
      exact .inl rfl
/-- A number more at the end of a row. -/
theorem RInv.add (h : RInv rows base vs v w) {q k : Nat} (hq : q < vs.length) {nv : Value} (hown : w'.ownsRow base 3 1 nv ((rowAt rows q).length + 1) (nCells (rowAt rows q) ++ [.int .i64 (k : Int)])) (hg : w.grownBy w' vs[q].ownBlock)
    (hob : nv.ownBlock = vs[q].ownBlock ∨ w.heap.size ≤ (nv.ownBlock).getD w.heap.size) {g n c : Nat} (hv : v = .slice (some ⟨g, 0, none⟩) n c) : RInv (rows.set q (rowAt rows q ++ [k])) base (vs.set q nv) v (w'.setCell ⟨g, q, none⟩ nv) := by
  have hv' : w'.ownsRow base 36 1 v vs.length vs := h.v.kept hg (own_ne h.v (h.own q hq) (by decide))
  have lt : ∀ p (hp : p < vs.length) (b : Nat), vs[p].ownBlock = some b → b < w.heap.size := fun p hp b e => ((h.own p hp).lt b e).2
  have far : ∀ {u : Value} {n : Nat} {xs : List Value}, w'.ownsRow base 3 1 u n xs → (w'.setCell ⟨g, q, none⟩ nv).ownsRow base 3 1 u n xs := fun {u n xs} hu => ownsRow_setCell_other hu (a := ⟨g, q, none⟩) (by
    rcases own_ne hu hv' (by decide) with e | e
    · rw [e]; simp
    · rw [hv] at e; simpa [Value.ownBlock] using e) _
  refine ⟨by simp [h.len], fun p hp => ?_, fun p r hp hr hne => ?_, ?_⟩
  · rw [List.length_set] at hp
    rw [List.getElem_set]
    by_cases hpq : q = p
    · subst hpq
      rw [if_pos rfl]
      have e : rowAt (rows.set q (rowAt rows q ++ [k])) q = rowAt rows q ++ [k] := by
        have : q < rows.length := by rw [← h.len]; exact hq
        unfold rowAt; rw [List.getElem?_set_self this]; rfl
      rw [e, nCells_app, List.length_append]
      exact far hown
    · rw [if_neg hpq]
      have e : rowAt (rows.set q (rowAt rows q ++ [k])) p = rowAt rows p := by unfold rowAt; rw [List.getElem?_set_ne hpq]
      rw [e]
      exact far ((h.own p hp).kept hg (h.ne p q hp hq (fun e => hpq e.symm)))
  · rw [List.length_set] at hp hr
    rw [List.getElem_set, List.getElem_set]
    by_cases h1 : q = p
    · subst h1
      rw [if_pos rfl, if_neg hne]
      rcases hob with hob | hob
      · rw [hob]; exact h.ne q r hp hr hne
      · cases hn : nv.ownBlock with
        | none => exact .inl rfl
        | some b =>
          refine .inr fun e => ?_
          have := lt r hr b e.symm
          rw [hn] at hob; simp at hob; omega
    · rw [if_neg h1]
      by_cases h2 : q = r
      · subst h2
        rw [if_pos rfl]
        rcases hob with hob | hob
        · rw [hob]; exact h.ne p q hp hr hne
        · cases hn : vs[p].ownBlock with
          | none => exact .inl rfl
          | some b =>
            refine .inr fun e => ?_
            have := lt p hp b hn
            rw [← e] at hob; simp at hob; omega
      · rw [if_neg h2]; exact h.ne p r hp hr hne
  · rw [List.length_set]
    have hn : n = vs.length := by
      rcases hv'.2 with ⟨h1, h2⟩ | ⟨g', cap, cur, h1, _⟩
      · rw [hv] at h1; cases h1
      · rw [hv] at h1; injection h1
    rw [hv, hn] at hv' ⊢
    exact (hv'.stored q nv).1
end
/-- Rows of numbers that can be read; all their blocks from lo on, below B. -/
structure RowsAt (w : World) (lo B : Nat) (v : Value) (rows : List (List Nat)) : Prop where
  ex : ∃ A c, v = .slice A rows.length c ∧ rows.length ≤ c ∧ (0 < rows.length → ∃ g, A = some ⟨g, 0, none⟩ ∧ lo ≤ g ∧ g < B ∧
    ∀ p, p < rows.length → ∃ Ar cr, w.cell? ⟨g, p, none⟩ = some (.slice Ar (rowAt rows p).length cr) ∧ (rowAt rows p).length ≤ cr ∧ Reads w B 1 Ar (rowAt rows p).length (nCells (rowAt rows p)) ∧ ∀ ad, Ar = some ad → lo ≤ ad.block)
theorem RowsAt.keep {w w' : World} {lo B : Nat} {v : Value} {rows : List (List Nat)} (h : RowsAt w lo B v rows) (hk : ∀ p : Addr, lo ≤ p.block → p.block < B → w'.cell? p = w.cell? p) : RowsAt w' lo B v rows := by
  obtain ⟨A, c, e, hc, h0⟩ := h.ex
  refine ⟨A, c, e, hc, fun hp => ?_⟩
  obtain ⟨g, hA, h1, h2, h3⟩ := h0 hp
  refine ⟨g, hA, h1, h2, fun p hp => ?_⟩
  obtain ⟨Ar, cr, h4, h5, h6, h7⟩ := h3 p hp
  refine ⟨Ar, cr, (hk ⟨g, p, none⟩ h1 h2).trans h4, h5, ⟨h6.1, fun hl => ?_⟩, h7⟩
  obtain ⟨ad, ea, hb, hcell⟩ := h6.2 hl
  exact ⟨ad, ea, hb, fun j u hu => (hk _ (by rw [block_of_add]; exact h7 ad ea) (by rw [block_of_add]; exact hb)).trans (hcell j u hu)⟩
theorem RowsAt.below {w w' : World} {lo B : Nat} {v : Value} {rows : List (List Nat)} (h : RowsAt w lo B v rows) (hb : Below B w w') : RowsAt w' lo B v rows := h.keep fun _ _ h2 => hb.cell h2
theorem RInv.fin {rows : List (List Nat)} {base lo : Nat} {vs : List Value} {v : Value} {w : World} (h : RInv rows base vs v w) (hl : lo ≤ base) : RowsAt w lo w.heap.size v rows := by
  obtain ⟨A, c, e⟩ := own_form h.v
  have hc := own_cap (e ▸ h.v)
  have hv := h.v
  rw [e] at hv
  have hlt := hv.lt
  have hcell := @World.ownsRow.cells _ _ _ _ _ _ _ hv
  refine ⟨A, c, by rw [e, h.len], by rw [← h.len]; exact hc, fun h0 => ?_⟩
  obtain ⟨g, c', e2, _⟩ := hv.form (by rw [h.len]; exact h0)
  injection e2 with e2
  subst e2
  have hl2 := hlt g rfl
  refine ⟨g, rfl, by omega, hl2.2, fun p hp => ?_⟩
  have hpv : p < vs.length := by rw [h.len]; exact hp
  obtain ⟨Ar, cr, er⟩ := own_form (h.own p hpv)
  have ho := h.own p hpv
  rw [er] at ho
  refine ⟨Ar, cr, ?_, own_cap ho, Reads.of_own ho, fun ad hA => Nat.le_trans hl (ho.lt ad.block (by rw [hA]; rfl)).1⟩
  have h3 := hcell (g := g) rfl p vs[p] (List.getElem?_eq_getElem hpv)
  rw [er] at h3
  have ha : (⟨g, 0, none⟩ : Addr).add p = ⟨g, p, none⟩ := by unfold Addr.add; split <;> simp_all
  rw [ha] at h3; exact h3
end Go.Proofs.Ytbopeofglhkffaa
