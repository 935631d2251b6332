/- Towers with floats, plain (FlowClear). -/
import Derived.Test.YtlebbkhhhmempaaTx
set_option linter.unusedSimpArgs false
set_option linter.unusedVariables false
namespace Go.Proofs.Ytlebbkhhhmempaa
open Go.RowKit
structure FlI (B : Int) (f : Fl) : Prop where
  s : f.side = 1 ∨ f.side = 2
  x : -B ≤ f.x ∧ f.x ≤ B
  y : 0 ≤ f.y
  h : 0 ≤ f.h
  b : f.y + f.h ≤ B
  w : 0 ≤ f.w ∧ f.w ≤ 100
theorem FlI.more {B B' : Int} {f : Fl} (h : FlI B f) (hB : B ≤ B') : FlI B' f := ⟨h.s, by have := h.x; omega, h.y, h.h, by have := h.b; omega, h.w⟩
theorem nxt_memC (y : Int) : ∀ (l : List Fl) (o : Option Int) (b : Int), l.foldl (nextS y) o = some b → o = some b ∨ ∃ f ∈ l, b = f.y + f.h
  | [], o, b, h => .inl h
  | f :: l, o, b, h => by
    rcases nxt_memC y l (nextS y o f) b h with h1 | ⟨g, hg, e⟩
    · unfold nextS at h1
      split at h1
      · injection h1 with h1; exact .inr ⟨f, List.mem_cons_self, h1.symm⟩
      · exact .inl h1
    · exact .inr ⟨g, List.mem_cons_of_mem _ hg, e⟩
theorem heights_B {B : Int} {l : List Fl} (hl : ∀ f ∈ l, FlI B f) : ∀ (n : Nat) (y : Int), 0 ≤ y ∧ y ≤ B → ∀ z ∈ heightsN n l y, 0 ≤ z ∧ z ≤ B
  | 0, y, hy, z, hz => by
    have : z = y := by simpa [heightsN] using hz
    subst this; exact hy
  | n + 1, y, hy, z, hz => by
    unfold heightsN at hz
    rcases List.mem_cons.1 hz with rfl | hz
    · exact hy
    · cases h : nextF l y with
      | none => rw [h] at hz; cases hz
      | some b =>
        rw [h] at hz
        refine heights_B hl n b ?_ z hz
        rcases nxt_memC y l none b h with h1 | ⟨f, hf, rfl⟩
        · cases h1
        · have := hl f hf
          have := this.y; have := (hl f hf).h; have := (hl f hf).b
          omega
theorem top_B {B : Int} : ∀ (l : List Fl) (y : Int), (∀ f ∈ l, FlI B f) → 0 ≤ y ∧ y ≤ B → 0 ≤ topF l y ∧ topF l y ≤ B
  | [], y, _, hy => hy
  | f :: l, y, hl, hy => by
    have h := hl f List.mem_cons_self
    have h1 := h.y; have h2 := h.h; have h3 := h.b
    exact top_B l (max y f.y) (fun g hg => hl g (List.mem_cons_of_mem _ hg)) (by omega)
theorem tall_B {B : Int} (z : Int) : ∀ (l : List Fl) (p : Int × Int), (∀ f ∈ l, FlI B f) → 100 ≤ B → (0 ≤ p.1 ∧ p.1 ≤ B + 100) ∧ (-B ≤ p.2 ∧ p.2 ≤ 100) → (0 ≤ (l.foldl (tallS z) p).1 ∧ (l.foldl (tallS z) p).1 ≤ B + 100) ∧ (-B ≤ (l.foldl (tallS z) p).2 ∧ (l.foldl (tallS z) p).2 ≤ 100)
  | [], p, _, _, hp => hp
  | f :: l, p, hl, hB, hp => by
    have h := hl f List.mem_cons_self
    have h1 := h.x; have h2 := h.w
    refine tall_B z l (tallS z p f) (fun g hg => hl g (List.mem_cons_of_mem _ hg)) hB ?_
    unfold tallS
    split
    · split
      · dsimp only; omega
      · split
        · dsimp only; omega
        · exact hp
    · exact hp
theorem place_B {B : Int} (l : List Fl) (side w h y : Int) (hl : ∀ f ∈ l, FlI B f) (hB : 100 ≤ B) (hy : 0 ≤ y ∧ y ≤ B) (hw : 0 ≤ w ∧ w ≤ 100) (hh : 0 ≤ h ∧ h ≤ 290) (hs : side = 1 ∨ side = 2) : FlI (B + 300) (placeF l side w h 0 (0 + 100) y) ∧ (placeF l side w h 0 (0 + 100) y).side = side ∧ (placeF l side w h 0 (0 + 100) y).h = h := by
  have hsd : (if side = 2 then (2 : Int) else 1) = side := by rcases hs with rfl | rfl <;> rfl
  unfold placeF
  split
  · refine ⟨⟨?_, ?_, ?_, ?_, ?_, ?_⟩, hsd, ?_⟩ <;> dsimp only
    · rw [hsd]; exact hs
    all_goals omega
  · rename_i z hz
    have hm := List.mem_of_find?_eq_some hz
    have hb := heights_B hl _ _ (top_B l y hl hy) z hm
    have ht := tall_B z l (0, 0 + 100) hl hB (by dsimp only; omega)
    have e : tallF l z 0 (0 + 100) = l.foldl (tallS z) (0, 0 + 100) := rfl
    rw [← e] at ht
    refine ⟨⟨?_, ?_, ?_, ?_, ?_, ?_⟩, hsd, ?_⟩ <;> dsimp only
    · rw [hsd]; exact hs
    · split <;> omega
    all_goals omega
theorem clear_ge (side : Int) : ∀ (l : List Fl) (y : Int), y ≤ clearF l side y
  | [], y => Int.le_refl _
  | f :: l, y => by
    have h := clear_ge side l (clearS side y f)
    have h2 : y ≤ clearS side y f := by unfold clearS; split <;> omega
    exact Int.le_trans h2 h
theorem clear_le {B : Int} (side : Int) : ∀ (l : List Fl) (y : Int), (∀ f ∈ l, FlI B f) → y ≤ B → clearF l side y ≤ B
  | [], y, _, h => h
  | f :: l, y, hl, h => by
    refine clear_le side l (clearS side y f) (fun g hg => hl g (List.mem_cons_of_mem _ hg)) ?_
    have := (hl f List.mem_cons_self).b
    unfold clearS
    split <;> omega
theorem clear_all (side : Int) : ∀ (l : List Fl) (y : Int) (f : Fl), f ∈ l → (side = 3 ∨ (side = 1 ∨ side = 2) ∧ f.side = side) → f.y + f.h ≤ clearF l side y
  | g :: l, y, f, hf, hs => by
    rcases List.mem_cons.1 hf with rfl | hf
    · have h := clear_ge side l (clearS side y f)
      have h2 : f.y + f.h ≤ clearS side y f := by unfold clearS; rw [if_pos hs]; omega
      exact Int.le_trans h2 h
    · exact clear_all side l (clearS side y g) f hf hs
structure ClI (B : Int) (k : Wk) : Prop where
  op : k.op = []
  st : k.st = ⟨0, 0⟩
  y : 0 ≤ k.y ∧ k.y ≤ B
  fl : ∀ f ∈ k.fl, FlI B f
  fn : (k.fl.length : Int) ≤ B
  sp : ∀ s ∈ k.sp, ((-B ≤ s.left ∧ s.left ≤ B) ∧ (-B ≤ s.top ∧ s.top ≤ B) ∧ (-B ≤ s.high ∧ s.high ≤ B)) ∧ s.op = false
structure RcOk (r : Rw) : Prop where
  h : 1 ≤ r.h ∧ r.h ≤ 256
  a : 0 ≤ r.a ∧ r.a ≤ 31
  b : r.b = 0
theorem RcOk.ok {r : Rw} (h : RcOk r) : RwOk r := ⟨by have := h.h; omega, by have := h.a; omega, by have := h.b; omega⟩
theorem flB_of {B : Int} {f : Fl} (h : FlI B f) (hB : B ≤ 60000) : flB f = true := by
  have h1 := h.x; have h2 := h.y; have h3 := h.h; have h4 := h.b; have h5 := h.w
  unfold flB
  rw [inL_far (by omega), inL_far (by omega)]
  unfold lim
  simp only [Bool.true_and, Bool.and_eq_true, decide_eq_true_eq]
  omega
theorem ClI.far {B : Int} {k : Wk} (h : ClI B k) (hB : B ≤ 60000) : FarK k := by
  have h1 := h.y
  refine ⟨by unfold Go.Proofs.Ytlebbkhhhmempaa.far; omega, by rw [h.st]; unfold Go.Proofs.Ytlebbkhhhmempaa.far; dsimp only; omega, by rw [h.st]; unfold Go.Proofs.Ytlebbkhhhmempaa.far; dsimp only; omega, fun f hf => flB_of (h.fl f hf) hB, by have := h.fn; omega, fun s hs => ?_⟩
  have := (h.sp s hs).1
  unfold Go.Proofs.Ytlebbkhhhmempaa.far
  omega
theorem row_cl (k : Wk) (i : Nat) (r : Rw) (hst : k.st = ⟨0, 0⟩) (hr : RcOk r) : rowF k i r = { y := k.y + r.a + r.h, st := ⟨0, 0⟩, fl := k.fl, op := [], sp := k.sp.modify i fun _ => ⟨0, k.y + r.a, r.h, false⟩ } := by
  have h1 := hr.h; have h2 := hr.a; have h3 := hr.b
  have e1 : k.y + sumF (joinF k.st r.a) = k.y + r.a := by rw [hst]; unfold sumF joinF; dsimp only; omega
  have e2 : joinF ⟨0, 0⟩ r.b = ⟨0, 0⟩ := by rw [h3]; rfl
  unfold rowF
  simp only
  rw [if_pos (by omega), e1, e2]
def flK (k : Wk) (i : Nat) (r : Rw) (f : Fl) : Wk := setSp { k with fl := k.fl ++ [f] } i fun p => { p with left := f.x + 0, top := f.y + r.a, high := r.h }
theorem float_step (n : Nat) (l : List Nd) (us : List Ud) (hs : List Int) (k : Wk) (i : Nat) (r : Rw) (B W : Int) (hl : styF l i = some (twS r)) (hu : usF us i = ⟨W, 0, 0⟩) (hW : 0 ≤ W ∧ W ≤ 100) (h0 : (usF us 0).w = 100) (hh : hiF hs i = r.h) (hI : ClI B k) (hB : 100 ≤ B ∧ B + 300 ≤ 60000) (hr : RcOk r) (hf : r.fl = 1 ∨ r.fl = 2) (hc : r.cl = 0) :
    ∃ f, stepC (n + 1) l us hs 0 0 k (i : Int) = some (flK k i r f) ∧ FlI (B + 300) f ∧ f.side = r.fl ∧ f.h = r.a + r.h := by
  have h1 := hr.h; have h2 := hr.a; have h3 := hr.b
  have hy := hI.y
  have hfl : (twS r).float = r.fl := rfl
  have hm0 : mgF (twS r).m0 = r.a := rfl
  have hm2 : mgF (twS r).m2 = r.b := rfl
  have hmk : markF k = k.y := by unfold markF; rw [hI.st]; unfold sumF; dsimp only; omega
  obtain ⟨p1, p2, p3⟩ := place_B k.fl r.fl W (r.a + r.h + r.b) k.y hI.fl hB.1 hy hW (by omega) hf
  obtain ⟨f, hfe⟩ : ∃ f, f = placeF k.fl r.fl W (r.a + r.h + r.b) 0 (0 + 100) k.y := ⟨_, rfl⟩
  rw [← hfe] at p1 p2 p3
  refine ⟨f, ?_, p1, p2, by omega⟩
  unfold stepC
  rw [Int.toNat_natCast, hl]
  simp only
  rw [if_pos (by rw [hfl]; omega)]
  unfold floatF
  simp only
  rw [hu, hm0, hm2, hh, h0, hmk, show (twS r).clear = 0 from hc, clear_0, hfl]
  have e1 : (0 : Int) + W + 0 = W := by omega
  have e2 : (⟨W, 0, 0⟩ : Ud).left + (⟨W, 0, 0⟩ : Ud).w + (⟨W, 0, 0⟩ : Ud).right = W := e1
  have b1 := p1.x; have b2 := p1.y; have b3 := p1.h; have b4 := p1.b
  rw [e2, ← hfe, if_pos ⟨hW.1, by unfold lim; omega, by omega, inL_far (by dsimp only; omega), inL_far (by dsimp only; omega), inL_far (by dsimp only; omega), inL_far (by omega), inL_far (by omega), by decide, by decide, by decide⟩]
  unfold chk
  have hw : wkB (flK k i r f) = true := by
    unfold flK setSp
    refine wkB_of (by dsimp only; omega) (by rw [hI.st]; dsimp only; omega) (by rw [hI.st]; dsimp only; omega) ?_ ?_ (by rw [hI.op]; simp) ?_
    · intro g hg
      rcases List.mem_append.1 hg with hg | hg
      · exact flB_of (hI.fl g hg) (by omega)
      · rw [List.mem_singleton.1 hg]; exact flB_of p1 (by omega)
    · have := hI.fn; simp; omega
    · intro s hs
      rcases mem_modify hs with hs' | ⟨y, hs', rfl⟩
      · have := (hI.sp s hs').1; exact spB_far (by unfold far; omega)
      · exact spB_far (by unfold far; dsimp only; omega)
  show (if wkB (flK k i r f) = true then some (flK k i r f) else none) = some (flK k i r f)
  rw [if_pos hw]
theorem ClI.flK {B : Int} {k : Wk} (h : ClI B k) (i : Nat) {r : Rw} (hr : RcOk r) {f : Fl} (hf : FlI (B + 300) f) (hh : f.h = r.a + r.h) : ClI (B + 300) (flK k i r f) := by
  have hy := h.y
  have h1 := hr.h; have h2 := hr.a
  refine ⟨h.op, h.st, by show 0 ≤ k.y ∧ k.y ≤ _; omega, ?_, ?_, ?_⟩
  · intro g hg
    rcases List.mem_append.1 hg with hg | hg
    · exact (h.fl g hg).more (by omega)
    · rw [List.mem_singleton.1 hg]; exact hf
  · show ((k.fl ++ [f]).length : Int) ≤ _
    have := h.fn; simp; omega
  · intro s hs
    have b1 := hf.x; have b2 := hf.y; have b3 := hf.h; have b4 := hf.b
    rcases mem_modify hs with hs' | ⟨y, hs', rfl⟩
    · have := h.sp s hs'; exact ⟨by omega, this.2⟩
    · exact ⟨by dsimp only; omega, (h.sp y hs').2⟩
theorem ClI.row {B : Int} {k : Wk} (h : ClI B k) (i : Nat) {r : Rw} (hr : RcOk r) : ClI (B + 300) (rowF k i r) := by
  have hy := h.y
  have h1 := hr.h; have h2 := hr.a
  rw [row_cl k i r h.st hr]
  refine ⟨rfl, rfl, by dsimp only; omega, fun g hg => (h.fl g hg).more (by omega), by have := h.fn; dsimp only; omega, ?_⟩
  intro s hs
  rcases mem_modify hs with hs' | ⟨y, hs', rfl⟩
  · have := h.sp s hs'; exact ⟨by omega, this.2⟩
  · exact ⟨by dsimp only; omega, rfl⟩
end Go.Proofs.Ytlebbkhhhmempaa
