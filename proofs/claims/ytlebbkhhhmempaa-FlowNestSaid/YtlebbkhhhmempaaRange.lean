/- A range over a function whose iterator keeps its state in cells of its own (of types that the caller's invariant does not speak of): one law for the caller, one form of contract for the iterator. -/
import Derived.Test.YtlebbkhhhmempaaBase
import Derived.RangeFuncNested
import Derived.RangeFuncBound
import Derived.RangeFuncCalls
import Derived.RangeFuncLeaves
import Derived.OwnWalkIn
import Derived.TacticsInMore
import Derived.LoopNIn
import Derived.LoopIn
set_option linter.unusedSimpArgs false
set_option linter.unusedVariables false
namespace Go.Proofs.Ytlebbkhhhmempaa
open Go.RowKit

/-- What others than the caller's own code may do: turn blocks from B on that hold no cells, or the iterator's own kind Z; lay new blocks. -/
structure Others (Z : Obj → Prop) (B : Nat) (A A' : World) : Prop where
  os : A'.os = A.os
  tape : A'.tape = A.tape
  output : A'.output = A.output
  size : A.heap.size ≤ A'.heap.size
  block : ∀ (k : Nat) (o : Obj), A.heap[k]? = some o → (k < B ∨ o.isCells = true ∧ ¬ Z o) → A'.heap[k]? = some o
/-- What a round does: what holds no cells, from B on, and the iterator's own kind lie as they lay. -/
structure Round (Z : Obj → Prop) (B : Nat) (A A' : World) : Prop where
  size : A.heap.size ≤ A'.heap.size
  same : ∀ (k : Nat) (o : Obj), A.heap[k]? = some o → (B ≤ k ∧ o.isCells = false ∨ Z o) → A'.heap[k]? = some o

section
variable {Z : Obj → Prop} {B : Nat} {A A' A'' : World}
theorem Others.refl (A : World) : Others Z B A A := ⟨rfl, rfl, rfl, Nat.le_refl _, fun _ _ h _ => h⟩
theorem Others.trans (h : Others Z B A A') (k : Others Z B A' A'') : Others Z B A A'' :=
  ⟨k.os.trans h.os, k.tape.trans h.tape, k.output.trans h.output, Nat.le_trans h.size k.size, fun i o hi ho => k.block i o (h.block i o hi ho) ho⟩
theorem Others.alloc (A : World) (o : Obj) : Others Z B A (A.alloc o) :=
  ⟨rfl, rfl, rfl, by simp, fun k o' hk _ => (Below.heap_alloc A o k (Array.getElem?_eq_some_iff.1 hk).1).trans hk⟩
theorem Others.putObj {l : Nat} {o : Obj} (o' : Obj) (hB : B ≤ l) (hl : A.heap[l]? = some o) (ho : o.isCells = false) : Others Z B A (A.putObj l o') :=
  ⟨rfl, rfl, rfl, by simp, fun k o'' hk hc => by
    have : k ≠ l := by
      rintro rfl
      rw [hl] at hk; cases hk
      rcases hc with hc | hc
      · omega
      · rw [ho] at hc; exact absurd hc.1 (by simp)
    exact (World.putObj_heap_other this).trans hk⟩
theorem Others.setCell {p : Addr} {o : Obj} (u : Value) (hB : B ≤ p.block) (hl : A.heap[p.block]? = some o) (ho : Z o) : Others Z B A (A.setCell p u) :=
  ⟨rfl, rfl, rfl, by simp [World.setCell], fun k o'' hk hc => by
    have : k ≠ p.block := by
      rintro rfl
      rw [hl] at hk; cases hk
      rcases hc with hc | hc
      · omega
      · exact hc.2 ho
    exact (Below.heap_setCell A p u k this).trans hk⟩
theorem Others.below {n : Nat} {w : World} (h : Others Z B A A') (hn : n ≤ B) (hw : Below n w A) (hs : n ≤ w.heap.size) : Below n w A' :=
  ⟨h.os.trans hw.os, h.tape.trans hw.tape, h.output.trans hw.output, Nat.le_trans hw.size h.size, fun k hk => by
    have hk' : k < A.heap.size := by have := hw.size; omega
    have := h.block k A.heap[k] (Array.getElem?_eq_getElem hk') (.inl (by omega))
    rw [this, ← hw.block k hk, Array.getElem?_eq_getElem hk']⟩
theorem Others.blk {g : Nat} {t : TypeId} {cs : Array Value} (h : Others Z B A A') (hb : Blk A g t cs) (hz : ∀ cs fr, ¬ Z (.cells cs t fr)) : Blk A' g t cs := h.block g _ hb (.inr ⟨rfl, hz _ _⟩)
theorem Others.own {base : Nat} {e : TypeId} {size n : Nat} {v : Value} {xs : List Value} (h : Others Z B A A') (ho : A.ownsRow base e size v n xs) (hz : ∀ cs fr, ¬ Z (.cells cs e fr)) : A'.ownsRow base e size v n xs := by
  obtain ⟨h1, h2⟩ := ho
  refine ⟨h1, ?_⟩
  rcases h2 with h2 | ⟨g, cap, cur, hv, hg, hh, r⟩
  · exact .inl h2
  · exact .inr ⟨g, cap, cur, hv, hg, h.block g _ hh (.inr ⟨rfl, hz _ _⟩), r⟩

theorem Round.refl (A : World) : Round Z B A A := ⟨Nat.le_refl _, fun _ _ h _ => h⟩
theorem Round.trans (h : Round Z B A A') (k : Round Z B A' A'') : Round Z B A A'' := ⟨Nat.le_trans h.size k.size, fun i o hi ho => k.same i o (h.same i o hi ho) ho⟩
theorem Round.alloc (h : Round Z B A A') (o : Obj) : Round Z B A (A'.alloc o) :=
  h.trans ⟨by simp, fun k o' hk _ => (Below.heap_alloc A' o k (Array.getElem?_eq_some_iff.1 hk).1).trans hk⟩
theorem Round.drew (h : Round Z B A A') : Round Z B A A'.drew := ⟨h.size, h.same⟩
/-- A store into a block of cells that are not the iterator's. -/
theorem Round.setCell {g i : Nat} {t : TypeId} {cs : Array Value} (h : Round Z B A A') (hb : Blk A' g t cs) (hz : ∀ cs fr, ¬ Z (.cells cs t fr)) (u : Value) : Round Z B A (A'.setCell ⟨g, i, none⟩ u) :=
  h.trans ⟨by simp [World.setCell], fun k o' hk hc => by
    have : k ≠ g := by
      rintro rfl
      rw [show A'.heap[k]? = _ from hb] at hk; cases hk
      rcases hc with hc | hc
      · simp [Obj.isCells] at hc
      · exact hz _ _ hc
    exact (Below.heap_setCell A' ⟨g, i, none⟩ u k this).trans hk⟩
/-- A store into a block that was laid in this round. -/
theorem Round.setNew {p : Addr} (h : Round Z B A A') (hp : A.heap.size ≤ p.block) (u : Value) : Round Z B A (A'.setCell p u) :=
  ⟨by simpa [World.setCell] using h.size, fun k o hk hc => by
    have hk' := (Array.getElem?_eq_some_iff.1 hk).1
    exact (Below.heap_setCell A' p u k (by omega)).trans (h.same k o hk hc)⟩
theorem Round.below {n : Nat} (h : Round Z B A A') (hb : Below n A' A'') (hn : A'.heap.size ≤ n) : Round Z B A A'' :=
  h.trans ⟨hb.size, fun k o hk _ => (hb.block k (by have := (Array.getElem?_eq_some_iff.1 hk).1; omega)).trans hk⟩
theorem Round.grown {row : Option Nat} (h : Round Z B A A') (hg : A'.grownBy A'' row) (hr : ∀ k o, row = some k → A'.heap[k]? = some o → o.isCells = true ∧ ¬ Z o) : Round Z B A A'' :=
  h.trans ⟨hg.size, fun k o hk hc => by
    refine (hg.block k (Array.getElem?_eq_some_iff.1 hk).1 (fun e => ?_)).trans hk
    obtain ⟨h1, h2⟩ := hr k o e.symm hk
    rcases hc with hc | hc
    · rw [h1] at hc; simp at hc
    · exact h2 hc⟩
theorem own_cells {w : World} {base : Nat} {e : TypeId} {size n : Nat} {v : Value} {xs : List Value} (ho : w.ownsRow base e size v n xs) (hz : ∀ cs fr, ¬ Z (.cells cs e fr)) : ∀ k o, v.ownBlock = some k → w.heap[k]? = some o → o.isCells = true ∧ ¬ Z o := by
  intro k o hk hko
  rcases ho.2 with ⟨rfl, _⟩ | ⟨g, cap, cur, rfl, _, hh, _⟩
  · simp [Value.ownBlock] at hk
  · obtain rfl : g = k := by simpa [Value.ownBlock] using hk
    rw [hh] at hko; cases hko
    exact ⟨rfl, hz _ _⟩
end

theorem wpListIn_app {F : Fence} {n : Nat} {P : Program} {w : World} {o : Oper} {a : Act} {t e : TypeId} {z : Value} {size bytes base k m : Nat} {v : Value} {xs : List Value} {ops : Array Oper} {rest : List Oper} {Q : Exit → Act → World → Prop} (hgd : o.guard = none) (s x : Operand)
    (ho : o.op = .call { callee := .builtin .append, args := #[s, x], argTypes := #[t, t] }) (hE : El P t e z size bytes) (hown : w.ownsRow base e size v k xs) (hbase : base ≤ w.heap.size) (hs : a.eval s = v)
    (news : List Value) {g : Nat} (hx : a.eval x = .slice (some ⟨g, 0, none⟩) m m) (hgs : g = w.heap.size) (hl : news.length = m * size) (h1 : ∀ u ∈ news, u.oneCell' = true) (h63 : k + m ≤ 4294967296) (hby : bytes ≤ 32768)
    (h : ∀ A' c' w', w'.ownsRow base e size (.slice A' (k + m) c') (k + m) (xs ++ news) → (∀ B w0, B ≤ base → Below B w0 w → Below B w0 w') → w.grownBy w' v.ownBlock →
      ((Value.slice A' (k + m) c').ownBlock = v.ownBlock ∨ w.heap.size ≤ ((Value.slice A' (k + m) c').ownBlock).getD w.heap.size) → wpListIn F n P ops Q rest (a.put o.dst (.slice A' (k + m) c')) w') :
    wpListIn F n P ops Q (o :: rest) a (w.alloc (.cells news.toArray e)) := by
  subst hgs
  refine wpListIn_plain hgd fun K hK' => ?_
  obtain ⟨A', c', w', hrun, h2, h3, h4, h5⟩ := run_app (P := P) hE o.type hown hbase news hl h1 h63 hby
  unfold Oper.wpIn
  refine ⟨?_, ?_⟩
  · simp [Oper.about, ho, resolve, Target.leads, Sem.run_pure]
  · rw [Oper.semAt_plain F _ _ (by rw [ho]; intro c hc'; cases hc')]
    simp only [execOp, ho, resolve, invoke, builtin, Sem.run_bind, Sem.run_pure, Result.andThen_ok, List.map_toArray, List.map_cons, List.map_nil, hs, hx, hrun]
    exact hK' _ _ (h A' c' w' h2 h3 h4 h5)

/-- The contract of an iterator that yields just the elements xs, in order, and turns no more than its own kind Z of blocks that it has laid itself. -/
def SeqC {α : Type} (F : Fence) (n : Nat) (P : Program) (g : Nat) (lb : Array Value) (encs : α → Array Value) (Z : Obj → Prop) (Kp : World → World → Prop) (xs : List α) (w0 : World) : Prop :=
  ∀ (l : Nat) (J : List α → World → Prop) (W : World), Below w0.heap.size w0 W →
    (∀ pre A A', J pre A → Others Z W.heap.size A A' → J pre A') →
    (∀ pre x W1, J pre W1 → pre ++ [x] <+: xs → YieldAt F (n - 1) P l (encs x) W1 fun e W' => e = .returned (.bool true) ∧ J (pre ++ [x]) W' ∧ Round Z W.heap.size W1 W' ∧ Kp W1 W') →
    J [] W → CallsIn F n P g (#[.func (.yield l) #[] #[]] ++ lb) W fun e W' => (∃ v, e = .returned v) ∧ J xs W'

def rangePostC {α : Type} (Z : Obj → Prop) (Kp : World → World → Prop) (B : Nat) (I : List α → World → Prop) (xs : List α) (W : World) : Exit → Act → World → Prop
  | .normal, _, W' => Round Z B W W' ∧ Kp W W' ∧ I xs W'
  | _, _, _ => False

variable {F : Fence} {n : Nat} {P : Program}

theorem wpIn_rangeC {α : Type} {g : Operand} {ps : Array Tmp} {assign body : Code} {Q : Exit → Act → World → Prop} {a : Act} {w w0 : World} {Z : Obj → Prop} {Kp : World → World → Prop} {xs : List α} {encs : α → Array Value}
    (hro : F.round = none) (h1 : 1 ≤ n) {gf : Nat} {lb : Array Value} (hg : a.eval g = .func (.func gf) #[] lb) (hFg : F.fn gf) (eg : ∀ args w, (callFunc gf args).run P w = .ok (.enter gf args) w)
    (hZ : ∀ o, Z o → o.isCells = true) (hseq : SeqC F (n - 1) P gf lb encs Z Kp xs w0) (hKt : ∀ {A B C : World}, Kp A B → Kp B C → Kp A C) (hKb : ∀ (W : World) (l : Nat) (o o' : Obj), w.heap.size ≤ l → W.heap[l]? = some o → o.isCells = false → Kp W (W.putObj l o')) (hb0 : Below w0.heap.size w0 w) (hps : ∀ x, (encs x).size = ps.size)
    (I : List α → World → Prop) (hI : ∀ pre A A', I pre A → Others Z w.heap.size A A' → I pre A') (h0 : I [] w)
    (Ax : α → Act → World → Prop) (hAx : ∀ x a' A A', Ax x a' A → (∀ (k : Nat) (o : Obj), A.heap[k]? = some o → o.isCells = true → A'.heap[k]? = some o) → Ax x a' A')
    (hassign : ∀ (l : Nat) (pre : List α) (x : α) (W : World) (K : Act → World → Prop), I pre W → (∀ a' W', Round Z w.heap.size W W' → Kp W W' → I pre W' → Ax x a' W' → K a' W') →
      assign.wpIn (F.inRound l) (n - 1 - 1) P (Exit.then K (fun _ _ _ => False)) { tmps := (ps.zip (encs x)).foldl (fun t (p, v) => t.setIfInBounds p v) a.tmps, defers := [] } W)
    (hbody : ∀ (l : Nat) (pre : List α) (x : α) (a' : Act) (W : World), pre ++ [x] <+: xs → I pre W → Ax x a' W → body.wpIn (F.inRound l) (n - 1 - 1) P (rangePostC Z Kp w.heap.size I (pre ++ [x]) W) a' W)
    (hdone : ∀ (D : Nat) (W : World), w.heap.size ≤ D → I xs W → W.heap[D]? = some (.deferred (some [])) → Q .normal { a with defers := { target := .collected D, args := #[] } :: a.defers } W) :
    (Code.rangeFunc g ps assign body).wpIn F n P Q a w := by
  refine wpIn_rangeFunc fun fn hfn => ?_
  rw [hro]
  -- the record, and the world in which the iterator begins
  let rec_ : LoopState → Option Code → Loop := fun st pe => { state := st, pending := pe, fn, tmps := a.tmps, params := ps, assign, body, defers := w.heap.size }
  obtain ⟨W1, hW1⟩ : ∃ W1, (w.alloc (.deferred (some []))).alloc (.loop (rec_ .ready none)) = W1 := ⟨_, rfl⟩
  have hD : W1.heap[w.heap.size]? = some (.deferred (some [])) := by rw [← hW1]; exact (Below.heap_alloc _ _ _ (by simp)).trans (World.alloc_heap_new w _)
  have hL : W1.heap[w.heap.size + 1]? = some (.loop (rec_ .ready none)) := by
    rw [← hW1]
    have := World.alloc_heap_new (w.alloc (.deferred (some []))) (.loop (rec_ .ready none)); rwa [World.size_alloc] at this
  have hI1 : I [] W1 := by rw [← hW1]; exact hI _ _ _ h0 ((Others.alloc _ _).trans (Others.alloc _ _))
  have hb1 : Below w0.heap.size w0 W1 := by rw [← hW1]; exact hb0.trans ((((Below.refl _ w).alloc (Nat.le_refl _) _).alloc (by simp) _).mono hb0.size)
  have hsz : w.heap.size + 1 < W1.heap.size := by rw [← hW1]; simp
  refine ⟨w.heap.size + 1, [{ target := .collected w.heap.size, args := #[] }], W1, { target := .fn (.func gf) lb, args := #[.func (.yield (w.heap.size + 1)) #[] #[]] }, W1, gf, #[.func (.yield (w.heap.size + 1)) #[] #[]] ++ lb, W1,
    by rw [← hW1]; exact run_enterLoop_outer fn a.tmps ps assign body, ?_, ?_, ?_, fun _ => h1, ?_⟩
  · simp only [resolve, hg]; simp [go_sem]
  · intro f' hf'; simp [Target.leads] at hf'; subst hf'; exact hFg
  · simp [invoke, go_sem, eg]
  clear hW1
  have lift : ∀ {A A' : World}, Others Z W1.heap.size A A' → Others Z w.heap.size A A' := fun h =>
    ⟨h.os, h.tape, h.output, h.size, fun k o hk hc => h.block k o hk (hc.imp (fun h => by omega) id)⟩
  have keeps : ∀ {A A' : World} {k : Nat} {o : Obj}, Others Z W1.heap.size A A' → k < W1.heap.size → A.heap[k]? = some o → A'.heap[k]? = some o := fun h hk ho => h.block _ _ ho (.inl hk)
  refine (hseq (w.heap.size + 1) (fun pre W => I pre W ∧ W.heap[w.heap.size + 1]? = some (.loop (rec_ .ready none)) ∧ W.heap[w.heap.size]? = some (.deferred (some []))) W1 hb1
    (fun pre A A' ⟨h1, h2, h3⟩ h => ⟨hI _ _ _ h1 (lift h), keeps h hsz h2, keeps h (by omega) h3⟩) ?_ ⟨hI1, hL, hD⟩).mono ?_
  · rintro pre x W ⟨hi, hl, hk⟩ hpx
    have hy := run_yield (P := P) (args := encs x) hl (hps x)
    refine ⟨fn, _, assign, body, hy, roundIn_of_wpIn hfn (hassign _ pre x W _ hi fun a' Wa hra hkpa hia hax => ?_)⟩
    have hla := hra.same _ _ hl (.inl ⟨by omega, rfl⟩)
    have hka := hra.same _ _ hk (.inl ⟨Nat.le_refl _, rfl⟩)
    have hlt := (Array.getElem?_eq_some_iff.1 hla).1
    refine ⟨_, run_beginRound hla rfl, wpIn_mono (hbody _ pre x a' _ hpx (hI _ _ _ hia (Others.putObj _ (by omega) hla rfl)) (hAx _ _ _ _ hax fun k o hk' hc => ?_)) ?_⟩
    · refine (World.putObj_heap_other ?_).trans hk'
      rintro rfl
      rw [hla] at hk'; cases hk'; simp [Obj.isCells] at hc
    · rintro e a3 W3 hp
      cases e with
      | normal =>
        obtain ⟨hr3, hkp3, hi3⟩ := hp
        have hl3 := hr3.same (w.heap.size + 1) _ (World.putObj_heap_same hlt) (.inl ⟨by omega, rfl⟩)
        have hk3 := hr3.same w.heap.size _ ((World.putObj_heap_other (by omega)).trans hka) (.inl ⟨Nat.le_refl _, rfl⟩)
        have hlt3 := (Array.getElem?_eq_some_iff.1 hl3).1
        refine ⟨_, _, run_endRound none hl3, rfl, ⟨hI _ _ _ hi3 (Others.putObj _ (by omega) hl3 rfl), World.putObj_heap_same hlt3, (World.putObj_heap_other (by omega)).trans hk3⟩, ?_, hKt hkpa (hKt (hKb _ _ _ _ (by omega) hla rfl) (hKt hkp3 (hKb _ _ _ _ (by omega) hl3 rfl)))⟩
        refine ⟨Nat.le_trans (Nat.le_trans hra.size (by simpa using hr3.size)) (by simp), fun k o hk' hc => ?_⟩
        have hc' : w.heap.size ≤ k ∧ o.isCells = false ∨ Z o := hc.imp (fun h => ⟨by omega, h.2⟩) id
        have hkl : k ≠ w.heap.size + 1 := by
          rcases hc with h | h
          · omega
          · rintro rfl; rw [hl] at hk'; cases hk'; exact absurd (hZ _ h) (by simp [Obj.isCells])
        exact (World.putObj_heap_other hkl).trans (hr3.same _ _ ((World.putObj_heap_other hkl).trans (hra.same _ _ hk' hc')) hc')
      | _ => exact hp.elim
  · rintro e W2 ⟨⟨v, rfl⟩, hi, hl, hk⟩
    exact ⟨none, _, run_endLoop hl (by simp [rec_]), hdone _ _ (Nat.le_refl _) (hI _ _ _ hi (Others.putObj _ (by omega) hl rfl)) ((World.putObj_heap_other (by omega)).trans hk)⟩

end Go.Proofs.Ytlebbkhhhmempaa
