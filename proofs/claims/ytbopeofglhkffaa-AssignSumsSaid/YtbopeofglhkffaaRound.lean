/- A region that draws its order, within a round of a range over a function: the law over 'wpAnyH'. -/
import Derived.Test.YtbopeofglhkffaaRowk
import Derived.RangeFuncNested
import Derived.RangeFuncBound
import Derived.RangeFuncCalls
import Derived.RangeFuncLeaves
import Derived.OwnWalkIn
import Derived.TacticsInMore
import Derived.LoopNIn
import Derived.LoopIn
import Derived.Test.YtbopeofglhkffaaSty
import Derived.Test.YtbopeofglhkffaaApp
import Derived.Shelf.RegionOpen
import Derived.CallsIn
import Derived.Deep.RegionHeld3
set_option linter.unusedSimpArgs false
set_option linter.unusedVariables false
namespace Go.Proofs.Ytbopeofglhkffaa
open Go.RowKit
/-- What others than the caller's own code may do: turn blocks from B on that hold no cells, or the iterator's own kind Z; lay new blocks. -/
structure Others (Z : Obj → Prop) (B : Nat) (A A' : World) : Prop where
  os : A'.os = A.os
  tape : A'.tape = A.tape
  output : A'.output = A.output
  size : A.heap.size ≤ A'.heap.size
  block : ∀ (k : Nat) (o : Obj), A.heap[k]? = some o → (k < B ∨ o.isCells = true ∧ ¬ Z o) → A'.heap[k]? = some o
/-- What a round does: what holds no cells, from B on, and the iterator's own kind lie as they lay. -/
structure Round (Z : Obj → Prop) (B : Nat) (A A' : World) : Prop where
  size : A.heap.size ≤ A'.heap.size
  same : ∀ (k : Nat) (o : Obj), A.heap[k]? = some o → (B ≤ k ∧ o.isCells = false ∨ Z o) → A'.heap[k]? = some o
section
variable {Z : Obj → Prop} {B : Nat} {A A' A'' : World}
theorem Others.refl (A : World) : Others Z B A A := ⟨rfl, rfl, rfl, Nat.le_refl _, fun _ _ h _ => h⟩
theorem Others.trans (h : Others Z B A A') (k : Others Z B A' A'') : Others Z B A A'' :=
  ⟨k.os.trans h.os, k.tape.trans h.tape, k.output.trans h.output, Nat.le_trans h.size k.size, fun i o hi ho => k.block i o (h.block i o hi ho) ho⟩
theorem Others.alloc (A : World) (o : Obj) : Others Z B A (A.alloc o) :=
  ⟨rfl, rfl, rfl, by simp, fun k o' hk _ => (Below.heap_alloc A o k (Array.getElem?_eq_some_iff.1 hk).1).trans hk⟩
theorem Others.putObj {l : Nat} {o : Obj} (o' : Obj) (hB : B ≤ l) (hl : A.heap[l]? = some o) (ho : o.isCells = false) : Others Z B A (A.putObj l o') :=
  ⟨rfl, rfl, rfl, by simp, fun k o'' hk hc => by
    have : k ≠ l := by
      rintro rfl
      rw [hl] at hk; cases hk
      rcases hc with hc | hc
      · omega
      · rw [ho] at hc; exact absurd hc.1 (by simp)
    exact (World.putObj_heap_other this).trans hk⟩
theorem Others.setCell {p : Addr} {o : Obj} (u : Value) (hB : B ≤ p.block) (hl : A.heap[p.block]? = some o) (ho : Z o) : Others Z B A (A.setCell p u) :=
  ⟨rfl, rfl, rfl, by simp [World.setCell], fun k o'' hk hc => by
    have : k ≠ p.block := by
      rintro rfl
      rw [hl] at hk; cases hk
      rcases hc with hc | hc
      · omega
      · exact hc.2 ho
    exact (Below.heap_setCell A p u k this).trans hk⟩
theorem Others.below {n : Nat} {w : World} (h : Others Z B A A') (hn : n ≤ B) (hw : Below n w A) (hs : n ≤ w.heap.size) : Below n w A' :=
  ⟨h.os.trans hw.os, h.tape.trans hw.tape, h.output.trans hw.output, Nat.le_trans hw.size h.size, fun k hk => by
    have hk' : k < A.heap.size := by have := hw.size; omega
    have := h.block k A.heap[k] (Array.getElem?_eq_getElem hk') (.inl (by omega))
    rw [this, ← hw.block k hk, Array.getElem?_eq_getElem hk']⟩
theorem Others.blk {g : Nat} {t : TypeId} {cs : Array Value} (h : Others Z B A A') (hb : Blk A g t cs) (hz : ∀ cs fr, ¬ Z (.cells cs t fr)) : Blk A' g t cs := h.block g _ hb (.inr ⟨rfl, hz _ _⟩)
theorem Others.own {base : Nat} {e : TypeId} {size n : Nat} {v : Value} {xs : List Value} (h : Others Z B A A') (ho : A.ownsRow base e size v n xs) (hz : ∀ cs fr, ¬ Z (.cells cs e fr)) : A'.ownsRow base e size v n xs := by
  obtain ⟨h1, h2⟩ := ho
  refine ⟨h1, ?_⟩
  rcases h2 with h2 | ⟨g, cap, cur, hv, hg, hh, r⟩
  · exact .inl h2
  · exact .inr ⟨g, cap, cur, hv, hg, h.block g _ hh (.inr ⟨rfl, hz _ _⟩), r⟩
theorem Round.refl (A : World) : Round Z B A A := ⟨Nat.le_refl _, fun _ _ h _ => h⟩
theorem Round.trans (h : Round Z B A A') (k : Round Z B A' A'') : Round Z B A A'' := ⟨Nat.le_trans h.size k.size, fun i o hi ho => k.same i o (h.same i o hi ho) ho⟩
theorem Round.alloc (h : Round Z B A A') (o : Obj) : Round Z B A (A'.alloc o) :=
  h.trans ⟨by simp, fun k o' hk _ => (Below.heap_alloc A' o k (Array.getElem?_eq_some_iff.1 hk).1).trans hk⟩
theorem Round.drew (h : Round Z B A A') : Round Z B A A'.drew := ⟨h.size, h.same⟩
/-- A store into a block of cells that are not the iterator's. -/
theorem Round.setCell {g i : Nat} {t : TypeId} {cs : Array Value} (h : Round Z B A A') (hb : Blk A' g t cs) (hz : ∀ cs fr, ¬ Z (.cells cs t fr)) (u : Value) : Round Z B A (A'.setCell ⟨g, i, none⟩ u) :=
  h.trans ⟨by simp [World.setCell], fun k o' hk hc => by
    have : k ≠ g := by
      rintro rfl
      rw [show A'.heap[k]? = _ from hb] at hk; cases hk
      rcases hc with hc | hc
      · simp [Obj.isCells] at hc
      · exact hz _ _ hc
    exact (Below.heap_setCell A' ⟨g, i, none⟩ u k this).trans hk⟩
/-- A store into a block that was laid in this round. -/
theorem Round.below {n : Nat} (h : Round Z B A A') (hb : Below n A' A'') (hn : A'.heap.size ≤ n) : Round Z B A A'' :=
  h.trans ⟨hb.size, fun k o hk _ => (hb.block k (by have := (Array.getElem?_eq_some_iff.1 hk).1; omega)).trans hk⟩
theorem Round.grown {row : Option Nat} (h : Round Z B A A') (hg : A'.grownBy A'' row) (hr : ∀ k o, row = some k → A'.heap[k]? = some o → o.isCells = true ∧ ¬ Z o) : Round Z B A A'' :=
  h.trans ⟨hg.size, fun k o hk hc => by
    refine (hg.block k (Array.getElem?_eq_some_iff.1 hk).1 (fun e => ?_)).trans hk
    obtain ⟨h1, h2⟩ := hr k o e.symm hk
    rcases hc with hc | hc
    · rw [h1] at hc; simp at hc
    · exact h2 hc⟩
theorem own_cells {w : World} {base : Nat} {e : TypeId} {size n : Nat} {v : Value} {xs : List Value} (ho : w.ownsRow base e size v n xs) (hz : ∀ cs fr, ¬ Z (.cells cs e fr)) : ∀ k o, v.ownBlock = some k → w.heap[k]? = some o → o.isCells = true ∧ ¬ Z o := by
  intro k o hk hko
  rcases ho.2 with ⟨rfl, _⟩ | ⟨g, cap, cur, rfl, _, hh, _⟩
  · simp [Value.ownBlock] at hk
  · obtain rfl : g = k := by simpa [Value.ownBlock] using hk
    rw [hh] at hko; cases hko
    exact ⟨rfl, hz _ _⟩
end
theorem wpListIn_app {F : Fence} {n : Nat} {P : Program} {w : World} {o : Oper} {a : Act} {t e : TypeId} {z : Value} {size bytes base k m : Nat} {v : Value} {xs : List Value} {ops : Array Oper} {rest : List Oper} {Q : Exit → Act → World → Prop} (hgd : o.guard = none) (s x : Operand)
    (ho : o.op = .call { callee := .builtin .append, args := #[s, x], argTypes := #[t, t] }) (hE : El P t e z size bytes) (hown : w.ownsRow base e size v k xs) (hbase : base ≤ w.heap.size) (hs : a.eval s = v)
    (news : List Value) {g : Nat} (hx : a.eval x = .slice (some ⟨g, 0, none⟩) m m) (hgs : g = w.heap.size) (hl : news.length = m * size) (h1 : ∀ u ∈ news, u.oneCell' = true) (h63 : k + m ≤ 4294967296) (hby : bytes ≤ 32768)
    (h : ∀ A' c' w', w'.ownsRow base e size (.slice A' (k + m) c') (k + m) (xs ++ news) → (∀ B w0, B ≤ base → Below B w0 w → Below B w0 w') → w.grownBy w' v.ownBlock →
      ((Value.slice A' (k + m) c').ownBlock = v.ownBlock ∨ w.heap.size ≤ ((Value.slice A' (k + m) c').ownBlock).getD w.heap.size) → wpListIn F n P ops Q rest (a.put o.dst (.slice A' (k + m) c')) w') :
    wpListIn F n P ops Q (o :: rest) a (w.alloc (.cells news.toArray e)) := by
  subst hgs
  refine wpListIn_plain hgd fun K hK' => ?_
  obtain ⟨A', c', w', hrun, h2, h3, h4, h5⟩ := run_app (P := P) hE o.type hown hbase news hl h1 h63 hby
  unfold Oper.wpIn
  refine ⟨?_, ?_⟩
  · simp [Oper.about, ho, resolve, Target.leads, Sem.run_pure]
  · rw [Oper.semAt_plain F _ _ (by rw [ho]; intro c hc'; cases hc')]
    simp only [execOp, ho, resolve, invoke, builtin, Sem.run_bind, Sem.run_pure, Result.andThen_ok, List.map_toArray, List.map_cons, List.map_nil, hs, hx, hrun]
    exact hK' _ _ (h A' c' w' h2 h3 h4 h5)
/-- The contract of an iterator that yields just the elements xs, in order, and turns no more than its own kind Z of blocks that it has laid itself. -/
def SeqC {α : Type} (F : Fence) (n : Nat) (P : Program) (g : Nat) (lb : Array Value) (encs : α → Array Value) (Z : Obj → Prop) (Kp : World → World → Prop) (xs : List α) (w0 : World) : Prop :=
  ∀ (l : Nat) (J : List α → World → Prop) (W : World), Below w0.heap.size w0 W →
    (∀ pre A A', J pre A → Others Z W.heap.size A A' → J pre A') →
    (∀ pre x W1, J pre W1 → pre ++ [x] <+: xs → YieldAt F (n - 1) P l (encs x) W1 fun e W' => e = .returned (.bool true) ∧ J (pre ++ [x]) W' ∧ Round Z W.heap.size W1 W' ∧ Kp W1 W') →
    J [] W → CallsIn F n P g (#[.func (.yield l) #[] #[]] ++ lb) W fun e W' => (∃ v, e = .returned v) ∧ J xs W'
def rangePostC {α : Type} (Z : Obj → Prop) (Kp : World → World → Prop) (B : Nat) (I : List α → World → Prop) (xs : List α) (W : World) : Exit → Act → World → Prop
  | .normal, _, W' => Round Z B W W' ∧ Kp W W' ∧ I xs W'
  | _, _, _ => False
variable {F : Fence} {n : Nat} {P : Program}
theorem wpIn_rangeC {α : Type} {g : Operand} {ps : Array Tmp} {assign body : Code} {Q : Exit → Act → World → Prop} {a : Act} {w w0 : World} {Z : Obj → Prop} {Kp : World → World → Prop} {xs : List α} {encs : α → Array Value}
    (hro : F.round = none) (h1 : 1 ≤ n) {gf : Nat} {lb : Array Value} (hg : a.eval g = .func (.func gf) #[] lb) (hFg : F.fn gf) (eg : ∀ args w, (callFunc gf args).run P w = .ok (.enter gf args) w)
    (hZ : ∀ o, Z o → o.isCells = true) (hseq : SeqC F (n - 1) P gf lb encs Z Kp xs w0) (hKt : ∀ {A B C : World}, Kp A B → Kp B C → Kp A C) (hKb : ∀ (W : World) (l : Nat) (o o' : Obj), w.heap.size ≤ l → W.heap[l]? = some o → o.isCells = false → Kp W (W.putObj l o')) (hb0 : Below w0.heap.size w0 w) (hps : ∀ x, (encs x).size = ps.size)
    (I : List α → World → Prop) (hI : ∀ pre A A', I pre A → Others Z w.heap.size A A' → I pre A') (h0 : I [] w)
    (Ax : α → Act → World → Prop) (hAx : ∀ x a' A A', Ax x a' A → (∀ (k : Nat) (o : Obj), A.heap[k]? = some o → o.isCells = true → A'.heap[k]? = some o) → Ax x a' A')
    (hassign : ∀ (l : Nat) (pre : List α) (x : α) (W : World) (K : Act → World → Prop), I pre W → (∀ a' W', Round Z w.heap.size W W' → Kp W W' → I pre W' → Ax x a' W' → K a' W') →
      assign.wpIn (F.inRound l) (n - 1 - 1) P (Exit.then K (fun _ _ _ => False)) { tmps := (ps.zip (encs x)).foldl (fun t (p, v) => t.setIfInBounds p v) a.tmps, defers := [] } W)
    (hbody : ∀ (l : Nat) (pre : List α) (x : α) (a' : Act) (W : World), pre ++ [x] <+: xs → I pre W → Ax x a' W → body.wpIn (F.inRound l) (n - 1 - 1) P (rangePostC Z Kp w.heap.size I (pre ++ [x]) W) a' W)
    (hdone : ∀ (D : Nat) (W : World), w.heap.size ≤ D → I xs W → W.heap[D]? = some (.deferred (some [])) → Q .normal { a with defers := { target := .collected D, args := #[] } :: a.defers } W) :
    (Code.rangeFunc g ps assign body).wpIn F n P Q a w := by
  refine wpIn_rangeFunc fun fn hfn => ?_
  rw [hro]
  -- the record, and the world in which the iterator begins
  let rec_ : LoopState → Option Code → Loop := fun st pe => { state := st, pending := pe, fn, tmps := a.tmps, params := ps, assign, body, defers := w.heap.size }
  obtain ⟨W1, hW1⟩ : ∃ W1, (w.alloc (.deferred (some []))).alloc (.loop (rec_ .ready none)) = W1 := ⟨_, rfl⟩
  have hD : W1.heap[w.heap.size]? = some (.deferred (some [])) := by rw [← hW1]; exact (Below.heap_alloc _ _ _ (by simp)).trans (World.alloc_heap_new w _)
  have hL : W1.heap[w.heap.size + 1]? = some (.loop (rec_ .ready none)) := by
    rw [← hW1]
    have := World.alloc_heap_new (w.alloc (.deferred (some []))) (.loop (rec_ .ready none)); rwa [World.size_alloc] at this
  have hI1 : I [] W1 := by rw [← hW1]; exact hI _ _ _ h0 ((Others.alloc _ _).trans (Others.alloc _ _))
  have hb1 : Below w0.heap.size w0 W1 := by rw [← hW1]; exact hb0.trans ((((Below.refl _ w).alloc (Nat.le_refl _) _).alloc (by simp) _).mono hb0.size)
  have hsz : w.heap.size + 1 < W1.heap.size := by rw [← hW1]; simp
  refine ⟨w.heap.size + 1, [{ target := .collected w.heap.size, args := #[] }], W1, { target := .fn (.func gf) lb, args := #[.func (.yield (w.heap.size + 1)) #[] #[]] }, W1, gf, #[.func (.yield (w.heap.size + 1)) #[] #[]] ++ lb, W1,
    by rw [← hW1]; exact run_enterLoop_outer fn a.tmps ps assign body, ?_, ?_, ?_, fun _ => h1, ?_⟩
  · simp only [resolve, hg]; simp [go_sem]
  · intro f' hf'; simp [Target.leads] at hf'; subst hf'; exact hFg
  · simp [invoke, go_sem, eg]
  clear hW1
  have lift : ∀ {A A' : World}, Others Z W1.heap.size A A' → Others Z w.heap.size A A' := fun h =>
    ⟨h.os, h.tape, h.output, h.size, fun k o hk hc => h.block k o hk (hc.imp (fun h => by omega) id)⟩
  have keeps : ∀ {A A' : World} {k : Nat} {o : Obj}, Others Z W1.heap.size A A' → k < W1.heap.size → A.heap[k]? = some o → A'.heap[k]? = some o := fun h hk ho => h.block _ _ ho (.inl hk)
  refine (hseq (w.heap.size + 1) (fun pre W => I pre W ∧ W.heap[w.heap.size + 1]? = some (.loop (rec_ .ready none)) ∧ W.heap[w.heap.size]? = some (.deferred (some []))) W1 hb1
    (fun pre A A' ⟨h1, h2, h3⟩ h => ⟨hI _ _ _ h1 (lift h), keeps h hsz h2, keeps h (by omega) h3⟩) ?_ ⟨hI1, hL, hD⟩).mono ?_
  · rintro pre x W ⟨hi, hl, hk⟩ hpx
    have hy := run_yield (P := P) (args := encs x) hl (hps x)
    refine ⟨fn, _, assign, body, hy, roundIn_of_wpIn hfn (hassign _ pre x W _ hi fun a' Wa hra hkpa hia hax => ?_)⟩
    have hla := hra.same _ _ hl (.inl ⟨by omega, rfl⟩)
    have hka := hra.same _ _ hk (.inl ⟨Nat.le_refl _, rfl⟩)
    have hlt := (Array.getElem?_eq_some_iff.1 hla).1
    refine ⟨_, run_beginRound hla rfl, wpIn_mono (hbody _ pre x a' _ hpx (hI _ _ _ hia (Others.putObj _ (by omega) hla rfl)) (hAx _ _ _ _ hax fun k o hk' hc => ?_)) ?_⟩
    · refine (World.putObj_heap_other ?_).trans hk'
      rintro rfl
      rw [hla] at hk'; cases hk'; simp [Obj.isCells] at hc
    · rintro e a3 W3 hp
      cases e with
      | normal =>
        obtain ⟨hr3, hkp3, hi3⟩ := hp
        have hl3 := hr3.same (w.heap.size + 1) _ (World.putObj_heap_same hlt) (.inl ⟨by omega, rfl⟩)
        have hk3 := hr3.same w.heap.size _ ((World.putObj_heap_other (by omega)).trans hka) (.inl ⟨Nat.le_refl _, rfl⟩)
        have hlt3 := (Array.getElem?_eq_some_iff.1 hl3).1
        refine ⟨_, _, run_endRound none hl3, rfl, ⟨hI _ _ _ hi3 (Others.putObj _ (by omega) hl3 rfl), World.putObj_heap_same hlt3, (World.putObj_heap_other (by omega)).trans hk3⟩, ?_, hKt hkpa (hKt (hKb _ _ _ _ (by omega) hla rfl) (hKt hkp3 (hKb _ _ _ _ (by omega) hl3 rfl)))⟩
        refine ⟨Nat.le_trans (Nat.le_trans hra.size (by simpa using hr3.size)) (by simp), fun k o hk' hc => ?_⟩
        have hc' : w.heap.size ≤ k ∧ o.isCells = false ∨ Z o := hc.imp (fun h => ⟨by omega, h.2⟩) id
        have hkl : k ≠ w.heap.size + 1 := by
          rcases hc with h | h
          · omega
          · rintro rfl; rw [hl] at hk'; cases hk'; exact absurd (hZ _ h) (by simp [Obj.isCells])
        exact (World.putObj_heap_other hkl).trans (hr3.same _ _ ((World.putObj_heap_other hkl).trans (hra.same _ _ hk' hc')) hc')
      | _ => exact hp.elim
  · rintro e W2 ⟨⟨v, rfl⟩, hi, hl, hk⟩
    exact ⟨none, _, run_endLoop hl (by simp [rec_]), hdone _ _ (Nat.le_refl _) (hI _ _ _ hi (Others.putObj _ (by omega) hl rfl)) ((World.putObj_heap_other (by omega)).trans hk)⟩
end Go.Proofs.Ytbopeofglhkffaa
namespace Go.Proofs.Ytbopeofglhkffaa
open Go.RowKit Go.Shelf
attribute [local go_sem] block_of_add Oper.semAt_some
def spCells (s : Sp) : Array Value := #[.int .i64 s.fr, .int .i64 s.up, .int .i64 s.ends, .bool s.sp]
def spEnc (s : Sp) : Array Value := #[.agg (spCells s)]
/-- The iterator's own kind of blocks: cells of type text.span. -/
def isSp (o : Obj) : Prop := ∃ cs fr, o = .cells cs 159 fr
theorem isSp_not {t : TypeId} (h : t ≠ 159) (cs : Array Value) (fr : Nat × Nat) : ¬ isSp (.cells cs t fr) := by
  rintro ⟨cs', fr', e⟩; injection e with _ e; exact h e
/-- What the rounds keep for the iterator: old memory, and the box of the units. -/
def Kp6 (n0 bu : Nat) (W W' : World) : Prop := Below n0 W W' ∧ W'.heap[bu]? = W.heap[bu]?
/-- The iterator between two of its steps: what has come, its own block's cells, the units at hand. -/
structure ItW (J : List Sp → World → Prop) (n0 bu g : Nat) (A : Option Addr) (c len : Nat) (xs : List Value) (out : List Sp) (cs : Array Value) (wr : World) : Prop where
  j : J out wr
  g : Blk wr g 159 cs
  b : Blk wr bu 50 #[.slice A len c]
  r : Reads wr n0 1 A len xs
section
variable {J : List Sp → World → Prop} {n0 bu g : Nat} {A : Option Addr} {c len : Nat} {xs : List Value} {out out' : List Sp} {cs : Array Value} {wr W' : World}
theorem ItW.set_ (h : ItW J n0 bu g A c len xs out cs wr) (hJ : ∀ pre A A', J pre A → Others isSp g A A' → J pre A') (hb : bu < g) (hn : n0 ≤ g) (i : Nat) (v : Value) : ItW J n0 bu g A c len xs out (cs.setIfInBounds i v) (wr.setCell ⟨g, i, none⟩ v) :=
  ⟨hJ _ _ _ h.j (Others.setCell (Z := isSp) (p := ⟨g, i, none⟩) v (Nat.le_refl _) h.g ⟨_, _, rfl⟩), h.g.set_ i v, h.b.far (p := ⟨g, i, none⟩) (show bu ≠ g by omega) v, h.r.setCell (p := ⟨g, i, none⟩) hn v⟩
theorem ItW.yielded {B : Nat} (h : ItW J n0 bu g A c len xs out cs wr) (hj : J out' W') (hr : Round isSp B wr W') (hk : Kp6 n0 bu wr W') : ItW J n0 bu g A c len xs out' cs W' :=
  ⟨hj, hr.same _ _ h.g (.inr ⟨_, _, rfl⟩), hk.2.trans h.b, h.r.below hk.1⟩
end
set_option maxHeartbeats 4000000 in
theorem iter_any (F : Fence) (n : Nat) (hF : F.fn 107) (hro : F.round = none) (hn : 1 ≤ n) (l : List Int) (A : Option Addr) (c : Nat) (n0 bu : Nat) (w0 : World) (hl : U16s l) (hlen : l.length ≤ 4294967296)
    (hn0 : n0 ≤ bu) (hbu : Blk w0 bu 50 #[.slice A l.length c]) (hr : Reads w0 n0 1 A l.length (u16s l)) :
    SeqC F n Try.prog 107 #[.pointer (some ⟨bu, 0, none⟩)] spEnc isSp (Kp6 n0 bu) (spansF l) w0 := by
  intro q J W hW hJ hY h0
  refine callsIn_of_wp Try.func107 rfl hF ?_ hro
  simp only [Try.ntmps107, List.size_toArray, List.length_cons, List.length_nil, Nat.reduceAdd, Nat.reduceSub, Array.replicate_succ, Array.replicate_zero, List.push_toArray, List.append_toArray, List.nil_append, List.cons_append]
  have hsz := hbu.lt
  have hWs := hW.size
  have b0 := hbu.below hW hsz
  have it0 : ItW J n0 bu W.heap.size A c l.length (u16s l) (sc l 0).out (spCells (sc l 0).s) (W.alloc (.cells #[.int .i64 0, .int .i64 0, .int .i64 0, .bool false] 159)) :=
    ⟨hJ _ _ _ h0 (Others.alloc _ _), Blk.new _ _ _, b0.alloc _, (hr.below (hW.mono (by omega))).alloc (by omega) _⟩
  have cu := b0.c1
  have hbW : bu < W.heap.size := by omega
  have hnW : n0 ≤ W.heap.size := by omega
  have IT0 := Lib.hid it0
  clear it0 b0 hr hbu
  gi_wp2
  gi_loopw [4, 9] (fun ins i wr => ∃ k : Nat, k ≤ l.length ∧ i = .int .i64 k ∧ ins = .bool (sc l k).ins ∧ ItW J n0 bu W.heap.size A c l.length (u16s l) (sc l k).out (spCells (sc l k).s) wr)
    (fun _ i _ => l.length - (intOf i).toNat)
  case atStart => exact ⟨0, by omega, rfl, rfl, IT0.out⟩
  case round =>
    obtain ⟨k, hk, rfl, rfl, it⟩ := hrel
    clear cu IT0
    obtain ⟨c0, c1, c2, c3⟩ := it.g.c4
    have hf := it.g.frozen
    have hcu := it.b.c1
    have hend := sc_ends l k
    by_cases hlt : k < l.length
    · obtain ⟨ad, u, rfl, hab, hx, hc⟩ := it.r.at_ hlt
      have hu : u = .int .u16 l[k] := by simpa [u16s, hlt] using hx.symm
      subst hu
      have hx2 := hl.at_ hlt
      clear hx
      rcases (show l[k] = 32 ∨ l[k] = 10 ∨ (l[k] ≠ 32 ∧ l[k] ≠ 10) by omega) with h32 | h10 | ⟨h32, h10⟩
      · have t1 : (l[k] == 32) = true := by simp [h32]
        have t2 : (l[k] == 10) = false := by simp [h32]
        cases hins : (sc l k).ins with
        | true =>
          have hs : sc l (k + 1) = ⟨⟨0, 0, 0, true⟩, false, (sc l k).out ++ [⟨(sc l k).s.fr, k, (sc l k).s.ends, (sc l k).s.sp⟩]⟩ := by simp [sc, scStep, hlt, h32, hins]
          have it1 := it.set_ hJ hbW hnW 1 (.int .i64 (k : Int))
          have hpre : (sc l k).out ++ [(⟨(sc l k).s.fr, k, (sc l k).s.ends, (sc l k).s.sp⟩ : Sp)] <+: spansF l := by
            have := spans_prefix l (k := k + 1) hlt; rw [hs] at this; exact this
          obtain ⟨fn, tmps, assign, body, hy, hR⟩ := hY _ _ _ it1.j hpre
          dsimp only [spEnc, spCells] at hy
          have HS := Lib.hid hs
          clear hs hpre h32
          gi_wp2
          refine hR.mono ?_
          rintro e W3 ⟨rfl, hJ3, hr3, hk3⟩
          have it3 := it1.yielded hJ3 hr3 hk3
          obtain ⟨d0, d1, d2, d3⟩ := it3.g.c4
          have hf3 := it3.g.frozen
          clear hR hy c0 c1 c2 c3 hf hc hcu
          gi_wp2
          go_roundw
          case rel => exact ⟨k + 1, by omega, by go_num, by rw [HS.out], by rw [HS.out]; exact ((((it3.set_ hJ hbW hnW 0 (.int .i64 0)).set_ hJ hbW hnW 1 (.int .i64 0)).set_ hJ hbW hnW 2 (.int .i64 0)).set_ hJ hbW hnW 3 (.bool false)).set_ hJ hbW hnW 3 (.bool true)⟩
          case measure => simp [intOf]; omega
        | false =>
          have hs : sc l (k + 1) = ⟨⟨(sc l k).s.fr, (sc l k).s.up, (sc l k).s.ends, true⟩, false, (sc l k).out⟩ := by simp [sc, scStep, hlt, h32, hins]
          have HS := Lib.hid hs
          clear hs h32
          gi_wp2
          go_roundw
          case rel => exact ⟨k + 1, by omega, by go_num, by rw [HS.out], by rw [HS.out]; exact it.set_ hJ hbW hnW 3 (.bool true)⟩
          case measure => simp [intOf]; omega
      · have t1 : (l[k] == 32) = false := by simp [h10]
        have t2 : (l[k] == 10) = true := by simp [h10]
        cases hins : (sc l k).ins with
        | true =>
          have hs : sc l (k + 1) = ⟨⟨0, 0, 1, false⟩, false, (sc l k).out ++ [⟨(sc l k).s.fr, k, (sc l k).s.ends, (sc l k).s.sp⟩]⟩ := by simp [sc, scStep, hlt, h10, hins]
          have it1 := it.set_ hJ hbW hnW 1 (.int .i64 (k : Int))
          have hpre : (sc l k).out ++ [(⟨(sc l k).s.fr, k, (sc l k).s.ends, (sc l k).s.sp⟩ : Sp)] <+: spansF l := by
            have := spans_prefix l (k := k + 1) hlt; rw [hs] at this; exact this
          obtain ⟨fn, tmps, assign, body, hy, hR⟩ := hY _ _ _ it1.j hpre
          dsimp only [spEnc, spCells] at hy
          have HS := Lib.hid hs
          clear hs hpre h10
          gi_wp2
          refine hR.mono ?_
          rintro e W3 ⟨rfl, hJ3, hr3, hk3⟩
          have it3 := it1.yielded hJ3 hr3 hk3
          obtain ⟨d0, d1, d2, d3⟩ := it3.g.c4
          have hf3 := it3.g.frozen
          clear hR hy c0 c1 c2 c3 hf hc hcu
          gi_wp2
          go_roundw
          case rel => exact ⟨k + 1, by omega, by go_num, by rw [HS.out], by rw [HS.out]; exact ((((it3.set_ hJ hbW hnW 0 (.int .i64 0)).set_ hJ hbW hnW 1 (.int .i64 0)).set_ hJ hbW hnW 2 (.int .i64 0)).set_ hJ hbW hnW 3 (.bool false)).set_ hJ hbW hnW 2 (.int .i64 1)⟩
          case measure => simp [intOf]; omega
        | false =>
          have hs : sc l (k + 1) = ⟨⟨(sc l k).s.fr, (sc l k).s.up, (sc l k).s.ends + 1, (sc l k).s.sp⟩, false, (sc l k).out⟩ := by simp [sc, scStep, hlt, h10, hins]
          have HS := Lib.hid hs
          clear hs h10
          gi_wp2
          go_roundw
          case rel => exact ⟨k + 1, by omega, by go_num, by rw [HS.out], by rw [HS.out]; exact it.set_ hJ hbW hnW 2 _⟩
          case measure => simp [intOf]; omega
      · have t1 : (l[k] == 32) = false := by simp [h32]
        have t2 : (l[k] == 10) = false := by simp [h10]
        cases hins : (sc l k).ins with
        | true =>
          have hs : sc l (k + 1) = sc l k := by simp [sc, scStep, hlt, h32, h10, hins]
          have HS := Lib.hid hs
          clear hs h32 h10
          gi_wp2
          go_roundw
          case rel => exact ⟨k + 1, by omega, by go_num, by rw [HS.out, hins], by rw [HS.out]; exact it⟩
          case measure => simp [intOf]; omega
        | false =>
          have hs : sc l (k + 1) = ⟨⟨k, (sc l k).s.up, (sc l k).s.ends, (sc l k).s.sp⟩, true, (sc l k).out⟩ := by simp [sc, scStep, hlt, h32, h10, hins]
          have HS := Lib.hid hs
          clear hs h32 h10
          gi_wp2
          go_roundw
          case rel => exact ⟨k + 1, by omega, by go_num, by rw [HS.out], by rw [HS.out]; exact it.set_ hJ hbW hnW 0 _⟩
          case measure => simp [intOf]; omega
    · obtain rfl : k = l.length := by omega
      cases hins : (sc l l.length).ins with
      | true =>
        have hs : spansF l = (sc l l.length).out ++ [⟨(sc l l.length).s.fr, l.length, (sc l l.length).s.ends, (sc l l.length).s.sp⟩] := by simp [spansF, hins]
        have it1 := it.set_ hJ hbW hnW 1 (.int .i64 (l.length : Int))
        obtain ⟨fn, tmps, assign, body, hy, hR⟩ := hY _ _ _ it1.j (by rw [hs]; exact List.prefix_refl _)
        dsimp only [spEnc, spCells] at hy
        have HS := Lib.hid hs
        clear hs
        gi_wp2
        refine hR.mono ?_
        rintro e W3 ⟨rfl, hJ3, hr3, hk3⟩
        gi_wp2
        go_end0
        exact ⟨⟨_, rfl⟩, by rw [HS.out]; exact hJ3⟩
      | false =>
        have hs : spansF l = (sc l l.length).out := by simp [spansF, hins]
        have HS := Lib.hid hs
        clear hs
        gi_wp2
        go_end0
        exact ⟨⟨_, rfl⟩, by rw [HS.out]; exact it.j⟩
end Go.Proofs.Ytbopeofglhkffaa
namespace Go.Proofs.Ytbopeofglhkffaa
open Go.RowKit
variable {P : Program} {ops : Array Oper} {Q : Exit → Act → World → Prop}
/-- No operation of the list is a defer statement. -/
def notDefer (ops : Array Oper) : Bool := ops.all fun o => match o.op with | .defer _ => false | _ => true
theorem notDefer_of (h : notDefer ops = true) (i : Nat) (o : Oper) (ho : ops[i]? = some o) : ∀ c, o.op ≠ .defer c := by
  intro c hc
  unfold notDefer at h
  rw [Array.all_eq_true] at h
  obtain ⟨hi, rfl⟩ := Array.getElem?_eq_some_iff.1 ho
  have := h i hi
  rw [hc] at this
  exact absurd this (by simp)
theorem rowsIn_wide {n : Nat} {row : String} {args : Array Value} {w : World} {R : Value → World → Prop} (h : Rows P row args w R) : RowsIn Fence.wide n P row args w R :=
  fun c cs _ => let ⟨v, w', r, s⟩ := h c cs; ⟨v, w', r, stepsIn_wide.2 s⟩
theorem wpOp_round {q n : Nat} (o : Oper) (hd : ∀ c, o.op ≠ .defer c) (a : Act) (w : World) (K K' : Act → World → Prop) (hK : ∀ a w, K a w → K' a w) (h : o.wp P a w K Q) : o.wpIn (Fence.wide.inRound q) n P a w K' Q := by
  refine ⟨fun _ _ => trivial, ?_⟩
  rw [Oper.semAt_eq _ _ _ hd]
  unfold Oper.wp at h
  generalize (execOp a.eval o).run P w = r at *
  cases r with
  | ok x w' =>
    cases x <;> simp only [Oper.upon] at h
    case value => exact hK _ _ h
    case skip => exact hK _ _ h
    case defer => exact hK _ _ h
    case enter f args =>
      refine ⟨fun h => by simp [Fence.wide] at h, ?_⟩
      exact CallsIn.inRound q (callsIn_wide.2 (h.mono fun e w'' he => by cases e <;> first | exact hK _ _ he | exact he))
    case row row args =>
      refine ⟨fun h => by simp [Fence.wide] at h, ?_⟩
      exact rowsIn_wide (h.mono fun _ _ he => hK _ _ he)
  | halt x w' => cases x <;> simp only [Oper.upon] at h <;> exact h
theorem wpOps_round {q n : Nat} (hd : ∀ (i : Nat) (o : Oper), ops[i]? = some o → ∀ c, o.op ≠ .defer c) (hQ : ¬ LetsOut Q) : ∀ (l : List Nat) (a : Act) (w : World), wpOps P ops Q l a w → wpOpsIn (Fence.wide.inRound q) n P ops Q l a w := by
  intro l
  induction l with
  | nil => exact fun a w h => h
  | cons i rest ih =>
    intro a w h
    simp only [wpOps] at h
    simp only [wpOpsIn]
    cases ho : ops[i]? with
    | none => simp only [ho] at h; exact ih _ _ h
    | some o =>
      simp only [ho] at h
      by_cases hw : Region.wanted o (yielded ops a.tmps) = true
      · rw [if_pos hw] at h
        simp only [hw, if_true]
        rcases h with h | h
        · exact wpOp_round o (hd i o ho) a w _ _ ih h
        · exact absurd h.2 hQ
      · rw [if_neg hw] at h
        simp only [hw]
        exact ⟨fun _ _ => trivial, ih _ _ h⟩
theorem region_round {q n id : Nat} {S : World → Prop} {a : Act} {w : World} (hm : P.follows .mixedOrders = true) (hd : ∀ (i : Nat) (o : Oper), ops[i]? = some o → ∀ c, o.op ≠ .defer c) (hQ : ¬ LetsOut Q) (hS : S w.drew)
    (h : S w.drew → wpAnyH P .any ops Q S ops.size (Array.replicate ops.size false) a w.drew) : (Code.region id ops true).wpIn (Fence.wide.inRound q) n P Q a w :=
  wpIn_region_draw fun t => by
    simp only [Region.schedule, hm, Bool.true_or, if_true]
    exact wpOps_round hd hQ _ _ _ (wpAny_sound ops.size t _ a _ (wpAny_of_held _ _ _ _ (h hS)))
end Go.Proofs.Ytbopeofglhkffaa
