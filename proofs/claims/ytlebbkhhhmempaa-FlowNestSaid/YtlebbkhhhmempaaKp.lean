/- Worlds that differ in some blocks alone. -/
import Derived.Test.YtlebbkhhhmempaaBase
set_option linter.unusedSimpArgs false
set_option linter.unusedVariables false
namespace Go.Proofs.Ytlebbkhhhmempaa
open Go.RowKit

/-- Of what was there nothing has turned but the blocks that are named. -/
structure Kp (bad : Nat → Prop) (w w' : World) : Prop where
  os : w'.os = w.os
  tape : w'.tape = w.tape
  output : w'.output = w.output
  size : w.heap.size ≤ w'.heap.size
  block : ∀ k, k < w.heap.size → ¬ bad k → w'.heap[k]? = w.heap[k]?

section
variable {bad bad' : Nat → Prop} {a b w w' : World} {B g : Nat} {t : TypeId} {cs : Array Value}
theorem Kp.refl (bad : Nat → Prop) (w : World) : Kp bad w w := ⟨rfl, rfl, rfl, Nat.le_refl _, fun _ _ _ => rfl⟩
theorem Kp.trans (h : Kp bad a b) (k : Kp bad b w) : Kp bad a w :=
  ⟨k.os.trans h.os, k.tape.trans h.tape, k.output.trans h.output, Nat.le_trans h.size k.size, fun i hi hn => (k.block i (Nat.lt_of_lt_of_le hi h.size) hn).trans (h.block i hi hn)⟩
/-- The second step may turn more: what the first one made. -/
theorem Kp.trans' (h : Kp bad a b) (k : Kp bad' b w) (hb : ∀ i, i < a.heap.size → bad' i → bad i) : Kp bad a w :=
  ⟨k.os.trans h.os, k.tape.trans h.tape, k.output.trans h.output, Nat.le_trans h.size k.size, fun i hi hn => (k.block i (Nat.lt_of_lt_of_le hi h.size) (fun h => hn (hb i hi h))).trans (h.block i hi hn)⟩
theorem Kp.mono (h : Kp bad a b) (hb : ∀ k, bad k → bad' k) : Kp bad' a b := ⟨h.os, h.tape, h.output, h.size, fun k hk hn => h.block k hk fun x => hn (hb k x)⟩
theorem Kp.drew (h : Kp bad a w) : Kp bad a w.drew := ⟨h.os, h.tape, h.output, h.size, h.block⟩
theorem Kp.drewN (h : Kp bad a w) (n : Nat) : Kp bad a (w.drewN n) := ⟨h.os, h.tape, h.output, h.size, h.block⟩
theorem Kp.alloc (h : Kp bad a w) (o : Obj) : Kp bad a (w.alloc o) := h.trans ⟨rfl, rfl, rfl, by simp, fun k hk _ => Below.heap_alloc _ _ _ hk⟩
theorem Kp.setCell (h : Kp bad a w) {p : Addr} (hp : bad p.block ∨ a.heap.size ≤ p.block) (u : Value) : Kp bad a (w.setCell p u) :=
  ⟨h.os, h.tape, h.output, by simpa [World.setCell] using h.size, fun k hk hn => (Below.heap_setCell w p u k (by
    rintro rfl
    rcases hp with hp | hp
    · exact hn hp
    · omega)).trans (h.block k hk hn)⟩
theorem Kp.of_below (h : Below w.heap.size w w') (bad : Nat → Prop) : Kp bad w w' := ⟨h.os, h.tape, h.output, h.size, fun k hk _ => h.block k hk⟩
theorem Kp.of_belowB (h : Below B w w') : Kp (fun k => B ≤ k) w w' := ⟨h.os, h.tape, h.output, h.size, fun k _ hn => h.block k (by omega)⟩
theorem Kp.below (h : Kp bad w w') (hb : ∀ k, bad k → B ≤ k) (hB : B ≤ w.heap.size) : Below B w w' := ⟨h.os, h.tape, h.output, h.size, fun k hk => h.block k (by omega) (fun x => by have := hb k x; omega)⟩
theorem Kp.grown {row : Option Nat} (h : Kp bad a w) (hg : w.grownBy w' row) (hr : ∀ g, row = some g → bad g ∨ a.heap.size ≤ g) : Kp bad a w' :=
  ⟨hg.os.trans h.os, hg.tape.trans h.tape, hg.output.trans h.output, Nat.le_trans h.size hg.size, fun k hk hn => (hg.block k (Nat.lt_of_lt_of_le hk h.size) (fun e => by
    rcases hr k e.symm with x | x
    · exact hn x
    · omega)).trans (h.block k hk hn)⟩
theorem Kp.cell (h : Kp bad w w') {p : Addr} (hp : p.block < w.heap.size) (hn : ¬ bad p.block) : w'.cell? p = w.cell? p := World.cell?_of_block (w := w) (h.block p.block hp hn)
theorem Kp.frozen (h : Kp bad w w') {p : Addr} (hp : p.block < w.heap.size) (hn : ¬ bad p.block) : w'.frozen? p = w.frozen? p := World.frozen?_of_block (w := w) (h.block p.block hp hn)
theorem Blk.kp (h : Blk w g t cs) (hk : Kp bad w w') (hn : ¬ bad g) : Blk w' g t cs := (hk.block g h.lt hn).trans h
theorem own_kp {base : Nat} {e : TypeId} {size n : Nat} {v : Value} {xs : List Value} (h : w.ownsRow base e size v n xs) (hk : Kp bad w w') (hn : ∀ g, v.ownBlock = some g → ¬ bad g) : w'.ownsRow base e size v n xs := by
  obtain ⟨h1, h2⟩ := h
  refine ⟨h1, ?_⟩
  rcases h2 with h2 | ⟨g, cap, cur, hv, hb, hh, hr⟩
  · exact .inl h2
  · have hl : g < w.heap.size := (Array.getElem?_eq_some_iff.1 hh).1
    exact .inr ⟨g, cap, cur, hv, hb, (hk.block g hl (hn g (by rw [hv]; simp [Value.ownBlock]))).trans hh, hr⟩
theorem Reads.kp {B size n : Nat} {A : Option Addr} {xs : List Value} (h : Reads w B size A n xs) (hk : Kp bad w w') (hB : B ≤ w.heap.size) (hn : ∀ k, bad k → B ≤ k) : Reads w' B size A n xs := h.below (hk.below hn hB)
end
end Go.Proofs.Ytlebbkhhhmempaa
