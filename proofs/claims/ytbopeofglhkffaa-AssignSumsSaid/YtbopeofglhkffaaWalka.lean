/- For the contract of package text's Words: what holds between two rounds. -/
import Derived.Test.YtbopeofglhkffaaRound
import Derived.Test.YtbopeofglhkffaaApp
import Derived.Deep.RegionHeld3
import Derived.BigQuiet
import Derived.Deep.QuietTactic
set_option linter.unusedSimpArgs false
set_option linter.unusedVariables false
namespace Go.Proofs.Ytbopeofglhkffaa
open Go.RowKit Go.Shelf
attribute [local go_sem] block_of_add Oper.semAt_some
theorem el_word : El Try.prog 121 146 (.agg #[.int .i64 0, .int .i64 0, .int .i64 0, .int .i64 0, .int .i64 0]) 5 40 := ⟨Try.underlying121, by kernel_rfl, rfl, by decide⟩
set_option maxHeartbeats 400000 in
theorem spans_any (A : Option Addr) (n c : Nat) (w : World) : Calls Try.prog 103 #[.slice A n c] w fun e w' => e = .returned (.func (.func 107) #[] #[.pointer (some ⟨w.heap.size, 0, none⟩)]) ∧ w.alloc (.cells #[.slice A n c] 50) = w' := by
  go_enter Try.func103, Try.ntmps103
  go_wp2
  go_ret
  exact ⟨rfl, rfl⟩
/-- Words between two rounds: what has been collected; the boxes. -/
structure WI (w : World) (t l : List Int) (A B : Option Addr) (c d : Nat) (pre : List Sp) (W : World) : Prop where
  v : ∃ v, Blk W (w.heap.size + 1 + 1) 121 #[v] ∧ W.ownsRow w.heap.size 146 5 v (wordsOf t l pre).1.length (wdsCells (wordsOf t l pre).1)
  far : Blk W (w.heap.size + 1 + 1 + 1) 4 #[.bool (wordsOf t l pre).2]
  units : Blk W w.heap.size 50 #[.slice A l.length c]
  advs : Blk W (w.heap.size + 1) 23 #[.slice B t.length d]
  gap : Blk W (w.heap.size + 1 + 1 + 1 + 1) 2 #[.int .i64 (cutF (adv t 32))]
  wide : Blk W (w.heap.size + 1 + 1 + 1 + 1 + 1) 4 #[.bool (cutB (adv t 32))]
  it : Blk W (w.heap.size + 1 + 1 + 1 + 1 + 1 + 1) 50 #[.slice A l.length c]
  old : Below w.heap.size w W
theorem WI.others {w : World} {t l : List Int} {A B : Option Addr} {c d : Nat} {pre : List Sp} {W W' : World} {b : Nat} (h : WI w t l A B c d pre W) (ho : Others isSp b W W') (hb : w.heap.size ≤ b) : WI w t l A B c d pre W' := by
  obtain ⟨⟨v, h1, h2⟩, h3, h4, h5, h6, h7, h8, h9⟩ := h
  exact ⟨⟨v, ho.blk h1 (isSp_not (by decide)), ho.own h2 (isSp_not (by decide))⟩, ho.blk h3 (isSp_not (by decide)), ho.blk h4 (isSp_not (by decide)), ho.blk h5 (isSp_not (by decide)), ho.blk h6 (isSp_not (by decide)), ho.blk h7 (isSp_not (by decide)),
    ho.blk h8 (isSp_not (by decide)), ho.below hb h9 (Nat.le_refl _)⟩
/-- The frame in which a round's body begins: the word at hand in a box. -/
def WAx (w : World) (t l : List Int) (A B : Option Addr) (c d : Nat) (x : Sp) (a : Act) (W : World) : Prop := ∃ Bx, w.heap.size + 1 + 1 + 1 + 1 + 1 + 1 < Bx ∧ Blk W Bx 159 (spCells x) ∧ a = { tmps := #[.slice A l.length c, .slice B t.length d, .pointer (some ⟨w.heap.size, 0, none⟩), .pointer (some ⟨w.heap.size + 1, 0, none⟩), .pointer (some ⟨w.heap.size + 1 + 1, 0, none⟩), .pointer (some ⟨w.heap.size + 1 + 1 + 1, 0, none⟩), .pointer (some ⟨w.heap.size + 1 + 1 + 1 + 1, 0, none⟩), .pointer (some ⟨w.heap.size + 1 + 1 + 1 + 1 + 1, 0, none⟩), .pointer (some ⟨Bx, 0, none⟩), undef, undef, undef, .tuple #[.int .i64 (cutF (adv t 32)), .bool (cutB (adv t 32))], .slice B t.length d, .int .i64 (adv t 32), .tuple #[.int .i64 (cutF (adv t 32)), .bool (cutB (adv t 32))], .int .i64 (cutF (adv t 32)), .bool (cutB (adv t 32)), .slice A l.length c, .func (.func 107) #[] #[.pointer (some ⟨w.heap.size + 1 + 1 + 1 + 1 + 1 + 1, 0, none⟩)], .agg (spCells x), undef, undef, undef, undef, undef, undef, undef, undef, undef, undef, undef, undef, undef, undef, undef, undef, undef, undef, undef, undef, undef, undef, undef, undef, undef, undef, undef, undef, undef, undef, undef, undef, undef, undef, undef, undef, undef, undef, undef, undef, undef, undef, undef, undef, undef, undef, undef], defers := [] }
theorem kp6_t {n0 bu : Nat} {X Y Z : World} (h : Kp6 n0 bu X Y) (k : Kp6 n0 bu Y Z) : Kp6 n0 bu X Z := ⟨h.1.trans k.1, k.2.trans h.2⟩
theorem kp6_b {n0 bu b : Nat} (hn : n0 ≤ b) (hb : bu < b) (W : World) (l : Nat) (o o' : Obj) (hl : b ≤ l) (h : W.heap[l]? = some o) (_ : o.isCells = false) : Kp6 n0 bu W (W.putObj l o') :=
  ⟨(Below.refl _ W).grown (grownBy_putObj' W l o') (by have := (Array.getElem?_eq_some_iff.1 h).1; omega) (fun k e => by cases e; omega), World.putObj_heap_other (by omega)⟩
theorem WI.step {w : World} {t l : List Int} {A B Av A' : Option Addr} {c d cv c' : Nat} {pre : List Sp} {x : Sp} {W W1 w' : World} {b : Nat} {wc : Array Value} {nb : Bool} (hi : WI w t l A B c d pre W) (hb : Below W.heap.size W W1)
    (hv : Blk W (w.heap.size + 1 + 1) 121 #[.slice Av (wordsOf t l pre).1.length cv]) (hw : w.heap.size ≤ b)
    (hown : W.ownsRow w.heap.size 146 5 (.slice Av (wordsOf t l pre).1.length cv) (wordsOf t l pre).1.length (wdsCells (wordsOf t l pre).1))
    (hown' : w'.ownsRow w.heap.size 146 5 (.slice A' ((wordsOf t l pre).1.length + 1) c') ((wordsOf t l pre).1.length + 1) (wdsCells (wordsOf t l pre).1 ++ wdCells (mkW t l (wordsOf t l pre).1.isEmpty x)))
    (hg : ((W1.setCell ⟨w.heap.size + 1 + 1 + 1, 0, none⟩ (.bool nb)).alloc (.cells wc 146)).grownBy w' (Value.slice Av (wordsOf t l pre).1.length cv).ownBlock)
    (hnb : nb = ((wordsOf t l pre).2 || overW t l (wordsOf t l pre).1.isEmpty x)) :
    Round isSp b W (w'.setCell ⟨w.heap.size + 1 + 1, 0, none⟩ (.slice A' ((wordsOf t l pre).1.length + 1) c')) ∧ Kp6 w.heap.size (w.heap.size + 1 + 1 + 1 + 1 + 1 + 1) W (w'.setCell ⟨w.heap.size + 1 + 1, 0, none⟩ (.slice A' ((wordsOf t l pre).1.length + 1) c')) ∧
      WI w t l A B c d (pre ++ [x]) (w'.setCell ⟨w.heap.size + 1 + 1, 0, none⟩ (.slice A' ((wordsOf t l pre).1.length + 1) c')) := by
  obtain ⟨_, hfar, hun, had, hgp, hwd, hit, hold⟩ := hi
  have hs1 := hb.size
  have ho1 := own_below hown hb
  have nr : ∀ {g : Nat} {ty : TypeId} {cs : Array Value}, Blk W g ty cs → ty ≠ 146 → some g ≠ (Value.slice Av (wordsOf t l pre).1.length cv).ownBlock := fun h hne => (own_blk_ne hown h (Ne.symm hne)).symm
  -- a box of W that is neither the flag's nor the words'
  have k1 : ∀ {g : Nat} {ty : TypeId} {cs : Array Value}, Blk W g ty cs → ty ≠ 146 → g ≠ w.heap.size + 1 + 1 + 1 → g ≠ w.heap.size + 1 + 1 → Blk (w'.setCell ⟨w.heap.size + 1 + 1, 0, none⟩ (.slice A' ((wordsOf t l pre).1.length + 1) c')) g ty cs := fun h ht h3 h2 =>
    ((((h.below hb h.lt).far (p := ⟨w.heap.size + 1 + 1 + 1, 0, none⟩) h3 _).alloc _).grown hg (nr h ht)).far (p := ⟨w.heap.size + 1 + 1, 0, none⟩) h2 _
  have hv' : Blk (w'.setCell ⟨w.heap.size + 1 + 1, 0, none⟩ (.slice A' ((wordsOf t l pre).1.length + 1) c')) (w.heap.size + 1 + 1) 121 #[.slice A' ((wordsOf t l pre).1.length + 1) c'] :=
    ((((hv.below hb hv.lt).far (p := ⟨w.heap.size + 1 + 1 + 1, 0, none⟩) (by simp) _).alloc _).grown hg (nr hv (by decide))).set_ 0 _
  have hf' : Blk (w'.setCell ⟨w.heap.size + 1 + 1, 0, none⟩ (.slice A' ((wordsOf t l pre).1.length + 1) c')) (w.heap.size + 1 + 1 + 1) 4 #[.bool nb] :=
    ((((hfar.below hb hfar.lt).set_ 0 (.bool nb)).alloc _).grown hg (nr hfar (by decide))).far (p := ⟨w.heap.size + 1 + 1, 0, none⟩) (by simp) _
  have hW1 : w.heap.size ≤ W1.heap.size := by have := hold.size; omega
  have hbel : Below w.heap.size W (w'.setCell ⟨w.heap.size + 1 + 1, 0, none⟩ (.slice A' ((wordsOf t l pre).1.length + 1) c')) :=
    (((((hb.mono hold.size).setCell (p := ⟨w.heap.size + 1 + 1 + 1, 0, none⟩) (by simp; omega) _).alloc (by simpa [World.setCell] using hW1) _).grown hg (by simpa [World.setCell] using Nat.le_succ_of_le hW1) (fun k hk => (hown.lt k hk.symm.symm).1)).setCell (p := ⟨w.heap.size + 1 + 1, 0, none⟩) (by simp; omega) _)
  refine ⟨?_, ⟨hbel, ?_⟩, ?_⟩
  · have r1 : Round isSp b W (W1.setCell ⟨w.heap.size + 1 + 1 + 1, 0, none⟩ (.bool nb)) := ((Round.refl W).below hb (Nat.le_refl _)).setCell (hfar.below hb hfar.lt) (isSp_not (by decide)) _
    have ho2 := ho1.kept (w' := (W1.setCell ⟨w.heap.size + 1 + 1 + 1, 0, none⟩ (.bool nb)).alloc (.cells wc 146)) (row := some (w.heap.size + 1 + 1 + 1))
      ⟨rfl, rfl, rfl, by simp [World.setCell], fun k hk hne => (Below.heap_alloc _ _ k (by simpa [World.setCell] using hk)).trans (Below.heap_setCell _ _ _ _ (fun e => hne (by rw [e])))⟩ (.inr (nr hfar (by decide)).symm)
    refine ((r1.alloc _).grown hg (own_cells ho2 (isSp_not (by decide)))).setCell (cs := #[.slice Av (wordsOf t l pre).1.length cv]) (t := 121) ?_ (isSp_not (by decide)) _
    exact (((hv.below hb hv.lt).far (p := ⟨w.heap.size + 1 + 1 + 1, 0, none⟩) (by simp) _).alloc _).grown hg (nr hv (by decide))
  · exact (k1 hit (by decide) (by omega) (by omega)).trans hit.symm
  · refine ⟨⟨_, hv', ?_⟩, ?_, k1 hun (by decide) (by omega) (by omega), k1 had (by decide) (by omega) (by omega), k1 hgp (by decide) (by omega) (by omega), k1 hwd (by decide) (by omega) (by omega), k1 hit (by decide) (by omega) (by omega), hold.trans hbel⟩
    · rw [wordsOf_snoc]
      simp only [stepW, List.length_append, List.length_singleton, wdsCells_snoc]
      refine hown'.kept (row := some (w.heap.size + 1 + 1)) ⟨rfl, rfl, rfl, by simp [World.setCell], fun k _ hne => Below.heap_setCell _ _ _ _ (fun e => hne (by rw [e]))⟩ (.inr ?_)
      exact own_blk_ne hown' ((((hv.below hb hv.lt).far (p := ⟨w.heap.size + 1 + 1 + 1, 0, none⟩) (by simp) _).alloc _).grown hg (nr hv (by decide))) (by decide)
    · rw [wordsOf_snoc]
      simp only [stepW]
      rw [← hnb]
      exact hf'
theorem part_len {l : List Int} {s : Sp} (h : s.fr ≤ s.up) (hl : s.up ≤ l.length) : (part l s).length = s.up - s.fr := by simp [part]; omega
theorem part_u16 {l : List Int} {s : Sp} (h : U16s l) : U16s (part l s) := fun x hx => h x (List.mem_of_mem_drop (List.mem_of_mem_take hx))
theorem part_reads {l : List Int} {s : Sp} {W : World} {n0 B : Nat} {ad : Addr} (h : Reads W n0 1 (some ad) l.length (u16s l)) (hB : n0 ≤ B) (hf : s.fr ≤ s.up) (hl : s.up ≤ l.length) : Reads W B 1 (some (ad.add s.fr)) (part l s).length (u16s (part l s)) := by
  refine ⟨by simp [u16s], fun hn => ?_⟩
  rw [part_len hf hl] at hn
  obtain ⟨ad', e, hb, hc⟩ := h.2 (by omega)
  injection e with e
  subst e
  refine ⟨_, rfl, by rw [block_of_add]; omega, fun j u hu => ?_⟩
  rw [add_of_add]
  refine hc _ u ?_
  simp only [part, u16s, List.map_take, List.map_drop, List.getElem?_take, List.getElem?_drop] at hu ⊢
  split at hu
  · exact hu
  · cases hu
end Go.Proofs.Ytbopeofglhkffaa
