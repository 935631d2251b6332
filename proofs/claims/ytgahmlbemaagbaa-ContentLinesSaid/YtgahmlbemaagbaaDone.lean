/- The contract of the closure in text.Extent: a row is shut. -/
import Derived.Test.YtgahmlbemaagbaaExt
set_option linter.unusedSimpArgs false
set_option linter.unusedVariables false
namespace Go.Proofs.Ytgahmlbemaagbaa
open Go.RowKit
attribute [local go_sem] block_of_add

theorem max_ite (a b : Int) : (if a < b then b else a) = max a b := by rw [Int.max_def]; split <;> split <;> omega
theorem own_zero {w : World} {base n c size : Nat} {e : TypeId} {A : Option Addr} {xs : List Value} (h : w.ownsRow base e size (.slice A n c) n xs) : w.ownsRow base e size (.slice A 0 c) 0 [] := by
  rcases h.2 with ⟨hv, _⟩ | ⟨g, cap, cur, hv, hb, hh, _, hm, hs, _⟩
  · injection hv with h1 h2 h3
    subst h1; subst h3
    exact World.ownsRow_nil _ _ _ _
  · injection hv with h1 h2 h3
    subst h1; subst h3
    exact ⟨by simp, .inr ⟨g, c, cur, rfl, hb, hh, Nat.zero_le _, hm, hs, by simp⟩⟩

theorem done_fin {W : World} {R G F base : Nat} {A : Option Addr} {n c : Nat} {g m : Int} {b ob : Bool} (hR : Blk W R 25 #[.slice A n c]) (hG : Blk W G 2 #[.int .i64 g]) (hF : Blk W F 4 #[.bool b]) (hO : W.ownsRow base 2 1 (.slice A 0 c) 0 [])
    (hRG : R ≠ G) (hRF : R ≠ F) (hGF : G ≠ F) (hOG : (Value.slice A 0 c).ownBlock ≠ some G) (w0 : World) (hb : Below base w0 W) (ho : ∀ k, k < w0.heap.size → W.heap[k]? = w0.heap[k]?) (hbR : base ≤ R) (hbG : base ≤ G) (hbF : base ≤ F) :
    Blk (((W.setCell ⟨G, 0, none⟩ (.int .i64 m)).setCell ⟨F, 0, none⟩ (.bool ob)).setCell ⟨R, 0, none⟩ (.slice A 0 c)) R 25 #[.slice A 0 c] ∧
    Blk (((W.setCell ⟨G, 0, none⟩ (.int .i64 m)).setCell ⟨F, 0, none⟩ (.bool ob)).setCell ⟨R, 0, none⟩ (.slice A 0 c)) G 2 #[.int .i64 m] ∧
    Blk (((W.setCell ⟨G, 0, none⟩ (.int .i64 m)).setCell ⟨F, 0, none⟩ (.bool ob)).setCell ⟨R, 0, none⟩ (.slice A 0 c)) F 4 #[.bool ob] ∧
    (((W.setCell ⟨G, 0, none⟩ (.int .i64 m)).setCell ⟨F, 0, none⟩ (.bool ob)).setCell ⟨R, 0, none⟩ (.slice A 0 c)).ownsRow base 2 1 (.slice A 0 c) 0 [] ∧
    Below base w0 (((W.setCell ⟨G, 0, none⟩ (.int .i64 m)).setCell ⟨F, 0, none⟩ (.bool ob)).setCell ⟨R, 0, none⟩ (.slice A 0 c)) ∧
    (∀ k, k < w0.heap.size → k ≠ R → k ≠ G → k ≠ F → (((W.setCell ⟨G, 0, none⟩ (.int .i64 m)).setCell ⟨F, 0, none⟩ (.bool ob)).setCell ⟨R, 0, none⟩ (.slice A 0 c)).heap[k]? = w0.heap[k]?) := by
  have hR2 : Blk ((W.setCell ⟨G, 0, none⟩ (.int .i64 m)).setCell ⟨F, 0, none⟩ (.bool ob)) R 25 #[.slice A n c] := (hR.far (p := ⟨G, 0, none⟩) hRG _).far (p := ⟨F, 0, none⟩) hRF _
  have hG2 : Blk (W.setCell ⟨G, 0, none⟩ (.int .i64 m)) G 2 #[.int .i64 m] := hG.set_ 0 _
  have hF2 : Blk ((W.setCell ⟨G, 0, none⟩ (.int .i64 m)).setCell ⟨F, 0, none⟩ (.bool ob)) F 4 #[.bool ob] := (hF.far (p := ⟨G, 0, none⟩) hGF.symm _).set_ 0 _
  have own : ∀ {w : World} {p : Nat} {u : Value}, w.ownsRow base 2 1 (.slice A 0 c) 0 [] → (Value.slice A 0 c).ownBlock ≠ some p → (w.setCell ⟨p, 0, none⟩ u).ownsRow base 2 1 (.slice A 0 c) 0 [] := fun {w p u} h hp =>
    h.kept (w' := w.setCell ⟨p, 0, none⟩ u) (row := some p) ⟨rfl, rfl, rfl, by simp [World.setCell], fun k _ hne => Below.heap_setCell _ _ _ _ (fun e => hne (by rw [e]))⟩ (.inr hp)
  refine ⟨hR2.set_ 0 _, (hG2.far (p := ⟨F, 0, none⟩) hGF _).far (p := ⟨R, 0, none⟩) hRG.symm _, hF2.far (p := ⟨R, 0, none⟩) hRF.symm _, ?_, ((hb.setCell (p := ⟨G, 0, none⟩) hbG _).setCell (p := ⟨F, 0, none⟩) hbF _).setCell (p := ⟨R, 0, none⟩) hbR _, fun k hk h1 h2 h3 => (Below.heap_setCell _ ⟨R, 0, none⟩ _ k h1).trans ((Below.heap_setCell _ ⟨F, 0, none⟩ _ k h3).trans ((Below.heap_setCell _ ⟨G, 0, none⟩ _ k h2).trans (ho k hk)))⟩
  exact own (own (own hO hOG) (own_blk_ne hO hF (by decide))) (own_blk_ne hO hR (by decide))

set_option maxRecDepth 100000 in
set_option maxHeartbeats 2000000 in
theorem done_any (rl : List Int) (A : Option Addr) (c : Nat) (g : Int) (b : Bool) (R G F base : Nat) (w : World) (hrl : I64s rl) (hn : rl.length ≤ 4611686018427387904)
    (hr : Blk w R 25 #[.slice A rl.length c]) (hg : Blk w G 2 #[.int .i64 g]) (hf : Blk w F 4 #[.bool b]) (hown : w.ownsRow base 2 1 (.slice A rl.length c) rl.length (i64s rl))
    (hbR : base ≤ R) (hbG : base ≤ G) (hbF : base ≤ F) (hOG : (Value.slice A 0 c).ownBlock ≠ some G) :
    Calls Try.prog 99 #[.pointer (some ⟨R, 0, none⟩), .pointer (some ⟨G, 0, none⟩), .pointer (some ⟨F, 0, none⟩)] w fun e w' => (∃ v, e = .returned v) ∧ Blk w' R 25 #[.slice A 0 c] ∧ Blk w' G 2 #[.int .i64 (max g (cutF rl.sum))] ∧ Blk w' F 4 #[.bool (b || cutB rl.sum)] ∧
      w'.ownsRow base 2 1 (.slice A 0 c) 0 [] ∧ Below base w w' ∧ (∀ k, k < w.heap.size → k ≠ R → k ≠ G → k ≠ F → w'.heap[k]? = w.heap[k]?) := by
  have hRG := hr.ne_ hg (by decide)
  have hRF := hr.ne_ hf (by decide)
  have hGF := hg.ne_ hf (by decide)
  have hRG' := hRG.symm
  have hRF' := hRF.symm
  have hGF' := hGF.symm
  have r0 := hr.c1
  have HC := Lib.hid (sum_any rl A c w hrl hn (Reads.of_own hown))
  have hlr := hr.lt
  have hlg := hg.lt
  have hlf := hf.lt
  have hcap := own_cap hown
  go_enter Try.func99, Try.ntmps99
  go_wp2_with fail
  refine HC.out.mono ?_
  rintro e W ⟨rfl, hB⟩
  have hR := hr.below hB hlr
  have hG := hg.below hB hlg
  have hF := hf.below hB hlf
  have hO := own_zero (own_below hown hB)
  have R0 := hR.c1
  have G0 := hG.c1
  have F0 := hF.c1
  have Rf := hR.frozen
  have Gf := hG.frozen
  have Ff := hF.frozen
  have hlR := hR.lt
  clear r0 hr hg hf
  obtain ⟨ob, hob⟩ : ∃ ob, cutB rl.sum = ob := ⟨_, rfl⟩
  obtain ⟨n, hnn⟩ : ∃ n, cutF rl.sum = n := ⟨_, rfl⟩
  simp only [hob, hnn]
  have HOB := Lib.hid hob
  have HNN := Lib.hid hnn
  clear hob hnn
  have hbase : base ≤ w.heap.size := by omega
  have HFIN := Lib.hid fun (m : Int) (o : Bool) => done_fin (m := m) (ob := o) hR hG hF hO hRG hRF hGF hOG w ((Below.refl _ _).trans (hB.mono hbase)) hB.block hbR hbG hbF
  cases b <;> cases ob
  all_goals
    go_wp2_with fail
    all_goals
      go_end0
      refine ⟨⟨_, rfl⟩, ?_⟩
      rw [HNN.out]
      try rw [HOB.out]
      first
        | (rw [Int.max_eq_right (by omega)]; exact HFIN.out _ _)
        | (rw [Int.max_eq_left (by omega)]; exact HFIN.out _ _)
end Go.Proofs.Ytgahmlbemaagbaa
