/- The contract of package text's iterator over the words of units. -/
import Derived.Test.YtgahmlbemaagbaaText
import Derived.Test.YtgahmlbemaagbaaRange
import Derived.Test.YtgahmlbemaagbaaScan
import Derived.Shelf.RegionOpen
import Derived.CallsIn
set_option linter.unusedSimpArgs false
set_option linter.unusedVariables false
namespace Go.Proofs.Ytgahmlbemaagbaa
open Go.RowKit Go.Shelf
attribute [local go_sem] block_of_add Oper.semAt_some

def spCells (s : Sp) : Array Value := #[.int .i64 s.fr, .int .i64 s.up, .int .i64 s.ends, .bool s.sp]
def spEnc (s : Sp) : Array Value := #[.agg (spCells s)]
/-- The iterator's own kind of blocks: cells of type text.span. -/
def isSp (o : Obj) : Prop := ∃ cs fr, o = .cells cs 169 fr
theorem isSp_not {t : TypeId} (h : t ≠ 169) (cs : Array Value) (fr : Nat × Nat) : ¬ isSp (.cells cs t fr) := by
  rintro ⟨cs', fr', e⟩; injection e with _ e; exact h e
/-- What the rounds keep for the iterator: old memory, and the box of the units. -/
def Kp6 (n0 bu : Nat) (W W' : World) : Prop := Below n0 W W' ∧ W'.heap[bu]? = W.heap[bu]?

/-- The iterator between two of its steps: what has come, its own block's cells, the units at hand. -/
structure It (J : List Sp → World → Prop) (n0 bu g : Nat) (A : Option Addr) (c len : Nat) (xs : List Value) (out : List Sp) (cs : Array Value) (wr : World) : Prop where
  j : J out wr
  g : Blk wr g 169 cs
  b : Blk wr bu 26 #[.slice A len c]
  r : Reads wr n0 1 A len xs

section
variable {J : List Sp → World → Prop} {n0 bu g : Nat} {A : Option Addr} {c len : Nat} {xs : List Value} {out out' : List Sp} {cs : Array Value} {wr W' : World}
theorem It.set_ (h : It J n0 bu g A c len xs out cs wr) (hJ : ∀ pre A A', J pre A → Others isSp g A A' → J pre A') (hb : bu < g) (hn : n0 ≤ g) (i : Nat) (v : Value) : It J n0 bu g A c len xs out (cs.setIfInBounds i v) (wr.setCell ⟨g, i, none⟩ v) :=
  ⟨hJ _ _ _ h.j (Others.setCell (Z := isSp) (p := ⟨g, i, none⟩) v (Nat.le_refl _) h.g ⟨_, _, rfl⟩), h.g.set_ i v, h.b.far (p := ⟨g, i, none⟩) (show bu ≠ g by omega) v, h.r.setCell (p := ⟨g, i, none⟩) hn v⟩
theorem It.yielded {B : Nat} (h : It J n0 bu g A c len xs out cs wr) (hj : J out' W') (hr : Round isSp B wr W') (hk : Kp6 n0 bu wr W') : It J n0 bu g A c len xs out' cs W' :=
  ⟨hj, hr.same _ _ h.g (.inr ⟨_, _, rfl⟩), hk.2.trans h.b, h.r.below hk.1⟩
end

set_option maxHeartbeats 4000000 in
theorem iter_any (F : Fence) (n : Nat) (hF : F.fn 123) (hro : F.round = none) (hn : 1 ≤ n) (l : List Int) (A : Option Addr) (c : Nat) (n0 bu : Nat) (w0 : World) (hl : U16s l) (hlen : l.length ≤ 4294967296)
    (hn0 : n0 ≤ bu) (hbu : Blk w0 bu 26 #[.slice A l.length c]) (hr : Reads w0 n0 1 A l.length (u16s l)) :
    SeqC F n Try.prog 123 #[.pointer (some ⟨bu, 0, none⟩)] spEnc isSp (Kp6 n0 bu) (spansF l) w0 := by
  intro q J W hW hJ hY h0
  refine callsIn_of_wp Try.func123 rfl hF ?_ hro
  simp only [Try.ntmps123, List.size_toArray, List.length_cons, List.length_nil, Nat.reduceAdd, Nat.reduceSub, Array.replicate_succ, Array.replicate_zero, List.push_toArray, List.append_toArray, List.nil_append, List.cons_append]
  have hsz := hbu.lt
  have hWs := hW.size
  have b0 := hbu.below hW hsz
  have it0 : It J n0 bu W.heap.size A c l.length (u16s l) (sc l 0).out (spCells (sc l 0).s) (W.alloc (.cells #[.int .i64 0, .int .i64 0, .int .i64 0, .bool false] 169)) :=
    ⟨hJ _ _ _ h0 (Others.alloc _ _), Blk.new _ _ _, b0.alloc _, (hr.below (hW.mono (by omega))).alloc (by omega) _⟩
  have cu := b0.c1
  have hbW : bu < W.heap.size := by omega
  have hnW : n0 ≤ W.heap.size := by omega
  have IT0 := Lib.hid it0
  clear it0 b0 hr hbu
  gi_wp2
  gi_loopw [4, 9] (fun ins i wr => ∃ k : Nat, k ≤ l.length ∧ i = .int .i64 k ∧ ins = .bool (sc l k).ins ∧ It J n0 bu W.heap.size A c l.length (u16s l) (sc l k).out (spCells (sc l k).s) wr)
    (fun _ i _ => l.length - (intOf i).toNat)
  case atStart => exact ⟨0, by omega, rfl, rfl, IT0.out⟩
  case round =>
    obtain ⟨k, hk, rfl, rfl, it⟩ := hrel
    clear cu IT0
    obtain ⟨c0, c1, c2, c3⟩ := it.g.c4
    have hf := it.g.frozen
    have hcu := it.b.c1
    have hend := sc_ends l k
    by_cases hlt : k < l.length
    · obtain ⟨ad, u, rfl, hab, hx, hc⟩ := it.r.at_ hlt
      have hu : u = .int .u16 l[k] := by simpa [u16s, hlt] using hx.symm
      subst hu
      have hx2 := hl.at_ hlt
      clear hx
      rcases (show l[k] = 32 ∨ l[k] = 10 ∨ (l[k] ≠ 32 ∧ l[k] ≠ 10) by omega) with h32 | h10 | ⟨h32, h10⟩
      · have t1 : (l[k] == 32) = true := by simp [h32]
        have t2 : (l[k] == 10) = false := by simp [h32]
        cases hins : (sc l k).ins with
        | true =>
          have hs : sc l (k + 1) = ⟨⟨0, 0, 0, true⟩, false, (sc l k).out ++ [⟨(sc l k).s.fr, k, (sc l k).s.ends, (sc l k).s.sp⟩]⟩ := by simp [sc, scStep, hlt, h32, hins]
          have it1 := it.set_ hJ hbW hnW 1 (.int .i64 (k : Int))
          have hpre : (sc l k).out ++ [(⟨(sc l k).s.fr, k, (sc l k).s.ends, (sc l k).s.sp⟩ : Sp)] <+: spansF l := by
            have := spans_prefix l (k := k + 1) hlt; rw [hs] at this; exact this
          obtain ⟨fn, tmps, assign, body, hy, hR⟩ := hY _ _ _ it1.j hpre
          dsimp only [spEnc, spCells] at hy
          have HS := Lib.hid hs
          clear hs hpre h32
          gi_wp2
          refine hR.mono ?_
          rintro e W3 ⟨rfl, hJ3, hr3, hk3⟩
          have it3 := it1.yielded hJ3 hr3 hk3
          obtain ⟨d0, d1, d2, d3⟩ := it3.g.c4
          have hf3 := it3.g.frozen
          clear hR hy c0 c1 c2 c3 hf hc hcu
          gi_wp2
          go_roundw
          case rel => exact ⟨k + 1, by omega, by go_num, by rw [HS.out], by rw [HS.out]; exact ((((it3.set_ hJ hbW hnW 0 (.int .i64 0)).set_ hJ hbW hnW 1 (.int .i64 0)).set_ hJ hbW hnW 2 (.int .i64 0)).set_ hJ hbW hnW 3 (.bool false)).set_ hJ hbW hnW 3 (.bool true)⟩
          case measure => simp [intOf]; omega
        | false =>
          have hs : sc l (k + 1) = ⟨⟨(sc l k).s.fr, (sc l k).s.up, (sc l k).s.ends, true⟩, false, (sc l k).out⟩ := by simp [sc, scStep, hlt, h32, hins]
          have HS := Lib.hid hs
          clear hs h32
          gi_wp2
          go_roundw
          case rel => exact ⟨k + 1, by omega, by go_num, by rw [HS.out], by rw [HS.out]; exact it.set_ hJ hbW hnW 3 (.bool true)⟩
          case measure => simp [intOf]; omega
      · have t1 : (l[k] == 32) = false := by simp [h10]
        have t2 : (l[k] == 10) = true := by simp [h10]
        cases hins : (sc l k).ins with
        | true =>
          have hs : sc l (k + 1) = ⟨⟨0, 0, 1, false⟩, false, (sc l k).out ++ [⟨(sc l k).s.fr, k, (sc l k).s.ends, (sc l k).s.sp⟩]⟩ := by simp [sc, scStep, hlt, h10, hins]
          have it1 := it.set_ hJ hbW hnW 1 (.int .i64 (k : Int))
          have hpre : (sc l k).out ++ [(⟨(sc l k).s.fr, k, (sc l k).s.ends, (sc l k).s.sp⟩ : Sp)] <+: spansF l := by
            have := spans_prefix l (k := k + 1) hlt; rw [hs] at this; exact this
          obtain ⟨fn, tmps, assign, body, hy, hR⟩ := hY _ _ _ it1.j hpre
          dsimp only [spEnc, spCells] at hy
          have HS := Lib.hid hs
          clear hs hpre h10
          gi_wp2
          refine hR.mono ?_
          rintro e W3 ⟨rfl, hJ3, hr3, hk3⟩
          have it3 := it1.yielded hJ3 hr3 hk3
          obtain ⟨d0, d1, d2, d3⟩ := it3.g.c4
          have hf3 := it3.g.frozen
          clear hR hy c0 c1 c2 c3 hf hc hcu
          gi_wp2
          go_roundw
          case rel => exact ⟨k + 1, by omega, by go_num, by rw [HS.out], by rw [HS.out]; exact ((((it3.set_ hJ hbW hnW 0 (.int .i64 0)).set_ hJ hbW hnW 1 (.int .i64 0)).set_ hJ hbW hnW 2 (.int .i64 0)).set_ hJ hbW hnW 3 (.bool false)).set_ hJ hbW hnW 2 (.int .i64 1)⟩
          case measure => simp [intOf]; omega
        | false =>
          have hs : sc l (k + 1) = ⟨⟨(sc l k).s.fr, (sc l k).s.up, (sc l k).s.ends + 1, (sc l k).s.sp⟩, false, (sc l k).out⟩ := by simp [sc, scStep, hlt, h10, hins]
          have HS := Lib.hid hs
          clear hs h10
          gi_wp2
          go_roundw
          case rel => exact ⟨k + 1, by omega, by go_num, by rw [HS.out], by rw [HS.out]; exact it.set_ hJ hbW hnW 2 _⟩
          case measure => simp [intOf]; omega
      · have t1 : (l[k] == 32) = false := by simp [h32]
        have t2 : (l[k] == 10) = false := by simp [h10]
        cases hins : (sc l k).ins with
        | true =>
          have hs : sc l (k + 1) = sc l k := by simp [sc, scStep, hlt, h32, h10, hins]
          have HS := Lib.hid hs
          clear hs h32 h10
          gi_wp2
          go_roundw
          case rel => exact ⟨k + 1, by omega, by go_num, by rw [HS.out, hins], by rw [HS.out]; exact it⟩
          case measure => simp [intOf]; omega
        | false =>
          have hs : sc l (k + 1) = ⟨⟨k, (sc l k).s.up, (sc l k).s.ends, (sc l k).s.sp⟩, true, (sc l k).out⟩ := by simp [sc, scStep, hlt, h32, h10, hins]
          have HS := Lib.hid hs
          clear hs h32 h10
          gi_wp2
          go_roundw
          case rel => exact ⟨k + 1, by omega, by go_num, by rw [HS.out], by rw [HS.out]; exact it.set_ hJ hbW hnW 0 _⟩
          case measure => simp [intOf]; omega
    · obtain rfl : k = l.length := by omega
      cases hins : (sc l l.length).ins with
      | true =>
        have hs : spansF l = (sc l l.length).out ++ [⟨(sc l l.length).s.fr, l.length, (sc l l.length).s.ends, (sc l l.length).s.sp⟩] := by simp [spansF, hins]
        have it1 := it.set_ hJ hbW hnW 1 (.int .i64 (l.length : Int))
        obtain ⟨fn, tmps, assign, body, hy, hR⟩ := hY _ _ _ it1.j (by rw [hs]; exact List.prefix_refl _)
        dsimp only [spEnc, spCells] at hy
        have HS := Lib.hid hs
        clear hs
        gi_wp2
        refine hR.mono ?_
        rintro e W3 ⟨rfl, hJ3, hr3, hk3⟩
        gi_wp2
        go_end0
        exact ⟨⟨_, rfl⟩, by rw [HS.out]; exact hJ3⟩
      | false =>
        have hs : spansF l = (sc l l.length).out := by simp [spansF, hins]
        have HS := Lib.hid hs
        clear hs
        gi_wp2
        go_end0
        exact ⟨⟨_, rfl⟩, by rw [HS.out]; exact it.j⟩
end Go.Proofs.Ytgahmlbemaagbaa
