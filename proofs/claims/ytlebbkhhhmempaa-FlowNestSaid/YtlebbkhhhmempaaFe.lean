/- The iterator over the heights at which a float may stand. -/
import Derived.Test.YtlebbkhhhmempaaFd
import Derived.Test.YtlebbkhhhmempaaRange
import Derived.Shelf.RegionOpen
import Derived.CallsIn
import Derived.RangeFuncFrom
set_option linter.unusedSimpArgs false
set_option linter.unusedVariables false
namespace Go.Proofs.Ytlebbkhhhmempaa
open Go.RowKit Go.Shelf
attribute [local go_sem] block_of_add Oper.semAt_some

theorem grown0 {w w' : World} (h : Below w.heap.size w w') : w.grownBy w' none := ⟨h.os, h.tape, h.output, h.size, fun k hk _ => h.block k hk⟩
def htEnc (hs : List Int) (k : Nat) : Array Value := #[.int .i64 ((hs[k]?).getD 0)]
/-- What a round keeps for the iterator: old memory, and the box of the shaft. -/
def Kp7 (n0 bu : Nat) (W W' : World) : Prop := Below n0 W W' ∧ W'.heap[bu]? = W.heap[bu]?
theorem kp7_t {n0 bu : Nat} {X Y Z : World} (h : Kp7 n0 bu X Y) (k : Kp7 n0 bu Y Z) : Kp7 n0 bu X Z := ⟨h.1.trans k.1, k.2.trans h.2⟩
theorem kp7_b {n0 bu b : Nat} (hn : n0 ≤ b) (hb : bu < b) (W : World) (l : Nat) (o o' : Obj) (hl : b ≤ l) (h : W.heap[l]? = some o) (_ : o.isCells = false) (_ : o.isWalk = false) : Kp7 n0 bu W (W.putObj l o') :=
  ⟨(Below.refl _ W).grown (grownBy_putObj' W l o') (by have := (Array.getElem?_eq_some_iff.1 h).1; omega) (fun k e => by cases e; omega), World.putObj_heap_other (by omega)⟩
def htS (hs : List Int) (xs : List Nat) : Prop := xs = List.range hs.length
def htSp (hs : List Int) (xs : List Nat) : Prop := ∃ k, k < hs.length ∧ xs = List.range (k + 1)
theorem drop_cons_get {hs : List Int} {k : Nat} {y : Int} {t : List Int} (h : hs.drop k = y :: t) : k < hs.length ∧ hs[k]? = some y ∧ hs.drop (k + 1) = t := by
  have hk : k < hs.length := by
    rcases Nat.lt_or_ge k hs.length with h1 | h1
    · exact h1
    · rw [List.drop_of_length_le h1] at h; simp at h
  rw [List.drop_eq_getElem_cons hk] at h
  injection h with h1 h2
  exact ⟨hk, by rw [List.getElem?_eq_getElem hk, h1], h2⟩

set_option maxRecDepth 100000 in
set_option maxHeartbeats 4000000 in
theorem heights_any (n : Nat) (hn1 : 1 ≤ n) (l : List Fl) (A : Option Addr) (c : Nat) (n0 bu : Nat) (top b : Int) (w0 : World) (hn : l.length ≤ 65536) (hb : b ≤ 288230376151711744) (hl : FlB b l)
    (hn0 : n0 ≤ bu) (hbu : Blk w0 bu 235 #[.slice A l.length c, .int .i64 top]) (hr : Reads w0 n0 5 A l.length (flsCells l)) :
    SeqStopsK Fence.wide n Try.prog 160 #[.pointer (some ⟨bu, 0, none⟩)] (htEnc (heightsF l top)) (Kp7 n0 bu) (htS (heightsF l top)) (htSp (heightsF l top)) (heightsF l top).length w0 := by
  intro q J Jx W hW hJ hJx hY h0
  refine callsIn_of_wp Try.func160 rfl trivial ?_ rfl
  simp only [Try.ntmps160, List.size_toArray, List.length_cons, List.length_nil, Nat.reduceAdd, Nat.reduceSub, Array.replicate_succ, Array.replicate_zero, List.push_toArray, List.append_toArray, List.nil_append, List.cons_append]
  have hsz := hbu.lt
  have hWs := hW.size
  have b0 := hbu.below hW hsz
  have HR0 := Lib.hid ((hr.below (hW.mono (by omega))))
  have HB0 := Lib.hid b0
  have cu := b0.c2
  have H0 := Lib.hid h0
  have HN := Lib.hid hn
  have HL := Lib.hid hl
  clear b0 hr hbu h0 hn hl
  obtain ⟨hs, Hhs⟩ : ∃ hs, Hid (hs = heightsF l top) := ⟨_, Lib.hid rfl⟩
  rw [← Hhs.out] at hY ⊢
  gi_wp2
  gi_loopw [3, 4] (fun yv isv wr => ∃ k : Nat, k ≤ hs.length ∧ Hid (J (List.range k) wr) ∧ Hid (Blk wr bu 235 #[.slice A l.length c, .int .i64 top]) ∧ Hid (Reads wr n0 5 A l.length (flsCells l)) ∧ n0 ≤ wr.heap.size ∧ bu < wr.heap.size ∧
      ((∃ y, yv = .int .i64 y ∧ isv = .bool true ∧ Hid (hs.drop k = heightsF l y)) ∨ (∃ y, yv = .int .i64 y ∧ isv = .bool false ∧ k = hs.length)))
    (fun yv isv _ => match isv with | .bool true => cntF l (intOf yv) + 1 | _ => 0)
  case atStart => exact ⟨0, by omega, Lib.hid H0.out, Lib.hid HB0.out, Lib.hid HR0.out, by omega, by omega, .inl ⟨top, rfl, rfl, Lib.hid (by rw [Hhs.out]; rfl)⟩⟩
  case round =>
    obtain ⟨k, hk, HJ, HB, HR, hn0w, hbuw, (⟨y, rfl, rfl, HD⟩ | ⟨y, rfl, rfl, HK⟩)⟩ := hrel
    · clear cu HB0 HR0 H0
      obtain ⟨b0, b1⟩ := HB.out.c2
      have hkk : k < hs.length ∧ hs[k]? = some y := by
        have := HD.out
        cases hn : nextF l y with
        | none => rw [heights_end hn] at this; exact ⟨(drop_cons_get this).1, (drop_cons_get this).2.1⟩
        | some z => rw [heights_step hn] at this; exact ⟨(drop_cons_get this).1, (drop_cons_get this).2.1⟩
      have HKK := Lib.hid hkk
      obtain ⟨fn, tmps, assign, body, hy, hR⟩ := hY (List.range k) k _ HJ.out (by rw [List.length_range]; exact hkk.1)
      have he : htEnc hs k = #[.int .i64 y] := by unfold htEnc; rw [hkk.2]; rfl
      rw [he] at hy
      clear hkk he
      gi_wp2
      refine hR.mono ?_
      rintro e W3 (⟨rfl, hJ3, hk3⟩ | ⟨rfl, hx3⟩)
      · have HB3 : Hid (Blk W3 bu 235 #[.slice A l.length c, .int .i64 top]) := Lib.hid (hk3.2.trans HB.out)
        have HR3 : Hid (Reads W3 n0 5 A l.length (flsCells l)) := Lib.hid (HR.out.below hk3.1)
        have hn3 : n0 ≤ W3.heap.size := Nat.le_trans hn0w hk3.1.size
        have hb3 := HB3.out.lt
        have HJ3 : Hid (J (List.range (k + 1)) W3) := Lib.hid (by rw [List.range_succ]; exact hJ3)
        have HX := Lib.hid (next_any l A c W3 y b HN.out hb HL.out (HR3.out.more hn3))
        clear hJ3 hk3 hR hy b0 b1
        obtain ⟨b0, b1⟩ := HB3.out.c2
        gi_wp2_with (refine ⟨trivial, ?_⟩; gi_at_call 158; refine (callsIn_wide.2 HX.out).mono ?_; rintro e W4 ⟨rfl, hb4⟩)
        have HJ4 := Lib.hid (hJ _ _ _ none HJ3.out (grown0 hb4) (fun r e => by cases e))
        have HB4 := Lib.hid (HB3.out.below hb4 hb3)
        have HR4 := Lib.hid (HR3.out.below (hb4.mono hn3))
        have hs4 := hb4.size
        go_roundw
        case rel =>
          cases hn : nextF l y with
          | none => exact ⟨k + 1, by have := HKK.out.1; omega, HJ4, HB4, HR4, by omega, by omega, .inr ⟨_, rfl, rfl, by have h1 := HD.out; rw [heights_end hn] at h1; have h2 := congrArg List.length h1; simp at h2; omega⟩⟩
          | some z => exact ⟨k + 1, by have := HKK.out.1; omega, HJ4, HB4, HR4, by omega, by omega, .inl ⟨z, rfl, rfl, Lib.hid (by have h1 := HD.out; rw [heights_step hn] at h1; exact (drop_cons_get h1).2.2)⟩⟩
        case measure =>
          cases hn : nextF l y with
          | none => simp [intOf]
          | some z => have := cnt_next hn; simp [intOf]; exact this
      · gi_wp2
        go_end0
        exact ⟨⟨_, rfl⟩, .inr ⟨_, ⟨k, HKK.out.1, rfl⟩, by rw [List.range_succ]; exact hx3⟩⟩
    · clear cu HB0 HR0 H0
      gi_wp2
      refine ⟨(fun f hf => nomatch hf), ?_⟩
      gi_wp2
      go_end0
      exact ⟨⟨_, rfl⟩, .inl ⟨_, rfl, by have := HJ.out; rw [HK] at this; exact this⟩⟩
end Go.Proofs.Ytlebbkhhhmempaa
