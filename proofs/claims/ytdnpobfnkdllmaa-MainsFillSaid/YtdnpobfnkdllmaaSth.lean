/- Order: the items by their order. -/
import Derived.Test.YtdnpobfnkdllmaaStg
set_option linter.unusedSimpArgs false
set_option linter.unusedVariables false
namespace Go.Proofs.Ytdnpobfnkdllmaa
open Go.RowKit
attribute [local go_sem] block_of_add

theorem el_intz : El Try.prog 48 3 (.int .i64 0) 1 8 := ⟨Try.underlying48, by kernel_rfl, rfl, by decide⟩
theorem make_ints (n : Nat) (hn : n ≤ 1000000) (w : World) : (Instr.makeSlice 48 (.int .i64 (n : Int)) (.int .i64 (n : Int))).run Try.prog w = .ok (.slice (some ⟨w.heap.size, 0, none⟩) n n) (w.alloc (.cells (dCells (fun _ => 0) n).toArray 3)) := by
  obtain ⟨i, hi, hz, hs, hb⟩ := info_parts el_intz.info
  have h := run_makeSlice (P := Try.prog) (w := w) 48 3 i (.int .i64 0) el_intz.ht hi hz .i64 .i64 (n : Int) (n : Int) (by omega) (by omega) (by rw [hs]; omega) (by rw [hb]; omega) (by omega)
  have hm : madeCells (Value.int .i64 0).cells (n * 1) = (dCells (fun _ => 0) n).toArray := by
    apply Array.toList_inj.1
    show (madeCells #[.int .i64 0] (n * 1)).toList = _
    rw [Nat.mul_one, toList_madeCells_one]
    apply List.ext_getElem?
    intro x
    simp [dCells, List.getElem?_replicate, List.getElem?_map, List.getElem?_range]
    by_cases hx : x < n
    · simp [hx]
    · simp [hx]
  rw [h, hs, Int.toNat_natCast, hm]
set_option maxRecDepth 100000 in
set_option maxHeartbeats 800000 in
theorem sortStable_any (gk N g n c : Nat) (o : Nat → Int) (w : World) (hn : n ≤ 400000) (hd : DAt N g n id w w) (hc : CmpOk gk g N o w) :
    Calls Try.prog 42 #[.slice (some ⟨g, 0, none⟩) n c, (.func (.func 43) #[] #[.pointer (some ⟨gk, 0, none⟩)])] w fun e w' => e = .returned (.tuple #[]) ∧ ∃ d', DAt N g n d' w w' ∧ Srt o d' 0 n ∧ Pin 0 n id d' := by
  have HX := Lib.hid (stable_any gk N g n c o w hn hd hc)
  clear hd hc
  go_enter Try.func42, Try.ntmps42
  go_wp2_with fail
  refine HX.out.mono ?_
  rintro e w3 ⟨rfl, d5, hk, hs, hp⟩
  have HK := Lib.hid (And.intro hk (And.intro hs hp))
  clear hk hs hp
  go_wp2_with fail
  go_end0
  exact ⟨rfl, d5, HK.out⟩
def idU (i : Nat) : Nat → Nat := fun x => if x < i then x else 0
theorem idU_set (n i : Nat) (h : i < n) : (dCells (idU i) n).toArray.setIfInBounds i (.int .i64 (i : Nat)) = (dCells (idU (i + 1)) n).toArray := by
  apply Array.ext_getElem?
  intro x
  simp only [Array.getElem?_setIfInBounds, List.size_toArray, dCells_len, List.getElem?_toArray]
  by_cases hx : x < n
  · have hr : (dCells (idU (i + 1)) n)[x]? = some (.int .i64 (idU (i + 1) x : Nat)) := by simp [dCells, hx]
    have hl : (dCells (idU i) n)[x]? = some (.int .i64 (idU i x : Nat)) := by simp [dCells, hx]
    rw [hr, hl]
    unfold idU
    by_cases e : i = x
    · subst e; simp [h]
    · have : (x < i + 1) = (x < i) := by apply propext; omega
      simp [e, this]
  · have hr : (dCells (idU (i + 1)) n)[x]? = none := List.getElem?_eq_none (by rw [dCells_len]; omega)
    have hl : (dCells (idU i) n)[x]? = none := List.getElem?_eq_none (by rw [dCells_len]; omega)
    have e : ¬ i = x := by omega
    rw [hr, hl]; simp [e]
theorem dCells_congr {d d' : Nat → Nat} {n : Nat} (h : ∀ x, x < n → d x = d' x) : dCells d n = dCells d' n := List.map_congr_left fun x hx => by rw [h x (List.mem_range.1 hx)]
def natCells (l : List Nat) : List Value := l.map fun x : Nat => Value.int .i64 (x : Int)
theorem dCells_nat (d : Nat → Nat) (n : Nat) : dCells d n = natCells ((List.range n).map d) := by unfold dCells natCells; rw [List.map_map]; rfl
set_option maxRecDepth 100000 in
set_option maxHeartbeats 2000000 in
theorem order_any (l : List Sty) (A : Option Addr) (c : Nat) (w : World) (hn : l.length ≤ 400000) (hr : Reads w w.heap.size 43 A l.length (stysCells l)) :
    Calls Try.prog 17 #[.slice A l.length c] w fun e w' => e = .returned (.slice (some ⟨w.heap.size + 1, 0, none⟩) l.length l.length) ∧ Blk w' (w.heap.size + 1) 3 (natCells (orderF (ordF l) l.length)).toArray ∧ Below w.heap.size w w' := by
  have HR := Lib.hid hr
  clear hr
  obtain ⟨n, hne⟩ : ∃ n, n = l.length := ⟨_, rfl⟩
  rw [← hne] at hn HR ⊢
  have HN := Lib.hid hne
  clear hne
  have hmk := fun W => make_ints n (by omega) W
  go_enter Try.func17, Try.ntmps17
  go_wp2_with fail
  go_loopw [4, 10] (fun v4 kv wr => ∃ k : Nat, k ≤ n ∧ kv = .int .i64 k ∧ Hid (Blk wr w.heap.size 25 #[.slice A n c] ∧ Blk wr (w.heap.size + 1) 3 (dCells (idU k) n).toArray ∧ Below w.heap.size w wr)) (fun _ kv _ => n - (intOf kv).toNat)
  case atStart =>
    refine ⟨0, by omega, rfl, Lib.hid ⟨(Blk.new _ _ _).alloc _, ?_, bal (bal (Below.refl _ _) _) _⟩⟩
    have e : dCells (idU 0) n = dCells (fun _ => 0) n := dCells_congr fun x _ => if_neg (by omega)
    rw [e]; exact Blk.at_ _ _ _ (by simp)
  case round =>
    obtain ⟨k, hk, rfl, HK⟩ := hrel
    by_cases hlt : k < n
    · have g0 : decide ((k : Int) < (n : Int)) = true := decide_eq_true (by omega)
      have g0' : decide (k < n) = true := decide_eq_true hlt
      have hki : (k : Int) < (n : Int) := by omega
      have wk : IntKind.i64.wrap ((k : Int) + 1) = (k : Int) + 1 := IntWalk.i64_in _ ⟨by omega, by omega⟩
      have c1 := HK.out.2.1.get k (dCells_at (idU k) hlt)
      have f1 := HK.out.2.1.frozen k
      have hg := HK.out.2.1.lt
      go_wp2_with fail
      go_roundw
      case rel =>
        refine ⟨k + 1, by omega, by go_num, Lib.hid ⟨HK.out.1.far (by show w.heap.size ≠ w.heap.size + 1; omega) _, ?_, HK.out.2.2.setCell (p := ⟨w.heap.size + 1, k, none⟩) (by show w.heap.size ≤ w.heap.size + 1; omega) _⟩⟩
        rw [← idU_set n k hlt]; exact HK.out.2.1.set_ k _
      case measure => simp [intOf] <;> omega
    · have g0 : decide ((k : Int) < (n : Int)) = false := decide_eq_false (by omega)
      have g0' : decide (k < n) = false := decide_eq_false hlt
      have hkn : k = n := by omega
      rw [hkn] at HK
      clear hkn hlt
      have HD : Hid (DAt n (w.heap.size + 1) n id wr wr) := Lib.hid ⟨by
        have e : dCells id n = dCells (idU n) n := dCells_congr fun x hx => (if_pos hx).symm
        rw [e]; exact HK.out.2.1, Kp.refl _ _, fun p hp => hp⟩
      have HC : Hid (CmpOk w.heap.size (w.heap.size + 1) n (ordF l) wr) := Lib.hid ⟨fun W x y hW hx hy => by
        have hs := HK.out.2.2.size
        have hlt := HK.out.2.1.lt
        have hc1 : W.cell? ⟨w.heap.size, 0, none⟩ = some (.slice A n c) := ((HK.out.1.kp hW (by omega)).cell 0)
        have hrd : Reads W w.heap.size 43 A l.length (stysCells l) := by rw [← HN.out]; exact (HR.out.below HK.out.2.2).kp hW hs (fun k h => by omega)
        rw [HN.out] at hc1 hx hy
        exact cmpk_any w.heap.size c w.heap.size A l x y W hx hy (by rw [← HN.out]; omega) ⟨hc1, hrd⟩⟩
      have HX := Lib.hid (sortStable_any w.heap.size n (w.heap.size + 1) n n (ordF l) wr hn HD.out HC.out)
      go_wp2_with fail
      refine HX.out.mono ?_
      rintro e w5 ⟨rfl, d5, hk5, hs5, hp5⟩
      have HF : Hid (Blk w5 (w.heap.size + 1) 3 (natCells (orderF (ordF l) n)).toArray ∧ Below w.heap.size w w5) := Lib.hid ⟨by
        rw [← order_eq hs5 hp5, ← dCells_nat]; exact hk5.b, HK.out.2.2.trans (hk5.k.below (fun k h => by omega) HK.out.2.2.size)⟩
      clear hk5 hs5 hp5
      go_wp2_with fail
      go_ret
      exact ⟨rfl, HF.out⟩
end Go.Proofs.Ytdnpobfnkdllmaa
