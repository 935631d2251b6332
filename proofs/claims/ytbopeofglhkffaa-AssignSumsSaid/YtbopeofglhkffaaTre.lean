/- Contracts: the document's styles: Right. -/
import Derived.Test.YtbopeofglhkffaaTrc
set_option linter.unusedSimpArgs false
set_option linter.unusedVariables false
namespace Go.Proofs.Ytbopeofglhkffaa
open Go.RowKit
attribute [local go_sem] block_of_add
theorem el_len : El Try.prog 148 47 (.agg #[.int .u8 0, .int .i64 0]) 2 16 := ⟨Try.underlying148, by kernel_rfl, rfl, by decide⟩
def lnCells (l : List Ln) : List Value := l.flatMap fun x => [.int .u8 x.k, .int .i64 x.n]
def lns (s : Sty) (k : Nat) : List Ln := [s.w, s.h, s.minw, s.maxw, s.minh, s.maxh, s.basis] ++ (List.range k).map (mgAt s)
theorem lns_len (s : Sty) (k : Nat) : (lns s k).length = 7 + k := by simp [lns]; omega
theorem lns_succ (s : Sty) (k : Nat) : lnCells (lns s k) ++ [.int .u8 (mgAt s k).k, .int .i64 (mgAt s k).n] = lnCells (lns s (k + 1)) := by
  simp [lns, lnCells, List.range_succ]
theorem lnCells_at (l : List Ln) : ∀ (k i : Nat) (hk : k < l.length), i < 2 → (lnCells l)[k * 2 + i]? = ([Value.int .u8 l[k].k, .int .i64 l[k].n])[i]? := by
  induction l with
  | nil => intro k i hk; simp at hk
  | cons a t ih =>
    intro k i hk hi
    have hc : lnCells (a :: t) = [Value.int .u8 a.k, .int .i64 a.n] ++ lnCells t := by simp [lnCells]
    rw [hc]
    rcases k with _ | k
    · rw [List.getElem?_append_left (by simp; omega)]; simp
    · rw [List.getElem?_append_right (by simp; omega), show (k + 1) * 2 + i - ([Value.int .u8 a.k, Value.int .i64 a.n] : List Value).length = k * 2 + i by simp; omega, ih k i (by simpa using hk) hi]
      simp
theorem zero_styB {s : Sty} (h1 : ∀ j, j < 4 → bdAt s j = 0 ∧ pdAt s j = 0) (h2 : ∀ x ∈ lns s 4, x.k = 0 ∧ x.n = 0) : StyB s := by
  have hm : ∀ x, x = s.w ∨ x = s.maxw ∨ x = s.minw ∨ x = s.m1 ∨ x = s.m3 → x.n = 0 := fun x hx => (h2 x (by
    simp only [lns, List.range_succ, List.range_zero, List.map_append, List.map_cons, List.map_nil, mgAt, List.nil_append, List.mem_append, List.mem_cons]
    rcases hx with h | h | h | h | h <;> simp [h])).2
  have a1 := h1 1 (by omega)
  have a3 := h1 3 (by omega)
  simp [bdAt, pdAt] at a1 a3
  have w1 := hm s.w (by simp)
  have w2 := hm s.maxw (by simp)
  have w3 := hm s.minw (by simp)
  have w4 := hm s.m1 (by simp)
  have w5 := hm s.m3 (by simp)
  constructor <;> omega
theorem zero_styL {s : Sty} (h1 : ∀ j, j < 4 → bdAt s j = 0 ∧ pdAt s j = 0) (h2 : ∀ x ∈ lns s 4, x.k = 0 ∧ x.n = 0) : StyL s := by
  refine ⟨zero_styB h1 h2, fun x hx => ?_⟩
  have := h2 x (by
    simp only [lns, List.range_succ, List.range_zero, List.map_append, List.map_cons, List.map_nil, mgAt, List.nil_append, List.mem_append, List.mem_cons]
    rcases hx with h | h | h | h | h | h <;> simp [h])
  rw [this.1, this.2]; omega
theorem app_box {w2 w4 : World} {B : Nat} {ov : Value} {e : TypeId} {size n : Nat} {xs : List Value} {g : Nat} {t : TypeId} {cs : Array Value} (ho : w2.ownsRow B e size ov n xs) (hg : w2.grownBy w4 ov.ownBlock) (hb : Blk w2 g t cs) (hl : g < B) : Blk w4 g t cs := hb.grown hg (own_far ho hl)
set_option maxRecDepth 100000 in
set_option maxHeartbeats 2000000 in
theorem empty_any (s : Sty) (w : World) {Au : Option Addr} {nu cu : Nat} (huv : s.uv = .slice Au nu cu) :
    Calls Try.prog 83 #[.agg (styCells s).toArray] w fun e w' => BoolAns (StyL s) w w' e := by
  have HB0 : Hid (Blk (w.alloc (.cells (styCells s).toArray 52)) w.heap.size 52 (styCells s).toArray) := Lib.hid (Blk.new _ _ _)
  have b4 := HB0.out.get _ (sty_a4 s)
  have b5 := HB0.out.get _ (sty_a5 s)
  have b6 := HB0.out.get _ (sty_a6 s)
  have b7 := HB0.out.get _ (sty_a7 s)
  have b8 := HB0.out.get _ (sty_a8 s)
  have b9 := HB0.out.get _ (sty_a9 s)
  have b10 := HB0.out.get _ (sty_a10 s)
  have b11 := HB0.out.get _ (sty_a11 s)
  have b12 := HB0.out.get _ (sty_a12 s)
  have b13 := HB0.out.get _ (sty_a13 s)
  have b14 := HB0.out.get _ (sty_a14 s)
  have b15 := HB0.out.get _ (sty_a15 s)
  have b40 := HB0.out.get _ (sty_a40 s)
  have b41 := HB0.out.get _ (sty_a41 s)
  go_enter Try.func83, Try.ntmps83
  go_wp2_with fail
  go_loopw [3, 4] (fun v kv wr => ∃ k : Nat, k ≤ 4 ∧ kv = .int .i64 k ∧ Hid ((∀ j, j < k → bdAt s j = 0 ∧ pdAt s j = 0) ∧ wr.ownsRow (w.heap.size + 1) 47 2 v (7 + k) (lnCells (lns s k)) ∧ Below w.heap.size w wr ∧ Blk wr w.heap.size 52 (styCells s).toArray)) (fun _ kv _ => 4 - (intOf kv).toNat)
  case atStart =>
    refine ⟨0, by omega, rfl, Lib.hid ⟨fun j h => by omega, ⟨by simp [lnCells, lns], .inr ⟨w.heap.size + 1, 7, (lnCells (lns s 0)).toArray, rfl, Nat.le_refl _, ?_, by omega, by unfold maxLen; omega, by simp [lnCells, lns], by simp [lnCells, lns]⟩⟩, ((Below.refl _ _).alloc (Nat.le_refl _) _).alloc (by simp) _, HB0.out.alloc _⟩⟩
    have := heap_alloc_new (w.alloc (.cells (styCells s).toArray 52)) (.cells (lnCells (lns s 0)).toArray 47)
    simpa [lnCells, lns] using this
  case round =>
    clear b4 b5 b6 b7 b8 b9 b10 b11 b12 b13 b14 b15 b40 b41
    obtain ⟨k, hk, rfl, H⟩ := hrel
    by_cases hlt : k < 4
    · obtain ⟨m1, m2, m3, m4⟩ := mg_k s hlt
      have c1 := H.out.2.2.2.get _ m1
      have c2 := H.out.2.2.2.get _ m2
      have lb := H.out.2.2.2.lt
      have d0 : decide ((k : Int) < 4) = true := decide_eq_true (by omega)
      have hk4 : (k : Int) < 4 := by omega
      obtain ⟨mk, hmk⟩ : ∃ x, x = (mgAt s k).k := ⟨_, rfl⟩
      obtain ⟨mn, hmn⟩ : ∃ x, x = (mgAt s k).n := ⟨_, rfl⟩
      obtain ⟨bd, hbd⟩ : ∃ x, x = bdAt s k := ⟨_, rfl⟩
      obtain ⟨pd, hpd⟩ : ∃ x, x = pdAt s k := ⟨_, rfl⟩
      rw [← hmk] at c1
      rw [← hmn] at c2
      rw [← hbd] at m3
      rw [← hpd] at m4
      have HE : Hid (bd = 0 → pd = 0 → bdAt s k = 0 ∧ pdAt s k = 0) := Lib.hid (by rw [hbd, hpd]; exact fun a b => ⟨a, b⟩)
      have HS : Hid (lnCells (lns s k) ++ [.int .u8 mk, .int .i64 mn] = lnCells (lns s (k + 1))) := Lib.hid (by rw [hmk, hmn]; exact lns_succ s k)
      have HOW := Lib.hid H.out.2.1
      have HSZ := Lib.hid (show w.heap.size + 1 ≤ wr.heap.size by omega)
      have M3 := Lib.hid m3
      have M4 := Lib.hid m4
      have n7 : 7 + k ≤ 11 := by omega
      clear m1 m2 m3 m4 hmk hmn hbd hpd
      cases h2 : (bd == 0)
      · have h2' : (bd != 0) = true := by rw [bne, h2]; rfl
        go_wp2_with (at_builtin; refine wpList_app (m := 1) rfl _ _ rfl el_len HOW.out HSZ.out rfl [.int .u8 mk, .int .i64 mn] rfl (by simp) (by simp [Value.oneCell']) (by omega) (by omega) ?_; intro A' c' w1 hown hB hg hob; have bx := app_box HOW.out hg H.out.2.2.2 (by omega); have c3 := bx.get _ M3.out; have c4 := bx.get _ M4.out)
        go_ret
        exact ⟨⟨false, rfl, by simp⟩, hB _ _ (by omega) H.out.2.2.1⟩
      have h2' : (bd != 0) = false := by rw [bne, h2]; rfl
      cases h3 : (pd == 0)
      · have h3' : (pd != 0) = true := by rw [bne, h3]; rfl
        go_wp2_with (at_builtin; refine wpList_app (m := 1) rfl _ _ rfl el_len HOW.out HSZ.out rfl [.int .u8 mk, .int .i64 mn] rfl (by simp) (by simp [Value.oneCell']) (by omega) (by omega) ?_; intro A' c' w1 hown hB hg hob; have bx := app_box HOW.out hg H.out.2.2.2 (by omega); have c3 := bx.get _ M3.out; have c4 := bx.get _ M4.out)
        go_ret
        exact ⟨⟨false, rfl, by simp⟩, hB _ _ (by omega) H.out.2.2.1⟩
      have h3' : (pd != 0) = false := by rw [bne, h3]; rfl
      have HZ := Lib.hid (HE.out (by simpa using h2) (by simpa using h3))
      go_wp2_with (at_builtin; refine wpList_app (m := 1) rfl _ _ rfl el_len HOW.out HSZ.out rfl [.int .u8 mk, .int .i64 mn] rfl (by simp) (by simp [Value.oneCell']) (by omega) (by omega) ?_; intro A' c' w1 hown hB hg hob; have bx := app_box HOW.out hg H.out.2.2.2 (by omega); have c3 := bx.get _ M3.out; have c4 := bx.get _ M4.out)
      rw [HS.out] at hown
      go_roundw
      case rel => exact ⟨k + 1, by omega, by go_num, Lib.hid ⟨fun j hj => by
        by_cases he : j = k
        · rw [he]; exact HZ.out
        · exact H.out.1 j (by omega), hown, hB _ _ (by omega) H.out.2.2.1, bx⟩⟩
      case measure => simp [intOf]; omega
    · have d0 : decide ((k : Int) < 4) = false := decide_eq_false (by omega)
      have HE := Lib.hid (show ∀ j, j < 4 → bdAt s j = 0 ∧ pdAt s j = 0 from fun j hj => H.out.1 j (by omega))
      obtain rfl : k = 4 := by omega
      obtain ⟨g, cap, hv, hgb, hgl⟩ := World.ownsRow.form H.out.2.1 (by omega)
      subst hv
      have HC := Lib.hid (H.out.2.1.cells (g := g) rfl)
      have HB := Lib.hid H.out.2.2.1
      have HX := Lib.hid H.out.2.2.2
      clear H hlt
      go_wp2_with fail
      go_loop [5] (fun iv => ∃ q : Nat, q ≤ 11 ∧ iv = .int .i64 q ∧ Hid (∀ (j : Nat) (x : Ln), j < q → (lns s 4)[j]? = some x → x.k = 0 ∧ x.n = 0)) (fun iv => 11 - (intOf iv).toNat)
      case atStart => exact ⟨0, by omega, rfl, Lib.hid (fun j x h => by omega)⟩
      case round =>
        obtain ⟨q, hq, rfl, HQ⟩ := hrel
        by_cases hql : q < 11
        · have d1 : decide ((q : Int) < 11) = true := decide_eq_true (by omega)
          have hq4 : (q : Int) < 11 := by omega
          have hl : q < (lns s 4).length := by rw [lns_len]; omega
          obtain ⟨x, hx⟩ : ∃ x, x = (lns s 4)[q] := ⟨_, rfl⟩
          have e1 : wr.cell? ⟨g, q * 2, none⟩ = some (.int .u8 x.k) := by
            have := HC.out (q * 2) (.int .u8 x.k) (by have := lnCells_at (lns s 4) q 0 hl (by omega); rw [Nat.add_zero] at this; rw [this, hx]; rfl)
            rw [show ((⟨g, 0, none⟩ : Addr).add (q * 2)) = ⟨g, q * 2, none⟩ from by unfold Addr.add; split <;> simp_all] at this
            exact this
          have e2 : wr.cell? ⟨g, q * 2 + 1, none⟩ = some (.int .i64 x.n) := by
            have := HC.out (q * 2 + 1) (.int .i64 x.n) (by rw [lnCells_at (lns s 4) q 1 hl (by omega), hx]; rfl)
            rw [show ((⟨g, 0, none⟩ : Addr).add (q * 2 + 1)) = ⟨g, q * 2 + 1, none⟩ from by unfold Addr.add; split <;> simp_all] at this
            exact this
          have HXX := Lib.hid (show (lns s 4)[q]? = some x by rw [hx]; exact List.getElem?_eq_getElem hl)
          clear hx
          cases h2 : (x.k == 0)
          · have h2' : (x.k != 0) = true := by rw [bne, h2]; rfl
            go_wp2_with fail
            go_ret
            exact ⟨⟨false, rfl, by simp⟩, HB.out⟩
          have h2' : (x.k != 0) = false := by rw [bne, h2]; rfl
          cases h3 : (x.n == 0)
          · have h3' : (x.n != 0) = true := by rw [bne, h3]; rfl
            go_wp2_with fail
            go_ret
            exact ⟨⟨false, rfl, by simp⟩, HB.out⟩
          have h3' : (x.n != 0) = false := by rw [bne, h3]; rfl
          have HZ := Lib.hid (show x.k = 0 ∧ x.n = 0 from ⟨by simpa using h2, by simpa using h3⟩)
          go_wp2_with fail
          go_round
          case rel => exact ⟨q + 1, by omega, by go_num, Lib.hid (fun j y hj e => by
            by_cases he : j = q
            · rw [he] at e
              rw [HXX.out] at e
              injection e with e
              rw [← e]; exact HZ.out
            · exact HQ.out j y (by omega) e)⟩
          case measure => simp [intOf]; omega
        · have d1 : decide ((q : Int) < 11) = false := decide_eq_false (by omega)
          have HZ := Lib.hid (zero_styL HE.out (fun x hx => by
            obtain ⟨j, hj, e⟩ := List.getElem_of_mem hx
            have hj2 : j < 11 := by rw [lns_len] at hj; omega
            exact HQ.out j x (by omega) (by rw [← e]; exact List.getElem?_eq_getElem hj)))
          have c1 := HX.out.get _ (sty_a1 s)
          have c2 := HX.out.get _ (sty_a2 s)
          have c3 := HX.out.get _ (sty_a3 s)
          have c32 := HX.out.get _ (sty_a32 s)
          have c33 := HX.out.get _ (sty_a33 s)
          have c34 := HX.out.get _ (sty_a34 s)
          have c35 := HX.out.get _ (sty_a35 s)
          have c36 := HX.out.get _ (sty_a36 s)
          have c37 := HX.out.get _ (sty_a37 s)
          have c38 := HX.out.get _ (sty_a38 s)
          have c39 := HX.out.get _ (sty_a39 s)
          go_wp2_with fail
          all_goals (go_ret; exact ⟨⟨_, rfl, fun _ => HZ.out⟩, HB.out⟩)
end Go.Proofs.Ytbopeofglhkffaa
set_option linter.unusedSimpArgs false
set_option linter.unusedVariables false
namespace Go.Proofs.Ytbopeofglhkffaa
open Go.RowKit
attribute [local go_sem] block_of_add
theorem sty_range (W : World) (g : Nat) (s : Sty) (hb : Blk W g 52 (styCells s).toArray) : W.rangeAt g 0 (styCells s) := fun j v hv => by rw [Nat.zero_add]; exact hb.get j (by simpa using hv)
/-- What a style that is right is. -/
structure StyR (s : Sty) : Prop where
  b : StyB s
  lim : ∀ x, x = s.w ∨ x = s.maxw ∨ x = s.minw ∨ x = s.m1 ∨ x = s.m3 ∨ x = s.basis → (-1099511627776 ≤ x.n ∧ x.n ≤ 1099511627776) ∧ (x.k = 2 → -100000 ≤ x.n ∧ x.n ≤ 100000)
  k : s.kind = 1 ∨ s.kind = 2 ∨ s.kind = 3
  gr : s.kind ≠ 3 → GrS s
set_option maxRecDepth 100000 in
set_option maxHeartbeats 1000000 in
theorem right_any (s : Sty) (w : World) {Au : Option Addr} {nu cu : Nat} (huv : s.uv = .slice Au nu cu) :
    Calls Try.prog 52 #[.agg (styCells s).toArray] w fun e w' => BoolAns (StyR s) w w' e := by
  have HB0 : Hid (Blk (w.alloc (.cells (styCells s).toArray 52)) w.heap.size 52 (styCells s).toArray) := Lib.hid (Blk.new _ _ _)
  have c0 := HB0.out.get _ (sty_a0 s)
  have c42 := HB0.out.get _ (sty_a42 s)
  rw [huv] at c42
  have HR := Lib.hid (sty_range _ _ s HB0.out)
  have HX := Lib.hid (box_any s (w.alloc (.cells (styCells s).toArray 52)) huv)
  have HE := Lib.hid (empty_any s (w.alloc (.cells (styCells s).toArray 52)) huv)
  have HW : Hid (∀ w', Below (w.alloc (.cells (styCells s).toArray 52)).heap.size (w.alloc (.cells (styCells s).toArray 52)) w' → Below w.heap.size w w') := Lib.hid (fun w' h => ((Below.refl _ _).alloc (Nat.le_refl _) _).trans (h.mono (by simp)))
  have HU := Lib.hid huv
  clear huv
  obtain ⟨k, hk⟩ : ∃ k, k = s.kind := ⟨_, rfl⟩
  rw [← hk] at c0
  have HK := Lib.hid hk
  clear hk
  by_cases h1 : k = 1 ∨ k = 2
  · have HH := Lib.hid h1
    rcases h1 with h1 | h1
    · have e1 : (k == 1) = true := beq_iff_eq.2 h1
      clear h1
      go_enter Try.func52, Try.ntmps52
      go_wp2_with (refine wpList_load_mid rfl 52 _ rfl w.heap.size 0 rfl (styCells s) _ HR.out Try.underlying52 rfl (by kernel_rfl) ?_)
      refine HX.out.mono ?_
      rintro e w1 ⟨⟨b, rfl, hb⟩, hw⟩
      have HB := Lib.hid hb
      have HW1 := Lib.hid (HW.out _ hw)
      clear hb hw
      go_wp2_with fail
      go_ret
      exact ⟨⟨b, rfl, fun h => ⟨(HB.out h).1.b, (HB.out h).1.lim, by have := HK.out; have := HH.out; omega, fun _ => (HB.out h).2⟩⟩, HW1.out⟩
    · have e1 : (k == 1) = false := beq_eq_false_iff_ne.2 (by omega)
      have e2 : (k == 2) = true := beq_iff_eq.2 h1
      clear h1
      go_enter Try.func52, Try.ntmps52
      go_wp2_with (refine wpList_load_mid rfl 52 _ rfl w.heap.size 0 rfl (styCells s) _ HR.out Try.underlying52 rfl (by kernel_rfl) ?_)
      refine HX.out.mono ?_
      rintro e w1 ⟨⟨b, rfl, hb⟩, hw⟩
      have HB := Lib.hid hb
      have HW1 := Lib.hid (HW.out _ hw)
      clear hb hw
      go_wp2_with fail
      go_ret
      exact ⟨⟨b, rfl, fun h => ⟨(HB.out h).1.b, (HB.out h).1.lim, by have := HK.out; have := HH.out; omega, fun _ => (HB.out h).2⟩⟩, HW1.out⟩
  · have e1 : (k == 1) = false := beq_eq_false_iff_ne.2 (by omega)
    have e2 : (k == 2) = false := beq_eq_false_iff_ne.2 (by omega)
    by_cases h3 : k = 3
    · have e3 : (k == 3) = true := beq_iff_eq.2 h3
      have HH := Lib.hid h3
      clear h1 h3
      go_enter Try.func52, Try.ntmps52
      go_wp2_with (refine wpList_load_mid rfl 52 _ rfl w.heap.size 0 rfl (styCells s) _ HR.out Try.underlying52 rfl (by kernel_rfl) ?_)
      refine HE.out.mono ?_
      rintro e w1 ⟨⟨b, rfl, hb⟩, hw⟩
      have HB := Lib.hid hb
      have HW1 := Lib.hid (HW.out _ hw)
      have cu2 : w1.cell? ⟨w.heap.size, 42, none⟩ = some (.slice Au nu cu) := (hw.cell (p := ⟨w.heap.size, 42, none⟩) (by simp)).trans c42
      clear hb hw c42
      cases b
      · go_wp2_with fail
        go_ret
        exact ⟨⟨false, rfl, by simp⟩, HW1.out⟩
      · go_wp2_with fail
        all_goals (go_ret; exact ⟨⟨_, rfl, fun _ => ⟨(HB.out (by simp)).b, (HB.out (by simp)).lim, by have := HK.out; have := HH.out; omega, fun h => absurd (HK.out ▸ HH.out) h⟩⟩, HW1.out⟩)
    · have e3 : (k == 3) = false := beq_eq_false_iff_ne.2 h3
      clear h1 h3
      go_enter Try.func52, Try.ntmps52
      go_wp2_with fail
      go_ret
      exact ⟨⟨false, rfl, by simp⟩, (Below.refl _ _).alloc (Nat.le_refl _) _⟩
end Go.Proofs.Ytbopeofglhkffaa
