/- The contract of floats.Place. -/
import Derived.Test.YtlebbkhhhmempaaFe
set_option linter.unusedSimpArgs false
set_option linter.unusedVariables false
namespace Go.Proofs.Ytlebbkhhhmempaa
open Go.RowKit Go.Shelf
attribute [local go_sem] block_of_add Oper.semAt_some

theorem shaft_any (A : Option Addr) (n c : Nat) (top : Int) (w : World) :
    Calls Try.prog 142 #[.agg #[.slice A n c, .int .i64 top]] w fun e w' => e = .returned (.func (.func 160) #[] #[.pointer (some ⟨w.heap.size, 0, none⟩)]) ∧ w.alloc (.cells #[.slice A n c, .int .i64 top] 235) = w' := by
  go_enter Try.func142, Try.ntmps142
  go_wp2_with fail
  go_ret
  exact ⟨rfl, rfl⟩
theorem ko_below {W W' : World} (h : Below W.heap.size W W') : KeepsOthers W W' := KeepsOthers.of_grownBy (grown0 h) (fun j o e => by cases e)
theorem find_none {hs : List Int} {p : Int → Bool} (h : ∀ j ∈ List.range hs.length, p ((hs[j]?).getD 0) = false) : hs.find? p = none := by
  rw [List.find?_eq_none]
  intro x hx
  obtain ⟨k, hk, rfl⟩ := List.getElem_of_mem hx
  have := h k (List.mem_range.2 hk)
  rw [List.getElem?_eq_getElem hk] at this
  simpa using this
theorem find_some {hs : List Int} {p : Int → Bool} : ∀ {k : Nat}, k < hs.length → (∀ j ∈ List.range k, p ((hs[j]?).getD 0) = false) → p ((hs[k]?).getD 0) = true → hs.find? p = some ((hs[k]?).getD 0) := by
  induction hs with
  | nil => intro k hk; simp at hk
  | cons a t ih =>
    intro k hk h1 h2
    cases k with
    | zero => simp only [List.getElem?_cons_zero, Option.getD_some] at h2 ⊢; rw [List.find?_cons_of_pos h2]
    | succ k =>
      have h0 := h1 0 (by simp)
      simp only [List.getElem?_cons_zero, Option.getD_some] at h0
      simp only [List.getElem?_cons_succ] at h2 ⊢
      rw [List.find?_cons_of_neg (by simp [h0])]
      exact ih (by simpa using hk) (fun j hj => by have := h1 (j + 1) (List.mem_range.2 (by have := List.mem_range.1 hj; omega)); simpa using this) h2
theorem range_snoc {a : Nat} {init : List Nat} {k : Nat} (h : List.range (a + 1) = init ++ [k]) : init = List.range a ∧ k = a := by
  rw [List.range_succ] at h
  have := List.append_inj_right' h rfl
  exact ⟨(List.append_inj_left' h rfl).symm, by simpa using this.symm⟩
def fl0 (s x y W H : Int) : Array Value := #[.int .u8 s, .int .i64 x, .int .i64 y, .int .i64 W, .int .i64 H]
/-- Between two heights: the result so far, and what does not change. -/
structure PlI (w : World) (l : List Fl) (A : Option Addr) (c : Nat) (s left right : Int) (cs : Array Value) (bu : Nat) (top : Int) (W : World) : Prop where
  b0 : Blk W w.heap.size 105 #[.slice A l.length c]
  b1 : Blk W (w.heap.size + 1) 5 #[.int .u8 s]
  b2 : Blk W (w.heap.size + 1 + 1) 2 #[.int .i64 left]
  b3 : Blk W (w.heap.size + 1 + 1 + 1) 2 #[.int .i64 right]
  res : Blk W (w.heap.size + 1 + 1 + 1 + 1) 165 (fl0 0 0 0 0 0)
  out : Blk W (w.heap.size + 1 + 1 + 1 + 1 + 1) 165 cs
  old : Below w.heap.size w W
  big : bu ≤ W.heap.size
theorem PlI.grown {w : World} {l : List Fl} {A : Option Addr} {c : Nat} {s left right : Int} {cs : Array Value} {bu : Nat} {top : Int} {W W' : World} {row : Option Nat} (h : PlI w l A c s left right cs bu top W) (hg : W.grownBy W' row) (hr : ∀ r, row = some r → w.heap.size ≤ r ∧ ∃ o : Obj, W.heap[r]? = some o ∧ o.isCells = false) : PlI w l A c s left right cs bu top W' := by
  have k : ∀ {g : Nat} {t : TypeId} {cs : Array Value}, Blk W g t cs → Blk W' g t cs := fun {g t cs} hb => hb.grown hg (fun e => by obtain ⟨_, o, ho, hc⟩ := hr g e.symm; rw [show W.heap[g]? = _ from hb] at ho; cases ho; cases hc)
  have h1 := h.b0.lt
  refine ⟨k h.b0, k h.b1, k h.b2, k h.b3, k h.res, k h.out, h.old.grown hg (by omega) (fun r e => (hr r e).1), Nat.le_trans h.big hg.size⟩
theorem PlI.below {w : World} {l : List Fl} {A : Option Addr} {c : Nat} {s left right : Int} {cs : Array Value} {bu : Nat} {top : Int} {W W' : World} (h : PlI w l A c s left right cs bu top W) (hb : Below W.heap.size W W') : PlI w l A c s left right cs bu top W' :=
  ⟨h.b0.below hb h.b0.lt, h.b1.below hb h.b1.lt, h.b2.below hb h.b2.lt, h.b3.below hb h.b3.lt, h.res.below hb h.res.lt, h.out.below hb h.out.lt, h.old.trans (hb.mono (by have := h.b0.lt; omega)), Nat.le_trans h.big hb.size⟩
theorem PlI.put {w : World} {l : List Fl} {A : Option Addr} {c : Nat} {s left right : Int} {cs : Array Value} {bu : Nat} {top : Int} {W : World} (h : PlI w l A c s left right cs bu top W) (i : Nat) (v : Value) : PlI w l A c s left right (cs.setIfInBounds i v) bu top (W.setCell ⟨w.heap.size + 1 + 1 + 1 + 1 + 1, i, none⟩ v) :=
  ⟨h.b0.far (by simp <;> omega) _, h.b1.far (by simp <;> omega) _, h.b2.far (by simp <;> omega) _, h.b3.far (by simp) _, h.res.far (by simp) _, h.out.set_ _ _, h.old.setCell (p := ⟨w.heap.size + 1 + 1 + 1 + 1 + 1, i, none⟩) (by simp <;> omega) _, by simpa [World.setCell] using h.big⟩
theorem PlI.big1 {w : World} {l : List Fl} {A : Option Addr} {c : Nat} {s left right : Int} {cs : Array Value} {bu bu' : Nat} {top : Int} {W : World} (h : PlI w l A c s left right cs bu top W) (hb : bu' ≤ W.heap.size) : PlI w l A c s left right cs bu' top W :=
  ⟨h.b0, h.b1, h.b2, h.b3, h.res, h.out, h.old, hb⟩
theorem place_fin {w W : World} {t : TypeId} {g D : Nat} {c0 c1 c2 c3 c4 : Value} (hb : Blk W g t #[c0, c1, c2, c3, c4]) (hD : g < D) (hw : w.heap.size ≤ g) (hold : Below w.heap.size w W) (hK : W.heap[D]? = some (.deferred (some []))) (v0 v1 v2 v3 v4 : Value) :
    ∃ X : World, X = ((((W.setCell ⟨g, 0, none⟩ v0).setCell ⟨g, 1, none⟩ v1).setCell ⟨g, 2, none⟩ v2).setCell ⟨g, 3, none⟩ v3).setCell ⟨g, 4, none⟩ v4 ∧ X.heap[D]? = some (.deferred (some [])) ∧ Blk X g t #[v0, v1, v2, v3, v4] ∧ Below w.heap.size w X := by
  have hk : ∀ (W' : World) (i : Nat) (v : Value), W'.heap[D]? = some (.deferred (some [])) → (W'.setCell ⟨g, i, none⟩ v).heap[D]? = some (.deferred (some [])) := fun W' i v h => (Below.heap_setCell _ ⟨g, i, none⟩ _ D (by show D ≠ g; omega)).trans h
  have hl : ∀ (W' : World) (i : Nat) (v : Value), Below w.heap.size w W' → Below w.heap.size w (W'.setCell ⟨g, i, none⟩ v) := fun W' i v h => h.setCell (p := ⟨g, i, none⟩) hw _
  exact ⟨_, rfl, hk _ _ _ (hk _ _ _ (hk _ _ _ (hk _ _ _ (hk _ _ _ hK)))), ((((hb.set_ 0 v0).set_ 1 v1).set_ 2 v2).set_ 3 v3).set_ 4 v4, hl _ _ _ (hl _ _ _ (hl _ _ _ (hl _ _ _ (hl _ _ _ hold))))⟩
set_option maxRecDepth 100000 in
set_option maxHeartbeats 4000000 in
theorem place1_any (l : List Fl) (A : Option Addr) (c : Nat) (wd hg left right y b : Int) (w : World) (hn : l.length ≤ 65536) (hb : 0 ≤ b ∧ b ≤ 144115188075855872) (hl : FlB b l) (hy : -b ≤ y ∧ y ≤ b) (hwd : 0 ≤ wd ∧ wd ≤ b) (hhg : 0 ≤ hg) (hx : (-b ≤ left ∧ left ≤ b) ∧ (-b ≤ right ∧ right ≤ b))
    (hr : Reads w w.heap.size 5 A l.length (flsCells l)) :
    Calls Try.prog 107 #[.slice A l.length c, .int .u8 1, .int .i64 wd, .int .i64 hg, .int .i64 left, .int .i64 right, .int .i64 y] w fun e w' => e = .returned (.agg (flCells (placeF l 1 wd hg left right y)).toArray) ∧ Below w.heap.size w w' := by
  refine (callsIn_wide (n := 5)).1 ?_
  refine callsIn_of_wp_marks Try.func107 rfl trivial ?_ rfl
  simp only [Try.ntmps107, List.size_toArray, List.length_cons, List.length_nil, Nat.reduceAdd, Nat.reduceSub, Array.replicate_succ, Array.replicate_zero, List.push_toArray, List.append_toArray, List.nil_append, List.cons_append]
  have HR := Lib.hid hr
  have HN := Lib.hid hn
  have HL := Lib.hid hl
  have HY := Lib.hid hy
  have HX := Lib.hid hx
  clear hr hl hn hy hx
  obtain ⟨P, HP⟩ : ∃ P, Hid (P = placeF l 1 wd hg left right y) := ⟨_, Lib.hid rfl⟩
  rw [← HP.out]
  have m1 : decide (wd < 0) = false := decide_eq_false (by omega)
  have m2 : decide (hg < 0) = false := decide_eq_false (by omega)
  gi_wp2_with fail
  gi_loopw [6, 31] (fun yv q wr => ∃ k : Nat, k ≤ l.length ∧ q = .int .i64 k ∧ yv = .int .i64 ((l.take k).foldl (fun y f => max y f.y) y) ∧ Hid (PlI w l A c 1 left right (fl0 1 0 0 wd hg) 0 0 wr)) (fun _ q _ => l.length - (intOf q).toNat)
  case atStart =>
    refine ⟨0, by omega, rfl, rfl, Lib.hid ⟨?_, ?_, ?_, ?_, ?_, ?_, ?_, Nat.zero_le _⟩⟩
    · exact (((((Blk.at_ _ _ _ (by simp)).alloc _).alloc _).alloc _).alloc _).alloc _
    · exact ((((Blk.at_ _ _ _ (by simp)).alloc _).alloc _).alloc _).alloc _
    · exact (((Blk.at_ _ _ _ (by simp)).alloc _).alloc _).alloc _
    · exact ((Blk.at_ _ _ _ (by simp)).alloc _).alloc _
    · exact (Blk.at_ _ _ _ (by simp)).alloc _
    · exact Blk.at_ _ _ _ (by simp)
    · exact ((((((Below.refl _ _).alloc (Nat.le_refl _) _).alloc (by simp) _).alloc (by simp; omega) _).alloc (by simp; omega) _).alloc (by simp; omega) _).alloc (by simp; omega) _
  case round =>
    obtain ⟨k, hk, rfl, rfl, HI⟩ := hrel
    by_cases hlt : k < l.length
    · have d0 : decide ((k : Int) < (l.length : Int)) = true := decide_eq_true (by omega)
      have d0' : decide (k < l.length) = true := decide_eq_true hlt
      have hwk : IntKind.i64.wrap ((k : Int) + 1) = (k : Int) + 1 := IntWalk.i64_in _ ⟨by omega, by have := HN.out; omega⟩
      obtain ⟨ad, rfl, hlt', c0, c1, c2, c3, c4⟩ := (HR.out.below HI.out.old).fl rfl hlt
      have HF := Lib.hid (foldl_take_succ (fun (y : Int) (f : Fl) => max y f.y) y l k hlt)
      obtain ⟨Y, HYY⟩ : ∃ Y, Hid (Y = (l.take k).foldl (fun (y : Int) (f : Fl) => max y f.y) y) := ⟨_, Lib.hid rfl⟩
      rw [← HYY.out] at HF ⊢
      gi_wp2_with fail
      all_goals
        go_roundw
        case rel => exact ⟨k + 1, by omega, by go_num, congrArg (Value.int .i64) (by rw [HF.out]; omega), Lib.hid (HI.out.below ((Below.refl _ _).alloc (Nat.le_refl _) _))⟩
        case measure => simp [intOf]; omega
    · have d0 : decide ((k : Int) < (l.length : Int)) = false := decide_eq_false (by omega)
      have d0' : decide (k < l.length) = false := decide_eq_false hlt
      have HK := Lib.hid (show k = l.length by omega)
      rw [HK.out, List.take_length]
      obtain ⟨T, HT⟩ : ∃ T, Hid (T = topF l y) := ⟨_, Lib.hid rfl⟩
      rw [show l.foldl (fun (y : Int) (f : Fl) => max y f.y) y = T from HT.out.symm]
      obtain ⟨c0, c1⟩ := (show wr.cell? ⟨w.heap.size, 0, none⟩ = some (.slice A l.length c) ∧ True from ⟨HI.out.b0.c1, trivial⟩)
      gi_wp2_with (refine ⟨trivial, ?_⟩; gi_at_call 142; refine (callsIn_wide.2 (shaft_any _ _ _ _ _)).mono ?_; rintro e w' ⟨rfl, rfl⟩)
      obtain ⟨hs, Hhs⟩ : ∃ hs, Hid (hs = heightsF l T) := ⟨_, Lib.hid rfl⟩
      have HI0 := Lib.hid (HI.out.below ((Below.refl wr.heap.size wr).alloc (Nat.le_refl _) (.cells #[.slice A l.length c, .int .i64 T] 235)))
      have hz : w.heap.size + 1 + 1 + 1 + 1 + 1 < wr.heap.size := HI.out.out.lt
      have HSQ := Lib.hid (heights_any 4 (by decide) l A c w.heap.size wr.heap.size T b (wr.alloc (.cells #[.slice A l.length c, .int .i64 T] 235)) HN.out (by omega) HL.out (by omega) (Blk.new _ _ _) (HR.out.below HI0.out.old))
      rw [← Hhs.out] at HSQ
      have HV : Hid (∀ k : Nat, -b ≤ (hs[k]?).getD 0 ∧ (hs[k]?).getD 0 ≤ 2 * b) := Lib.hid fun k => by
        cases hk : hs[k]? with
        | none => simp; omega
        | some v =>
          have h1 := top_bd HL.out HY.out.1 HY.out.2
          have hm : v ∈ heightsF l T := by rw [← Hhs.out]; exact List.mem_of_getElem? hk
          exact heights_bd HL.out (by rw [HT.out]; have := HY.out; omega) hm
      clear c0 c1
      refine wpIn_rangeFunc_ownF (F := Fence.wide) (n := 5) (w0 := wr.alloc (.cells #[.slice A l.length c, .int .i64 T] 235)) rfl (by decide) (gf := 160) (lb := #[.pointer (some ⟨wr.heap.size, 0, none⟩)]) rfl trivial
        (enters_of Try.func160 (by kernel_rfl) rfl) HSQ.out kp7_t (fun W q o o' hl h h1 h2 => kp7_b (b := (wr.alloc (.cells #[.slice A l.length c, .int .i64 T] 235)).heap.size) (by simp; omega) (by simp) W q o o' hl h h1 h2) (Below.refl _ _) (fun _ => rfl)
        (fun pre W => (∀ j ∈ pre, fitsF l wd left right ((hs[j]?).getD 0) = false) ∧ PlI w l A c 1 left right (fl0 1 0 0 wd hg) (wr.heap.size + 1) 0 W)
        (fun cd pre W => cd = .exit 2 ∧ ∃ (init : List Nat) (k : Nat), pre = init ++ [k] ∧ (∀ j ∈ init, fitsF l wd left right ((hs[j]?).getD 0) = false) ∧ fitsF l wd left right ((hs[k]?).getD 0) = true ∧
          PlI w l A c 1 left right (fl0 1 (tallF l ((hs[k]?).getD 0) left right).1 ((hs[k]?).getD 0) wd hg) (wr.heap.size + 1) 0 W)
        ?hI ?hIx ⟨by simp, HI0.out.big1 (by simp)⟩ ?a1 ?hassign ?hbody ?hdone ?hstop
      case hI => exact fun s W W' row h hg hr => ⟨h.1, h.2.grown hg fun r e => ⟨by have := (hr r e).1; simp at this; omega, (hr r e).2⟩⟩
      case hIx =>
        rintro cd s W W' row ⟨h0, init, k, h1, h2, h3, h4⟩ hg hr
        exact ⟨h0, init, k, h1, h2, h3, h4.grown hg fun r e => ⟨by have := (hr r e).1; simp at this; omega, (hr r e).2⟩⟩
      case hassign =>
        intro q x W K hK
        simp only [htEnc]
        gi_wp2
        exact hK
      case hbody =>
        rintro q pre x W ⟨hnot, hi⟩ hpre
        have HPI := Lib.hid hi
        have HNOT := Lib.hid hnot
        have hv := HV.out x
        obtain ⟨v, hv'⟩ : ∃ v, (hs[x]?).getD 0 = v := ⟨_, rfl⟩
        have c0 := hi.b0.c1
        have c1 := hi.b1.c1
        have c2 := hi.b2.c1
        have c3 := hi.b3.c1
        rw [hv'] at hv ⊢
        clear hi
        have htb := tall_bd HL.out v (left, right) ⟨⟨by have := HX.out; simp; omega, by have := HX.out; simp; omega⟩, ⟨by have := HX.out; simp; omega, by have := HX.out; simp; omega⟩⟩
        obtain ⟨t1, t2, HTT⟩ : ∃ t1 t2, Hid (tallF l v left right = (t1, t2)) := ⟨_, _, Lib.hid rfl⟩
        rw [show l.foldl (tallS v) (left, right) = (t1, t2) from HTT.out] at htb
        have hwt : IntKind.i64.wrap (t2 - t1) = t2 - t1 := IntWalk.i64_in _ ⟨by simp at htb; omega, by simp at htb; omega⟩
        have hwt2 : IntKind.i64.wrap (t2 - wd) = t2 - wd := IntWalk.i64_in _ ⟨by simp at htb; omega, by simp at htb; omega⟩
        have hv60 : In60 v := ⟨by omega, by omega⟩
        have HB := Lib.hid (fun (W1 : World) (hb1 : Below W.heap.size W W1) => band_any l A c W1 v b left right HN.out (by omega) hv60 HL.out (((HR.out.below HPI.out.old).below (hb1.mono (HPI.out.old.size))).more (Nat.le_trans HPI.out.old.size hb1.size)))
        have HSM := Lib.hid (fun (W1 : World) (hb1 : Below W.heap.size W W1) => some_any l A c W1 v b HN.out (by omega) hv60 HL.out (((HR.out.below HPI.out.old).below (hb1.mono (HPI.out.old.size))).more (Nat.le_trans HPI.out.old.size hb1.size)))
        have hz1 : w.heap.size + 1 + 1 + 1 + 1 + 1 < W.heap.size := HPI.out.out.lt
        have HZ2 := Lib.hid HPI.out.big
        rcases (show ∃ S, Hid (someF l v = S) from ⟨_, Lib.hid rfl⟩) with ⟨S, HSS⟩
        cases S
        all_goals cases e1 : decide (t2 - t1 < wd)
        all_goals
          gi_wp2_with (first
            | (refine ⟨trivial, ?_⟩; gi_at_call 143; refine (CallsIn.inRound q (callsIn_wide.2 (HB.out _ (Below.refl _ _)))).mono ?_; rintro e w2 ⟨rfl, hb2⟩; rw [HTT.out]; have HP2 := Lib.hid (HPI.out.below hb2); clear c0 c1 c2 c3; have c0 := HP2.out.b0.c1; have c1 := HP2.out.b1.c1; have c2 := HP2.out.b2.c1; have c3 := HP2.out.b3.c1)
            | (refine ⟨trivial, ?_⟩; gi_at_call 144; refine (CallsIn.inRound q (callsIn_wide.2 (HSM.out _ hb2))).mono ?_; rintro e w3 ⟨rfl, hb3⟩; rw [HSS.out]; have HP3 := Lib.hid (HP2.out.below hb3); clear c0 c1 c2 c3; have c1 := HP3.out.b1.c1; obtain ⟨o0, o1, o2, o3, o4⟩ := HP3.out.out.c5; have of := HP3.out.out.frozen))
        all_goals first
          | (refine ⟨(ko_below hb2).trans (ko_below hb3), ⟨(hb2.trans (hb3.mono hb2.size)).mono HPI.out.old.size, (hb3.block _ (by have := hb2.size; have := HZ2.out; omega)).trans (hb2.block _ (by have := HZ2.out; omega))⟩, fun j hj => ?_, HP3.out⟩
             rcases List.mem_append.1 hj with hj | hj
             · exact HNOT.out j hj
             · rw [List.mem_singleton.1 hj, hv']; unfold fitsF; rw [HSS.out, HTT.out]; simp; exact of_decide_eq_true e1)
          | (refine ⟨?_, rfl, pre, x, rfl, HNOT.out, ?_, ?_⟩
             · refine KeepsOthers.trans (ko_below hb2) (KeepsOthers.trans (ko_below hb3) ?_)
               repeat first | exact KeepsOthers.setCell _ _ _ | refine KeepsOthers.trans ?_ (KeepsOthers.setCell _ _ _)
             · rw [hv']; unfold fitsF; rw [HSS.out, HTT.out]; first | rfl | (simp; simp at e1; exact e1)
             · rw [hv', HTT.out]
               exact (HP3.out.put 1 (.int .i64 t1)).put 2 (.int .i64 v))
      case hdone =>
        rintro D xs W hD hS ⟨hnot, hi⟩ hK
        have e9 : P = ⟨1, 0, 0, wd, hg⟩ := by
          rw [HP.out]
          unfold placeF
          rw [show max wd 0 = wd by omega, show max hg 0 = hg by omega, show heightsF l (topF l y) = hs by rw [← HT.out, ← Hhs.out], find_none (by rw [← show xs = List.range hs.length from hS]; exact hnot)]; rfl
        subst e9
        have HI9 := Lib.hid hi
        clear hi hnot
        obtain ⟨o0, o1, o2, o3, o4⟩ := HI9.out.out.c5
        obtain ⟨q0, q1, q2, q3, q4⟩ := HI9.out.res.c5
        have qf := HI9.out.res.frozen
        have hzD : w.heap.size + 1 + 1 + 1 + 1 < D := by simp at hD; omega
        gi_wp2_with fail
        obtain ⟨X, hX, hKX, hBX, hLX⟩ := place_fin HI9.out.res hzD (by omega) HI9.out.old hK (.int .u8 1) (.int .i64 0) (.int .i64 0) (.int .i64 wd) (.int .i64 hg)
        rw [← hX]
        clear hX
        refine ⟨by simp, .inl ⟨_, _, rfl, run_takeDeferred hKX, ?_⟩⟩
        have hBY : Blk (X.putObj D (.deferred none)) (w.heap.size + 1 + 1 + 1 + 1) 165 #[.int .u8 1, .int .i64 0, .int .i64 0, .int .i64 wd, .int .i64 hg] := (World.putObj_heap_other (by omega)).trans hBX
        refine ⟨_, results_cell_row rfl _ _ (w.heap.size + 1 + 1 + 1 + 1) 165 #[_, _, _, _, _] (0, 0) _ rfl hBY Try.underlying165 rfl (by kernel_rfl), by first | rfl | (rw [List.getElem?_eq_getElem (by assumption)]; rfl), ?_⟩
        exact hLX.trans (belowK_b (w := w) (Nat.le_refl _) X D (.deferred (some [])) _ (by omega) hKX rfl rfl)
      case hstop =>
        rintro D cd pre W hD ⟨ka, hk, rfl⟩ ⟨rfl, init, kk, h1, h2, h3, hi⟩ hK
        obtain ⟨rfl, hkk⟩ := range_snoc h1
        subst hkk
        have e9 : P = ⟨1, (tallF l ((hs[kk]?).getD 0) left right).1, (hs[kk]?).getD 0, wd, hg⟩ := by
          rw [HP.out]
          unfold placeF
          rw [show max wd 0 = wd by omega, show max hg 0 = hg by omega, show heightsF l (topF l y) = hs by rw [← HT.out, ← Hhs.out], find_some hk h2 h3]; rfl
        subst e9
        have HI9 := Lib.hid hi
        clear hi h1 h2 h3
        obtain ⟨o0, o1, o2, o3, o4⟩ := HI9.out.out.c5
        obtain ⟨q0, q1, q2, q3, q4⟩ := HI9.out.res.c5
        have qf := HI9.out.res.frozen
        have hzD : w.heap.size + 1 + 1 + 1 + 1 < D := by simp at hD; omega
        gi_wp2_with fail
        obtain ⟨X, hX, hKX, hBX, hLX⟩ := place_fin HI9.out.res hzD (by omega) HI9.out.old hK (.int .u8 1) (.int .i64 ((tallF l (hs[kk]) left right).1)) (.int .i64 (hs[kk])) (.int .i64 wd) (.int .i64 hg)
        rw [← hX]
        clear hX
        refine ⟨by simp, .inl ⟨_, _, rfl, run_takeDeferred hKX, ?_⟩⟩
        have hBY : Blk (X.putObj D (.deferred none)) (w.heap.size + 1 + 1 + 1 + 1) 165 #[.int .u8 1, .int .i64 ((tallF l (hs[kk]) left right).1), .int .i64 (hs[kk]), .int .i64 wd, .int .i64 hg] := (World.putObj_heap_other (by omega)).trans hBX
        refine ⟨_, results_cell_row rfl _ _ (w.heap.size + 1 + 1 + 1 + 1) 165 #[_, _, _, _, _] (0, 0) _ rfl hBY Try.underlying165 rfl (by kernel_rfl), by first | rfl | (rw [List.getElem?_eq_getElem (by assumption)]; rfl), ?_⟩
        exact hLX.trans (belowK_b (w := w) (Nat.le_refl _) X D (.deferred (some [])) _ (by omega) hKX rfl rfl)
set_option maxRecDepth 100000 in
set_option maxHeartbeats 4000000 in
theorem place2_any (l : List Fl) (A : Option Addr) (c : Nat) (wd hg left right y b : Int) (w : World) (hn : l.length ≤ 65536) (hb : 0 ≤ b ∧ b ≤ 144115188075855872) (hl : FlB b l) (hy : -b ≤ y ∧ y ≤ b) (hwd : 0 ≤ wd ∧ wd ≤ b) (hhg : 0 ≤ hg) (hx : (-b ≤ left ∧ left ≤ b) ∧ (-b ≤ right ∧ right ≤ b))
    (hr : Reads w w.heap.size 5 A l.length (flsCells l)) :
    Calls Try.prog 107 #[.slice A l.length c, .int .u8 2, .int .i64 wd, .int .i64 hg, .int .i64 left, .int .i64 right, .int .i64 y] w fun e w' => e = .returned (.agg (flCells (placeF l 2 wd hg left right y)).toArray) ∧ Below w.heap.size w w' := by
  refine (callsIn_wide (n := 5)).1 ?_
  refine callsIn_of_wp_marks Try.func107 rfl trivial ?_ rfl
  simp only [Try.ntmps107, List.size_toArray, List.length_cons, List.length_nil, Nat.reduceAdd, Nat.reduceSub, Array.replicate_succ, Array.replicate_zero, List.push_toArray, List.append_toArray, List.nil_append, List.cons_append]
  have HR := Lib.hid hr
  have HN := Lib.hid hn
  have HL := Lib.hid hl
  have HY := Lib.hid hy
  have HX := Lib.hid hx
  clear hr hl hn hy hx
  obtain ⟨P, HP⟩ : ∃ P, Hid (P = placeF l 2 wd hg left right y) := ⟨_, Lib.hid rfl⟩
  rw [← HP.out]
  have m1 : decide (wd < 0) = false := decide_eq_false (by omega)
  have m2 : decide (hg < 0) = false := decide_eq_false (by omega)
  gi_wp2_with fail
  gi_loopw [6, 31] (fun yv q wr => ∃ k : Nat, k ≤ l.length ∧ q = .int .i64 k ∧ yv = .int .i64 ((l.take k).foldl (fun y f => max y f.y) y) ∧ Hid (PlI w l A c 2 left right (fl0 2 0 0 wd hg) 0 0 wr)) (fun _ q _ => l.length - (intOf q).toNat)
  case atStart =>
    refine ⟨0, by omega, rfl, rfl, Lib.hid ⟨?_, ?_, ?_, ?_, ?_, ?_, ?_, Nat.zero_le _⟩⟩
    · exact (((((Blk.at_ _ _ _ (by simp)).alloc _).alloc _).alloc _).alloc _).alloc _
    · exact ((((Blk.at_ _ _ _ (by simp)).alloc _).alloc _).alloc _).alloc _
    · exact (((Blk.at_ _ _ _ (by simp)).alloc _).alloc _).alloc _
    · exact ((Blk.at_ _ _ _ (by simp)).alloc _).alloc _
    · exact (Blk.at_ _ _ _ (by simp)).alloc _
    · exact Blk.at_ _ _ _ (by simp)
    · exact ((((((Below.refl _ _).alloc (Nat.le_refl _) _).alloc (by simp) _).alloc (by simp; omega) _).alloc (by simp; omega) _).alloc (by simp; omega) _).alloc (by simp; omega) _
  case round =>
    obtain ⟨k, hk, rfl, rfl, HI⟩ := hrel
    by_cases hlt : k < l.length
    · have d0 : decide ((k : Int) < (l.length : Int)) = true := decide_eq_true (by omega)
      have d0' : decide (k < l.length) = true := decide_eq_true hlt
      have hwk : IntKind.i64.wrap ((k : Int) + 1) = (k : Int) + 1 := IntWalk.i64_in _ ⟨by omega, by have := HN.out; omega⟩
      obtain ⟨ad, rfl, hlt', c0, c1, c2, c3, c4⟩ := (HR.out.below HI.out.old).fl rfl hlt
      have HF := Lib.hid (foldl_take_succ (fun (y : Int) (f : Fl) => max y f.y) y l k hlt)
      obtain ⟨Y, HYY⟩ : ∃ Y, Hid (Y = (l.take k).foldl (fun (y : Int) (f : Fl) => max y f.y) y) := ⟨_, Lib.hid rfl⟩
      rw [← HYY.out] at HF ⊢
      gi_wp2_with fail
      all_goals
        go_roundw
        case rel => exact ⟨k + 1, by omega, by go_num, congrArg (Value.int .i64) (by rw [HF.out]; omega), Lib.hid (HI.out.below ((Below.refl _ _).alloc (Nat.le_refl _) _))⟩
        case measure => simp [intOf]; omega
    · have d0 : decide ((k : Int) < (l.length : Int)) = false := decide_eq_false (by omega)
      have d0' : decide (k < l.length) = false := decide_eq_false hlt
      have HK := Lib.hid (show k = l.length by omega)
      rw [HK.out, List.take_length]
      obtain ⟨T, HT⟩ : ∃ T, Hid (T = topF l y) := ⟨_, Lib.hid rfl⟩
      rw [show l.foldl (fun (y : Int) (f : Fl) => max y f.y) y = T from HT.out.symm]
      obtain ⟨c0, c1⟩ := (show wr.cell? ⟨w.heap.size, 0, none⟩ = some (.slice A l.length c) ∧ True from ⟨HI.out.b0.c1, trivial⟩)
      gi_wp2_with (refine ⟨trivial, ?_⟩; gi_at_call 142; refine (callsIn_wide.2 (shaft_any _ _ _ _ _)).mono ?_; rintro e w' ⟨rfl, rfl⟩)
      obtain ⟨hs, Hhs⟩ : ∃ hs, Hid (hs = heightsF l T) := ⟨_, Lib.hid rfl⟩
      have HI0 := Lib.hid (HI.out.below ((Below.refl wr.heap.size wr).alloc (Nat.le_refl _) (.cells #[.slice A l.length c, .int .i64 T] 235)))
      have hz : w.heap.size + 1 + 1 + 1 + 1 + 1 < wr.heap.size := HI.out.out.lt
      have HSQ := Lib.hid (heights_any 4 (by decide) l A c w.heap.size wr.heap.size T b (wr.alloc (.cells #[.slice A l.length c, .int .i64 T] 235)) HN.out (by omega) HL.out (by omega) (Blk.new _ _ _) (HR.out.below HI0.out.old))
      rw [← Hhs.out] at HSQ
      have HV : Hid (∀ k : Nat, -b ≤ (hs[k]?).getD 0 ∧ (hs[k]?).getD 0 ≤ 2 * b) := Lib.hid fun k => by
        cases hk : hs[k]? with
        | none => simp; omega
        | some v =>
          have h1 := top_bd HL.out HY.out.1 HY.out.2
          have hm : v ∈ heightsF l T := by rw [← Hhs.out]; exact List.mem_of_getElem? hk
          exact heights_bd HL.out (by rw [HT.out]; have := HY.out; omega) hm
      clear c0 c1
      refine wpIn_rangeFunc_ownF (F := Fence.wide) (n := 5) (w0 := wr.alloc (.cells #[.slice A l.length c, .int .i64 T] 235)) rfl (by decide) (gf := 160) (lb := #[.pointer (some ⟨wr.heap.size, 0, none⟩)]) rfl trivial
        (enters_of Try.func160 (by kernel_rfl) rfl) HSQ.out kp7_t (fun W q o o' hl h h1 h2 => kp7_b (b := (wr.alloc (.cells #[.slice A l.length c, .int .i64 T] 235)).heap.size) (by simp; omega) (by simp) W q o o' hl h h1 h2) (Below.refl _ _) (fun _ => rfl)
        (fun pre W => (∀ j ∈ pre, fitsF l wd left right ((hs[j]?).getD 0) = false) ∧ PlI w l A c 2 left right (fl0 2 0 0 wd hg) (wr.heap.size + 1) 0 W)
        (fun cd pre W => cd = .exit 2 ∧ ∃ (init : List Nat) (k : Nat), pre = init ++ [k] ∧ (∀ j ∈ init, fitsF l wd left right ((hs[j]?).getD 0) = false) ∧ fitsF l wd left right ((hs[k]?).getD 0) = true ∧
          PlI w l A c 2 left right (fl0 2 ((tallF l ((hs[k]?).getD 0) left right).2 - wd) ((hs[k]?).getD 0) wd hg) (wr.heap.size + 1) 0 W)
        ?hI ?hIx ⟨by simp, HI0.out.big1 (by simp)⟩ ?a1 ?hassign ?hbody ?hdone ?hstop
      case hI => exact fun s W W' row h hg hr => ⟨h.1, h.2.grown hg fun r e => ⟨by have := (hr r e).1; simp at this; omega, (hr r e).2⟩⟩
      case hIx =>
        rintro cd s W W' row ⟨h0, init, k, h1, h2, h3, h4⟩ hg hr
        exact ⟨h0, init, k, h1, h2, h3, h4.grown hg fun r e => ⟨by have := (hr r e).1; simp at this; omega, (hr r e).2⟩⟩
      case hassign =>
        intro q x W K hK
        simp only [htEnc]
        gi_wp2
        exact hK
      case hbody =>
        rintro q pre x W ⟨hnot, hi⟩ hpre
        have HPI := Lib.hid hi
        have HNOT := Lib.hid hnot
        have hv := HV.out x
        obtain ⟨v, hv'⟩ : ∃ v, (hs[x]?).getD 0 = v := ⟨_, rfl⟩
        have c0 := hi.b0.c1
        have c1 := hi.b1.c1
        have c2 := hi.b2.c1
        have c3 := hi.b3.c1
        rw [hv'] at hv ⊢
        clear hi
        have htb := tall_bd HL.out v (left, right) ⟨⟨by have := HX.out; simp; omega, by have := HX.out; simp; omega⟩, ⟨by have := HX.out; simp; omega, by have := HX.out; simp; omega⟩⟩
        obtain ⟨t1, t2, HTT⟩ : ∃ t1 t2, Hid (tallF l v left right = (t1, t2)) := ⟨_, _, Lib.hid rfl⟩
        rw [show l.foldl (tallS v) (left, right) = (t1, t2) from HTT.out] at htb
        have hwt : IntKind.i64.wrap (t2 - t1) = t2 - t1 := IntWalk.i64_in _ ⟨by simp at htb; omega, by simp at htb; omega⟩
        have hwt2 : IntKind.i64.wrap (t2 - wd) = t2 - wd := IntWalk.i64_in _ ⟨by simp at htb; omega, by simp at htb; omega⟩
        have hv60 : In60 v := ⟨by omega, by omega⟩
        have HB := Lib.hid (fun (W1 : World) (hb1 : Below W.heap.size W W1) => band_any l A c W1 v b left right HN.out (by omega) hv60 HL.out (((HR.out.below HPI.out.old).below (hb1.mono (HPI.out.old.size))).more (Nat.le_trans HPI.out.old.size hb1.size)))
        have HSM := Lib.hid (fun (W1 : World) (hb1 : Below W.heap.size W W1) => some_any l A c W1 v b HN.out (by omega) hv60 HL.out (((HR.out.below HPI.out.old).below (hb1.mono (HPI.out.old.size))).more (Nat.le_trans HPI.out.old.size hb1.size)))
        have hz1 : w.heap.size + 1 + 1 + 1 + 1 + 1 < W.heap.size := HPI.out.out.lt
        have HZ2 := Lib.hid HPI.out.big
        rcases (show ∃ S, Hid (someF l v = S) from ⟨_, Lib.hid rfl⟩) with ⟨S, HSS⟩
        cases S
        all_goals cases e1 : decide (t2 - t1 < wd)
        all_goals
          gi_wp2_with (first
            | (refine ⟨trivial, ?_⟩; gi_at_call 143; refine (CallsIn.inRound q (callsIn_wide.2 (HB.out _ (Below.refl _ _)))).mono ?_; rintro e w2 ⟨rfl, hb2⟩; rw [HTT.out]; have HP2 := Lib.hid (HPI.out.below hb2); clear c0 c1 c2 c3; have c0 := HP2.out.b0.c1; have c1 := HP2.out.b1.c1; have c2 := HP2.out.b2.c1; have c3 := HP2.out.b3.c1)
            | (refine ⟨trivial, ?_⟩; gi_at_call 144; refine (CallsIn.inRound q (callsIn_wide.2 (HSM.out _ hb2))).mono ?_; rintro e w3 ⟨rfl, hb3⟩; rw [HSS.out]; have HP3 := Lib.hid (HP2.out.below hb3); clear c0 c1 c2 c3; have c1 := HP3.out.b1.c1; obtain ⟨o0, o1, o2, o3, o4⟩ := HP3.out.out.c5; have of := HP3.out.out.frozen))
        all_goals first
          | (refine ⟨(ko_below hb2).trans (ko_below hb3), ⟨(hb2.trans (hb3.mono hb2.size)).mono HPI.out.old.size, (hb3.block _ (by have := hb2.size; have := HZ2.out; omega)).trans (hb2.block _ (by have := HZ2.out; omega))⟩, fun j hj => ?_, HP3.out⟩
             rcases List.mem_append.1 hj with hj | hj
             · exact HNOT.out j hj
             · rw [List.mem_singleton.1 hj, hv']; unfold fitsF; rw [HSS.out, HTT.out]; simp; exact of_decide_eq_true e1)
          | (refine ⟨?_, rfl, pre, x, rfl, HNOT.out, ?_, ?_⟩
             · refine KeepsOthers.trans (ko_below hb2) (KeepsOthers.trans (ko_below hb3) ?_)
               repeat first | exact KeepsOthers.setCell _ _ _ | refine KeepsOthers.trans ?_ (KeepsOthers.setCell _ _ _)
             · rw [hv']; unfold fitsF; rw [HSS.out, HTT.out]; first | rfl | (simp; simp at e1; exact e1)
             · rw [hv', HTT.out]
               exact ((HP3.out.put 1 (.int .i64 t1)).put 2 (.int .i64 v)).put 1 (.int .i64 (t2 - wd)))
      case hdone =>
        rintro D xs W hD hS ⟨hnot, hi⟩ hK
        have e9 : P = ⟨2, 0, 0, wd, hg⟩ := by
          rw [HP.out]
          unfold placeF
          rw [show max wd 0 = wd by omega, show max hg 0 = hg by omega, show heightsF l (topF l y) = hs by rw [← HT.out, ← Hhs.out], find_none (by rw [← show xs = List.range hs.length from hS]; exact hnot)]; rfl
        subst e9
        have HI9 := Lib.hid hi
        clear hi hnot
        obtain ⟨o0, o1, o2, o3, o4⟩ := HI9.out.out.c5
        obtain ⟨q0, q1, q2, q3, q4⟩ := HI9.out.res.c5
        have qf := HI9.out.res.frozen
        have hzD : w.heap.size + 1 + 1 + 1 + 1 < D := by simp at hD; omega
        gi_wp2_with fail
        obtain ⟨X, hX, hKX, hBX, hLX⟩ := place_fin HI9.out.res hzD (by omega) HI9.out.old hK (.int .u8 2) (.int .i64 0) (.int .i64 0) (.int .i64 wd) (.int .i64 hg)
        rw [← hX]
        clear hX
        refine ⟨by simp, .inl ⟨_, _, rfl, run_takeDeferred hKX, ?_⟩⟩
        have hBY : Blk (X.putObj D (.deferred none)) (w.heap.size + 1 + 1 + 1 + 1) 165 #[.int .u8 2, .int .i64 0, .int .i64 0, .int .i64 wd, .int .i64 hg] := (World.putObj_heap_other (by omega)).trans hBX
        refine ⟨_, results_cell_row rfl _ _ (w.heap.size + 1 + 1 + 1 + 1) 165 #[_, _, _, _, _] (0, 0) _ rfl hBY Try.underlying165 rfl (by kernel_rfl), by first | rfl | (rw [List.getElem?_eq_getElem (by assumption)]; rfl), ?_⟩
        exact hLX.trans (belowK_b (w := w) (Nat.le_refl _) X D (.deferred (some [])) _ (by omega) hKX rfl rfl)
      case hstop =>
        rintro D cd pre W hD ⟨ka, hk, rfl⟩ ⟨rfl, init, kk, h1, h2, h3, hi⟩ hK
        obtain ⟨rfl, hkk⟩ := range_snoc h1
        subst hkk
        have e9 : P = ⟨2, (tallF l ((hs[kk]?).getD 0) left right).2 - wd, (hs[kk]?).getD 0, wd, hg⟩ := by
          rw [HP.out]
          unfold placeF
          rw [show max wd 0 = wd by omega, show max hg 0 = hg by omega, show heightsF l (topF l y) = hs by rw [← HT.out, ← Hhs.out], find_some hk h2 h3]; rfl
        subst e9
        have HI9 := Lib.hid hi
        clear hi h1 h2 h3
        obtain ⟨o0, o1, o2, o3, o4⟩ := HI9.out.out.c5
        obtain ⟨q0, q1, q2, q3, q4⟩ := HI9.out.res.c5
        have qf := HI9.out.res.frozen
        have hzD : w.heap.size + 1 + 1 + 1 + 1 < D := by simp at hD; omega
        gi_wp2_with fail
        obtain ⟨X, hX, hKX, hBX, hLX⟩ := place_fin HI9.out.res hzD (by omega) HI9.out.old hK (.int .u8 2) (.int .i64 ((tallF l (hs[kk]) left right).2 - wd)) (.int .i64 (hs[kk])) (.int .i64 wd) (.int .i64 hg)
        rw [← hX]
        clear hX
        refine ⟨by simp, .inl ⟨_, _, rfl, run_takeDeferred hKX, ?_⟩⟩
        have hBY : Blk (X.putObj D (.deferred none)) (w.heap.size + 1 + 1 + 1 + 1) 165 #[.int .u8 2, .int .i64 ((tallF l (hs[kk]) left right).2 - wd), .int .i64 (hs[kk]), .int .i64 wd, .int .i64 hg] := (World.putObj_heap_other (by omega)).trans hBX
        refine ⟨_, results_cell_row rfl _ _ (w.heap.size + 1 + 1 + 1 + 1) 165 #[_, _, _, _, _] (0, 0) _ rfl hBY Try.underlying165 rfl (by kernel_rfl), by first | rfl | (rw [List.getElem?_eq_getElem (by assumption)]; rfl), ?_⟩
        exact hLX.trans (belowK_b (w := w) (Nat.le_refl _) X D (.deferred (some [])) _ (by omega) hKX rfl rfl)
theorem place_any (l : List Fl) (A : Option Addr) (c : Nat) (side wd hg left right y b : Int) (w : World) (hn : l.length ≤ 65536) (hb : 0 ≤ b ∧ b ≤ 144115188075855872) (hs : side = 1 ∨ side = 2) (hl : FlB b l) (hy : -b ≤ y ∧ y ≤ b) (hwd : 0 ≤ wd ∧ wd ≤ b) (hhg : 0 ≤ hg) (hx : (-b ≤ left ∧ left ≤ b) ∧ (-b ≤ right ∧ right ≤ b))
    (hr : Reads w w.heap.size 5 A l.length (flsCells l)) :
    Calls Try.prog 107 #[.slice A l.length c, .int .u8 side, .int .i64 wd, .int .i64 hg, .int .i64 left, .int .i64 right, .int .i64 y] w fun e w' => e = .returned (.agg (flCells (placeF l side wd hg left right y)).toArray) ∧ Below w.heap.size w w' := by
  rcases hs with rfl | rfl
  · exact place1_any l A c wd hg left right y b w hn hb hl hy hwd hhg hx hr
  · exact place2_any l A c wd hg left right y b w hn hb hl hy hwd hhg hx hr
end Go.Proofs.Ytlebbkhhhmempaa
