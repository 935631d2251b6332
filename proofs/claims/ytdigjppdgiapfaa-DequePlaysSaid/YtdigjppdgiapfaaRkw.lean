/- The document's deque and its workers' operations, a step at a time. -/
import Derived.Test.YtdigjppdgiapfaaRqg
import Derived.Test.YtdigjppdgiapfaaDwk
import Derived.Laws.StructEq
set_option linter.unusedSimpArgs false
set_option linter.unusedVariables false
namespace Go.Proofs.Ytdigjppdgiapfaa
open Go.RowKit

theorem eqA (a b : Int) (w : World) : (Op.equalIn 10000 44 (.agg #[.int .u8 a, .int .i64 b]) (.agg #[.int .u8 a, .int .i64 b])).run Try.prog w = .ok true w := by
  have u2 := Try.underlying5
  have u3 := Try.underlying3
  have g2 := Try.isAgg5
  have g3 := Try.isAgg3
  have z2 := Try.sizeOf5
  have z3 := Try.sizeOf3
  have hS : Try.prog.underlying 44 = some (.struct (Try.prog.fieldsOf 44)) := by kernel_rfl
  have hp : Try.prog.stoodInHeld 44 = false := by kernel_rfl
  rw [show (10000 : Nat) = 9999 + 1 from rfl, run_equalIn_agg w 9999 44 _ _ hS hp]
  simp only [Program.fieldsOf, Try.underlying44]
  go_simp
theorem acc_neq (a b : Int) (w : World) : (binOp .neq 44 (.agg #[.int .u8 a, .int .i64 b]) (.agg #[.int .u8 a, .int .i64 b])).run Try.prog w = .ok (.bool false) w := by
  rw [run_neq_struct, eqA]; rfl
theorem guardA (op : BinOp) (x y : Operand) (xs ys : Array Value) (w : World) : (eqGuard op 44 x y (.agg xs) (.agg ys)).run Try.prog w = .ok () w := run_eqGuard_agg w op _ x y xs ys (by kernel_rfl)
/-- Block g is none of the document's. -/
def NotRef (w : World) (g : Nat) : Prop := ∃ t cs, Blk w g t cs ∧ t ≠ 62 ∧ t ≠ 3 ∧ t ≠ 64
structure Rk (w : World) (rd rc base : Nat) (d : Dq) (hs : List (Option (Nat × Dop))) (rs : List (Option Nat)) (ow : Int) : Prop where
  at_ : RqAt w rd rc d ow
  ow0 : hs[0]? = some none → ow = 0
  ow1 : ∀ x, hs[0]? = some (some x) → ow = 1
  some_ : ∀ i g h, hs[i]? = some (some (g, h)) → ∃ r K, rs[i]? = some (some r) ∧ base ≤ r ∧ (i = 0 → K ≤ 1) ∧ (0 < i → K = 2) ∧ RoAt w r rd K h ∧ 1 ≤ h.pc
  none_ : ∀ i : Nat, hs[i]? = some none → rs[i]? = some none
  dist : ∀ i j r : Nat, rs[i]? = some (some r) → rs[j]? = some (some r) → i = j
  lc : base ≤ rc
  ld : base ≤ rd
  len : hs.length = rs.length
theorem RoAt.blk {w : World} {ro rd K : Nat} {o : Dop} (h : RoAt w ro rd K o) : ∃ r, Blk w ro 64 (rfCells rd r) := by
  obtain ⟨⟨won, _, hf⟩, _⟩ := h
  exact ⟨_, hf⟩
theorem Rk.kp {w w' : World} {rd rc base : Nat} {d : Dq} {hs : List (Option (Nat × Dop))} {rs : List (Option Nat)} {ow : Int} (h : Rk w rd rc base d hs rs ow) {bad : Nat → Prop} (hk : Kp bad w w')
    (hb : ∀ g, g < w.heap.size → bad g → g < base ∨ NotRef w g) : Rk w' rd rc base d hs rs ow := by
  have h1 : ¬ bad rd := fun hbad => by
    rcases hb rd h.at_.hdr.lt hbad with h1 | ⟨t, cs, h1, h2, h3, h4⟩
    · have := h.ld; omega
    · exact Blk.ne_ h1 h.at_.hdr h2 rfl
  have h2 : ¬ bad rc := fun hbad => by
    rcases hb rc h.at_.cel.lt hbad with h1 | ⟨t, cs, h1, h2, h3, h4⟩
    · have := h.lc; omega
    · exact Blk.ne_ h1 h.at_.cel h3 rfl
  refine ⟨h.at_.kp hk h1 h2, h.ow0, h.ow1, fun i g x hi => ?_, h.none_, h.dist, h.lc, h.ld, h.len⟩
  obtain ⟨r, K, e1, e2, e3, e4, e5, e6⟩ := h.some_ i g x hi
  refine ⟨r, K, e1, e2, e3, e4, e5.kp hk (fun hbad => ?_), e6⟩
  obtain ⟨y, hy⟩ := e5.blk
  rcases hb r hy.lt hbad with h1 | ⟨t, cs, h1, h2, h3, h4⟩
  · omega
  · exact Blk.ne_ h1 hy h4 rfl
/-- What the document's step of worker i leaves. -/
structure RkStep (w w' : World) (rd rc base : Nat) (d : Dq) (hs : List (Option (Nat × Dop))) (rs : List (Option Nat)) (ow : Int) (i g r : Nat) (h : Dop) (e : Ending) : Prop where
  he : e = .returned (.agg #[.int .u8 (dstep d h).2.2.1, .int .i64 (dstep d h).2.2.2])
  ro : ∃ K, RoAt w' r rd K (dstep d h).2.1
  rq : ∃ ow', RqAt w' rd rc (dstep d h).1 ow'
  go : 1 ≤ (dstep d h).2.1.pc → Rk w' rd rc base (dstep d h).1 (hs.set i (some (g, (dstep d h).2.1))) rs ow
  dn : (dstep d h).2.1.pc = 0 → ∃ ow', Rk w' rd rc base (dstep d h).1 (hs.set i none) (rs.set i none) ow'
  hk : Kp (fun k => k = rc ∨ k = r ∨ k = rd) w w'
theorem Rk.step {w : World} {rd rc base : Nat} {d : Dq} {hs : List (Option (Nat × Dop))} {rs : List (Option Nat)} {ow : Int} (k : Rk w rd rc base d hs rs ow) {i g r : Nat} {h : Dop} (hi : hs[i]? = some (some (g, h))) (hr : rs[i]? = some (some r)) (hc : Can d h) (hbb : -1000000 ≤ d.bot) (hbc : d.bot ≤ 1000000) :
    Calls Try.prog 16 #[.pointer (some ⟨r, 0, none⟩)] w fun e w' => RkStep w w' rd rc base d hs rs ow i g r h e := by
  obtain ⟨r', K, e1, e2, e3, e4, e5, e6⟩ := k.some_ i g h hi
  have hrr : r' = r := by rw [e1] at hr; injection hr with hr; injection hr
  subst hrr
  have hlen : i < hs.length := (List.getElem?_eq_some_iff.1 hi).1
  have how : ow = 0 ∨ ow = 1 := by
    have h0 : (0 : Nat) < hs.length := by omega
    rcases hx : hs[0]? with _ | x
    · rw [List.getElem?_eq_none_iff] at hx; omega
    · rcases x with _ | x
      · exact .inl (k.ow0 hx)
      · exact .inr (k.ow1 x hx)
  refine (rstep_any r' rd rc K d ow h w k.at_ e5 e6 hc (by omega) (by omega) hbb hbc).mono ?_
  rintro e w' ⟨he, ho, hd, hk⟩
  have hoth : ∀ (j : Nat) (g' : Nat) (h' : Dop), j ≠ i → hs[j]? = some (some (g', h')) → ∃ r K, rs[j]? = some (some r) ∧ base ≤ r ∧ (j = 0 → K ≤ 1) ∧ (0 < j → K = 2) ∧ RoAt w' r rd K h' ∧ 1 ≤ h'.pc := by
    intro j g' h' hj e
    obtain ⟨s, K2, f1, f2, f3, f4, f5, f6⟩ := k.some_ j g' h' e
    refine ⟨s, K2, f1, f2, f3, f4, f5.kp hk (fun hbad => ?_), f6⟩
    obtain ⟨y, hy⟩ := f5.blk
    rcases hbad with x | x | x
    · subst x; exact Blk.ne_ hy k.at_.cel (by decide) rfl
    · subst x; exact hj (k.dist j i s f1 e1)
    · subst x; exact Blk.ne_ hy k.at_.hdr (by decide) rfl
  have hkl : i = 0 → ow = 1 := fun h0 => by subst h0; exact k.ow1 _ hi
  refine ⟨he, ⟨K, ho⟩, ⟨_, hd⟩, fun hp => ?_, fun hp => ?_, hk⟩
  · rw [if_neg (by omega)] at hd
    refine ⟨hd, fun e => ?_, fun x e => ?_, fun j g' h' e => ?_, fun j e => ?_, k.dist, k.lc, k.ld, by simp [k.len]⟩
    · by_cases h0 : i = 0
      · subst h0; rw [List.getElem?_set_self hlen] at e; injection e with e; cases e
      · rw [List.getElem?_set_ne h0] at e; exact k.ow0 e
    · by_cases h0 : i = 0
      · exact hkl h0
      · rw [List.getElem?_set_ne h0] at e; exact k.ow1 x e
    · by_cases hj : j = i
      · subst hj
        rw [List.getElem?_set_self hlen] at e
        injection e with e; injection e with e; injection e with e9 e8
        subst e8
        exact ⟨r', K, e1, e2, e3, e4, ho, hp⟩
      · rw [List.getElem?_set_ne (Ne.symm hj)] at e
        exact hoth j g' h' hj e
    · by_cases hj : j = i
      · subst hj; rw [List.getElem?_set_self hlen] at e; injection e with e; cases e
      · rw [List.getElem?_set_ne (Ne.symm hj)] at e; exact k.none_ j e
  · have hlr : i < rs.length := by rw [← k.len]; exact hlen
    refine ⟨_, hd, fun e => ?_, fun x e => ?_, fun j g' h' e => ?_, fun j e => ?_, fun a b s f1 f2 => ?_, k.lc, k.ld, by simp [k.len]⟩
    · by_cases h0 : i = 0
      · rw [if_pos ⟨hp, e3 h0⟩, hkl h0]; rfl
      · rw [List.getElem?_set_ne h0] at e
        have := e4 (by omega)
        rw [if_neg (by omega)]; exact k.ow0 e
    · by_cases h0 : i = 0
      · subst h0; rw [List.getElem?_set_self hlen] at e; injection e with e; cases e
      · rw [List.getElem?_set_ne h0] at e
        have := e4 (by omega)
        rw [if_neg (by omega)]; exact k.ow1 x e
    · by_cases hj : j = i
      · subst hj; rw [List.getElem?_set_self hlen] at e; injection e with e; cases e
      · rw [List.getElem?_set_ne (Ne.symm hj)] at e ⊢
        exact hoth j g' h' hj e
    · by_cases hj : j = i
      · subst hj; rw [List.getElem?_set_self hlr]
      · rw [List.getElem?_set_ne (Ne.symm hj)] at e ⊢; exact k.none_ j e
    · have f : ∀ a : Nat, (rs.set i none)[a]? = some (some s) → rs[a]? = some (some s) := fun a e => by
        by_cases ha : a = i
        · subst ha; rw [List.getElem?_set_self hlr] at e; injection e with e; cases e
        · rw [List.getElem?_set_ne (Ne.symm ha)] at e; exact e
      exact k.dist a b s (f a f1) (f b f2)
/-- Worker i begins: an operation of kind K. -/
theorem Rk.begun {w w' : World} {rd rc base : Nat} {d : Dq} {hs : List (Option (Nat × Dop))} {rs : List (Option Nat)} {ow ow' : Int} (k : Rk w rd rc base d hs rs ow) {i : Nat} (hi : hs[i]? = some none) {K : Nat} {o : Dop} (hK0 : i = 0 → K ≤ 1 ∧ ow' = 1) (hK2 : 0 < i → K = 2 ∧ ow' = ow) (hp : 1 ≤ o.pc) (hbase : base ≤ w.heap.size)
    (hd : RqAt w' rd rc d ow') (hk : Kp (fun k => k = rd) w w') {ro : Nat} (hro : w.heap.size ≤ ro) (ho : RoAt w' ro rd K o) (g : Nat) : Rk w' rd rc base d (hs.set i (some (g, o))) (rs.set i (some ro)) ow' := by
  have hlen : i < hs.length := (List.getElem?_eq_some_iff.1 hi).1
  have hlr : i < rs.length := by rw [← k.len]; exact hlen
  have hnew : ∀ (j s : Nat), rs[j]? = some (some s) → j ≠ i → s < w.heap.size := fun j s e hj => by
    have hjl : j < hs.length := by rw [k.len]; exact (List.getElem?_eq_some_iff.1 e).1
    rcases hx : hs[j]? with _ | x
    · rw [List.getElem?_eq_none_iff] at hx; omega
    · rcases x with _ | ⟨g', h'⟩
      · rw [k.none_ j hx] at e; injection e with e; cases e
      · obtain ⟨r, K2, f1, f2, f3, f4, f5, f6⟩ := k.some_ j g' h' hx
        rw [f1] at e; injection e with e; injection e with e; subst e
        obtain ⟨y, hy⟩ := f5.blk
        exact hy.lt
  refine ⟨hd, fun e => ?_, fun x e => ?_, fun j g' h' e => ?_, fun j e => ?_, fun a b s f1 f2 => ?_, k.lc, k.ld, by simp [k.len]⟩
  · by_cases h0 : i = 0
    · subst h0; rw [List.getElem?_set_self hlen] at e; injection e with e; cases e
    · rw [List.getElem?_set_ne h0] at e; rw [(hK2 (by omega)).2]; exact k.ow0 e
  · by_cases h0 : i = 0
    · exact (hK0 h0).2
    · rw [List.getElem?_set_ne h0] at e; rw [(hK2 (by omega)).2]; exact k.ow1 x e
  · by_cases hj : j = i
    · subst hj
      rw [List.getElem?_set_self hlen] at e
      injection e with e; injection e with e; injection e with e9 e8
      subst e8
      exact ⟨ro, K, by rw [List.getElem?_set_self hlr], by omega, fun h => (hK0 h).1, fun h => (hK2 h).1, ho, hp⟩
    · rw [List.getElem?_set_ne (Ne.symm hj)] at e ⊢
      obtain ⟨s, K2, f1, f2, f3, f4, f5, f6⟩ := k.some_ j g' h' e
      refine ⟨s, K2, f1, f2, f3, f4, f5.kp hk (fun hbad => ?_), f6⟩
      obtain ⟨y, hy⟩ := f5.blk
      subst hbad; exact Blk.ne_ hy k.at_.hdr (by decide) rfl
  · by_cases hj : j = i
    · subst hj; rw [List.getElem?_set_self hlen] at e; injection e with e; cases e
    · rw [List.getElem?_set_ne (Ne.symm hj)] at e ⊢; exact k.none_ j e
  · by_cases ha : a = i <;> by_cases hb : b = i
    · omega
    · subst ha
      rw [List.getElem?_set_self hlr] at f1; injection f1 with f1; injection f1 with f1; subst f1
      rw [List.getElem?_set_ne (Ne.symm hb)] at f2
      have := hnew b _ f2 hb; omega
    · subst hb
      rw [List.getElem?_set_self hlr] at f2; injection f2 with f2; injection f2 with f2; subst f2
      rw [List.getElem?_set_ne (Ne.symm ha)] at f1
      have := hnew a _ f1 ha; omega
    · rw [List.getElem?_set_ne (Ne.symm ha)] at f1
      rw [List.getElem?_set_ne (Ne.symm hb)] at f2
      exact k.dist a b s f1 f2
theorem Rk.start {w : World} {rd rc base n : Nat} (hd : RqAt w rd rc (Dq.made n) 0) (lc : base ≤ rc) (ld : base ≤ rd) : Rk w rd rc base (Dq.made n) (List.replicate 7 none) (List.replicate 7 none) 0 := by
  have none_ : ∀ (i g : Nat) (h : Dop), (List.replicate 7 (none : Option (Nat × Dop)))[i]? ≠ some (some (g, h)) := fun i g h e => by
    rw [List.getElem?_replicate] at e
    split at e
    · injection e with e; cases e
    · cases e
  refine ⟨hd, fun _ => rfl, fun x e => absurd e (none_ 0 x.1 x.2), fun i g h e => absurd e (none_ i g h), fun i e => ?_, fun i j r e => ?_, lc, ld, by simp⟩
  · rw [List.getElem?_replicate] at e ⊢
    split at e
    · rename_i hl; rw [if_pos hl]
    · cases e
  · rw [List.getElem?_replicate] at e
    split at e
    · injection e with e; cases e
    · cases e
end Go.Proofs.Ytdigjppdgiapfaa
