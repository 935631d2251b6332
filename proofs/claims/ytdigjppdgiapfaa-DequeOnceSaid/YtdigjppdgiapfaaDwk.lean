/- A deque and its workers, a step at a time. -/
import Derived.Test.YtdigjppdgiapfaaDqw
import Derived.Test.YtdigjppdgiapfaaDlw
set_option linter.unusedSimpArgs false
set_option linter.unusedVariables false
namespace Go.Proofs.Ytdigjppdgiapfaa
open Go.RowKit

def ptrV : Option (Nat × Dop) → Value
  | some (g, _) => .pointer (some ⟨g, 0, none⟩)
  | none => .pointer none
/-- One worker's operation. -/
structure Wo (w : World) (gd base c : Nat) (d : Dq) (o : Dop) (i g : Nat) (h : Dop) : Prop where
  at_ : OpAt w g gd h
  done : h.pc = 0 ↔ h.how ≠ 0
  bo : Bo c h
  base : base ≤ g
  th : 0 < i → (h.pc = 0 ∨ 11 ≤ h.pc) ∧ ThOk d o h
/-- The deque, its owner's operation o, and of each worker the operation that goes. -/
structure Wk (w : World) (gd gc base c : Nat) (d : Dq) (own : Value) (o : Dop) (hs : List (Option (Nat × Dop))) : Prop where
  at_ : DqAt w gd gc d own
  ok : DqOk d o
  bd : Bd c d
  own1 : ∀ g h, hs[0]? = some (some (g, h)) → own = .pointer (some ⟨g, 0, none⟩) ∧ h = o
  own0 : hs[0]? = some none → o.pc = 0 ∧ (own = .pointer none ∨ ∃ go o2, own = .pointer (some ⟨go, 0, none⟩) ∧ OpAt w go gd o2 ∧ o2.pc = 0 ∧ base ≤ go ∧ ∀ (i : Nat) (h' : Dop), hs[i]? ≠ some (some (go, h')))
  each : ∀ i g h, hs[i]? = some (some (g, h)) → Wo w gd base c d o i g h
  dist : ∀ (i j g : Nat) (h h' : Dop), hs[i]? = some (some (g, h)) → hs[j]? = some (some (g, h')) → i = j
  lc : base ≤ gc
  ld : base ≤ gd
/-- Worlds that leave the deque and all operations. -/
theorem Wk.kp {w w' : World} {gd gc base c : Nat} {d : Dq} {own : Value} {o : Dop} {hs : List (Option (Nat × Dop))} (h : Wk w gd gc base c d own o hs) {bad : Nat → Prop} (hk : Kp bad w w')
    (hb : ∀ g, g < w.heap.size → bad g → g < base ∨ (∃ t cs, Blk w g t cs ∧ t ≠ 60 ∧ t ≠ 73 ∧ t ≠ 67)) : Wk w' gd gc base c d own o hs := by
  have hop : ∀ g h' (hb2 : base ≤ g) (ha : OpAt w g gd h'), ¬ bad g := fun g h' hb2 ha hbad => by
    rcases hb g (Blk.lt ha) hbad with h1 | ⟨t, cs, h1, h2, h3, h4⟩
    · omega
    · exact Blk.ne_ h1 ha h4 rfl
  have h1 : ¬ bad gd := fun hbad => by
    rcases hb gd h.at_.hdr.lt hbad with h1 | ⟨t, cs, h1, h2, h3, h4⟩
    · have := h.ld; omega
    · exact Blk.ne_ h1 h.at_.hdr h2 rfl
  have h2 : ¬ bad gc := fun hbad => by
    rcases hb gc h.at_.cel.lt hbad with h1 | ⟨t, cs, h1, h2, h3, h4⟩
    · have := h.lc; omega
    · exact Blk.ne_ h1 h.at_.cel h3 rfl
  refine ⟨h.at_.kp hk h1 h2, h.ok, h.bd, h.own1, fun h0 => ?_, fun i g h' hi => ?_, h.dist, h.lc, h.ld⟩
  · obtain ⟨hp, hi⟩ := h.own0 h0
    refine ⟨hp, ?_⟩
    rcases hi with hi | ⟨go, o2, e1, e2, e3, e4, e5⟩
    · exact .inl hi
    · exact .inr ⟨go, o2, e1, Blk.kp e2 hk (hop go o2 e4 e2), e3, e4, e5⟩
  · have hw := h.each i g h' hi
    exact ⟨Blk.kp hw.at_ hk (hop g h' hw.base hw.at_), hw.done, hw.bo, hw.base, hw.th⟩
theorem Wo.more {w : World} {gd base c : Nat} {d : Dq} {o : Dop} {i g : Nat} {h : Dop} (x : Wo w gd base c d o i g h) {w' : World} {d' : Dq} {o' : Dop} (ha : OpAt w' g gd h) (ht : 0 < i → ThOk d o h → ThOk d' o' h) : Wo w' gd base (c + 1) d' o' i g h :=
  ⟨ha, x.done, x.bo.more, x.base, fun hi => ⟨(x.th hi).1, ht hi (x.th hi).2⟩⟩
/-- A step of worker i's operation. -/
theorem Wk.step {w : World} {gd gc base c : Nat} {d : Dq} {own : Value} {o : Dop} {hs : List (Option (Nat × Dop))} (k : Wk w gd gc base c d own o hs) (hc : c ≤ 100000) (hl : d.sl.length ≤ 1000000) {i g : Nat} {h : Dop} (hi : hs[i]? = some (some (g, h))) (hp : 1 ≤ h.pc) :
    Calls Try.prog 15 #[.pointer (some ⟨g, 0, none⟩)] w fun e w' => e = .returned (.agg #[.int .u8 (dstep d h).2.2.1, .int .i64 (dstep d h).2.2.2]) ∧
      Wk w' gd gc base (c + 1) (dstep d h).1 own (if i = 0 then (dstep d h).2.1 else o) (hs.set i (some (g, (dstep d h).2.1))) ∧ Tells (dstep d h).1 (dstep d h).2.1 ∧ Kp (fun k => k = gc ∨ k = g) w w' := by
  have hx := k.each i g h hi
  have hlen : i < hs.length := (List.getElem?_eq_some_iff.1 hi).1
  have hh : h.how = 0 := by have := hx.done; omega
  by_cases h0 : i = 0
  · subst h0
    obtain ⟨ho, rfl⟩ := k.own1 g h hi
    have hcan := own_can k.ok k.bd hx.bo hc hl
    obtain ⟨hok, hths⟩ := own_step k.ok hp
    obtain ⟨hbd, hbo⟩ := own_bd k.ok hp k.bd hx.bo
    have ht := own_tells k.ok hp hh
    refine (step_any g gd gc d own h w k.at_ hx.at_ hcan).mono ?_
    rintro e w' ⟨he, hd, hop, hk⟩
    refine ⟨he, ⟨hd, by simpa using hok, hbd, ?_, ?_, ?_, ?_, k.lc, k.ld⟩, ht, hk⟩
    · intro g' h' e
      rw [List.getElem?_set_self hlen] at e
      injection e with e
      injection e with e
      injection e with e1 e2
      subst e1 e2
      exact ⟨ho, by simp⟩
    · intro e
      rw [List.getElem?_set_self hlen] at e
      injection e with e
      cases e
    · intro j g' h' e
      by_cases hj : j = 0
      · subst hj
        rw [List.getElem?_set_self hlen] at e
        injection e with e
        injection e with e
        injection e with e1 e2
        subst e1 e2
        exact ⟨hop, ht.done, hbo, hx.base, fun h => by omega⟩
      · rw [List.getElem?_set_ne (Ne.symm hj)] at e
        have hy := k.each j g' h' e
        have hne : g' ≠ g := fun heq => hj (by subst heq; exact k.dist j 0 g' h' h e hi)
        have hgc : g' ≠ gc := fun heq => Blk.ne_ hy.at_ k.at_.cel (by decide) heq
        refine hy.more (Blk.kp hy.at_ hk (by rintro (h | h); exact hgc h; exact hne h)) (fun hj2 ht2 => ?_)
        simpa using hths h' ht2
    · intro a b g' h1 h2 e1 e2
      have f : ∀ a (h1 : Dop), (hs.set 0 (some (g, (dstep d h).2.1)))[a]? = some (some (g', h1)) → ∃ h2, hs[a]? = some (some (g', h2)) := fun a h1 e => by
        by_cases ha : a = 0
        · subst ha
          rw [List.getElem?_set_self hlen] at e
          injection e with e
          injection e with e
          injection e with e1 e2
          subst e1
          exact ⟨_, hi⟩
        · rw [List.getElem?_set_ne (Ne.symm ha)] at e
          exact ⟨_, e⟩
      obtain ⟨x1, y1⟩ := f a h1 e1
      obtain ⟨x2, y2⟩ := f b h2 e2
      exact k.dist a b g' x1 x2 y1 y2
  · have hipos : 0 < i := by omega
    obtain ⟨hpc, hto⟩ := hx.th hipos
    have hp11 : 11 ≤ h.pc := by omega
    have hp14 : h.pc ≤ 14 := by have := hto.pc; omega
    have hcan := th_can k.ok hto k.bd hx.bo hc hl
    obtain ⟨hbd, hbo⟩ := th_bd hp11 hp14 k.bd hx.bo
    have ht := th_tells k.ok hto hp11 hh
    have hmain : DqOk (dstep d h).1 o ∧ (∀ t, ThOk d o t → ThOk (dstep d h).1 o t) ∧ ThOk (dstep d h).1 o (dstep d h).2.1 := by
      by_cases hsw : h.pc = 14 ∧ d.top = h.t
      · obtain ⟨e1, e2, e3, e4⟩ := th_swap k.ok hto hsw.1 hsw.2
        obtain ⟨f1, f2⟩ := top_more k.ok e3
        rw [e1, e2]
        exact ⟨f1, f2, th_ended _ _ _ rfl⟩
      · obtain ⟨e1, e2⟩ := th_rest k.ok hto hp11 hsw
        rw [e1]
        exact ⟨k.ok, fun t x => x, e2⟩
    obtain ⟨hok, hths, hself⟩ := hmain
    refine (step_any g gd gc d own h w k.at_ hx.at_ hcan).mono ?_
    rintro e w' ⟨he, hd, hop, hk⟩
    rw [if_neg h0]
    have h0s : (hs.set i (some (g, (dstep d h).2.1)))[0]? = hs[0]? := List.getElem?_set_ne (by omega)
    refine ⟨he, ⟨hd, hok, hbd, ?_, ?_, ?_, ?_, k.lc, k.ld⟩, ht, hk⟩
    · intro g' h' e
      rw [h0s] at e
      exact k.own1 g' h' e
    · intro e
      rw [h0s] at e
      obtain ⟨e1, e2⟩ := k.own0 e
      refine ⟨e1, ?_⟩
      rcases e2 with e2 | ⟨go, o2, f1, f2, f3, f4, f5⟩
      · exact .inl e2
      · have hne : go ≠ g := fun heq => f5 i h (by rw [heq]; exact hi)
        have hgc : go ≠ gc := fun heq => Blk.ne_ f2 k.at_.cel (by decide) heq
        refine .inr ⟨go, o2, f1, Blk.kp f2 hk (by rintro (x | x); exact hgc x; exact hne x), f3, f4, fun j h' e => ?_⟩
        by_cases hj : j = i
        · subst hj
          rw [List.getElem?_set_self hlen] at e
          injection e with e
          injection e with e
          injection e with e1 e2
          exact hne e1.symm
        · rw [List.getElem?_set_ne (Ne.symm hj)] at e
          exact f5 j h' e
    · intro j g' h' e
      by_cases hj : j = i
      · subst hj
        rw [List.getElem?_set_self hlen] at e
        injection e with e
        injection e with e
        injection e with e1 e2
        subst e1 e2
        exact ⟨hop, ht.done, hbo, hx.base, fun _ => ⟨by have := hself.pc; omega, hself⟩⟩
      · rw [List.getElem?_set_ne (Ne.symm hj)] at e
        have hy := k.each j g' h' e
        have hne : g' ≠ g := fun heq => hj (by subst heq; exact k.dist j i g' h' h e hi)
        have hgc : g' ≠ gc := fun heq => Blk.ne_ hy.at_ k.at_.cel (by decide) heq
        exact hy.more (Blk.kp hy.at_ hk (by rintro (x | x); exact hgc x; exact hne x)) (fun hj2 ht2 => hths h' ht2)
    · intro a b g' h1 h2 e1 e2
      have f : ∀ a (h1 : Dop), (hs.set i (some (g, (dstep d h).2.1)))[a]? = some (some (g', h1)) → ∃ h2, hs[a]? = some (some (g', h2)) := fun a h1 e => by
        by_cases ha : a = i
        · subst ha
          rw [List.getElem?_set_self hlen] at e
          injection e with e
          injection e with e
          injection e with e1 e2
          subst e1
          exact ⟨_, hi⟩
        · rw [List.getElem?_set_ne (Ne.symm ha)] at e
          exact ⟨_, e⟩
      obtain ⟨x1, y1⟩ := f a h1 e1
      obtain ⟨x2, y2⟩ := f b h2 e2
      exact k.dist a b g' x1 x2 y1 y2
/-- A worker's operation that is done is let go. -/
theorem Wk.drop {w : World} {gd gc base c : Nat} {d : Dq} {own : Value} {o : Dop} {hs : List (Option (Nat × Dop))} (k : Wk w gd gc base c d own o hs) {i g : Nat} {h : Dop} (hi : hs[i]? = some (some (g, h))) (hp : h.pc = 0) : Wk w gd gc base c d own o (hs.set i none) := by
  have hlen : i < hs.length := (List.getElem?_eq_some_iff.1 hi).1
  have back : ∀ (a g' : Nat) (h1 : Dop), (hs.set i none)[a]? = some (some (g', h1)) → a ≠ i ∧ hs[a]? = some (some (g', h1)) := fun a g' h1 e => by
    by_cases ha : a = i
    · subst ha
      rw [List.getElem?_set_self hlen] at e
      injection e with e
      cases e
    · rw [List.getElem?_set_ne (Ne.symm ha)] at e
      exact ⟨ha, e⟩
  refine ⟨k.at_, k.ok, k.bd, fun g' h' e => k.own1 g' h' (back 0 g' h' e).2, fun e => ?_, fun j g' h' e => k.each j g' h' (back j g' h' e).2, fun a b g' h1 h2 e1 e2 => k.dist a b g' h1 h2 (back a g' h1 e1).2 (back b g' h2 e2).2, k.lc, k.ld⟩
  by_cases h0 : i = 0
  · subst h0
    obtain ⟨e1, rfl⟩ := k.own1 g h hi
    have hx := k.each 0 g h hi
    refine ⟨hp, .inr ⟨g, h, e1, hx.at_, hp, hx.base, fun j h' e => ?_⟩⟩
    obtain ⟨hj, e2⟩ := back j g h' e
    exact hj (k.dist j 0 g h' h e2 hi)
  · rw [List.getElem?_set_ne h0] at e
    obtain ⟨e1, e2⟩ := k.own0 e
    refine ⟨e1, ?_⟩
    rcases e2 with e2 | ⟨go, o2, f1, f2, f3, f4, f5⟩
    · exact .inl e2
    · exact .inr ⟨go, o2, f1, f2, f3, f4, fun j h' e => f5 j h' (back j go h' e).2⟩
theorem Wk.idle {w : World} {gd gc base c : Nat} {d : Dq} {own : Value} {o : Dop} {hs : List (Option (Nat × Dop))} (k : Wk w gd gc base c d own o hs) (h : hs[0]? = some none) : Idle w gd own := by
  obtain ⟨_, e⟩ := k.own0 h
  rcases e with e | ⟨go, o2, f1, f2, f3, _⟩
  · exact .inl e
  · exact .inr ⟨go, o2, f1, f2, f3⟩
/-- A worker begins: thief. -/
theorem Wk.begun_th {w w' : World} {gd gc base c : Nat} {d : Dq} {own : Value} {o : Dop} {hs : List (Option (Nat × Dop))} (k : Wk w gd gc base c d own o hs) {i : Nat} (h0 : 0 < i) (hi : hs[i]? = some none) {e : Ending} (hb : Begun w w' gd gc d own opSteal e) (hbase : base ≤ w.heap.size) : Wk w' gd gc base (c + 1) d own o (hs.set i (some (w.heap.size, opSteal))) := by
  have hlen : i < hs.length := (List.getElem?_eq_some_iff.1 hi).1
  obtain ⟨_, hd, ho, hk⟩ := hb
  have h0s : (hs.set i (some (w.heap.size, opSteal)))[0]? = hs[0]? := List.getElem?_set_ne (by omega)
  have back : ∀ (a g' : Nat) (h1 : Dop), (hs.set i (some (w.heap.size, opSteal)))[a]? = some (some (g', h1)) → (a = i ∧ g' = w.heap.size ∧ h1 = opSteal) ∨ (a ≠ i ∧ hs[a]? = some (some (g', h1)) ∧ g' < w.heap.size) := fun a g' h1 e => by
    by_cases ha : a = i
    · subst ha
      rw [List.getElem?_set_self hlen] at e
      injection e with e
      injection e with e
      injection e with e1 e2
      exact .inl ⟨rfl, e1.symm, e2.symm⟩
    · rw [List.getElem?_set_ne (Ne.symm ha)] at e
      exact .inr ⟨ha, e, Blk.lt (k.each a g' h1 e).at_⟩
  refine ⟨hd, k.ok, k.bd.more, fun g' h' e => k.own1 g' h' (by rw [h0s] at e; exact e), fun e => ?_, fun j g' h' e => ?_, fun a b g' h1 h2 e1 e2 => ?_, k.lc, k.ld⟩
  · rw [h0s] at e
    obtain ⟨e1, e2⟩ := k.own0 e
    refine ⟨e1, ?_⟩
    rcases e2 with e2 | ⟨go, o2, f1, f2, f3, f4, f5⟩
    · exact .inl e2
    · refine .inr ⟨go, o2, f1, Blk.kp f2 hk (fun x => Blk.ne_ f2 k.at_.hdr (by decide) x), f3, f4, fun j h' e => ?_⟩
      have hl := Blk.lt f2
      rcases back j go h' e with ⟨_, h2, _⟩ | ⟨_, h2, _⟩
      · omega
      · exact f5 j h' h2
  · rcases back j g' h' e with ⟨rfl, rfl, rfl⟩ | ⟨hj, h2, _⟩
    · exact ⟨ho, by simp [opSteal], ⟨by simp [opSteal], by simp [opSteal]; omega, by simp [opSteal], by simp [opSteal]; omega⟩, hbase, fun _ => ⟨.inr (by simp [opSteal]), steal_ok d o⟩⟩
    · have hy := k.each j g' h' h2
      exact hy.more (Blk.kp hy.at_ hk (fun x => Blk.ne_ hy.at_ k.at_.hdr (by decide) x)) (fun _ x => x)
  · rcases back a g' h1 e1 with ⟨rfl, x1, _⟩ | ⟨ha, x1, x2⟩ <;> rcases back b g' h2 e2 with ⟨rfl, y1, _⟩ | ⟨hb, y1, y2⟩
    · rfl
    · omega
    · omega
    · exact k.dist a b g' h1 h2 x1 y1
/-- .. the owner. -/
theorem Wk.begun_own {w w' : World} {gd gc base c : Nat} {d : Dq} {own : Value} {o : Dop} {hs : List (Option (Nat × Dop))} (k : Wk w gd gc base c d own o hs) (hi : hs[0]? = some none) {o' : Dop} (ho' : o' = opPop ∨ ∃ x, o' = opPush x) {e : Ending} (hb : Begun w w' gd gc d (.pointer (some ⟨w.heap.size, 0, none⟩)) o' e) (hbase : base ≤ w.heap.size) : Wk w' gd gc base (c + 1) d (.pointer (some ⟨w.heap.size, 0, none⟩)) o' (hs.set 0 (some (w.heap.size, o'))) := by
  have hlen : 0 < hs.length := (List.getElem?_eq_some_iff.1 hi).1
  obtain ⟨_, hd, ho, hk⟩ := hb
  obtain ⟨hp0, _⟩ := k.own0 hi
  have hq : o'.pc = 1 ∨ o'.pc = 5 := by rcases ho' with rfl | ⟨x, rfl⟩ <;> simp [opPop, opPush]
  have hw0 : o'.how = 0 := by rcases ho' with rfl | ⟨x, rfl⟩ <;> rfl
  have hb0 : o'.b = 0 := by rcases ho' with rfl | ⟨x, rfl⟩ <;> rfl
  have ht0 : o'.t = 0 := by rcases ho' with rfl | ⟨x, rfl⟩ <;> rfl
  obtain ⟨hok, hths⟩ := own_begin k.ok hp0 o' hq
  have back : ∀ (a g' : Nat) (h1 : Dop), (hs.set 0 (some (w.heap.size, o')))[a]? = some (some (g', h1)) → (a = 0 ∧ g' = w.heap.size ∧ h1 = o') ∨ (a ≠ 0 ∧ hs[a]? = some (some (g', h1)) ∧ g' < w.heap.size) := fun a g' h1 e => by
    by_cases ha : a = 0
    · subst ha
      rw [List.getElem?_set_self hlen] at e
      injection e with e
      injection e with e
      injection e with e1 e2
      exact .inl ⟨rfl, e1.symm, e2.symm⟩
    · rw [List.getElem?_set_ne (Ne.symm ha)] at e
      exact .inr ⟨ha, e, Blk.lt (k.each a g' h1 e).at_⟩
  refine ⟨hd, hok, k.bd.more, fun g' h' e => ?_, fun e => ?_, fun j g' h' e => ?_, fun a b g' h1 h2 e1 e2 => ?_, k.lc, k.ld⟩
  · rcases back 0 g' h' e with ⟨_, h2, h3⟩ | ⟨h2, _⟩
    · exact ⟨by rw [h2], h3⟩
    · exact absurd rfl h2
  · rw [List.getElem?_set_self hlen] at e
    injection e with e
    cases e
  · rcases back j g' h' e with ⟨rfl, rfl, rfl⟩ | ⟨hj, h2, _⟩
    · exact ⟨ho, by omega, ⟨by omega, by omega, by omega, by omega⟩, hbase, fun x => by omega⟩
    · have hy := k.each j g' h' h2
      exact hy.more (Blk.kp hy.at_ hk (fun x => Blk.ne_ hy.at_ k.at_.hdr (by decide) x)) (fun _ x => hths h' x)
  · rcases back a g' h1 e1 with ⟨rfl, x1, _⟩ | ⟨ha, x1, x2⟩ <;> rcases back b g' h2 e2 with ⟨rfl, y1, _⟩ | ⟨hb, y1, y2⟩
    · rfl
    · omega
    · omega
    · exact k.dist a b g' h1 h2 x1 y1
end Go.Proofs.Ytdigjppdgiapfaa
