/- Two calls that may come up in either order, under a held S; a single step that makes memory. -/
import Derived.OrdersHeld
import Derived.Deep.RegionHeld
import Derived.Test.YtjhfcpadnofdnaaGreatBase
set_option linter.unusedSimpArgs false
set_option linter.unusedVariables false
namespace Go.Proofs.YtjhfcpadnofdnaaGreat
open Go.RowKit
/-- What is run comes to the value v, in a world of which T holds. -/
def GivesR (P : Program) (T : World → Prop) (v : Value) : Result Next → Prop
  | .ok (.value u) w' => u = v ∧ T w'
  | .ok .skip w' => undef = v ∧ T w'
  | .ok (.enter f args) w' => Calls P f args w' fun e w'' => e = .returned v ∧ T w''
  | _ => False
section
variable {P : Program} {ops : Array Oper} {Q : Exit → Act → World → Prop} {md : Region.Mode}
/-- Whether the value of 'oi' lies there already says nothing to an operation that is apart from it. -/
theorem wpOp_swap {j : Nat} {oi oj : Oper} {v : Value} (hj : ops[j]? = some oj) (hap : oi.apart ops oj = true) (hsi : ∀ cs b, oi.op ≠ .select cs b) (hsj : ∀ cs b, oj.op ≠ .select cs b)
    (hQ : ∀ c a w, Q (.panic c) (a.put oi.dst v) w → Q (.panic c) a w) {K : Act → World → Prop} {a : Act} {w : World} (h : wpOp P ops Q j K (a.put oi.dst v) w) :
    wpOp P ops Q j (fun a' w' => (execOp a'.eval oi = execOp a.eval oi ∧ Region.wanted oi (yielded ops a'.tmps) = Region.wanted oi (yielded ops a.tmps)) ∧ K (a'.put oi.dst v) w') a w := by
  obtain ⟨h1, h2, h3⟩ := Oper.apart_spec hap
  have kp : ∀ u, execOp (a.put oj.dst u).eval oi = execOp a.eval oi ∧ Region.wanted oi (yielded ops (a.put oj.dst u).tmps) = Region.wanted oi (yielded ops a.tmps) := fun u => ⟨execOp_put oi hsi a oj.dst u h3, wanted_put oi a oj.dst u h3⟩
  have cm : ∀ u w', K ((a.put oi.dst v).put oj.dst u) w' → K ((a.put oj.dst u).put oi.dst v) w' := fun u w' hk => by rw [← Act.put_comm a v u h2]; exact hk
  unfold wpOp at h ⊢
  rw [hj] at h ⊢
  simp only [] at h ⊢
  rw [wanted_put oj a oi.dst v h1] at h
  by_cases hw : Region.wanted oj (yielded ops a.tmps) = true
  · rw [if_pos hw] at h ⊢
    rcases h with h | h
    · refine .inl ?_
      unfold Oper.wp at h ⊢
      rw [execOp_put oj hsj a oi.dst v h1] at h
      generalize (execOp a.eval oj).run P w = r at h ⊢
      rcases r with ⟨n, w'⟩ | ⟨x, w'⟩
      · cases n <;> simp only [Oper.upon] at h ⊢
        case value u => exact ⟨kp u, cm u _ h⟩
        case skip => exact ⟨kp _, cm _ _ h⟩
        case defer d =>
          refine ⟨⟨?_, ?_⟩, ?_⟩
          · exact (execOp_put oi hsi { a with defers := d :: a.defers } oj.dst undef h3)
          · exact (wanted_put oi { a with defers := d :: a.defers } oj.dst undef h3)
          · rw [← Act.put_comm _ v undef h2, ← Act.put_defers]; exact h
        case enter f args =>
          refine h.mono fun e w'' he => ?_
          cases e with
          | returned u => exact ⟨kp u, cm u _ he⟩
          | panicked c => exact hQ _ _ _ he
          | outgrown => exact he
        case row row args => exact Rows.mono h fun u w'' he => ⟨kp u, cm u _ he⟩
      · cases x <;> simp only [Oper.upon] at h ⊢
        case panic u => exact hQ _ _ _ h
    · refine .inr ⟨?_, h.2⟩
      have ha := h.1
      unfold Oper.asks at ha ⊢
      rw [execOp_put oj hsj a oi.dst v h1] at ha
      exact ha
  · rw [if_neg hw] at h ⊢
    exact ⟨kp _, cm _ _ h⟩
/-- What has come up: with each operation all that it waits for. -/
structure ClosedL (md : Region.Mode) (ops : Array Oper) (L : Array Bool) : Prop where
  sz : L.size = ops.size
  cl : ∀ j oj, ops[j]? = some oj → L.getD j false = true → ∀ e ∈ oj.after, Region.binds md e = true → L.getD e.on false = true
theorem ClosedL.start : ClosedL md ops (Array.replicate ops.size false) := ⟨by simp, fun j oj hj h => by simp [Array.getElem?_replicate] at h; split at h <;> simp at h⟩
theorem ClosedL.next {L : Array Bool} (h : ClosedL md ops L) {j : Nat} (hj : j ∈ Region.ready md ops L) : ClosedL md ops (L.setIfInBounds j true) := by
  obtain ⟨_, oj, hoj, hall⟩ := mem_ready.1 hj
  refine ⟨by simpa using h.sz, fun q oq hq hl e he hb => getD_set_true ?_⟩
  by_cases e1 : j = q
  · subst e1
    rw [hoj] at hq
    injection hq with hq
    subst hq
    exact hall e he hb
  · rw [getD_set_ne false e1] at hl
    exact h.cl q oq hq hl e he hb
/-- What the operation k waits for, itself too. -/
def waitStep (md : Region.Mode) (ops : Array Oper) (acc : List Nat) (j : Nat) : List Nat := if acc.contains j then ((ops[j]?).map fun o => (o.after.toList.filter fun e => Region.binds md e).map fun e => e.on).getD [] ++ acc else acc
def waitsOn (md : Region.Mode) (ops : Array Oper) (k i : Nat) : Bool := decide (k < ops.size) && ((List.range (k + 1)).reverse.foldl (waitStep md ops) [k]).contains i
theorem waits_fold {L : Array Bool} (h : ClosedL md ops L) : ∀ (l acc : List Nat), (∀ x ∈ acc, L.getD x false = true) → ∀ x ∈ l.foldl (waitStep md ops) acc, L.getD x false = true
  | [], acc, ha, x, hx => ha x hx
  | j :: l, acc, ha, x, hx => by
    refine waits_fold h l _ (fun y hy => ?_) x hx
    unfold waitStep at hy
    split at hy
    · rename_i hj
      rcases List.mem_append.1 hy with hy | hy
      · cases ho : ops[j]? with
        | none => rw [ho] at hy; simp at hy
        | some o =>
          rw [ho] at hy
          simp only [Option.map_some, Option.getD_some, List.mem_map, List.mem_filter] at hy
          obtain ⟨e, ⟨he, hb⟩, rfl⟩ := hy
          exact h.cl j o ho (ha j (by simpa using hj)) e (by simpa using he) hb
      · exact ha y hy
    · exact ha y hy
theorem ClosedL.not_up {L : Array Bool} (h : ClosedL md ops L) {k i : Nat} (hw : waitsOn md ops k i = true) (hi : L.getD i true = false) : L.getD k true = false := by
  unfold waitsOn at hw
  simp only [Bool.and_eq_true, decide_eq_true_eq] at hw
  have hk : k < L.size := by rw [h.sz]; exact hw.1
  cases hv : L.getD k true
  · rfl
  · exfalso
    have h1 : L.getD k false = true := by simp [hk] at hv ⊢; exact hv
    have h2 := waits_fold h _ [k] (fun x hx => by rw [List.mem_singleton] at hx; rw [hx]; exact h1) i (List.contains_iff_mem.1 hw.2)
    rcases Nat.lt_or_ge i L.size with h3 | h3
    · simp [h3] at h2 hi; rw [hi] at h2; cases h2
    · simp [Array.getElem?_eq_none h3] at h2
/-- Whatever order is picked from here on, in whatever world of which S holds; S may look at what has come up, and at the frame. -/
def wpAnyS (P : Program) (md : Region.Mode) (ops : Array Oper) (Q : Exit → Act → World → Prop) (S : Array Bool → Act → World → Prop) : Nat → Array Bool → Act → Prop
  | 0, L, a => Region.ready md ops L = [] ∧ ∀ w, S L a w → Q .normal a w
  | n + 1, L, a => (Region.ready md ops L = [] → ∀ w, S L a w → Q .normal a w) ∧
      ∀ i ∈ Region.ready md ops L, ∀ w, S L a w → wpOp P ops Q i (fun a' w' => S (L.setIfInBounds i true) a' w' ∧ wpAnyS P md ops Q S n (L.setIfInBounds i true) a') a w
section
variable {S : Array Bool → Act → World → Prop}
theorem wpAny_of_S : ∀ (n : Nat) (L : Array Bool) (a : Act) (w : World), S L a w → wpAnyS P md ops Q S n L a → wpAny P md ops Q n L a w
  | 0, L, a, w, hS, h => ⟨h.1, h.2 w hS⟩
  | n + 1, L, a, w, hS, h => ⟨fun e => h.1 e w hS, fun i hi => wpOp_mono (fun a' w' h' => wpAny_of_S n _ a' w' h'.1 h'.2) (h.2 i hi w hS)⟩
/-- Operation i comes to v in every world of which S holds, and S holds behind it. -/
def Gives (P : Program) (md : Region.Mode) (ops : Array Oper) (S : Array Bool → Act → World → Prop) (i : Nat) (o : Oper) (v : Value) (a : Act) : Prop :=
  (Region.wanted o (yielded ops a.tmps) = true ∧ ∀ L a0 w, ClosedL md ops L → L.getD i true = false → S L a0 w → GivesR P (S L a0) v ((execOp a.eval o).run P w)) ∨ (Region.wanted o (yielded ops a.tmps) = false ∧ v = undef)
theorem Gives.same {i : Nat} {o : Oper} {v : Value} {a a' : Act} (h : Gives P md ops S i o v a) (he : execOp a'.eval o = execOp a.eval o)
    (hw : Region.wanted o (yielded ops a'.tmps) = Region.wanted o (yielded ops a.tmps)) : Gives P md ops S i o v a' := by
  unfold Gives at *; rw [he, hw]; exact h
theorem givesR_wp {i : Nat} {o : Oper} {v : Value} {a : Act} {w : World} {K : Act → World → Prop} {T : World → Prop} (hi : ops[i]? = some o) (hw : Region.wanted o (yielded ops a.tmps) = true) (hr : GivesR P T v ((execOp a.eval o).run P w))
    (h : ∀ w', T w' → K (a.put o.dst v) w') : wpOp P ops Q i K a w := by
  unfold Go.wpOp
  simp only [hi, hw, if_true]
  refine .inl ?_
  unfold Oper.wp
  generalize (execOp a.eval o).run P w = r at *
  rcases r with ⟨n, w'⟩ | ⟨x, w'⟩
  · cases n <;> simp only [GivesR] at hr <;> simp only [Oper.upon]
    case value u => rw [hr.1]; exact h _ hr.2
    case skip => rw [hr.1]; exact h _ hr.2
    case enter f args => exact hr.mono fun e w'' he => by rw [he.1]; exact h _ he.2
  · cases hr
theorem Gives.wpOp {i : Nat} {o : Oper} {v : Value} {a : Act} {L : Array Bool} {w : World} {K : Act → World → Prop} (hi : ops[i]? = some o) (hy : Gives P md ops S i o v a) (hcl : ClosedL md ops L) (hun : L.getD i true = false) (hS : S L a w) (h : ∀ w', S L a w' → K (a.put o.dst v) w') : wpOp P ops Q i K a w := by
  rcases hy with ⟨hw, hv⟩ | ⟨hw, rfl⟩
  · exact givesR_wp hi hw (hv L a w hcl hun hS) h
  · unfold Go.wpOp
    simp only [hi, hw, Bool.false_eq_true, if_false]
    exact h w hS
theorem wpAnyS_first {i : Nat} {oi : Oper} {v : Value} (hi : ops[i]? = some oi) (hsel : ∀ (j : Nat) (o : Oper) cs b, ops[j]? = some o → o.op ≠ .select cs b)
    (hQ : ∀ c a w, Q (.panic c) (a.put oi.dst v) w → Q (.panic c) a w) (hinv : ∀ L a w, L.getD i true = false → (S (L.setIfInBounds i true) (a.put oi.dst v) w ↔ S L a w)) : ∀ (n : Nat) (L : Array Bool) (a : Act),
      (∀ j oj, ops[j]? = some oj → j ≠ i → L.getD j true = false → (∀ e ∈ oj.after, Region.binds md e = true → e.on ≠ i) → oi.apart ops oj = true) →
      ClosedL md ops L → i ∈ Region.ready md ops L → Gives P md ops S i oi v a → wpAnyS P md ops Q S n (L.setIfInBounds i true) (a.put oi.dst v) → wpAnyS P md ops Q S (n + 1) L a := by
  intro n
  induction n with
  | zero =>
    intro L a _ hcl hr hy H
    refine ⟨fun e => by rw [e] at hr; simp at hr, fun j hj w hS => ?_⟩
    by_cases hji : j = i
    · subst hji
      exact hy.wpOp hi hcl (mem_ready.1 hr).1 hS fun w' hS' => ⟨(hinv L a w' (mem_ready.1 hr).1).2 hS', H⟩
    · have := ready_mono hj hji
      rw [H.1] at this; simp at this
  | succ n ih =>
    intro L a hfree hcl hr hy H
    refine ⟨fun e => by rw [e] at hr; simp at hr, fun j hj w hS => ?_⟩
    have hiun := (mem_ready.1 hr).1
    by_cases hji : j = i
    · subst hji
      exact hy.wpOp hi hcl hiun hS fun w' hS' => ⟨(hinv L a w' hiun).2 hS', H⟩
    · obtain ⟨hjun, oj, hoj, hall⟩ := mem_ready.1 hj
      have hno : ∀ e ∈ oj.after, Region.binds md e = true → e.on ≠ i := fun e he hb heq => by
        have h1 := hall e he hb
        rw [heq] at h1
        rcases Nat.lt_or_ge i L.size with h2 | h2
        · simp [h2] at hiun h1; rw [hiun] at h1; cases h1
        · simp [Array.getElem?_eq_none h2] at h1
      have hfree' : ∀ q oq, ops[q]? = some oq → q ≠ i → (L.setIfInBounds j true).getD q true = false → (∀ e ∈ oq.after, Region.binds md e = true → e.on ≠ i) → oi.apart ops oq = true := fun q oq hq hqi hun hn => by
        refine hfree q oq hq hqi ?_ hn
        by_cases hjq : j = q
        · subst hjq; exact hjun
        · rw [getD_set_ne true hjq] at hun; exact hun
      have h1 := H.2 j (ready_mono hj hji) w ((hinv L a w hiun).2 hS)
      have h2 := wpOp_swap hoj (hfree j oj hoj hji hjun hno) (fun cs b => hsel i oi cs b hi) (fun cs b => hsel j oj cs b hoj) hQ h1
      refine wpOp_mono (fun a' w' h3 => ⟨?_, ih (L.setIfInBounds j true) a' hfree' (hcl.next hj) (ready_mono hr (Ne.symm hji)) (hy.same h3.1.1 h3.1.2) ?_⟩) h2
      · have h4 := h3.2.1
        rw [Array.setIfInBounds_comm _ _ (Ne.symm hji)] at h4
        exact (hinv _ a' w' (by rw [getD_set_ne true hji]; exact hiun)).1 h4
      · rw [Array.setIfInBounds_comm _ _ hji]; exact h3.2.2
/-- Operation i is taken first. -/
theorem wpAnyS_take' {i : Nat} {oi : Oper} {v : Value} {n : Nat} {L : Array Bool} {a : Act} (hi : ops[i]? = some oi) (hs : Region.noSelect ops = true) (hf : Region.free md ops L i = true) (hr : (Region.ready md ops L).contains i = true)
    (hQ : ∀ c a w, Q (.panic c) (a.put oi.dst v) w → Q (.panic c) a w) (hinv : ∀ L a w, L.getD i true = false → (S (L.setIfInBounds i true) (a.put oi.dst v) w ↔ S L a w)) (hy : Gives P md ops S i oi v a) (h : ClosedL md ops (L.setIfInBounds i true) → wpAnyS P md ops Q S n (L.setIfInBounds i true) (a.put oi.dst v)) (hcl : ClosedL md ops L) : wpAnyS P md ops Q S (n + 1) L a :=
  have hr' : i ∈ Region.ready md ops L := by simpa using hr
  wpAnyS_first hi (Region.noSelect_spec hs) hQ hinv n L a (Region.free_spec hi hf) hcl hr' hy (h (hcl.next hr'))
/-- Operation i alone may come up. -/
theorem wpAnyS_step {i : Nat} {n : Nat} {L : Array Bool} {a : Act} (hr : Region.ready md ops L = [i]) (h : ∀ w, S L a w → ClosedL md ops (L.setIfInBounds i true) → wpOp P ops Q i (fun a' w' => S (L.setIfInBounds i true) a' w' ∧ wpAnyS P md ops Q S n (L.setIfInBounds i true) a') a w) (hcl : ClosedL md ops L) : wpAnyS P md ops Q S (n + 1) L a := by
  refine ⟨fun e => by rw [e] at hr; simp at hr, fun j hj w hS => ?_⟩
  rw [hr] at hj
  obtain rfl : j = i := by simpa using hj
  exact h w hS (hcl.next (by rw [hr]; simp))
theorem wpAnyS_done' {L : Array Bool} {a : Act} (hr : Region.ready md ops L = []) (h : ∀ w, S L a w → Q .normal a w) : ∀ n, wpAnyS P md ops Q S n L a
  | 0 => ⟨hr, h⟩
  | _ + 1 => ⟨fun _ => h, by rw [hr]; simp⟩
theorem wp_region_S' {id : Nat} {a : Act} {w : World} (S : Array Bool → Act → World → Prop) (hm : P.follows .mixedOrders = true) (hS : S (Array.replicate ops.size false) a w.drew)
    (h : ClosedL .any ops (Array.replicate ops.size false) → wpAnyS P .any ops Q S ops.size (Array.replicate ops.size false) a) : (Code.region id ops true).wp P Q a w :=
  wp_region_any hm (wpAny_of_S _ _ _ _ hS (h ClosedL.start))
end
/-! The condition that is used: it looks at whether the store k and the allocation m have come up, and at what lies in the slot q of the allocation. -/
def upK (k : Nat) (L : Array Bool) : Bool := L.getD k true
def SK (T : Bool → Bool → Value → World → Prop) (k m q : Nat) (L : Array Bool) (a : Act) (w : World) : Prop := T (upK k L) (upK m L) (a.tmps.getD q undef) w
theorem upK_ne {i k : Nat} {L : Array Bool} (h : (i == k) = false) : upK k (L.setIfInBounds i true) = upK k L := getD_set_ne true (by simpa using h)
theorem upK_eq {k : Nat} {L : Array Bool} (h : L.getD k true = false) : upK k (L.setIfInBounds k true) = true := by
  have hlt : k < L.size := by
    rcases Nat.lt_or_ge k L.size with h2 | h2
    · exact h2
    · simp [Array.getElem?_eq_none h2] at h
  unfold upK; simp [hlt]
theorem put_getD {a : Act} {d : Option Tmp} {v : Value} {q : Nat} (h : (d == some q) = false) : (a.put d v).tmps.getD q undef = a.tmps.getD q undef := by
  rcases d with _ | d
  · rfl
  · have hne : d ≠ q := by simpa using h
    simp [Act.put, Array.getElem?_setIfInBounds_ne hne]
section
variable {T : Bool → Bool → Value → World → Prop} {k m q : Nat}
theorem SK_inv {i : Nat} {d : Option Tmp} {v : Value} (h1 : (i == k) = false) (h2 : (i == m) = false) (h3 : (d == some q) = false) (L : Array Bool) (a : Act) (w : World) : SK T k m q (L.setIfInBounds i true) (a.put d v) w ↔ SK T k m q L a w := by
  unfold SK; rw [upK_ne h1, upK_ne h2, put_getD h3]
/-- Operation i is taken first. -/
theorem wpAnyS_take {i : Nat} {oi : Oper} {v : Value} {n : Nat} {L : Array Bool} {a : Act} (hi : ops[i]? = some oi) (hs : Region.noSelect ops = true) (hf : Region.free md ops L i = true) (hr : (Region.ready md ops L).contains i = true)
    (hQ : ∀ c a w, Q (.panic c) (a.put oi.dst v) w → Q (.panic c) a w) (hk : ((i == k) || (i == m) || (oi.dst == some q)) = false) (hy : Gives P md ops (SK T k m q) i oi v a) (h : ClosedL md ops (L.setIfInBounds i true) → wpAnyS P md ops Q (SK T k m q) n (L.setIfInBounds i true) (a.put oi.dst v)) (hcl : ClosedL md ops L) : wpAnyS P md ops Q (SK T k m q) (n + 1) L a := by
  simp only [Bool.or_eq_false_iff] at hk
  exact wpAnyS_take' hi hs hf hr hQ (fun L a w _ => SK_inv hk.1.1 hk.1.2 hk.2 L a w) hy h hcl
/-- The store, which alone may come up. -/
theorem wpAnyS_store {i : Nat} {oi : Oper} {n : Nat} {L : Array Bool} {a : Act} {d : Bool} {u : Value} (X : World → World) (hi : ops[i]? = some oi) (hr : Region.ready md ops L = [i]) (hk : ((i == k) && !(i == m) && (oi.dst == none)) = true) (hw : Region.wanted oi (yielded ops a.tmps) = true)
    (hd : upK m L = d) (hu : a.tmps.getD q undef = u) (hc : ∀ w, T false d u w → (execOp a.eval oi).run P w = .ok .skip (X w)) (hT : ∀ w, T false d u w → T true d u (X w)) (h : ClosedL md ops (L.setIfInBounds i true) → wpAnyS P md ops Q (SK T k m q) n (L.setIfInBounds i true) a) (hcl : ClosedL md ops L) : wpAnyS P md ops Q (SK T k m q) (n + 1) L a := by
  simp only [Bool.and_eq_true, beq_iff_eq, Bool.not_eq_true', beq_eq_false_iff_ne] at hk
  obtain ⟨⟨rfl, hm⟩, hdst⟩ := hk
  have hun := (mem_ready.1 (show i ∈ Region.ready md ops L by rw [hr]; simp)).1
  refine wpAnyS_step hr (fun w hS hcn => ?_) hcl
  have hS' : T false d u w := by
    have : upK i L = false := hun
    unfold SK at hS; rw [this, hd, hu] at hS; exact hS
  refine givesR_wp (T := fun w' => w' = X w) (v := undef) hi hw (by rw [hc w hS']; exact ⟨rfl, rfl⟩) fun w' hw' => ?_
  subst hw'
  rw [hdst]
  refine ⟨?_, h hcn⟩
  unfold SK
  rw [upK_eq hun, upK_ne (by simpa using hm), hd]
  exact hu.symm ▸ hT _ hS'
/-- The allocation, which alone may come up. -/
theorem wpAnyS_alloc {i : Nat} {oi : Oper} {n : Nat} {L : Array Bool} {a : Act} {b : Bool} (o : Obj) (hi : ops[i]? = some oi) (hr : Region.ready md ops L = [i]) (hk : ((i == m) && !(i == k) && (oi.dst == some q) && decide (q < a.tmps.size)) = true) (hw : Region.wanted oi (yielded ops a.tmps) = true)
    (hb : upK k L = b) (hc : ∀ w, (execOp a.eval oi).run P w = .ok (.value (.pointer (some ⟨w.heap.size, 0, none⟩))) (w.alloc o)) (hT : ∀ u w, T b false u w → T b true (.pointer (some ⟨w.heap.size, 0, none⟩)) (w.alloc o))
    (h : ∀ g, ClosedL md ops (L.setIfInBounds i true) → wpAnyS P md ops Q (SK T k m q) n (L.setIfInBounds i true) (a.put oi.dst (.pointer (some ⟨g, 0, none⟩)))) (hcl : ClosedL md ops L) : wpAnyS P md ops Q (SK T k m q) (n + 1) L a := by
  simp only [Bool.and_eq_true, beq_iff_eq, Bool.not_eq_true', beq_eq_false_iff_ne, decide_eq_true_eq] at hk
  obtain ⟨⟨⟨rfl, hkm⟩, hd⟩, hq⟩ := hk
  have hun := (mem_ready.1 (show i ∈ Region.ready md ops L by rw [hr]; simp)).1
  refine wpAnyS_step hr (fun w hS hcn => ?_) hcl
  have hS' : T b false (a.tmps.getD q undef) w := by
    have : upK i L = false := hun
    unfold SK at hS; rw [this, hb] at hS; exact hS
  refine givesR_wp (T := fun w' => w' = w.alloc o) (v := .pointer (some ⟨w.heap.size, 0, none⟩)) hi hw (by rw [hc w]; exact ⟨rfl, rfl⟩) fun w' hw' => ?_
  subst hw'
  refine ⟨?_, h _ hcn⟩
  unfold SK
  rw [upK_eq hun, upK_ne (by simpa using hkm), hd, hb]
  have : (a.put (some q) (.pointer (some ⟨w.heap.size, 0, none⟩))).tmps.getD q undef = .pointer (some ⟨w.heap.size, 0, none⟩) := by simp [Act.put, hq]
  rw [this]
  exact hT _ _ hS'
theorem wpAnyS_done {L : Array Bool} {a : Act} {b d : Bool} {u : Value} (hr : Region.ready md ops L = []) (hk : upK k L = b) (hm : upK m L = d) (hu : a.tmps.getD q undef = u) (h : ∀ w, T b d u w → Q .normal a w) (n : Nat) (_ : ClosedL md ops L) : wpAnyS P md ops Q (SK T k m q) n L a :=
  wpAnyS_done' hr (fun w hS => h w (by unfold SK at hS; rw [hk, hm, hu] at hS; exact hS)) n
theorem wp_region_S {id : Nat} {a : Act} {w : World} (T : Bool → Bool → Value → World → Prop) (k m q : Nat) (b d : Bool) (hm : P.follows .mixedOrders = true) (hkb : upK k (Array.replicate ops.size false) = b) (hmd : upK m (Array.replicate ops.size false) = d) (hS : T b d (a.tmps.getD q undef) w.drew)
    (h : ClosedL .any ops (Array.replicate ops.size false) → wpAnyS P .any ops Q (SK T k m q) ops.size (Array.replicate ops.size false) a) : (Code.region id ops true).wp P Q a w :=
  wp_region_S' _ hm (by unfold SK; rw [hkb, hmd]; exact hS) h
/-! How an operation is shown to come to something. The flag b is false where the store waits for it. -/
/-- One that leaves the world as it is. -/
theorem gives_pure {i : Nat} {o : Oper} {v : Value} {a : Act} (hw : Region.wanted o (yielded ops a.tmps) = true) (h : ∀ b d u w, T b d u w → (execOp a.eval o).run P w = .ok (.value v) w) : Gives P md ops (SK T k m q) i o v a :=
  .inl ⟨hw, fun L a0 w _ _ hS => by rw [h _ _ _ w hS]; exact ⟨rfl, hS⟩⟩
theorem gives_pureF {i : Nat} {o : Oper} {v : Value} {a : Act} (hw : Region.wanted o (yielded ops a.tmps) = true) (hk : waitsOn md ops k i = true) (h : ∀ d u w, T false d u w → (execOp a.eval o).run P w = .ok (.value v) w) : Gives P md ops (SK T k m q) i o v a :=
  .inl ⟨hw, fun L a0 w hc hun hS => by
    have e : upK k L = false := hc.not_up hk hun
    have hS' := hS
    unfold SK at hS'
    rw [e] at hS'
    rw [h _ _ w hS']; exact ⟨rfl, hS⟩⟩
theorem gives_yields {i : Nat} {o : Oper} {v : Value} {a : Act} (h : YieldsIf P ops (fun w => ∃ b d u, T b d u w) o v a) : Gives P md ops (SK T k m q) i o v a := by
  rcases h with ⟨hw, h⟩ | ⟨hw, h⟩
  · exact gives_pure hw fun b d u w hS => h w ⟨b, d, u, hS⟩
  · exact .inr ⟨hw, h⟩
/-- A call of a function of the program. -/
theorem gives_call {i : Nat} {o : Oper} {v : Value} {a : Act} (hw : Region.wanted o (yielded ops a.tmps) = true) (F : FuncId) (args : Array Value) (hc : ∀ w, (execOp a.eval o).run P w = .ok (.enter F args) w)
    (h : ∀ b d u w, T b d u w → Calls P F args w fun e w' => e = .returned v ∧ T b d u w') : Gives P md ops (SK T k m q) i o v a :=
  .inl ⟨hw, fun L a0 w _ _ hS => by rw [hc w]; exact h _ _ _ w hS⟩
theorem gives_callF {i : Nat} {o : Oper} {v : Value} {a : Act} (hw : Region.wanted o (yielded ops a.tmps) = true) (hk : waitsOn md ops k i = true) (F : FuncId) (args : Array Value) (hc : ∀ w, (execOp a.eval o).run P w = .ok (.enter F args) w)
    (h : ∀ d u w, T false d u w → Calls P F args w fun e w' => e = .returned v ∧ T false d u w') : Gives P md ops (SK T k m q) i o v a :=
  .inl ⟨hw, fun L a0 w hcl hun hS => by
    have e : upK k L = false := hcl.not_up hk hun
    unfold SK at hS ⊢
    rw [e] at hS ⊢
    rw [hc w]; exact h _ _ w hS⟩
end
end
end Go.Proofs.YtjhfcpadnofdnaaGreat
set_option linter.unusedSimpArgs false
set_option linter.unusedVariables false
namespace Go.Proofs.YtjhfcpadnofdnaaGreat
open Go.RowKit
section
variable {P : Program} {ops : Array Oper} {Q : Exit → Act → World → Prop} {md : Region.Mode} {S : World → Prop}
end
end Go.Proofs.YtjhfcpadnofdnaaGreat
