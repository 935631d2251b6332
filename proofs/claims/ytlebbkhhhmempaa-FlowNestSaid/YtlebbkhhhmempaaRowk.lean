/- From a walk that answers true and turns nothing of what was there to the row of a law; arguments that are slices, opened. -/
import Derived.Test.YtlebbkhhhmempaaBase
import Derived.Test.YtlebbkhhhmempaaRows
import Derived.ProofKit
import Derived.SizedLaws
import Derived.Deep.Slices
set_option linter.unusedSimpArgs false
set_option linter.unusedVariables false
namespace Go.Proofs.Ytlebbkhhhmempaa
open Go.ChangeShapes Go.WideShapes Go.ChangeAt Go.RowKit

theorem Try.own : ownKnob Try.prog.godebug = none := by kernel_rfl
theorem Try.laidOut : laidOutB Try.prog = true := by kernel_rfl

section
variable {H : Type} {enc : TypeId × Value → H}
theorem trodAll_below {P : Program} (hl : laidOutB P = true) {W W' : World} (hb : Below W.heap.size W W') : ∀ (ts : List TypeId) (vs : List Value) (ds : List (DataW H)) (ps : List MemPlace), (ts.all fun t => P.readableRec t && decide (t < P.types.size)) = true →
    DataW.TrodAll enc P W 0 (fun _ => true) true ts vs ds ps → (∀ x ∈ ps, x.block < W.heap.size) → DataW.TrodAll enc P W' 0 (fun b => decide (b < W.heap.size)) true ts vs ds ps := by
  intro ts
  induction ts with
  | nil => intro vs ds ps _ h _; obtain ⟨rfl, rfl, rfl⟩ := trodAll_nil h; rfl
  | cons t ts ih =>
    intro vs ds ps hr h hlt
    obtain ⟨v, vs, d, ds, p, q, rfl, rfl, rfl, h0, h1⟩ := trodAll_cons h
    simp only [List.all_cons, Bool.and_eq_true, decide_eq_true_eq] at hr
    exact ⟨p, q, Below.trod hl hr.1.1 hr.1.2 h0 hb (fun x hx => hlt x (List.mem_append_left _ hx)), ih vs ds q hr.2 h1 (fun x hx => hlt x (List.mem_append_right _ hx)), rfl⟩

set_option maxRecDepth 100000 in
theorem law_lifted {os : Os} (started : os.Started) {F : FuncId} {fn : Func} {s : ChangeSpec} {tb : TypeId} (noInit : Try.checked.prog.inits.idxOf? F = none) (hfn : Try.prog.funcs[F]? = some fn) (hvars : s.vars = [])
    (hspec : ∀ ds : List (DataW H), ds.length = fn.params.size → s.fn H ds = { results := [.lit (.bool true)], args := ds }) (hres : fn.resultTypes = #[tb]) (hbool : Try.prog.underlying tb = some .bool)
    (hread : (fn.params.toList.all fun t => Try.prog.readableRec t && decide (t < Try.prog.types.size)) = true)
    (witness : ∃ (w : World) (tape : Tape) (i : Input), w.os = os ∧ (w.forCall tape i).Shaped Try.checked.prog ∧ i.vars = [] ∧ Input.okWide Try.checked.prog (w.forCall tape i) .any w.heap.size F i ∧
      s.pre6 enc Try.checked.prog fn [] false (w.forCall tape i).memory i.args ∧ ({} : Assume).holds Try.checked.prog (lone (Frame.enter Try.checked.prog F i.args .normal) [] (w.forCall tape i)))
    (walk : ∀ (W : World) (base : Nat) (args : Array Value) (ds : List (DataW H)) (ps : List MemPlace), (∀ (j : Nat) t v, fn.params[j]? = some t → args[j]? = some v → Value.okWide Try.prog W .any base t v) →
      DataW.TrodAll enc Try.prog W 0 (fun _ => true) true fn.params.toList args.toList ds ps → (∀ x ∈ ps, x.block < W.heap.size) → (DataW.weightsEach Try.prog fn.params.toList ds).all (· ≤ reachBytes) = true →
      Calls Try.prog F args W fun e W' => e = .returned (.bool true) ∧ Below W.heap.size W W') :
    ReturnsInHanded {} Try.checked os F .any (s.pre6 enc Try.prog fn [] false) (s.post enc Try.prog fn false true false false) := by
  refine returnsInHanded_of_change_sized (C := Try.checked) Try.own started noInit hfn witness ?_
  intro W base args ds gs before hval hW _ hsz _
  have hW' := hW
  obtain ⟨p, q, hA, hV, rfl, hnf, _⟩ := hW
  rw [hvars] at hV
  obtain ⟨rfl, rfl⟩ := trodVars_none hV
  have hlt : ∀ x ∈ p, x.block < W.heap.size := fun x hx => hW'.lt x (by simpa using hx)
  have hsz' : (DataW.weightsEach Try.prog fn.params.toList ds).all (· ≤ reachBytes) = true := by
    have e : s.plain.varTypes Try.checked.prog = [] := by simp [ChangeSpec.plain, DataSpec.varTypes, hvars]
    rw [e, List.append_nil, List.append_nil] at hsz
    exact hsz
  have hlen : ds.length = fn.params.size := by
    have : ∀ (ts : List TypeId) (vs : List Value) (ds : List (DataW H)) (ps : List MemPlace), DataW.TrodAll enc Try.checked.prog W 0 (fun _ => true) true ts vs ds ps → ds.length = ts.length := by
      intro ts
      induction ts with
      | nil => intro vs ds ps h; obtain ⟨_, rfl, _⟩ := trodAll_nil h; rfl
      | cons t ts ih => intro vs ds ps h; obtain ⟨v, vs, d, ds, p, q, rfl, rfl, rfl, _, h1⟩ := trodAll_cons h; simp [ih _ _ _ h1]
    simpa using this _ _ _ _ hA
  refine (walk W base args ds p hval hA hlt hsz').mono fun e W' ⟨he, hb⟩ => ?_
  subst he
  have hall := trodAll_below (enc := enc) Try.laidOut hb _ _ _ _ hread hA hlt
  have hsp := hspec ds hlen
  have hr : (Value.bool true).resultList fn.resultTypes.size = [.bool true] := by rw [hres]; rfl
  refine ⟨_, rfl, ds, [], _, [], p, [], hW', ?_, ?_, ?_, hb.frame _, fun h => by cases h⟩
  · rw [List.append_nil, hsp, hr, hres]; exact trodAll_mk1 (shut_bool hbool true)
  · rw [List.append_nil, hsp]; exact hall
  · rw [List.append_nil, hsp, hvars]; rfl

/-- The rows of cells that the elements of a slice are: a list of what each of them says. -/
theorem list_of_rows {α : Type} {encd : α → List Value} {good : α → Prop} : ∀ rows : List (List Value), (∀ r ∈ rows, ∃ x, r = encd x ∧ good x) → ∃ l : List α, rows = l.map encd ∧ ∀ x ∈ l, good x
  | [], _ => ⟨[], rfl, by simp⟩
  | r :: rows, h => by
    obtain ⟨l, rfl, hl⟩ := list_of_rows rows fun r hr => h r (by simp [hr])
    obtain ⟨x, rfl, hx⟩ := h r (by simp)
    exact ⟨x :: l, rfl, by simpa using ⟨hx, hl⟩⟩
theorem flatten_at (size : Nat) : ∀ (rows : List (List Value)), (∀ r ∈ rows, r.length = size) → ∀ k i r, rows[k]? = some r → i < size → rows.flatten[k * size + i]? = r[i]?
  | [], _, k, i, r, hr, _ => by simp at hr
  | a :: rows, h, k, i, r, hr, hi => by
    have ha := h a (by simp)
    rw [List.flatten_cons]
    rcases k with _ | k
    · simp at hr; subst hr
      rw [List.getElem?_append_left (by omega)]; simp
    · rw [List.getElem?_append_right (by rw [ha, Nat.succ_mul]; omega), ha, show (k + 1) * size + i - size = k * size + i by rw [Nat.succ_mul]; omega]
      exact flatten_at size rows (fun r hr => h r (by simp [hr])) k i r (by simpa using hr) hi
theorem flatten_len (size : Nat) : ∀ (rows : List (List Value)), (∀ r ∈ rows, r.length = size) → rows.flatten.length = rows.length * size
  | [], _ => by simp
  | a :: rows, h => by rw [List.flatten_cons, List.length_append, flatten_len size rows fun r hr => h r (by simp [hr]), h a (by simp), List.length_cons, Nat.succ_mul]; omega

/-- A slice that came in reads as a list. -/
theorem reads_list {α : Type} {encd : α → List Value} {good : α → Prop} {P : Program} {W : World} {t e : TypeId} {size : Nat} {v : Value} {d : DataW H} {ps : List MemPlace} (ht : P.underlying t = some (.slice e)) (hc : P.cellsOf e = size) (hpos : 0 < size)
    (hg : ∀ n cs y, cs.length = size → DataW.trod enc P W 0 (fun _ => true) true n e cs = some y → ∃ x, cs = encd x ∧ good x) (hlt : ∀ x ∈ ps, x.block < W.heap.size)
    (hv : ∃ A len c, v = .slice A len c) (h : DataW.Trod enc P W 0 (fun _ => true) true t v d ps) :
    ∃ A c, ∃ l : List α, v = .slice A l.length c ∧ l.length ≤ c ∧ (∀ x ∈ l, good x) ∧ Reads W W.heap.size size A l.length (l.flatMap encd) := by
  obtain ⟨A, len, c, rfl⟩ := hv
  obtain ⟨fuel, hf⟩ := h
  rcases Go.Deep.open_slice ht hf with ⟨hcs, _⟩ | ⟨a, len', cap, m, n, D, Pl, hcs, _, hl, _, hm, hx, hel⟩
  · simp [Value.cells] at hcs
    obtain ⟨rfl, rfl, rfl⟩ := hcs
    exact ⟨none, 0, [], rfl, by simp, by simp, Reads.none_⟩
  · simp [Value.cells] at hcs
    obtain ⟨rfl, rfl, rfl⟩ := hcs
    rw [hc] at hel
    simp only [if_true] at hm
    subst hm
    have hel' : ∀ i, ∃ r : List Value, i < m → r.length = size ∧ (∃ x, r = encd x ∧ good x) ∧ ∀ j u, r[j]? = some u → W.cell? (a.add (i * size + j)) = some u := by
      intro i
      by_cases hi : i < m
      · obtain ⟨cs, h1, h2⟩ := hel i hi
        obtain ⟨_, hlen, hcell⟩ := World.cells?_some h1
        refine ⟨cs, fun _ => ⟨hlen, hg _ _ _ hlen h2, fun j u hu => ?_⟩⟩
        have hj : j < size := by rw [← hlen]; exact (List.getElem?_eq_some_iff.1 hu).1
        rw [← add_of_add, hcell j hj]
        exact hu
      · exact ⟨[], fun h => absurd h hi⟩
    obtain ⟨R, hR⟩ := Classical.axiomOfChoice hel'
    obtain ⟨l, hl1, hl2⟩ := list_of_rows (encd := encd) (good := good) ((List.range len).map R) (by
      intro r hr
      obtain ⟨i, hi, rfl⟩ := List.mem_map.1 hr
      exact (hR i (by have := List.mem_range.1 hi; omega)).2.1)
    have hll : l.length = len := by have := congrArg List.length hl1; simpa using this.symm
    have hfl : l.flatMap encd = ((List.range len).map R).flatten := by rw [hl1, List.flatMap_def]
    have hsz : ∀ r ∈ (List.range len).map R, r.length = size := fun r hr => by
      obtain ⟨i, hi, rfl⟩ := List.mem_map.1 hr
      exact (hR i (by have := List.mem_range.1 hi; omega)).1
    refine ⟨some a, m, l, by rw [hll], by omega, hl2, ?_, fun hn => ⟨a, rfl, ?_, fun j u hu => ?_⟩⟩
    · rw [hfl, flatten_len size _ hsz, hll]; simp
    · have hp : MemPlace.cell a.block (a.off + 0) ∈ ps := by
        have e : ps = MemPlace.row a (m * size) ++ (List.range m).flatMap Pl := by rw [← hc]; exact (Prod.mk.inj hx).2
        rw [e]
        refine List.mem_append_left _ (List.mem_map.2 ⟨0, List.mem_range.2 ?_, rfl⟩)
        exact Nat.mul_pos (by omega) hpos
      exact hlt _ hp
    · have hj : j < len * size := by
        have := (List.getElem?_eq_some_iff.1 hu).1
        rw [hfl, flatten_len size _ hsz] at this
        simpa using this
      have hk : j / size < len := Nat.div_lt_of_lt_mul (by rw [Nat.mul_comm]; exact hj)
      have hi : j % size < size := Nat.mod_lt _ hpos
      have ej : j / size * size + j % size = j := Nat.div_add_mod' j size
      rw [hfl, ← ej, flatten_at size _ hsz (j / size) (j % size) (R (j / size)) (by simp [hk]) hi] at hu
      rw [← ej]
      exact (hR (j / size) (by omega)).2.2 _ _ hu
/-- A field of a struct that came in, read by itself. -/
theorem struct_field {P : Program} {W : World} {base : Nat} {sp : Nat → Bool} {held : Bool} {n t e o sz : Nat} {cs : List Value} {y : DataW H × List MemPlace} {fs : Array Field} (ht : P.underlying t = some (.struct fs)) (h : DataW.trod enc P W base sp held n t cs = some y)
    (i : Nat) {f : Field} (hi : fs[i]? = some f) (he : f.type = e) (ho : f.offset = o) (hc : P.cellsOf e = sz) : ∃ m z, DataW.trod enc P W base sp held m e ((cs.drop o).take sz) = some z ∧ ∀ p ∈ z.2, p ∈ y.2 := by
  obtain ⟨xs, m, _, rfl, _, hx, hf⟩ := DataW.trod_struct ht h
  have hl : i < xs.length := by rw [hx]; exact (Array.getElem?_eq_some_iff.1 hi).1
  have := (hf i f hi).trans (List.getElem?_eq_getElem hl)
  rw [he, ho, hc] at this
  exact ⟨m, xs[i], this, fun p hp => List.mem_flatMap.2 ⟨xs[i], List.getElem_mem hl, hp⟩⟩
end
end Go.Proofs.Ytlebbkhhhmempaa
