/- Contracts: advances and widths of units (packages text and jambref06). -/
import Derived.Test.YtjhfcpadnofdnaaGreatBase
import Derived.Test.YtjhfcpadnofdnaaGreatRows
import Derived.ProofKit
import Derived.SizedLaws
import Derived.Deep.Slices
import Derived.Test.YtjhfcpadnofdnaaGreatProg
import Derived.Laws.Externs
import Derived.Deep.RegionHeld3
import Derived.Deep.DeepCutAuto
import Derived.BigQuiet
import Derived.Deep.QuietTactic
set_option linter.unusedSimpArgs false
set_option linter.unusedVariables false
namespace Go.Proofs.YtjhfcpadnofdnaaGreat
open Go.ChangeShapes Go.WideShapes Go.ChangeAt Go.RowKit
theorem Tryz.own : ownKnob Tryz.prog.godebug = none := by kernel_rfl
theorem Tryz.laidOut : laidOutB Tryz.prog = true := by kernel_rfl
section
variable {H : Type} {enc : TypeId × Value → H}
theorem trodAll_below {P : Program} (hl : laidOutB P = true) {W W' : World} (hb : Below W.heap.size W W') : ∀ (ts : List TypeId) (vs : List Value) (ds : List (DataW H)) (ps : List MemPlace), (ts.all fun t => P.readableRec t && decide (t < P.types.size)) = true →
    DataW.TrodAll enc P W 0 (fun _ => true) true ts vs ds ps → (∀ x ∈ ps, x.block < W.heap.size) → DataW.TrodAll enc P W' 0 (fun b => decide (b < W.heap.size)) true ts vs ds ps := by
  intro ts
  induction ts with
  | nil => intro vs ds ps _ h _; obtain ⟨rfl, rfl, rfl⟩ := trodAll_nil h; rfl
  | cons t ts ih =>
    intro vs ds ps hr h hlt
    obtain ⟨v, vs, d, ds, p, q, rfl, rfl, rfl, h0, h1⟩ := trodAll_cons h
    simp only [List.all_cons, Bool.and_eq_true, decide_eq_true_eq] at hr
    exact ⟨p, q, Below.trod hl hr.1.1 hr.1.2 h0 hb (fun x hx => hlt x (List.mem_append_left _ hx)), ih vs ds q hr.2 h1 (fun x hx => hlt x (List.mem_append_right _ hx)), rfl⟩
set_option maxRecDepth 100000 in
theorem law_lifted {os : Os} (started : os.Started) {F : FuncId} {fn : Func} {s : ChangeSpec} {tb : TypeId} (noInit : Tryz.checked.prog.inits.idxOf? F = none) (hfn : Tryz.prog.funcs[F]? = some fn) (hvars : s.vars = [])
    (hspec : ∀ ds : List (DataW H), ds.length = fn.params.size → s.fn H ds = { results := [.lit (.bool true)], args := ds }) (hres : fn.resultTypes = #[tb]) (hbool : Tryz.prog.underlying tb = some .bool)
    (hread : (fn.params.toList.all fun t => Tryz.prog.readableRec t && decide (t < Tryz.prog.types.size)) = true)
    (witness : ∃ (w : World) (tape : Tape) (i : Input), w.os = os ∧ (w.forCall tape i).Shaped Tryz.checked.prog ∧ i.vars = [] ∧ Input.okWide Tryz.checked.prog (w.forCall tape i) .any w.heap.size F i ∧
      s.pre6 enc Tryz.checked.prog fn [] false (w.forCall tape i).memory i.args ∧ ({} : Assume).holds Tryz.checked.prog (lone (Frame.enter Tryz.checked.prog F i.args .normal) [] (w.forCall tape i)))
    (walk : ∀ (W : World) (base : Nat) (args : Array Value) (ds : List (DataW H)) (ps : List MemPlace), (∀ (j : Nat) t v, fn.params[j]? = some t → args[j]? = some v → Value.okWide Tryz.prog W .any base t v) →
      DataW.TrodAll enc Tryz.prog W 0 (fun _ => true) true fn.params.toList args.toList ds ps → (∀ x ∈ ps, x.block < W.heap.size) → (DataW.weightsEach Tryz.prog fn.params.toList ds).all (· ≤ reachBytes) = true →
      Calls Tryz.prog F args W fun e W' => e = .returned (.bool true) ∧ Below W.heap.size W W') :
    ReturnsInHanded {} Tryz.checked os F .any (s.pre6 enc Tryz.prog fn [] false) (s.post enc Tryz.prog fn false true false false) := by
  refine returnsInHanded_of_change_sized (C := Tryz.checked) Tryz.own started noInit hfn witness ?_
  intro W base args ds gs before hval hW _ hsz _
  have hW' := hW
  obtain ⟨p, q, hA, hV, rfl, hnf, _⟩ := hW
  rw [hvars] at hV
  obtain ⟨rfl, rfl⟩ := trodVars_none hV
  have hlt : ∀ x ∈ p, x.block < W.heap.size := fun x hx => hW'.lt x (by simpa using hx)
  have hsz' : (DataW.weightsEach Tryz.prog fn.params.toList ds).all (· ≤ reachBytes) = true := by
    have e : s.plain.varTypes Tryz.checked.prog = [] := by simp [ChangeSpec.plain, DataSpec.varTypes, hvars]
    rw [e, List.append_nil, List.append_nil] at hsz
    exact hsz
  have hlen : ds.length = fn.params.size := by
    have : ∀ (ts : List TypeId) (vs : List Value) (ds : List (DataW H)) (ps : List MemPlace), DataW.TrodAll enc Tryz.checked.prog W 0 (fun _ => true) true ts vs ds ps → ds.length = ts.length := by
      intro ts
      induction ts with
      | nil => intro vs ds ps h; obtain ⟨_, rfl, _⟩ := trodAll_nil h; rfl
      | cons t ts ih => intro vs ds ps h; obtain ⟨v, vs, d, ds, p, q, rfl, rfl, rfl, _, h1⟩ := trodAll_cons h; simp [ih _ _ _ h1]
    simpa using this _ _ _ _ hA
  refine (walk W base args ds p hval hA hlt hsz').mono fun e W' ⟨he, hb⟩ => ?_
  subst he
  have hall := trodAll_below (enc := enc) Tryz.laidOut hb _ _ _ _ hread hA hlt
  have hsp := hspec ds hlen
  have hr : (Value.bool true).resultList fn.resultTypes.size = [.bool true] := by rw [hres]; rfl
  refine ⟨_, rfl, ds, [], _, [], p, [], hW', ?_, ?_, ?_, hb.frame _, fun h => by cases h⟩
  · rw [List.append_nil, hsp, hr, hres]; exact trodAll_mk1 (shut_bool hbool true)
  · rw [List.append_nil, hsp]; exact hall
  · rw [List.append_nil, hsp, hvars]; rfl
/-- The rows of cells that the elements of a slice are: a list of what each of them says. -/
theorem list_of_rows {α : Type} {encd : α → List Value} {good : α → Prop} : ∀ rows : List (List Value), (∀ r ∈ rows, ∃ x, r = encd x ∧ good x) → ∃ l : List α, rows = l.map encd ∧ ∀ x ∈ l, good x
  | [], _ => ⟨[], rfl, by simp⟩
  | r :: rows, h => by
    obtain ⟨l, rfl, hl⟩ := list_of_rows rows fun r hr => h r (by simp [hr])
    obtain ⟨x, rfl, hx⟩ := h r (by simp)
    exact ⟨x :: l, rfl, by simpa using ⟨hx, hl⟩⟩
theorem flatten_at (size : Nat) : ∀ (rows : List (List Value)), (∀ r ∈ rows, r.length = size) → ∀ k i r, rows[k]? = some r → i < size → rows.flatten[k * size + i]? = r[i]?
  | [], _, k, i, r, hr, _ => by simp at hr
  | a :: rows, h, k, i, r, hr, hi => by
    have ha := h a (by simp)
    rw [List.flatten_cons]
    rcases k with _ | k
    · simp at hr; subst hr
      rw [List.getElem?_append_left (by omega)]; simp
    · rw [List.getElem?_append_right (by rw [ha, Nat.succ_mul]; omega), ha, show (k + 1) * size + i - size = k * size + i by rw [Nat.succ_mul]; omega]
      exact flatten_at size rows (fun r hr => h r (by simp [hr])) k i r (by simpa using hr) hi
theorem flatten_len (size : Nat) : ∀ (rows : List (List Value)), (∀ r ∈ rows, r.length = size) → rows.flatten.length = rows.length * size
  | [], _ => by simp
  | a :: rows, h => by rw [List.flatten_cons, List.length_append, flatten_len size rows fun r hr => h r (by simp [hr]), h a (by simp), List.length_cons, Nat.succ_mul]; omega
/-- A slice that came in reads as a list. -/
theorem reads_list {α : Type} {encd : α → List Value} {good : α → Prop} {P : Program} {W : World} {t e : TypeId} {size : Nat} {v : Value} {d : DataW H} {ps : List MemPlace} (ht : P.underlying t = some (.slice e)) (hc : P.cellsOf e = size) (hpos : 0 < size)
    (hg : ∀ n cs y, cs.length = size → DataW.trod enc P W 0 (fun _ => true) true n e cs = some y → ∃ x, cs = encd x ∧ good x) (hlt : ∀ x ∈ ps, x.block < W.heap.size)
    (hv : ∃ A len c, v = .slice A len c) (h : DataW.Trod enc P W 0 (fun _ => true) true t v d ps) :
    ∃ A c, ∃ l : List α, v = .slice A l.length c ∧ l.length ≤ c ∧ (∀ x ∈ l, good x) ∧ Reads W W.heap.size size A l.length (l.flatMap encd) := by
  obtain ⟨A, len, c, rfl⟩ := hv
  obtain ⟨fuel, hf⟩ := h
  rcases Go.Deep.open_slice ht hf with ⟨hcs, _⟩ | ⟨a, len', cap, m, n, D, Pl, hcs, _, hl, _, hm, hx, hel⟩
  · simp [Value.cells] at hcs
    obtain ⟨rfl, rfl, rfl⟩ := hcs
    exact ⟨none, 0, [], rfl, by simp, by simp, Reads.none_⟩
  · simp [Value.cells] at hcs
    obtain ⟨rfl, rfl, rfl⟩ := hcs
    rw [hc] at hel
    simp only [if_true] at hm
    subst hm
    have hel' : ∀ i, ∃ r : List Value, i < m → r.length = size ∧ (∃ x, r = encd x ∧ good x) ∧ ∀ j u, r[j]? = some u → W.cell? (a.add (i * size + j)) = some u := by
      intro i
      by_cases hi : i < m
      · obtain ⟨cs, h1, h2⟩ := hel i hi
        obtain ⟨_, hlen, hcell⟩ := World.cells?_some h1
        refine ⟨cs, fun _ => ⟨hlen, hg _ _ _ hlen h2, fun j u hu => ?_⟩⟩
        have hj : j < size := by rw [← hlen]; exact (List.getElem?_eq_some_iff.1 hu).1
        rw [← add_of_add, hcell j hj]
        exact hu
      · exact ⟨[], fun h => absurd h hi⟩
    obtain ⟨R, hR⟩ := Classical.axiomOfChoice hel'
    obtain ⟨l, hl1, hl2⟩ := list_of_rows (encd := encd) (good := good) ((List.range len).map R) (by
      intro r hr
      obtain ⟨i, hi, rfl⟩ := List.mem_map.1 hr
      exact (hR i (by have := List.mem_range.1 hi; omega)).2.1)
    have hll : l.length = len := by have := congrArg List.length hl1; simpa using this.symm
    have hfl : l.flatMap encd = ((List.range len).map R).flatten := by rw [hl1, List.flatMap_def]
    have hsz : ∀ r ∈ (List.range len).map R, r.length = size := fun r hr => by
      obtain ⟨i, hi, rfl⟩ := List.mem_map.1 hr
      exact (hR i (by have := List.mem_range.1 hi; omega)).1
    refine ⟨some a, m, l, by rw [hll], by omega, hl2, ?_, fun hn => ⟨a, rfl, ?_, fun j u hu => ?_⟩⟩
    · rw [hfl, flatten_len size _ hsz, hll]; simp
    · have hp : MemPlace.cell a.block (a.off + 0) ∈ ps := by
        have e : ps = MemPlace.row a (m * size) ++ (List.range m).flatMap Pl := by rw [← hc]; exact (Prod.mk.inj hx).2
        rw [e]
        refine List.mem_append_left _ (List.mem_map.2 ⟨0, List.mem_range.2 ?_, rfl⟩)
        exact Nat.mul_pos (by omega) hpos
      exact hlt _ hp
    · have hj : j < len * size := by
        have := (List.getElem?_eq_some_iff.1 hu).1
        rw [hfl, flatten_len size _ hsz] at this
        simpa using this
      have hk : j / size < len := Nat.div_lt_of_lt_mul (by rw [Nat.mul_comm]; exact hj)
      have hi : j % size < size := Nat.mod_lt _ hpos
      have ej : j / size * size + j % size = j := Nat.div_add_mod' j size
      rw [hfl, ← ej, flatten_at size _ hsz (j / size) (j % size) (R (j / size)) (by simp [hk]) hi] at hu
      rw [← ej]
      exact (hR (j / size) (by omega)).2.2 _ _ hu
/-- A field of a struct that came in, read by itself. -/
theorem struct_field {P : Program} {W : World} {base : Nat} {sp : Nat → Bool} {held : Bool} {n t e o sz : Nat} {cs : List Value} {y : DataW H × List MemPlace} {fs : Array Field} (ht : P.underlying t = some (.struct fs)) (h : DataW.trod enc P W base sp held n t cs = some y)
    (i : Nat) {f : Field} (hi : fs[i]? = some f) (he : f.type = e) (ho : f.offset = o) (hc : P.cellsOf e = sz) : ∃ m z, DataW.trod enc P W base sp held m e ((cs.drop o).take sz) = some z ∧ ∀ p ∈ z.2, p ∈ y.2 := by
  obtain ⟨xs, m, _, rfl, _, hx, hf⟩ := DataW.trod_struct ht h
  have hl : i < xs.length := by rw [hx]; exact (Array.getElem?_eq_some_iff.1 hi).1
  have := (hf i f hi).trans (List.getElem?_eq_getElem hl)
  rw [he, ho, hc] at this
  exact ⟨m, xs[i], this, fun p hp => List.mem_flatMap.2 ⟨xs[i], List.getElem_mem hl, hp⟩⟩
end
end Go.Proofs.YtjhfcpadnofdnaaGreat
namespace Go.Proofs.YtjhfcpadnofdnaaGreat
/-- The value of a list of digits. -/
def val : List Bool → Int
  | [] => 0
  | b :: t => (if b then 1 else 0) + 2 * val t
end Go.Proofs.YtjhfcpadnofdnaaGreat
namespace Go.Proofs.YtjhfcpadnofdnaaGreat
open Go.RowKit
def cutF (x : Int) : Int := if x > 1099511627776 then 1099511627776 else if x < -1099511627776 then -1099511627776 else x
def cutB (x : Int) : Bool := decide (x > 1099511627776) || decide (x < -1099511627776)
set_option maxHeartbeats 400000 in
theorem cut_any (x : Int) (w : World) :
    Calls Tryz.prog 81 #[.int .i64 x] w fun e w' => e = .returned (.tuple #[.int .i64 (cutF x), .bool (cutB x)]) ∧ w = w' := by
  go_enter Tryz.func81, Tryz.ntmps81
  go_wp2
  all_goals
    go_ret2
    refine ⟨?_, rfl⟩
    simp [cutF, cutB]
    try omega
theorem add64 (x y c : Int) (hx : 0 ≤ x) (hy : 0 ≤ y) (hc0 : 0 ≤ c) (hc : c ≤ 1) (w : World) : (callFunc 213 #[.int .u64 x, .int .u64 y, .int .u64 c]).run Tryz.prog w =
    .ok (.value (.tuple #[.int .u64 ((x + y + c) % 18446744073709551616), .int .u64 ((x + y + c) / 18446744073709551616)])) w := by
  rw [run_callFunc_extern (fn := Tryz.f213) (by kernel_rfl) (by kernel_rfl) (by kernel_rfl) (by kernel_rfl) (e := add64Entry) (by kernel_rfl), run_add64 x y c hx hy hc0 hc]
  rfl
theorem add64_0 (x y : Int) (hx : 0 ≤ x) (hy : 0 ≤ y) (w : World) : (callFunc 213 #[.int .u64 x, .int .u64 y, .int .u64 0]).run Tryz.prog w =
    .ok (.value (.tuple #[.int .u64 ((x + y) % 18446744073709551616), .int .u64 ((x + y) / 18446744073709551616)])) w := by
  simpa using add64 x y 0 hx hy (Int.le_refl 0) (by decide) w
theorem u64_eq (x : Int) : IntKind.u64.wrap x = x % 18446744073709551616 := by simp [IntKind.wrap, IntKind.signed, IntKind.bits]
theorem u64_nn (x : Int) : 0 ≤ IntKind.u64.wrap x := by rw [u64_eq]; omega
def hiOf (S : Int) : Value := .int .i64 (S / 18446744073709551616)
def loOf (S : Int) : Value := .int .u64 (S % 18446744073709551616)
theorem sum1_lo (S x : Int) : (S + IntKind.u64.wrap x) % 18446744073709551616 = (S + x) % 18446744073709551616 := by rw [u64_eq]; omega
theorem sum1_hi (S x : Int) (hx0 : -9223372036854775808 ≤ x) (hx1 : x < 9223372036854775808) (h0 : -170141183460469231731687303715884105728 ≤ S + x) (h1 : S + x < 170141183460469231731687303715884105728) :
    wrap64 (S / 18446744073709551616 + wrap64 (x / 9223372036854775808 + wrap64 ((S % 18446744073709551616 + IntKind.u64.wrap x) / 18446744073709551616))) = (S + x) / 18446744073709551616 := by
  rw [u64_eq]
  obtain ⟨q, r, hr0, hr1, rfl⟩ : ∃ q r : Int, 0 ≤ r ∧ r < 18446744073709551616 ∧ S = 18446744073709551616 * q + r := ⟨S / 18446744073709551616, S % 18446744073709551616, by omega, by omega, by omega⟩
  have e1 : (18446744073709551616 * q + r) / 18446744073709551616 = q := by omega
  have e2 : (18446744073709551616 * q + r) % 18446744073709551616 = r := by omega
  rw [e1, e2]
  obtain ⟨c, hc, hc0, hc1⟩ : ∃ c, (r + x % 18446744073709551616) / 18446744073709551616 = c ∧ 0 ≤ c ∧ c ≤ 1 := ⟨_, rfl, by omega, by omega⟩
  rw [hc, IntWalk.wrap64_in c ⟨by omega, by omega⟩, IntWalk.wrap64_in (_ + c) ⟨by omega, by omega⟩]
  rw [IntWalk.wrap64_in _ ⟨by omega, by omega⟩]
  omega
set_option maxHeartbeats 400000 in
theorem sum1_any (S x : Int) (b : Nat) (w : World) (hx0 : -9223372036854775808 ≤ x) (hx1 : x < 9223372036854775808) (hS0 : -170141183460469231731687303715884105728 ≤ S + x) (hS1 : S + x < 170141183460469231731687303715884105728)
    (h0 : w.cell? ⟨b, 0, none⟩ = some (hiOf S)) (h1 : w.cell? ⟨b, 1, none⟩ = some (loOf S)) (f0 : w.frozen? ⟨b, 0, none⟩ = false) (f1 : w.frozen? ⟨b, 1, none⟩ = false) :
    Calls Tryz.prog 212 #[.int .i64 x, .pointer (some ⟨b, 0, none⟩)] w fun e w' => e = .returned (.tuple #[]) ∧ (w.setCell ⟨b, 1, none⟩ (loOf (S + x))).setCell ⟨b, 0, none⟩ (hiOf (S + x)) = w' := by
  have e1 := sum1_hi S x hx0 hx1 hS0 hS1
  have e0 : 0 ≤ S % 18446744073709551616 := by omega
  have E1 := Lib.hid e1
  clear e1 hx0 hx1 hS0 hS1
  unfold hiOf at h0
  unfold loOf at h1
  go_enter Tryz.func212, Tryz.ntmps212
  go_wp2_with (first | simp only [add64_0 (S % 18446744073709551616) _ e0 (u64_nn x)])
  go_end0
  refine ⟨rfl, ?_⟩
  rw [E1.out, sum1_lo]
  rfl
theorem low64 (S : Int) (h : -9223372036854775808 ≤ S ∧ S < 9223372036854775808) : wrap64 (S % 18446744073709551616) = S := by unfold wrap64; omega
theorem is64 (S : Int) (h : -9223372036854775808 ≤ S ∧ S < 9223372036854775808) : S / 18446744073709551616 = wrap64 (S % 18446744073709551616) / 9223372036854775808 := by rw [low64 S h]; omega
theorem not64 (S : Int) (h : S < -9223372036854775808 ∨ 9223372036854775808 ≤ S) : ¬ S / 18446744073709551616 = wrap64 (S % 18446744073709551616) / 9223372036854775808 := by unfold wrap64; omega
set_option maxHeartbeats 400000 in
theorem wcut_any (S : Int) (w : World) (h0 : -170141183460469231731687303715884105728 ≤ S) (h1 : S < 170141183460469231731687303715884105728) :
    Calls Tryz.prog 214 #[.agg #[hiOf S, loOf S]] w fun e w' => e = .returned (.tuple #[.int .i64 (cutF S), .bool (cutB S)]) ∧ Below w.heap.size w w' := by
  unfold hiOf loOf
  by_cases ha : -9223372036854775808 ≤ S ∧ S < 9223372036854775808
  · have e1 : (S / 18446744073709551616 == wrap64 (S % 18446744073709551616) / 9223372036854775808) = true := by simpa using is64 S ha
    have e2 := low64 S ha
    have E2 := Lib.hid e2
    clear h0 h1 e2
    go_enter Tryz.func214, Tryz.ntmps214
    go_wp2_with (go_at_call 81; refine (cut_any _ _).mono ?_; rintro e w' ⟨rfl, rfl⟩)
    go_ret2
    rw [E2.out]
    exact ⟨rfl, (Below.refl _ _).alloc (Nat.le_refl _) _⟩
  · have e1 : (S / 18446744073709551616 == wrap64 (S % 18446744073709551616) / 9223372036854775808) = false := by simpa using not64 S (by omega)
    by_cases hb : S < 0
    · have e2 : cutF S = -1099511627776 ∧ cutB S = true := by unfold cutF cutB; constructor <;> simp <;> omega
      have e3 : S / 18446744073709551616 < 0 := by omega
      have E2 := Lib.hid e2
      clear e2 h0 h1
      go_enter Tryz.func214, Tryz.ntmps214
      go_wp2_with fail
      go_ret2
      rw [E2.out.1, E2.out.2]
      exact ⟨rfl, (Below.refl _ _).alloc (Nat.le_refl _) _⟩
    · have e2 : cutF S = 1099511627776 ∧ cutB S = true := by unfold cutF cutB; constructor <;> simp <;> omega
      have e3 : 0 ≤ S / 18446744073709551616 := by omega
      have E2 := Lib.hid e2
      clear e2 h0 h1
      go_enter Tryz.func214, Tryz.ntmps214
      go_wp2_with fail
      go_ret2
      rw [E2.out.1, E2.out.2]
      exact ⟨rfl, (Below.refl _ _).alloc (Nat.le_refl _) _⟩
def i64s (l : List Int) : List Value := l.map (Value.int .i64)
set_option maxHeartbeats 800000 in
theorem sum_any (l : List Int) (A : Option Addr) (c : Nat) (w : World) (hl : I64s l) (hn : l.length ≤ 4611686018427387904) (hr : Reads w w.heap.size 1 A l.length (i64s l)) :
    Calls Tryz.prog 123 #[.slice A l.length c] w fun e w' => e = .returned (.tuple #[.int .i64 (cutF l.sum), .bool (cutB l.sum)]) ∧ Below w.heap.size w w' := by
  go_enter Tryz.func123, Tryz.ntmps123
  go_wp2
  go_loopw [11] (fun i wr => ∃ k : Nat, k ≤ l.length ∧ i = .int .i64 k ∧ Blk wr w.heap.size 284 #[hiOf (l.take k).sum, loOf (l.take k).sum] ∧ Below w.heap.size w wr)
    (fun i _ => l.length - (intOf i).toNat)
  case atStart => exact ⟨0, by omega, rfl, Blk.new _ _ _, (Below.refl _ _).alloc (Nat.le_refl _) _⟩
  case round =>
    obtain ⟨k, hk, rfl, hb, hw⟩ := hrel
    by_cases hlt : k < l.length
    · obtain ⟨ad, u, rfl, hab, hx, hc⟩ := (hr.below hw).at_ hlt
      have hu : u = .int .i64 l[k] := by simpa [i64s, hlt] using hx.symm
      subst hu
      have hs := take_sum_succ l k hlt
      have hx2 := hl.at_ hlt
      have hb1 := sum_bd (l.take (k + 1)) fun x hx => hl x (List.mem_of_mem_take hx)
      rw [List.length_take_of_le (by omega), hs] at hb1
      have HS := Lib.hid hs
      have c0 : wr.cell? ⟨w.heap.size, 0, none⟩ = some (hiOf (l.take k).sum) := (hb.cell 0).trans rfl
      have c1 : wr.cell? ⟨w.heap.size, 1, none⟩ = some (loOf (l.take k).sum) := (hb.cell 1).trans rfl
      clear hs hx hr
      go_wp2_with fail
      refine (sum1_any (l.take k).sum l[k] _ _ hx2.1 hx2.2 (by omega) (by omega) c0 c1 (hb.frozen 0) (hb.frozen 1)).mono ?_
      rintro e w' ⟨rfl, rfl⟩
      go_wp2_with fail
      go_roundw
      case rel =>
        refine ⟨k + 1, by omega, by go_num, ?_, ?_⟩
        · rw [HS.out]; exact (hb.set_ 1 _).set_ 0 _
        · exact (hw.setCell (p := ⟨w.heap.size, 1, none⟩) (Nat.le_refl _) _).setCell (p := ⟨w.heap.size, 0, none⟩) (Nat.le_refl _) _
      case measure => simp [intOf]; omega
    · obtain rfl : k = l.length := by omega
      have c0 : wr.cell? ⟨w.heap.size, 0, none⟩ = some (hiOf l.sum) := (hb.cell 0).trans (by simp)
      have c1 : wr.cell? ⟨w.heap.size, 1, none⟩ = some (loOf l.sum) := (hb.cell 1).trans (by simp)
      have hb1 := sum_bd l hl
      clear hr
      go_wp2_with fail
      refine (wcut_any l.sum _ (by omega) (by omega)).mono ?_
      rintro e w' ⟨rfl, hb2⟩
      go_wp2_with fail
      go_ret2
      exact ⟨rfl, hw.trans (hb2.mono hw.size)⟩
end Go.Proofs.YtjhfcpadnofdnaaGreat
namespace Go.Proofs.YtjhfcpadnofdnaaGreat
open Go.RowKit
def bools (l : List Bool) : List Value := l.map Value.bool
/-- A big number as a value: its sign, the slice of its digits, of which there are at most K. -/
def sg (m : Bool) (x : Int) : Int := if m then -x else x
def Big (w : World) (lo : Nat) (v : Value) (K : Nat) (x : Int) : Prop := ∃ (m : Bool) (A : Option Addr) (c : Nat) (l : List Bool), v = .agg #[.bool m, .slice A l.length c] ∧ l.length ≤ c ∧ l.length ≤ K ∧ Reads w w.heap.size 1 A l.length (bools l) ∧
  (∀ ad, A = some ad → 0 < l.length → lo ≤ ad.block) ∧ sg m (val l) = x
theorem Big.below {w w' : World} {lo : Nat} {v : Value} {K : Nat} {x : Int} (h : Big w lo v K x) (hb : Below w.heap.size w w') : Big w' lo v K x := by
  obtain ⟨m, A, c, l, hv, hc, hk, hr, ho, hx⟩ := h
  exact ⟨m, A, c, l, hv, hc, hk, (hr.below hb).more hb.size, ho, hx⟩
theorem Big.drew {w : World} {lo : Nat} {v : Value} {K : Nat} {x : Int} (h : Big w lo v K x) : Big w.drew lo v K x := h
theorem Big.more {w : World} {lo lo' : Nat} {v : Value} {K K' : Nat} {x : Int} (h : Big w lo v K x) (hk : K ≤ K') (hl : lo' ≤ lo) : Big w lo' v K' x := by
  obtain ⟨m, A, c, l, hv, hc, hk', hr, ho, hx⟩ := h
  exact ⟨m, A, c, l, hv, hc, by omega, hr, fun ad h1 h2 => Nat.le_trans hl (ho ad h1 h2), hx⟩
theorem Big.set_ {w : World} {lo : Nat} {v : Value} {K : Nat} {x : Int} (h : Big w lo v K x) {p : Addr} (hp : p.block < lo) (u : Value) : Big (w.setCell p u) lo v K x := by
  obtain ⟨m, A, c, l, hv, hc, hk, ⟨hr1, hr2⟩, ho, hx⟩ := h
  refine ⟨m, A, c, l, hv, hc, hk, ⟨hr1, fun hn => ?_⟩, ho, hx⟩
  obtain ⟨ad, e, hb, hcl⟩ := hr2 hn
  have := ho ad e hn
  refine ⟨ad, e, by simpa [World.setCell] using hb, fun j u' hu => ?_⟩
  rw [World.cell?_of_block (w := w)]
  · exact hcl j u' hu
  · rw [block_of_add]; exact Below.heap_setCell _ _ _ _ (by omega)
attribute [local go_sem] block_of_add
end Go.Proofs.YtjhfcpadnofdnaaGreat
set_option linter.unusedSimpArgs false
set_option linter.unusedVariables false
namespace Go.Proofs.YtjhfcpadnofdnaaGreat
open Go.RowKit
attribute [local go_sem] block_of_add
end Go.Proofs.YtjhfcpadnofdnaaGreat
set_option linter.unusedSimpArgs false
set_option linter.unusedVariables false
namespace Go.Proofs.YtjhfcpadnofdnaaGreat
open Go.RowKit
attribute [local go_sem] block_of_add
end Go.Proofs.YtjhfcpadnofdnaaGreat
set_option linter.unusedSimpArgs false
set_option linter.unusedVariables false
namespace Go.Proofs.YtjhfcpadnofdnaaGreat
open Go.RowKit
attribute [local go_sem] block_of_add
theorem fld_L (m : Bool) (A : Option Addr) (n c : Nat) (w : World) : (Instr.field 219 (.agg #[.bool m, .slice A n c]) 1).run Tryz.prog w = .ok (.slice A n c) w := by kernel_rfl
attribute [local go_sem] fld_L
end Go.Proofs.YtjhfcpadnofdnaaGreat
set_option linter.unusedSimpArgs false
set_option linter.unusedVariables false
namespace Go.Proofs.YtjhfcpadnofdnaaGreat
open Go.RowKit
attribute [local go_sem] block_of_add
end Go.Proofs.YtjhfcpadnofdnaaGreat
namespace Go.Proofs.YtjhfcpadnofdnaaGreat
open Go.RowKit
attribute [local go_sem] block_of_add
def u16s (l : List Int) : List Value := l.map (Value.int .u16)
def U16s (l : List Int) : Prop := ∀ x ∈ l, 0 ≤ x ∧ x < 65536
theorem U16s.at_ {l : List Int} (h : U16s l) {k : Nat} (hk : k < l.length) : 0 ≤ l[k] ∧ l[k] < 65536 := h _ (List.getElem_mem hk)
/-- A unit's advance. -/
def adv (t : List Int) (u : Int) : Int := t[u.toNat]?.getD 0
section
variable (t : List Int) (A : Option Addr) (c : Nat) (w : World) (hr : Reads w w.heap.size 1 A t.length (i64s t))
include hr
end
end Go.Proofs.YtjhfcpadnofdnaaGreat
