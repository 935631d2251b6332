/- Widths: lengths in a containing width, bounds: contracts of package widths and of jambref13. -/
import Derived.Test.YtbopeofglhkffaaRowk
import Derived.Test.YtbopeofglhkffaaSty
import Derived.Deep.MidRow
import Derived.Deep.WholeRow
import Derived.Test.YtbopeofglhkffaaApp
import Derived.BigQuiet
set_option linter.unusedSimpArgs false
set_option linter.unusedVariables false
namespace Go.Proofs.Ytbopeofglhkffaa
open Go.RowKit
section
variable {P : Program} {w : World} {o : Oper} {a : Act} {t e : TypeId} {z : Value} {size bytes base n m : Nat} {v : Value} {xs : List Value}
theorem run_copy (hE : El P t e z size bytes) (ty : TypeId) (hown : w.ownsRow base e size v n xs) (hbase : base ≤ w.heap.size) (news : List Value) {A : Option Addr} {B c : Nat} (hr : Reads w B size A m news) (h1 : ∀ u ∈ news, u.oneCell' = true)
    (h63 : n + m ≤ 4294967296) (hby : bytes ≤ 32768) :
    ∃ A' c' w', (Builtin.append_ #[t, t] ty #[v, .slice A m c]).run P w = .ok (.slice A' (n + m) c') w' ∧
      w'.ownsRow base e size (.slice A' (n + m) c') (n + m) (xs ++ news) ∧ (∀ B w0, B ≤ base → Below B w0 w → Below B w0 w') ∧ w.grownBy w' v.ownBlock := by
  obtain ⟨i, hi, hz, hs, hb⟩ := info_parts hE.info
  have hbytes : (n + m) * bytes ≤ 140737488355328 := by
    have := Nat.mul_le_mul h63 hby; omega
  rcases A with _ | ad
  · have hm : m = 0 := by
      rcases Nat.eq_zero_or_pos m with h | h
      · exact h
      · obtain ⟨_, e, _⟩ := hr.2 h; cases e
    subst hm
    have hx : news = [] := by have := hr.1; simpa using this
    subst hx
    obtain ⟨Av, cv, rfl⟩ := own_form hown
    have hcap := own_cap hown
    refine ⟨Av, cv, w, ?_, by simpa using hown, fun B w0 _ h => h, ⟨rfl, rfl, rfl, Nat.le_refl _, fun k _ _ => rfl⟩⟩
    rcases Av with _ | g
    · simp [Builtin.append_, run_underlying hE.ht, sizeOf, typeInfo, hi, Builtin.lenOf, hcap, Builtin.firstCells, storeCells]
    · simp [Builtin.append_, run_underlying hE.ht, sizeOf, typeInfo, hi, Builtin.lenOf, hcap, Builtin.firstCells, storeCells]
  · obtain ⟨v', w', hrun, hown', hg, _, hob⟩ := run_append_own_at (P := P) w base t ty e i z size bytes hE.ht hi hz hs hb hE.hzs hE.pos v n xs hown ad m c news hr.1
      (by
        intro j u hu
        rcases Nat.eq_zero_or_pos m with h | h
        · have := hr.1; rw [h] at this; simp at this; subst this; simp at hu
        · obtain ⟨ad', e, _, hc⟩ := hr.2 h
          injection e with e; subst e; exact hc j u hu) h1 (by simp only [maxLen]; omega) hbytes hbase
    obtain ⟨A', c', rfl⟩ := own_form hown'
    exact ⟨A', c', w', hrun, hown', fun B w0 hB h0 => h0.grown hg (by omega) (fun k hk => by have := (hown.lt k hk.symm.symm).1; omega), hg⟩
theorem wpList_copy {ops : Array Oper} {rest : List Oper} {Q : Exit → Act → World → Prop} (hgd : o.guard = none) (s x : Operand)
    (ho : o.op = .call { callee := .builtin .append, args := #[s, x], argTypes := #[t, t] }) (hE : El P t e z size bytes) (hown : w.ownsRow base e size v n xs) (hbase : base ≤ w.heap.size) (hs : a.eval s = v)
    (news : List Value) {A : Option Addr} {B c : Nat} (hx : a.eval x = .slice A m c) (hr : Reads w B size A m news) (h1 : ∀ u ∈ news, u.oneCell' = true) (h63 : n + m ≤ 4294967296) (hby : bytes ≤ 32768)
    (h : ∀ A' c' w', w'.ownsRow base e size (.slice A' (n + m) c') (n + m) (xs ++ news) → (∀ B w0, B ≤ base → Below B w0 w → Below B w0 w') → w.grownBy w' v.ownBlock → wpList P ops Q rest (a.put o.dst (.slice A' (n + m) c')) w') :
    wpList P ops Q (o :: rest) a w :=
  wpList_plain hgd fun _ hK => by
    obtain ⟨A', c', w', hrun, h2, h3, h4⟩ := run_copy (P := P) hE o.type hown hbase news hr (c := c) h1 h63 hby
    unfold Oper.wp execOp
    simp only [ho, resolve, invoke, builtin, Sem.run_bind, Sem.run_pure, Result.andThen_ok, List.map_toArray, List.map_cons, List.map_nil, hs, hx, hrun]
    exact hK _ _ (h A' c' w' h2 h3 h4)
theorem wpList_copy0 {ops : Array Oper} {rest : List Oper} {Q : Exit → Act → World → Prop} (hgd : o.guard = none) (s x : Operand)
    (ho : o.op = .call { callee := .builtin .append, args := #[s, x], argTypes := #[t, t] }) (hE : El P t e z size bytes) (hown : w.ownsRow base e size v 0 []) (hbase : base ≤ w.heap.size) (hs : a.eval s = v)
    (news : List Value) {A : Option Addr} {B c : Nat} (hx : a.eval x = .slice A m c) (hr : Reads w B size A m news) (h1 : ∀ u ∈ news, u.oneCell' = true) (h63 : m ≤ 4294967296) (hby : bytes ≤ 32768)
    (h : ∀ A' c' w', w'.ownsRow base e size (.slice A' m c') m news → (∀ B w0, B ≤ base → Below B w0 w → Below B w0 w') → w.grownBy w' v.ownBlock → wpList P ops Q rest (a.put o.dst (.slice A' m c')) w') :
    wpList P ops Q (o :: rest) a w :=
  wpList_copy hgd s x ho hE hown hbase hs news hx hr h1 (by omega) hby fun A' c' w' h1 h2 h3 => by
    rw [Nat.zero_add] at h1 ⊢
    exact h A' c' w' (by simpa using h1) h2 h3
/-- append(E{}, l...): the literal and the append in one. -/
theorem wpList_copyE {ops : Array Oper} {rest : List Oper} {Q : Exit → Act → World → Prop} (hgd : o.guard = none) (s x : Operand)
    (ho : o.op = .call { callee := .builtin .append, args := #[s, x], argTypes := #[t, t] }) (hE : El P t e z size bytes) (hs : a.eval s = .slice (some ⟨w.heap.size, 0, none⟩) 0 0)
    (news : List Value) {A : Option Addr} {B c : Nat} (hx : a.eval x = .slice A m c) (hr : Reads w B size A m news) (hB : B ≤ w.heap.size) (h1 : ∀ u ∈ news, u.oneCell' = true) (h63 : m ≤ 4294967296) (hby : bytes ≤ 32768)
    (h : ∀ A' c' w', w'.ownsRow w.heap.size e size (.slice A' m c') m news → Below w.heap.size w w' → wpList P ops Q rest (a.put o.dst (.slice A' m c')) w') :
    wpList P ops Q (o :: rest) a (w.alloc (.cells #[] e)) :=
  wpList_copy0 hgd s x ho hE (World.ownsRow_lit w #[] 0 (Nat.le_refl _) (by simp) (by simp)) (by simp) hs news hx (hr.alloc hB (.cells #[] e)) h1 h63 hby fun A' c' w' h2 h3 _ => h A' c' w' h2 (h3 _ _ (Nat.le_refl _) ((Below.refl _ _).alloc (Nat.le_refl _) _))
end
end Go.Proofs.Ytbopeofglhkffaa
namespace Go.Proofs.Ytbopeofglhkffaa
open Go.RowKit
section
variable {P : Program}
theorem run_load_at (w : World) (p : Addr) (ty : TypeId) (cs : List Value) (d : TypeDesc) (hc : ∀ j v, cs[j]? = some v → w.cell? (p.add j) = some v)
    (hu : P.underlying ty = some d) (hd : d.isRow = true) (hi : (P.info? ty).map (·.size) = some cs.length) :
    (Instr.loadAt ty (.pointer (some p))).run P w = .ok (.agg cs.toArray) w := by
  have hl : (loadCells p cs.length).run P w = .ok cs.toArray w := run_loadCells_list (P := P) w p cs hc
  obtain ⟨i, hq, hs⟩ : ∃ i, P.info? ty = some i ∧ i.size = cs.length := by
    cases hq : P.info? ty with
    | none => rw [hq] at hi; cases hi
    | some i => rw [hq] at hi; exact ⟨i, rfl, by injection hi⟩
  have ha : (isAgg ty).run P w = .ok true w := by
    unfold isAgg
    rw [Sem.run_bind, run_underlying hu w]
    cases d <;> first | rfl | (cases hd)
  simp only [Instr.loadAt, Instr.sureAddr, loadVar, sizeOf, typeInfo, Sem.run_bind, Sem.run_pure, Result.andThen_ok, ha, if_true]
  simp [hq, hs, hl]
theorem wpList_load_at {ops : Array Oper} {rest : List Oper} {op : Oper} {a : Act} {w : World} {Q : Exit → Act → World → Prop} (hgd : op.guard = none) (ty : TypeId) (x : Operand) (ho : op.op = .load ty x)
    (p : Addr) (hx : a.eval x = .pointer (some p)) (cs : List Value) (d : TypeDesc) (hc : ∀ j v, cs[j]? = some v → w.cell? (p.add j) = some v)
    (hu : P.underlying ty = some d) (hd : d.isRow = true) (hi : (P.info? ty).map (·.size) = some cs.length)
    (h : wpList P ops Q rest (a.put op.dst (.agg cs.toArray)) w) : wpList P ops Q (op :: rest) a w := by
  refine wpList_plain hgd fun K hK => ?_
  unfold Oper.wp execOp
  simp only [ho, hx, Sem.run_bind, run_load_at w p ty cs d hc hu hd hi, Result.andThen_ok, Sem.run_pure]
  exact hK _ _ h
/-- A struct is stored whole into the block that was made last. -/
theorem wpList_store_new {ops : Array Oper} {rest : List Oper} {o : Oper} {a : Act} {w : World} {Q : Exit → Act → World → Prop} (hgd : o.guard = none) (ty : TypeId) (x y : Operand) (ho : o.op = .store ty x y)
    (g : Nat) (hgw : g = w.heap.size) (cells : Array Value) (hx : a.eval x = .pointer (some ⟨g, 0, none⟩)) (hy : a.eval y = .agg cells)
    (t : TypeId) (old : Array Value) (hi : (P.info? ty).map (·.size) = some cells.size) (hold : old.size = cells.size) (h1 : cells.all (·.oneCell') = true)
    (h : wpList P ops Q rest (a.put o.dst undef) (w.alloc (.cells cells t))) : wpList P ops Q (o :: rest) a (w.alloc (.cells old t)) := by
  subst hgw
  refine wpList_store_row hgd ty x y ho _ cells hx hy t old (heap_alloc_new w _) hi hold h1 ?_
  rw [World.setRow_alloc_new]
  exact h
theorem Sty.one (s : Sty) {A : Option Addr} {n c : Nat} (h : s.uv = .slice A n c) : (styCells s).toArray.all (·.oneCell') = true := by
  simp [styCells, Value.oneCell', h]
theorem Nd.one (x : Nd) {A : Option Addr} {n c : Nat} (h : x.s.uv = .slice A n c) : (ndCells x).toArray.all (·.oneCell') = true := by
  simp [ndCells, styCells, Value.oneCell', h]
end
end Go.Proofs.Ytbopeofglhkffaa
namespace Go.Proofs.Ytbopeofglhkffaa
open Go.RowKit
attribute [local go_sem] block_of_add
set_option maxRecDepth 100000 in
set_option maxHeartbeats 1000000 in
theorem frame_any (s : Sty) (w : World) (hs : StyB s) :
    Calls Try.prog 30 #[.agg (styCells s).toArray] w fun e w' => (∃ d : Int, e = .returned (.tuple #[.int .i64 (frameF s), .int .i64 d])) ∧ w.alloc (.cells (styCells s).toArray 52) = w' := by
  have h1 : IntKind.i64.wrap (s.b3 + s.b1) = s.b3 + s.b1 := IntWalk.i64_in _ (by have := hs.b1; have := hs.b3; omega)
  have h2 : IntKind.i64.wrap (s.b3 + s.b1 + s.p3) = s.b3 + s.b1 + s.p3 := IntWalk.i64_in _ (by have := hs.b1; have := hs.b3; have := hs.p3; omega)
  have h3 : IntKind.i64.wrap (s.b3 + s.b1 + s.p3 + s.p1) = s.b3 + s.b1 + s.p3 + s.p1 := IntWalk.i64_in _ (by have := hs.b1; have := hs.b3; have := hs.p3; have := hs.p1; omega)
  have y24 : (styCells s)[24]'(by rw [sty_len]; omega) = .int .i64 s.b0 := rfl
  have y25 : (styCells s)[25]'(by rw [sty_len]; omega) = .int .i64 s.b1 := rfl
  have y26 : (styCells s)[26]'(by rw [sty_len]; omega) = .int .i64 s.b2 := rfl
  have y27 : (styCells s)[27]'(by rw [sty_len]; omega) = .int .i64 s.b3 := rfl
  have y28 : (styCells s)[28]'(by rw [sty_len]; omega) = .int .i64 s.p0 := rfl
  have y29 : (styCells s)[29]'(by rw [sty_len]; omega) = .int .i64 s.p1 := rfl
  have y30 : (styCells s)[30]'(by rw [sty_len]; omega) = .int .i64 s.p2 := rfl
  have y31 : (styCells s)[31]'(by rw [sty_len]; omega) = .int .i64 s.p3 := rfl
  have z := sty_size s
  go_enter Try.func30, Try.ntmps30
  go_wp2_with fail
  go_ret2
  exact ⟨⟨_, rfl⟩, rfl⟩
set_option maxRecDepth 100000 in
set_option maxHeartbeats 1000000 in
theorem rframe_any (s : Sty) (w : World) (hs : StyB s) :
    Calls Try.prog 14 #[.agg (styCells s).toArray] w fun e w' => (∃ d : Int, e = .returned (.tuple #[.int .i64 (frameF s), .int .i64 d])) ∧ Below w.heap.size w w' := by
  have h1 : IntKind.i64.wrap (s.b3 + s.p3) = s.b3 + s.p3 := IntWalk.i64_in _ (by have := hs.p3; have := hs.b3; omega)
  have h2 : IntKind.i64.wrap (s.b3 + s.p3 + s.b1) = s.b3 + s.p3 + s.b1 := IntWalk.i64_in _ (by have := hs.b1; have := hs.b3; have := hs.p3; omega)
  have h3 : IntKind.i64.wrap (s.b3 + s.p3 + s.b1 + s.p1) = s.b3 + s.p3 + s.b1 + s.p1 := IntWalk.i64_in _ (by have := hs.b1; have := hs.b3; have := hs.p3; have := hs.p1; omega)
  have HF : Hid (s.b3 + s.p3 + s.b1 + s.p1 = frameF s) := Lib.hid (by unfold frameF; omega)
  have y24 : (styCells s)[24]'(by rw [sty_len]; omega) = .int .i64 s.b0 := rfl
  have y25 : (styCells s)[25]'(by rw [sty_len]; omega) = .int .i64 s.b1 := rfl
  have y26 : (styCells s)[26]'(by rw [sty_len]; omega) = .int .i64 s.b2 := rfl
  have y27 : (styCells s)[27]'(by rw [sty_len]; omega) = .int .i64 s.b3 := rfl
  have y28 : (styCells s)[28]'(by rw [sty_len]; omega) = .int .i64 s.p0 := rfl
  have y29 : (styCells s)[29]'(by rw [sty_len]; omega) = .int .i64 s.p1 := rfl
  have y30 : (styCells s)[30]'(by rw [sty_len]; omega) = .int .i64 s.p2 := rfl
  have y31 : (styCells s)[31]'(by rw [sty_len]; omega) = .int .i64 s.p3 := rfl
  have z := sty_size s
  have HB : Hid (Below w.heap.size w (w.alloc (.cells (styCells s).toArray 52))) := Lib.hid ((Below.refl _ _).alloc (Nat.le_refl _) _)
  go_enter Try.func14, Try.ntmps14
  go_wp2_with fail
  go_quiet (fail)
  go_wp2_with fail
  go_ret2
  exact ⟨⟨_, by rw [HF.out]; rfl⟩, below_dr HB.out _⟩
theorem bare_any (k n : Int) (w : World) :
    Calls Try.prog 81 #[.agg #[.int .u8 k, .int .i64 n]] w fun e w' => e = .returned (.int .i64 (bareF ⟨k, n⟩)) ∧ w.alloc (.cells #[.int .u8 k, .int .i64 n] 47) = w' := by
  by_cases h : k = 1
  · have e1 : (k == 1) = true := beq_iff_eq.2 h
    have HF : Hid (bareF ⟨k, n⟩ = n) := Lib.hid (by unfold bareF; rw [if_pos h])
    clear h
    go_enter Try.func81, Try.ntmps81
    go_wp2_with fail
    go_ret
    exact ⟨by rw [HF.out]; rfl, rfl⟩
  · have e1 : (k == 1) = false := beq_eq_false_iff_ne.2 h
    have HF : Hid (bareF ⟨k, n⟩ = 0) := Lib.hid (by unfold bareF; rw [if_neg h])
    clear h
    go_enter Try.func81, Try.ntmps81
    go_wp2_with fail
    go_ret
    exact ⟨by rw [HF.out]; rfl, rfl⟩
theorem mostF_succ (l : List Int) (k : Nat) (h : k < l.length) : mostF (l.take (k + 1)) = max (mostF (l.take k)) l[k] := by
  unfold mostF; rw [List.take_add_one, List.getElem?_eq_getElem h, List.foldl_append]; rfl
set_option maxHeartbeats 1000000 in
theorem most_any (l : List Int) (A : Option Addr) (c : Nat) (w : World) (hn : l.length ≤ 4294967296) (hr : Reads w w.heap.size 1 A l.length (i64s l)) :
    Calls Try.prog 69 #[.slice A l.length c] w fun e w' => e = .returned (.slice (some ⟨w.heap.size, 0, none⟩) 1 1) ∧ w.alloc (.cells #[.int .i64 (mostF l)] 2) = w' := by
  go_enter Try.func69, Try.ntmps69
  go_wp2_with fail
  go_loopw [3, 8] (fun mv iv wr => ∃ (k : Nat) (m : Int), k ≤ l.length ∧ mv = .int .i64 m ∧ iv = .int .i64 k ∧ m = mostF (l.take k) ∧ w = wr) (fun _ iv _ => l.length - (intOf iv).toNat)
  case atStart => exact ⟨0, 0, by omega, rfl, rfl, rfl, rfl⟩
  case round =>
    obtain ⟨k, m, hk, rfl, rfl, hm, rfl⟩ := hrel
    have HM := Lib.hid hm
    clear hm
    by_cases hlt : k < l.length
    · have hwk : IntKind.i64.wrap ((k : Int) + 1) = (k : Int) + 1 := IntWalk.i64_in _ ⟨by omega, by omega⟩
      have d0 : decide ((k : Int) < (l.length : Int)) = true := decide_eq_true (by omega)
      have d0' : decide (k < l.length) = true := decide_eq_true hlt
      obtain ⟨ad, u, rfl, hab, hx, hc⟩ := hr.at_ hlt
      have hu : u = .int .i64 l[k] := by simpa [i64s, hlt] using hx.symm
      subst hu
      have HS := Lib.hid (mostF_succ l k hlt)
      clear hx hr
      go_wp2_with fail
      go_roundw
      case rel => exact ⟨k + 1, max m l[k], by omega, by congr 1; split <;> omega, by go_num, by rw [HS.out, HM.out], trivial⟩
      case measure => simp [intOf]; omega
    · have d0 : decide ((k : Int) < (l.length : Int)) = false := decide_eq_false (by omega)
      have d0' : decide (k < l.length) = false := decide_eq_false hlt
      have HL : Hid (m = mostF l) := Lib.hid (by rw [HM.out, List.take_of_length_le (by omega)])
      clear hr
      go_wp2_with fail
      go_ret
      exact ⟨rfl, by rw [HL.out]⟩
theorem el_i64c : El Try.prog 23 2 (.int .i64 0) 1 8 := ⟨Try.underlying23, by kernel_rfl, rfl, by decide⟩
theorem i64s_one (l : List Int) : ∀ u ∈ i64s l, u.oneCell' = true := by
  intro u hu; unfold i64s at hu; rw [List.mem_map] at hu; obtain ⟨x, _, rfl⟩ := hu; rfl
theorem sl_some (ad : Addr) (n c : Nat) (w : World) : Sem.run Try.prog (binOp BinOp.eql 23 (.slice (some ad) n c) (.slice none 0 0)) w = .ok (.bool false) w := by kernel_rfl
theorem sl_nil (w : World) : Sem.run Try.prog (binOp BinOp.eql 23 (.slice none 0 0) (.slice none 0 0)) w = .ok (.bool true) w := by kernel_rfl
structure CloneAns (l : List Int) (w w' : World) (e : Ending) : Prop where
  ex : ∃ A c, e = .returned (.slice A l.length c) ∧ w'.ownsRow w.heap.size 2 1 (.slice A l.length c) l.length (i64s l)
  b : Below w.heap.size w w'
set_option maxRecDepth 100000 in
set_option maxHeartbeats 1000000 in
theorem clone_any (l : List Int) (ad : Addr) (c : Nat) (w : World) (hn : l.length ≤ 1000000) (hr : Reads w w.heap.size 1 (some ad) l.length (i64s l)) :
    Calls Try.prog 80 #[.slice (some ad) l.length c] w fun e w' => CloneAns l w w' e := by
  have hns := fun w => sl_some ad l.length c w
  go_enter Try.func80, Try.ntmps80
  go_wp2_with (at_builtin; refine wpList_copyE rfl _ _ rfl el_i64c rfl (i64s l) rfl hr (Nat.le_refl _) (i64s_one l) (by omega) (by omega) ?_; intro A1 c1 w1 hown1 hb1)
  go_ret
  exact ⟨⟨_, _, rfl, hown1⟩, hb1⟩
end Go.Proofs.Ytbopeofglhkffaa
namespace Go.Proofs.Ytbopeofglhkffaa
open Go.RowKit
attribute [local go_sem] block_of_add
/-- A length's number and whether it says one, in a containing width. -/
def resF (l : Ln) (c : Int) : Int × Bool := if l.k = 2 then (c * l.n / 10000, true) else if l.k = 1 then (l.n, true) else (0, false)
def clampF (s : Sty) (c w : Int) : Int :=
  let m := if (resF s.maxw c).2 then min w (resF s.maxw c).1 else w
  let l := if (resF s.minw c).2 then max m (resF s.minw c).1 else m
  max l 0
structure LnM (l : Ln) : Prop where
  b : -1099511627776 ≤ l.n ∧ l.n ≤ 1099511627776
  p : l.k = 2 → -100000 ≤ l.n ∧ l.n ≤ 100000
structure CB (c : Int) : Prop where
  b : 0 ≤ c ∧ c ≤ 1099511627776
theorem res_bd {l : Ln} {c : Int} (h : LnM l) (hc : CB c) : -10995116277760 ≤ (resF l c).1 ∧ (resF l c).1 ≤ 10995116277760 := by
  have hb := h.b
  have hcb := hc.b
  unfold resF
  split
  · rename_i hk
    have hp := h.p hk
    have h1 : c * l.n ≤ 1099511627776 * 100000 := by
      rcases Int.le_total 0 l.n with h0 | h0
      · exact Int.mul_le_mul hcb.2 hp.2 h0 (by decide)
      · exact Int.le_trans (Int.mul_nonpos_of_nonneg_of_nonpos hcb.1 h0) (by decide)
    have h2 : -(1099511627776 * 100000) ≤ c * l.n := by
      rcases Int.le_total 0 l.n with h0 | h0
      · exact Int.le_trans (by decide) (Int.mul_nonneg hcb.1 h0)
      · have := Int.mul_le_mul hcb.2 (show -l.n ≤ 100000 by omega) (by omega) (by decide)
        rw [Int.mul_neg] at this; omega
    show -10995116277760 ≤ c * l.n / 10000 ∧ c * l.n / 10000 ≤ 10995116277760
    omega
  · split
    · show -10995116277760 ≤ l.n ∧ l.n ≤ 10995116277760
      omega
    · show -10995116277760 ≤ (0 : Int) ∧ (0 : Int) ≤ 10995116277760
      omega
theorem part_floor (q r n Q R : Int) (hQ : Q = q * n) (hR : R = r * n) : (10000 * q + r) * n / 10000 = Q + R / 10000 := by
  rw [Int.add_mul, Int.mul_assoc, ← hQ, ← hR]; omega
theorem tdiv_pos (R : Int) (h : 0 ≤ R) : R.tdiv 10000 = R / 10000 ∧ R.tmod 10000 = R % 10000 := ⟨Int.tdiv_eq_ediv_of_nonneg h, Int.tmod_eq_emod_of_nonneg h⟩
theorem tdiv_neg' (R : Int) (h : R < 0) : R.tdiv 10000 = -((-R) / 10000) ∧ R.tmod 10000 = -((-R) % 10000) := by
  obtain ⟨m, rfl⟩ : ∃ m, R = -m := ⟨-R, by omega⟩
  rw [Int.neg_tdiv, Int.neg_tmod, Int.neg_neg, Int.tdiv_eq_ediv_of_nonneg (by omega), Int.tmod_eq_emod_of_nonneg (by omega)]
  exact ⟨rfl, rfl⟩
theorem quo_floor (R T M : Int) (hT : R.tdiv 10000 = T) (hM : R.tmod 10000 = M) : (-20000 ≤ M ∧ M ≤ 20000 ∧ (0 ≤ R → 0 ≤ T ∧ T ≤ R) ∧ (R < 0 → R ≤ T ∧ T ≤ 0)) ∧ (M < 0 → T - 1 = R / 10000) ∧ (¬ M < 0 → T = R / 10000) := by
  rcases Int.lt_or_le R 0 with h | h
  · obtain ⟨t1, t2⟩ := tdiv_neg' R h
    omega
  · obtain ⟨t1, t2⟩ := tdiv_pos R h
    omega
theorem small_mul (r n : Int) (hr : 0 ≤ r ∧ r ≤ 110000000) (hn : -100000 ≤ n ∧ n ≤ 100000) : -11000000000000 ≤ r * n ∧ r * n ≤ 11000000000000 := by
  have h1 : (r * n).natAbs ≤ 110000000 * 100000 := by rw [Int.natAbs_mul]; exact Nat.mul_le_mul (by omega) (by omega)
  omega
set_option maxRecDepth 100000 in
theorem part_any (c n : Int) (w : World) (hc : CB c) (hn : -100000 ≤ n ∧ n ≤ 100000) :
    Calls Try.prog 54 #[.int .i64 c, .int .i64 n] w fun e w' => e = .returned (.int .i64 (c * n / 10000)) ∧ w = w' := by
  have hcb := hc.b
  obtain ⟨q, hq⟩ : ∃ q, q = c.tdiv 10000 := ⟨_, rfl⟩
  obtain ⟨r, hr⟩ : ∃ r, r = c.tmod 10000 := ⟨_, rfl⟩
  have hq2 : q = c / 10000 := by rw [hq, Int.tdiv_eq_ediv_of_nonneg hcb.1]
  have hr2 : r = c % 10000 := by rw [hr, Int.tmod_eq_emod_of_nonneg hcb.1]
  obtain ⟨Q, hQ⟩ : ∃ Q, Q = q * n := ⟨_, rfl⟩
  obtain ⟨R, hR⟩ : ∃ R, R = r * n := ⟨_, rfl⟩
  have bQ := small_mul q n (by omega) hn
  have bR := small_mul r n (by omega) hn
  rw [← hQ] at bQ
  rw [← hR] at bR
  have E := part_floor q r n Q R hQ hR
  rw [show 10000 * q + r = c by omega] at E
  have HE := Lib.hid E
  have w1 : IntKind.i64.wrap (r * n) = R := by rw [← hR]; exact IntWalk.i64_in _ ⟨by omega, by omega⟩
  have w2 : IntKind.i64.wrap (q * n) = Q := by rw [← hQ]; exact IntWalk.i64_in _ ⟨by omega, by omega⟩
  have hq' := hq.symm
  have hr' := hr.symm
  have bq : 0 ≤ q ∧ q ≤ 110000000 := by omega
  have br : 0 ≤ r ∧ r ≤ 10000 := by omega
  clear hq hr hq2 hr2 hQ hR E hcb hc hn
  obtain ⟨T, hT⟩ : ∃ T, R.tdiv 10000 = T := ⟨_, rfl⟩
  obtain ⟨M, hM⟩ : ∃ M, R.tmod 10000 = M := ⟨_, rfl⟩
  obtain ⟨f1, f2, f3⟩ := quo_floor R T M hT hM
  have wT : IntKind.i64.wrap T = T := IntWalk.i64_in _ ⟨by omega, by omega⟩
  have wM : IntKind.i64.wrap M = M := IntWalk.i64_in _ ⟨by omega, by omega⟩
  have wq : IntKind.i64.wrap q = q := IntWalk.i64_in _ ⟨by omega, by omega⟩
  have wr : IntKind.i64.wrap r = r := IntWalk.i64_in _ ⟨by omega, by omega⟩
  have w3 : IntKind.i64.wrap (Q + T) = Q + T := IntWalk.i64_in _ ⟨by omega, by omega⟩
  have w4 : IntKind.i64.wrap (Q + T - 1) = Q + T - 1 := IntWalk.i64_in _ ⟨by omega, by omega⟩
  cases e1 : decide (M < 0)
  · have F : Hid (Q + T = Q + R / 10000) := Lib.hid (by have := f3 (of_decide_eq_false e1); omega)
    clear f1 f2 f3 bQ bR bq br
    go_enter Try.func54, Try.ntmps54
    go_wp2_with fail
    go_ret
    exact ⟨by rw [HE.out, ← F.out]; rfl, rfl⟩
  · have F : Hid (Q + T - 1 = Q + R / 10000) := Lib.hid (by have := f2 (of_decide_eq_true e1); omega)
    clear f1 f2 f3 bQ bR bq br
    go_enter Try.func54, Try.ntmps54
    go_wp2_with fail
    go_ret
    exact ⟨by rw [HE.out, ← F.out]; rfl, rfl⟩
set_option maxRecDepth 100000 in
theorem resolve_any (k n c : Int) (w : World) (hl : LnM ⟨k, n⟩) (hc : CB c) :
    Calls Try.prog 29 #[.agg #[.int .u8 k, .int .i64 n], .int .i64 c] w fun e w' => e = .returned (.tuple #[.int .i64 (resF ⟨k, n⟩ c).1, .bool (resF ⟨k, n⟩ c).2]) ∧ w.alloc (.cells #[.int .u8 k, .int .i64 n] 47) = w' := by
  have hmx : max c 0 = c := by have := hc.b; omega
  have hm2 : decide (c < 0) = false := decide_eq_false (by have := hc.b; omega)
  have hm3 : (if 0 ≤ c then c else 0) = c := if_pos hc.b.1
  by_cases h2 : k = 2
  · have e2 : (k == 2) = true := beq_iff_eq.2 h2
    have e1 : (k == 1) = false := by subst h2; rfl
    have HE : Hid (resF ⟨k, n⟩ c = (c * n / 10000, true)) := Lib.hid (if_pos h2)
    have HP := Lib.hid (hl.p h2)
    have HC := Lib.hid hc
    clear h2 hl hc
    go_enter Try.func29, Try.ntmps29
    go_wp2_with (go_at_call 54; refine (part_any c n _ HC.out HP.out).mono ?_; rintro e w' ⟨rfl, rfl⟩)
    go_ret2
    rw [HE.out]
    exact ⟨rfl, rfl⟩
  · have e2 : (k == 2) = false := beq_eq_false_iff_ne.2 h2
    by_cases h1 : k = 1
    · have e1 : (k == 1) = true := beq_iff_eq.2 h1
      have HE : Hid (resF ⟨k, n⟩ c = (n, true)) := Lib.hid (by unfold resF; rw [if_neg h2, if_pos h1])
      clear h2 h1 hl hc
      go_enter Try.func29, Try.ntmps29
      go_wp2_with fail
      go_ret2
      rw [HE.out]
      exact ⟨rfl, rfl⟩
    · have e1 : (k == 1) = false := beq_eq_false_iff_ne.2 h1
      have HE : Hid (resF ⟨k, n⟩ c = (0, false)) := Lib.hid (by unfold resF; rw [if_neg h2, if_neg h1])
      clear h2 h1 hl hc
      go_enter Try.func29, Try.ntmps29
      go_wp2_with fail
      go_ret2
      rw [HE.out]
      exact ⟨rfl, rfl⟩
set_option maxRecDepth 100000 in
set_option maxHeartbeats 800000 in
theorem clamp_any (s : Sty) (c v : Int) (w : World) (h1 : LnM s.maxw) (h2 : LnM s.minw) (hc : CB c) :
    Calls Try.prog 31 #[.agg (styCells s).toArray, .int .i64 c, .int .i64 v] w fun e w' => e = .returned (.int .i64 (clampF s c v)) ∧ ((w.alloc (.cells (styCells s).toArray 52)).alloc (.cells #[.int .u8 s.maxw.k, .int .i64 s.maxw.n] 47)).alloc (.cells #[.int .u8 s.minw.k, .int .i64 s.minw.n] 47) = w' := by
  have y8 : (styCells s)[8]'(by rw [sty_len]; omega) = .int .u8 s.minw.k := rfl
  have y9 : (styCells s)[9]'(by rw [sty_len]; omega) = .int .i64 s.minw.n := rfl
  have y10 : (styCells s)[10]'(by rw [sty_len]; omega) = .int .u8 s.maxw.k := rfl
  have y11 : (styCells s)[11]'(by rw [sty_len]; omega) = .int .i64 s.maxw.n := rfl
  have z := sty_size s
  have R1 := Lib.hid (fun W => resolve_any s.maxw.k s.maxw.n c W h1 hc)
  have R2 := Lib.hid (fun W => resolve_any s.minw.k s.minw.n c W h2 hc)
  obtain ⟨m, hm⟩ : ∃ m, m = (resF s.maxw c).1 := ⟨_, rfl⟩
  obtain ⟨b, hb⟩ : ∃ b, b = (resF s.maxw c).2 := ⟨_, rfl⟩
  obtain ⟨m2, hm2⟩ : ∃ m, m = (resF s.minw c).1 := ⟨_, rfl⟩
  obtain ⟨b2, hb2⟩ : ∃ b, b = (resF s.minw c).2 := ⟨_, rfl⟩
  have e0 : (⟨s.maxw.k, s.maxw.n⟩ : Ln) = s.maxw := rfl
  have e1 : (⟨s.minw.k, s.minw.n⟩ : Ln) = s.minw := rfl
  rw [e0, ← hm, ← hb] at R1
  rw [e1, ← hm2, ← hb2] at R2
  have HF : Hid (clampF s c v = max (if b2 then max (if b then min v m else v) m2 else (if b then min v m else v)) 0) := Lib.hid (by unfold clampF; rw [hm, hb, hm2, hb2])
  clear hm hb hm2 hb2 e0 e1 h1 h2 hc
  rw [HF.out]
  clear HF
  cases b <;> cases b2
  all_goals
    go_enter Try.func31, Try.ntmps31
    go_upto_region 2 with (go_at_call 29; refine (R1.out _).mono ?_; rintro e w' ⟨rfl, rfl⟩)
    go_wp2_with (go_at_call 29; refine (R2.out _).mono ?_; rintro e w' ⟨rfl, rfl⟩)
  all_goals
    go_ret
    refine ⟨?_, rfl⟩
    show Ending.returned (.int .i64 _) = _
    congr 2
    try simp only [if_true, if_false, Bool.false_eq_true]
    try (repeat' split)
    all_goals (try omega)
end Go.Proofs.Ytbopeofglhkffaa
