/- Great literals in a walk: the value is named. -/
import Derived.Test.YtjhfcpadnofdnaaGreatPsa
import Derived.Laws.StructEq
import Derived.Test.YtjhfcpadnofdnaaGreatBase
import Derived.Deep.MidRow
set_option linter.unusedSimpArgs false
set_option linter.unusedVariables false
namespace Go.Proofs.YtjhfcpadnofdnaaGreat
open Go.RowKit
def eqElemsA (d : Nat) (e : TypeId) (n : Nat) (xs ys : Array Value) : List Nat → Sem Bool
  | [] => pure true
  | i :: r => do
    let a ← Go.part e xs (i * n)
    let b ← Go.part e ys (i * n)
    let q ← Op.equalIn d e a b
    if (!q) = true then pure false else eqElemsA d e n xs ys r
section
variable {P : Program} {w : World}
theorem run_equalIn_arr (d : Nat) (t e : TypeId) (len n : Nat) (xs ys : Array Value) (ht : P.underlying t = some (.array len e)) (hn : (sizeOf e).run P w = .ok n w) :
    (Op.equalIn (d + 1) t (.agg xs) (.agg ys)).run P w = (eqElemsA d e n xs ys (List.range' 0 len 1)).run P w := by
  simp only [Op.equalIn, Sem.run_bind, run_underlying ht, Result.andThen_ok, hn, Std.Legacy.Range.forIn_eq_forIn_range', Std.Legacy.Range.size, Nat.sub_zero, Nat.add_sub_cancel, Nat.div_one]
  clear ht hn
  generalize List.range' 0 len 1 = l
  induction l generalizing w with
  | nil => simp [eqElemsA]
  | cons i l ih =>
    simp only [List.forIn_cons, eqElemsA, Sem.run_bind, Sem.run_ite]
    generalize (Go.part e xs (i * n)).run P w = r1
    cases r1 with
    | ok a w1 =>
      simp only [Result.andThen_ok]
      generalize (Go.part e ys (i * n)).run P w1 = r2
      cases r2 with
      | ok b w2 =>
        simp only [Result.andThen_ok]
        generalize (Op.equalIn d e a b).run P w2 = r3
        cases r3 with
        | ok r w3 =>
          cases r
          · simp only [Result.andThen_ok, Bool.not_false, if_true, Sem.run_pure]
          · simp only [Result.andThen_ok, Bool.not_true, Bool.false_eq_true, if_false, Sem.run_pure]
            exact ih
        | halt x w3 => simp [Result.andThen]
      | halt x w2 => simp [Result.andThen]
    | halt x w1 => simp [Result.andThen]
theorem eqElems_nil {d e n xs ys} : (eqElemsA d e n xs ys []).run P w = .ok true w := rfl
theorem eqElems_cons {d : Nat} {e : TypeId} {n i : Nat} {xs ys : Array Value} {l : List Nat} {a b : Value} {r r' : Bool} (hx : (Go.part e xs (i * n)).run P w = .ok a w) (hy : (Go.part e ys (i * n)).run P w = .ok b w) (he : (Op.equalIn d e a b).run P w = .ok r w) (ht : (eqElemsA d e n xs ys l).run P w = .ok r' w) :
    (eqElemsA d e n xs ys (i :: l)).run P w = .ok (r && r') w := by
  simp only [eqElemsA, Sem.run_bind, hx, hy, he, Result.andThen_ok, Sem.run_ite]
  cases r
  · simp [Sem.run_pure]
  · simpa using ht
theorem eqFields_nil {d xs ys} : (Op.eqFields d xs ys []).run P w = .ok true w := rfl
theorem eqFields_cons {d : Nat} {xs ys : Array Value} {f : Field} {fs : List Field} {a b : Value} {r r' : Bool} (hn : f.name ≠ "_") (hx : (Go.part f.type xs f.offset).run P w = .ok a w) (hy : (Go.part f.type ys f.offset).run P w = .ok b w) (he : (Op.equalIn d f.type a b).run P w = .ok r w) (ht : (Op.eqFields d xs ys fs).run P w = .ok r' w) :
    (Op.eqFields d xs ys (f :: fs)).run P w = .ok (r && r') w := by
  simp only [Op.eqFields, ne_eq, hn, not_false_eq_true, if_true, Sem.run_bind, hx, hy, he, Result.andThen_ok, Sem.run_ite]
  cases r
  · simp [Sem.run_pure]
  · simpa using ht
end
theorem eqI8 (d : Nat) (a b : Int) (w : World) : (Op.equalIn (d + 1) 5 (.int .u8 a) (.int .u8 b)).run Tryz.prog w = .ok (a == b) w := run_equalIn_int w d _ _ .u8 _ _ (by kernel_rfl)
theorem eqI64 (d : Nat) (a b : Int) (w : World) : (Op.equalIn (d + 1) 2 (.int .i64 a) (.int .i64 b)).run Tryz.prog w = .ok (a == b) w := run_equalIn_int w d _ _ .i64 _ _ (by kernel_rfl)
theorem eqBo (d : Nat) (a b : Bool) (w : World) : (Op.equalIn (d + 1) 4 (.bool a) (.bool b)).run Tryz.prog w = .ok (a == b) w := run_equalIn_bool w d _ _ _ (by kernel_rfl)
theorem eqLn (d : Nat) (k n : Int) (w : World) : (Op.equalIn (d + 2) 62 (.agg #[.int .u8 k, .int .i64 n]) (.agg #[.int .u8 0, .int .i64 0])).run Tryz.prog w = .ok (k == 0 && (n == 0 && true)) w := by
  rw [run_equalIn_struct w (d + 1) _ _ _ (by kernel_rfl) (by kernel_rfl)]
  simp only [Program.fieldsOf, Tryz.underlying62]
  refine eqFields_cons (by decide) (by kernel_rfl) (by kernel_rfl) (eqI8 d k 0 w) ?_
  refine eqFields_cons (by decide) (by kernel_rfl) (by kernel_rfl) (eqI64 d n 0 w) ?_
  exact eqFields_nil
theorem eqA5 (d : Nat) (a0 a1 a2 a3 a4 : Int) (w : World) : (Op.equalIn (d + 2) 328 (.agg #[.int .u8 a0, .int .u8 a1, .int .u8 a2, .int .u8 a3, .int .u8 a4]) (.agg #[.int .u8 0, .int .u8 0, .int .u8 0, .int .u8 0, .int .u8 0])).run Tryz.prog w = .ok (a0 == 0 && (a1 == 0 && (a2 == 0 && (a3 == 0 && (a4 == 0 && true))))) w := by
  rw [run_equalIn_arr (d + 1) 328 5 5 1 _ _ (by kernel_rfl) (by kernel_rfl)]
  rw [show List.range' 0 5 1 = [0, 1, 2, 3, 4] from rfl]
  refine eqElems_cons (by kernel_rfl) (by kernel_rfl) (eqI8 d a0 0 w) ?_
  refine eqElems_cons (by kernel_rfl) (by kernel_rfl) (eqI8 d a1 0 w) ?_
  refine eqElems_cons (by kernel_rfl) (by kernel_rfl) (eqI8 d a2 0 w) ?_
  refine eqElems_cons (by kernel_rfl) (by kernel_rfl) (eqI8 d a3 0 w) ?_
  refine eqElems_cons (by kernel_rfl) (by kernel_rfl) (eqI8 d a4 0 w) ?_
  exact eqElems_nil
theorem eqA4 (d : Nat) (a0 a1 a2 a3 : Int) (w : World) : (Op.equalIn (d + 2) 64 (.agg #[.int .i64 a0, .int .i64 a1, .int .i64 a2, .int .i64 a3]) (.agg #[.int .i64 0, .int .i64 0, .int .i64 0, .int .i64 0])).run Tryz.prog w = .ok (a0 == 0 && (a1 == 0 && (a2 == 0 && (a3 == 0 && true)))) w := by
  rw [run_equalIn_arr (d + 1) 64 2 4 1 _ _ (by kernel_rfl) (by kernel_rfl)]
  rw [show List.range' 0 4 1 = [0, 1, 2, 3] from rfl]
  refine eqElems_cons (by kernel_rfl) (by kernel_rfl) (eqI64 d a0 0 w) ?_
  refine eqElems_cons (by kernel_rfl) (by kernel_rfl) (eqI64 d a1 0 w) ?_
  refine eqElems_cons (by kernel_rfl) (by kernel_rfl) (eqI64 d a2 0 w) ?_
  refine eqElems_cons (by kernel_rfl) (by kernel_rfl) (eqI64 d a3 0 w) ?_
  exact eqElems_nil
theorem eqL4 (d : Nat) (k0 k1 k2 k3 n0 n1 n2 n3 : Int) (w : World) : (Op.equalIn (d + 3) 63 (.agg #[.int .u8 k0, .int .i64 n0, .int .u8 k1, .int .i64 n1, .int .u8 k2, .int .i64 n2, .int .u8 k3, .int .i64 n3]) (.agg #[.int .u8 0, .int .i64 0, .int .u8 0, .int .i64 0, .int .u8 0, .int .i64 0, .int .u8 0, .int .i64 0])).run Tryz.prog w = .ok ((k0 == 0 && (n0 == 0 && true)) && ((k1 == 0 && (n1 == 0 && true)) && ((k2 == 0 && (n2 == 0 && true)) && ((k3 == 0 && (n3 == 0 && true)) && true)))) w := by
  rw [run_equalIn_arr (d + 2) 63 62 4 2 _ _ (by kernel_rfl) (by kernel_rfl)]
  rw [show List.range' 0 4 1 = [0, 1, 2, 3] from rfl]
  refine eqElems_cons (by kernel_rfl) (by kernel_rfl) (eqLn d k0 n0 w) ?_
  refine eqElems_cons (by kernel_rfl) (by kernel_rfl) (eqLn d k1 n1 w) ?_
  refine eqElems_cons (by kernel_rfl) (by kernel_rfl) (eqLn d k2 n2 w) ?_
  refine eqElems_cons (by kernel_rfl) (by kernel_rfl) (eqLn d k3 n3 w) ?_
  exact eqElems_nil
theorem eqL7 (d : Nat) (k0 k1 k2 k3 k4 k5 k6 n0 n1 n2 n3 n4 n5 n6 : Int) (w : World) : (Op.equalIn (d + 3) 253 (.agg #[.int .u8 k0, .int .i64 n0, .int .u8 k1, .int .i64 n1, .int .u8 k2, .int .i64 n2, .int .u8 k3, .int .i64 n3, .int .u8 k4, .int .i64 n4, .int .u8 k5, .int .i64 n5, .int .u8 k6, .int .i64 n6]) (.agg #[.int .u8 0, .int .i64 0, .int .u8 0, .int .i64 0, .int .u8 0, .int .i64 0, .int .u8 0, .int .i64 0, .int .u8 0, .int .i64 0, .int .u8 0, .int .i64 0, .int .u8 0, .int .i64 0])).run Tryz.prog w = .ok ((k0 == 0 && (n0 == 0 && true)) && ((k1 == 0 && (n1 == 0 && true)) && ((k2 == 0 && (n2 == 0 && true)) && ((k3 == 0 && (n3 == 0 && true)) && ((k4 == 0 && (n4 == 0 && true)) && ((k5 == 0 && (n5 == 0 && true)) && ((k6 == 0 && (n6 == 0 && true)) && true))))))) w := by
  rw [run_equalIn_arr (d + 2) 253 62 7 2 _ _ (by kernel_rfl) (by kernel_rfl)]
  rw [show List.range' 0 7 1 = [0, 1, 2, 3, 4, 5, 6] from rfl]
  refine eqElems_cons (by kernel_rfl) (by kernel_rfl) (eqLn d k0 n0 w) ?_
  refine eqElems_cons (by kernel_rfl) (by kernel_rfl) (eqLn d k1 n1 w) ?_
  refine eqElems_cons (by kernel_rfl) (by kernel_rfl) (eqLn d k2 n2 w) ?_
  refine eqElems_cons (by kernel_rfl) (by kernel_rfl) (eqLn d k3 n3 w) ?_
  refine eqElems_cons (by kernel_rfl) (by kernel_rfl) (eqLn d k4 n4 w) ?_
  refine eqElems_cons (by kernel_rfl) (by kernel_rfl) (eqLn d k5 n5 w) ?_
  refine eqElems_cons (by kernel_rfl) (by kernel_rfl) (eqLn d k6 n6 w) ?_
  exact eqElems_nil
attribute [local go_sem] eqA5 eqA4 eqL4 eqL7
def plL (s : Sty) : List Value := [.bool s.flow, .bool s.wrap, .int .u8 s.float, .int .u8 s.clear, .int .u8 s.align, .int .u8 s.justify, .int .u8 s.items, .int .i64 s.line, .int .i64 s.order, .int .i64 s.grow, .int .i64 s.shrink, .int .u8 s.w.k, .int .i64 s.w.n, .int .u8 s.h.k, .int .i64 s.h.n, .int .u8 s.minw.k, .int .i64 s.minw.n, .int .u8 s.maxw.k, .int .i64 s.maxw.n, .int .u8 s.minh.k, .int .i64 s.minh.n, .int .u8 s.maxh.k, .int .i64 s.maxh.n, .int .u8 s.basis.k, .int .i64 s.basis.n, .int .u8 s.m0.k, .int .i64 s.m0.n, .int .u8 s.m1.k, .int .i64 s.m1.n, .int .u8 s.m2.k, .int .i64 s.m2.n, .int .u8 s.m3.k, .int .i64 s.m3.n, .int .i64 s.b0, .int .i64 s.b1, .int .i64 s.b2, .int .i64 s.b3, .int .i64 s.p0, .int .i64 s.p1, .int .i64 s.p2, .int .i64 s.p3]
def plZ : List Value := [.bool false, .bool false, .int .u8 0, .int .u8 0, .int .u8 0, .int .u8 0, .int .u8 0, .int .i64 0, .int .i64 0, .int .i64 0, .int .i64 0, .int .u8 0, .int .i64 0, .int .u8 0, .int .i64 0, .int .u8 0, .int .i64 0, .int .u8 0, .int .i64 0, .int .u8 0, .int .i64 0, .int .u8 0, .int .i64 0, .int .u8 0, .int .i64 0, .int .u8 0, .int .i64 0, .int .u8 0, .int .i64 0, .int .u8 0, .int .i64 0, .int .u8 0, .int .i64 0, .int .i64 0, .int .i64 0, .int .i64 0, .int .i64 0, .int .i64 0, .int .i64 0, .int .i64 0, .int .i64 0]
/-- Is all of a style but its kind and units zero? -/
def stBareF (s : Sty) : Bool := (s.flow == false && (s.wrap == false && ((s.float == 0 && (s.clear == 0 && (s.align == 0 && (s.justify == 0 && (s.items == 0 && true))))) && ((s.line == 0 && (s.order == 0 && (s.grow == 0 && (s.shrink == 0 && true)))) && (((s.w.k == 0 && (s.w.n == 0 && true)) && ((s.h.k == 0 && (s.h.n == 0 && true)) && ((s.minw.k == 0 && (s.minw.n == 0 && true)) && ((s.maxw.k == 0 && (s.maxw.n == 0 && true)) && ((s.minh.k == 0 && (s.minh.n == 0 && true)) && ((s.maxh.k == 0 && (s.maxh.n == 0 && true)) && ((s.basis.k == 0 && (s.basis.n == 0 && true)) && true))))))) && (((s.m0.k == 0 && (s.m0.n == 0 && true)) && ((s.m1.k == 0 && (s.m1.n == 0 && true)) && ((s.m2.k == 0 && (s.m2.n == 0 && true)) && ((s.m3.k == 0 && (s.m3.n == 0 && true)) && true)))) && ((s.b0 == 0 && (s.b1 == 0 && (s.b2 == 0 && (s.b3 == 0 && true)))) && ((s.p0 == 0 && (s.p1 == 0 && (s.p2 == 0 && (s.p3 == 0 && true)))) && true))))))))
set_option maxRecDepth 100000 in
theorem eqPl (s : Sty) (w : World) : (Op.equalIn 10000 330 (.agg (plL s).toArray) (.agg plZ.toArray)).run Tryz.prog w = .ok (stBareF s) w := by
  rw [show (10000 : Nat) = 9999 + 1 from rfl, run_equalIn_struct w 9999 _ _ _ (by kernel_rfl) (by kernel_rfl)]
  simp only [Program.fieldsOf, Tryz.underlying330]
  unfold stBareF plL plZ
  refine eqFields_cons (by decide) (by kernel_rfl) (by kernel_rfl) (eqBo 9998 s.flow false w) ?_
  refine eqFields_cons (by decide) (by kernel_rfl) (by kernel_rfl) (eqBo 9998 s.wrap false w) ?_
  refine eqFields_cons (by decide) (by kernel_rfl) (by kernel_rfl) (eqA5 9997 s.float s.clear s.align s.justify s.items w) ?_
  refine eqFields_cons (by decide) (by kernel_rfl) (by kernel_rfl) (eqA4 9997 s.line s.order s.grow s.shrink w) ?_
  refine eqFields_cons (by decide) (by kernel_rfl) (by kernel_rfl) (eqL7 9996 s.w.k s.h.k s.minw.k s.maxw.k s.minh.k s.maxh.k s.basis.k s.w.n s.h.n s.minw.n s.maxw.n s.minh.n s.maxh.n s.basis.n w) ?_
  refine eqFields_cons (by decide) (by kernel_rfl) (by kernel_rfl) (eqL4 9996 s.m0.k s.m1.k s.m2.k s.m3.k s.m0.n s.m1.n s.m2.n s.m3.n w) ?_
  refine eqFields_cons (by decide) (by kernel_rfl) (by kernel_rfl) (eqA4 9997 s.b0 s.b1 s.b2 s.b3 w) ?_
  refine eqFields_cons (by decide) (by kernel_rfl) (by kernel_rfl) (eqA4 9997 s.p0 s.p1 s.p2 s.p3 w) ?_
  exact eqFields_nil
theorem guardPl (op : BinOp) (x y : Operand) (xs ys : Array Value) (w : World) : (eqGuard op 330 x y (.agg xs) (.agg ys)).run Tryz.prog w = .ok () w := run_eqGuard_agg w op _ x y xs ys (by kernel_rfl)
theorem bare_iff (s : Sty) : stBareF s = true ↔ EmX s := by
  unfold stBareF
  simp only [Bool.and_eq_true, beq_iff_eq, and_true]
  constructor
  · rintro ⟨h1, h2, ⟨h3, h4, h5, h6, h7⟩, ⟨h8, h9, h10, h11⟩, ⟨a1, a2, a3, a4, a5, a6, a7⟩, ⟨b0, b1, b2, b3⟩, ⟨c0, c1, c2, c3⟩, ⟨d0, d1, d2, d3⟩⟩
    refine ⟨fun j hj => ?_, fun x hx => ?_, ⟨h1, h2⟩, h3, h4, h5, h6, h7, h8, h9, h10, h11⟩
    · rcases four hj with rfl | rfl | rfl | rfl
      · exact ⟨c0, d0⟩
      · exact ⟨c1, d1⟩
      · exact ⟨c2, d2⟩
      · exact ⟨c3, d3⟩
    · simp only [lns, List.range_succ, List.range_zero, List.map_append, List.map_cons, List.map_nil, mgAt, List.nil_append, List.mem_append, List.mem_cons, List.not_mem_nil, or_false] at hx
      rcases hx with (rfl | rfl | rfl | rfl | rfl | rfl | rfl) | (((rfl | rfl) | rfl) | rfl) <;> assumption
  · intro h
    obtain ⟨f1, f2, f3, f4, f5, f6, f7, f8, f9⟩ := h.nm
    have key : ∀ x, x ∈ lns s 4 → x.k = 0 ∧ x.n = 0 := h.ln
    have e0 := h.ed 0 (by omega)
    have e1 := h.ed 1 (by omega)
    have e2 := h.ed 2 (by omega)
    have e3 := h.ed 3 (by omega)
    have hm : ∀ x, (x = s.w ∨ x = s.h ∨ x = s.minw ∨ x = s.maxw ∨ x = s.minh ∨ x = s.maxh ∨ x = s.basis ∨ x = s.m0 ∨ x = s.m1 ∨ x = s.m2 ∨ x = s.m3) → x.k = 0 ∧ x.n = 0 := fun x hx => key x (by
      simp only [lns, List.range_succ, List.range_zero, List.map_append, List.map_cons, List.map_nil, mgAt, List.nil_append, List.mem_append, List.mem_cons, List.not_mem_nil, or_false]
      rcases hx with h | h | h | h | h | h | h | h | h | h | h <;> simp [h])
    exact ⟨h.fl.1, h.fl.2, ⟨f1, f2, f3, f4, f5⟩, ⟨f6, f7, f8, f9⟩, ⟨hm _ (by simp), hm _ (by simp), hm _ (by simp), hm _ (by simp), hm _ (by simp), hm _ (by simp), hm _ (by simp)⟩, ⟨hm _ (by simp), hm _ (by simp), hm _ (by simp), hm _ (by simp)⟩, ⟨e0.1, e1.1, e2.1, e3.1⟩, ⟨e0.2, e1.2, e2.2, e3.2⟩⟩
end Go.Proofs.YtjhfcpadnofdnaaGreat
namespace Go.Proofs.YtjhfcpadnofdnaaGreat
open Go.RowKit
theorem wpList_build {P : Program} {ops : Array Oper} {rest : List Oper} {o : Oper} {a : Act} {w : World} {Q : Exit → Act → World → Prop} (hgd : o.guard = none) (ty : TypeId) (parts : Array (Nat × Operand)) (ho : o.op = .build ty parts) (v : Value)
    (hrun : (Instr.build ty (parts.map fun (i, x) => (i, a.eval x))).run P w = .ok v w) (h : wpList P ops Q rest (a.put o.dst v) w) : wpList P ops Q (o :: rest) a w :=
  wpList_plain hgd fun K hK => by
    unfold Oper.wp execOp
    simp only [ho, Sem.run_bind, hrun, Result.andThen_ok, Sem.run_pure]
    exact hK _ _ h
theorem wpList_rows {P : Program} {ops : Array Oper} {rest : List Oper} {o : Oper} {a : Act} {w : World} {Q : Exit → Act → World → Prop} (hgd : o.guard = none) (ty : TypeId) (n : Nat) (parts : Array (Nat × Operand)) (ho : o.op = .buildSlice ty n parts) (v : Value) (w' : World)
    (hrun : (Instr.buildSlice ty n (parts.map fun (i, x) => (i, a.eval x))).run P w = .ok v w') (h : wpList P ops Q rest (a.put o.dst v) w') : wpList P ops Q (o :: rest) a w :=
  wpList_plain hgd fun K hK => by
    unfold Oper.wp execOp
    simp only [ho, Sem.run_bind, hrun, Result.andThen_ok, Sem.run_pure]
    exact hK _ _ h
/-- Loading a range out of a block whose first cells it is. -/
theorem blk_rng {W : World} {g : Nat} {t : TypeId} {cs : List Value} {o : Nat} {xs : List Value} (hb : Blk W g t cs.toArray) (hx : ∀ j v, xs[j]? = some v → cs[o + j]? = some v) : W.rangeAt g o xs := fun j v hv => hb.get (o + j) (by simpa using hx j v hv)
end Go.Proofs.YtjhfcpadnofdnaaGreat
