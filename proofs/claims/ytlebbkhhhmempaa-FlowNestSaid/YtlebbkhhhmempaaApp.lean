/- Appending behind a block whose number is a letter; the tables of the elements; other helpers. -/
import Derived.Test.YtlebbkhhhmempaaProg
import Derived.Test.YtlebbkhhhmempaaKp
import Derived.OneCell
set_option linter.unusedSimpArgs false
set_option linter.unusedVariables false
namespace Go.Proofs.Ytlebbkhhhmempaa
open Go.RowKit
theorem below_dr {B : Nat} {a w : World} (h : Below B a w) (n : Nat) : Below B a (w.drewN n) := ⟨h.os, h.tape, h.output, h.size, h.block⟩
theorem wpList_appG {P : Program} {w : World} {o : Oper} {a : Act} {t e : TypeId} {z : Value} {size bytes base n m : Nat} {v : Value} {xs : List Value} {ops : Array Oper} {rest : List Oper} {Q : Exit → Act → World → Prop} (hgd : o.guard = none) (s x : Operand)
    (ho : o.op = .call { callee := .builtin .append, args := #[s, x], argTypes := #[t, t] }) (hE : El P t e z size bytes) (hown : w.ownsRow base e size v n xs) (hbase : base ≤ w.heap.size) (hs : a.eval s = v)
    (news : List Value) {g : Nat} (hx : a.eval x = .slice (some ⟨g, 0, none⟩) m m) (hgs : g = w.heap.size) (hl : news.length = m * size) (h1 : ∀ u ∈ news, u.oneCell' = true) (h63 : n + m ≤ 4294967296) (hby : bytes ≤ 32768)
    (h : ∀ A' c' w', w'.ownsRow base e size (.slice A' (n + m) c') (n + m) (xs ++ news) → (∀ B w0, B ≤ base → Below B w0 w → Below B w0 w') → w.grownBy w' v.ownBlock →
      ((Value.slice A' (n + m) c').ownBlock = v.ownBlock ∨ w.heap.size ≤ ((Value.slice A' (n + m) c').ownBlock).getD w.heap.size) → wpList P ops Q rest (a.put o.dst (.slice A' (n + m) c')) w') :
    wpList P ops Q (o :: rest) a (w.alloc (.cells news.toArray e)) := by
  subst hgs
  exact wpList_app hgd s x ho hE hown hbase hs news hx hl h1 h63 hby h
theorem wp_appG {P : Program} {w : World} {o : Oper} {a : Act} {t e : TypeId} {z : Value} {size bytes base n m : Nat} {v : Value} {xs : List Value} {K : Act → World → Prop} {Q : Exit → Act → World → Prop} (s x : Operand)
    (ho : o.op = .call { callee := .builtin .append, args := #[s, x], argTypes := #[t, t] }) (hE : El P t e z size bytes) (hown : w.ownsRow base e size v n xs) (hbase : base ≤ w.heap.size) (hs : a.eval s = v)
    (news : List Value) {g : Nat} (hx : a.eval x = .slice (some ⟨g, 0, none⟩) m m) (hgs : g = w.heap.size) (hl : news.length = m * size) (h1 : ∀ u ∈ news, u.oneCell' = true) (h63 : n + m ≤ 4294967296) (hby : bytes ≤ 32768)
    (h : ∀ A' c' w', w'.ownsRow base e size (.slice A' (n + m) c') (n + m) (xs ++ news) → (∀ B w0, B ≤ base → Below B w0 w → Below B w0 w') → w.grownBy w' v.ownBlock →
      ((Value.slice A' (n + m) c').ownBlock = v.ownBlock ∨ w.heap.size ≤ ((Value.slice A' (n + m) c').ownBlock).getD w.heap.size) → K (a.put o.dst (.slice A' (n + m) c')) w') :
    o.wp P a (w.alloc (.cells news.toArray e)) K Q := by
  subst hgs
  exact wp_app s x ho hE hown hbase hs news hx hl h1 h63 hby h
theorem step_appG {P : Program} {w : World} {o : Oper} {a : Act} {t e : TypeId} {z : Value} {size bytes base n m : Nat} {v : Value} {xs : List Value} {ops : Array Oper} {K : Act → World → Prop} {Q : Exit → Act → World → Prop} {E : Prop} (hgd : o.guard = none) (s x : Operand)
    (ho : o.op = .call { callee := .builtin .append, args := #[s, x], argTypes := #[t, t] }) (hE : El P t e z size bytes) (hown : w.ownsRow base e size v n xs) (hbase : base ≤ w.heap.size) (hs : a.eval s = v)
    (news : List Value) {g : Nat} (hx : a.eval x = .slice (some ⟨g, 0, none⟩) m m) (hgs : g = w.heap.size) (hl : news.length = m * size) (h1 : ∀ u ∈ news, u.oneCell' = true) (h63 : n + m ≤ 4294967296) (hby : bytes ≤ 32768)
    (h : ∀ A' c' w', w'.ownsRow base e size (.slice A' (n + m) c') (n + m) (xs ++ news) → (∀ B w0, B ≤ base → Below B w0 w → Below B w0 w') → w.grownBy w' v.ownBlock →
      ((Value.slice A' (n + m) c').ownBlock = v.ownBlock ∨ w.heap.size ≤ ((Value.slice A' (n + m) c').ownBlock).getD w.heap.size) → K (a.put o.dst (.slice A' (n + m) c')) w') :
    if Region.wanted o (yielded ops a.tmps) = true then Oper.wp P o a (w.alloc (.cells news.toArray e)) K Q else E := by
  subst hgs
  exact step_app hgd s x ho hE hown hbase hs news hx hl h1 h63 hby h
theorem el_int2 : El Try.prog 36 3 (.int .i64 0) 1 8 := ⟨Try.underlying36, by kernel_rfl, rfl, by decide⟩
theorem el_i642 : El Try.prog 23 2 (.int .i64 0) 1 8 := ⟨Try.underlying23, by kernel_rfl, rfl, by decide⟩
end Go.Proofs.Ytlebbkhhhmempaa
