/- append(own, l...): a slice that came in, behind a slice of the call's own. -/
import Derived.Test.YtdnpobfnkdllmaaBase
set_option linter.unusedSimpArgs false
set_option linter.unusedVariables false
namespace Go.Proofs.Ytdnpobfnkdllmaa
open Go.RowKit

section
variable {P : Program} {w : World} {o : Oper} {a : Act} {t e : TypeId} {z : Value} {size bytes base n m : Nat} {v : Value} {xs : List Value}

theorem run_copy (hE : El P t e z size bytes) (ty : TypeId) (hown : w.ownsRow base e size v n xs) (hbase : base ≤ w.heap.size) (news : List Value) {A : Option Addr} {B c : Nat} (hr : Reads w B size A m news) (h1 : ∀ u ∈ news, u.oneCell' = true)
    (h63 : n + m ≤ 4294967296) (hby : bytes ≤ 32768) :
    ∃ A' c' w', (Builtin.append_ #[t, t] ty #[v, .slice A m c]).run P w = .ok (.slice A' (n + m) c') w' ∧
      w'.ownsRow base e size (.slice A' (n + m) c') (n + m) (xs ++ news) ∧ (∀ B w0, B ≤ base → Below B w0 w → Below B w0 w') ∧ w.grownBy w' v.ownBlock := by
  obtain ⟨i, hi, hz, hs, hb⟩ := info_parts hE.info
  have hbytes : (n + m) * bytes ≤ 140737488355328 := by
    have := Nat.mul_le_mul h63 hby; omega
  rcases A with _ | ad
  · have hm : m = 0 := by
      rcases Nat.eq_zero_or_pos m with h | h
      · exact h
      · obtain ⟨_, e, _⟩ := hr.2 h; cases e
    subst hm
    have hx : news = [] := by have := hr.1; simpa using this
    subst hx
    obtain ⟨Av, cv, rfl⟩ := own_form hown
    have hcap := own_cap hown
    refine ⟨Av, cv, w, ?_, by simpa using hown, fun B w0 _ h => h, ⟨rfl, rfl, rfl, Nat.le_refl _, fun k _ _ => rfl⟩⟩
    rcases Av with _ | g
    · simp [Builtin.append_, run_underlying hE.ht, sizeOf, typeInfo, hi, Builtin.lenOf, hcap, Builtin.firstCells, storeCells]
    · simp [Builtin.append_, run_underlying hE.ht, sizeOf, typeInfo, hi, Builtin.lenOf, hcap, Builtin.firstCells, storeCells]
  · obtain ⟨v', w', hrun, hown', hg, _, hob⟩ := run_append_own_at (P := P) w base t ty e i z size bytes hE.ht hi hz hs hb hE.hzs hE.pos v n xs hown ad m c news hr.1
      (by
        intro j u hu
        rcases Nat.eq_zero_or_pos m with h | h
        · have := hr.1; rw [h] at this; simp at this; subst this; simp at hu
        · obtain ⟨ad', e, _, hc⟩ := hr.2 h
          injection e with e; subst e; exact hc j u hu) h1 (by simp only [maxLen]; omega) hbytes hbase
    obtain ⟨A', c', rfl⟩ := own_form hown'
    exact ⟨A', c', w', hrun, hown', fun B w0 hB h0 => h0.grown hg (by omega) (fun k hk => by have := (hown.lt k hk.symm.symm).1; omega), hg⟩

theorem wpList_copy {ops : Array Oper} {rest : List Oper} {Q : Exit → Act → World → Prop} (hgd : o.guard = none) (s x : Operand)
    (ho : o.op = .call { callee := .builtin .append, args := #[s, x], argTypes := #[t, t] }) (hE : El P t e z size bytes) (hown : w.ownsRow base e size v n xs) (hbase : base ≤ w.heap.size) (hs : a.eval s = v)
    (news : List Value) {A : Option Addr} {B c : Nat} (hx : a.eval x = .slice A m c) (hr : Reads w B size A m news) (h1 : ∀ u ∈ news, u.oneCell' = true) (h63 : n + m ≤ 4294967296) (hby : bytes ≤ 32768)
    (h : ∀ A' c' w', w'.ownsRow base e size (.slice A' (n + m) c') (n + m) (xs ++ news) → (∀ B w0, B ≤ base → Below B w0 w → Below B w0 w') → w.grownBy w' v.ownBlock → wpList P ops Q rest (a.put o.dst (.slice A' (n + m) c')) w') :
    wpList P ops Q (o :: rest) a w :=
  wpList_plain hgd fun _ hK => by
    obtain ⟨A', c', w', hrun, h2, h3, h4⟩ := run_copy (P := P) hE o.type hown hbase news hr (c := c) h1 h63 hby
    unfold Oper.wp execOp
    simp only [ho, resolve, invoke, builtin, Sem.run_bind, Sem.run_pure, Result.andThen_ok, List.map_toArray, List.map_cons, List.map_nil, hs, hx, hrun]
    exact hK _ _ (h A' c' w' h2 h3 h4)

theorem wpList_copy0 {ops : Array Oper} {rest : List Oper} {Q : Exit → Act → World → Prop} (hgd : o.guard = none) (s x : Operand)
    (ho : o.op = .call { callee := .builtin .append, args := #[s, x], argTypes := #[t, t] }) (hE : El P t e z size bytes) (hown : w.ownsRow base e size v 0 []) (hbase : base ≤ w.heap.size) (hs : a.eval s = v)
    (news : List Value) {A : Option Addr} {B c : Nat} (hx : a.eval x = .slice A m c) (hr : Reads w B size A m news) (h1 : ∀ u ∈ news, u.oneCell' = true) (h63 : m ≤ 4294967296) (hby : bytes ≤ 32768)
    (h : ∀ A' c' w', w'.ownsRow base e size (.slice A' m c') m news → (∀ B w0, B ≤ base → Below B w0 w → Below B w0 w') → w.grownBy w' v.ownBlock → wpList P ops Q rest (a.put o.dst (.slice A' m c')) w') :
    wpList P ops Q (o :: rest) a w :=
  wpList_copy hgd s x ho hE hown hbase hs news hx hr h1 (by omega) hby fun A' c' w' h1 h2 h3 => by
    rw [Nat.zero_add] at h1 ⊢
    exact h A' c' w' (by simpa using h1) h2 h3

/-- append(E{}, l...): the literal and the append in one. -/
theorem wpList_copyE {ops : Array Oper} {rest : List Oper} {Q : Exit → Act → World → Prop} (hgd : o.guard = none) (s x : Operand)
    (ho : o.op = .call { callee := .builtin .append, args := #[s, x], argTypes := #[t, t] }) (hE : El P t e z size bytes) (hs : a.eval s = .slice (some ⟨w.heap.size, 0, none⟩) 0 0)
    (news : List Value) {A : Option Addr} {B c : Nat} (hx : a.eval x = .slice A m c) (hr : Reads w B size A m news) (hB : B ≤ w.heap.size) (h1 : ∀ u ∈ news, u.oneCell' = true) (h63 : m ≤ 4294967296) (hby : bytes ≤ 32768)
    (h : ∀ A' c' w', w'.ownsRow w.heap.size e size (.slice A' m c') m news → Below w.heap.size w w' → wpList P ops Q rest (a.put o.dst (.slice A' m c')) w') :
    wpList P ops Q (o :: rest) a (w.alloc (.cells #[] e)) :=
  wpList_copy0 hgd s x ho hE (World.ownsRow_lit w #[] 0 (Nat.le_refl _) (by simp) (by simp)) (by simp) hs news hx (hr.alloc hB (.cells #[] e)) h1 h63 hby fun A' c' w' h2 h3 _ => h A' c' w' h2 (h3 _ _ (Nat.le_refl _) ((Below.refl _ _).alloc (Nat.le_refl _) _))
end
end Go.Proofs.Ytdnpobfnkdllmaa
