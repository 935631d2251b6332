/- Contracts: small functions of content, widths and their references. -/
import Derived.Test.YtjhfcpadnofdnaaGreatBase
import Derived.Test.YtjhfcpadnofdnaaGreatApp
import Derived.Test.YtjhfcpadnofdnaaGreatTrf
import Derived.BigQuiet
set_option linter.unusedSimpArgs false
set_option linter.unusedVariables false
namespace Go.Proofs.YtjhfcpadnofdnaaGreat
open Go.RowKit
section
variable {P : Program} {w : World} {o : Oper} {a : Act} {t e : TypeId} {z : Value} {size bytes base n m : Nat} {v : Value} {xs : List Value}
theorem run_copy (hE : El P t e z size bytes) (ty : TypeId) (hown : w.ownsRow base e size v n xs) (hbase : base ≤ w.heap.size) (news : List Value) {A : Option Addr} {B c : Nat} (hr : Reads w B size A m news) (h1 : ∀ u ∈ news, u.oneCell' = true)
    (h63 : n + m ≤ 4294967296) (hby : bytes ≤ 32768) :
    ∃ A' c' w', (Builtin.append_ #[t, t] ty #[v, .slice A m c]).run P w = .ok (.slice A' (n + m) c') w' ∧
      w'.ownsRow base e size (.slice A' (n + m) c') (n + m) (xs ++ news) ∧ (∀ B w0, B ≤ base → Below B w0 w → Below B w0 w') ∧ w.grownBy w' v.ownBlock := by
  obtain ⟨i, hi, hz, hs, hb⟩ := info_parts hE.info
  have hbytes : (n + m) * bytes ≤ 140737488355328 := by
    have := Nat.mul_le_mul h63 hby; omega
  rcases A with _ | ad
  · have hm : m = 0 := by
      rcases Nat.eq_zero_or_pos m with h | h
      · exact h
      · obtain ⟨_, e, _⟩ := hr.2 h; cases e
    subst hm
    have hx : news = [] := by have := hr.1; simpa using this
    subst hx
    obtain ⟨Av, cv, rfl⟩ := own_form hown
    have hcap := own_cap hown
    refine ⟨Av, cv, w, ?_, by simpa using hown, fun B w0 _ h => h, ⟨rfl, rfl, rfl, Nat.le_refl _, fun k _ _ => rfl⟩⟩
    rcases Av with _ | g
    · simp [Builtin.append_, run_underlying hE.ht, sizeOf, typeInfo, hi, Builtin.lenOf, hcap, Builtin.firstCells, storeCells]
    · simp [Builtin.append_, run_underlying hE.ht, sizeOf, typeInfo, hi, Builtin.lenOf, hcap, Builtin.firstCells, storeCells]
  · obtain ⟨v', w', hrun, hown', hg, _, hob⟩ := run_append_own_at (P := P) w base t ty e i z size bytes hE.ht hi hz hs hb hE.hzs hE.pos v n xs hown ad m c news hr.1
      (by
        intro j u hu
        rcases Nat.eq_zero_or_pos m with h | h
        · have := hr.1; rw [h] at this; simp at this; subst this; simp at hu
        · obtain ⟨ad', e, _, hc⟩ := hr.2 h
          injection e with e; subst e; exact hc j u hu) h1 (by simp only [maxLen]; omega) hbytes hbase
    obtain ⟨A', c', rfl⟩ := own_form hown'
    exact ⟨A', c', w', hrun, hown', fun B w0 hB h0 => h0.grown hg (by omega) (fun k hk => by have := (hown.lt k hk.symm.symm).1; omega), hg⟩
theorem wpList_copy {ops : Array Oper} {rest : List Oper} {Q : Exit → Act → World → Prop} (hgd : o.guard = none) (s x : Operand)
    (ho : o.op = .call { callee := .builtin .append, args := #[s, x], argTypes := #[t, t] }) (hE : El P t e z size bytes) (hown : w.ownsRow base e size v n xs) (hbase : base ≤ w.heap.size) (hs : a.eval s = v)
    (news : List Value) {A : Option Addr} {B c : Nat} (hx : a.eval x = .slice A m c) (hr : Reads w B size A m news) (h1 : ∀ u ∈ news, u.oneCell' = true) (h63 : n + m ≤ 4294967296) (hby : bytes ≤ 32768)
    (h : ∀ A' c' w', w'.ownsRow base e size (.slice A' (n + m) c') (n + m) (xs ++ news) → (∀ B w0, B ≤ base → Below B w0 w → Below B w0 w') → w.grownBy w' v.ownBlock → wpList P ops Q rest (a.put o.dst (.slice A' (n + m) c')) w') :
    wpList P ops Q (o :: rest) a w :=
  wpList_plain hgd fun _ hK => by
    obtain ⟨A', c', w', hrun, h2, h3, h4⟩ := run_copy (P := P) hE o.type hown hbase news hr (c := c) h1 h63 hby
    unfold Oper.wp execOp
    simp only [ho, resolve, invoke, builtin, Sem.run_bind, Sem.run_pure, Result.andThen_ok, List.map_toArray, List.map_cons, List.map_nil, hs, hx, hrun]
    exact hK _ _ (h A' c' w' h2 h3 h4)
theorem wpList_copy0 {ops : Array Oper} {rest : List Oper} {Q : Exit → Act → World → Prop} (hgd : o.guard = none) (s x : Operand)
    (ho : o.op = .call { callee := .builtin .append, args := #[s, x], argTypes := #[t, t] }) (hE : El P t e z size bytes) (hown : w.ownsRow base e size v 0 []) (hbase : base ≤ w.heap.size) (hs : a.eval s = v)
    (news : List Value) {A : Option Addr} {B c : Nat} (hx : a.eval x = .slice A m c) (hr : Reads w B size A m news) (h1 : ∀ u ∈ news, u.oneCell' = true) (h63 : m ≤ 4294967296) (hby : bytes ≤ 32768)
    (h : ∀ A' c' w', w'.ownsRow base e size (.slice A' m c') m news → (∀ B w0, B ≤ base → Below B w0 w → Below B w0 w') → w.grownBy w' v.ownBlock → wpList P ops Q rest (a.put o.dst (.slice A' m c')) w') :
    wpList P ops Q (o :: rest) a w :=
  wpList_copy hgd s x ho hE hown hbase hs news hx hr h1 (by omega) hby fun A' c' w' h1 h2 h3 => by
    rw [Nat.zero_add] at h1 ⊢
    exact h A' c' w' (by simpa using h1) h2 h3
/-- append(E{}, l...): the literal and the append in one. -/
theorem wpList_copyE {ops : Array Oper} {rest : List Oper} {Q : Exit → Act → World → Prop} (hgd : o.guard = none) (s x : Operand)
    (ho : o.op = .call { callee := .builtin .append, args := #[s, x], argTypes := #[t, t] }) (hE : El P t e z size bytes) (hs : a.eval s = .slice (some ⟨w.heap.size, 0, none⟩) 0 0)
    (news : List Value) {A : Option Addr} {B c : Nat} (hx : a.eval x = .slice A m c) (hr : Reads w B size A m news) (hB : B ≤ w.heap.size) (h1 : ∀ u ∈ news, u.oneCell' = true) (h63 : m ≤ 4294967296) (hby : bytes ≤ 32768)
    (h : ∀ A' c' w', w'.ownsRow w.heap.size e size (.slice A' m c') m news → Below w.heap.size w w' → wpList P ops Q rest (a.put o.dst (.slice A' m c')) w') :
    wpList P ops Q (o :: rest) a (w.alloc (.cells #[] e)) :=
  wpList_copy0 hgd s x ho hE (World.ownsRow_lit w #[] 0 (Nat.le_refl _) (by simp) (by simp)) (by simp) hs news hx (hr.alloc hB (.cells #[] e)) h1 h63 hby fun A' c' w' h2 h3 _ => h A' c' w' h2 (h3 _ _ (Nat.le_refl _) ((Below.refl _ _).alloc (Nat.le_refl _) _))
end
end Go.Proofs.YtjhfcpadnofdnaaGreat
namespace Go.Proofs.YtjhfcpadnofdnaaGreat
open Go.RowKit
attribute [local go_sem] block_of_add
set_option maxRecDepth 100000 in
set_option maxHeartbeats 1000000 in
theorem frame_any (s : Sty) (w : World) (hs : StyB s) :
    Calls Tryz.prog 82 #[.agg (styCells s).toArray] w fun e w' => (∃ d : Int, e = .returned (.tuple #[.int .i64 (frameF s), .int .i64 d])) ∧ w.alloc (.cells (styCells s).toArray 67) = w' := by
  have h1 : IntKind.i64.wrap (s.b3 + s.b1) = s.b3 + s.b1 := IntWalk.i64_in _ (by have := hs.b1; have := hs.b3; omega)
  have h2 : IntKind.i64.wrap (s.b3 + s.b1 + s.p3) = s.b3 + s.b1 + s.p3 := IntWalk.i64_in _ (by have := hs.b1; have := hs.b3; have := hs.p3; omega)
  have h3 : IntKind.i64.wrap (s.b3 + s.b1 + s.p3 + s.p1) = s.b3 + s.b1 + s.p3 + s.p1 := IntWalk.i64_in _ (by have := hs.b1; have := hs.b3; have := hs.p3; have := hs.p1; omega)
  have y24 : (styCells s)[24]'(by rw [sty_len]; omega) = .int .i64 s.b0 := rfl
  have y25 : (styCells s)[25]'(by rw [sty_len]; omega) = .int .i64 s.b1 := rfl
  have y26 : (styCells s)[26]'(by rw [sty_len]; omega) = .int .i64 s.b2 := rfl
  have y27 : (styCells s)[27]'(by rw [sty_len]; omega) = .int .i64 s.b3 := rfl
  have y28 : (styCells s)[28]'(by rw [sty_len]; omega) = .int .i64 s.p0 := rfl
  have y29 : (styCells s)[29]'(by rw [sty_len]; omega) = .int .i64 s.p1 := rfl
  have y30 : (styCells s)[30]'(by rw [sty_len]; omega) = .int .i64 s.p2 := rfl
  have y31 : (styCells s)[31]'(by rw [sty_len]; omega) = .int .i64 s.p3 := rfl
  have z := sty_size s
  go_enter Tryz.func82, Tryz.ntmps82
  go_wp2_with fail
  go_ret2
  exact ⟨⟨_, rfl⟩, rfl⟩
theorem bare_any (k n : Int) (w : World) :
    Calls Tryz.prog 216 #[.agg #[.int .u8 k, .int .i64 n]] w fun e w' => e = .returned (.int .i64 (bareF ⟨k, n⟩)) ∧ w.alloc (.cells #[.int .u8 k, .int .i64 n] 62) = w' := by
  by_cases h : k = 1
  · have e1 : (k == 1) = true := beq_iff_eq.2 h
    have HF : Hid (bareF ⟨k, n⟩ = n) := Lib.hid (by unfold bareF; rw [if_pos h])
    clear h
    go_enter Tryz.func216, Tryz.ntmps216
    go_wp2_with fail
    go_ret
    exact ⟨by rw [HF.out]; rfl, rfl⟩
  · have e1 : (k == 1) = false := beq_eq_false_iff_ne.2 h
    have HF : Hid (bareF ⟨k, n⟩ = 0) := Lib.hid (by unfold bareF; rw [if_neg h])
    clear h
    go_enter Tryz.func216, Tryz.ntmps216
    go_wp2_with fail
    go_ret
    exact ⟨by rw [HF.out]; rfl, rfl⟩
theorem mostF_succ (l : List Int) (k : Nat) (h : k < l.length) : mostF (l.take (k + 1)) = max (mostF (l.take k)) l[k] := by
  unfold mostF; rw [List.take_add_one, List.getElem?_eq_getElem h, List.foldl_append]; rfl
set_option maxHeartbeats 1000000 in
theorem most_any (l : List Int) (A : Option Addr) (c : Nat) (w : World) (hn : l.length ≤ 4294967296) (hr : Reads w w.heap.size 1 A l.length (i64s l)) :
    Calls Tryz.prog 204 #[.slice A l.length c] w fun e w' => e = .returned (.slice (some ⟨w.heap.size, 0, none⟩) 1 1) ∧ w.alloc (.cells #[.int .i64 (mostF l)] 2) = w' := by
  go_enter Tryz.func204, Tryz.ntmps204
  go_wp2_with fail
  go_loopw [3, 8] (fun mv iv wr => ∃ (k : Nat) (m : Int), k ≤ l.length ∧ mv = .int .i64 m ∧ iv = .int .i64 k ∧ m = mostF (l.take k) ∧ w = wr) (fun _ iv _ => l.length - (intOf iv).toNat)
  case atStart => exact ⟨0, 0, by omega, rfl, rfl, rfl, rfl⟩
  case round =>
    obtain ⟨k, m, hk, rfl, rfl, hm, rfl⟩ := hrel
    have HM := Lib.hid hm
    clear hm
    by_cases hlt : k < l.length
    · have hwk : IntKind.i64.wrap ((k : Int) + 1) = (k : Int) + 1 := IntWalk.i64_in _ ⟨by omega, by omega⟩
      have d0 : decide ((k : Int) < (l.length : Int)) = true := decide_eq_true (by omega)
      have d0' : decide (k < l.length) = true := decide_eq_true hlt
      obtain ⟨ad, u, rfl, hab, hx, hc⟩ := hr.at_ hlt
      have hu : u = .int .i64 l[k] := by simpa [i64s, hlt] using hx.symm
      subst hu
      have HS := Lib.hid (mostF_succ l k hlt)
      clear hx hr
      go_wp2_with fail
      go_roundw
      case rel => exact ⟨k + 1, max m l[k], by omega, by congr 1; split <;> omega, by go_num, by rw [HS.out, HM.out], trivial⟩
      case measure => simp [intOf]; omega
    · have d0 : decide ((k : Int) < (l.length : Int)) = false := decide_eq_false (by omega)
      have d0' : decide (k < l.length) = false := decide_eq_false hlt
      have HL : Hid (m = mostF l) := Lib.hid (by rw [HM.out, List.take_of_length_le (by omega)])
      clear hr
      go_wp2_with fail
      go_ret
      exact ⟨rfl, by rw [HL.out]⟩
theorem el_i64c : El Tryz.prog 23 2 (.int .i64 0) 1 8 := ⟨Tryz.underlying23, by kernel_rfl, rfl, by decide⟩
theorem i64s_one (l : List Int) : ∀ u ∈ i64s l, u.oneCell' = true := by
  intro u hu; unfold i64s at hu; rw [List.mem_map] at hu; obtain ⟨x, _, rfl⟩ := hu; rfl
theorem sl_some (ad : Addr) (n c : Nat) (w : World) : Sem.run Tryz.prog (binOp BinOp.eql 23 (.slice (some ad) n c) (.slice none 0 0)) w = .ok (.bool false) w := by kernel_rfl
theorem sl_nil (w : World) : Sem.run Tryz.prog (binOp BinOp.eql 23 (.slice none 0 0) (.slice none 0 0)) w = .ok (.bool true) w := by kernel_rfl
structure CloneAns (l : List Int) (w w' : World) (e : Ending) : Prop where
  ex : ∃ A c, e = .returned (.slice A l.length c) ∧ w'.ownsRow w.heap.size 2 1 (.slice A l.length c) l.length (i64s l)
  b : Below w.heap.size w w'
set_option maxRecDepth 100000 in
set_option maxHeartbeats 1000000 in
theorem clone_any (l : List Int) (ad : Addr) (c : Nat) (w : World) (hn : l.length ≤ 1000000) (hr : Reads w w.heap.size 1 (some ad) l.length (i64s l)) :
    Calls Tryz.prog 215 #[.slice (some ad) l.length c] w fun e w' => CloneAns l w w' e := by
  have hns := fun w => sl_some ad l.length c w
  go_enter Tryz.func215, Tryz.ntmps215
  go_wp2_with (at_builtin; refine wpList_copyE rfl _ _ rfl el_i64c rfl (i64s l) rfl hr (Nat.le_refl _) (i64s_one l) (by omega) (by omega) ?_; intro A1 c1 w1 hown1 hb1)
  go_ret
  exact ⟨⟨_, _, rfl, hown1⟩, hb1⟩
end Go.Proofs.YtjhfcpadnofdnaaGreat
