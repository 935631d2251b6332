/- The document's order of items: jambref19.Order. -/
import Derived.Test.YtdnpobfnkdllmaaStb
import Derived.Test.YtdnpobfnkdllmaaRin
set_option linter.unusedSimpArgs false
set_option linter.unusedVariables false
namespace Go.Proofs.Ytdnpobfnkdllmaa
open Go.RowKit
attribute [local go_sem] block_of_add

theorem ins_at (o : Nat → Int) (i : Nat) : ∀ (p : List Nat) (k : Nat), k ≤ p.length → (∀ q (h : q < p.length), q < k → o p[q] ≤ o i) → (∀ q (h : q < p.length), k ≤ q → o i < o p[q]) → ins o i p = p.take k ++ i :: p.drop k
  | [], k, _, _, _ => by simp [ins]
  | x :: t, 0, _, _, hi => by
    have := hi 0 (by simp) (Nat.le_refl _)
    unfold ins; rw [if_pos (by simpa using this)]; rfl
  | x :: t, k + 1, hk, lo, hi => by
    have h0 := lo 0 (by simp) (by omega)
    unfold ins
    rw [if_neg (by simp at h0; omega), ins_at o i t k (by simpa using hk) (fun q h hq => by have := lo (q + 1) (by rw [List.length_cons]; omega) (by omega); rwa [List.getElem_cons_succ] at this) (fun q h hq => by have := hi (q + 1) (by rw [List.length_cons]; omega) (by omega); rwa [List.getElem_cons_succ] at this)]
    rfl
theorem own_addr {w : World} {base : Nat} {e : TypeId} {n c : Nat} {A : Option Addr} {xs : List Value} (h : w.ownsRow base e 1 (.slice A n c) n xs) (h0 : 0 < n) : ∃ g, A = some ⟨g, 0, none⟩ := by
  obtain ⟨g, c', e2, _⟩ := h.form h0
  injection e2 with e2
  exact ⟨g, e2⟩
theorem own_at {w : World} {base g : Nat} {e : TypeId} {n c j : Nat} {xs : List Value} {u : Value} (h : w.ownsRow base e 1 (.slice (some ⟨g, 0, none⟩) n c) n xs) (hx : xs[j]? = some u) : w.cell? ⟨g, j, none⟩ = some u := by
  have h3 := (@World.ownsRow.cells _ _ _ _ _ _ _ h) (g := g) rfl j u hx
  have ha : (⟨g, 0, none⟩ : Addr).add j = ⟨g, j, none⟩ := by unfold Addr.add; split <;> simp_all
  rw [ha] at h3; exact h3
/-- The order of a style that is read. -/
theorem Reads.ord {w : World} {B n k : Nat} {A : Option Addr} {l : List Sty} (h : Reads w B 43 A n (stysCells l)) (hn : n = l.length) (hk : k < l.length) :
    ∃ ad : Addr, A = some ad ∧ ad.block < B ∧ w.cell? ⟨ad.block, (ad.add (k * 43)).off + 37, none⟩ = some (.int .i64 (ordF l k)) := by
  obtain ⟨ad, e, s⟩ := h.st hn hk
  have h1 := s.cs 36 _ (sty_get37 l[k])
  rw [block_of_add] at h1
  obtain ⟨ad2, e2, hb, _⟩ := h.2 (by omega)
  rw [e] at e2; injection e2 with e2; subst e2
  exact ⟨ad, e, hb, by rw [ordF_at l hk]; exact h1⟩
set_option maxRecDepth 100000 in
set_option maxHeartbeats 2000000 in
theorem rorder_any (l : List Sty) (A : Option Addr) (ck : Nat) (w : World) (hn : l.length ≤ 1000) (hr : Reads w w.heap.size 43 A l.length (stysCells l)) :
    Calls Try.prog 18 #[.slice A l.length ck] w fun e w' => (∃ v, e = .returned v ∧ w'.ownsRow w.heap.size 3 1 v l.length (nCells (orderF (ordF l) l.length))) ∧ Below w.heap.size w w' := by
  have HR := Lib.hid hr
  clear hr
  obtain ⟨n, hne⟩ : ∃ n, n = l.length := ⟨_, rfl⟩
  rw [← hne] at HR hn ⊢
  have HN := Lib.hid hne
  clear hne
  go_enter Try.func18, Try.ntmps18
  go_wp2_with fail
  go_loopw [3, 4] (fun v kv wr => ∃ i : Nat, i ≤ n ∧ kv = .int .i64 i ∧ Hid (wr.ownsRow w.heap.size 3 1 v i (nCells (orderF (ordF l) i)) ∧ Below w.heap.size w wr)) (fun _ kv _ => n - (intOf kv).toNat)
  case atStart => exact ⟨0, by omega, rfl, Lib.hid ⟨World.ownsRow_nil _ _ _ _, Below.refl _ _⟩⟩
  case round =>
    obtain ⟨i, hi, rfl, H⟩ := hrel
    obtain ⟨A3, c3, hv3⟩ := own_form H.out.1
    subst hv3
    by_cases hlt : i < n
    rotate_left
    · have g0 : decide ((i : Int) < (n : Int)) = false := decide_eq_false (by omega)
      have g0' : decide (i < n) = false := decide_eq_false hlt
      have hin : i = n := by omega
      rw [hin] at H ⊢
      clear hin hlt g0'
      have g0' : decide (n < n) = false := decide_eq_false (by omega)
      go_wp2_with fail
      go_ret
      exact ⟨⟨_, rfl, H.out.1⟩, H.out.2⟩
    have g0 : decide ((i : Int) < (n : Int)) = true := decide_eq_true (by omega)
    have g0' : decide (i < n) = true := decide_eq_true hlt
    have hki : (i : Int) < (n : Int) := by omega
    have hk0 : (0 : Int) ≤ (i : Int) := by omega
    have wk : IntKind.i64.wrap ((i : Int) + 1) = (i : Int) + 1 := IntWalk.i64_in _ ⟨by omega, by omega⟩
    have hil : i < l.length := by rw [← HN.out]; exact hlt
    obtain ⟨p, hp⟩ : ∃ p, p = orderF (ordF l) i := ⟨_, rfl⟩
    have HP : Hid (orderF (ordF l) (i + 1) = ins (ordF l) i p ∧ p.length = i ∧ (∀ x ∈ p, x < i) ∧ p.Pairwise (lexLt (ordF l))) := Lib.hid (by
      rw [hp]; exact ⟨orderF_succ _ _, orderF_len _ _, fun x hx => (orderF_mem _ _ _).1 hx, orderF_srt _ _⟩)
    rw [← hp] at H
    clear hp
    go_wp2_with (at_builtin; refine wpList_app (m := 1) rfl _ _ rfl el_int2 H.out.1 H.out.2.size rfl [.int .i64 (i : Int)] rfl rfl (by simp [Value.oneCell']) (by omega) (by omega) ?_; intro A8 c8 w8 hown8 hB8 hg8 _; have H8 := Lib.hid (And.intro hown8 (hB8 _ _ (Nat.le_refl _) H.out.2)); clear hown8 hB8 hg8)
    obtain ⟨g8, hA8⟩ := own_addr H8.out.1 (by omega)
    subst hA8
    have HJ : Hid (∃ x, w8.ownsRow w.heap.size 3 1 (.slice (some ⟨g8, 0, none⟩) (i + 1) c8) (i + 1) (nCells (p.take i ++ x :: p.drop i))) := Lib.hid ⟨i, by
      have h := H8.out.1
      rw [List.take_of_length_le (by rw [HP.out.2.1]; exact Nat.le_refl _), List.drop_of_length_le (by rw [HP.out.2.1]; exact Nat.le_refl _)]
      rw [show [Value.int .i64 (i : Int)] = nCells [i] from rfl] at h
      simpa [nCells] using h⟩
    go_loopw [5] (fun kv wr => ∃ k : Nat, k ≤ i ∧ kv = .int .i64 k ∧ Hid ((∃ x, wr.ownsRow w.heap.size 3 1 (.slice (some ⟨g8, 0, none⟩) (i + 1) c8) (i + 1) (nCells (p.take k ++ x :: p.drop k))) ∧ (∀ q (h : q < p.length), k ≤ q → ordF l i < ordF l p[q]) ∧ Below w.heap.size w wr)) (fun kv _ => (intOf kv).toNat)
    case atStart => exact ⟨i, Nat.le_refl _, rfl, Lib.hid ⟨HJ.out, fun q h hq => by have := HP.out.2.1; omega, H8.out.2⟩⟩
    case round =>
      obtain ⟨k, hk, rfl, HK⟩ := hrel
      clear HJ H8
      obtain ⟨x, HO⟩ := HK.out.1
      have HX := Lib.hid HO
      clear HO
      obtain ⟨ad, hA, hab, ho1⟩ := (HR.out.below HK.out.2.2).ord HN.out hil
      subst hA
      have fz := HX.out.frozenAt k
      have cx : wr.cell? ⟨g8, k, none⟩ = some (.int .i64 (x : Int)) := own_at HX.out (by
        have := HP.out.2.1
        unfold nCells
        rw [List.map_append, List.map_cons, List.getElem?_append_right (by simp; omega)]
        simp [show k - min k p.length = 0 by omega])
      have LEAVE : Hid (∀ W, (W.ownsRow w.heap.size 3 1 (.slice (some ⟨g8, 0, none⟩) (i + 1) c8) (i + 1) (nCells (p.take k ++ x :: p.drop k))) → Below w.heap.size w W → (k = 0 ∨ ∀ h : k - 1 < p.length, ordF l p[k - 1] ≤ ordF l i) →
          (W.setCell ⟨g8, k, none⟩ (.int .i64 (i : Int))).ownsRow w.heap.size 3 1 (.slice (some ⟨g8, 0, none⟩) (i + 1) c8) (i + 1) (nCells (orderF (ordF l) (i + 1))) ∧ Below w.heap.size w (W.setCell ⟨g8, k, none⟩ (.int .i64 (i : Int)))) := Lib.hid (fun W ho hb hst => by
        have hpl := HP.out.2.1
        have hin := ins_at (ordF l) i p k (by omega) (fun q h hq => by
          rcases hst with h0 | h0
          · omega
          · have h1 := h0 (by omega)
            by_cases e : q = k - 1
            · subst e; exact h1
            · exact Int.le_trans ((List.pairwise_iff_getElem.1 HP.out.2.2.2) q (k - 1) h (by omega) (by omega)).le h1) HK.out.2.1
        have h := (ho.stored k (.int .i64 (i : Int))).1
        refine ⟨?_, hb.setCell (p := ⟨g8, k, none⟩) (by
          have := ho.lt g8 rfl; exact this.1) _⟩
        rw [HP.out.1, hin]
        have e2 : (nCells (p.take k ++ x :: p.drop k)).set k (.int .i64 (i : Int)) = nCells (p.take k ++ i :: p.drop k) := by
          unfold nCells
          rw [List.map_append, List.map_cons, List.set_append_right _ _ (by simp; omega)]
          simp [show k - min k p.length = 0 by omega]
        rw [e2] at h
        exact h)
      rcases Nat.eq_zero_or_pos k with hk0' | hk0'
      · have gk : decide ((0 : Int) < (k : Int)) = false := decide_eq_false (by omega)
        have gk' : decide (0 < k) = false := decide_eq_false (by omega)
        have HZ := Lib.hid hk0'
        clear hk0'
        go_upto_region 7 with (fail)
        go_quiet (fail)
        go_wp2_with fail
        go_roundw
        case rel => exact ⟨i + 1, by omega, by go_num, Lib.hid (LEAVE.out (wr.drewN _) HX.out (below_dr HK.out.2.2 _) (.inl HZ.out))⟩
        case measure => simp [intOf] <;> omega
      · have gk : decide ((0 : Int) < (k : Int)) = true := decide_eq_true (by omega)
        have gk' : decide (0 < k) = true := decide_eq_true (by omega)
        obtain ⟨j, rfl⟩ : ∃ j, k = j + 1 := ⟨k - 1, by omega⟩
        clear hk0'
        have wj : IntKind.i64.wrap (((j + 1 : Nat) : Int) - 1) = (j : Int) := by rw [show ((j + 1 : Nat) : Int) - 1 = (j : Int) by omega]; exact IntWalk.i64_in _ ⟨by omega, by omega⟩
        have hjp : j < p.length := by have := HP.out.2.1; omega
        obtain ⟨y, hy⟩ : ∃ y, y = p[j] := ⟨_, rfl⟩
        have hyi : y < i := by rw [hy]; exact HP.out.2.2.1 _ (List.getElem_mem hjp)
        have cj : wr.cell? ⟨g8, j, none⟩ = some (.int .i64 (y : Int)) := own_at HX.out (by
          unfold nCells
          rw [List.map_append, List.getElem?_append_left (by simp; omega), List.getElem?_map, List.getElem?_take, if_pos (by omega), List.getElem?_eq_getElem hjp, ← hy]; rfl)
        have HY := Lib.hid hy
        clear hy
        obtain ⟨ad2, hA2, hab2, ho2⟩ := (HR.out.below HK.out.2.2).ord HN.out (show y < l.length by have := HN.out; omega)
        obtain rfl : ad = ad2 := by injection hA2
        clear hA2
        have hyn : (y : Int) < (n : Int) := by omega
        have hy0 : (0 : Int) ≤ (y : Int) := by omega
        have hj0 : (0 : Int) ≤ (j : Int) := by omega
        have hji : (j : Int) < ((i : Int) + 1) := by omega
        by_cases hcmp : ordF l i < ordF l y
        · have gc : decide (ordF l i < ordF l y) = true := decide_eq_true hcmp
          have HCM := Lib.hid hcmp
          clear hcmp
          go_upto_region 7 with (fail)
          go_quiet (fail)
          go_wp2_with fail
          go_roundw
          case rel =>
            refine ⟨j, by omega, rfl, Lib.hid ⟨⟨y, ?_⟩, fun q h hq => ?_, ?_⟩⟩
            · have h := (World.ownsRow.stored (w := wr.drewN nq) HX.out (j + 1) (.int .i64 (y : Int))).1
              have e1 : p.take (j + 1) = p.take j ++ [y] := by rw [List.take_succ_eq_append_getElem hjp, ← HY.out]
              have e2 : p.drop j = y :: p.drop (j + 1) := by rw [List.drop_eq_getElem_cons hjp, ← HY.out]
              have e3 : (nCells (p.take (j + 1) ++ x :: p.drop (j + 1))).set (j + 1) (.int .i64 (y : Int)) = nCells (p.take j ++ y :: p.drop j) := by
                rw [e1, e2]
                unfold nCells
                rw [List.map_append, List.map_cons, List.set_append_right _ _ (by simp; omega)]
                simp [show j + 1 - (min j p.length + 1) = 0 by omega]
              rw [e3] at h; exact h
            · by_cases e : q = j
              · subst e; rw [← HY.out]; exact HCM.out
              · exact HK.out.2.1 q h (by omega)
            · exact (below_dr HK.out.2.2 _).setCell (p := ⟨g8, j + 1, none⟩) (HX.out.lt g8 rfl).1 _
          case measure => simp [intOf] <;> omega
        · have gc : decide (ordF l i < ordF l y) = false := decide_eq_false hcmp
          have HCM := Lib.hid hcmp
          clear hcmp
          go_upto_region 7 with (fail)
          go_quiet (fail)
          go_wp2_with fail
          go_roundw
          case rel => exact ⟨i + 1, by omega, by go_num, Lib.hid (LEAVE.out (wr.drewN _) HX.out (below_dr HK.out.2.2 _) (.inr fun h => by have := HCM.out; rw [HY.out] at this; simp at this ⊢; omega))⟩
          case measure => simp [intOf] <;> omega
end Go.Proofs.Ytdnpobfnkdllmaa
