/- The document's Mains of chapter 19, walked. -/
import Derived.Test.YtbopeofglhkffaaRgh
import Derived.Test.YtbopeofglhkffaaRin
import Derived.Test.YtbopeofglhkffaaWq
import Derived.Test.YtbopeofglhkffaaRsr
import Derived.Test.YtbopeofglhkffaaFia
import Derived.Test.YtbopeofglhkffaaItg
import Derived.Test.YtbopeofglhkffaaWs
set_option linter.unusedSimpArgs false
set_option linter.unusedVariables false
namespace Go.Proofs.Ytbopeofglhkffaa
open Go.RowKit
attribute [local go_sem] block_of_add
section
variable {P : Program} {ops : Array Oper} {Q : Exit → Act → World → Prop} {md : Region.Mode} {S : World → Prop}
end
/-! Structs compared. -/
end Go.Proofs.Ytbopeofglhkffaa
/- The document's round of chapter 19: jambref19.round. -/
/- The document's round of chapter 19: items in their row's memory, and plain sums. -/
/- The document's share of chapter 19: the floor of a product's quotient. -/
set_option linter.unusedSimpArgs false
set_option linter.unusedVariables false
namespace Go.Proofs.Ytbopeofglhkffaa
open Go.RowKit
theorem and_one_i (x : Int) (h0 : 0 ≤ x) (h1 : x < 9223372036854775808) : bits .and .i64 x 1 = x % 2 := by
  have e : (2 : Int) ^ 63 = 9223372036854775808 := by decide
  have h := bits_mask .i64 63 (by decide) (fun n h0 h1 => by rw [e] at h1; exact IntWalk.i64_in _ ⟨by omega, by omega⟩) 1 (by decide) x h0 (by rw [e]; exact h1)
  simpa using h
set_option maxRecDepth 100000 in
set_option maxHeartbeats 2000000 in
theorem rshare_any (A f all : Int) (w : World) (hA : 0 ≤ A ∧ A < 9223372036854775808) (hf : 0 ≤ f ∧ f ≤ all) (hall : 0 < all ∧ all < 4611686018427387904) :
    Calls Try.prog 67 #[.int .i64 A, .int .i64 f, .int .i64 all] w fun e w' => e = .returned (.int .i64 (A * f / all)) ∧ w' = w := by
  go_enter Try.func67, Try.ntmps67
  go_wp2_with fail
  go_loopw [7, 8, 9] (fun qv rv kv wr => ∃ (k : Nat) (q r : Int), k ≤ 63 ∧ qv = .int .i64 q ∧ rv = .int .i64 r ∧ kv = .int .i64 ((k : Int) - 1) ∧ (0 ≤ r ∧ r < all) ∧ Hid (q * all + r = A / 2 ^ k * f) ∧ w = wr) (fun _ _ kv _ => (intOf kv + 1).toNat)
  case atStart =>
    refine ⟨63, 0, 0, Nat.le_refl _, rfl, rfl, rfl, ⟨by omega, hall.1⟩, Lib.hid ?_, rfl⟩
    rw [Int.ediv_eq_zero_of_lt hA.1 (by have : (2:Int)^63 = 9223372036854775808 := by decide
                                        omega)]; simp
  case round =>
    obtain ⟨k, q, r, hk, rfl, rfl, rfl, hr, HQ, rfl⟩ := hrel
    rcases k with _ | j
    · have E : Hid (q = A * f / all) := Lib.hid (share_end A f all q r hr (by rw [HQ.out]; simp))
      have g0 : decide (0 ≤ ((0 : Nat) : Int) - 1) = false := by decide
      go_wp2_with fail
      go_ret
      exact ⟨by rw [E.out]; rfl, rfl⟩
    · obtain ⟨P, hP⟩ : ∃ P, P = A / 2 ^ j := ⟨_, rfl⟩
      have hp2 : (0 : Int) < 2 ^ j := Int.pow_pos (by decide)
      have hP2 : A / 2 ^ (j + 1) = P / 2 := by rw [hP, Int.pow_succ, Int.ediv_ediv_of_nonneg (Int.le_of_lt hp2)]
      have hP0 : 0 ≤ P ∧ P ≤ A := by rw [hP]; exact ⟨Int.ediv_nonneg hA.1 (Int.le_of_lt hp2), Int.ediv_le_self _ hA.1⟩
      have hq := HQ.out
      rw [hP2] at hq
      have hqb := share_q (A := P / 2) (by omega) hf hall.1 hr hq
      have ej : ((j + 1 : Nat) : Int) - 1 = (j : Int) := by omega
      rw [ej]
      have g0 : decide (0 ≤ (j : Int)) = true := decide_eq_true (by omega)
      obtain ⟨bit, hbit⟩ : ∃ bit, bit = P % 2 := ⟨_, rfl⟩
      have HSB := Lib.hid (share_bit (P / 2) f all q r bit hall.1 hf.1 hf.2 (by omega) hr hq)
      have HS0 := Lib.hid (share_bit (P / 2) f all q r 0 hall.1 hf.1 hf.2 (Or.inl rfl) hr hq)
      have hPe : 2 * (P / 2) + bit = P := by omega
      have HPE := Lib.hid (And.intro hPe (And.intro hP hbit))
      have hb01 : bit = 0 ∨ bit = 1 := by omega
      have HBT : Hid (bits .and .i64 (A / 2 ^ j) 1 = bit) := Lib.hid (by rw [← hP, hbit]; exact and_one_i P (by omega) (by omega))
      clear hq hP2 hPe ej hbit hP HQ
      have w1 : IntKind.i64.wrap (2 * q) = 2 * q := IntWalk.i64_in _ ⟨by omega, by omega⟩
      have w2 : IntKind.i64.wrap (all - r) = all - r := IntWalk.i64_in _ ⟨by omega, by omega⟩
      have w3 : IntKind.i64.wrap (all - f) = all - f := IntWalk.i64_in _ ⟨by omega, by omega⟩
      have wj : IntKind.i64.wrap ((j : Int) - 1) = (j : Int) - 1 := IntWalk.i64_in _ ⟨by omega, by omega⟩
      by_cases h1 : all - r ≤ r
      · have d1 : decide (all - r ≤ r) = true := decide_eq_true h1
        have w4 : IntKind.i64.wrap (r - (all - r)) = r - (all - r) := IntWalk.i64_in _ ⟨by omega, by omega⟩
        have w5 : IntKind.i64.wrap (2 * q + 1) = 2 * q + 1 := IntWalk.i64_in _ ⟨by omega, by omega⟩
        go_upto_region 11 with (fail)
        obtain ⟨q2, hq2⟩ : ∃ q2, q2 = addWhole r r all (q + q) := ⟨_, rfl⟩
        obtain ⟨r2, hr2⟩ : ∃ r2, r2 = addRest r r all := ⟨_, rfl⟩
        have eq2 : 2 * q + 1 = q2 := by rw [hq2]; unfold addWhole; rw [if_pos (by omega)]; omega
        have er2 : r - (all - r) = r2 := by rw [hr2]; unfold addRest; rw [if_pos (by omega)]; omega
        have HSC : Hid ((0 ≤ (if bit = 1 then addRest r2 f all else r2) ∧ (if bit = 1 then addRest r2 f all else r2) < all) ∧ (if bit = 1 then addWhole r2 f all q2 else q2) * all + (if bit = 1 then addRest r2 f all else r2) = P * f) := Lib.hid (by
          have h := HSB.out
          rw [HPE.out.1] at h
          simp only [← hq2, ← hr2] at h; exact h)
        rw [eq2, er2]
        have b2 : 0 ≤ r2 ∧ r2 < all ∧ 0 ≤ q2 ∧ q2 ≤ P := by
          have h := HS0.out
          simp only [← hq2, ← hr2, show ¬ (0 : Int) = 1 by decide, if_false] at h
          have h3 := share_q (A := 2 * (P / 2) + 0) (by omega) hf hall.1 h.1 h.2
          omega
        clear eq2 er2 hq2 hr2 HSB HS0 d1 h1
        have HBU := HBT.out
        by_cases hb1 : bit = 1
        · have e1 : (bit == 1) = true := beq_iff_eq.2 hb1
          by_cases h2 : all - f ≤ r2
          · have d2 : decide (all - f ≤ r2) = true := decide_eq_true h2
            have w4 : IntKind.i64.wrap (r2 - (all - f)) = r2 - (all - f) := IntWalk.i64_in _ ⟨by omega, by omega⟩
            have HQ1 : Hid (q2 + 1 ≤ P) := Lib.hid (by
              have h := HSC.out
              simp only [if_pos hb1] at h
              unfold addRest addWhole at h
              simp only [if_pos (show all ≤ r2 + f by omega)] at h
              exact (share_q hP0.1 hf hall.1 h.1 h.2).2)
            have w5 : IntKind.i64.wrap (q2 + 1) = q2 + 1 := IntWalk.i64_in _ ⟨by omega, by have := HQ1.out; omega⟩
            go_wp2_with fail
            go_roundw
            case rel =>
              have h := HSC.out
              simp only [if_pos hb1] at h
              unfold addRest addWhole at h
              simp only [if_pos (show all ≤ r2 + f by omega)] at h
              refine ⟨j, _, _, by omega, rfl, rfl, by go_num, ?_, Lib.hid ?_, trivial⟩
              · omega
              · rw [← HPE.out.2.1, ← h.2, show r2 - (all - f) = r2 + f - all by omega]
            case measure => simp [intOf] <;> omega
          · have d2 : decide (all - f ≤ r2) = false := decide_eq_false h2
            have w4 : IntKind.i64.wrap (r2 + f) = r2 + f := IntWalk.i64_in _ ⟨by omega, by omega⟩
            go_wp2_with fail
            go_roundw
            case rel =>
              have h := HSC.out
              simp only [if_pos hb1] at h
              unfold addRest addWhole at h
              simp only [if_neg (show ¬ all ≤ r2 + f by omega)] at h
              exact ⟨j, _, _, by omega, rfl, rfl, by go_num, h.1, Lib.hid (by rw [← HPE.out.2.1]; exact h.2), trivial⟩
            case measure => simp [intOf] <;> omega
        · have e1 : (bit == 1) = false := beq_eq_false_iff_ne.2 hb1
          go_wp2_with fail
          go_roundw
          case rel =>
            have h := HSC.out
            simp only [if_neg hb1] at h
            exact ⟨j, _, _, by omega, rfl, rfl, by go_num, h.1, Lib.hid (by rw [← HPE.out.2.1]; exact h.2), trivial⟩
          case measure => simp [intOf] <;> omega
      · have d1 : decide (all - r ≤ r) = false := decide_eq_false h1
        have w4 : IntKind.i64.wrap (2 * r) = 2 * r := IntWalk.i64_in _ ⟨by omega, by omega⟩
        go_upto_region 11 with (fail)
        obtain ⟨q2, hq2⟩ : ∃ q2, q2 = addWhole r r all (q + q) := ⟨_, rfl⟩
        obtain ⟨r2, hr2⟩ : ∃ r2, r2 = addRest r r all := ⟨_, rfl⟩
        have eq2 : 2 * q = q2 := by rw [hq2]; unfold addWhole; rw [if_neg (by omega)]; omega
        have er2 : 2 * r = r2 := by rw [hr2]; unfold addRest; rw [if_neg (by omega)]; omega
        have HSC : Hid ((0 ≤ (if bit = 1 then addRest r2 f all else r2) ∧ (if bit = 1 then addRest r2 f all else r2) < all) ∧ (if bit = 1 then addWhole r2 f all q2 else q2) * all + (if bit = 1 then addRest r2 f all else r2) = P * f) := Lib.hid (by
          have h := HSB.out
          rw [HPE.out.1] at h
          simp only [← hq2, ← hr2] at h; exact h)
        rw [eq2, er2]
        have b2 : 0 ≤ r2 ∧ r2 < all ∧ 0 ≤ q2 ∧ q2 ≤ P := by
          have h := HS0.out
          simp only [← hq2, ← hr2, show ¬ (0 : Int) = 1 by decide, if_false] at h
          have h3 := share_q (A := 2 * (P / 2) + 0) (by omega) hf hall.1 h.1 h.2
          omega
        clear eq2 er2 hq2 hr2 HSB HS0 d1 h1
        have HBU := HBT.out
        by_cases hb1 : bit = 1
        · have e1 : (bit == 1) = true := beq_iff_eq.2 hb1
          by_cases h2 : all - f ≤ r2
          · have d2 : decide (all - f ≤ r2) = true := decide_eq_true h2
            have w4 : IntKind.i64.wrap (r2 - (all - f)) = r2 - (all - f) := IntWalk.i64_in _ ⟨by omega, by omega⟩
            have HQ1 : Hid (q2 + 1 ≤ P) := Lib.hid (by
              have h := HSC.out
              simp only [if_pos hb1] at h
              unfold addRest addWhole at h
              simp only [if_pos (show all ≤ r2 + f by omega)] at h
              exact (share_q hP0.1 hf hall.1 h.1 h.2).2)
            have w5 : IntKind.i64.wrap (q2 + 1) = q2 + 1 := IntWalk.i64_in _ ⟨by omega, by have := HQ1.out; omega⟩
            go_wp2_with fail
            go_roundw
            case rel =>
              have h := HSC.out
              simp only [if_pos hb1] at h
              unfold addRest addWhole at h
              simp only [if_pos (show all ≤ r2 + f by omega)] at h
              refine ⟨j, _, _, by omega, rfl, rfl, by go_num, ?_, Lib.hid ?_, trivial⟩
              · omega
              · rw [← HPE.out.2.1, ← h.2, show r2 - (all - f) = r2 + f - all by omega]
            case measure => simp [intOf] <;> omega
          · have d2 : decide (all - f ≤ r2) = false := decide_eq_false h2
            have w4 : IntKind.i64.wrap (r2 + f) = r2 + f := IntWalk.i64_in _ ⟨by omega, by omega⟩
            go_wp2_with fail
            go_roundw
            case rel =>
              have h := HSC.out
              simp only [if_pos hb1] at h
              unfold addRest addWhole at h
              simp only [if_neg (show ¬ all ≤ r2 + f by omega)] at h
              exact ⟨j, _, _, by omega, rfl, rfl, by go_num, h.1, Lib.hid (by rw [← HPE.out.2.1]; exact h.2), trivial⟩
            case measure => simp [intOf] <;> omega
        · have e1 : (bit == 1) = false := beq_eq_false_iff_ne.2 hb1
          go_wp2_with fail
          go_roundw
          case rel =>
            have h := HSC.out
            simp only [if_neg hb1] at h
            exact ⟨j, _, _, by omega, rfl, rfl, by go_num, h.1, Lib.hid (by rw [← HPE.out.2.1]; exact h.2), trivial⟩
          case measure => simp [intOf] <;> omega
end Go.Proofs.Ytbopeofglhkffaa
set_option linter.unusedSimpArgs false
set_option linter.unusedVariables false
namespace Go.Proofs.Ytbopeofglhkffaa
open Go.RowKit
attribute [local go_sem] block_of_add
theorem fm_congr {l : List Nat} {f g : Nat → List Value} (h : ∀ k ∈ l, f k = g k) : l.flatMap f = l.flatMap g := by
  rw [List.flatMap_def, List.flatMap_def, List.map_congr_left h]
/-! Items as the document keeps them, with what its rounds turn. -/
def rfC (x : It) : List Value := styCells x.s ++ [.int .i64 x.left, .int .i64 x.right, .int .i64 x.sides, .int .i64 x.base, .int .i64 x.guess, .int .i64 x.factor, .bool x.held, .int .i64 x.width]
def rfsC (M : Nat → It) (n : Nat) : List Value := (List.range n).flatMap fun k => rfC (M k)
theorem rfC_len (x : It) : (rfC x).length = 51 := rfl
theorem rfsC_succ (M : Nat → It) (n : Nat) : rfsC M (n + 1) = rfsC M n ++ rfC (M n) := by simp [rfsC, List.range_succ]
theorem rfsC_len (M : Nat → It) : ∀ n, (rfsC M n).length = n * 51
  | 0 => rfl
  | n + 1 => by rw [rfsC_succ, List.length_append, rfsC_len M n, rfC_len]; omega
theorem rfsC_at (M : Nat → It) : ∀ (n k j : Nat), k < n → j < 51 → (rfsC M n)[k * 51 + j]? = (rfC (M k))[j]?
  | 0, k, j, h, _ => by omega
  | n + 1, k, j, h, hj => by
    rw [rfsC_succ]
    by_cases e : k = n
    · subst e; rw [List.getElem?_append_right (by rw [rfsC_len]; omega), rfsC_len, show k * 51 + j - k * 51 = j by omega]
    · rw [List.getElem?_append_left (by rw [rfsC_len]; omega)]; exact rfsC_at M n k j (by omega) hj
theorem rfsC_set (M M2 : Nat → It) (k j : Nat) (u : Value) (hj : j < 51) (hk : (rfC (M k)).set j u = rfC (M2 k)) (hne : ∀ i, i ≠ k → rfC (M2 i) = rfC (M i)) : ∀ n, k < n → (rfsC M n).set (k * 51 + j) u = rfsC M2 n
  | 0, h => by omega
  | n + 1, h => by
    rw [rfsC_succ, rfsC_succ]
    by_cases e : k = n
    · subst e
      rw [List.set_append_right _ _ (by rw [rfsC_len]; omega), rfsC_len, show k * 51 + j - k * 51 = j by omega, hk]
      congr 1
      unfold rfsC
      exact fm_congr fun i hi => (hne i (by have := List.mem_range.1 hi; omega)).symm
    · rw [List.set_append_left _ _ (by rw [rfsC_len]; omega), rfsC_set M M2 k j u hj hk hne n (by omega), hne n (fun e2 => e e2.symm)]
theorem rfsC_congr {M M2 : Nat → It} {n : Nat} (h : ∀ k, k < n → rfC (M2 k) = rfC (M k)) : rfsC M2 n = rfsC M n := by
  unfold rfsC
  exact fm_congr fun i hi => h i (List.mem_range.1 hi)
theorem ris_rfs (M : Nat → It) (n : Nat) (h : ∀ k, k < n → (M k).factor = 0 ∧ (M k).held = false ∧ (M k).width = 0) : risC M n = rfsC M n := by
  unfold risC rfsC
  refine fm_congr fun i hi => ?_
  obtain ⟨h1, h2, h3⟩ := h i (List.mem_range.1 hi)
  unfold riC riCells rfC
  rw [h1, h2, h3]
/-- The row of pointers. -/
def rpC (g : Nat) (ks : List Nat) : List Value := ks.map fun k => Value.pointer (some ⟨g, k * 51, none⟩)
theorem rpC_app (g : Nat) (ks : List Nat) (k : Nat) : rpC g (ks ++ [k]) = rpC g ks ++ [.pointer (some ⟨g, k * 51, none⟩)] := by simp [rpC]
/-- All items, in the block g. -/
structure RIt (g base n c : Nat) (M : Nat → It) (W : World) : Prop where
  own : W.ownsRow base 97 51 (.slice (some ⟨g, 0, none⟩) n c) n (rfsC M n)
section
variable {g base n c k : Nat} {M M2 : Nat → It} {W W' : World}
theorem RIt.cell (h : RIt g base n c M W) (hk : k < n) (j : Nat) {u : Value} (hu : (rfC (M k))[j]? = some u) : W.cell? ⟨g, k * 51 + j, none⟩ = some u := by
  have hj : j < 51 := by have := (List.getElem?_eq_some_iff.1 hu).1; rw [rfC_len] at this; exact this
  have h3 := (@World.ownsRow.cells _ _ _ _ _ _ _ h.own) (g := g) rfl (k * 51 + j) u (by rw [rfsC_at M n k j hk hj]; exact hu)
  have ha : (⟨g, 0, none⟩ : Addr).add (k * 51 + j) = ⟨g, k * 51 + j, none⟩ := by unfold Addr.add; split <;> simp_all
  rw [ha] at h3; exact h3
theorem RIt.frozen (h : RIt g base n c M W) (j : Nat) : W.frozen? ⟨g, j, none⟩ = false := h.own.frozenAt j
theorem RIt.lt (h : RIt g base n c M W) : base ≤ g ∧ g < W.heap.size := h.own.lt g rfl
theorem RIt.kp {bad : Nat → Prop} (h : RIt g base n c M W) (hk : Kp bad W W') (hn : ¬ bad g) : RIt g base n c M W' := ⟨own_kp h.own hk fun g' e => by injection e with e; subst e; exact hn⟩
theorem RIt.drewN (h : RIt g base n c M W) (i : Nat) : RIt g base n c M (W.drewN i) := h.kp (bad := fun _ => False) ((Kp.refl _ _).drewN i) (fun h => h)
theorem RIt.far (h : RIt g base n c M W) {p : Addr} (hp : p.block ≠ g) (u : Value) : RIt g base n c M (W.setCell p u) := ⟨ownsRow_setCell_other h.own (fun e => hp (by injection e with e; exact e.symm)) u⟩
theorem RIt.set (h : RIt g base n c M W) (hk : k < n) (j : Nat) (u : Value) (hj : j < 51) (he : (rfC (M k)).set j u = rfC (M2 k)) (hne : ∀ i, i ≠ k → rfC (M2 i) = rfC (M i)) : RIt g base n c M2 (W.setCell ⟨g, k * 51 + j, none⟩ u) := by
  have h1 := (h.own.stored (k * 51 + j) u).1
  rw [rfsC_set M M2 k j u hj he hne n hk] at h1
  exact ⟨h1⟩
theorem RIt.same (h : RIt g base n c M W) (he : ∀ k, k < n → rfC (M2 k) = rfC (M k)) : RIt g base n c M2 W := ⟨by rw [rfsC_congr he]; exact h.own⟩
theorem RIt.rng (h : RIt g base n c M W) (hk : k < n) : ∀ j u, (styCells (M k).s)[j]? = some u → W.cell? ((⟨g, k * 51, none⟩ : Addr).add j) = some u := fun j u hu => by
  have hj := (List.getElem?_eq_some_iff.1 hu).1
  have h1 := h.cell hk j (u := u) (by unfold rfC; rw [List.getElem?_append_left hj]; exact hu)
  have ha : (⟨g, k * 51, none⟩ : Addr).add j = ⟨g, k * 51 + j, none⟩ := by unfold Addr.add; split <;> simp_all
  rw [ha]; exact h1
end
/-! Sums over a row, as they are reckoned. -/
theorem sum_oth (M : Nat → It) (f : It → Int) (ks : List Nat) : (ks.map fun k => if (M k).held then 0 else f (M k)).sum = sumM M f (othM M ks) := by
  induction ks with
  | nil => rfl
  | cons a t ih =>
    unfold sumM othM at ih ⊢
    rw [List.map_cons, List.sum_cons, ih]
    cases h : (M a).held <;> simp [List.filter_cons, h]
theorem idx_oth (M : Nat → It) (ks : List Nat) (hd : ks.Nodup) (i : Nat) (h : i < ks.length) (hh : (M ks[i]).held = false) : (othM M ks).idxOf ks[i] = (othM M (ks.take i)).length := by
  have e : ks = ks.take i ++ ks[i] :: ks.drop (i + 1) := by rw [← List.drop_eq_getElem_cons h, List.take_append_drop]
  have hn : ks[i] ∉ ks.take i := fun hm => by
    have hd2 := hd
    rw [e] at hd2
    exact (List.nodup_append.1 hd2).2.2 _ hm _ List.mem_cons_self rfl
  have e2 : othM M ks = othM M (ks.take i) ++ ks[i] :: othM M (ks.drop (i + 1)) := by
    have : othM M ks = othM M (ks.take i ++ ks[i] :: ks.drop (i + 1)) := by rw [← e]
    rw [this]
    unfold othM
    rw [List.filter_append, List.filter_cons, if_pos (by rw [hh]; rfl)]
  rw [e2, List.idxOf_append, if_neg (show ¬ ks[i] ∈ othM M (ks.take i) from fun hm => hn (List.mem_filter.1 hm).1), List.idxOf_cons_self]; simp
theorem othM_take1 (M : Nat → It) (ks : List Nat) (i : Nat) (h : i < ks.length) : (othM M (ks.take (i + 1))).length = (othM M (ks.take i)).length + (if (M ks[i]).held then 0 else 1) := by
  rw [othM_take M ks i h]; split <;> simp
/-- What is given to all. -/
def giveD (grows : Bool) (rest : Int) : Int := if (grows && decide (0 < rest)) || (!grows && decide (rest < 0)) then max rest (-rest) else 0
theorem giveD_eq (grows : Bool) (rest : Int) : giveD grows rest = max (if grows then rest else -rest) 0 := by
  unfold giveD
  cases grows
  · simp only [Bool.false_and, Bool.false_or, Bool.not_false, Bool.true_and, decide_eq_true_eq, Bool.false_eq_true, if_false]; split <;> omega
  · simp only [Bool.true_and, Bool.not_true, Bool.false_and, Bool.or_false, decide_eq_true_eq, if_true]; split <;> omega
/-- The share of one, before what is left is dealt. -/
def shD (M : Nat → It) (give all : Int) (k : Nat) : Int := if (M k).held then 0 else give * (M k).factor / all
theorem left_sum (M : Nat → It) (ks : List Nat) (give all : Int) : (ks.map (shD M give all)).sum = ((othM M ks).map (partM M give all)).sum := sum_oth M (fun x => give * x.factor / all) ks
/-- One's aim, by what is left and how many have had theirs. -/
theorem aim_eq (M : Nat → It) (ks : List Nat) (hd : ks.Nodup) (rest : Int) (grows : Bool) (i : Nat) (h : i < ks.length) (hh : (M ks[i]).held = false) (give all : Int) (hg : give = giveD grows rest) (ha : all = sumM M It.factor (othM M ks)) (hap : 0 < all) :
    aimF M (othM M ks) rest grows ks[i] = (if grows then (M ks[i]).base + (shD M give all ks[i] + (if ((othM M (ks.take i)).length : Int) < give - (ks.map (shD M give all)).sum then 1 else 0)) else (M ks[i]).base - (shD M give all ks[i] + (if ((othM M (ks.take i)).length : Int) < give - (ks.map (shD M give all)).sum then 1 else 0))) := by
  have hgd := giveD_eq grows rest
  rw [← hg] at hgd
  have hs : shD M give all ks[i] = partM M give all ks[i] := by unfold shD partM; rw [if_neg (by rw [hh]; simp)]
  rw [left_sum, hs]
  unfold aimF
  simp only [← ha]
  rw [idx_oth M ks hd i h hh]
  by_cases hle : (if grows = true then rest else -rest) ≤ 0
  · rw [if_pos (.inl hle)]
    have hg0 : give = 0 := by omega
    have hp : ∀ k, partM M give all k = 0 := fun k => by unfold partM; rw [hg0, Int.zero_mul, Int.zero_ediv]
    have hz : ((othM M ks).map (partM M give all)).sum = 0 := sum_zero _ _ fun k _ => hp k
    have hz2 : ¬ ((othM M (ks.take i)).length : Int) < 0 - 0 := by omega
    rw [hz, hp, hg0, if_neg hz2]
    cases grows
    · simp only [Bool.false_eq_true, if_false]; omega
    · simp only [if_true]; omega
  · rw [if_neg (by omega)]
    have : (if grows = true then rest else -rest) = give := by omega
    rw [this]
/-- The bounds of what is left. -/
theorem left_bd3 (M : Nat → It) (ks : List Nat) (give all : Int) (hg : 0 ≤ give) (ha : all = sumM M It.factor (othM M ks)) (hap : 0 < all) (hf : ∀ k ∈ othM M ks, 0 ≤ (M k).factor) :
    (0 ≤ give - (ks.map (shD M give all)).sum ∧ give - (ks.map (shD M give all)).sum ≤ ks.length) ∧ ∀ i, 0 ≤ ((ks.take i).map (shD M give all)).sum ∧ ((ks.take i).map (shD M give all)).sum ≤ give := by
  have hp : ∀ k ∈ ks, 0 ≤ shD M give all k := fun k hk => by
    unfold shD
    cases hh : (M k).held
    · rw [if_neg (by simp)]
      exact Int.ediv_nonneg (Int.mul_nonneg hg (hf k (List.mem_filter.2 ⟨hk, by rw [hh]; rfl⟩))) (by omega)
    · rw [if_pos rfl]; omega
  have hb := left_bd2 (othM M ks) (fun k => (M k).factor) give (by unfold sumM at ha; rw [← ha]; exact hap)
  have e : ((othM M ks).map fun k => give * (M k).factor / ((othM M ks).map fun k => (M k).factor).sum).sum = (ks.map (shD M give all)).sum := by
    rw [left_sum]
    unfold partM
    have : ((othM M ks).map fun k => (M k).factor).sum = all := by rw [ha]; rfl
    rw [this]
  rw [e] at hb
  have hl : (othM M ks).length ≤ ks.length := List.length_filter_le _ _
  refine ⟨⟨hb.1, by omega⟩, fun i => ?_⟩
  have h1 : (ks.map (shD M give all)).sum = ((ks.take i).map (shD M give all)).sum + ((ks.drop i).map (shD M give all)).sum := by
    rw [← List.sum_append, ← List.map_append, List.take_append_drop]
  have h2 := sum_nneg (ks.take i) (shD M give all) fun k hk => hp k (List.mem_of_mem_take hk)
  have h3 := sum_nneg (ks.drop i) (shD M give all) fun k hk => hp k (List.mem_of_mem_drop hk)
  omega
end Go.Proofs.Ytbopeofglhkffaa
set_option linter.unusedSimpArgs false
set_option linter.unusedVariables false
namespace Go.Proofs.Ytbopeofglhkffaa
open Go.RowKit
attribute [local go_sem] block_of_add
/-! Aims by their places. -/
def aC (a : Nat → Int) (m : Nat) : List Value := (List.range m).map fun i => Value.int .i64 (a i)
theorem aC_at (a : Nat → Int) {m i : Nat} (h : i < m) : (aC a m).toArray[i]? = some (.int .i64 (a i)) := by simp [aC, h]
theorem aC_set (a : Nat → Int) (m i : Nat) (x : Int) : (aC a m).toArray.setIfInBounds i (.int .i64 x) = (aC (fun j => if j = i then x else a j) m).toArray := by
  apply Array.toList_inj.1
  rw [Array.toList_setIfInBounds]
  apply List.ext_getElem?
  intro j
  rw [List.getElem?_set]
  unfold aC
  simp only [List.length_map, List.length_range, List.getElem?_map, List.getElem?_range]
  by_cases h : i = j
  · subst h
    by_cases hm : i < m
    · simp [hm]
    · simp [hm]
  · rw [if_neg h]
    by_cases hm : j < m
    · simp [hm, Ne.symm h, fun e : j = i => h e.symm]
    · simp [hm]
theorem aC_congr {a b : Nat → Int} {m : Nat} (h : ∀ j, j < m → a j = b j) : aC a m = aC b m := List.map_congr_left fun j hj => by rw [h j (List.mem_range.1 hj)]
theorem make_i64 (n : Nat) (hn : n ≤ 1000000) (w : World) : (Instr.makeSlice 23 (.int .i64 (n : Int)) (.int .i64 (n : Int))).run Try.prog w = .ok (.slice (some ⟨w.heap.size, 0, none⟩) n n) (w.alloc (.cells (aC (fun _ => 0) n).toArray 2)) := by
  obtain ⟨i, hi, hz, hs, hb⟩ := info_parts el_i642.info
  have h := run_makeSlice (P := Try.prog) (w := w) 23 2 i (.int .i64 0) el_i642.ht hi hz .i64 .i64 (n : Int) (n : Int) (by omega) (by omega) (by rw [hs]; omega) (by rw [hb]; omega) (by omega)
  have hm : madeCells (Value.int .i64 0).cells (n * 1) = (aC (fun _ => 0) n).toArray := by
    apply Array.toList_inj.1
    show (madeCells #[.int .i64 0] (n * 1)).toList = _
    rw [Nat.mul_one, toList_madeCells_one]
    apply List.ext_getElem <;> simp [aC]
  rw [h, hs, Int.toNat_natCast, hm]
/-- What a round asks. -/
structure RndB (c : Int) (M : Nat → It) (ks : List Nat) : Prop where
  sides : ∀ k ∈ ks, -30000000000000 ≤ (M k).sides ∧ (M k).sides ≤ 30000000000000
  base : ∀ k ∈ ks, -10995116277760 ≤ (M k).base ∧ (M k).base ≤ 10995116277760
  held : ∀ k ∈ ks, (M k).held = true → 0 ≤ (M k).width ∧ (M k).width ≤ 10995116277760
  fac : ∀ k ∈ ks, (M k).held = false → 0 < (M k).factor ∧ (M k).factor ≤ 1000000000000000
  lns : ∀ k ∈ ks, LnM (M k).s.maxw ∧ LnM (M k).s.minw ∧ (M k).c = c
  c : CB c
  ne : othM M ks ≠ []
  nd : ks.Nodup
  len : ks.length ≤ 1000
def fRd (M : Nat → It) (k : Nat) : Int := (M k).sides + (if (M k).held then (M k).width else (M k).base)
def fFd (M : Nat → It) (k : Nat) : Int := if (M k).held then 0 else (M k).factor
theorem fRd_sum (c : Int) (M : Nat → It) (ks : List Nat) : c - (ks.map (fRd M)).sum = restM (roomM c M ks) M ks := by
  have := sum_add ks (fun k => (M k).sides) (fun k => if (M k).held then (M k).width else (M k).base)
  unfold restM roomM sumM
  have e : (ks.map (fRd M)).sum = (ks.map fun k => (M k).sides + (if (M k).held then (M k).width else (M k).base)).sum := rfl
  have e2 : (ks.map fun k => (fun x : It => if x.held = true then x.width else x.base) (M k)).sum = (ks.map fun k => if (M k).held = true then (M k).width else (M k).base).sum := rfl
  rw [e, this, e2]; omega
theorem map_take_succ (f : Nat → Int) (ks : List Nat) (i : Nat) (h : i < ks.length) : ((ks.take (i + 1)).map f).sum = ((ks.take i).map f).sum + f ks[i] := by
  rw [List.take_succ_eq_append_getElem h, List.map_append, List.sum_append]; simp
theorem map_take_bd (f : Nat → Int) (ks : List Nat) (b : Int) (h : ∀ k ∈ ks, -b ≤ f k ∧ f k ≤ b) (hb : 0 ≤ b) (hl : ks.length ≤ 1000) (i : Nat) : -(1000 * b) ≤ ((ks.take i).map f).sum ∧ ((ks.take i).map f).sum ≤ 1000 * b := by
  have h1 := sum_abs (ks.take i) f b fun k hk => h k (List.mem_of_mem_take hk)
  have h2 : b * ((ks.take i).length : Int) ≤ b * 1000 := Int.mul_le_mul_of_nonneg_left (by have := List.length_take (i := i) (l := ks); omega) hb
  omega
/-- The numbers of a round, and their bounds. -/
structure RndN (c : Int) (grows : Bool) (M : Nat → It) (ks : List Nat) (rest all give lf : Int) (ad : Nat → Int) (way : Int) : Prop where
  rE : rest = restM (roomM c M ks) M ks
  rB : -45000000000000000 ≤ rest ∧ rest ≤ 45000000000000000
  allE : all = sumM M It.factor (othM M ks)
  allB : 0 < all ∧ all ≤ 1000000000000000000
  gE : give = giveD grows rest
  gB : 0 ≤ give ∧ give ≤ 45000000000000000
  lE : lf = give - (ks.map (shD M give all)).sum
  lB : 0 ≤ lf ∧ lf ≤ 1000
  shB : ∀ i, 0 ≤ ((ks.take i).map (shD M give all)).sum ∧ ((ks.take i).map (shD M give all)).sum ≤ give
  sh0 : ∀ k ∈ ks, 0 ≤ shD M give all k ∧ shD M give all k ≤ give
  fle : ∀ k ∈ ks, (M k).held = false → (M k).factor ≤ all
  adE : ∀ (i : Nat) (h : i < ks.length), (M ks[i]).held = false → ad ks[i] = (if grows then (M ks[i]).base + (shD M give all ks[i] + (if ((othM M (ks.take i)).length : Int) < lf then 1 else 0)) else (M ks[i]).base - (shD M give all ks[i] + (if ((othM M (ks.take i)).length : Int) < lf then 1 else 0)))
  adB : ∀ k ∈ ks, (M k).held = false → -46000000000000000 ≤ ad k ∧ ad k ≤ 46000000000000000
  tE : way = cmpI (ks.map fun k => if (M k).held then 0 else clampF (M k).s c (ad k) - ad k).sum 0
  tB : ∀ i, -100000000000000000 ≤ ((ks.take i).map fun k => if (M k).held then 0 else clampF (M k).s c (ad k) - ad k).sum ∧ ((ks.take i).map fun k => if (M k).held then 0 else clampF (M k).s c (ad k) - ad k).sum ≤ 100000000000000000
  fin : ∀ k ∈ ks, rfC (roundM (roomM c M ks) grows M ks k) = if (M k).held then rfC (M k) else if way = 0 ∨ cmpI (clampF (M k).s c (ad k)) (ad k) = way then rfC { M k with held := true, width := clampF (M k).s c (ad k) } else rfC (M k)
  out : ∀ k, k ∉ ks → roundM (roomM c M ks) grows M ks k = M k
theorem rnd_n {c : Int} {grows : Bool} {M : Nat → It} {ks : List Nat} (h : RndB c M ks) : ∃ rest all give lf ad way, RndN c grows M ks rest all give lf ad way := by
  have hmem : ∀ k ∈ ks, (M k).held = false → k ∈ othM M ks := fun k hk hh => List.mem_filter.2 ⟨hk, by rw [hh]; rfl⟩
  have hun : ∀ k ∈ othM M ks, k ∈ ks ∧ (M k).held = false := fun k hk => by
    obtain ⟨h1, h2⟩ := List.mem_filter.1 hk
    exact ⟨h1, by simpa using h2⟩
  obtain ⟨rest, hr⟩ : ∃ rest, rest = restM (roomM c M ks) M ks := ⟨_, rfl⟩
  obtain ⟨all, ha⟩ : ∃ all, all = sumM M It.factor (othM M ks) := ⟨_, rfl⟩
  obtain ⟨give, hg⟩ : ∃ give, give = giveD grows rest := ⟨_, rfl⟩
  obtain ⟨lf, hl⟩ : ∃ lf, lf = give - (ks.map (shD M give all)).sum := ⟨_, rfl⟩
  have hcb := h.c.b
  have hlen := h.len
  have hrb : -45000000000000000 ≤ rest ∧ rest ≤ 45000000000000000 := by
    have h1 := map_take_bd (fRd M) ks 41000000000000 (fun k hk => by
      have h1 := h.sides k hk
      have h2 := h.base k hk
      unfold fRd
      cases hh : (M k).held
      · rw [if_neg (by simp)]; omega
      · have h3 := h.held k hk hh
        rw [if_pos rfl]; omega) (by omega) hlen ks.length
    rw [List.take_length] at h1
    rw [hr, ← fRd_sum]; omega
  have hfo : ∀ k ∈ othM M ks, 0 < (M k).factor ∧ (M k).factor ≤ 1000000000000000 := fun k hk => h.fac k (hun k hk).1 (hun k hk).2
  have hab : 0 < all ∧ all ≤ 1000000000000000000 := by
    have h1 := sum_one (othM M ks) (fun k => (M k).factor) fun k hk => (hfo k hk).1
    have h2 := sum_abs (othM M ks) (fun k => (M k).factor) 1000000000000000 fun k hk => by have := hfo k hk; omega
    have h3 : (othM M ks).length ≤ ks.length := List.length_filter_le _ _
    have h4 := List.length_pos_iff.2 h.ne
    have e : all = ((othM M ks).map fun k => (M k).factor).sum := by rw [ha]; rfl
    rw [e]; omega
  have hfle : ∀ k ∈ ks, (M k).held = false → (M k).factor ≤ all := fun k hk hh => by
    have h1 := hmem k hk hh
    obtain ⟨x, y, e⟩ := List.append_of_mem h1
    have h2 := sum_nneg x (fun k => (M k).factor) fun j hj => by have := hfo j (by rw [e]; simp [hj]); omega
    have h3 := sum_nneg y (fun k => (M k).factor) fun j hj => by have := hfo j (by rw [e]; simp [hj]); omega
    have e2 : all = (x.map fun k => (M k).factor).sum + ((M k).factor + (y.map fun k => (M k).factor).sum) := by
      rw [ha]; unfold sumM; rw [e, List.map_append, List.sum_append, List.map_cons, List.sum_cons]
    omega
  have hgb : 0 ≤ give ∧ give ≤ 45000000000000000 := by
    have := giveD_eq grows rest
    rw [← hg] at this
    cases grows <;> simp at this <;> omega
  have hlb := left_bd3 M ks give all hgb.1 ha hab.1 fun k hk => by have := hfo k hk; omega
  rw [← hl] at hlb
  have hsh0 : ∀ k ∈ ks, 0 ≤ shD M give all k ∧ shD M give all k ≤ give := fun k hk => by
    unfold shD
    cases hh : (M k).held
    · rw [if_neg (by simp)]
      have h1 := h.fac k hk hh
      exact ⟨Int.ediv_nonneg (Int.mul_nonneg hgb.1 (by omega)) (by omega), Int.ediv_le_of_le_mul hab.1 (Int.mul_le_mul_of_nonneg_left (hfle k hk hh) hgb.1)⟩
    · rw [if_pos rfl]; omega
  obtain ⟨ad, had⟩ : ∃ ad, ad = aimF M (othM M ks) rest grows := ⟨_, rfl⟩
  have hadE : ∀ (i : Nat) (h : i < ks.length), (M ks[i]).held = false → ad ks[i] = (if grows then (M ks[i]).base + (shD M give all ks[i] + (if ((othM M (ks.take i)).length : Int) < lf then 1 else 0)) else (M ks[i]).base - (shD M give all ks[i] + (if ((othM M (ks.take i)).length : Int) < lf then 1 else 0))) := fun i hi hh => by
    rw [had, hl]; exact aim_eq M ks h.nd rest grows i hi hh give all hg ha hab.1
  have hab2 : ∀ k ∈ ks, (M k).held = false → -(10995116277760 + shD M give all k + 1) ≤ ad k ∧ ad k ≤ 10995116277760 + shD M give all k + 1 := fun k hk hh => by
    obtain ⟨i, hi, rfl⟩ := List.mem_iff_getElem.1 hk
    rw [hadE i hi hh]
    have h1 := h.base _ hk
    have h2 := hsh0 _ hk
    cases grows <;> simp only [Bool.false_eq_true, if_true, if_false] <;> split <;> omega
  have hAk : ∀ j ∈ othM M ks, aimsM M (othM M ks) rest grows j = { M j with aim := ad j } := fun j hj => by rw [had]; unfold aimsM; rw [if_pos hj]
  have hway : wayM (aimsM M (othM M ks) rest grows) (othM M ks) = cmpI (ks.map fun k => if (M k).held then 0 else clampF (M k).s c (ad k) - ad k).sum 0 := by
    unfold wayM
    congr 1
    have e1 : sumM (aimsM M (othM M ks) rest grows) (fun x => clW x - x.aim) (othM M ks) = ((othM M ks).map fun k => clampF (M k).s c (ad k) - ad k).sum := by
      unfold sumM
      refine sum_eqs _ _ _ fun k hk => ?_
      have hc := (h.lns k (hun k hk).1).2.2
      rw [hAk k hk]
      show clampF (M k).s (M k).c (ad k) - ad k = _
      rw [hc]
    rw [e1]
    have e2 : (ks.map fun k => if (M k).held then 0 else clampF (M k).s c (ad k) - ad k).sum = ((othM M ks).map fun k => clampF (M k).s c (ad k) - ad k).sum := by
      have : ∀ l : List Nat, (l.map fun k => if (M k).held then 0 else clampF (M k).s c (ad k) - ad k).sum = ((othM M l).map fun k => clampF (M k).s c (ad k) - ad k).sum := fun l => by
        induction l with
        | nil => rfl
        | cons a t ih =>
          unfold othM at ih ⊢
          rw [List.map_cons, List.sum_cons, ih]
          cases hh : (M a).held <;> simp [List.filter_cons, hh]
      exact this ks
    rw [e2]
  have htb : ∀ k ∈ ks, -(21990232555520 + shD M give all k + 1) ≤ (if (M k).held then 0 else clampF (M k).s c (ad k) - ad k) ∧ (if (M k).held then 0 else clampF (M k).s c (ad k) - ad k) ≤ 21990232555520 + shD M give all k + 1 := fun k hk => by
    have h2 := hsh0 k hk
    cases hh : (M k).held
    · rw [if_neg (by simp)]
      have h1 := hab2 k hk hh
      obtain ⟨l1, l2, _⟩ := h.lns k hk
      by_cases he : clampF (M k).s c (ad k) = ad k
      · rw [he]; omega
      · have := clamp_off l1 l2 h.c he; omega
    · rw [if_pos rfl]; omega
  have htu : ∀ i, -100000000000000000 ≤ ((ks.take i).map fun k => if (M k).held then 0 else clampF (M k).s c (ad k) - ad k).sum ∧ ((ks.take i).map fun k => if (M k).held then 0 else clampF (M k).s c (ad k) - ad k).sum ≤ 100000000000000000 := fun i => by
    have gen : ∀ l : List Nat, (∀ k ∈ l, k ∈ ks) → -(21990232555521 * (l.length : Int) + (l.map (shD M give all)).sum) ≤ (l.map fun k => if (M k).held then 0 else clampF (M k).s c (ad k) - ad k).sum ∧ (l.map fun k => if (M k).held then 0 else clampF (M k).s c (ad k) - ad k).sum ≤ 21990232555521 * (l.length : Int) + (l.map (shD M give all)).sum := fun l hl => by
      induction l with
      | nil => simp
      | cons a t ih =>
        have h1 := ih fun k hk => hl k (by simp [hk])
        have h2 := htb a (hl a (by simp))
        rw [List.map_cons, List.sum_cons, List.map_cons, List.sum_cons, List.length_cons]
        omega
    have h1 := gen (ks.take i) fun k hk => List.mem_of_mem_take hk
    have h2 := hlb.2 i
    have h3 : (ks.take i).length ≤ 1000 := by have := List.length_take (i := i) (l := ks); omega
    omega
  refine ⟨rest, all, give, lf, ad, _, hr, hrb, ha, hab, hg, hgb, hl, ⟨hlb.1.1, by omega⟩, hlb.2, hsh0, hfle, hadE, fun k hk hh => ?_, rfl, htu, fun k hk => ?_, fun k hk => ?_⟩
  · have h1 := hab2 k hk hh
    have h2 := hsh0 k hk
    omega
  · rw [← hway]
    cases hh : (M k).held
    · have hko := hmem k hk hh
      have hc := (h.lns k hk).2.2
      rw [if_neg (by simp)]
      have e : roundM (roomM c M ks) grows M ks k = holdI (wayM (aimsM M (othM M ks) rest grows) (othM M ks)) (aimsM M (othM M ks) rest grows k) := by
        unfold roundM holdM; rw [if_pos hko, ← hr]
      rw [e, hAk k hko]
      unfold holdI
      have ecl : clW { M k with aim := ad k } = clampF (M k).s c (ad k) := by
        show clampF (M k).s (M k).c (ad k) = _
        rw [hc]
      rw [ecl]
      show rfC (if wayM (aimsM M (othM M ks) rest grows) (othM M ks) = 0 ∨ cmpI (clampF (M k).s c (ad k)) (ad k) = wayM (aimsM M (othM M ks) rest grows) (othM M ks) then _ else _) = _
      split <;> rfl
    · rw [if_pos rfl]
      have hjo : k ∉ othM M ks := fun h => by have := (List.mem_filter.1 h).2; rw [hh] at this; cases this
      unfold roundM holdM aimsM
      rw [if_neg hjo, if_neg hjo]
  · have hjo : k ∉ othM M ks := fun h => hk (List.mem_filter.1 h).1
    unfold roundM holdM aimsM
    rw [if_neg hjo, if_neg hjo]
/-- The round's memory. -/
structure RdS (g ga base n ci m : Nat) (M : Nat → It) (a : Nat → Int) (w W : World) : Prop where
  it : RIt g base n ci M W
  am : Blk W ga 2 (aC a m).toArray
  k : Kp (fun b => b = g) w W
  lo : w.heap.size ≤ ga
  gl : g < w.heap.size
section
variable {g ga base n ci m kk : Nat} {M M2 : Nat → It} {a b : Nat → Int} {w W W' : World}
theorem RdS.bel (h : RdS g ga base n ci m M a w W) (hb : Below W.heap.size W W') : RdS g ga base n ci m M a w W' :=
  ⟨h.it.kp (Kp.of_below hb (fun _ => False)) (fun h => h), h.am.below hb h.am.lt, h.k.trans (Kp.of_below hb _), h.lo, h.gl⟩
theorem RdS.setA (h : RdS g ga base n ci m M a w W) (i : Nat) (x : Int) (he : ∀ j, j < m → b j = if j = i then x else a j) : RdS g ga base n ci m M b w (W.setCell ⟨ga, i, none⟩ (.int .i64 x)) :=
  ⟨h.it.far (by have := h.lo; have := h.gl; show ga ≠ g; omega) _, by
    have h1 := h.am.set_ i (.int .i64 x)
    rw [aC_set, show aC (fun j => if j = i then x else a j) m = aC b m from aC_congr fun j hj => (he j hj).symm] at h1
    exact h1, h.k.setCell (p := ⟨ga, i, none⟩) (.inr h.lo) _, h.lo, h.gl⟩
theorem RdS.setI (h : RdS g ga base n ci m M a w W) (hk : kk < n) (j : Nat) (u : Value) (hj : j < 51) (he : (rfC (M kk)).set j u = rfC (M2 kk)) (hne : ∀ i, i ≠ kk → rfC (M2 i) = rfC (M i)) : RdS g ga base n ci m M2 a w (W.setCell ⟨g, kk * 51 + j, none⟩ u) :=
  ⟨h.it.set hk j u hj he hne, h.am.far (by have := h.lo; have := h.gl; show ga ≠ g; omega) _, h.k.setCell (p := ⟨g, kk * 51 + j, none⟩) (.inl rfl) _, h.lo, h.gl⟩
theorem RdS.aims (h : RdS g ga base n ci m M a w W) (he : ∀ j, j < m → b j = a j) : RdS g ga base n ci m M b w W := ⟨h.it, by rw [aC_congr he]; exact h.am, h.k, h.lo, h.gl⟩
theorem RdS.same (h : RdS g ga base n ci m M a w W) (he : ∀ k, k < n → rfC (M2 k) = rfC (M k)) : RdS g ga base n ci m M2 a w W := ⟨h.it.same he, h.am, h.k, h.lo, h.gl⟩
end
def mixA (i : Nat) (f g : Nat → Int) (j : Nat) : Int := if j < i then f j else g j
def leftD (lf cnt : Int) : Int := if cnt < lf then lf - cnt else 0
def katD (ks : List Nat) (j : Nat) : Nat := (ks[j]?).getD 0
theorem kat_at {ks : List Nat} {i : Nat} (h : i < ks.length) : katD ks i = ks[i] := by unfold katD; rw [List.getElem?_eq_getElem h]; rfl
theorem mixA_step (i m : Nat) (f g : Nat → Int) : ∀ j, j < m → mixA (i + 1) f g j = if j = i then f i else mixA i f g j := fun j _ => by
  unfold mixA
  by_cases h : j = i
  · subst h; rw [if_pos (by omega), if_pos rfl]
  · rw [if_neg h]
    by_cases h2 : j < i
    · rw [if_pos (by omega), if_pos h2]
    · rw [if_neg (by omega), if_neg h2]
theorem mixA_at (i : Nat) (f g : Nat → Int) : mixA i f g i = g i := if_neg (by omega)
theorem mixA_end (m : Nat) (f g : Nat → Int) : ∀ j, j < m → mixA m f g j = f j := fun j h => if_pos h
def turnT (M : Nat → It) (c : Int) (ad : Nat → Int) (k : Nat) : Int := if (M k).held then 0 else clampF (M k).s c (ad k) - ad k
theorem turnT_eq (M : Nat → It) (c : Int) (ad : Nat → Int) : (fun k => if (M k).held then 0 else clampF (M k).s c (ad k) - ad k) = turnT M c ad := rfl
/-- The items behind the first i of a row are turned. -/
def stM (M R : Nat → It) (ks : List Nat) (i k : Nat) : It := if k ∈ ks.take i then R k else M k
theorem stM_other {M R : Nat → It} {ks : List Nat} {i : Nat} (h : i < ks.length) {k : Nat} (hk : k ≠ ks[i]) : stM M R ks (i + 1) k = stM M R ks i k := by
  unfold stM
  have : k ∈ ks.take (i + 1) ↔ k ∈ ks.take i := by
    rw [List.take_succ_eq_append_getElem h, List.mem_append, List.mem_singleton]
    exact ⟨fun h => h.resolve_right hk, .inl⟩
  by_cases hm : k ∈ ks.take i
  · rw [if_pos hm, if_pos (this.2 hm)]
  · rw [if_neg hm, if_neg (fun h => hm (this.1 h))]
theorem stM_new {M R : Nat → It} {ks : List Nat} {i : Nat} (h : i < ks.length) : stM M R ks (i + 1) ks[i] = R ks[i] := by
  unfold stM; rw [if_pos]
  have e := List.take_succ_eq_append_getElem h
  rw [e]; exact List.mem_append_right _ (List.mem_singleton.2 rfl)
theorem stM_old {M R : Nat → It} {ks : List Nat} {i : Nat} (hd : ks.Nodup) (h : i < ks.length) : stM M R ks i ks[i] = M ks[i] := by
  unfold stM
  rw [if_neg fun hm => ?_]
  have e : ks = ks.take i ++ ks[i] :: ks.drop (i + 1) := by rw [← List.drop_eq_getElem_cons h, List.take_append_drop]
  have hd2 := hd
  rw [e] at hd2
  exact (List.nodup_append.1 hd2).2.2 _ hm _ List.mem_cons_self rfl
set_option maxRecDepth 100000 in
set_option maxHeartbeats 4000000 in
theorem rround_any (g base n ci : Nat) (c : Int) (grows : Bool) (M : Nat → It) (ks : List Nat) (Ap : Option Addr) (cp : Nat) (w : World) (hb : RndB c M ks) (hn : ∀ k ∈ ks, k < n) (hi : RIt g base n ci M w) (hp : Reads w w.heap.size 1 Ap ks.length (rpC g ks)) (hpg : ∀ ad, Ap = some ad → ad.block ≠ g) :
    Calls Try.prog 45 #[.slice Ap ks.length cp, .int .i64 c, .bool grows] w fun e w' => e = .returned (.tuple #[]) ∧ RIt g base n ci (roundM (roomM c M ks) grows M ks) w' ∧ Kp (fun b => b = g) w w' := by
  obtain ⟨rest, all, give, lf, ad, way, hN⟩ := rnd_n (grows := grows) hb
  obtain ⟨m, hme⟩ : ∃ m, m = ks.length := ⟨_, rfl⟩
  rw [← hme] at hp ⊢
  have HB := Lib.hid hb
  have HN := Lib.hid hn
  have HI := Lib.hid hi
  have HX := Lib.hid hN
  have HM := Lib.hid hme
  have hm0 : m ≤ 1000 := by rw [hme]; exact hb.len
  have hcb := hb.c.b
  have HPP : Hid (∀ W, Kp (fun b => b = g) w W → ∀ i (h : i < ks.length), ∃ p : Addr, Ap = some p ∧ W.cell? (p.add i) = some (.pointer (some ⟨g, ks[i] * 51, none⟩))) := Lib.hid (fun W hk i h => by
    obtain ⟨p, u, e, hlt, hx, hc⟩ := hp.at_ (show i < m by rw [hme]; exact h)
    refine ⟨p, e, ?_⟩
    have hu : u = .pointer (some ⟨g, ks[i] * 51, none⟩) := by simpa [rpC, h] using hx.symm
    rw [← hu, ← hc]
    exact hk.cell (by rw [block_of_add]; exact hlt) (by rw [block_of_add]; exact hpg p e))
  have hgl := hi.lt.2
  clear hb hn hi hN hme hp hpg
  go_enter Try.func45, Try.ntmps45
  go_wp2_with fail
  go_loopw [6, 7, 8] (fun rv fv kv wr => ∃ i : Nat, i ≤ m ∧ kv = .int .i64 i ∧ rv = .int .i64 (c - ((ks.take i).map (fRd M)).sum) ∧ fv = .int .i64 (((ks.take i).map (fFd M)).sum) ∧ Hid (w = wr)) (fun _ _ kv _ => m - (intOf kv).toNat)
  case atStart => exact ⟨0, by omega, rfl, by simp, rfl, Lib.hid rfl⟩
  case round =>
    obtain ⟨i, hi, rfl, rfl, rfl, HW⟩ := hrel
    obtain rfl := HW.out
    clear HW
    have hsr : -41000000000000000 ≤ ((ks.take i).map (fRd M)).sum ∧ ((ks.take i).map (fRd M)).sum ≤ 41000000000000000 := by
      have := map_take_bd (fRd M) ks 41000000000000 (fun k hk => by
        have h1 := HB.out.sides k hk
        have h2 := HB.out.base k hk
        unfold fRd
        cases hh : (M k).held
        · rw [if_neg (by simp)]; omega
        · have h3 := HB.out.held k hk hh
          rw [if_pos rfl]; omega) (by omega) HB.out.len i
      omega
    have hsf : -1000000000000000000 ≤ ((ks.take i).map (fFd M)).sum ∧ ((ks.take i).map (fFd M)).sum ≤ 1000000000000000000 := by
      have := map_take_bd (fFd M) ks 1000000000000000 (fun k hk => by
        unfold fFd
        cases hh : (M k).held
        · have h3 := HB.out.fac k hk hh
          rw [if_neg (by simp)]; omega
        · rw [if_pos rfl]; omega) (by omega) HB.out.len i
      omega
    obtain ⟨SR, hSR⟩ : ∃ SR, SR = ((ks.take i).map (fRd M)).sum := ⟨_, rfl⟩
    obtain ⟨SF, hSF⟩ : ∃ SF, SF = ((ks.take i).map (fFd M)).sum := ⟨_, rfl⟩
    rw [← hSR] at hsr ⊢
    rw [← hSF] at hsf ⊢
    by_cases hlt : i < m
    · have q0 : decide ((i : Int) < (m : Int)) = true := decide_eq_true (by omega)
      have q0' : decide (i < m) = true := decide_eq_true hlt
      have hii : (i : Int) < (m : Int) := by omega
      have hi0 : (0 : Int) ≤ (i : Int) := by omega
      have wi : IntKind.i64.wrap ((i : Int) + 1) = (i : Int) + 1 := IntWalk.i64_in _ ⟨by omega, by omega⟩
      have hkl : i < ks.length := by rw [← HM.out]; exact hlt
      obtain ⟨k, hk⟩ : ∃ k, k = ks[i] := ⟨_, rfl⟩
      have hkm : k ∈ ks := by rw [hk]; exact List.getElem_mem hkl
      have hkn := HN.out k hkm
      obtain ⟨p, hA, c1⟩ := HPP.out w (Kp.refl _ _) i hkl
      rw [← hk] at c1
      subst hA
      obtain ⟨x, hx⟩ : ∃ x, x = M k := ⟨_, rfl⟩
      have HSN : Hid (((ks.take (i + 1)).map (fRd M)).sum = SR + fRd M k ∧ ((ks.take (i + 1)).map (fFd M)).sum = SF + fFd M k) := Lib.hid ⟨by rw [map_take_succ _ _ _ hkl, hSR, hk], by rw [map_take_succ _ _ _ hkl, hSF, hk]⟩
      have x45 : w.cell? ⟨g, k * 51 + 45, none⟩ = some (.int .i64 x.sides) := HI.out.cell hkn 45 (by rw [hx]; rfl)
      have x46 : w.cell? ⟨g, k * 51 + 46, none⟩ = some (.int .i64 x.base) := HI.out.cell hkn 46 (by rw [hx]; rfl)
      have x48 : w.cell? ⟨g, k * 51 + 48, none⟩ = some (.int .i64 x.factor) := HI.out.cell hkn 48 (by rw [hx]; rfl)
      have x49 : w.cell? ⟨g, k * 51 + 49, none⟩ = some (.bool x.held) := HI.out.cell hkn 49 (by rw [hx]; rfl)
      have x50 : w.cell? ⟨g, k * 51 + 50, none⟩ = some (.int .i64 x.width) := HI.out.cell hkn 50 (by rw [hx]; rfl)
      have b1 := HB.out.sides k hkm
      have b2 := HB.out.base k hkm
      have b3 := HB.out.held k hkm
      have b4 := HB.out.fac k hkm
      rw [← hx] at b1 b2 b3 b4
      have HXK := Lib.hid hx
      clear hk hx hSR hSF
      cases hh : x.held
      · have b5 := b4 hh
        rw [hh] at x49
        have HH := Lib.hid hh
        clear b3 b4 hh
        have w1 : IntKind.i64.wrap (c - SR - x.sides) = c - SR - x.sides := IntWalk.i64_in _ ⟨by omega, by omega⟩
        have w2 : IntKind.i64.wrap (c - SR - x.sides - x.base) = c - SR - x.sides - x.base := IntWalk.i64_in _ ⟨by omega, by omega⟩
        have w3 : IntKind.i64.wrap (SF + x.factor) = SF + x.factor := IntWalk.i64_in _ ⟨by omega, by omega⟩
        go_wp2_with fail
        go_roundw
        case rel =>
          refine ⟨i + 1, by omega, by go_num, ?_, ?_, by first | exact Lib.hid rfl | exact Lib.hid trivial⟩
          · rw [HSN.out.1]; unfold fRd; rw [← HXK.out, HH.out, if_neg (by simp)]; congr 1; omega
          · rw [HSN.out.2]; unfold fFd; rw [← HXK.out, HH.out, if_neg (by simp)]
        case measure => simp [intOf] <;> omega
      · have b5 := b3 hh
        rw [hh] at x49
        have HH := Lib.hid hh
        clear b3 b4 hh
        have w1 : IntKind.i64.wrap (c - SR - x.sides) = c - SR - x.sides := IntWalk.i64_in _ ⟨by omega, by omega⟩
        have w2 : IntKind.i64.wrap (c - SR - x.sides - x.width) = c - SR - x.sides - x.width := IntWalk.i64_in _ ⟨by omega, by omega⟩
        go_wp2_with fail
        go_roundw
        case rel =>
          refine ⟨i + 1, by omega, by go_num, ?_, ?_, by first | exact Lib.hid rfl | exact Lib.hid trivial⟩
          · rw [HSN.out.1]; unfold fRd; rw [← HXK.out, HH.out, if_pos rfl]; congr 1; omega
          · rw [HSN.out.2]; unfold fFd; rw [← HXK.out, HH.out, if_pos rfl, Int.add_zero]
        case measure => simp [intOf] <;> omega
    · have q0 : decide ((i : Int) < (m : Int)) = false := decide_eq_false (by omega)
      have q0' : decide (i < m) = false := decide_eq_false hlt
      have him : i = m := by omega
      have er : c - SR = rest := by rw [hSR, him, HM.out, List.take_length, fRd_sum, ← HX.out.rE]
      have ea : SF = all := by
        rw [hSF, him, HM.out, List.take_length, HX.out.allE]
        exact sum_oth M It.factor ks
      rw [er, ea]
      clear hSR hSF er ea hsr hsf him hlt q0'
      have q0' : decide (i < m) = false := of_decide_eq_true (by rw [decide_eq_true_eq]; exact decide_eq_false (by have := of_decide_eq_false q0; omega))
      have hrb := HX.out.rB
      have hgb := HX.out.gB
      have hab := HX.out.allB
      have hlb := HX.out.lB
      have wneg : IntKind.i64.wrap (-rest) = -rest := IntWalk.i64_in _ ⟨by omega, by omega⟩
      go_upto_region 11 with (fail)
      obtain ⟨gb, hgb2⟩ : ∃ gb, gb = ((grows && decide (0 < rest)) || (!grows && decide (rest < 0))) := ⟨_, rfl⟩
      have HGE : Hid (give = if gb then max rest (-rest) else 0) := Lib.hid (by rw [HX.out.gE, hgb2]; rfl)
      have HGB := Lib.hid hgb2
      clear hgb2
      go_cut [80] (fun s9 wx => s9 = .bool gb ∧ w = wx)
      case first => as_aux_lemma =>
        have hb9 := HGB.out
        clear hgb HX HGE
        cases grows
        · cases d : decide (rest < 0)
          · have HG0 : Hid (gb = false) := Lib.hid (by rw [hb9, d]; rfl)
            clear hb9
            go_wp2_with fail
            go_meet
            exact ⟨by rw [HG0.out], rfl⟩
          · have HG0 : Hid (gb = true) := Lib.hid (by rw [hb9, d]; rfl)
            clear hb9
            go_wp2_with fail
            go_meet
            exact ⟨by rw [HG0.out], rfl⟩
        · cases d : decide (0 < rest)
          · have HG0 : Hid (gb = false) := Lib.hid (by rw [hb9, d]; rfl)
            clear hb9
            go_wp2_with fail
            go_meet
            exact ⟨by rw [HG0.out], rfl⟩
          · have HG0 : Hid (gb = true) := Lib.hid (by rw [hb9, d]; rfl)
            clear hb9
            go_wp2_with fail
            go_meet
            exact ⟨by rw [HG0.out], rfl⟩
      case rest =>
      obtain ⟨rfl, rfl⟩ := hcut
      go_upto_if 80 with (fail)
      go_cut [9] (fun s9 wx => s9 = .int .i64 give ∧ w = wx)
      case first => as_aux_lemma =>
        clear hgb HX
        cases gb
        · have HG0 : Hid (give = 0) := Lib.hid HGE.out
          go_wp2_with fail
          go_meet
          exact ⟨by rw [HG0.out], rfl⟩
        · have HG0 : Hid (give = max rest (-rest)) := Lib.hid HGE.out
          by_cases hneg : rest < -rest
          · have HG1 : Hid (give = -rest) := Lib.hid (by rw [HG0.out]; omega)
            go_wp2_with fail
            go_meet
            exact ⟨by rw [HG1.out], rfl⟩
          · have HG1 : Hid (give = rest) := Lib.hid (by rw [HG0.out]; omega)
            go_wp2_with fail
            go_meet
            exact ⟨by rw [HG1.out], rfl⟩
      case rest =>
        obtain ⟨rfl, rfl⟩ := hcut
        as_aux_lemma =>
        obtain ⟨wv, rfl⟩ : ∃ wv, wv = w := ⟨_, rfl⟩
        clear wneg
        have hmk := fun W => make_i64 m (by omega) W
        go_upto_region 14 with (fail)
        clear hmk
        obtain ⟨ga, hga⟩ : ∃ ga, ga = wv.heap.size := ⟨_, rfl⟩
        obtain ⟨sh, hsh⟩ : ∃ sh, sh = shD M give all := ⟨_, rfl⟩
        have HS0 : Hid (RdS g ga base n ci m M (mixA 0 (fun j => sh (katD ks j)) (fun _ => 0)) wv (wv.alloc (.cells (aC (fun _ => 0) m).toArray 2))) := Lib.hid ⟨HI.out.kp (Kp.of_below (bal (Below.refl _ _) _) (fun _ => False)) (fun h => h), Blk.at_ _ _ _ hga, (Kp.refl _ _).alloc _, by omega, hgl⟩
        obtain ⟨w1, hw1⟩ : ∃ w1, w1 = wv.alloc (.cells (aC (fun _ => 0) m).toArray 2) := ⟨_, rfl⟩
        rw [← hw1] at HS0
        rw [← hw1, ← hga]
        have HSH : Hid (∀ k, sh k = shD M give all k) := Lib.hid (fun k => by rw [hsh])
        have HSU : Hid (lf = give - (ks.map sh).sum ∧ (∀ i, 0 ≤ ((ks.take i).map sh).sum ∧ ((ks.take i).map sh).sum ≤ give) ∧ ∀ k ∈ ks, 0 ≤ sh k ∧ sh k ≤ give) := Lib.hid (by rw [hsh]; exact ⟨HX.out.lE, HX.out.shB, HX.out.sh0⟩)
        clear hw1 hga hsh
        go_wp2_with fail
        go_loopw [11, 12] (fun lv kv wr => ∃ i : Nat, i ≤ m ∧ kv = .int .i64 i ∧ lv = .int .i64 (give - ((ks.take i).map sh).sum) ∧ Hid (RdS g ga base n ci m M (mixA i (fun j => sh (katD ks j)) (fun _ => 0)) wv wr)) (fun _ kv _ => m - (intOf kv).toNat)
        case atStart => exact ⟨0, by omega, rfl, by simp, HS0⟩
        case round => as_aux_lemma =>
          obtain ⟨i, hi, rfl, rfl, HJ⟩ := hrel
          have hsb := HSU.out.2.1 i
          obtain ⟨SS, hSS⟩ : ∃ SS, SS = ((ks.take i).map sh).sum := ⟨_, rfl⟩
          rw [← hSS] at hsb ⊢
          by_cases hlt : i < m
          · have q0 : decide ((i : Int) < (m : Int)) = true := decide_eq_true (by omega)
            have q0' : decide (i < m) = true := decide_eq_true hlt
            have hii : (i : Int) < (m : Int) := by omega
            have hi0 : (0 : Int) ≤ (i : Int) := by omega
            have wi : IntKind.i64.wrap ((i : Int) + 1) = (i : Int) + 1 := IntWalk.i64_in _ ⟨by omega, by omega⟩
            have hkl : i < ks.length := by rw [← HM.out]; exact hlt
            obtain ⟨k, hk⟩ : ∃ k, k = ks[i] := ⟨_, rfl⟩
            have hkm : k ∈ ks := by rw [hk]; exact List.getElem_mem hkl
            have hkn := HN.out k hkm
            obtain ⟨p, hA, c1⟩ := HPP.out wr HJ.out.k i hkl
            rw [← hk] at c1
            subst hA
            have HSN : Hid (((ks.take (i + 1)).map sh).sum = SS + sh k) := Lib.hid (by rw [map_take_succ _ _ _ hkl, hSS, hk])
            have HKT : Hid (katD ks i = k) := Lib.hid (by rw [kat_at hkl, hk])
            obtain ⟨fc, hfc⟩ : ∃ fc, fc = (M k).factor := ⟨_, rfl⟩
            obtain ⟨hd, hhd⟩ : ∃ hd, hd = (M k).held := ⟨_, rfl⟩
            have x48 : wr.cell? ⟨g, k * 51 + 48, none⟩ = some (.int .i64 fc) := HJ.out.it.cell hkn 48 (by rw [hfc]; rfl)
            have x49 : wr.cell? ⟨g, k * 51 + 49, none⟩ = some (.bool hd) := HJ.out.it.cell hkn 49 (by rw [hhd]; rfl)
            clear hk hSS
            cases hd
            · have HSK : Hid (sh k = give * fc / all) := Lib.hid (by rw [HSH.out, hfc]; unfold shD; rw [← hhd, if_neg (by simp)])
              have hf1 := HX.out.fle k hkm hhd.symm
              have hf2 := (HB.out.fac k hkm hhd.symm).1
              rw [← hfc] at hf1 hf2
              clear hfc hhd
              have y0 : wr.cell? ⟨ga, i, none⟩ = some (.int .i64 0) := HJ.out.am.get i (by rw [aC_at _ hlt, mixA_at])
              have y1 := HJ.out.am.frozen i
              have hsk := HSU.out.2.2 k hkm
              rw [HSK.out] at hsk
              obtain ⟨S, hS⟩ : ∃ S, S = give * fc / all := ⟨_, rfl⟩
              have HSHR : Hid (∀ W, Calls Try.prog 67 #[.int .i64 give, .int .i64 fc, .int .i64 all] W fun e w' => e = .returned (.int .i64 S) ∧ W = w') := Lib.hid (fun W => by
                rw [hS]; exact (rshare_any give fc all W (by omega) (by omega) (by omega)).mono fun _ _ h => ⟨h.1, h.2.symm⟩)
              rw [← hS] at hsk HSK
              clear hS
              go_upto_region 20 with (go_at_call 67; refine (HSHR.out _).mono ?_; rintro e w' ⟨rfl, rfl⟩)
              have HJ2 : Hid (RdS g ga base n ci m M (mixA (i + 1) (fun j => sh (katD ks j)) (fun _ => 0)) wv (wr.setCell ⟨ga, i, none⟩ (.int .i64 S))) := Lib.hid (HJ.out.setA i S (fun j hj => by
                rw [mixA_step i m _ _ j hj, HKT.out, HSK.out]))
              obtain ⟨w2, hw2⟩ : ∃ w2, w2 = wr.setCell ⟨ga, i, none⟩ (.int .i64 S) := ⟨_, rfl⟩
              rw [← hw2] at HJ2 ⊢
              clear hw2 y0 y1
              have y0 : w2.cell? ⟨ga, i, none⟩ = some (.int .i64 S) := HJ2.out.am.get i (by rw [aC_at _ hlt]; unfold mixA; rw [if_pos (by omega)]; show some (Value.int .i64 (sh (katD ks i))) = _; rw [HKT.out, HSK.out])
              have w5 : IntKind.i64.wrap (give - SS - S) = give - SS - S := IntWalk.i64_in _ ⟨by omega, by omega⟩
              go_wp2_with fail
              go_roundw
              case rel => exact ⟨i + 1, by omega, by go_num, by rw [HSN.out, HSK.out]; congr 1; omega, HJ2⟩
              case measure => simp [intOf] <;> omega
            · have HSK : Hid (sh k = 0) := Lib.hid (by rw [HSH.out]; unfold shD; rw [← hhd, if_pos rfl])
              clear hfc hhd
              go_wp2_with fail
              go_roundw
              case rel => exact ⟨i + 1, by omega, by go_num, by rw [HSN.out, HSK.out, Int.add_zero], Lib.hid (HJ.out.aims fun j hj => by
                rw [mixA_step i m _ _ j hj]
                by_cases e : j = i
                · subst e; rw [if_pos rfl, HKT.out, HSK.out, mixA_at]
                · rw [if_neg e])⟩
              case measure => simp [intOf] <;> omega
          · have q0 : decide ((i : Int) < (m : Int)) = false := decide_eq_false (by omega)
            have q0' : decide (i < m) = false := decide_eq_false hlt
            have him : i = m := by omega
            have er : give - SS = lf := by rw [hSS, him, HM.out, List.take_length, ← HSU.out.1]
            obtain ⟨adh, hadh⟩ : ∃ adh : Nat → Int, adh = fun k => if (M k).held then 0 else ad k := ⟨_, rfl⟩
            have HAH : Hid (∀ k, adh k = if (M k).held then 0 else ad k) := Lib.hid (fun k => by rw [hadh])
            clear hadh
            have HJ2 : Hid (RdS g ga base n ci m M (mixA 0 (fun j => adh (katD ks j)) (fun j => sh (katD ks j))) wv wr) := Lib.hid (HJ.out.aims fun j hj => by rw [him, mixA_end m _ _ j hj]; rfl)
            rw [er]
            clear hSS er him hsb HJ HS0
            have HCN : Hid (∀ i, 0 ≤ ((othM M (ks.take i)).length : Int) ∧ ((othM M (ks.take i)).length : Int) ≤ 1000) := Lib.hid (fun i => by
              have h1 : (othM M (ks.take i)).length ≤ (ks.take i).length := List.length_filter_le _ _
              have h2 := List.length_take (i := i) (l := ks)
              have := HM.out
              omega)
            have HL0 : Hid (leftD lf ((othM M (ks.take 0)).length : Int) = lf) := Lib.hid (by
              unfold leftD
              have : (othM M (ks.take 0)).length = 0 := rfl
              rw [this]; split <;> omega)
            go_wp2_with fail
            obtain ⟨wy, rfl⟩ : ∃ wy, wy = wr := ⟨_, rfl⟩
            clear q0 q0' hlt
            go_loopw [11, 13, 14] (fun lv tv kv wr => ∃ i : Nat, i ≤ m ∧ kv = .int .i64 i ∧ lv = .int .i64 (leftD lf ((othM M (ks.take i)).length : Int)) ∧ tv = .int .i64 (((ks.take i).map (turnT M c ad)).sum) ∧ Hid (RdS g ga base n ci m M (mixA i (fun j => adh (katD ks j)) (fun j => sh (katD ks j))) wv wr)) (fun _ _ kv _ => m - (intOf kv).toNat)
            case atStart => exact ⟨0, by omega, rfl, by rw [HL0.out], rfl, HJ2⟩
            case round => as_aux_lemma =>
              obtain ⟨i, hi, rfl, rfl, rfl, HJ⟩ := hrel
              have hcn := HCN.out i
              have htb := HX.out.tB i
              rw [turnT_eq] at htb
              obtain ⟨TT, hTT⟩ : ∃ TT, TT = ((ks.take i).map (turnT M c ad)).sum := ⟨_, rfl⟩
              obtain ⟨cn, hcnE⟩ : ∃ cn : Int, cn = ((othM M (ks.take i)).length : Int) := ⟨_, rfl⟩
              rw [← hTT] at htb ⊢
              rw [← hcnE] at hcn ⊢
              by_cases hlt : i < m
              · have q0 : decide ((i : Int) < (m : Int)) = true := decide_eq_true (by omega)
                have q0' : decide (i < m) = true := decide_eq_true hlt
                have hii : (i : Int) < (m : Int) := by omega
                have hi0 : (0 : Int) ≤ (i : Int) := by omega
                have wi : IntKind.i64.wrap ((i : Int) + 1) = (i : Int) + 1 := IntWalk.i64_in _ ⟨by omega, by omega⟩
                have hkl : i < ks.length := by rw [← HM.out]; exact hlt
                obtain ⟨k, hk⟩ : ∃ k, k = ks[i] := ⟨_, rfl⟩
                have hkm : k ∈ ks := by rw [hk]; exact List.getElem_mem hkl
                have hkn := HN.out k hkm
                obtain ⟨p, hA, c1⟩ := HPP.out wr HJ.out.k i hkl
                rw [← hk] at c1
                subst hA
                have htb2 := HX.out.tB (i + 1)
                rw [turnT_eq, map_take_succ _ _ _ hkl, ← hTT, ← hk] at htb2
                have HSN : Hid (((ks.take (i + 1)).map (turnT M c ad)).sum = TT + turnT M c ad k ∧ ((othM M (ks.take (i + 1))).length : Int) = cn + (if (M k).held then 0 else 1)) := Lib.hid ⟨by rw [map_take_succ _ _ _ hkl, hTT, hk], by
                  have h1 := othM_take1 M ks i hkl
                  rw [h1, ← hk, hcnE]
                  cases (M k).held <;> simp⟩
                have HKT : Hid (katD ks i = k) := Lib.hid (by rw [kat_at hkl, hk])
                obtain ⟨bs, hbs⟩ : ∃ bs, bs = (M k).base := ⟨_, rfl⟩
                obtain ⟨hd, hhd⟩ : ∃ hd, hd = (M k).held := ⟨_, rfl⟩
                have x49 : wr.cell? ⟨g, k * 51 + 49, none⟩ = some (.bool hd) := HJ.out.it.cell hkn 49 (by rw [hhd]; rfl)
                cases hd
                · have HAD := Lib.hid (HX.out.adE i hkl (by rw [← hk]; exact hhd.symm))
                  have hadb := HX.out.adB k hkm hhd.symm
                  have hbsb := HB.out.base k hkm
                  have hshb := HSU.out.2.2 k hkm
                  rw [← hk, ← hcnE] at HAD
                  rw [← HSH.out k, ← hbs] at HAD
                  rw [← hbs] at hbsb
                  obtain ⟨S, hS⟩ : ∃ S, S = sh k := ⟨_, rfl⟩
                  rw [← hS] at HAD hshb
                  obtain ⟨AD, hAD⟩ : ∃ AD, AD = ad k := ⟨_, rfl⟩
                  rw [← hAD] at HAD hadb
                  have HTU : Hid (turnT M c ad k = clampF (M k).s c AD - AD) := Lib.hid (by unfold turnT; rw [← hhd, if_neg (by simp), hAD])
                  have HHD := Lib.hid hhd
                  have y0 : wr.cell? ⟨ga, i, none⟩ = some (.int .i64 S) := HJ.out.am.get i (by rw [aC_at _ hlt, mixA_at, HKT.out, hS])
                  have HGI : Hid (S = sh k ∧ AD = adh k ∧ bs = (M k).base) := Lib.hid ⟨hS, by rw [HAH.out, ← hhd, if_neg (by simp), hAD], hbs⟩
                  clear hcnE hTT hk hhd hS hAD hbs
                  have y1 := HJ.out.am.frozen i
                  obtain ⟨dl, hdl⟩ : ∃ dl : Int, dl = (if cn < lf then 1 else 0) := ⟨_, rfl⟩
                  rw [← hdl] at HAD
                  obtain ⟨lfn, hlfn⟩ : ∃ lfn : Int, lfn = leftD lf (cn + 1) := ⟨_, rfl⟩
                  have HLF : Hid (leftD lf (cn + (if (M k).held then 0 else 1)) = lfn) := Lib.hid (by rw [← HHD.out, if_neg (by simp), hlfn])
                  have hlE : lfn = leftD lf cn - dl := by rw [hlfn, hdl]; unfold leftD; split <;> (try split) <;> (try split) <;> omega
                  have hl1 : (0 < leftD lf cn) = (dl = 1) := by rw [hdl]; unfold leftD; apply propext; split <;> constructor <;> omega
                  have hl2 : dl = 0 ∨ dl = 1 := by rw [hdl]; split <;> simp
                  have hl3 : 0 ≤ leftD lf cn ∧ leftD lf cn ≤ 1000 := by unfold leftD; split <;> omega
                  clear hdl hlfn
                  obtain ⟨ln, hln⟩ : ∃ ln, ln = leftD lf cn := ⟨_, rfl⟩
                  rw [← hln] at hlE hl1 hl3 ⊢
                  have HLE := Lib.hid hlE
                  have HL1 := Lib.hid hl1
                  clear hln hlE hl1
                  go_upto_region 26 with (fail)
                  clear x49
                  go_upto_if 136 with (fail)
                  go_cut [11] (fun s11 wx => s11 = .int .i64 lfn ∧ Hid (RdS g ga base n ci m M (fun j => if j = i then S + dl else mixA i (fun j => adh (katD ks j)) (fun j => sh (katD ks j)) j) wv wx))
                  case first => as_aux_lemma =>
                    rcases hl2 with hd0 | hd1
                    · have hgt : decide (0 < ln) = false := decide_eq_false (by rw [HL1.out, hd0]; decide)
                      have HLN : Hid (ln = lfn) := Lib.hid (by have := HLE.out; omega)
                      have HD0 := Lib.hid hd0
                      have hgp : ln ≤ 0 := by have := of_decide_eq_false hgt; omega
                      clear hd0 y0 y1
                      go_wp2_with fail
                      go_meet
                      exact ⟨by rw [HLN.out], Lib.hid (HJ.out.aims fun j hj => by
                        show (if j = i then S + dl else _) = _
                        by_cases e : j = i
                        · subst e; rw [if_pos rfl, mixA_at, HKT.out, HD0.out, Int.add_zero, HGI.out.1]
                        · rw [if_neg e])⟩
                    · have hgt : decide (0 < ln) = true := decide_eq_true (by rw [HL1.out]; exact hd1)
                      have w5 : IntKind.i64.wrap (S + 1) = S + 1 := IntWalk.i64_in _ ⟨by omega, by omega⟩
                      have w6 : IntKind.i64.wrap (ln - 1) = ln - 1 := IntWalk.i64_in _ ⟨by omega, by omega⟩
                      have HLN : Hid (ln - 1 = lfn) := Lib.hid (by have := HLE.out; omega)
                      have HD0 := Lib.hid hd1
                      have hgp : 0 < ln := of_decide_eq_true hgt
                      clear hd1
                      go_wp2_with fail
                      go_meet
                      exact ⟨by rw [HLN.out], Lib.hid (HJ.out.setA i (S + 1) fun j hj => by
                        show (if j = i then S + dl else _) = _
                        rw [HD0.out])⟩
                  case rest => as_aux_lemma =>
                  obtain ⟨rfl, HK⟩ := hcut
                  obtain ⟨wc1, rfl⟩ : ∃ wc1, wc1 = wc := ⟨_, rfl⟩
                  clear y0 y1 c1 HJ
                  obtain ⟨p2, hA2, c1⟩ := HPP.out wc1 HK.out.k i hkl
                  obtain rfl : p = p2 := by injection hA2
                  have hke : ks[i] = k := by rw [← HKT.out, kat_at hkl]
                  rw [hke] at c1
                  clear hA2 hke
                  have z46 : wc1.cell? ⟨g, k * 51 + 46, none⟩ = some (.int .i64 bs) := HK.out.it.cell hkn 46 (by rw [HGI.out.2.2]; rfl)
                  have y0 : wc1.cell? ⟨ga, i, none⟩ = some (.int .i64 (S + dl)) := HK.out.am.get i (by rw [aC_at _ hlt]; simp)
                  have y1 := HK.out.am.frozen i
                  have hdb : 0 ≤ dl ∧ dl ≤ 1 := by omega
                  go_upto_region 29 with (fail)
                  go_upto_if 145 with (fail)
                  go_cut [] (fun wx => Hid (RdS g ga base n ci m M (mixA (i + 1) (fun j => adh (katD ks j)) (fun j => sh (katD ks j))) wv wx))
                  case first => as_aux_lemma =>
                    cases grows
                    · have HAE : Hid (bs - (S + dl) = AD) := Lib.hid (by have := HAD.out; simp at this; omega)
                      have w7 : IntKind.i64.wrap (bs - (S + dl)) = AD := by rw [HAE.out]; exact IntWalk.i64_in _ ⟨by omega, by omega⟩
                      have E0 := HK.out.bel (Below.refl _ _).drew
                      clear c1 z46 y0 y1
                      go_upto_region 31 with (fail)
                      refine wp_region_S (fun b _ _ W => if b then RdS g ga base n ci m M (mixA (i + 1) (fun j => adh (katD ks j)) (fun j => sh (katD ks j))) wv W else RdS g ga base n ci m M (fun j => if j = i then S + dl else mixA i (fun j => adh (katD ks j)) (fun j => sh (katD ks j)) j) wv W) 15 1000 100000 false true (by kernel_rfl) (by kernel_rfl) (by kernel_rfl) (E0) ?_
                      refine wpAnyS_pre (j := 0) (by kernel_rfl) ?_
                      iterate 15
                        refine wpAnyS_nx (v := ?_) rfl (by kernel_rfl) (by kernel_rfl) (by kernel_rfl) (fun _ _ _ h => h) (by rfl) (gives_pureF (by rfl) (by kernel_rfl) ?_) ?_
                        rotate_left
                        · intro d' u' W' hS'
                          have hq := show RdS g ga base n ci m M (fun j => if j = i then S + dl else mixA i (fun j => adh (katD ks j)) (fun j => sh (katD ks j)) j) wv W' from hS'
                          have c1 := (HPP.out W' hq.k i hkl)
                          obtain ⟨p3, hA3, c1⟩ := c1
                          obtain rfl : p = p3 := by injection hA3
                          rw [show ks[i] = k by rw [← HKT.out, kat_at hkl]] at c1
                          have z46 : W'.cell? ⟨g, k * 51 + 46, none⟩ = some (.int .i64 bs) := hq.it.cell hkn 46 (by rw [HGI.out.2.2]; rfl)
                          have y0 : W'.cell? ⟨ga, i, none⟩ = some (.int .i64 (S + dl)) := hq.am.get i (by rw [aC_at _ hlt]; simp)
                          have y1 := hq.am.frozen i
                          go_simp
                          rfl
                        try simp only [Act.put, List.setIfInBounds_toArray, List.set_cons_zero, List.set_cons_succ, List.getElem_toArray, List.getElem_cons_zero, List.getElem_cons_succ]
                      refine wpAnyS_store (i := 15) (d := true) (fun W' => W'.setCell ⟨ga, i, none⟩ (.int .i64 AD)) rfl (by kernel_rfl) (by rfl) (by rfl) (by kernel_rfl) rfl ?_ (fun W' hS' => (show RdS g ga base n ci m M (fun j => if j = i then S + dl else mixA i (fun j => adh (katD ks j)) (fun j => sh (katD ks j)) j) wv W' from hS').setA i AD (fun j hj => by rw [mixA_step i m _ _ j hj, HKT.out, ← HGI.out.2.1]; by_cases e : j = i <;> simp [e])) ?_
                      · intro W' hS'
                        have hq := show RdS g ga base n ci m M (fun j => if j = i then S + dl else mixA i (fun j => adh (katD ks j)) (fun j => sh (katD ks j)) j) wv W' from hS'
                        have c1 := (HPP.out W' hq.k i hkl)
                        obtain ⟨p3, hA3, c1⟩ := c1
                        obtain rfl : p = p3 := by injection hA3
                        rw [show ks[i] = k by rw [← HKT.out, kat_at hkl]] at c1
                        have z46 : W'.cell? ⟨g, k * 51 + 46, none⟩ = some (.int .i64 bs) := hq.it.cell hkn 46 (by rw [HGI.out.2.2]; rfl)
                        have y0 : W'.cell? ⟨ga, i, none⟩ = some (.int .i64 (S + dl)) := hq.am.get i (by rw [aC_at _ hlt]; simp)
                        have y1 := hq.am.frozen i
                        go_simp
                        try rfl
                      try simp only [Act.put, List.setIfInBounds_toArray, List.set_cons_zero, List.set_cons_succ, List.getElem_toArray, List.getElem_cons_zero, List.getElem_cons_succ]
                      refine wpAnyS_done (b := true) (d := true) (by kernel_rfl) (by kernel_rfl) (by kernel_rfl) rfl (fun wS hS => ?_) _
                      have HS := Lib.hid hS
                      clear hS
                      go_wp2_with fail
                      go_meet
                      exact HS
                    · have HAE : Hid (bs + (S + dl) = AD) := Lib.hid (by have := HAD.out; simp at this; omega)
                      have w7 : IntKind.i64.wrap (bs + (S + dl)) = AD := by rw [HAE.out]; exact IntWalk.i64_in _ ⟨by omega, by omega⟩
                      have E0 := HK.out.bel (Below.refl _ _).drew
                      clear c1 z46 y0 y1
                      go_upto_region 30 with (fail)
                      refine wp_region_S (fun b _ _ W => if b then RdS g ga base n ci m M (mixA (i + 1) (fun j => adh (katD ks j)) (fun j => sh (katD ks j))) wv W else RdS g ga base n ci m M (fun j => if j = i then S + dl else mixA i (fun j => adh (katD ks j)) (fun j => sh (katD ks j)) j) wv W) 15 1000 100000 false true (by kernel_rfl) (by kernel_rfl) (by kernel_rfl) (E0) ?_
                      refine wpAnyS_pre (j := 0) (by kernel_rfl) ?_
                      iterate 15
                        refine wpAnyS_nx (v := ?_) rfl (by kernel_rfl) (by kernel_rfl) (by kernel_rfl) (fun _ _ _ h => h) (by rfl) (gives_pureF (by rfl) (by kernel_rfl) ?_) ?_
                        rotate_left
                        · intro d' u' W' hS'
                          have hq := show RdS g ga base n ci m M (fun j => if j = i then S + dl else mixA i (fun j => adh (katD ks j)) (fun j => sh (katD ks j)) j) wv W' from hS'
                          have c1 := (HPP.out W' hq.k i hkl)
                          obtain ⟨p3, hA3, c1⟩ := c1
                          obtain rfl : p = p3 := by injection hA3
                          rw [show ks[i] = k by rw [← HKT.out, kat_at hkl]] at c1
                          have z46 : W'.cell? ⟨g, k * 51 + 46, none⟩ = some (.int .i64 bs) := hq.it.cell hkn 46 (by rw [HGI.out.2.2]; rfl)
                          have y0 : W'.cell? ⟨ga, i, none⟩ = some (.int .i64 (S + dl)) := hq.am.get i (by rw [aC_at _ hlt]; simp)
                          have y1 := hq.am.frozen i
                          go_simp
                          rfl
                        try simp only [Act.put, List.setIfInBounds_toArray, List.set_cons_zero, List.set_cons_succ, List.getElem_toArray, List.getElem_cons_zero, List.getElem_cons_succ]
                      refine wpAnyS_store (i := 15) (d := true) (fun W' => W'.setCell ⟨ga, i, none⟩ (.int .i64 AD)) rfl (by kernel_rfl) (by rfl) (by rfl) (by kernel_rfl) rfl ?_ (fun W' hS' => (show RdS g ga base n ci m M (fun j => if j = i then S + dl else mixA i (fun j => adh (katD ks j)) (fun j => sh (katD ks j)) j) wv W' from hS').setA i AD (fun j hj => by rw [mixA_step i m _ _ j hj, HKT.out, ← HGI.out.2.1]; by_cases e : j = i <;> simp [e])) ?_
                      · intro W' hS'
                        have hq := show RdS g ga base n ci m M (fun j => if j = i then S + dl else mixA i (fun j => adh (katD ks j)) (fun j => sh (katD ks j)) j) wv W' from hS'
                        have c1 := (HPP.out W' hq.k i hkl)
                        obtain ⟨p3, hA3, c1⟩ := c1
                        obtain rfl : p = p3 := by injection hA3
                        rw [show ks[i] = k by rw [← HKT.out, kat_at hkl]] at c1
                        have z46 : W'.cell? ⟨g, k * 51 + 46, none⟩ = some (.int .i64 bs) := hq.it.cell hkn 46 (by rw [HGI.out.2.2]; rfl)
                        have y0 : W'.cell? ⟨ga, i, none⟩ = some (.int .i64 (S + dl)) := hq.am.get i (by rw [aC_at _ hlt]; simp)
                        have y1 := hq.am.frozen i
                        go_simp
                        try rfl
                      try simp only [Act.put, List.setIfInBounds_toArray, List.set_cons_zero, List.set_cons_succ, List.getElem_toArray, List.getElem_cons_zero, List.getElem_cons_succ]
                      refine wpAnyS_done (b := true) (d := true) (by kernel_rfl) (by kernel_rfl) (by kernel_rfl) rfl (fun wS hS => ?_) _
                      have HS := Lib.hid hS
                      clear hS
                      go_wp2_with fail
                      go_meet
                      exact HS
                  case rest => as_aux_lemma =>
                  have HL := hcut
                  obtain ⟨wd, rfl⟩ : ∃ wd, wd = wc := ⟨_, rfl⟩
                  clear c1 z46 y0 y1
                  obtain ⟨cl, hcl⟩ : ∃ cl, cl = clampF (M k).s c AD := ⟨_, rfl⟩
                  obtain ⟨l1, l2, l3⟩ := HB.out.lns k hkm
                  have HRC : Hid (∀ W, Calls Try.prog 34 #[.agg (styCells (M k).s).toArray, .int .i64 c, .int .i64 AD] W (AnsB (.int .i64 cl) W)) := Lib.hid (fun W => by
                    rw [hcl]; exact rcl_b (M k).s c AD W l1 l2 HB.out.c)
                  have hclb : -46000000000000000 ≤ cl ∧ cl ≤ 46000000000000000 := by
                    rw [hcl]
                    by_cases he : clampF (M k).s c AD = AD
                    · rw [he]; exact hadb
                    · have := clamp_off l1 l2 HB.out.c he; omega
                  rw [← hcl] at HTU
                  have HTT2 : Hid (((ks.take (i + 1)).map (turnT M c ad)).sum = TT + cl - AD) := Lib.hid (by rw [HSN.out.1, HTU.out]; omega)
                  clear hcl l1 l2 l3
                  have w8 : IntKind.i64.wrap (TT + cl) = TT + cl := IntWalk.i64_in _ ⟨by omega, by omega⟩
                  have w9 : IntKind.i64.wrap (TT + cl - AD) = TT + cl - AD := IntWalk.i64_in _ ⟨by omega, by omega⟩
                  go_upto_region 32 with (fail)
                  have E0 := HL.out.bel (Below.refl _ _).drew
                  refine wp_region_S (fun _ _ _ W => RdS g ga base n ci m (M) (mixA (i + 1) (fun j => adh (katD ks j)) (fun j => sh (katD ks j))) wv W) 1000 1000 100000 true true (by kernel_rfl) (by kernel_rfl) (by kernel_rfl) (E0) ?_
                  refine wpAnyS_pre (j := 0) (by kernel_rfl) ?_
                  iterate 7
                    refine wpAnyS_nx (v := ?_) rfl (by kernel_rfl) (by kernel_rfl) (by kernel_rfl) (fun _ _ _ h => h) (by rfl) (gives_pure (by rfl) ?_) ?_
                    rotate_left
                    · intro b' d' u' W' hS'
                      have c1 := (HPP.out W' hS'.k i hkl)
                      obtain ⟨p3, hA3, c1⟩ := c1
                      obtain rfl : p = p3 := by injection hA3
                      rw [show ks[i] = k by rw [← HKT.out, kat_at hkl]] at c1
                      have y0 : W'.cell? ⟨ga, i, none⟩ = some (.int .i64 AD) := hS'.am.get i (by rw [aC_at _ hlt]; unfold mixA; rw [if_pos (by omega)]; show some (Value.int .i64 (adh (katD ks i))) = _; rw [HKT.out, ← HGI.out.2.1])
                      go_simp
                      rfl
                    try simp only [Act.put, List.setIfInBounds_toArray, List.set_cons_zero, List.set_cons_succ, List.getElem_toArray, List.getElem_cons_zero, List.getElem_cons_succ]
                  refine wpAnyS_take (i := 7) (v := .agg (styCells (M k).s).toArray) rfl (by kernel_rfl) (by kernel_rfl) (by kernel_rfl) (fun _ _ _ h => h) (by rfl) (gives_yields ?_) ?_
                  · refine yieldsIf_load_at (by rfl) 52 (.tmp 182) rfl (⟨g, k * 51, none⟩) rfl (styCells (M k).s) _ ?_ Try.underlying52 rfl (by kernel_rfl)
                    rintro W' ⟨b', d', u', hS'⟩
                    exact hS'.it.rng hkn
                  try simp only [Act.put, List.setIfInBounds_toArray, List.set_cons_zero, List.set_cons_succ, List.getElem_toArray, List.getElem_cons_zero, List.getElem_cons_succ]
                  refine wpAnyS_pre (j := 8) (by kernel_rfl) ?_
                  iterate 5
                    refine wpAnyS_nx (v := ?_) rfl (by kernel_rfl) (by kernel_rfl) (by kernel_rfl) (fun _ _ _ h => h) (by rfl) (gives_pure (by rfl) ?_) ?_
                    rotate_left
                    · intro b' d' u' W' hS'
                      have c1 := (HPP.out W' hS'.k i hkl)
                      obtain ⟨p3, hA3, c1⟩ := c1
                      obtain rfl : p = p3 := by injection hA3
                      rw [show ks[i] = k by rw [← HKT.out, kat_at hkl]] at c1
                      have y0 : W'.cell? ⟨ga, i, none⟩ = some (.int .i64 AD) := hS'.am.get i (by rw [aC_at _ hlt]; unfold mixA; rw [if_pos (by omega)]; show some (Value.int .i64 (adh (katD ks i))) = _; rw [HKT.out, ← HGI.out.2.1])
                      go_simp
                      rfl
                    try simp only [Act.put, List.setIfInBounds_toArray, List.set_cons_zero, List.set_cons_succ, List.getElem_toArray, List.getElem_cons_zero, List.getElem_cons_succ]
                  refine wpAnyS_take (i := 13) (v := .int .i64 cl) rfl (by kernel_rfl) (by kernel_rfl) (by kernel_rfl) (fun _ _ _ h => h) (by rfl) (gives_call (by rfl) _ _ ?_ (fun b' d' u' W' hS' => (HRC.out W').mono (fun _ _ h => ⟨h.1, hS'.bel h.2⟩))) ?_
                  · intro W'
                    first | rfl | kernel_rfl
                  try simp only [Act.put, List.setIfInBounds_toArray, List.set_cons_zero, List.set_cons_succ, List.getElem_toArray, List.getElem_cons_zero, List.getElem_cons_succ]
                  refine wpAnyS_pre (j := 14) (by kernel_rfl) ?_
                  iterate 7
                    refine wpAnyS_nx (v := ?_) rfl (by kernel_rfl) (by kernel_rfl) (by kernel_rfl) (fun _ _ _ h => h) (by rfl) (gives_pure (by rfl) ?_) ?_
                    rotate_left
                    · intro b' d' u' W' hS'
                      have c1 := (HPP.out W' hS'.k i hkl)
                      obtain ⟨p3, hA3, c1⟩ := c1
                      obtain rfl : p = p3 := by injection hA3
                      rw [show ks[i] = k by rw [← HKT.out, kat_at hkl]] at c1
                      have y0 : W'.cell? ⟨ga, i, none⟩ = some (.int .i64 AD) := hS'.am.get i (by rw [aC_at _ hlt]; unfold mixA; rw [if_pos (by omega)]; show some (Value.int .i64 (adh (katD ks i))) = _; rw [HKT.out, ← HGI.out.2.1])
                      go_simp
                      rfl
                    try simp only [Act.put, List.setIfInBounds_toArray, List.set_cons_zero, List.set_cons_succ, List.getElem_toArray, List.getElem_cons_zero, List.getElem_cons_succ]
                  refine wpAnyS_done (b := true) (d := true) (by kernel_rfl) (by kernel_rfl) (by kernel_rfl) rfl (fun wS hS => ?_) _
                  have HS := Lib.hid hS
                  clear hS E0
                  go_wp2_with fail
                  go_roundw
                  case rel => exact ⟨i + 1, by omega, by go_num, by rw [HSN.out.2, HLF.out], by rw [HTT2.out], HS⟩
                  case measure => simp [intOf] <;> omega
                · have HAE : Hid (turnT M c ad k = 0 ∧ (M k).held = true ∧ sh k = 0) := Lib.hid ⟨by unfold turnT; rw [← hhd, if_pos rfl], hhd.symm, by rw [HSH.out]; unfold shD; rw [← hhd, if_pos rfl]⟩
                  clear hcnE hTT hk hhd hbs
                  go_wp2_with fail
                  go_roundw
                  case rel => exact ⟨i + 1, by omega, by go_num, by rw [HSN.out.2, HAE.out.2.1, if_pos rfl, Int.add_zero], by rw [HSN.out.1, HAE.out.1, Int.add_zero], Lib.hid (HJ.out.aims fun j hj => by
                    rw [mixA_step i m _ _ j hj]
                    by_cases e : j = i
                    · subst e; rw [if_pos rfl, mixA_at, HKT.out, HAE.out.2.2, HAH.out, HAE.out.2.1, if_pos rfl]
                    · rw [if_neg e])⟩
                  case measure => simp [intOf] <;> omega
              · have q0 : decide ((i : Int) < (m : Int)) = false := decide_eq_false (by omega)
                have q0' : decide (i < m) = false := decide_eq_false hlt
                have him : i = m := by omega
                have HWAY : Hid (way = cmpI TT 0) := Lib.hid (by
                  rw [HX.out.tE, hTT, him, HM.out, List.take_length]; rfl)
                obtain ⟨RR, hRR⟩ : ∃ RR, RR = roundM (roomM c M ks) grows M ks := ⟨_, rfl⟩
                have HFIN : Hid ((∀ k ∈ ks, rfC (RR k) = if (M k).held then rfC (M k) else if way = 0 ∨ cmpI (clampF (M k).s c (ad k)) (ad k) = way then rfC { M k with held := true, width := clampF (M k).s c (ad k) } else rfC (M k)) ∧ ∀ k, k ∉ ks → RR k = M k) := Lib.hid (by rw [hRR]; exact ⟨HX.out.fin, HX.out.out⟩)
                have HRR := Lib.hid hRR
                have HJ3 : Hid (RdS g ga base n ci m (stM M RR ks 0) (fun j => adh (katD ks j)) wv wr) := Lib.hid ((HJ.out.aims (b := fun j => adh (katD ks j)) fun j hj => by rw [him, mixA_end m _ _ j hj]).same fun k _ => by unfold stM; rw [List.take_zero, if_neg (by simp)])
                clear hRR hTT hcnE him
                go_wp2_with fail
                obtain ⟨wz, rfl⟩ : ∃ wz, wz = wr := ⟨_, rfl⟩
                clear q0 q0' hlt HJ HJ2
                go_loopw [15] (fun kv wr => ∃ i : Nat, i ≤ m ∧ kv = .int .i64 i ∧ Hid (RdS g ga base n ci m (stM M RR ks i) (fun j => adh (katD ks j)) wv wr)) (fun kv _ => m - (intOf kv).toNat)
                case atStart => exact ⟨0, by omega, rfl, HJ3⟩
                case round => as_aux_lemma =>
                  obtain ⟨i, hi, rfl, HJ⟩ := hrel
                  by_cases hlt : i < m
                  rotate_left
                  · have q0 : decide ((i : Int) < (m : Int)) = false := decide_eq_false (by omega)
                    have q0' : decide (i < m) = false := decide_eq_false hlt
                    have HEND : Hid (RIt g base n ci RR wr) := Lib.hid (HJ.out.it.same fun k _ => by
                      unfold stM
                      rw [List.take_of_length_le (by rw [← HM.out]; omega)]
                      by_cases hk : k ∈ ks
                      · rw [if_pos hk]
                      · rw [if_neg hk, HFIN.out.2 k hk])
                    go_wp2_with fail
                    go_end0
                    exact ⟨rfl, by rw [← HRR.out]; exact HEND.out, HJ.out.k⟩
                  have q0 : decide ((i : Int) < (m : Int)) = true := decide_eq_true (by omega)
                  have q0' : decide (i < m) = true := decide_eq_true hlt
                  have hii : (i : Int) < (m : Int) := by omega
                  have hi0 : (0 : Int) ≤ (i : Int) := by omega
                  have wi : IntKind.i64.wrap ((i : Int) + 1) = (i : Int) + 1 := IntWalk.i64_in _ ⟨by omega, by omega⟩
                  have hkl : i < ks.length := by rw [← HM.out]; exact hlt
                  obtain ⟨k, hk⟩ : ∃ k, k = ks[i] := ⟨_, rfl⟩
                  have hkm : k ∈ ks := by rw [hk]; exact List.getElem_mem hkl
                  have hkn := HN.out k hkm
                  obtain ⟨p, hA, c1⟩ := HPP.out wr HJ.out.k i hkl
                  rw [← hk] at c1
                  subst hA
                  have HKT : Hid (katD ks i = k) := Lib.hid (by rw [kat_at hkl, hk])
                  have HST : Hid (stM M RR ks i k = M k ∧ stM M RR ks (i + 1) k = RR k ∧ ∀ j, j ≠ k → stM M RR ks (i + 1) j = stM M RR ks i j) := Lib.hid (by
                    rw [hk]; exact ⟨stM_old HB.out.nd hkl, stM_new hkl, fun j hj => stM_other hkl hj⟩)
                  obtain ⟨hd, hhd⟩ : ∃ hd, hd = (M k).held := ⟨_, rfl⟩
                  have x49 : wr.cell? ⟨g, k * 51 + 49, none⟩ = some (.bool hd) := HJ.out.it.cell hkn 49 (by rw [HST.out.1, hhd]; rfl)
                  clear hk
                  cases hd
                  rotate_left
                  · have HEQ : Hid (rfC (RR k) = rfC (M k)) := Lib.hid (by rw [HFIN.out.1 k hkm, ← hhd, if_pos rfl])
                    clear hhd
                    go_wp2_with fail
                    go_roundw
                    case rel => exact ⟨i + 1, by omega, by go_num, Lib.hid (HJ.out.same fun j _ => by
                      by_cases e : j = k
                      · subst e; rw [HST.out.2.1, HEQ.out, HST.out.1]
                      · rw [HST.out.2.2 j e])⟩
                    case measure => simp [intOf] <;> omega
                  obtain ⟨AD, hAD⟩ : ∃ AD, AD = ad k := ⟨_, rfl⟩
                  obtain ⟨cl, hcl⟩ : ∃ cl, cl = clampF (M k).s c AD := ⟨_, rfl⟩
                  have hadb := HX.out.adB k hkm hhd.symm
                  rw [← hAD] at hadb
                  obtain ⟨l1, l2, l3⟩ := HB.out.lns k hkm
                  have HRC : Hid (∀ W, Calls Try.prog 34 #[.agg (styCells (M k).s).toArray, .int .i64 c, .int .i64 AD] W (AnsB (.int .i64 cl) W)) := Lib.hid (fun W => by
                    rw [hcl]; exact rcl_b (M k).s c AD W l1 l2 HB.out.c)
                  have hclb : -46000000000000000 ≤ cl ∧ cl ≤ 46000000000000000 := by
                    rw [hcl]
                    by_cases he : clampF (M k).s c AD = AD
                    · rw [he]; exact hadb
                    · have := clamp_off l1 l2 HB.out.c he; omega
                  obtain ⟨hb, hhb⟩ : ∃ hb : Bool, hb = decide (way = 0 ∨ cmpI cl AD = way) := ⟨_, rfl⟩
                  have HEQ : Hid (rfC (RR k) = if hb = true then rfC { M k with held := true, width := cl } else rfC (M k)) := Lib.hid (by
                    rw [HFIN.out.1 k hkm, ← hhd, if_neg (by simp), ← hAD, ← hcl, hhb]
                    by_cases hq : way = 0 ∨ cmpI cl AD = way
                    · rw [if_pos hq, if_pos (decide_eq_true hq)]
                    · rw [if_neg hq, if_neg (by simp [hq])])
                  have HHB := Lib.hid hhb
                  have HAK : Hid (adh (katD ks i) = AD) := Lib.hid (by rw [HKT.out, HAH.out, ← hhd, if_neg (by simp), hAD])
                  clear hhd hAD hcl hhb l1 l2 l3
                  have w8 : IntKind.i64.wrap (cl - AD) = cl - AD := IntWalk.i64_in _ ⟨by omega, by omega⟩
                  go_upto_region 37 with (fail)
                  clear c1 x49
                  have E0 := HJ.out.bel (Below.refl _ _).drew
                  refine wp_region_S (fun _ _ _ W => RdS g ga base n ci m (stM M RR ks i) (fun j => adh (katD ks j)) wv W) 1000 1000 100000 true true (by kernel_rfl) (by kernel_rfl) (by kernel_rfl) (E0) ?_
                  refine wpAnyS_pre (j := 0) (by kernel_rfl) ?_
                  iterate 6
                    refine wpAnyS_nx (v := ?_) rfl (by kernel_rfl) (by kernel_rfl) (by kernel_rfl) (fun _ _ _ h => h) (by rfl) (gives_pure (by rfl) ?_) ?_
                    rotate_left
                    · intro b' d' u' W' hS'
                      have c1 := (HPP.out W' hS'.k i hkl)
                      obtain ⟨p3, hA3, c1⟩ := c1
                      obtain rfl : p = p3 := by injection hA3
                      rw [show ks[i] = k by rw [← HKT.out, kat_at hkl]] at c1
                      have y0 : W'.cell? ⟨ga, i, none⟩ = some (.int .i64 AD) := hS'.am.get i (by rw [aC_at _ hlt]; rw [HAK.out])
                      go_simp
                      rfl
                    try simp only [Act.put, List.setIfInBounds_toArray, List.set_cons_zero, List.set_cons_succ, List.getElem_toArray, List.getElem_cons_zero, List.getElem_cons_succ]
                  refine wpAnyS_take (i := 6) (v := .agg (styCells (M k).s).toArray) rfl (by kernel_rfl) (by kernel_rfl) (by kernel_rfl) (fun _ _ _ h => h) (by rfl) (gives_yields ?_) ?_
                  · refine yieldsIf_load_at (by rfl) 52 (.tmp 214) rfl (⟨g, k * 51, none⟩) rfl (styCells (M k).s) _ ?_ Try.underlying52 rfl (by kernel_rfl)
                    rintro W' ⟨b', d', u', hS'⟩
                    exact (by have h := hS'.it.rng hkn; rw [HST.out.1] at h; exact h)
                  try simp only [Act.put, List.setIfInBounds_toArray, List.set_cons_zero, List.set_cons_succ, List.getElem_toArray, List.getElem_cons_zero, List.getElem_cons_succ]
                  refine wpAnyS_pre (j := 7) (by kernel_rfl) ?_
                  iterate 5
                    refine wpAnyS_nx (v := ?_) rfl (by kernel_rfl) (by kernel_rfl) (by kernel_rfl) (fun _ _ _ h => h) (by rfl) (gives_pure (by rfl) ?_) ?_
                    rotate_left
                    · intro b' d' u' W' hS'
                      have c1 := (HPP.out W' hS'.k i hkl)
                      obtain ⟨p3, hA3, c1⟩ := c1
                      obtain rfl : p = p3 := by injection hA3
                      rw [show ks[i] = k by rw [← HKT.out, kat_at hkl]] at c1
                      have y0 : W'.cell? ⟨ga, i, none⟩ = some (.int .i64 AD) := hS'.am.get i (by rw [aC_at _ hlt]; rw [HAK.out])
                      go_simp
                      rfl
                    try simp only [Act.put, List.setIfInBounds_toArray, List.set_cons_zero, List.set_cons_succ, List.getElem_toArray, List.getElem_cons_zero, List.getElem_cons_succ]
                  refine wpAnyS_take (i := 12) (v := .int .i64 cl) rfl (by kernel_rfl) (by kernel_rfl) (by kernel_rfl) (fun _ _ _ h => h) (by rfl) (gives_call (by rfl) _ _ ?_ (fun b' d' u' W' hS' => (HRC.out W').mono (fun _ _ h => ⟨h.1, hS'.bel h.2⟩))) ?_
                  · intro W'
                    first | rfl | kernel_rfl
                  try simp only [Act.put, List.setIfInBounds_toArray, List.set_cons_zero, List.set_cons_succ, List.getElem_toArray, List.getElem_cons_zero, List.getElem_cons_succ]
                  refine wpAnyS_take (i := 13) (v := ?_) rfl (by kernel_rfl) (by kernel_rfl) (by kernel_rfl) (fun _ _ _ h => h) (by rfl) (gives_pure (by rfl) ?_) ?_
                  rotate_left
                  · intro b' d' u' W' hS'
                    have c1 := (HPP.out W' hS'.k i hkl)
                    obtain ⟨p3, hA3, c1⟩ := c1
                    obtain rfl : p = p3 := by injection hA3
                    rw [show ks[i] = k by rw [← HKT.out, kat_at hkl]] at c1
                    have y0 : W'.cell? ⟨ga, i, none⟩ = some (.int .i64 AD) := hS'.am.get i (by rw [aC_at _ hlt]; rw [HAK.out])
                    go_simp
                    rfl
                  try simp only [Act.put, List.setIfInBounds_toArray, List.set_cons_zero, List.set_cons_succ, List.getElem_toArray, List.getElem_cons_zero, List.getElem_cons_succ]
                  refine wpAnyS_done (b := true) (d := true) (by kernel_rfl) (by kernel_rfl) (by kernel_rfl) rfl (fun wS hS => ?_) _
                  have HS := Lib.hid hS
                  clear hS E0
                  have y0 : wS.cell? ⟨ga, i, none⟩ = some (.int .i64 AD) := HS.out.am.get i (by rw [aC_at _ hlt, HAK.out])
                  go_upto_region 39 with (fail)
                  clear y0
                  go_cut [245] (fun sx wx => sx = .bool hb ∧ wS = wx)
                  case first => as_aux_lemma =>
                    have hbe := HHB.out
                    rw [HWAY.out] at hbe
                    rcases Int.lt_trichotomy TT 0 with ht | ht | ht
                    · have t1 : (TT == 0) = false := beq_eq_false_iff_ne.2 (by omega)
                      have t2 : decide (0 < TT) = false := decide_eq_false (by omega)
                      have t3 : decide (TT < 0) = true := decide_eq_true ht
                      have HE : Hid (hb = decide (cl - AD < 0)) := Lib.hid (by
                        rw [hbe]; unfold cmpI
                        rw [if_pos ht]
                        by_cases h1 : cl < AD
                        · rw [if_pos h1, decide_eq_true (show cl - AD < 0 by omega)]; rfl
                        · rw [if_neg h1, decide_eq_false (show ¬ cl - AD < 0 by omega)]
                          split <;> rfl)
                      clear hbe ht
                      go_wp2_with fail
                      go_meet
                      exact ⟨by rw [HE.out], rfl⟩
                    · have HE : Hid (hb = true) := Lib.hid (by rw [hbe, ht]; exact decide_eq_true (.inl rfl))
                      have t1 : (TT == 0) = true := beq_iff_eq.2 ht
                      clear hbe ht
                      go_wp2_with fail
                      go_meet
                      exact ⟨by rw [HE.out], rfl⟩
                    · have t1 : (TT == 0) = false := beq_eq_false_iff_ne.2 (by omega)
                      have t2 : decide (0 < TT) = true := decide_eq_true ht
                      have t3 : decide (TT < 0) = false := decide_eq_false (by omega)
                      cases t5 : decide (AD < cl)
                      · have t4 : decide (0 < cl - AD) = false := decide_eq_false (by have := of_decide_eq_false t5; omega)
                        have HE : Hid (hb = false) := Lib.hid (by
                          have h4 := of_decide_eq_false t4
                          rw [hbe]; unfold cmpI
                          rw [if_neg (show ¬ TT < 0 by omega), if_pos ht]
                          by_cases h1 : cl < AD
                          · rw [if_pos h1]; rfl
                          · rw [if_neg h1, if_neg (show ¬ AD < cl by omega)]; rfl)
                        clear hbe ht
                        go_wp2_with fail
                        go_meet
                        exact ⟨by rw [HE.out], rfl⟩
                      · have t4 : decide (0 < cl - AD) = true := decide_eq_true (by have := of_decide_eq_true t5; omega)
                        have HE : Hid (hb = true) := Lib.hid (by
                          have h4 := of_decide_eq_true t4
                          rw [hbe]; unfold cmpI
                          rw [if_neg (show ¬ TT < 0 by omega), if_pos ht, if_neg (show ¬ cl < AD by omega), if_pos (show AD < cl by omega)]; rfl)
                        clear hbe ht
                        go_wp2_with fail
                        go_meet
                        exact ⟨by rw [HE.out], rfl⟩
                  case rest => as_aux_lemma =>
                  obtain ⟨rfl, rfl⟩ := hcut
                  cases hb
                  · have HEF : Hid (rfC (RR k) = rfC (M k)) := Lib.hid HEQ.out
                    go_wp2_with fail
                    go_roundw
                    case rel => exact ⟨i + 1, by omega, by go_num, Lib.hid (HS.out.same fun j _ => by
                      by_cases e : j = k
                      · subst e; rw [HST.out.2.1, HEF.out, HST.out.1]
                      · rw [HST.out.2.2 j e])⟩
                    case measure => simp [intOf] <;> omega
                  · have HEF : Hid (rfC (RR k) = rfC { M k with held := true, width := cl }) := Lib.hid HEQ.out
                    obtain ⟨p2, hA2, c1⟩ := HPP.out wS HS.out.k i hkl
                    obtain rfl : p = p2 := by injection hA2
                    have hke : ks[i] = k := by rw [← HKT.out, kat_at hkl]
                    rw [hke] at c1
                    clear hA2
                    have x49 : wS.cell? ⟨g, k * 51 + 49, none⟩ = some (.bool (M k).held) := HS.out.it.cell hkn 49 (by rw [HST.out.1]; rfl)
                    have x49f := HS.out.it.frozen (k * 51 + 49)
                    go_upto_region 41 with (fail)
                    clear x49 x49f c1
                    have HS2 : Hid (RdS g ga base n ci m (fun q => if q = k then { M k with held := true } else stM M RR ks i q) (fun j => adh (katD ks j)) wv (wS.setCell ⟨g, k * 51 + 49, none⟩ (.bool true))) := Lib.hid (HS.out.setI hkn 49 (.bool true) (by omega) (by
                      show (rfC (stM M RR ks i k)).set 49 (.bool true) = rfC (if k = k then _ else _)
                      rw [HST.out.1, if_pos rfl]; rfl) (fun q hq => by
                      show rfC (if q = k then _ else _) = _
                      rw [if_neg hq]))
                    obtain ⟨w2, hw2⟩ : ∃ w2, w2 = wS.setCell ⟨g, k * 51 + 49, none⟩ (.bool true) := ⟨_, rfl⟩
                    rw [← hw2] at HS2 ⊢
                    clear hw2
                    obtain ⟨p2, hA2, c1⟩ := HPP.out w2 HS2.out.k i hkl
                    obtain rfl : p = p2 := by injection hA2
                    rw [hke] at c1
                    clear hA2 hke
                    have x50 : w2.cell? ⟨g, k * 51 + 50, none⟩ = some (.int .i64 (M k).width) := HS2.out.it.cell hkn 50 (by rw [if_pos rfl]; rfl)
                    have x50f := HS2.out.it.frozen (k * 51 + 50)
                    have HS3 : Hid (RdS g ga base n ci m (stM M RR ks (i + 1)) (fun j => adh (katD ks j)) wv (w2.setCell ⟨g, k * 51 + 50, none⟩ (.int .i64 cl))) := Lib.hid (HS2.out.setI hkn 50 (.int .i64 cl) (by omega) (by
                      show (rfC (if k = k then _ else _)).set 50 (.int .i64 cl) = _
                      rw [if_pos rfl, HST.out.2.1, HEF.out]; rfl) (fun q hq => by
                      show _ = rfC (if q = k then _ else _)
                      rw [if_neg hq, HST.out.2.2 q hq]))
                    go_wp2_with fail
                    go_roundw
                    case rel => exact ⟨i + 1, by omega, by go_num, HS3⟩
                    case measure => simp [intOf] <;> omega
end Go.Proofs.Ytbopeofglhkffaa
set_option linter.unusedSimpArgs false
set_option linter.unusedVariables false
namespace Go.Proofs.Ytbopeofglhkffaa
open Go.RowKit
attribute [local go_sem] block_of_add
theorem el_rip : El Try.prog 94 95 (.pointer none) 1 8 := ⟨Try.underlying94, by kernel_rfl, rfl, by decide⟩
theorem growsM_own (c : Int) (M : Nat → It) (ks : List Nat) : growsM c M ks = decide ((ks.map (ownM M)).sum < c) := by
  have := sum_add ks (fun k => (M k).sides) (fun k => (M k).guess)
  unfold growsM roomM sumM
  have e : (ks.map (ownM M)).sum = (ks.map fun k => (M k).sides + (M k).guess).sum := rfl
  rw [e, this]
  have e3 : ∀ (a b : Int), (b < c - a) ↔ (a + b < c) := fun a b => by omega
  exact decide_eq_decide.2 (e3 _ _)
/-- An item put in its place. -/
def atM (k : Nat) (y : It) (M : Nat → It) (q : Nat) : It := if q = k then y else M q
theorem atM_at (k : Nat) (y : It) (M : Nat → It) : atM k y M k = y := if_pos rfl
theorem atM_ne {k q : Nat} (y : It) (M : Nat → It) (h : q ≠ k) : atM k y M q = M q := if_neg h
/-- While a row is turned. -/
structure RkS (g base n ci : Nat) (M : Nat → It) (w W : World) : Prop where
  it : RIt g base n ci M W
  k : Kp (fun b => b = g) w W
section
variable {g base n ci kk : Nat} {M M2 : Nat → It} {y y2 : It} {w W W' : World}
theorem RkS.bel (h : RkS g base n ci M w W) (hb : Below W.heap.size W W') : RkS g base n ci M w W' :=
  ⟨h.it.kp (Kp.of_below hb (fun _ => False)) (fun h => h), h.k.trans (Kp.of_below hb _)⟩
theorem RkS.drewN (h : RkS g base n ci M w W) (i : Nat) : RkS g base n ci M w (W.drewN i) := ⟨h.it.drewN i, h.k.drewN i⟩
theorem RkS.put (h : RkS g base n ci (atM kk y M) w W) (hk : kk < n) (j : Nat) (u : Value) (hj : j < 51) (he : (rfC y).set j u = rfC y2) : RkS g base n ci (atM kk y2 M) w (W.setCell ⟨g, kk * 51 + j, none⟩ u) :=
  ⟨h.it.set hk j u hj (by rw [atM_at, atM_at]; exact he) (fun i hi => by rw [atM_ne _ _ hi, atM_ne _ _ hi]), h.k.setCell (p := ⟨g, kk * 51 + j, none⟩) (.inl rfl) _⟩
theorem RkS.same (h : RkS g base n ci M w W) (he : ∀ k, k < n → rfC (M2 k) = rfC (M k)) : RkS g base n ci M2 w W := ⟨h.it.same he, h.k⟩
theorem RkS.cell (h : RkS g base n ci (atM kk y M) w W) (hk : kk < n) (j : Nat) {u : Value} (hu : (rfC y)[j]? = some u) : W.cell? ⟨g, kk * 51 + j, none⟩ = some u := h.it.cell hk j (by rw [atM_at]; exact hu)
end
/-! Rounds, one after the other. -/
theorem rnd_of {c : Int} {gr : Bool} {M M' : Nat → It} {ks : List Nat} (hf : ∀ k ∈ ks, FitB (M k)) (hc : ∀ k ∈ ks, (M k).c = c) (hcb : CB c) (hr : RdB gr M M' ks) (hne : othM M' ks ≠ []) (hd : ks.Nodup) (hl : ks.length ≤ 1000) : RndB c M' ks := by
  refine ⟨fun k hk => by rw [(hr.same k hk).sides]; exact (hf k hk).sides, fun k hk => by rw [(hr.same k hk).base]; exact (hf k hk).base, ?_, fun k hk hh => ?_, fun k hk => ?_, hcb, hne, hd, hl⟩
  · rcases hr.wd with h1 | h1
    · exact h1
    · exfalso
      obtain ⟨k, hk⟩ := List.exists_mem_of_ne_nil _ hne
      obtain ⟨h2, h3⟩ := List.mem_filter.1 hk
      rw [(h1 k h2).1] at h3; cases h3
  · have hs := hr.un k hk hh
    rw [hr.fac k hk]
    have h1 := facI_bd (grows := gr) (hf k hk)
    have h2 := facI_nn (hf k hk) hs
    have h3 : facI gr (M k) ≠ 0 := fun e => by unfold stopI at hs; rw [decide_eq_true e] at hs; simp at hs
    omega
  · have hs := hr.same k hk
    rw [hs.s, hs.c]
    exact ⟨(hf k hk).maxw, (hf k hk).minw, hc k hk⟩
theorem room_same {c : Int} {gr : Bool} {M M' : Nat → It} {ks : List Nat} (hr : RdB gr M M' ks) : roomM c M' ks = roomM c M ks := by
  unfold roomM sumM
  rw [List.map_congr_left (g := fun k => (M k).sides) fun k hk => (hr.same k hk).sides]
theorem rnd_next {c : Int} {gr : Bool} {M M' : Nat → It} {ks : List Nat} (hf : ∀ k ∈ ks, FitB (M k)) (hc : ∀ k ∈ ks, (M k).c = c) (hcb : CB c) (hr : RdB gr M M' ks) (hne : othM M' ks ≠ []) (hd : ks.Nodup) (hl : ks.length ≤ 1000) : RdB gr M (roundM (roomM c M' ks) gr M' ks) ks := by
  have hb := rnd_of hf hc hcb hr hne hd hl
  obtain ⟨rest, all, give, lf, ad, way, hN⟩ := rnd_n (grows := gr) hb
  refine hr.round hf hne fun k hk => ?_
  have hun : ∀ k ∈ othM M' ks, k ∈ ks ∧ (M' k).held = false := fun k hk => by
    obtain ⟨h1, h2⟩ := List.mem_filter.1 hk
    exact ⟨h1, by simpa using h2⟩
  have h1 := aim_bd (grows := gr) (M := M') (oth := othM M' ks) (rest := restM (roomM c M' ks) M' ks) (by rw [← hN.rE]; have := hN.rB; omega) (fun k hk => by have := hb.fac k (hun k hk).1 (hun k hk).2; omega) (fun k hk => hb.base k (hun k hk).1)
    (fun k hk => by rw [← hN.allE]; exact hN.fle k (hun k hk).1 (hun k hk).2) k hk
  omega
/-- What is given back at the end, of a row. -/
theorem fit_end {c : Int} {M M' : Nat → It} {ks : List Nat} (hr : RdB (growsM c M ks) M M' ks) (h : othM M' ks = []) : ∀ k ∈ ks, 0 ≤ (M' k).width ∧ (M' k).width ≤ 9223372036854775807 := fun k hk => by
  have hh : (M' k).held = true := by
    cases hx : (M' k).held
    · have : k ∈ othM M' ks := List.mem_filter.2 ⟨hk, by rw [hx]; rfl⟩
      rw [h] at this; cases this
    · rfl
  rcases hr.wd with h1 | h1
  · have := h1 k hk hh; omega
  · exact (h1 k hk).2
/-- All items, and their rows, while the rows are turned. -/
structure RmI (g base n ci lo hi : Nat) (Ai : Option Addr) (v : Value) (R : List (List Nat)) (M : Nat → It) (w W : World) : Prop where
  own : W.ownsRow base 97 51 (.slice Ai n ci) n (rfsC M n)
  rws : RowsAt W lo hi v R
  k : Kp (fun b => b = g) w W
  gl : g < lo
  hw : hi ≤ w.heap.size
  ai : 0 < n → Ai = some ⟨g, 0, none⟩
section
variable {g base n ci lo hi : Nat} {Ai : Option Addr} {v : Value} {R : List (List Nat)} {M M2 : Nat → It} {w W W' : World}
theorem RmI.bel (h : RmI g base n ci lo hi Ai v R M w W) (hb : Below W.heap.size W W') : RmI g base n ci lo hi Ai v R M w W' :=
  ⟨own_kp h.own (Kp.of_below hb (fun _ => False)) (fun _ _ h => h), h.rws.below (hb.mono (Nat.le_trans h.hw h.k.size)), h.k.trans (Kp.of_below hb _), h.gl, h.hw, h.ai⟩
theorem RmI.turn (h : RmI g base n ci lo hi (some ⟨g, 0, none⟩) v R M w W) (hi' : RIt g base n ci M2 W') (hk : Kp (fun b => b = g) W W') : RmI g base n ci lo hi (some ⟨g, 0, none⟩) v R M2 w W' :=
  ⟨hi'.own, h.rws.keep (fun p h1 h2 => hk.cell (by have := h.hw; have := h.k.size; omega) (fun e => by have := h.gl; omega)), h.k.trans hk, h.gl, h.hw, h.ai⟩
theorem RmI.it (h : RmI g base n ci lo hi (some ⟨g, 0, none⟩) v R M w W) : RIt g base n ci M W := ⟨h.own⟩
end
/-- What the document's Mains answers. -/
structure RMainsAns (s : Sty) (c : Int) (l : List Sty) (got : List Cn) (w w' : World) (e : Ending) : Prop where
  ex : ∃ Au cu Ab cb, e = .returned (.tuple #[.slice Au l.length cu, .slice Ab l.length cb]) ∧ Reads w' w'.heap.size 3 Au l.length (triC (fun k => usedT (mainsM s c l got k)) l.length) ∧
    Reads w' w'.heap.size 1 Ab l.length (booC (fun k => usedB (mainsM s c l got k)) l.length)
  b : Below w.heap.size w w'
theorem booC_succ (p : Nat → Bool) (m : Nat) : booC p (m + 1) = booC p m ++ [.bool (p m)] := by simp [booC, List.range_succ]
theorem numF_id {x : Int} (h : -9223372036854775808 ≤ x ∧ x ≤ 9223372036854775807) : numF x = x := by unfold numF; split <;> (try split) <;> omega
theorem fits_same (c : Int) : ∀ (rows : List (List Nat)) (M : Nat → It) (k : Nat), SameI (M k) (fitsM c M rows k)
  | [], M, k => SameI.refl _
  | r :: t, M, k => (fit_same c M r k).trans (fits_same c t (fitM c M r) k)
theorem rows_look {W : World} {lo hi n c r : Nat} {A : Option Addr} {R : List (List Nat)} (h : RowsAt W lo hi (.slice A n c) R) (hr : r < R.length) :
    ∃ g Ar cr, A = some ⟨g, 0, none⟩ ∧ W.cell? ⟨g, r, none⟩ = some (.slice Ar (rowAt R r).length cr) ∧ Reads W hi 1 Ar (rowAt R r).length (nCells (rowAt R r)) := by
  obtain ⟨A', c', e, _, hx⟩ := h.ex
  injection e with e1 e2 e3
  subst e1
  obtain ⟨g, hA, _, hB, hp⟩ := hx (by omega)
  obtain ⟨Ar, cr, h1, _, h2, _⟩ := hp r hr
  exact ⟨g, Ar, cr, hA, h1, h2⟩
end Go.Proofs.Ytbopeofglhkffaa
set_option linter.unusedSimpArgs false
set_option linter.unusedVariables false
namespace Go.Proofs.Ytbopeofglhkffaa
open Go.RowKit
attribute [local go_sem] block_of_add
set_option maxRecDepth 100000 in
set_option maxHeartbeats 8000000 in
theorem rmains_any (s : Sty) (c : Int) (l : List Sty) (got : List Cn) (A Ag : Option Addr) (ck cg : Nat) (w : World) (hn : l.length ≤ 1000) (hr : Reads w w.heap.size 43 A l.length (stysCells l)) (huv : ∀ s ∈ l, ∃ Au nu cu, s.uv = .slice Au nu cu)
    (hg : Reads w w.heap.size 4 Ag got.length (cnsCells got)) (hc : CB c) (hs : ∀ s ∈ l, StX s) (hgc : ∀ x ∈ got, 0 ≤ x.greatest ∧ x.greatest ≤ 1099511627776) :
    Calls Try.prog 25 #[.agg (styCells s).toArray, .int .i64 c, .slice A l.length ck, .slice Ag got.length cg] w fun e w' => RMainsAns s c l got w w' e := by
  have HITS := Lib.hid (fun W (hb : Below w.heap.size w W) => ritems_any c l got A Ag ck cg W hn ((hr.below hb).more hb.size) huv ((hg.below hb).more hb.size) hc (fun x h => (hs x h).m) hgc)
  have HROW := Lib.hid (fun W (hb : Below w.heap.size w W) => rrows_any s c l got A Ag ck cg W hn ((hr.below hb).more hb.size) huv ((hg.below hb).more hb.size) hc (fun x h => (hs x h).m) hgc)
  have HFB : Hid (∀ k, k < l.length → FitB (itM l c got k)) := Lib.hid (fun k hk => itM_fitB hs hc hgc k hk)
  have HFC : Hid (∀ k, (itM l c got k).c = c ∧ (itM l c got k).held = false ∧ (itM l c got k).factor = 0 ∧ (itM l c got k).width = 0) := Lib.hid (fun k => ⟨rfl, rfl, rfl, rfl⟩)
  have HLR : Hid (∀ k, k < l.length → (-30000000000000 ≤ (itM l c got k).left ∧ (itM l c got k).left ≤ 30000000000000) ∧ (-30000000000000 ≤ (itM l c got k).right ∧ (itM l c got k).right ≤ 30000000000000)) := Lib.hid (fun k hk => by
    have hx := (hs l[k] (List.getElem_mem hk)).m
    have h1 := res_bd hx.m3 hc
    have h2 := res_bd hx.m1 hc
    have e1 : (itM l c got k).left = (resF (stK l k).m3 c).1 := rfl
    have e2 : (itM l c got k).right = (resF (stK l k).m1 c).1 := rfl
    rw [e1, e2, stK_at hk]; omega)
  have HRA : Hid ((rowsF s.wrap c (ownM (itM l c got)) (orderF (ordF l) l.length)).flatten = orderF (ordF l) l.length ∧ ∀ r ∈ rowsF s.wrap c (ownM (itM l c got)) (orderF (ordF l) l.length), r ≠ []) := Lib.hid ⟨(rows_all s.wrap c (ownM (itM l c got)) (orderF (ordF l) l.length)).flat, (rows_all s.wrap c (ownM (itM l c got)) (orderF (ordF l) l.length)).ne⟩
  have HMM : Hid (mainsM s c l got = fitsM c (itM l c got) (rowsF s.wrap c (ownM (itM l c got)) (orderF (ordF l) l.length))) := Lib.hid rfl
  have HCB := Lib.hid hc
  have hcb := hc.b
  clear hr hg huv hs hgc hc
  obtain ⟨n, hne⟩ : ∃ n, n = l.length := ⟨_, rfl⟩
  rw [← hne] at HITS HROW HFB HLR hn ⊢
  have HN := Lib.hid hne
  clear hne
  obtain ⟨m, hme⟩ : ∃ m, m = got.length := ⟨_, rfl⟩
  rw [← hme] at HITS HROW ⊢
  clear hme
  go_enter Try.func25, Try.ntmps25
  go_upto_region 1 with (fail)
  have H1 : Hid (Below w.heap.size w (w.alloc (.cells (styCells s).toArray 52)) ∧ Blk (w.alloc (.cells (styCells s).toArray 52)) w.heap.size 52 (styCells s).toArray) := Lib.hid ⟨bal (Below.refl _ _) _, Blk.new _ _ _⟩
  obtain ⟨gs, hgs⟩ : ∃ gs, gs = w.heap.size := ⟨_, rfl⟩
  obtain ⟨w1, hw1⟩ : ∃ w1, w1 = w.alloc (.cells (styCells s).toArray 52) := ⟨_, rfl⟩
  have HE : Hid (w.alloc (.cells (styCells s).toArray 52) = w1) := Lib.hid hw1.symm
  rw [← hw1, ← hgs] at H1
  rw [← hgs]
  first | rw [HE.out] | (rw [show (w.alloc _) = w1 from HE.out])
  have HGS := Lib.hid hgs
  clear hw1 HE hgs
  rw [← HGS.out] at HITS HROW
  have HSZ : Hid (gs < w1.heap.size) := Lib.hid H1.out.2.lt
  go_upto_region 2 with (go_at_call 43; refine (HITS.out w1 H1.out.1).mono ?_; rintro e w2 ⟨⟨v1, rfl, hown⟩, hb2⟩; obtain ⟨Ai, ci, hv1⟩ := own_form hown; subst hv1; have H2 := Lib.hid (And.intro hown (show Below w1.heap.size w1 w2 from hb2)); clear hown hb2)
  have HB2 : Hid (Below gs w w2) := Lib.hid (H1.out.1.trans (H2.out.2.mono (Nat.le_of_lt HSZ.out)))
  have HRNG : Hid (w2.rangeAt gs 0 (styCells s)) := Lib.hid (blk_rng (H1.out.2.below H2.out.2 H1.out.2.lt) fun q v hv => by
    rw [Nat.zero_add]; exact hv)
  go_upto_region 3 with (first
    | refine wpList_load_mid rfl 52 (.tmp 4) rfl gs 0 rfl (styCells s) _ HRNG.out Try.underlying52 rfl (by kernel_rfl) ?_
    | (go_at_call 44; refine (HROW.out w2 HB2.out).mono ?_; rintro e w3 ⟨⟨v2, rfl, hra⟩, hb3⟩; obtain ⟨Av, cv, hv2, _⟩ := hra.ex; subst hv2; have H3 := Lib.hid (And.intro hra (show Below w2.heap.size w2 w3 from hb3)); clear hra hb3))
  obtain ⟨M, hM⟩ : ∃ M, M = itM l c got := ⟨_, rfl⟩
  rw [← hM] at H2 H3 HFB HFC HLR HRA HMM ⊢
  clear hM
  obtain ⟨R, hR⟩ : ∃ R, R = rowsF s.wrap c (ownM M) (orderF (ordF l) l.length) := ⟨_, rfl⟩
  rw [← hR] at H3 HRA HMM ⊢
  have HRF : Hid (R.flatten = orderF (ordF l) l.length ∧ (∀ r ∈ R, r ≠ []) ∧ R.flatten.Nodup ∧ (∀ k, k ∈ R.flatten ↔ k < n) ∧ R.length ≤ n ∧ R.flatten.length = n) := Lib.hid (by
    have hf : R.flatten = orderF (ordF l) l.length := HRA.out.1
    have hne : ∀ r ∈ R, r ≠ [] := HRA.out.2
    have hl : R.flatten.length = n := by rw [hf, orderF_len, HN.out]
    refine ⟨hf, hne, by rw [hf]; exact orderF_nodup _ _, fun k => by rw [hf, HN.out]; exact orderF_mem _ _ _, by rw [← hl]; exact rows_count hne, hl⟩)
  clear hR HRA
  have HG : Hid (∃ g base lo, w.heap.size ≤ g ∧ RmI g base n ci lo w3.heap.size Ai (.slice Av R.length cv) R M w3 w3) := Lib.hid (by
    have h3 := H3.out.1
    have hown := own_kp H2.out.1 (Kp.of_below H3.out.2 (fun _ => False)) (fun _ _ h => h)
    have hlo : w1.heap.size ≤ w2.heap.size := H2.out.2.size
    have hgw : w.heap.size ≤ w1.heap.size := H1.out.1.size
    have e : rfsC M n = risC M n := (ris_rfs M n fun k _ => ⟨(HFC.out k).2.2.1, (HFC.out k).2.1, (HFC.out k).2.2.2⟩).symm
    rcases Nat.eq_zero_or_pos n with h0 | h0
    · exact ⟨w.heap.size, _, w2.heap.size, Nat.le_refl _, by rw [e]; exact hown, h3, Kp.refl _ _, by have := HSZ.out; have := HGS.out; omega, Nat.le_refl _, fun h => by omega⟩
    · obtain ⟨g, c', hv, hlt, hlt2⟩ := H2.out.1.form h0
      injection hv with hv1
      refine ⟨g, _, w2.heap.size, by omega, by rw [e]; exact hown, h3, Kp.refl _ _, hlt2, Nat.le_refl _, fun _ => hv1⟩)
  obtain ⟨g, base, lo, hgw, hJ0⟩ := HG.out
  have HJ0 := Lib.hid hJ0
  have HBW : Hid (Below w.heap.size w w3) := Lib.hid (by rw [← HGS.out]; exact HB2.out.trans (H3.out.2.mono (by rw [HGS.out]; exact HB2.out.size)))
  rw [HGS.out] at *
  have hrn := HRF.out.2.2.2.2.1
  clear hJ0 HG H1 H2 H3 HITS HROW HRNG HB2 HSZ HGS
  as_aux_lemma =>
  go_wp2_with fail
  go_loopw [12] (fun kv wr => ∃ r : Nat, r ≤ R.length ∧ kv = .int .i64 r ∧ Hid (RmI g base n ci lo w3.heap.size Ai (.slice Av R.length cv) R (fitsM c M (R.take r)) w3 wr) ∧ Hid (∀ k ∈ (R.take r).flatten, 0 ≤ (fitsM c M (R.take r) k).width ∧ (fitsM c M (R.take r) k).width ≤ 9223372036854775807)) (fun kv _ => R.length - (intOf kv).toNat)
  case atStart => exact ⟨0, by omega, rfl, HJ0, Lib.hid (fun k hk => by simp at hk)⟩
  case round =>
    obtain ⟨r, hr, rfl, HJ, HWD⟩ := hrel
    by_cases hlt : r < R.length
    rotate_left
    · as_aux_lemma =>
      have g1 : decide ((r : Int) < (R.length : Int)) = false := decide_eq_false (by omega)
      have g1' : decide (r < R.length) = false := decide_eq_false hlt
      have HTR : Hid (R.take r = R) := Lib.hid (List.take_of_length_le (by omega))
      obtain ⟨U, hU⟩ : ∃ U, U = fitsM c M R := ⟨_, rfl⟩
      rw [HTR.out, ← hU] at HJ HWD
      have HWN : Hid (∀ k, k < n → 0 ≤ (U k).width ∧ (U k).width ≤ 9223372036854775807) := Lib.hid (fun k hk => HWD.out k ((HRF.out.2.2.2.1 k).2 hk))
      have HUL : Hid (∀ k, k < n → (U k).left = (M k).left ∧ (U k).right = (M k).right) := Lib.hid (fun k hk => by
        have := fits_same c R M k
        rw [← hU] at this
        exact ⟨this.left, this.right⟩)
      rw [← hU] at HMM
      have HTU : Hid (∀ k, k < n → usedT (U k) = (cutF (U k).width, cutF (U k).left, cutF (U k).right) ∧ usedB (U k) = (cutB (U k).width || cutB (U k).left || cutB (U k).right)) := Lib.hid (fun k hk => by
        have h := HWN.out k hk
        unfold usedT usedB
        rw [numF_id (by omega)]; exact ⟨rfl, rfl⟩)
      clear hU hlt HJ0 HWD
      go_wp2_with fail
      obtain ⟨w9, rfl⟩ : ∃ w9, w9 = wr := ⟨_, rfl⟩
      clear g1 g1'
      go_loopw [22, 23, 24] (fun uv bv kv wr => ∃ i : Nat, i ≤ n ∧ kv = .int .i64 i ∧ Hid (wr.ownsRow w9.heap.size 27 3 uv i (triC (fun k => usedT (U k)) i) ∧ wr.ownsRow w9.heap.size 4 1 bv i (booC (fun k => usedB (U k)) i) ∧ Below w9.heap.size w9 wr)) (fun _ _ kv _ => n - (intOf kv).toNat)
      case atStart => exact ⟨0, by omega, rfl, Lib.hid ⟨⟨rfl, .inl ⟨rfl, rfl⟩⟩, ⟨rfl, .inl ⟨rfl, rfl⟩⟩, Below.refl _ _⟩⟩
      case round =>
        obtain ⟨i, hi, rfl, HV⟩ := hrel
        obtain ⟨Au, cu, hvu⟩ := own_form HV.out.1
        obtain ⟨Ab, cb, hvb⟩ := own_form HV.out.2.1
        subst hvu
        subst hvb
        by_cases hl : i < n
        rotate_left
        · as_aux_lemma =>
          have q0 : decide ((i : Int) < (n : Int)) = false := decide_eq_false (by omega)
          have q0' : decide (i < n) = false := decide_eq_false hl
          have hin : i = n := by omega
          have HEN : Hid (RMainsAns s c l got w wr (.returned (.tuple #[.slice Au i cu, .slice Ab i cb]))) := Lib.hid (by
            rw [hin] at HV ⊢
            refine ⟨⟨Au, cu, Ab, cb, by rw [← HN.out], ?_, ?_⟩, ?_⟩
            · rw [← HN.out, HMM.out]; exact Reads.of_own HV.out.1
            · rw [← HN.out, HMM.out]; exact Reads.of_own HV.out.2.1
            · exact (HBW.out.trans (HJ.out.k.below (B := w.heap.size) (fun k e => by have e2 : k = g := e; omega) HBW.out.size)).trans (HV.out.2.2.mono (Nat.le_trans HBW.out.size HJ.out.k.size)))
          clear hin
          go_wp2_with fail
          go_ret2
          exact HEN.out
        as_aux_lemma =>
        have q0 : decide ((i : Int) < (n : Int)) = true := decide_eq_true (by omega)
        have q0' : decide (i < n) = true := decide_eq_true hl
        have hii : (i : Int) < (n : Int) := by omega
        have hi0 : (0 : Int) ≤ (i : Int) := by omega
        have wi : IntKind.i64.wrap ((i : Int) + 1) = (i : Int) + 1 := IntWalk.i64_in _ ⟨by omega, by omega⟩
        have hn0 : 0 < n := by omega
        obtain rfl : Ai = some ⟨g, 0, none⟩ := HJ.out.ai hn0
        obtain ⟨t1, ht1⟩ : ∃ t, t = (U i).width := ⟨_, rfl⟩
        obtain ⟨t2, ht2⟩ : ∃ t, t = (U i).left := ⟨_, rfl⟩
        obtain ⟨t3, ht3⟩ : ∃ t, t = (U i).right := ⟨_, rfl⟩
        have HX := Lib.hid ((HJ.out.bel HV.out.2.2).it)
        have x50 : wr.cell? ⟨g, i * 51 + 50, none⟩ = some (.int .i64 t1) := HX.out.cell hl 50 (by rw [ht1]; rfl)
        have x43 : wr.cell? ⟨g, i * 51 + 43, none⟩ = some (.int .i64 t2) := HX.out.cell hl 43 (by rw [ht2]; rfl)
        have x44 : wr.cell? ⟨g, i * 51 + 44, none⟩ = some (.int .i64 t3) := HX.out.cell hl 44 (by rw [ht3]; rfl)
        have HCT : Hid ((-9223372036854775808 ≤ t1 ∧ t1 ≤ 9223372036854775807) ∧ (-9223372036854775808 ≤ t2 ∧ t2 ≤ 9223372036854775807) ∧ (-9223372036854775808 ≤ t3 ∧ t3 ≤ 9223372036854775807)) := Lib.hid (by
          have h1 := HWN.out i hl
          have h2 := HUL.out i hl
          have h3 := HLR.out i hl
          rw [ht1, ht2, ht3, h2.1, h2.2]; omega)
        have HTI : Hid (triC (fun k => usedT (U k)) (i + 1) = triC (fun k => usedT (U k)) i ++ [.int .i64 (cutF t1), .int .i64 (cutF t2), .int .i64 (cutF t3)] ∧ booC (fun k => usedB (U k)) (i + 1) = booC (fun k => usedB (U k)) i ++ [.bool (cutB t1 || cutB t2 || cutB t3)]) := Lib.hid (by
          have h := HTU.out i hl
          rw [triC_succ, booC_succ, h.1, h.2, ht1, ht2, ht3]; exact ⟨rfl, rfl⟩)
        clear ht1 ht2 ht3
        have HRCUT : Hid (∀ x W, (-9223372036854775808 ≤ x ∧ x ≤ 9223372036854775807) → Calls Try.prog 46 #[.int .i64 x] W fun e w' => e = .returned (.tuple #[.int .i64 (cutF x), .bool (cutB x)]) ∧ W = w') := Lib.hid (fun x W h => cut13_any x W)
        go_upto_region 41 with (go_at_call 46; refine (HRCUT.out _ _ HCT.out.1).mono ?_; rintro e w' ⟨rfl, rfl⟩)
        go_upto_region 42 with (go_at_call 46; refine (HRCUT.out _ _ HCT.out.2.1).mono ?_; rintro e w' ⟨rfl, rfl⟩)
        go_upto_region 43 with (go_at_call 46; refine (HRCUT.out _ _ HCT.out.2.2).mono ?_; rintro e w' ⟨rfl, rfl⟩)
        clear x43 x44 x50
        have h9 : i + 1 ≤ 4294967296 := by omega
        have HGLO : Hid (w9.heap.size ≤ wr.heap.size) := Lib.hid HV.out.2.2.size
        obtain ⟨z1, hz1⟩ : ∃ z, z = cutF t1 := ⟨_, rfl⟩
        obtain ⟨z2, hz2⟩ : ∃ z, z = cutF t2 := ⟨_, rfl⟩
        obtain ⟨z3, hz3⟩ : ∃ z, z = cutF t3 := ⟨_, rfl⟩
        obtain ⟨b1, hb1⟩ : ∃ z, z = cutB t1 := ⟨_, rfl⟩
        obtain ⟨b2, hb2⟩ : ∃ z, z = cutB t2 := ⟨_, rfl⟩
        obtain ⟨b3, hb3⟩ : ∃ z, z = cutB t3 := ⟨_, rfl⟩
        rw [← hz1, ← hz2, ← hz3, ← hb1, ← hb2, ← hb3] at HTI ⊢
        clear hz1 hz2 hz3 hb1 hb2 hb3 HRCUT HCT
        go_upto_region 44 with (at_builtin; refine wpList_app (m := 1) rfl _ _ rfl el_used HV.out.1 HGLO.out rfl [.int .i64 z1, .int .i64 z2, .int .i64 z3] rfl rfl (by simp [Value.oneCell']) h9 (by omega) ?_; intro A1 c1 w10 hown10 hB10 hg10 _; have HV2 : Hid (w10.ownsRow w9.heap.size 27 3 (.slice A1 (i + 1) c1) (i + 1) (triC (fun k => usedT (U k)) (i + 1)) ∧ w10.ownsRow w9.heap.size 4 1 (.slice Ab i cb) i (booC (fun k => usedB (U k)) i) ∧ Below w9.heap.size w9 w10 ∧ w9.heap.size ≤ w10.heap.size) := Lib.hid ⟨by rw [HTI.out.1]; exact hown10, HV.out.2.1.kept hg10 (own_ne HV.out.2.1 HV.out.1 (by decide)), hB10 _ _ (Nat.le_refl _) HV.out.2.2, (hB10 _ _ (Nat.le_refl _) HV.out.2.2).size⟩; clear hown10 hB10 hg10)
        have HPK : Hid ((b1 || b2 || b3) = (if b1 then true else if b2 then true else b3)) := Lib.hid (by cases b1 <;> cases b2 <;> rfl)
        cases b1
        · cases b2
          · have HBB : Hid (booC (fun k => usedB (U k)) (i + 1) = booC (fun k => usedB (U k)) i ++ [.bool b3]) := Lib.hid HTI.out.2
            go_wp2_with (at_builtin; refine wpList_app (m := 1) rfl _ _ rfl el_boo HV2.out.2.1 HV2.out.2.2.2 rfl [.bool b3] rfl rfl (by simp [Value.oneCell']) h9 (by omega) ?_; intro A2 c2 w11 hown11 hB11 hg11 _; have HV4 : Hid (w11.ownsRow w9.heap.size 27 3 (.slice A1 (i + 1) c1) (i + 1) (triC (fun k => usedT (U k)) (i + 1)) ∧ w11.ownsRow w9.heap.size 4 1 (.slice A2 (i + 1) c2) (i + 1) (booC (fun k => usedB (U k)) (i + 1)) ∧ Below w9.heap.size w9 w11) := Lib.hid ⟨HV2.out.1.kept hg11 (own_ne HV2.out.1 HV2.out.2.1 (by decide)), by rw [HBB.out]; exact hown11, hB11 _ _ (Nat.le_refl _) HV2.out.2.2.1⟩; clear hown11 hB11 hg11)
            go_roundw
            case rel => exact ⟨i + 1, by omega, by go_num, HV4⟩
            case measure => simp [intOf] <;> omega
          · have HBB : Hid (booC (fun k => usedB (U k)) (i + 1) = booC (fun k => usedB (U k)) i ++ [.bool true]) := Lib.hid HTI.out.2
            go_wp2_with (at_builtin; refine wpList_app (m := 1) rfl _ _ rfl el_boo HV2.out.2.1 HV2.out.2.2.2 rfl [.bool true] rfl rfl (by simp [Value.oneCell']) h9 (by omega) ?_; intro A2 c2 w11 hown11 hB11 hg11 _; have HV4 : Hid (w11.ownsRow w9.heap.size 27 3 (.slice A1 (i + 1) c1) (i + 1) (triC (fun k => usedT (U k)) (i + 1)) ∧ w11.ownsRow w9.heap.size 4 1 (.slice A2 (i + 1) c2) (i + 1) (booC (fun k => usedB (U k)) (i + 1)) ∧ Below w9.heap.size w9 w11) := Lib.hid ⟨HV2.out.1.kept hg11 (own_ne HV2.out.1 HV2.out.2.1 (by decide)), by rw [HBB.out]; exact hown11, hB11 _ _ (Nat.le_refl _) HV2.out.2.2.1⟩; clear hown11 hB11 hg11)
            go_roundw
            case rel => exact ⟨i + 1, by omega, by go_num, HV4⟩
            case measure => simp [intOf] <;> omega
        · have HBB : Hid (booC (fun k => usedB (U k)) (i + 1) = booC (fun k => usedB (U k)) i ++ [.bool true]) := Lib.hid (by rw [HTI.out.2]; cases b2 <;> rfl)
          go_wp2_with (at_builtin; refine wpList_app (m := 1) rfl _ _ rfl el_boo HV2.out.2.1 HV2.out.2.2.2 rfl [.bool true] rfl rfl (by simp [Value.oneCell']) h9 (by omega) ?_; intro A2 c2 w11 hown11 hB11 hg11 _; have HV4 : Hid (w11.ownsRow w9.heap.size 27 3 (.slice A1 (i + 1) c1) (i + 1) (triC (fun k => usedT (U k)) (i + 1)) ∧ w11.ownsRow w9.heap.size 4 1 (.slice A2 (i + 1) c2) (i + 1) (booC (fun k => usedB (U k)) (i + 1)) ∧ Below w9.heap.size w9 w11) := Lib.hid ⟨HV2.out.1.kept hg11 (own_ne HV2.out.1 HV2.out.2.1 (by decide)), by rw [HBB.out]; exact hown11, hB11 _ _ (Nat.le_refl _) HV2.out.2.2.1⟩; clear hown11 hB11 hg11)
          go_roundw
          case rel => exact ⟨i + 1, by omega, by go_num, HV4⟩
          case measure => simp [intOf] <;> omega
    have g1 : decide ((r : Int) < (R.length : Int)) = true := decide_eq_true (by omega)
    have g1' : decide (r < R.length) = true := decide_eq_true hlt
    have hki : (r : Int) < (R.length : Int) := by omega
    have hk0 : (0 : Int) ≤ (r : Int) := by omega
    have wk : IntKind.i64.wrap ((r : Int) + 1) = (r : Int) + 1 := IntWalk.i64_in _ ⟨by omega, by omega⟩
    have hn0 : 0 < n := by omega
    obtain ⟨ks, hks⟩ : ∃ ks, ks = R[r] := ⟨_, rfl⟩
    have HKN : Hid (∀ k ∈ ks, k < n) := Lib.hid (fun k hk => (HRF.out.2.2.2.1 k).1 (List.mem_flatten.2 ⟨R[r], List.getElem_mem hlt, by rw [← hks]; exact hk⟩))
    have HKD : Hid (ks.Nodup ∧ ks.length ≤ n) := Lib.hid ⟨by rw [hks]; exact row_nodup HRF.out.2.2.1 hlt, by rw [hks, ← HRF.out.2.2.2.2.2]; exact row_len hlt⟩
    obtain ⟨Mr, hMr⟩ : ∃ Mr, Mr = fitsM c M (R.take r) := ⟨_, rfl⟩
    have HMK : Hid (∀ k ∈ ks, Mr k = M k) := Lib.hid (fun k hk => by rw [hMr]; exact fits_take c R M HRF.out.2.2.1 hlt (by rw [← hks]; exact hk))
    have HSU : Hid (fitsM c M (R.take (r + 1)) = fitM c Mr ks) := Lib.hid (by rw [fits_succ c R M hlt, hMr, hks])
    have HFL : Hid (∀ k, k ∈ (R.take (r + 1)).flatten ↔ k ∈ (R.take r).flatten ∨ k ∈ ks) := Lib.hid (fun k => by rw [List.take_succ_eq_append_getElem hlt, List.flatten_append, List.mem_append, hks]; simp)
    have HDJ : Hid (∀ k ∈ (R.take r).flatten, k ∉ ks) := Lib.hid (fun k hk hk2 => by
      have e : R = R.take r ++ R[r] :: R.drop (r + 1) := by rw [← List.drop_eq_getElem_cons hlt, List.take_append_drop]
      have hd := HRF.out.2.2.1
      rw [e, List.flatten_append, List.flatten_cons] at hd
      exact (List.nodup_append.1 hd).2.2 k hk k (List.mem_append_left _ (by rw [← hks]; exact hk2)) rfl)
    rw [← hMr] at HJ HWD
    have HFX : Hid (∀ k ∈ ks, FitB (Mr k) ∧ (Mr k).c = c) := Lib.hid (fun k hk => by rw [HMK.out k hk]; exact ⟨HFB.out k (HKN.out k hk), (HFC.out k).1⟩)
    obtain ⟨mm, hmm⟩ : ∃ mm, mm = ks.length := ⟨_, rfl⟩
    have hml : mm ≤ n := by rw [hmm]; exact HKD.out.2
    have HML := Lib.hid hmm
    have HRW : Hid (rowAt R r = ks) := Lib.hid (by rw [rowAt_eq hlt, hks])
    obtain rfl : Ai = some ⟨g, 0, none⟩ := HJ.out.ai hn0
    clear hMr hmm hks HJ0
    obtain ⟨gr, hgr⟩ : ∃ gr, gr = growsM c Mr ks := ⟨_, rfl⟩
    have HGR := Lib.hid hgr
    clear hgr
    as_aux_lemma =>
    have hI0 : wr.ownsRow wr.heap.size 95 1 (.slice none 0 0) 0 (rpC g (ks.take 0)) := ⟨by rw [List.take_zero]; rfl, .inl ⟨rfl, rfl⟩⟩
    have HI0 := Lib.hid hI0
    clear hI0
    go_wp2_with fail
    obtain ⟨wb, rfl⟩ : ∃ wb, wb = wr := ⟨_, rfl⟩
    go_loopw [13, 14, 15] (fun v sv kv wr => ∃ i : Nat, i ≤ mm ∧ kv = .int .i64 i ∧ sv = .int .i64 (((ks.take i).map (ownM Mr)).sum) ∧ Hid (wr.ownsRow wb.heap.size 95 1 v i (rpC g (ks.take i)) ∧ Below wb.heap.size wb wr)) (fun _ _ kv _ => mm - (intOf kv).toNat)
    case atStart => exact ⟨0, by omega, rfl, rfl, Lib.hid ⟨HI0.out, Below.refl _ _⟩⟩
    case round =>
      obtain ⟨i, hi, rfl, rfl, HV⟩ := hrel
      obtain ⟨Ap, cp, hvv⟩ := own_form HV.out.1
      subst hvv
      have HSB : Hid (-50000000000000000 ≤ ((ks.take i).map (ownM Mr)).sum ∧ ((ks.take i).map (ownM Mr)).sum ≤ 50000000000000000) := Lib.hid (by
        have := map_take_bd (ownM Mr) ks 41000000000000 (fun k hk => by
          have h := (HFX.out k hk).1
          have h1 := h.sides
          have h2 := h.guess
          unfold ownM; omega) (by omega) (by rw [← HML.out]; omega) i
        omega)
      have hsb := HSB.out
      obtain ⟨SO, hSO⟩ : ∃ SO, SO = ((ks.take i).map (ownM Mr)).sum := ⟨_, rfl⟩
      rw [← hSO] at hsb ⊢
      have HJW : Hid (RmI g base n ci lo w3.heap.size (some ⟨g, 0, none⟩) (.slice Av R.length cv) R Mr w3 wr) := Lib.hid (HJ.out.bel HV.out.2)
      obtain ⟨gp, Ar, cr, rfl, f1, rd⟩ := rows_look HJW.out.rws hlt
      rw [HRW.out, ← HML.out] at f1 rd
      by_cases hl2 : i < mm
      · as_aux_lemma =>
        have q0 : decide ((i : Int) < (mm : Int)) = true := decide_eq_true (by omega)
        have q0' : decide (i < mm) = true := decide_eq_true hl2
        have hii : (i : Int) < (mm : Int) := by omega
        have hi0 : (0 : Int) ≤ (i : Int) := by omega
        have wi : IntKind.i64.wrap ((i : Int) + 1) = (i : Int) + 1 := IntWalk.i64_in _ ⟨by omega, by omega⟩
        have hkl : i < ks.length := by rw [← HML.out]; exact hl2
        obtain ⟨k, hk⟩ : ∃ k, k = ks[i] := ⟨_, rfl⟩
        have hkm : k ∈ ks := by rw [hk]; exact List.getElem_mem hkl
        have hkn := HKN.out k hkm
        have hkn2 : (k : Int) < (n : Int) := by omega
        have hkn3 : (0 : Int) ≤ (k : Int) := by omega
        obtain ⟨a1, u1, rfl, ha1, hx1, hc1⟩ := rd.at_ hl2
        have e1 : u1 = .int .i64 (k : Int) := by rw [hk]; simpa [nCells, hkl] using hx1.symm
        subst e1
        have HSN : Hid (((ks.take (i + 1)).map (ownM Mr)).sum = SO + ownM Mr k) := Lib.hid (by rw [map_take_succ _ _ _ hkl, hSO, hk])
        have HTK : Hid (ks.take (i + 1) = ks.take i ++ [k]) := Lib.hid (by rw [List.take_succ_eq_append_getElem hkl, hk])
        clear hx1 hk hSO
        have hfx := (HFX.out k hkm).1
        obtain ⟨sd, hsd⟩ : ∃ sd, sd = (Mr k).sides := ⟨_, rfl⟩
        obtain ⟨ge, hge⟩ : ∃ ge, ge = (Mr k).guess := ⟨_, rfl⟩
        have hs1 := hfx.sides
        have hg1 := hfx.guess
        rw [← hsd] at hs1
        rw [← hge] at hg1
        have HOW : Hid (ownM Mr k = ge + sd) := Lib.hid (by rw [hsd, hge]; unfold ownM; omega)
        have HXC : Hid (∀ W, Below wb.heap.size wb W → W.cell? ⟨g, k * 51 + 45, none⟩ = some (.int .i64 sd) ∧ W.cell? ⟨g, k * 51 + 47, none⟩ = some (.int .i64 ge)) := Lib.hid (fun W hb => by
          have h := (HJ.out.bel hb).it
          exact ⟨h.cell hkn 45 (by rw [hsd]; rfl), h.cell hkn 47 (by rw [hge]; rfl)⟩)
        clear hfx hsd hge
        have w6 : IntKind.i64.wrap (SO + ge) = SO + ge := IntWalk.i64_in _ ⟨by omega, by omega⟩
        have w7 : IntKind.i64.wrap (SO + ge + sd) = SO + ge + sd := IntWalk.i64_in _ ⟨by omega, by omega⟩
        have h9 : i + 1 ≤ 4294967296 := by omega
        have HGLO : Hid (wb.heap.size ≤ wr.heap.size) := Lib.hid HV.out.2.size
        go_upto_region 12 with (fail)
        clear f1 hc1 rd
        go_upto_region 13 with (at_builtin; refine wpList_app (m := 1) rfl _ _ rfl el_rip HV.out.1 HGLO.out rfl [.pointer (some ⟨g, k * 51, none⟩)] rfl rfl (by simp [Value.oneCell']) h9 (by omega) ?_; intro A1 c1 w10 hown10 hB10 hg10 _; have HV2 : Hid (w10.ownsRow wb.heap.size 95 1 (.slice A1 (i + 1) c1) (i + 1) (rpC g (ks.take (i + 1))) ∧ Below wb.heap.size wb w10) := Lib.hid ⟨by rw [HTK.out, rpC_app]; exact hown10, hB10 _ _ (Nat.le_refl _) HV.out.2⟩; clear hown10 hB10 hg10)
        have x45 := (HXC.out _ HV2.out.2).1
        have x47 := (HXC.out _ HV2.out.2).2
        go_quiet (fail)
        go_wp2_with fail
        go_roundw
        case rel => exact ⟨i + 1, by omega, by go_num, by rw [HSN.out, HOW.out]; congr 1; omega, Lib.hid ⟨own_kp HV2.out.1 (Kp.drewN (Kp.refl (fun _ => False) _) _) (fun _ _ h => h), below_dr HV2.out.2 _⟩⟩
        case measure => simp [intOf] <;> omega
      · as_aux_lemma =>
        have q0 : decide ((i : Int) < (mm : Int)) = false := decide_eq_false (by omega)
        have q0' : decide (i < mm) = false := decide_eq_false hl2
        have him : i = mm := by omega
        have HGD : Hid (decide (SO < c) = gr) := Lib.hid (by
          rw [HGR.out, growsM_own, hSO, him, HML.out, List.take_length])
        have HOWN : Hid (∀ W, Kp (fun b => b = g) wr W → W.ownsRow wb.heap.size 95 1 (.slice Ap mm cp) mm (rpC g ks)) := Lib.hid (fun W hk => by
          have h := HV.out.1
          rw [him] at h
          rw [HML.out, List.take_length] at h
          rw [HML.out]
          exact own_kp h hk fun g' e e2 => by
            have h1 := (h.lt g' e).1
            have h2 := HJ.out.gl
            have h3 := HJ.out.it.lt.2
            have e2' : g' = g := e2
            omega)
        have HPP : Hid (∀ W, Kp (fun b => b = g) wr W → ∀ i (h : i < ks.length), ∃ p : Addr, Ap = some p ∧ W.cell? (p.add i) = some (.pointer (some ⟨g, ks[i] * 51, none⟩))) := Lib.hid (fun W hk i h => by
          obtain ⟨p, u, e, hlt, hx, hc⟩ := (Reads.of_own (HOWN.out W hk)).at_ (show i < mm by rw [HML.out]; exact h)
          refine ⟨p, e, ?_⟩
          have hu : u = .pointer (some ⟨g, ks[i] * 51, none⟩) := by simpa [rpC, h] using hx.symm
          rw [← hu, ← hc])
        have HPG : Hid (∀ p, Ap = some p → p.block ≠ g) := Lib.hid (fun p e e2 => by
          have h1 := ((HOWN.out wr (Kp.refl _ _)).lt p.block (by rw [e]; rfl)).1
          have h3 := HJ.out.it.lt.2
          omega)
        rw [him]
        clear hSO him hsb HSB
        have HK0 : Hid (RkS g base n ci (stM Mr (startM gr Mr ks) ks 0) wr wr) := Lib.hid ⟨HJW.out.it.same fun k _ => by unfold stM; rw [List.take_zero, if_neg (by simp)], Kp.refl _ _⟩
        obtain ⟨S, hS⟩ : ∃ S, S = startM gr Mr ks := ⟨_, rfl⟩
        rw [← hS] at HK0
        have HS : Hid ((∀ k ∈ ks, S k = startI gr (Mr k)) ∧ (∀ k, k ∉ ks → S k = Mr k)) := Lib.hid ⟨fun k hk => by rw [hS]; exact if_pos hk, fun k hk => by rw [hS]; exact if_neg hk⟩
        have HSS := Lib.hid hS
        clear hS
        go_upto_region 15 with (fail)
        rw [HGD.out]
        clear q0 q0' hl2 hi
        go_wp2_with fail
        obtain ⟨wv, rfl⟩ : ∃ wv, wv = wr := ⟨_, rfl⟩
        go_loopw [18, 19] (fun lv kv wr => ∃ i : Nat, i ≤ mm ∧ kv = .int .i64 i ∧ lv = .int .i64 ((othM S (ks.take i)).length : Nat) ∧ Hid (RkS g base n ci (stM Mr S ks i) wv wr)) (fun _ kv _ => mm - (intOf kv).toNat)
        case atStart => exact ⟨0, by omega, rfl, rfl, HK0⟩
        case round =>
          obtain ⟨i, hi, rfl, rfl, HK⟩ := hrel
          have hcl : (othM S (ks.take i)).length ≤ 1000 := by
            have h1 : (othM S (ks.take i)).length ≤ (ks.take i).length := List.length_filter_le _ _
            have h2 := List.length_take (i := i) (l := ks)
            have := HML.out
            omega
          obtain ⟨cn, hcn⟩ : ∃ cn, cn = (othM S (ks.take i)).length := ⟨_, rfl⟩
          rw [← hcn] at hcl ⊢
          by_cases hl3 : i < mm
          · as_aux_lemma =>
            have q0 : decide ((i : Int) < (mm : Int)) = true := decide_eq_true (by omega)
            have q0' : decide (i < mm) = true := decide_eq_true hl3
            have hii : (i : Int) < (mm : Int) := by omega
            have hi0 : (0 : Int) ≤ (i : Int) := by omega
            have wi : IntKind.i64.wrap ((i : Int) + 1) = (i : Int) + 1 := IntWalk.i64_in _ ⟨by omega, by omega⟩
            have wc : IntKind.i64.wrap ((cn : Int) + 1) = (cn : Int) + 1 := IntWalk.i64_in _ ⟨by omega, by omega⟩
            have hkl : i < ks.length := by rw [← HML.out]; exact hl3
            obtain ⟨k, hk⟩ : ∃ k, k = ks[i] := ⟨_, rfl⟩
            have hkm : k ∈ ks := by rw [hk]; exact List.getElem_mem hkl
            have hkn := HKN.out k hkm
            obtain ⟨p, hA, c1⟩ := HPP.out wr HK.out.k i hkl
            rw [← hk] at c1
            subst hA
            obtain ⟨x, hx⟩ : ∃ x, x = Mr k := ⟨_, rfl⟩
            have HST : Hid (stM Mr S ks i k = x ∧ stM Mr S ks (i + 1) k = startI gr x ∧ ∀ j, j ≠ k → stM Mr S ks (i + 1) j = stM Mr S ks i j) := Lib.hid (by
              rw [hx, ← HS.out.1 k hkm, hk]; exact ⟨stM_old HKD.out.1 hkl, stM_new hkl, fun j hj => stM_other hkl hj⟩)
            have hfx := (HFX.out k hkm).1
            rw [← hx] at hfx
            have HCN : Hid ((othM S (ks.take (i + 1))).length = cn + (if stopI gr x then 0 else 1)) := Lib.hid (by
              rw [othM_take1 S ks i hkl, ← hcn, ← hk, HS.out.1 k hkm, ← hx]
              unfold startI
              have hh := hfx.held
              cases hst : stopI gr x
              · simp [hh]
              · simp)
            have HPB := Lib.hid (facI_bd (grows := false) hfx)
            obtain ⟨pr, hpr⟩ : ∃ pr, pr = x.s.shrink * x.base := ⟨_, rfl⟩
            have HFA : Hid (facI gr x = if gr then x.s.grow else pr) := Lib.hid (by rw [hpr]; rfl)
            have hpb : -1000000000000000 ≤ pr ∧ pr ≤ 1000000000000000 := by rw [hpr]; exact HPB.out
            have w8 : IntKind.i64.wrap (x.s.shrink * x.base) = pr := by rw [← hpr]; exact IntWalk.i64_in _ ⟨by omega, by omega⟩
            obtain ⟨N, hN⟩ : ∃ N, N = stM Mr S ks i := ⟨_, rfl⟩
            have HKX : Hid (RkS g base n ci (atM k x N) wv wr) := Lib.hid (HK.out.same fun q _ => by
              rw [hN]
              by_cases e : q = k
              · subst e; rw [atM_at, HST.out.1]
              · rw [atM_ne _ _ e])
            have HNX : Hid (∀ W y, rfC y = rfC (startI gr x) → RkS g base n ci (atM k y N) wv W → RkS g base n ci (stM Mr S ks (i + 1)) wv W) := Lib.hid (fun W y hy h => h.same fun q _ => by
              by_cases e : q = k
              · subst e; rw [atM_at, HST.out.2.1, hy]
              · rw [atM_ne _ _ e, hN, HST.out.2.2 q e])
            clear hk hx hcn HPB hpr hN HK hfx
            go_upto_region 20 with (fail)
            clear c1
            have E0 := HKX.out.bel (Below.refl _ _).drew
            refine wp_region_S (fun b _ _ W => if b then RkS g base n ci (atM k { x with factor := pr } N) wv W else RkS g base n ci (atM k x N) wv W) 13 1000 100000 false true (by kernel_rfl) (by kernel_rfl) (by kernel_rfl) (E0) ?_
            refine wpAnyS_pre (j := 0) (by kernel_rfl) ?_
            iterate 13
              refine wpAnyS_nx (v := ?_) rfl (by kernel_rfl) (by kernel_rfl) (by kernel_rfl) (fun _ _ _ h => h) (by rfl) (gives_pureF (by rfl) (by kernel_rfl) ?_) ?_
              rotate_left
              · intro d' u' W' hS'
                have z39 : W'.cell? ⟨g, k * 51 + 39, none⟩ = some (.int .i64 x.s.shrink) := (show RkS g base n ci (atM k x N) wv W' from hS').cell hkn 39 rfl
                have z46 : W'.cell? ⟨g, k * 51 + 46, none⟩ = some (.int .i64 x.base) := (show RkS g base n ci (atM k x N) wv W' from hS').cell hkn 46 rfl
                have z48 : W'.cell? ⟨g, k * 51 + 48, none⟩ = some (.int .i64 x.factor) := (show RkS g base n ci (atM k x N) wv W' from hS').cell hkn 48 rfl
                have z48f := (show RkS g base n ci (atM k x N) wv W' from hS').it.frozen (k * 51 + 48)
                go_simp
                rfl
              try simp only [Act.put, List.setIfInBounds_toArray, List.set_cons_zero, List.set_cons_succ, List.getElem_toArray, List.getElem_cons_zero, List.getElem_cons_succ]
            refine wpAnyS_store (i := 13) (d := true) (fun W' => W'.setCell ⟨g, k * 51 + 48, none⟩ (.int .i64 pr)) rfl (by kernel_rfl) (by rfl) (by rfl) (by kernel_rfl) rfl ?_ (fun W' hS' => (show RkS g base n ci (atM k x N) wv W' from hS').put hkn 48 _ (by omega) rfl) ?_
            · intro W' hS'
              have z39 : W'.cell? ⟨g, k * 51 + 39, none⟩ = some (.int .i64 x.s.shrink) := (show RkS g base n ci (atM k x N) wv W' from hS').cell hkn 39 rfl
              have z46 : W'.cell? ⟨g, k * 51 + 46, none⟩ = some (.int .i64 x.base) := (show RkS g base n ci (atM k x N) wv W' from hS').cell hkn 46 rfl
              have z48 : W'.cell? ⟨g, k * 51 + 48, none⟩ = some (.int .i64 x.factor) := (show RkS g base n ci (atM k x N) wv W' from hS').cell hkn 48 rfl
              have z48f := (show RkS g base n ci (atM k x N) wv W' from hS').it.frozen (k * 51 + 48)
              go_simp
              try rfl
            try simp only [Act.put, List.setIfInBounds_toArray, List.set_cons_zero, List.set_cons_succ, List.getElem_toArray, List.getElem_cons_zero, List.getElem_cons_succ]
            refine wpAnyS_done (b := true) (d := true) (by kernel_rfl) (by kernel_rfl) (by kernel_rfl) rfl (fun wS hS => ?_) _
            have HY := Lib.hid hS
            clear hS E0 w8
            go_upto_if 105 with (fail)
            obtain ⟨fa, hfa⟩ : ∃ fa, fa = facI gr x := ⟨_, rfl⟩
            rw [← hfa] at HFA
            have HFQ := Lib.hid hfa
            clear hfa
            go_cut [20] (fun sx wx => sx = .pointer (some ⟨g, k * 51, none⟩) ∧ Hid (RkS g base n ci (atM k { x with factor := fa } N) wv wx))
            case first => as_aux_lemma =>
              cases gr
              · have HF0 : Hid (fa = pr) := Lib.hid HFA.out
                go_wp2_with fail
                go_meet
                exact ⟨rfl, by rw [HF0.out]; exact HY⟩
              · have HF0 : Hid (fa = x.s.grow) := Lib.hid HFA.out
                have x38 : wS.cell? ⟨g, k * 51 + 38, none⟩ = some (.int .i64 x.s.grow) := HY.out.cell hkn 38 rfl
                have x48 : wS.cell? ⟨g, k * 51 + 48, none⟩ = some (.int .i64 pr) := HY.out.cell hkn 48 rfl
                have x48f := HY.out.it.frozen (k * 51 + 48)
                have HZ : Hid (RkS g base n ci (atM k { x with factor := fa } N) wv (wS.setCell ⟨g, k * 51 + 48, none⟩ (.int .i64 x.s.grow))) := Lib.hid (HY.out.put hkn 48 _ (by omega) (by rw [HF0.out]; rfl))
                go_wp2_with fail
                go_meet
                exact ⟨rfl, HZ⟩
            case rest =>
            obtain ⟨rfl, HZ⟩ := hcut
            as_aux_lemma =>
            clear HY
            obtain ⟨wz, rfl⟩ : ∃ wz, wz = wc := ⟨_, rfl⟩
            obtain ⟨st, hst⟩ : ∃ st, st = stopI gr x := ⟨_, rfl⟩
            have HTE : Hid (st = (decide (fa = 0) || (gr && decide (x.guess < x.base)) || (!gr && decide (x.base < x.guess)))) := Lib.hid (by rw [hst, HFQ.out]; rfl)
            have HTQ := Lib.hid hst
            rw [← hst] at HCN
            clear hst
            go_upto_region 23 with (fail)
            go_cut [147] (fun sx wx => sx = .bool st ∧ Hid (RkS g base n ci (atM k { x with factor := fa } N) wv wx))
            case first => as_aux_lemma =>
              have x46 : wz.cell? ⟨g, k * 51 + 46, none⟩ = some (.int .i64 x.base) := HZ.out.cell hkn 46 rfl
              have x47 : wz.cell? ⟨g, k * 51 + 47, none⟩ = some (.int .i64 x.guess) := HZ.out.cell hkn 47 rfl
              have x48 : wz.cell? ⟨g, k * 51 + 48, none⟩ = some (.int .i64 fa) := HZ.out.cell hkn 48 rfl
              have ht := HTE.out
              clear HFA HFQ HTQ HTE
              by_cases e0 : fa = 0
              · have d0 : (fa == 0) = true := beq_iff_eq.2 e0
                have HT : Hid (st = true) := Lib.hid (by rw [ht, decide_eq_true e0]; rfl)
                clear ht e0
                go_quiet (fail)
                go_wp2_with fail
                go_meet
                exact ⟨by rw [HT.out], Lib.hid (HZ.out.drewN _)⟩
              · have d0 : (fa == 0) = false := beq_eq_false_iff_ne.2 e0
                rw [decide_eq_false e0] at ht
                clear e0
                cases gr
                · cases d1 : decide (x.base < x.guess)
                  · have HT : Hid (st = false) := Lib.hid (by rw [ht, d1]; rfl)
                    clear ht
                    go_quiet (fail)
                    go_wp2_with fail
                    go_meet
                    exact ⟨by rw [HT.out], Lib.hid (HZ.out.drewN _)⟩
                  · have HT : Hid (st = true) := Lib.hid (by rw [ht, d1]; rfl)
                    clear ht
                    go_quiet (fail)
                    go_wp2_with fail
                    go_meet
                    exact ⟨by rw [HT.out], Lib.hid (HZ.out.drewN _)⟩
                · cases d1 : decide (x.guess < x.base)
                  · have HT : Hid (st = false) := Lib.hid (by rw [ht, d1]; rfl)
                    clear ht
                    go_quiet (fail)
                    go_wp2_with fail
                    go_meet
                    exact ⟨by rw [HT.out], Lib.hid (HZ.out.drewN _)⟩
                  · have HT : Hid (st = true) := Lib.hid (by rw [ht, d1]; rfl)
                    clear ht
                    go_quiet (fail)
                    go_wp2_with fail
                    go_meet
                    exact ⟨by rw [HT.out], Lib.hid (HZ.out.drewN _)⟩
            case rest =>
            obtain ⟨rfl, HU⟩ := hcut
            as_aux_lemma =>
            obtain ⟨wu, rfl⟩ : ∃ wu, wu = wc := ⟨_, rfl⟩
            cases st
            · have HE : Hid (rfC { x with factor := fa } = rfC (startI gr x)) := Lib.hid (by unfold startI; rw [← HTQ.out, ← HFQ.out]; rfl)
              go_wp2_with fail
              go_roundw
              case rel => exact ⟨i + 1, by omega, by go_num, by rw [HCN.out]; go_num, Lib.hid (HNX.out _ _ HE.out HU.out)⟩
              case measure => simp [intOf] <;> omega
            · have HE : Hid (rfC { x with factor := fa, held := true, width := x.guess } = rfC (startI gr x)) := Lib.hid (by unfold startI; rw [← HTQ.out, ← HFQ.out]; rfl)
              have x49 : wu.cell? ⟨g, k * 51 + 49, none⟩ = some (.bool x.held) := HU.out.cell hkn 49 rfl
              have x49f := HU.out.it.frozen (k * 51 + 49)
              have HU2 : Hid (RkS g base n ci (atM k { x with factor := fa, held := true } N) wv (wu.setCell ⟨g, k * 51 + 49, none⟩ (.bool true))) := Lib.hid (HU.out.put hkn 49 _ (by omega) rfl)
              go_upto_region 25 with (fail)
              obtain ⟨w2, hw2⟩ : ∃ w2, w2 = wu.setCell ⟨g, k * 51 + 49, none⟩ (.bool true) := ⟨_, rfl⟩
              rw [← hw2] at HU2 ⊢
              clear hw2 x49 x49f
              have x47 : w2.cell? ⟨g, k * 51 + 47, none⟩ = some (.int .i64 x.guess) := HU2.out.cell hkn 47 rfl
              have x50 : w2.cell? ⟨g, k * 51 + 50, none⟩ = some (.int .i64 x.width) := HU2.out.cell hkn 50 rfl
              have x50f := HU2.out.it.frozen (k * 51 + 50)
              have HU3 : Hid (RkS g base n ci (atM k { x with factor := fa, held := true, width := x.guess } N) wv (w2.setCell ⟨g, k * 51 + 50, none⟩ (.int .i64 x.guess))) := Lib.hid (HU2.out.put hkn 50 _ (by omega) rfl)
              go_wp2_with fail
              go_roundw
              case rel => exact ⟨i + 1, by omega, by go_num, by rw [HCN.out]; rfl, Lib.hid (HNX.out _ _ HE.out HU3.out)⟩
              case measure => simp [intOf] <;> omega
          · as_aux_lemma =>
            have q0 : decide ((i : Int) < (mm : Int)) = false := decide_eq_false (by omega)
            have q0' : decide (i < mm) = false := decide_eq_false hl3
            have him : i = mm := by omega
            have hce : cn = (othM S ks).length := by rw [hcn, him, HML.out, List.take_length]
            have HK2 : Hid (RkS g base n ci S wv wr) := Lib.hid (HK.out.same fun k _ => by
              unfold stM
              rw [him, HML.out, List.take_length]
              by_cases hk : k ∈ ks
              · rw [if_pos hk]
              · rw [if_neg hk, HS.out.2 k hk])
            have HR0 : Hid (RdB gr Mr S ks) := Lib.hid (by rw [HSS.out]; exact RdB.start fun k hk => (HFX.out k hk).1)
            have HF0 : Hid (fitM c Mr ks = loopM ks.length (roomM c Mr ks) gr S ks) := Lib.hid (by unfold fitM; rw [← HGR.out, ← HSS.out])
            have HO0 : Hid (∀ k, k ∉ ks → S k = Mr k) := Lib.hid HS.out.2
            rw [hce]
            clear hcn him hce HK HS HSS hcl
            go_wp2_with fail
            obtain ⟨wq, rfl⟩ : ∃ wq, wq = wr := ⟨_, rfl⟩
            clear q0 q0' hl3 hi
            go_loopw [18] (fun lv wr => ∃ S2, lv = .int .i64 ((othM S2 ks).length : Nat) ∧ Hid (RkS g base n ci S2 wv wr) ∧ Hid (RdB gr Mr S2 ks) ∧ Hid (fitM c Mr ks = loopM ks.length (roomM c Mr ks) gr S2 ks)) (fun lv _ => (intOf lv).toNat)
            case atStart => exact ⟨S, rfl, HK2, HR0, HF0⟩
            case round =>
              obtain ⟨S2, rfl, HK, HRB, HFM⟩ := hrel
              clear HK2 HR0 HF0
              have hcl : (othM S2 ks).length ≤ 1000 := by
                have h1 : (othM S2 ks).length ≤ ks.length := List.length_filter_le _ _
                have := HML.out
                omega
              have HEQ0 : Hid ((othM S2 ks).length = 0 ↔ othM S2 ks = []) := Lib.hid List.length_eq_zero_iff
              have HLS : Hid (othM S2 ks ≠ [] → (othM (roundM (roomM c S2 ks) gr S2 ks) ks).length < (othM S2 ks).length) := Lib.hid (fun h => round_less _ _ _ _ h)
              obtain ⟨cn, hcn⟩ : ∃ cn, cn = (othM S2 ks).length := ⟨_, rfl⟩
              rw [← hcn] at hcl HEQ0 HLS ⊢
              clear hcn
              by_cases hz : cn = 0
              · as_aux_lemma =>
                have d0 : decide ((0 : Int) < (cn : Int)) = false := decide_eq_false (by omega)
                have d0' : decide (0 < cn) = false := decide_eq_false (by omega)
                have HEM : Hid (othM S2 ks = []) := Lib.hid (HEQ0.out.1 hz)
                clear hz
                go_wp2_with fail
                go_roundw
                case rel =>
                  have e : fitM c Mr ks = S2 := by rw [HFM.out, loop_done _ _ _ _ _ HEM.out]
                  refine ⟨r + 1, by omega, by go_num, Lib.hid ?_, Lib.hid fun k hk => ?_⟩
                  · rw [HSU.out, e]; exact HJW.out.turn HK.out.it HK.out.k
                  · rw [HSU.out]
                    rcases (HFL.out k).1 hk with h | h
                    · rw [fit_out c Mr ks k (HDJ.out k h)]; exact HWD.out k h
                    · rw [e]; exact fit_end (by rw [← HGR.out]; exact HRB.out) HEM.out k h
                case measure => simp [intOf] <;> omega
              · as_aux_lemma =>
                have d0 : decide ((0 : Int) < (cn : Int)) = true := decide_eq_true (by omega)
                have d0' : decide (0 < cn) = true := decide_eq_true (by omega)
                have HNE : Hid (othM S2 ks ≠ []) := Lib.hid (fun h => hz (HEQ0.out.2 h))
                obtain ⟨S3, hS3⟩ : ∃ S3, S3 = roundM (roomM c S2 ks) gr S2 ks := ⟨_, rfl⟩
                have hls : (othM S3 ks).length < cn := by rw [hS3]; exact HLS.out HNE.out
                have HRD : Hid (Calls Try.prog 45 #[.slice Ap mm cp, .int .i64 c, .bool gr] wr fun e w' => e = .returned (.tuple #[]) ∧ RIt g base n ci S3 w' ∧ Kp (fun b => b = g) wr w') := Lib.hid (by
                  rw [HML.out, hS3]
                  have hrd := Reads.of_own (HOWN.out wr HK.out.k)
                  rw [HML.out] at hrd
                  exact rround_any g base n ci c gr S2 ks Ap cp wr (rnd_of (fun k hk => (HFX.out k hk).1) (fun k hk => (HFX.out k hk).2) HCB.out HRB.out HNE.out HKD.out.1 (by have := HKD.out.2; omega)) HKN.out HK.out.it hrd HPG.out)
                have HRN : Hid (RdB gr Mr S3 ks ∧ fitM c Mr ks = loopM ks.length (roomM c Mr ks) gr S3 ks) := Lib.hid (by
                  have h1 := rnd_next (fun k hk => (HFX.out k hk).1) (fun k hk => (HFX.out k hk).2) HCB.out HRB.out HNE.out HKD.out.1 (by have := HKD.out.2; omega)
                  refine ⟨by rw [hS3]; exact h1, ?_⟩
                  rw [HFM.out, loop_step _ _ _ _ _ (List.length_filter_le _ _) HNE.out, hS3, room_same HRB.out])
                clear hS3 hz HLS HEQ0
                go_upto_region 29 with (go_at_call 45; refine HRD.out.mono ?_; rintro e w8 ⟨rfl, hit, hkp⟩; have H8 : Hid (RkS g base n ci S3 wv w8) := Lib.hid ⟨hit, HK.out.k.trans hkp⟩; clear hit hkp)
                clear HRD
                go_wp2_with fail
                clear d0 d0'
                obtain ⟨wt, rfl⟩ : ∃ wt, wt = wr := ⟨_, rfl⟩
                go_loopw [18, 21] (fun lv kv wr => ∃ i : Nat, i ≤ mm ∧ kv = .int .i64 i ∧ lv = .int .i64 ((othM S3 (ks.take i)).length : Nat) ∧ Hid (w8 = wr)) (fun _ kv _ => mm - (intOf kv).toNat)
                case atStart => exact ⟨0, by omega, rfl, rfl, Lib.hid rfl⟩
                case round =>
                  obtain ⟨i, hi, rfl, rfl, HW⟩ := hrel
                  obtain rfl := HW.out
                  clear HW
                  have hcl2 : (othM S3 (ks.take i)).length ≤ 1000 := by
                    have h1 : (othM S3 (ks.take i)).length ≤ (ks.take i).length := List.length_filter_le _ _
                    have h2 := List.length_take (i := i) (l := ks)
                    have := HML.out
                    omega
                  obtain ⟨c2, hc2⟩ : ∃ c2, c2 = (othM S3 (ks.take i)).length := ⟨_, rfl⟩
                  rw [← hc2] at hcl2 ⊢
                  by_cases hl5 : i < mm
                  · have q0 : decide ((i : Int) < (mm : Int)) = true := decide_eq_true (by omega)
                    have q0' : decide (i < mm) = true := decide_eq_true hl5
                    have hii : (i : Int) < (mm : Int) := by omega
                    have hi0 : (0 : Int) ≤ (i : Int) := by omega
                    have wi : IntKind.i64.wrap ((i : Int) + 1) = (i : Int) + 1 := IntWalk.i64_in _ ⟨by omega, by omega⟩
                    have wc : IntKind.i64.wrap ((c2 : Int) + 1) = (c2 : Int) + 1 := IntWalk.i64_in _ ⟨by omega, by omega⟩
                    have hkl : i < ks.length := by rw [← HML.out]; exact hl5
                    obtain ⟨k, hk⟩ : ∃ k, k = ks[i] := ⟨_, rfl⟩
                    have hkm : k ∈ ks := by rw [hk]; exact List.getElem_mem hkl
                    have hkn := HKN.out k hkm
                    obtain ⟨p, hA, c1⟩ := HPP.out w8 H8.out.k i hkl
                    rw [← hk] at c1
                    subst hA
                    obtain ⟨hd, hhd⟩ : ∃ hd, hd = (S3 k).held := ⟨_, rfl⟩
                    have x49 : w8.cell? ⟨g, k * 51 + 49, none⟩ = some (.bool hd) := H8.out.it.cell hkn 49 (by rw [hhd]; rfl)
                    have HCN : Hid ((othM S3 (ks.take (i + 1))).length = c2 + (if hd then 0 else 1)) := Lib.hid (by
                      rw [othM_take1 S3 ks i hkl, ← hc2, ← hk, ← hhd])
                    clear hk hhd hc2
                    cases hd
                    · go_wp2_with fail
                      go_roundw
                      case rel => exact ⟨i + 1, by omega, by go_num, by rw [HCN.out]; go_num, by first | exact Lib.hid rfl | exact Lib.hid trivial⟩
                      case measure => simp [intOf] <;> omega
                    · go_wp2_with fail
                      go_roundw
                      case rel => exact ⟨i + 1, by omega, by go_num, by rw [HCN.out]; rfl, by first | exact Lib.hid rfl | exact Lib.hid trivial⟩
                      case measure => simp [intOf] <;> omega
                  · have q0 : decide ((i : Int) < (mm : Int)) = false := decide_eq_false (by omega)
                    have q0' : decide (i < mm) = false := decide_eq_false hl5
                    have hce : c2 = (othM S3 ks).length := by rw [hc2, show i = mm by omega, HML.out, List.take_length]
                    have hc3 : c2 < cn := by omega
                    clear hc2 hl5
                    go_wp2_with fail
                    go_roundw
                    case rel => exact ⟨S3, by rw [hce], H8, Lib.hid HRN.out.1, Lib.hid HRN.out.2⟩
                    case measure => simp [intOf] <;> omega
end Go.Proofs.Ytbopeofglhkffaa
