/- The law TextScaled, walked. -/
import Derived.Test.YtmpcpcagphgopaaLwords
import Derived.Test.YtmpcpcagphgopaaScale
set_option linter.unusedSimpArgs false
set_option linter.unusedVariables false
namespace Go.Proofs.Ytmpcpcagphgopaa
open Go.RowKit
attribute [local go_sem] block_of_add eqW guardW

def i32s (l : List Int) : List Value := l.map (Value.int .i32)
def I32s (l : List Int) : Prop := ∀ x ∈ l, -2147483648 ≤ x ∧ x < 2147483648
theorem I32s.at_ {l : List Int} (h : I32s l) {k : Nat} (hk : k < l.length) : -2147483648 ≤ l[k] ∧ l[k] < 2147483648 := h _ (List.getElem_mem hk)
def oneF (t : List Int) : List Int := t.map fun x => x.tmod 1048576
theorem tmod_bd (x : Int) : -1048576 ≤ x.tmod 1048576 ∧ x.tmod 1048576 ≤ 1048576 := by
  rcases Int.le_total 0 x with h | h
  · rw [Int.tmod_eq_emod_of_nonneg h]; omega
  · have e : x = -(-x) := by omega
    rw [e, Int.neg_tmod, Int.tmod_eq_emod_of_nonneg (by omega)]; omega
theorem oneF_bd (t : List Int) : ∀ x ∈ oneF t, Bd 1048576 x := by
  intro x hx
  obtain ⟨y, _, rfl⟩ := List.mem_map.1 hx
  exact tmod_bd y
theorem bd_i64 {M : Int} {l : List Int} (h : ∀ x ∈ l, Bd M x) (hM : M ≤ 9000000000000000000) : I64s l := fun x hx => by have := h x hx; unfold Bd at this; omega

/-- Behind an append to one of two slices of the call's own the other stands, and they lie apart. -/
theorem own_ap {w w' : World} {b2 s2 n2 : Nat} {e2 : TypeId} {v1 v2 v1' : Value} {x2 : List Value} (o2 : w.ownsRow b2 e2 s2 v2 n2 x2) (hd : ∀ g, v1.ownBlock = some g → v2.ownBlock ≠ some g) (hg : w.grownBy w' v1.ownBlock)
    (hob : v1'.ownBlock = v1.ownBlock ∨ w.heap.size ≤ v1'.ownBlock.getD w.heap.size) : w'.ownsRow b2 e2 s2 v2 n2 x2 ∧ ∀ g, v1'.ownBlock = some g → v2.ownBlock ≠ some g := by
  refine ⟨o2.kept hg ?_, fun g h1 h2 => ?_⟩
  · rcases h : v2.ownBlock with _ | g
    · exact .inl rfl
    · exact .inr fun e => hd g e.symm h
  · rcases hob with h | h
    · exact hd g (h ▸ h1) h2
    · rw [h1] at h
      have := (o2.lt g h2).2
      simp at h; omega
theorem one_step (t : List Int) {k : Nat} (h : k < t.length) : i64s ((oneF t).take (k + 1)) = i64s ((oneF t).take k) ++ [.int .i64 (t[k].tmod 1048576)] := by
  have hl : k < (oneF t).length := by simpa [oneF] using h
  rw [List.take_succ_eq_append_getElem hl]
  simp [i64s, oneF]
theorem many_step (t : List Int) (K : Int) {k : Nat} (h : k < t.length) : i64s (((oneF t).map (K * ·)).take (k + 1)) = i64s (((oneF t).map (K * ·)).take k) ++ [.int .i64 (K * t[k].tmod 1048576)] := by
  have hl : k < ((oneF t).map (K * ·)).length := by simpa [oneF] using h
  rw [List.take_succ_eq_append_getElem hl]
  simp [i64s, oneF]

theorem cut_bd (x : Int) : Bd 1099511627776 (cutF x) := by
  unfold cutF Bd
  repeat' split
  all_goals omega
theorem words_cut (t l : List Int) : ∀ x ∈ (wordsF t l).1, Bd 1099511627776 x.w ∧ Bd 1099511627776 x.gap := by
  intro x hx
  obtain ⟨k, hk, rfl⟩ := List.mem_iff_getElem.1 hx
  obtain ⟨s, hs, e⟩ := words_at t l hk
  rw [e]
  refine ⟨cut_bd _, ?_⟩
  show Bd _ (if gapIs _ s = true then cutF _ else 0)
  split
  · exact cut_bd _
  · unfold Bd; omega
theorem ws64_of {L : List Wd} (h : ∀ x ∈ L, Bd 1099511627776 x.w ∧ Bd 1099511627776 x.gap) : Ws64 L := fun x hx => by
  obtain ⟨h1, h2⟩ := h x hx
  unfold Bd at h1 h2
  exact ⟨by omega, by omega⟩
theorem ws64_scl {L : List Wd} {K : Int} (hK : 1 ≤ K ∧ K ≤ 7) (h : ∀ x ∈ L, Bd 1099511627776 x.w ∧ Bd 1099511627776 x.gap) : Ws64 (L.map (scl K)) := fun y hy => by
  obtain ⟨x, hx, rfl⟩ := List.mem_map.1 hy
  obtain ⟨h1, h2⟩ := h x hx
  have h1 := mul_id hK h1
  have h2 := mul_id hK h2
  unfold Bd at h1 h2
  show (-9223372036854775808 ≤ K * x.w ∧ K * x.w < 9223372036854775808) ∧ (-9223372036854775808 ≤ K * x.gap ∧ K * x.gap < 9223372036854775808)
  omega
theorem ext_bd (L : List Wd) (h : ∀ x ∈ L, Bd 1099511627776 x.w ∧ Bd 1099511627776 x.gap) : Bd 1099511627776 (extF L).1 ∧ Bd 1099511627776 (extF L).2.1 := by
  have gen : ∀ k, k ≤ L.length → Bd 1099511627776 (exAt L k).least ∧ Bd 1099511627776 (exAt L k).great := by
    intro k
    induction k with
    | zero => intro _; unfold Bd; simp [exAt]
    | succ k ih =>
      intro hk
      have hlt : k < L.length := by omega
      obtain ⟨h1, h2⟩ := ih (by omega)
      have hw := (h L[k] (List.getElem_mem hlt)).1
      rw [exAt_succ L hlt]
      have hl : Bd 1099511627776 (exLeast k (exAt L k).least L[k]) := by unfold exLeast; split <;> assumption
      have hc := cut_bd (exAt L k).row
      unfold exStep
      split
      · refine ⟨hl, ?_⟩
        show Bd _ (max _ _)
        unfold Bd at *; omega
      · exact ⟨hl, h2⟩
  obtain ⟨h1, h2⟩ := gen L.length (Nat.le_refl _)
  refine ⟨h1, ?_⟩
  have hc := cut_bd (exAt L L.length).row
  show Bd _ (max _ _)
  unfold Bd at *; omega
theorem wrap_mul {K x M : Int} (hK : 1 ≤ K ∧ K ≤ 7) (h : Bd M x) (hM : M ≤ 1099511627776000) : wrap64 (K * x) = K * x ∧ wrap64 (x * K) = K * x := by
  have := mul_id hK h
  unfold Bd at this
  have e : x * K = K * x := Int.mul_comm _ _
  rw [e]
  exact ⟨IntWalk.wrap64_in _ ⟨by omega, by omega⟩, IntWalk.wrap64_in _ ⟨by omega, by omega⟩⟩
theorem wide_one {u T : List Int} {A B : Option Addr} {c d : Nat} {w : World} (hu : U16s u) (hn : u.length ≤ 3000) (hru : Reads w w.heap.size 1 A u.length (u16s u)) (hT : ∀ x ∈ T, Bd 1048576 x) (hrt : Reads w w.heap.size 1 B T.length (i64s T)) :
    Calls Try.prog 13 #[.slice A u.length c, .slice B T.length d] w fun e w' => e = .returned (.tuple #[.int .i64 (advs T u).sum, .bool false]) ∧ Below w.heap.size w w' := by
  have h := wide_any u T A B c d w hu (bd_i64 hT (by omega)) (by omega) hru hrt
  have hb := advs_bd hT (by omega) u
  have := cut_id (x := (advs T u).sum) (by unfold Bd at *; omega)
  rw [this.1, this.2] at h
  exact h
theorem many_bd {T : List Int} (hT : ∀ x ∈ T, Bd 1048576 x) {K : Int} (hK : 1 ≤ K ∧ K ≤ 7) : ∀ x ∈ T.map (K * ·), Bd 7340032 x := fun y hy => by
  obtain ⟨x, hx, rfl⟩ := List.mem_map.1 hy
  exact mul_id hK (hT x hx)
theorem wide_many {u T : List Int} {A B : Option Addr} {c d : Nat} {w : World} (hu : U16s u) (hn : u.length ≤ 3000) (hru : Reads w w.heap.size 1 A u.length (u16s u)) (hT : ∀ x ∈ T, Bd 1048576 x) {K : Int} (hK : 1 ≤ K ∧ K ≤ 7) (hrt : Reads w w.heap.size 1 B T.length (i64s (T.map (K * ·)))) :
    Calls Try.prog 13 #[.slice A u.length c, .slice B T.length d] w fun e w' => e = .returned (.tuple #[.int .i64 (K * (advs T u).sum), .bool false]) ∧ Below w.heap.size w w' := by
  have hb2 := many_bd hT hK
  have h := wide_any u (T.map (K * ·)) A B c d w hu (bd_i64 hb2 (by omega)) (by omega) hru (by simpa using hrt)
  have hb := mul_id hK (advs_bd hT (by omega) u)
  have := cut_id (x := K * (advs T u).sum) (by unfold Bd at *; omega)
  rw [advs_mul, this.1, this.2, List.length_map] at h
  exact h
theorem words_one {u T : List Int} {A B : Option Addr} {c d : Nat} {w : World} (hu : U16s u) (hn : u.length ≤ 3000) (hru : Reads w w.heap.size 1 A u.length (u16s u)) (hT : ∀ x ∈ T, Bd 1048576 x) (hc : u.length ≤ c) (hrt : Reads w w.heap.size 1 B T.length (i64s T)) :
    Calls Try.prog 11 #[.slice A u.length c, .slice B T.length d] w fun e w' => ∃ A' c', e = .returned (.tuple #[.slice A' (wordsF T u).1.length c', .bool false]) ∧ w'.ownsRow w.heap.size 37 5 (.slice A' (wordsF T u).1.length c') (wordsF T u).1.length (wdsCells (wordsF T u).1) ∧ Below w.heap.size w w' := by
  have h := words_sl u T A B c d w hu (bd_i64 hT (by omega)) (by omega) hc hru hrt
  rw [(words_scl (k := 1) ⟨by omega, by omega⟩ hT (by omega) (by omega) hn).2.1] at h
  exact h
theorem words_many {u T : List Int} {A B : Option Addr} {c d : Nat} {w : World} (hu : U16s u) (hn : u.length ≤ 3000) (hru : Reads w w.heap.size 1 A u.length (u16s u)) (hT : ∀ x ∈ T, Bd 1048576 x) {K : Int} (hK : 1 ≤ K ∧ K ≤ 7) (hc : u.length ≤ c) (hrt : Reads w w.heap.size 1 B T.length (i64s (T.map (K * ·)))) :
    Calls Try.prog 11 #[.slice A u.length c, .slice B T.length d] w fun e w' => ∃ A' c', e = .returned (.tuple #[.slice A' (wordsF T u).1.length c', .bool false]) ∧ w'.ownsRow w.heap.size 37 5 (.slice A' (wordsF T u).1.length c') (wordsF T u).1.length (wdsCells ((wordsF T u).1.map (scl K))) ∧ Below w.heap.size w w' := by
  have hb2 := many_bd hT hK
  have h := words_sl u (T.map (K * ·)) A B c d w hu (bd_i64 hb2 (by omega)) (by omega) hc hru (by simpa using hrt)
  have e := words_scl hK hT (by omega) (by omega) hn
  rw [e.2.2.1, e.1, List.length_map, List.length_map] at h
  exact h
theorem ext_nums {u T : List Int} (hn : u.length ≤ 3000) (hT : ∀ x ∈ T, Bd 1048576 x) {K : Int} (hK : 1 ≤ K ∧ K ≤ 7) : (extF ((wordsF T u).1.map (scl K))).1 = K * (extF (wordsF T u).1).1 ∧ (extF ((wordsF T u).1.map (scl K))).2.1 = K * (extF (wordsF T u).1).2.1 ∧ (extF (wordsF T u).1).2.2 = false ∧ (extF ((wordsF T u).1.map (scl K))).2.2 = false :=
  ext_scl hK (M := 1048576) (by omega) (by omega) _ (words_scl hK hT (by omega) (by omega) hn).2.2.2 (fun j hj => by have := lens_all T u j hj; omega) (by have := wordsF_bd T u; omega)
theorem ext_one {u T : List Int} (hn : u.length ≤ 3000) (hT : ∀ x ∈ T, Bd 1048576 x) {A : Option Addr} {c : Nat} {w : World} (hr : Reads w w.heap.size 5 A (wordsF T u).1.length (wdsCells (wordsF T u).1)) :
    Calls Try.prog 16 #[.slice A (wordsF T u).1.length c] w fun e w' => e = .returned (.tuple #[.int .i64 (extF (wordsF T u).1).1, .int .i64 (extF (wordsF T u).1).2.1, .bool false]) ∧ Below w.heap.size w w' := by
  have h := ext_any (wordsF T u).1 A c w (ws64_of (words_cut T u)) (by have := wordsF_bd T u; omega) hr
  rw [(ext_nums (K := 1) hn hT ⟨by omega, by omega⟩).2.2.1] at h
  exact h
theorem ext_many {u T : List Int} (hn : u.length ≤ 3000) (hT : ∀ x ∈ T, Bd 1048576 x) {K : Int} (hK : 1 ≤ K ∧ K ≤ 7) {A : Option Addr} {c : Nat} {w : World} (hr : Reads w w.heap.size 5 A (wordsF T u).1.length (wdsCells ((wordsF T u).1.map (scl K)))) :
    Calls Try.prog 16 #[.slice A (wordsF T u).1.length c] w fun e w' => e = .returned (.tuple #[.int .i64 (K * (extF (wordsF T u).1).1), .int .i64 (K * (extF (wordsF T u).1).2.1), .bool false]) ∧ Below w.heap.size w w' := by
  have h := ext_any ((wordsF T u).1.map (scl K)) A c w (ws64_scl hK (words_cut T u)) (by have := wordsF_bd T u; simp; omega) (by simpa using hr)
  have e := ext_nums hn hT hK
  rw [e.1, e.2.1, e.2.2.2, List.length_map] at h
  exact h

set_option maxRecDepth 100000 in
set_option maxHeartbeats 2000000 in
theorem textScaled_any (u t : List Int) (x : Int) (A B : Option Addr) (c d : Nat) (w : World) (hx0 : 0 ≤ x) (hx1 : x < 256) (hu : U16s u) (ht : I32s t) (hc : u.length ≤ c) (hru : Reads w w.heap.size 1 A u.length (u16s u)) (hrt : Reads w w.heap.size 1 B t.length (i32s t)) :
    Calls Try.prog 8 #[.slice A u.length c, .slice B t.length d, .int .u8 x] w fun e w' => e = .returned (.bool true) ∧ Below w.heap.size w w' := by
  have HU := Lib.hid hru
  have HT := Lib.hid hrt
  clear hru hrt
  have FIN : Hid (∀ w1, Below w.heap.size w w1 → Calls Try.prog 10 #[] w1 fun e w' => e = .returned (.bool true) ∧ Below w.heap.size w w') := Lib.hid fun w1 h1 => (works_any w1).mono fun e w' ⟨he, h2⟩ => ⟨he, h1.trans (h2.mono h1.size)⟩
  by_cases hn : 3000 < u.length
  · have e1 : decide ((3000 : Int) < (u.length : Int)) = true := decide_eq_true (by omega)
    go_enter Try.func8, Try.ntmps8
    go_wp2_with fail
    refine (FIN.out _ (Below.refl _ _)).mono ?_
    rintro e w' ⟨rfl, hb⟩
    go_wp2_with fail
    go_ret
    exact ⟨rfl, hb⟩
  · have e1 : decide ((3000 : Int) < (u.length : Int)) = false := decide_eq_false (by omega)
    by_cases hm : 8192 < t.length
    · have e2 : decide ((8192 : Int) < (t.length : Int)) = true := decide_eq_true (by omega)
      go_enter Try.func8, Try.ntmps8
      go_wp2_with fail
      refine (FIN.out _ (Below.refl _ _)).mono ?_
      rintro e w' ⟨rfl, hb⟩
      go_wp2_with fail
      go_ret
      exact ⟨rfl, hb⟩
    · have e2 : decide ((8192 : Int) < (t.length : Int)) = false := decide_eq_false (by omega)
      go_enter Try.func8, Try.ntmps8
      go_wp2_with fail
      obtain ⟨K, hK⟩ : ∃ K, 1 + x % 7 = K := ⟨_, rfl⟩
      have hK1 : 1 ≤ K := by omega
      have hK7 : K ≤ 7 := by omega
      simp only [hK]
      clear hK
      go_loopw [8, 9, 10] (fun a b i wr => ∃ k : Nat, k ≤ t.length ∧ i = .int .i64 k ∧ Below w.heap.size w wr ∧ wr.ownsRow w.heap.size 2 1 a k (i64s ((oneF t).take k)) ∧ wr.ownsRow w.heap.size 2 1 b k (i64s (((oneF t).map (K * ·)).take k)) ∧ ∀ g, a.ownBlock = some g → b.ownBlock ≠ some g) (fun _ _ i _ => t.length - (intOf i).toNat)
      case atStart => exact ⟨0, by omega, rfl, Below.refl _ _, World.ownsRow_nil _ _ _ _, World.ownsRow_nil _ _ _ _, fun g h => by simp [Value.ownBlock] at h⟩
      case round =>
        obtain ⟨k, hk, rfl, hbw, ho1, ho2, hdis⟩ := hrel
        obtain ⟨Aa, ca, rfl⟩ := own_form ho1
        obtain ⟨Ab, cb, rfl⟩ := own_form ho2
        have HD := Lib.hid hdis
        clear hdis
        by_cases hlt : k < t.length
        · obtain ⟨ad3, u3, rfl, hab3, hx3, hc3⟩ := (HT.out.below hbw).at_ hlt
          have hu3 : u3 = .int .i32 t[k] := by simpa [i32s, hlt] using hx3.symm
          subst hu3
          have ht2 := ht.at_ hlt
          have H1 := Lib.hid (one_step t hlt)
          have H2 := Lib.hid (many_step t K hlt)
          obtain ⟨y, hy⟩ : ∃ y, t[k] = y := ⟨_, rfl⟩
          rw [hy] at hc3 ht2 H1 H2
          clear hx3 hy
          have hz := tmod_bd y
          have hw : wrap64 (K * y.tmod 1048576) = K * y.tmod 1048576 := by
            have := mul_id ⟨hK1, hK7⟩ (show Bd 1048576 (y.tmod 1048576) from hz)
            unfold Bd at this
            exact IntWalk.wrap64_in _ ⟨by omega, by omega⟩
          go_wp2_with (first
            | (at_builtin; refine wpList_app rfl _ _ rfl el_i64 ho1 hbw.size rfl [_] rfl (by simp) (by simp [Value.oneCell']) (by omega) (by omega) ?_; intro A1 c1 w1 hown1 hB1 hg1 hob1; have hz1 := own_ap (v1' := Value.slice A1 (k + 1) c1) ho2 HD.out hg1 hob1; have hbw1 := hB1 _ _ (Nat.le_refl _) hbw)
            | (at_builtin; refine wpList_app rfl _ _ rfl el_i64 hz1.1 hbw1.size rfl [_] rfl (by simp) (by simp [Value.oneCell']) (by omega) (by omega) ?_; intro A2 c2 w2 hown2 hB2 hg2 hob2))
          have hz2 := own_ap (v1' := Value.slice A2 (k + 1) c2) hown1 (fun g h1 h2 => hz1.2 g h2 h1) hg2 hob2
          go_roundw
          case rel => exact ⟨k + 1, by omega, by go_num, hB2 _ _ (Nat.le_refl _) hbw1, by rw [H1.out]; exact hz2.1, by rw [H2.out]; exact hown2, fun g h1 h2 => hz2.2 g h2 h1⟩
          case measure => simp [intOf]; omega
        · obtain rfl : k = t.length := by omega
          go_wp2_with fail
          have hl1 : (oneF t).length = t.length := by simp [oneF]
          have hT := oneF_bd t
          rw [List.take_of_length_le (by omega)] at ho1
          rw [List.take_of_length_le (by simp; omega)] at ho2
          have hru := (HU.out.below hbw).more hbw.size
          have r1 := Reads.of_own ho1
          have r2 := Reads.of_own ho2
          obtain ⟨T, hTT⟩ : ∃ T, oneF t = T := ⟨_, rfl⟩
          rw [hTT] at hl1 hT ho1 ho2 r1 r2
          rw [← hl1] at ho1 ho2 r1 r2
          rw [← hl1]
          have hn' : u.length ≤ 3000 := by omega
          have hK : 1 ≤ K ∧ K ≤ 7 := ⟨hK1, hK7⟩
          have HT' := Lib.hid hT
          have O1 := Lib.hid ho1
          have O2 := Lib.hid ho2
          have H1 := Lib.hid (wide_one (c := c) (d := ca) hu hn' hru hT r1)
          clear ho1 ho2 HD hTT hT hl1 HT r1 r2 hru
          refine H1.out.mono ?_
          rintro e w2 ⟨rfl, b2⟩
          clear H1
          have bb2 := hbw.trans (b2.mono hbw.size)
          have O1a := Lib.hid (own_below O1.out b2)
          have O2a := Lib.hid (own_below O2.out b2)
          go_wp2_with fail
          refine (wide_many (c := c) (d := cb) hu hn' ((HU.out.below bb2).more bb2.size) HT'.out hK (Reads.of_own O2a.out)).mono ?_
          rintro e w3 ⟨rfl, b3⟩
          have bb3 := bb2.trans (b3.mono bb2.size)
          have O1b := Lib.hid (own_below O1a.out b3)
          have O2b := Lib.hid (own_below O2a.out b3)
          go_wp2_with fail
          refine (words_one (c := c) (d := ca) hu hn' ((HU.out.below bb3).more bb3.size) HT'.out hc (Reads.of_own O1b.out)).mono ?_
          rintro e w4 ⟨A4, c4, rfl, o4, b4⟩
          have bb4 := bb3.trans (b4.mono bb3.size)
          have O2c := Lib.hid (own_below O2b.out b4)
          have O4 := Lib.hid o4
          clear o4
          go_wp2_with fail
          refine (words_many (c := c) (d := cb) hu hn' ((HU.out.below bb4).more bb4.size) HT'.out hK hc (Reads.of_own O2c.out)).mono ?_
          rintro e w5 ⟨A5, c5, rfl, o5, b5⟩
          have bb5 := bb4.trans (b5.mono bb4.size)
          have P4 := Lib.hid (Reads.of_own (own_below O4.out b5))
          have P5 := Lib.hid (Reads.of_own o5)
          have HS1 := Lib.hid (wrap_mul hK (advs_bd HT'.out (by omega) u) (by omega))
          have HX1 := Lib.hid (fun A c w => ext_one (A := A) (c := c) (w := w) hn' HT'.out)
          have HX2 := Lib.hid (fun A c w => ext_many (A := A) (c := c) (w := w) hn' HT'.out hK)
          have hbL := words_cut T u
          have hlL := wordsF_bd T u
          have hxb := ext_bd _ hbL
          clear o5 O1 O2 O1a O2a O1b O2b O2c O4 b2 b3 b4 b5 bb2 bb3 bb4 HT' hbw
          obtain ⟨L, hL⟩ : ∃ L, (wordsF T u).1 = L := ⟨_, rfl⟩
          obtain ⟨S, hS⟩ : ∃ S, (advs T u).sum = S := ⟨_, rfl⟩
          rw [hL] at P4 P5 HX1 HX2 hbL hlL hxb
          rw [hS] at HS1
          simp only [hL, hS]
          clear hL hS
          have s1 := HS1.out.1
          obtain ⟨le, hle⟩ : ∃ x, (extF L).1 = x := ⟨_, rfl⟩
          obtain ⟨gr, hgr⟩ : ∃ x, (extF L).2.1 = x := ⟨_, rfl⟩
          rw [hle, hgr] at HX1 HX2 hxb
          have HX3 := Lib.hid (wrap_mul hK hxb.1 (by omega))
          have HX4 := Lib.hid (wrap_mul hK hxb.2 (by omega))
          have HBL := Lib.hid hbL
          clear hle hgr hxb hbL
          go_wp2_with fail
          clear s1
          go_loopw [20] (fun i wq => ∃ k : Nat, k ≤ L.length ∧ i = .int .i64 k ∧ Below w5.heap.size w5 wq) (fun i _ => L.length - (intOf i).toNat)
          case atStart => exact ⟨0, by omega, rfl, Below.refl _ _⟩
          case round =>
            obtain ⟨k, hk, rfl, hbq⟩ := hrel
            by_cases hlt : k < L.length
            · have hltm : k < (L.map (scl K)).length := by simpa using hlt
              obtain ⟨ad3, e3, hab3, a0, a1, a2, a3, a4⟩ := (P4.out.below hbq).wd rfl hlt
              obtain ⟨ad7, e7, hab7, z0, z1, z2, z3, z4⟩ := (P5.out.below hbq).wd (by simp) hltm
              have hbd := HBL.out L[k] (List.getElem_mem hlt)
              rw [List.getElem_map] at z0 z1 z2 z3 z4
              subst e3 e7
              obtain ⟨y, hy⟩ : ∃ y, L[k] = y := ⟨_, rfl⟩
              rw [hy] at a0 a1 a2 a3 a4 z0 z1 z2 z3 z4 hbd
              obtain ⟨y0, y1, y2, y3, y4⟩ := y
              dsimp only [scl] at a0 a1 a2 a3 a4 z0 z1 z2 z3 z4 hbd
              have s2 := (wrap_mul hK hbd.1 (by omega)).2
              have s3 := (wrap_mul hK hbd.2 (by omega)).2
              have hb7 : ad7.block < wr.heap.size := by have := hbq.size; omega
              clear hy hltm hbd
              go_wp2_with fail
              go_region
              go_wp2_with fail
              go_roundw
              case rel => exact ⟨k + 1, by omega, by go_num, (hbq.alloc hbq.size _).drew⟩
              case measure => simp [intOf]; omega
            · obtain rfl : k = L.length := by omega
              have s3 := HX3.out.1
              have s4 := HX4.out.1
              have bbq := bb5.trans (hbq.mono bb5.size)
              go_wp2_with fail
              refine (HX1.out A4 c4 _ ((P4.out.below hbq).more hbq.size)).mono ?_
              rintro e w6 ⟨rfl, b6⟩
              have bb6 := bbq.trans (b6.mono bbq.size)
              go_wp2_with fail
              refine (HX2.out A5 c5 _ (((P5.out.below hbq).more hbq.size).below b6 |>.more b6.size)).mono ?_
              rintro e w7 ⟨rfl, b7⟩
              have bb7 := bb6.trans (b7.mono bb6.size)
              go_wp2_with fail
              refine (FIN.out _ bb7).mono ?_
              rintro e w8 ⟨rfl, hbb⟩
              go_wp2_with fail
              go_ret
              exact ⟨rfl, hbb⟩
end Go.Proofs.Ytmpcpcagphgopaa
