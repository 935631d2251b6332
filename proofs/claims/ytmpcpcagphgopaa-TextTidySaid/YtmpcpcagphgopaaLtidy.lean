/- The contract of jamblaw06.tidy. -/
import Derived.Test.YtmpcpcagphgopaaLwords
import Derived.Test.YtmpcpcagphgopaaOrder
set_option linter.unusedSimpArgs false
set_option linter.unusedVariables false
namespace Go.Proofs.Ytmpcpcagphgopaa
open Go.RowKit
attribute [local go_sem] block_of_add

def lastLet (o : List Int) : Bool := (o.getLast?.map isLet).getD false
theorem lastLet_snoc (o : List Int) (x : Int) : lastLet (o ++ [x]) = isLet x := by simp [lastLet]
theorem keep_run (l : List Int) {k : Nat} : ∀ m, k ≤ m → m ≤ l.length → (∀ j, k ≤ j → j < m → l[j]? = some 32) → keepS (l.drop k) = keepS (l.drop m) := by
  intro m
  induction m with
  | zero => intro h _ _; obtain rfl : k = 0 := by omega
            rfl
  | succ m ih =>
    intro hk hm h
    rcases Nat.eq_or_lt_of_le hk with rfl | hk
    · rfl
    · rw [ih (by omega) (by omega) fun j h1 h2 => h j h1 (by omega)]
      have hl : m < l.length := by omega
      have e := h m (by omega) (by omega)
      rw [List.getElem?_eq_getElem hl] at e
      injection e with e
      rw [List.drop_eq_getElem_cons hl, e]
      simp [keepS]
theorem keep_at (l : List Int) {m : Nat} (hm : m ≤ l.length) (h : ∀ h' : m < l.length, l[m] ≠ 32) : keepS (l.drop m) = (decide (m < l.length) && !decide (l[m]?.getD 0 = 10)) := by
  rcases Nat.lt_or_ge m l.length with hl | hl
  · have := h hl
    rw [List.drop_eq_getElem_cons hl]
    simp [keepS, this, hl]
  · rw [List.drop_eq_nil_of_le hl]
    simp [keepS]; omega
theorem tidy_let (l O : List Int) {k : Nat} (hk : k < l.length) (h : O ++ tidyF (lastLet O) (l.drop k) = tidyF false l) (hx : l[k] ≠ 32) : (O ++ [l[k]]) ++ tidyF (lastLet (O ++ [l[k]])) (l.drop (k + 1)) = tidyF false l := by
  rw [← h, List.drop_eq_getElem_cons hk, lastLet_snoc]
  simp [tidyF, hx]
theorem tidy_keep (l O : List Int) {k : Nat} (hk : k < l.length) (h : O ++ tidyF (lastLet O) (l.drop k) = tidyF false l) (hx : l[k] = 32) (hp : lastLet O = true) (hq : keepS (l.drop (k + 1)) = true) : (O ++ [32]) ++ tidyF (lastLet (O ++ [32])) (l.drop (k + 1)) = tidyF false l := by
  rw [← h, List.drop_eq_getElem_cons hk, lastLet_snoc]
  simp [tidyF, hx, hp, hq, isLet]
theorem tidy_drop (l O : List Int) {k : Nat} (hk : k < l.length) (h : O ++ tidyF (lastLet O) (l.drop k) = tidyF false l) (hx : l[k] = 32) (hp : (lastLet O && keepS (l.drop (k + 1))) = false) : O ++ tidyF (lastLet O) (l.drop (k + 1)) = tidyF false l := by
  rw [← h, List.drop_eq_getElem_cons hk]
  simp only [tidyF, hx, if_true, hp, Bool.false_eq_true, if_false]

theorem keep_next (l : List Int) {k : Nat} (hk : k < l.length) (hx : l[k] = 32) : keepS (l.drop (k + 1)) = keepS (l.drop k) := by
  rw [List.drop_eq_getElem_cons hk, hx]; simp [keepS]
theorem keep_no (l : List Int) {k m : Nat} (hk : k < l.length) (hx : l[k] = 32) (h1 : k ≤ m) (hm : m = l.length) (h : ∀ j, k ≤ j → j < m → l[j]? = some 32) : keepS (l.drop (k + 1)) = false := by
  subst hm
  rw [keep_next l hk hx, keep_run l _ h1 (Nat.le_refl _) h, List.drop_eq_nil_of_le (Nat.le_refl _)]; rfl
theorem keep_is (l : List Int) {k m : Nat} (hk : k < l.length) (hx : l[k] = 32) (h1 : k ≤ m) (hm : m < l.length) (h : ∀ j, k ≤ j → j < m → l[j]? = some 32) (hy : (l[m] == 32) = false) : keepS (l.drop (k + 1)) = !(l[m] == 10) := by
  rw [keep_next l hk hx, keep_run l _ h1 (by omega) h, List.drop_eq_getElem_cons hm]
  have : l[m] ≠ 32 := by simpa using hy
  simp only [keepS, this, if_false]
  congr 1
theorem last_at (O : List Int) (h : 0 < O.length) : ∃ z, O[O.length - 1]? = some z ∧ lastLet O = isLet z := by
  refine ⟨O[O.length - 1], List.getElem?_eq_getElem (by omega), ?_⟩
  unfold lastLet
  rw [List.getLast?_eq_getElem?, List.getElem?_eq_getElem (by omega)]
  rfl

set_option maxRecDepth 100000 in
set_option maxHeartbeats 2000000 in
theorem tidy_any (l : List Int) (A : Option Addr) (c : Nat) (w : World) (hl : U16s l) (hn : l.length ≤ 3000) (hr : Reads w w.heap.size 1 A l.length (u16s l)) :
    Calls Try.prog 19 #[.slice A l.length c] w fun e w' => ∃ A' c', e = .returned (.slice A' (tidyF false l).length c') ∧ w'.ownsRow w.heap.size 31 1 (.slice A' (tidyF false l).length c') (tidyF false l).length (u16s (tidyF false l)) ∧ Below w.heap.size w w' := by
  have HL := Lib.hid hr
  clear hr
  go_enter Try.func19, Try.ntmps19
  go_wp2_with fail
  go_loopw [3, 4] (fun o i wr => ∃ k : Nat, ∃ O : List Int, k ≤ l.length ∧ O.length ≤ k ∧ i = .int .i64 k ∧ wr.ownsRow w.heap.size 31 1 o O.length (u16s O) ∧ O ++ tidyF (lastLet O) (l.drop k) = tidyF false l ∧ Below w.heap.size w wr) (fun _ i _ => l.length - (intOf i).toNat)
  case atStart => exact ⟨0, [], by omega, by simp, rfl, World.ownsRow_nil _ _ _ _, rfl, Below.refl _ _⟩
  case round =>
    obtain ⟨k, O, hk, hO, rfl, hown, ht, hbw⟩ := hrel
    obtain ⟨Ao, co, rfl⟩ := own_form hown
    have HT := Lib.hid ht
    clear ht
    by_cases hlt : k < l.length
    · obtain ⟨ad, u, rfl, hab, hx, hc⟩ := (HL.out.below hbw).at_ hlt
      have hu : u = .int .u16 l[k] := by simpa [u16s, hlt] using hx.symm
      subst hu
      have HA := Lib.hid (fun h => tidy_let l O hlt HT.out h)
      have HD := Lib.hid (fun h h' => tidy_drop l O hlt HT.out h h')
      have HKP := Lib.hid (fun h h' h'' => tidy_keep l O hlt HT.out h h' h'')
      have HN := Lib.hid (fun m h h1 h2 h3 => keep_no (m := m) l hlt h h1 h2 h3)
      have HI := Lib.hid (fun m h h1 (h2 : m < l.length) h3 h4 => keep_is (m := m) l hlt h h1 h2 h3 h4)
      have HLK : Hid (l[k]? = some l[k]) := Lib.hid (List.getElem?_eq_getElem hlt)
      obtain ⟨x, hxx⟩ : ∃ x, l[k] = x := ⟨_, rfl⟩
      rw [hxx] at hc HA HD HKP HLK HN HI
      clear hx hxx
      rcases hx32 : (x == 32) with _ | _
      · have hx32' : (x != 32) = true := by simp [bne, hx32]
        have HXN : Hid (x ≠ 32) := Lib.hid (by simpa using hx32)
        go_wp2_with (at_builtin; refine wpList_app rfl _ _ rfl el_u16 hown hbw.size rfl [_] rfl (by simp) (by simp [Value.oneCell']) (by omega) (by omega) ?_; intro A1 c1 w1 hown1 hB1 hg1 _)
        go_roundw
        case rel => exact ⟨k + 1, O ++ [x], by omega, by simp; omega, by go_num, by rw [List.length_append]; simpa [u16s] using hown1, HA.out HXN.out, hB1 _ _ (Nat.le_refl _) hbw⟩
        case measure => simp [intOf]; omega
      · have hx32' : (x != 32) = false := by simp [bne, hx32]
        have HXE : Hid (x = 32) := Lib.hid (by simpa using hx32)
        have hcase : decide (0 < O.length) = false ∧ Hid (lastLet O = false) ∨ decide (0 < O.length) = true ∧ 0 < O.length ∧ ∃ g z, Ao = some ⟨g, 0, none⟩ ∧ wr.cell? ⟨g, O.length - 1, none⟩ = some (.int .u16 z) ∧ Hid (lastLet O = isLet z) := by
          rcases Nat.eq_zero_or_pos O.length with h | h
          · have : O = [] := List.length_eq_zero_iff.1 h
            exact .inl ⟨decide_eq_false (by omega), by rw [this]; rfl⟩
          · obtain ⟨g, cap, e, _, _⟩ := hown.form h
            injection e with e1 e2 e3
            obtain ⟨z, hz, hzl⟩ := last_at O h
            refine .inr ⟨decide_eq_true h, h, g, z, e1, ?_, hzl⟩
            subst e1
            rw [hown.cellAt (O.length - 1) (by omega)]
            simp [u16s, hz]
        have HTest : Hid (∀ z : Int, lastLet O = isLet z → lastLet O = (!(z == 32) && !(z == 10))) := Lib.hid fun z h => by rw [h, isLet]; congr 1
        rcases hcase with ⟨dO, HLO⟩ | ⟨dO, hO0, g, z, rfl, hcz, HLO⟩
        · go_wp2_with fail
          go_loop [5] (fun a => ∃ m : Nat, k ≤ m ∧ m ≤ l.length ∧ a = .int .i64 m ∧ ∀ j, k ≤ j → j < m → l[j]? = some 32) (fun a => l.length - (intOf a).toNat)
          case atStart => exact ⟨k, Nat.le_refl _, hk, rfl, fun j h1 h2 => absurd h2 (by omega)⟩
          case round =>
            obtain ⟨m, hm1, hm2, rfl, hall⟩ := hrel
            have HALL := Lib.hid hall
            clear hall
            by_cases hml : m < l.length
            · obtain ⟨ad2, u2, e2, hab2, hx2, hc2⟩ := (HL.out.below hbw).at_ hml
              injection e2 with e2
              subst e2
              have hu2 : u2 = .int .u16 l[m] := by simpa [u16s, hml] using hx2.symm
              subst hu2
              have HLM : Hid (l[m]? = some l[m]) := Lib.hid (List.getElem?_eq_getElem hml)
              have HIM := Lib.hid (fun h h4 => HI.out m h hm1 hml HALL.out h4)
              obtain ⟨y, hyy⟩ : ∃ y, l[m] = y := ⟨_, rfl⟩
              rw [hyy] at hc2 HLM HIM
              clear hx2 hyy
              rcases hy32 : (y == 32) with _ | _
              · go_wp2_with fail
                go_roundw
                case rel => exact ⟨k + 1, O, by omega, by omega, by go_num, hown, HD.out HXE.out (by rw [HLO.out]; rfl), hbw⟩
                case measure => simp [intOf]; omega
              · have HYE : Hid (y = 32) := Lib.hid (by simpa using hy32)
                go_wp2_with fail
                go_round
                case rel => exact ⟨m + 1, by omega, by omega, by go_num, fun j h1 h2 => by
                  rcases Nat.lt_succ_iff_lt_or_eq.1 h2 with h2 | rfl
                  · exact HALL.out j h1 h2
                  · rw [HLM.out, HYE.out]⟩
                case measure => simp [intOf]; omega
            · have hme : m = l.length := by omega
              have HNO := Lib.hid (fun h => HN.out m h hm1 hme HALL.out)
              subst hme
              go_wp2_with fail
              go_roundw
              case rel => exact ⟨k + 1, O, by omega, by omega, by go_num, hown, HD.out HXE.out (by rw [HLO.out]; rfl), hbw⟩
              case measure => simp [intOf]; omega
          
        · have i0 : (0 : Int) ≤ (O.length : Int) - 1 := by omega
          go_wp2_with fail
          go_loop [5] (fun a => ∃ m : Nat, k ≤ m ∧ m ≤ l.length ∧ a = .int .i64 m ∧ ∀ j, k ≤ j → j < m → l[j]? = some 32) (fun a => l.length - (intOf a).toNat)
          case atStart => exact ⟨k, Nat.le_refl _, hk, rfl, fun j h1 h2 => absurd h2 (by omega)⟩
          case round =>
            obtain ⟨m, hm1, hm2, rfl, hall⟩ := hrel
            have HALL := Lib.hid hall
            clear hall
            by_cases hml : m < l.length
            · obtain ⟨ad2, u2, e2, hab2, hx2, hc2⟩ := (HL.out.below hbw).at_ hml
              injection e2 with e2
              subst e2
              have hu2 : u2 = .int .u16 l[m] := by simpa [u16s, hml] using hx2.symm
              subst hu2
              have HLM : Hid (l[m]? = some l[m]) := Lib.hid (List.getElem?_eq_getElem hml)
              have HIM := Lib.hid (fun h h4 => HI.out m h hm1 hml HALL.out h4)
              obtain ⟨y, hyy⟩ : ∃ y, l[m] = y := ⟨_, rfl⟩
              rw [hyy] at hc2 HLM HIM
              clear hx2 hyy
              rcases hy32 : (y == 32) with _ | _
              · rcases hz10 : (z == 10) with _ | _
                · have hz10' : (z != 10) = true := by simp [bne, hz10]
                  have HZ10 : Hid (z ≠ 10) := Lib.hid (by simpa using hz10)
                  rcases hz32 : (z == 32) with _ | _
                  · have hz32' : (z != 32) = true := by simp [bne, hz32]
                    have HZ32 : Hid (z ≠ 32) := Lib.hid (by simpa using hz32)
                    rcases hy10 : (y == 10) with _ | _
                    · have hy10' : (y != 10) = true := by simp [bne, hy10]
                      go_wp2_with (at_builtin; refine wpList_app rfl _ _ rfl el_u16 hown hbw.size rfl [_] rfl (by simp) (by simp [Value.oneCell']) (by omega) (by omega) ?_; intro A1 c1 w1 hown1 hB1 hg1 _)
                      go_roundw
                      case rel => exact ⟨k + 1, O ++ [x], by omega, by simp; omega, by go_num, by rw [List.length_append]; simpa [u16s] using hown1, by have e := HXE.out; subst e; exact HKP.out rfl (by rw [HLO.out]; simp [isLet, HZ10.out, HZ32.out]) (by rw [HIM.out rfl hy32, hy10]; rfl), hB1 _ _ (Nat.le_refl _) hbw⟩
                      case measure => simp [intOf]; omega
                    · have hy10' : (y != 10) = false := by simp [bne, hy10]
                      go_wp2_with fail
                      go_roundw
                      case rel => exact ⟨k + 1, O, by omega, by omega, by go_num, hown, HD.out HXE.out (by rw [HIM.out HXE.out hy32, hy10]; simp), hbw⟩
                      case measure => simp [intOf]; omega
                  · have hz32' : (z != 32) = false := by simp [bne, hz32]
                    have HZ32 : Hid (z = 32) := Lib.hid (by simpa using hz32)
                    go_wp2_with fail
                    go_roundw
                    case rel => exact ⟨k + 1, O, by omega, by omega, by go_num, hown, HD.out HXE.out (by rw [HLO.out]; simp [isLet, HZ32.out]), hbw⟩
                    case measure => simp [intOf]; omega
                · have hz10' : (z != 10) = false := by simp [bne, hz10]
                  have HZ10 : Hid (z = 10) := Lib.hid (by simpa using hz10)
                  go_wp2_with fail
                  go_roundw
                  case rel => exact ⟨k + 1, O, by omega, by omega, by go_num, hown, HD.out HXE.out (by rw [HLO.out]; simp [isLet, HZ10.out]), hbw⟩
                  case measure => simp [intOf]; omega
                
              · have HYE : Hid (y = 32) := Lib.hid (by simpa using hy32)
                go_wp2_with fail
                go_round
                case rel => exact ⟨m + 1, by omega, by omega, by go_num, fun j h1 h2 => by
                  rcases Nat.lt_succ_iff_lt_or_eq.1 h2 with h2 | rfl
                  · exact HALL.out j h1 h2
                  · rw [HLM.out, HYE.out]⟩
                case measure => simp [intOf]; omega
            · have hme : m = l.length := by omega
              have HNO := Lib.hid (fun h => HN.out m h hm1 hme HALL.out)
              subst hme
              rcases hz10 : (z == 10) with _ | _
              · have hz10' : (z != 10) = true := by simp [bne, hz10]
                have HZ10 : Hid (z ≠ 10) := Lib.hid (by simpa using hz10)
                rcases hz32 : (z == 32) with _ | _
                · have hz32' : (z != 32) = true := by simp [bne, hz32]
                  have HZ32 : Hid (z ≠ 32) := Lib.hid (by simpa using hz32)
                  go_wp2_with fail
                  go_roundw
                  case rel => exact ⟨k + 1, O, by omega, by omega, by go_num, hown, HD.out HXE.out (by rw [HNO.out HXE.out]; simp), hbw⟩
                  case measure => simp [intOf]; omega
                · have hz32' : (z != 32) = false := by simp [bne, hz32]
                  have HZ32 : Hid (z = 32) := Lib.hid (by simpa using hz32)
                  go_wp2_with fail
                  go_roundw
                  case rel => exact ⟨k + 1, O, by omega, by omega, by go_num, hown, HD.out HXE.out (by rw [HLO.out]; simp [isLet, HZ32.out]), hbw⟩
                  case measure => simp [intOf]; omega
              · have hz10' : (z != 10) = false := by simp [bne, hz10]
                have HZ10 : Hid (z = 10) := Lib.hid (by simpa using hz10)
                go_wp2_with fail
                go_roundw
                case rel => exact ⟨k + 1, O, by omega, by omega, by go_num, hown, HD.out HXE.out (by rw [HLO.out]; simp [isLet, HZ10.out]), hbw⟩
                case measure => simp [intOf]; omega
    · obtain rfl : k = l.length := by omega
      have e : O = tidyF false l := by have := HT.out; rw [List.drop_eq_nil_of_le (Nat.le_refl _)] at this; simpa [tidyF] using this
      subst e
      clear HT
      go_wp2_with fail
      go_ret
      exact ⟨_, _, rfl, hown, hbw⟩
end Go.Proofs.Ytmpcpcagphgopaa
