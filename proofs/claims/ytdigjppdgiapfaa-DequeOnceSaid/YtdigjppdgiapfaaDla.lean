/- Contracts: the law's own helpers: same, begin, end. -/
import Derived.Test.YtdigjppdgiapfaaDsr
set_option linter.unusedSimpArgs false
set_option linter.unusedVariables false
namespace Go.Proofs.Ytdigjppdgiapfaa
open Go.RowKit
attribute [local go_sem] block_of_add fn_some fn_nil fn_somen fn_niln
attribute [local go_sem ↓] Go.wp_at_zero Go.wp_at_succ

theorem take_ext {a b : List Int} {k : Nat} (ha : k < a.length) (hb : k < b.length) (h : a.take k = b.take k) (e : a[k] = b[k]) : a.take (k + 1) = b.take (k + 1) := by
  rw [List.take_succ_eq_append_getElem ha, List.take_succ_eq_append_getElem hb, h, e]
theorem ints_at {l : List Int} {k : Nat} {u : Value} (h : k < l.length) (hu : (ints l)[k]? = some u) : u = .int .i64 l[k] := by
  simp [ints, List.getElem?_map, List.getElem?_eq_getElem h] at hu; exact hu.symm
set_option maxHeartbeats 1000000 in
theorem same_any (a b : List Int) (A B : Option Addr) (c d : Nat) (w : World) (hn : a.length ≤ 4294967296) (hm : b.length ≤ 4294967296) (ha : Reads w w.heap.size 1 A a.length (ints a)) (hb : Reads w w.heap.size 1 B b.length (ints b)) :
    Calls Try.prog 19 #[.slice A a.length c, .slice B b.length d] w fun e w' => e = .returned (.bool (decide (a = b))) ∧ ∃ n, w' = w.drewN n := by
  have HA := Lib.hid ha
  have HB := Lib.hid hb
  clear ha hb
  by_cases hl : a.length = b.length
  · rw [← hl]
    rw [← hl] at HB
    have HLE := Lib.hid hl
    clear hl
    go_enter Try.func19, Try.ntmps19
    go_wp2_with fail
    go_loopw [5] (fun i wr => ∃ k n : Nat, k ≤ a.length ∧ i = .int .i64 k ∧ wr = w.drewN n ∧ Hid (a.take k = b.take k)) (fun i _ => a.length - (intOf i).toNat)
    case atStart => exact ⟨0, 0, by omega, rfl, rfl, Lib.hid rfl⟩
    case round =>
      obtain ⟨k, n, hk, rfl, rfl, HK⟩ := hrel
      by_cases hlt : k < a.length
      · obtain ⟨ad, u, rfl, hab, hu, hcu⟩ := HA.out.at_ hlt
        obtain ⟨bd, v, rfl, hbb, hv, hcv⟩ := HB.out.at_ hlt
        have hlb : k < b.length := by have := HLE.out; omega
        obtain rfl := ints_at hlt hu
        obtain rfl := ints_at hlb hv
        have hk1 : (k : Int) < (a.length : Int) := by omega
        have hd1 : decide ((k : Int) < (a.length : Int)) = true := decide_eq_true hk1
        have HU := Lib.hid hu
        have HV := Lib.hid hv
        clear hu hv
        by_cases he : a[k] = b[k]
        · have HS := Lib.hid (take_ext hlt hlb HK.out he)
          have hq : (a[k] == b[k]) = true := by simpa using he
          clear he
          go_wp2_with fail
          go_quiet (fail)
          go_wp2_with fail
          go_roundw
          case rel => exact ⟨k + 1, _, by omega, by go_num, rfl, HS.out⟩
          case measure => simp [intOf]; omega
        · have HN := Lib.hid (decide_eq_false (p := a = b) (fun e => he (by subst e; rfl)))
          have hq : (a[k] == b[k]) = false := by simpa using he
          clear he
          go_wp2_with fail
          go_quiet (fail)
          go_wp2_with fail
          go_ret
          exact ⟨by rw [HN.out]; rfl, _, by rw [World.drewN_drewN]⟩
      · have hka : k = a.length := by omega
        have HT := Lib.hid (show a = b by have h := HK.out; rw [hka, List.take_length] at h; rw [HLE.out, List.take_length] at h; exact h)
        subst hka
        clear hlt hk
        go_wp2_with fail
        go_ret
        exact ⟨by rw [decide_eq_true HT.out]; rfl, _, rfl⟩
  · have HN := Lib.hid (decide_eq_false (p := a = b) (fun e => hl (by rw [e])))
    have hq : ((a.length : Int) == (b.length : Int)) = false := by simpa using (show ¬ (a.length : Int) = b.length by omega)
    have hq2 : ¬ a.length = b.length := hl
    clear hl
    go_enter Try.func19, Try.ntmps19
    go_wp2_with fail
    go_ret
    exact ⟨by rw [HN.out]; rfl, 0, rfl⟩
section
variable (gd gc : Nat) (d : Dq) (own : Value) (w : World) (hd : DqAt w gd gc d own) (hn : 0 < d.sl.length)
include hd hn
set_option maxHeartbeats 400000 in
theorem begin_steal (k : Nat) (hk : 0 < k) (p : Bool) (x : Int) : Calls Try.prog 11 #[.pointer (some ⟨gd, 0, none⟩), .int .i64 k, .bool p, .int .i64 x] w fun e w' => Begun w w' gd gc d own opSteal e := by
  have HC := Lib.hid (steal_any gd gc d own w hd hn)
  have hk1 : decide ((0 : Int) < k) = true := decide_eq_true (by omega)
  have HK := Lib.hid hk
  clear hd hn
  go_enter Try.func11, Try.ntmps11
  go_wp2_with fail
  refine HC.out.mono ?_
  rintro e w' ⟨rfl, h1, h2, h3⟩
  have H1 := Lib.hid h1
  have H2 := Lib.hid h2
  have H3 := Lib.hid h3
  clear h1 h2 h3
  go_wp2_with fail
  exact bodyPost_ret (v := .tuple #[.pointer (some ⟨w.heap.size, 0, none⟩), .int .i64 0]) (by simp [results, Try.results11, go_sem]) rfl ⟨rfl, H1.out, H2.out, H3.out⟩
set_option maxHeartbeats 400000 in
theorem begin_pop (x : Int) (hi : Idle w gd own) : Calls Try.prog 11 #[.pointer (some ⟨gd, 0, none⟩), .int .i64 0, .bool true, .int .i64 x] w fun e w' => Begun w w' gd gc d (.pointer (some ⟨w.heap.size, 0, none⟩)) opPop e := by
  have HC := Lib.hid (pop_any gd gc d own w hd hn hi)
  clear hd hn hi
  go_enter Try.func11, Try.ntmps11
  go_wp2_with fail
  refine HC.out.mono ?_
  rintro e w' ⟨rfl, h1, h2, h3⟩
  have H1 := Lib.hid h1
  have H2 := Lib.hid h2
  have H3 := Lib.hid h3
  clear h1 h2 h3
  go_wp2_with fail
  exact bodyPost_ret (v := .tuple #[.pointer (some ⟨w.heap.size, 0, none⟩), .int .i64 0]) (by simp [results, Try.results11, go_sem]) rfl ⟨rfl, H1.out, H2.out, H3.out⟩
set_option maxHeartbeats 400000 in
theorem begin_push (x : Int) (hx : 0 ≤ x) (hi : Idle w gd own) : Calls Try.prog 11 #[.pointer (some ⟨gd, 0, none⟩), .int .i64 0, .bool false, .int .i64 x] w fun e w' => Begun w w' gd gc d (.pointer (some ⟨w.heap.size, 0, none⟩)) (opPush x) e := by
  have HC := Lib.hid (push_any gd gc d own w hd hn x hx hi)
  clear hd hn hi
  go_enter Try.func11, Try.ntmps11
  go_wp2_with fail
  refine HC.out.mono ?_
  rintro e w' ⟨rfl, h1, h2, h3⟩
  have H1 := Lib.hid h1
  have H2 := Lib.hid h2
  have H3 := Lib.hid h3
  clear h1 h2 h3
  go_wp2_with fail
  exact bodyPost_ret (v := .tuple #[.pointer (some ⟨w.heap.size, 0, none⟩), .int .i64 0]) (by simp [results, Try.results11, go_sem]) rfl ⟨rfl, H1.out, H2.out, H3.out⟩
end
/-- So many steps. -/
def itr : Nat → Dq × Dop → Dq × Dop
  | 0, s => s
  | n + 1, s => let t := itr n s; ((dstep t.1 t.2).1, (dstep t.1 t.2).2.1)
set_option maxHeartbeats 400000 in
theorem endop_any (go gd gc : Nat) (d : Dq) (own : Value) (o : Dop) (w : World) (hd : DqAt w gd gc d own) (ho : OpAt w go gd o) (hc : ∀ k, k < 6 → Can (itr k (d, o)).1 (itr k (d, o)).2) :
    Calls Try.prog 22 #[.pointer (some ⟨go, 0, none⟩)] w fun e w' => e = .returned (.tuple #[.int .u8 (told (itr 6 (d, o)).2).1, .int .i64 (told (itr 6 (d, o)).2).2]) ∧ DqAt w' gd gc (itr 6 (d, o)).1 own ∧ OpAt w' go gd (itr 6 (d, o)).2 ∧ Kp (fun k => k = gc ∨ k = go) w w' := by
  have HD := Lib.hid hd
  have HO := Lib.hid ho
  have HC := Lib.hid hc
  clear hd ho hc
  go_enter Try.func22, Try.ntmps22
  go_wp2_with fail
  go_loopw [4] (fun i wr => ∃ k : Nat, k ≤ 6 ∧ i = .int .i64 k ∧ DqAt wr gd gc (itr k (d, o)).1 own ∧ OpAt wr go gd (itr k (d, o)).2 ∧ Kp (fun k => k = gc ∨ k = go) w wr) (fun i _ => 6 - (intOf i).toNat)
  case atStart => exact ⟨0, by omega, rfl, HD.out, HO.out, Kp.refl _ _⟩
  case round =>
    obtain ⟨k, hk, rfl, hd, ho, hkk⟩ := hrel
    by_cases hlt : k < 6
    · have HS := Lib.hid (step_any go gd gc _ own _ wr hd ho (HC.out k hlt))
      have HK := Lib.hid hkk
      have hd1 : decide ((k : Int) < 6) = true := decide_eq_true (by omega)
      clear hd ho hkk
      go_wp2_with fail
      refine HS.out.mono ?_
      rintro e w2 ⟨rfl, hd, ho, hk2⟩
      have H1 := Lib.hid hd
      have H2 := Lib.hid ho
      have H3 := Lib.hid (HK.out.trans hk2)
      clear hd ho hk2
      go_wp2_with fail
      go_roundw
      case rel => exact ⟨k + 1, by omega, by go_num, H1.out, H2.out, H3.out⟩
      case measure => simp [intOf]; omega
    · obtain rfl : k = 6 := by omega
      have HT := Lib.hid (told_any go gd _ wr ho)
      have H1 := Lib.hid hd
      have H2 := Lib.hid ho
      have H3 := Lib.hid hkk
      clear hd ho hkk hlt
      go_wp2_with fail
      refine HT.out.mono ?_
      rintro e w2 ⟨rfl, hk2⟩
      have K2 := Lib.hid hk2
      clear hk2
      go_wp2_with fail
      exact bodyPost_ret (v := .tuple #[.int .u8 (told (itr 6 (d, o)).2).1, .int .i64 (told (itr 6 (d, o)).2).2]) (by simp [results, Try.results22, go_sem]) rfl ⟨rfl, H1.out.kp K2.out id id, Blk.kp H2.out K2.out id, H3.out.trans (K2.out.mono fun k h => h.elim)⟩
end Go.Proofs.Ytdigjppdgiapfaa
