/- Contracts of the reference's big numbers (package jambref01). -/
import Derived.Test.YtenpjdpkilbhkaaProg
import Derived.Test.YtenpjdpkilbhkaaBase
import Derived.Test.YtenpjdpkilbhkaaBits
import Derived.Test.YtenpjdpkilbhkaaAu
set_option linter.unusedSimpArgs false
set_option linter.unusedVariables false
namespace Go.Proofs.Ytenpjdpkilbhkaa
open Go.RowKit

theorem el_bool : El Try.prog 29 4 (.bool false) 1 1 := ⟨Try.underlying29, by kernel_rfl, rfl, by decide⟩
def bools (l : List Bool) : List Value := l.map Value.bool
theorem bools_len (l : List Bool) : (bools l).length = l.length := by simp [bools]

set_option maxHeartbeats 400000 in
theorem at_any (l : List Bool) (k : Nat) (i : Int) (hi : i = k) (A : Option Addr) (c : Nat) (w : World) (_hn : l.length ≤ 4611686018427387904) (hr : Reads w w.heap.size 1 A l.length (bools l)) :
    Calls Try.prog 59 #[.slice A l.length c, .int .i64 i] w fun e w' => e = .returned (.int .i64 (dg l k)) ∧ w = w' := by
  subst hi
  by_cases hlt : k < l.length
  · obtain ⟨ad, u, rfl, hab, hx, hc⟩ := hr.at_ hlt
    have hu : u = .bool l[k] := by simpa [bools, hlt] using hx.symm
    subst hu
    cases hb : l[k] with
    | true =>
      have hd : dg l k = 1 := by rw [dg_lt hlt, hb]; rfl
      rw [hb] at hc
      have HD := Lib.hid hd
      clear hx hr hd hb
      go_enter Try.func59, Try.ntmps59
      go_wp2_with fail
      go_ret
      exact ⟨by rw [HD.out]; rfl, rfl⟩
    | false =>
      have hd : dg l k = 0 := by rw [dg_lt hlt, hb]; rfl
      rw [hb] at hc
      have HD := Lib.hid hd
      clear hx hr hd hb
      go_enter Try.func59, Try.ntmps59
      go_wp2_with fail
      go_ret
      exact ⟨by rw [HD.out]; rfl, rfl⟩
  · have hd : dg l k = 0 := dg_ge (by omega)
    have HD := Lib.hid hd
    clear hr hd
    go_enter Try.func59, Try.ntmps59
    go_wp2_with fail
    go_ret
    exact ⟨by rw [HD.out]; rfl, rfl⟩

set_option maxHeartbeats 800000 in
theorem less_any (a b : List Bool) (A B : Option Addr) (c d : Nat) (w : World) (hna : a.length ≤ 4611686018427387904) (hnb : b.length ≤ 4611686018427387904)
    (hra : Reads w w.heap.size 1 A a.length (bools a)) (hrb : Reads w w.heap.size 1 B b.length (bools b)) :
    Calls Try.prog 58 #[.slice A a.length c, .slice B b.length d] w fun e w' => e = .returned (.bool (decide (val a < val b))) ∧ w = w' := by
  have HRA := Lib.hid hra
  have HRB := Lib.hid hrb
  clear hra hrb
  have hend : ∀ m, a.length ≤ m → b.length ≤ m → val (a.drop m) = val (b.drop m) := fun m h1 h2 => by rw [val_drop_len _ _ h1, val_drop_len _ _ h2]
  have HE := Lib.hid hend
  clear hend
  by_cases hm : a.length < b.length
  all_goals
    go_enter Try.func58, Try.ntmps58
    go_wp2_with fail
    go_loop [5] (fun i => ∃ k : Nat, k ≤ 4611686018427387904 ∧ i = .int .i64 ((k : Int) - 1) ∧ val (a.drop k) = val (b.drop k)) (fun i => (intOf i + 1).toNat)
    case atStart => exact ⟨_, by omega, rfl, HE.out _ (by omega) (by omega)⟩
    case round =>
      obtain ⟨k, hk, rfl, hd⟩ := hrel
      have HD := Lib.hid hd
      clear hd
      rcases k with _ | k
      · go_wp2_with fail
        go_ret
        have := HD.out
        exact ⟨by simp only [List.drop_zero] at this; simp [this], rfl⟩
      · by_cases he : dg a k = dg b k
        · have e1 : (dg a k != dg b k) = false := by simp [he]
          have HH := Lib.hid (drop_same HD.out he)
          clear he
          go_wp2_with fail
          refine (at_any a k _ rfl A c _ hna HRA.out).mono ?_
          rintro e w' ⟨rfl, rfl⟩
          go_wp2_with fail
          refine (at_any b k _ rfl B d _ hnb HRB.out).mono ?_
          rintro e w' ⟨rfl, rfl⟩
          go_wp2_with fail
          go_round
          case rel => exact ⟨k, by omega, by go_num, HH.out⟩
          case measure => simp [intOf]
        · have e1 : (dg a k != dg b k) = true := by simp [he]
          have HH := Lib.hid (less_at a b k HD.out he)
          clear he
          go_wp2_with fail
          refine (at_any a k _ rfl A c _ hna HRA.out).mono ?_
          rintro e w' ⟨rfl, rfl⟩
          go_wp2_with fail
          refine (at_any b k _ rfl B d _ hnb HRB.out).mono ?_
          rintro e w' ⟨rfl, rfl⟩
          go_wp2_with fail
          refine (at_any a k _ rfl A c _ hna HRA.out).mono ?_
          rintro e w' ⟨rfl, rfl⟩
          go_wp2_with fail
          refine (at_any b k _ rfl B d _ hnb HRB.out).mono ?_
          rintro e w' ⟨rfl, rfl⟩
          go_wp2_with fail
          go_ret
          exact ⟨by simp [HH.out], rfl⟩

set_option maxHeartbeats 800000 in
theorem plus_any (a b : List Bool) (A B : Option Addr) (c d : Nat) (w : World) (hna : a.length ≤ 1048576) (hnb : b.length ≤ 1048576)
    (hra : Reads w w.heap.size 1 A a.length (bools a)) (hrb : Reads w w.heap.size 1 B b.length (bools b)) :
    Calls Try.prog 67 #[.slice A a.length c, .slice B b.length d] w fun e w' => ∃ (l : List Bool) (A' : Option Addr) (c' : Nat), e = .returned (.slice A' l.length c') ∧ l.length = max a.length b.length + 1 ∧ val l = val a + val b ∧
      w'.ownsRow w.heap.size 4 1 (.slice A' l.length c') l.length (bools l) ∧ Below w.heap.size w w' := by
  have HRA := Lib.hid hra
  have HRB := Lib.hid hrb
  clear hra hrb
  obtain ⟨M, hMa, hMb, hM, hMm⟩ : ∃ M, a.length ≤ M ∧ b.length ≤ M ∧ M ≤ 1048576 ∧ max a.length b.length = M := ⟨_, by omega, by omega, by omega, rfl⟩
  rw [hMm]
  have HMM := Lib.hid hMm
  have hcs : a.length < b.length ∧ M ≤ b.length ∨ ¬ a.length < b.length ∧ M ≤ a.length := by omega
  clear hMm
  rcases hcs with ⟨hm, hm'⟩ | ⟨hm, hm'⟩
  all_goals
    go_enter Try.func67, Try.ntmps67
    go_wp2_with fail
    go_loopw [5, 6, 7] (fun o m i wr => ∃ (out : List Bool) (more : Int), out.length ≤ M + 1 ∧ 0 ≤ more ∧ more ≤ 1 ∧ i = .int .i64 out.length ∧ m = .int .i64 more ∧ wr.ownsRow w.heap.size 4 1 o out.length (bools out) ∧
        val (a.take out.length) + val (b.take out.length) = val out + more * 2 ^ out.length ∧ Below w.heap.size w wr) (fun _ _ i _ => (M + 1) - (intOf i).toNat)
    case atStart => exact ⟨[], 0, by simp, by omega, by omega, rfl, rfl, World.ownsRow_nil _ _ _ _, by simp [val], Below.refl _ _⟩
    case round =>
      obtain ⟨out, more, hol, hm0, hm1, rfl, rfl, hown, hv, hw⟩ := hrel
      have HV := Lib.hid hv
      clear hv
      by_cases hlt : out.length ≤ M
      · have hda := dg_01 a out.length
        have hdb := dg_01 b out.length
        go_wp2_with fail
        refine (at_any a out.length _ rfl A c _ (by omega) ((HRA.out.below hw).more hw.size)).mono ?_
        rintro e w' ⟨rfl, rfl⟩
        go_wp2_with fail
        refine (at_any b out.length _ rfl B d _ (by omega) ((HRB.out.below hw).more hw.size)).mono ?_
        rintro e w' ⟨rfl, rfl⟩
        have HP := Lib.hid (plus_step a b out more HV.out _ rfl ⟨hm0, hm1⟩)
        go_wp2_with (at_builtin; refine wpList_app rfl _ _ rfl el_bool hown hw.size rfl [_] rfl (by simp) (by simp [Value.oneCell']) (by omega) (by omega) ?_; intro A' c' w' hown' hB hg _)
        go_roundw
        case rel => exact ⟨out ++ [_], _, by simp; omega, by omega, by omega, by simp, rfl, by simpa [bools] using hown', by rw [List.length_append]; exact HP.out, hB _ _ (Nat.le_refl _) hw⟩
        case measure => simp [intOf]; omega
      · have hl : out.length = M + 1 := by omega
        have HF := Lib.hid (plus_end a b out more HV.out ⟨hm0, hm1⟩ (by rw [HMM.out]; omega))
        have HL := Lib.hid hl
        have hl' : M < out.length := by omega
        clear hl hlt
        obtain ⟨Ao, co, rfl⟩ := own_form hown
        go_wp2_with fail
        go_ret
        exact ⟨out, _, _, rfl, HL.out, HF.out.symm, hown, hw⟩

set_option maxHeartbeats 800000 in
theorem minus_any (a b : List Bool) (A B : Option Addr) (c d : Nat) (w : World) (hna : a.length ≤ 1048576) (hnb : b.length ≤ 1048576) (hab : val b ≤ val a)
    (hra : Reads w w.heap.size 1 A a.length (bools a)) (hrb : Reads w w.heap.size 1 B b.length (bools b)) :
    Calls Try.prog 68 #[.slice A a.length c, .slice B b.length d] w fun e w' => ∃ (l : List Bool) (A' : Option Addr) (c' : Nat), e = .returned (.slice A' l.length c') ∧ l.length = a.length ∧ val l = val a - val b ∧
      w'.ownsRow w.heap.size 4 1 (.slice A' l.length c') l.length (bools l) ∧ Below w.heap.size w w' := by
  have HRA := Lib.hid hra
  have HRB := Lib.hid hrb
  have HAB := Lib.hid hab
  clear hra hrb hab
  go_enter Try.func68, Try.ntmps68
  go_wp2_with fail
  go_loopw [5, 6, 7] (fun o m i wr => ∃ (out : List Bool) (les : Int), out.length ≤ a.length ∧ 0 ≤ les ∧ les ≤ 1 ∧ i = .int .i64 out.length ∧ m = .int .i64 les ∧ wr.ownsRow w.heap.size 4 1 o out.length (bools out) ∧
      val (a.take out.length) - val (b.take out.length) = val out - les * 2 ^ out.length ∧ Below w.heap.size w wr) (fun _ _ i _ => a.length - (intOf i).toNat)
  case atStart => exact ⟨[], 0, by simp, by omega, by omega, rfl, rfl, World.ownsRow_nil _ _ _ _, by simp [val], Below.refl _ _⟩
  case round =>
    obtain ⟨out, les, hol, hm0, hm1, rfl, rfl, hown, hv, hw⟩ := hrel
    have HV := Lib.hid hv
    clear hv
    by_cases hlt : out.length < a.length
    · have hda := dg_01 a out.length
      have hdb := dg_01 b out.length
      have HP := Lib.hid (fun s' les' => minus_step a b out les HV.out ⟨hm0, hm1⟩ (dg a out.length - dg b out.length - les) s' les' rfl)
      by_cases hs : dg a out.length - dg b out.length - les < 0
      all_goals
        go_wp2_with fail
        refine (at_any a out.length _ rfl A c _ (by omega) ((HRA.out.below hw).more hw.size)).mono ?_
        rintro e w' ⟨rfl, rfl⟩
        go_wp2_with fail
        refine (at_any b out.length _ rfl B d _ (by omega) ((HRB.out.below hw).more hw.size)).mono ?_
        rintro e w' ⟨rfl, rfl⟩
        go_wp2_with (at_builtin; refine wpList_app rfl _ _ rfl el_bool hown hw.size rfl [_] rfl (by simp) (by simp [Value.oneCell']) (by omega) (by omega) ?_; intro A' c' w' hown' hB hg _)
        go_roundw
        case rel => exact ⟨out ++ [_], _, by simp; omega, by omega, by omega, by simp, rfl, by simpa [bools] using hown', by rw [List.length_append]; exact HP.out _ _ (by omega), hB _ _ (Nat.le_refl _) hw⟩
        case measure => simp [intOf]; omega
    · have hl : out.length = a.length := by omega
      have HF := Lib.hid (minus_end a b out les HV.out ⟨hm0, hm1⟩ hl HAB.out)
      have HL := Lib.hid hl
      clear hl
      obtain ⟨Ao, co, rfl⟩ := own_form hown
      go_wp2_with fail
      go_ret
      exact ⟨out, _, _, rfl, HL.out, HF.out.symm, hown, hw⟩

/-- A big number as a value: its sign, the slice of its digits, of which there are at most K. -/
def sg (m : Bool) (x : Int) : Int := if m then -x else x
def Big (w : World) (lo : Nat) (v : Value) (K : Nat) (x : Int) : Prop := ∃ (m : Bool) (A : Option Addr) (c : Nat) (l : List Bool), v = .agg #[.bool m, .slice A l.length c] ∧ l.length ≤ c ∧ l.length ≤ K ∧ Reads w w.heap.size 1 A l.length (bools l) ∧
  (∀ ad, A = some ad → 0 < l.length → lo ≤ ad.block) ∧ sg m (val l) = x
theorem Big.below {w w' : World} {lo : Nat} {v : Value} {K : Nat} {x : Int} (h : Big w lo v K x) (hb : Below w.heap.size w w') : Big w' lo v K x := by
  obtain ⟨m, A, c, l, hv, hc, hk, hr, ho, hx⟩ := h
  exact ⟨m, A, c, l, hv, hc, hk, (hr.below hb).more hb.size, ho, hx⟩
theorem Big.drew {w : World} {lo : Nat} {v : Value} {K : Nat} {x : Int} (h : Big w lo v K x) : Big w.drew lo v K x := h
theorem Big.more {w : World} {lo lo' : Nat} {v : Value} {K K' : Nat} {x : Int} (h : Big w lo v K x) (hk : K ≤ K') (hl : lo' ≤ lo) : Big w lo' v K' x := by
  obtain ⟨m, A, c, l, hv, hc, hk', hr, ho, hx⟩ := h
  exact ⟨m, A, c, l, hv, hc, by omega, hr, fun ad h1 h2 => Nat.le_trans hl (ho ad h1 h2), hx⟩
theorem Big.set_ {w : World} {lo : Nat} {v : Value} {K : Nat} {x : Int} (h : Big w lo v K x) {p : Addr} (hp : p.block < lo) (u : Value) : Big (w.setCell p u) lo v K x := by
  obtain ⟨m, A, c, l, hv, hc, hk, ⟨hr1, hr2⟩, ho, hx⟩ := h
  refine ⟨m, A, c, l, hv, hc, hk, ⟨hr1, fun hn => ?_⟩, ho, hx⟩
  obtain ⟨ad, e, hb, hcl⟩ := hr2 hn
  have := ho ad e hn
  refine ⟨ad, e, by simpa [World.setCell] using hb, fun j u' hu => ?_⟩
  rw [World.cell?_of_block (w := w)]
  · exact hcl j u' hu
  · rw [block_of_add]; exact Below.heap_setCell _ _ _ _ (by omega)
theorem own_ge {w : World} {base : Nat} {e : TypeId} {size : Nat} {A : Option Addr} {k c n : Nat} {xs : List Value} (h : w.ownsRow base e size (.slice A k c) n xs) : ∀ ad, A = some ad → base ≤ ad.block := by
  rintro ad rfl
  exact (h.lt ad.block rfl).1

theorem short_take {l : List Bool} {A : Option Addr} {w : World} (hr : Reads w w.heap.size 1 A l.length (bools l)) {k : Nat} (hk : k ≤ l.length) : (l.take k).length = k ∧ Reads w w.heap.size 1 A k (bools (l.take k)) := by
  refine ⟨by simp; omega, by simp [bools]; omega, fun hn => ?_⟩
  obtain ⟨ad, e, hb, hcc⟩ := hr.2 (by omega)
  refine ⟨ad, e, hb, fun j u hu => hcc j u ?_⟩
  simp only [bools, List.map_take, List.getElem?_take] at hu ⊢
  split at hu
  · exact hu
  · cases hu
theorem short_sg {l : List Bool} {m : Bool} {k : Nat} (hz : ∀ j, k ≤ j → dg l j = 0) {m' : Bool} (hm' : (m && decide (0 < k)) = m') : sg m' (val (l.take k)) = sg m (val l) := by
  subst hm'
  rw [val_short l k hz]
  rcases k with _ | k
  · have : val l = 0 := by rw [← val_short l 0 hz]; rfl
    rw [this]; unfold sg; simp
  · simp

def ShortR (e : Ending) (m : Bool) (l : List Bool) (A : Option Addr) (c k : Nat) : Prop := ∃ m' : Bool, e = .returned (.agg #[.bool m', .slice A k c]) ∧ sg m' (val (l.take k)) = sg m (val l)

attribute [local go_sem] block_of_add

set_option maxHeartbeats 800000 in
theorem short_any (m : Bool) (l : List Bool) (A : Option Addr) (c : Nat) (w : World) (hn : l.length ≤ 1048576) (hc : l.length ≤ c) (hr : Reads w w.heap.size 1 A l.length (bools l)) :
    Calls Try.prog 66 #[.agg #[.bool m, .slice A l.length c]] w fun e w' => ∃ k, k ≤ l.length ∧ ShortR e m l A c k ∧ Below w.heap.size w w' := by
  have HR := Lib.hid hr
  clear hr
  go_enter Try.func66, Try.ntmps66
  go_wp2_with fail
  go_loop [3] (fun i => ∃ k : Nat, k ≤ l.length ∧ i = .int .i64 k ∧ ∀ j, k ≤ j → dg l j = 0) (fun i => (intOf i).toNat)
  case atStart => exact ⟨_, Nat.le_refl _, rfl, fun j hj => dg_ge hj⟩
  case round =>
    obtain ⟨k, hk, rfl, hz⟩ := hrel
    have HZ := Lib.hid hz
    clear hz
    rcases k with _ | k
    · cases m
      all_goals
        go_wp2_with fail
        refine bodyPost_ret (v := .agg #[.bool false, .slice A 0 c]) (by simp [results, Try.results66, go_sem]) rfl ⟨_, hk, ⟨_, rfl, short_sg HZ.out rfl⟩, ?_⟩
        exact ((Below.refl _ _).alloc (Nat.le_refl _) _).alloc (by simp) _
    · have hlt : k < l.length := by omega
      obtain ⟨ad, u, rfl, hab, hx, hcl⟩ := HR.out.at_ hlt
      have hu : u = .bool l[k] := by simpa [bools, hlt] using hx.symm
      subst hu
      cases hb : l[k] with
      | true =>
        rw [hb] at hcl
        clear hx hb
        cases m
        all_goals
          go_wp2_with fail
        · refine bodyPost_ret (v := .agg #[.bool false, .slice (some ad) (k + 1) c]) (by simp [results, Try.results66, go_sem]) rfl ⟨_, hk, ⟨_, rfl, short_sg HZ.out rfl⟩, ?_⟩
          exact ((Below.refl _ _).alloc (Nat.le_refl _) _).alloc (by simp) _
        · refine bodyPost_ret (v := .agg #[.bool true, .slice (some ad) (k + 1) c]) (by simp [results, Try.results66, go_sem]) rfl ⟨_, hk, ⟨_, rfl, short_sg HZ.out (by simp)⟩, ?_⟩
          exact ((Below.refl _ _).alloc (Nat.le_refl _) _).alloc (by simp) _
      | false =>
        have h0 : ∀ j, k ≤ j → dg l j = 0 := fun j hj => by
          rcases Nat.eq_or_lt_of_le hj with rfl | hj
          · rw [dg_lt hlt, hb]; rfl
          · exact HZ.out j hj
        have H0 := Lib.hid h0
        rw [hb] at hcl
        clear hx hb h0
        go_wp2_with fail
        go_round
        case rel => exact ⟨k, by omega, by go_num, H0.out⟩
        case measure => simp [intOf]

theorem short_use (m : Bool) (l : List Bool) (A : Option Addr) (c : Nat) (w : World) (hn : l.length ≤ 1048576) (hc : l.length ≤ c) (hr : Reads w w.heap.size 1 A l.length (bools l)) :
    Calls Try.prog 66 #[.agg #[.bool m, .slice A l.length c]] w fun e w' => ∃ (m' : Bool) (k : Nat), e = .returned (.agg #[.bool m', .slice A k c]) ∧ k ≤ l.length ∧ sg m' (val (l.take k)) = sg m (val l) ∧ Below w.heap.size w w' :=
  (short_any m l A c w hn hc hr).mono fun _ _ ⟨k, hk, ⟨m', he, hv⟩, hb⟩ => ⟨m', k, he, hk, hv, hb⟩

/-- The owned digits, cut by short, stored into a box of the caller's. -/
theorem big_stored {w w1 w2 : World} {base g : Nat} {l : List Bool} {A : Option Addr} {c k K : Nat} {m' : Bool} {x : Int} {cs : Array Value} (hcs : cs.size = 2) (hown : w1.ownsRow base 4 1 (.slice A l.length c) l.length (bools l)) (hb2 : Below w1.heap.size w1 w2)
    (hg : Blk w2 g 101 cs) (hgb : g < base) (hk : k ≤ l.length) (hK : l.length ≤ K) (hx : sg m' (val (l.take k)) = x) (hw : Below w.heap.size w w2) (hwg : w.heap.size ≤ g) (W : World) (hW : W = (w2.setCell ⟨g, 0, none⟩ (.bool m')).setCell ⟨g, 1, none⟩ (.slice A k c)) :
    Blk W g 101 #[.bool m', .slice A k c] ∧ Big W base (.agg #[.bool m', .slice A k c]) K x ∧ Below w.heap.size w W := by
  subst hW
  have ho := ownsRow_setCell_below (ownsRow_setCell_below (own_below hown hb2) (a := ⟨g, 0, none⟩) hgb (.bool m')) (a := ⟨g, 1, none⟩) hgb (.slice A k c)
  have hc := own_cap hown
  obtain ⟨h1, h2⟩ := short_take (Reads.of_own ho) hk
  refine ⟨?_, ⟨m', A, c, l.take k, by rw [h1], by omega, by omega, by rw [h1]; exact h2, fun ad h _ => own_ge hown ad h, hx⟩, (hw.setCell (p := ⟨g, 0, none⟩) hwg _).setCell (p := ⟨g, 1, none⟩) hwg _⟩
  have := (hg.set_ 0 (.bool m')).set_ 1 (.slice A k c)
  obtain ⟨cl⟩ := cs
  match cl, hcs with
  | [a, b], _ => exact this

end Go.Proofs.Ytenpjdpkilbhkaa
