/- Order: the items by their order. -/
import Derived.Test.YtbopeofglhkffaaStf
set_option linter.unusedSimpArgs false
set_option linter.unusedVariables false
namespace Go.Proofs.Ytbopeofglhkffaa
open Go.RowKit
attribute [local go_sem] block_of_add
theorem pin_bd {a b : Nat} {d d' : Nat → Nat} (h : Pin a b d d') {n : Nat} (hb : b ≤ n) : Pin 0 n d d' := h.mono (Nat.zero_le _) hb
set_option maxRecDepth 100000 in
set_option maxHeartbeats 4000000 in
theorem stable_any (gk N g n c : Nat) (o : Nat → Int) (w : World) (hn : n ≤ 400000) (hd : DAt N g n id w w) (hc : CmpOk gk g N o w) :
    Calls Try.prog 96 #[.slice (some ⟨g, 0, none⟩) n c, .int .i64 n, (.func (.func 85) #[] #[.pointer (some ⟨gk, 0, none⟩)])] w fun e w' => e = .returned (.tuple #[]) ∧ ∃ d', DAt N g n d' w w' ∧ Srt o d' 0 n ∧ Pin 0 n id d' := by
  have HD0 := Lib.hid hd
  have HC := Lib.hid hc
  clear hd hc
  go_enter Try.func96, Try.ntmps96
  go_wp2_with fail
  go_loopw [7, 8] (fun av bv wr => ∃ (a : Nat) (d1 : Nat → Nat), (a % 20 = 0 ∧ (a ≤ n)) ∧ av = .int .i64 a ∧ bv = .int .i64 ((a + 20 : Nat) : Int) ∧ Hid (Sb o d1 20 0 a n ∧ (∀ x, a ≤ x → x < n → d1 x = x) ∧ Pin 0 n id d1 ∧ DAt N g n d1 w wr)) (fun av _ _ => n - (intOf av).toNat)
  case atStart => exact ⟨0, id, ⟨rfl, Nat.zero_le _⟩, rfl, rfl, Lib.hid ⟨fun x _ h1 h2 => by omega, fun x _ _ => rfl, Pin.refl _ _ _, HD0.out⟩⟩
  case round =>
    obtain ⟨a, d1, ⟨ha, ha2⟩, rfl, rfl, HJ⟩ := hrel
    obtain ⟨b, hb⟩ : ∃ b, b = a + 20 := ⟨_, rfl⟩
    rw [← hb]
    have hb2 : a + 20 ≤ b ∧ b ≤ a + 20 := by omega
    have HB := Lib.hid hb
    clear hb
    by_cases hlt : b ≤ n
    · have g0 : decide ((b : Int) ≤ (n : Int)) = true := decide_eq_true (by omega)
      have g0' : decide (b ≤ n) = true := decide_eq_true hlt
      obtain ⟨b2, hb3⟩ : ∃ b2, b2 = b + 20 := ⟨_, rfl⟩
      have wb : IntKind.i64.wrap ((b : Int) + 20) = (b2 : Int) := by rw [hb3, IntWalk.i64_in _ ⟨by omega, by omega⟩]; omega
      have HB2 := Lib.hid hb3
      clear hb3
      have HX := Lib.hid (insertion_any gk N g n c a b d1 o wr (by omega) (by omega) hlt (fun p q q1 q2 q3 => by rw [HJ.out.2.1 p q1 (by omega), HJ.out.2.1 q (by omega) (by omega)]; exact q2) HJ.out.2.2.2.self (HC.out.kp HJ.out.2.2.2.k))
      go_wp2_with fail
      refine HX.out.mono ?_
      rintro e w3 ⟨rfl, d2, hk, hs, hp⟩
      have HS := Lib.hid (Sb.ins HJ.out.1 ha (show b = min (a + 20) n by omega) HJ.out.2.1 hs hp)
      have HP := Lib.hid (HJ.out.2.2.1.trans (pin_bd hp hlt))
      have HK := Lib.hid (HJ.out.2.2.2.trans hk)
      clear hk hs hp
      go_wp2_with fail
      go_roundw
      case rel =>
        refine ⟨b, d2, ⟨by omega, hlt⟩, rfl, by rw [HB2.out], Lib.hid ⟨?_, HS.out.2, HP.out, HK.out⟩⟩
        have h := HS.out.1
        rw [← HB.out] at h
        exact h
      case measure => simp [intOf] <;> omega
    · have g0 : decide ((b : Int) ≤ (n : Int)) = false := decide_eq_false (by omega)
      have g0' : decide (b ≤ n) = false := decide_eq_false hlt
      have HX := Lib.hid (insertion_any gk N g n c a n d1 o wr (by omega) ha2 (Nat.le_refl _) (fun p q q1 q2 q3 => by rw [HJ.out.2.1 p q1 (by omega), HJ.out.2.1 q (by omega) q3]; exact q2) HJ.out.2.2.2.self (HC.out.kp HJ.out.2.2.2.k))
      go_wp2_with fail
      refine HX.out.mono ?_
      rintro e w3 ⟨rfl, d2, hk, hs, hp⟩
      have HS : Hid (Sb o d2 20 0 n n) := Lib.hid (fun x h1 h2 h3 => (Sb.ins HJ.out.1 ha (show n = min (a + 20) n by omega) HJ.out.2.1 hs hp).1 x h1 h2 (by omega))
      have HP := Lib.hid (HJ.out.2.2.1.trans (pin_bd hp (Nat.le_refl _)))
      have HK := Lib.hid (HJ.out.2.2.2.trans hk)
      clear hk hs hp
      go_wp2_with fail
      go_loopw [6, 7, 8, 9] (fun sv av bv mv wx => ∃ (bs : Nat) (d3 : Nat → Nat), (0 < bs ∧ bs ≤ 800020) ∧ sv = .int .i64 bs ∧ Hid (Sb o d3 bs 0 n n ∧ Pin 0 n id d3 ∧ DAt N g n d3 w wx)) (fun sv _ _ _ _ => n - (intOf sv).toNat)
      case atStart => exact ⟨20, d2, by omega, rfl, Lib.hid ⟨HS.out, HP.out, HK.out⟩⟩
      case round =>
        obtain ⟨bs, d3, ⟨hbs, hbs2⟩, rfl, HJ3⟩ := hrel
        by_cases hbn : bs < n
        · have g1 : decide ((bs : Int) < (n : Int)) = true := decide_eq_true (by omega)
          have g1' : decide (bs < n) = true := decide_eq_true hbn
          obtain ⟨dd, hdd⟩ : ∃ dd, dd = 2 * bs := ⟨_, rfl⟩
          have w2 : IntKind.i64.wrap (2 * (bs : Int)) = (dd : Int) := by rw [hdd, IntWalk.i64_in _ ⟨by omega, by omega⟩]; omega
          have w2b : IntKind.i64.wrap ((bs : Int) * 2) = (dd : Int) := by rw [hdd, IntWalk.i64_in _ ⟨by omega, by omega⟩]; omega
          have hd2 : bs + bs ≤ dd ∧ dd ≤ bs + bs := by omega
          have HDD := Lib.hid hdd
          clear hdd
          go_wp2_with fail
          go_loopw [7, 8] (fun av bv wx => ∃ (a : Nat) (d4 : Nat → Nat), (a % dd = 0 ∧ a ≤ n) ∧ av = .int .i64 a ∧ bv = .int .i64 ((a + dd : Nat) : Int) ∧ Hid (Sb o d4 (2 * bs) 0 a n ∧ Sb o d4 bs a n n ∧ Pin 0 n id d4 ∧ DAt N g n d4 w wx)) (fun av _ _ => n - (intOf av).toNat)
          case atStart => exact ⟨0, d3, ⟨Nat.zero_mod _, Nat.zero_le _⟩, rfl, by rw [Nat.zero_add], Lib.hid ⟨fun x _ h1 h2 => by omega, HJ3.out.1, HJ3.out.2.1, HJ3.out.2.2⟩⟩
          case round =>
            obtain ⟨a, d4, ⟨ha, ha2⟩, rfl, rfl, HJ4⟩ := hrel
            obtain ⟨b, hb⟩ : ∃ b, b = a + dd := ⟨_, rfl⟩
            rw [← hb]
            have hbb : a + dd ≤ b ∧ b ≤ a + dd := by omega
            have HB4 := Lib.hid hb
            clear hb
            obtain ⟨m, hm⟩ : ∃ m, m = a + bs := ⟨_, rfl⟩
            have wm : IntKind.i64.wrap ((a : Int) + (bs : Int)) = (m : Int) := by rw [hm, IntWalk.i64_in _ ⟨by omega, by omega⟩]; omega
            have hmm : a + bs ≤ m ∧ m ≤ a + bs := by omega
            have HM4 := Lib.hid hm
            clear hm
            have ha3 : a % (2 * bs) = 0 := by rw [← HDD.out]; exact ha
            have HA3 := Lib.hid ha3
            clear ha3
            by_cases hbn2 : b ≤ n
            · have g2 : decide ((b : Int) ≤ (n : Int)) = true := decide_eq_true (by omega)
              have g2' : decide (b ≤ n) = true := decide_eq_true hbn2
              obtain ⟨b2, hb3⟩ : ∃ b2, b2 = b + dd := ⟨_, rfl⟩
              have wb2 : IntKind.i64.wrap ((b : Int) + (dd : Int)) = (b2 : Int) := by rw [hb3, IntWalk.i64_in _ ⟨by omega, by omega⟩]; omega
              have HB2 := Lib.hid hb3
              clear hb3
              have hcr := Sb.crs hbs HJ4.out.2.1 HA3.out (by omega)
              rw [show min (a + 2 * bs) n = b by omega, ← HM4.out] at hcr
              have HX := Lib.hid (symMerge_any gk N g n c o (by omega) (b - a) a m b d4 wr (Nat.le_refl _) (by omega) (by omega) hbn2 hcr.1 hcr.2.1 hcr.2.2 HJ4.out.2.2.2.self (HC.out.kp HJ4.out.2.2.2.k))
              clear hcr
              go_wp2_with fail
              refine HX.out.mono ?_
              rintro e w5 ⟨rfl, d5, hk, hs, hp⟩
              have HS5 := Lib.hid (Sb.merge hbs HJ4.out.1 HJ4.out.2.1 HA3.out (by omega) (show b = min (a + 2 * bs) n by omega) hs hp)
              have HP5 := Lib.hid (HJ4.out.2.2.1.trans (pin_bd hp hbn2))
              have HK5 := Lib.hid (HJ4.out.2.2.2.trans hk)
              clear hk hs hp
              go_wp2_with fail
              go_roundw
              case rel =>
                refine ⟨b, d5, ⟨by rw [HB4.out, Nat.add_mod_right]; exact ha, hbn2⟩, rfl, by rw [HB2.out], Lib.hid ⟨?_, ?_, HP5.out, HK5.out⟩⟩
                · have h := HS5.out.1; rw [show a + 2 * bs = b by omega] at h; exact h
                · have h := HS5.out.2; rw [show a + 2 * bs = b by omega] at h; exact h
              case measure => simp [intOf] <;> omega
            · have g2 : decide ((b : Int) ≤ (n : Int)) = false := decide_eq_false (by omega)
              have g2' : decide (b ≤ n) = false := decide_eq_false hbn2
              by_cases hmn : m < n
              · have g3 : decide ((m : Int) < (n : Int)) = true := decide_eq_true (by omega)
                have g3' : decide (m < n) = true := decide_eq_true hmn
                have hcr := Sb.crs hbs HJ4.out.2.1 HA3.out (by omega)
                rw [show min (a + 2 * bs) n = n by omega, ← HM4.out] at hcr
                have HX := Lib.hid (symMerge_any gk N g n c o (by omega) (n - a) a m n d4 wr (Nat.le_refl _) (by omega) hmn (Nat.le_refl _) hcr.1 hcr.2.1 hcr.2.2 HJ4.out.2.2.2.self (HC.out.kp HJ4.out.2.2.2.k))
                clear hcr
                go_wp2_with fail
                refine HX.out.mono ?_
                rintro e w5 ⟨rfl, d5, hk, hs, hp⟩
                have HS5 := Lib.hid (Sb.merge hbs HJ4.out.1 HJ4.out.2.1 HA3.out (by omega) (show n = min (a + 2 * bs) n by omega) hs hp)
                have HP5 := Lib.hid (HJ4.out.2.2.1.trans (pin_bd hp (Nat.le_refl _)))
                have HK5 := Lib.hid (HJ4.out.2.2.2.trans hk)
                clear hk hs hp
                go_wp2_with fail
                go_roundw
                case rel =>
                  refine ⟨dd, d5, by omega, rfl, Lib.hid ⟨fun x h1 h2 h3 => ?_, HP5.out, HK5.out⟩⟩
                  have h := HS5.out.1 x (by rw [← HDD.out]; exact h1) h2 (by omega)
                  rw [← HDD.out] at h; exact h
                case measure => simp [intOf] <;> omega
              · have g3 : decide ((m : Int) < (n : Int)) = false := decide_eq_false (by omega)
                have g3' : decide (m < n) = false := decide_eq_false hmn
                have HS5 := Lib.hid (Sb.rest HJ4.out.1 HJ4.out.2.1 HA3.out (by omega))
                go_wp2_with fail
                go_roundw
                case rel =>
                  refine ⟨dd, d4, by omega, rfl, Lib.hid ⟨?_, HJ4.out.2.2.1, HJ4.out.2.2.2⟩⟩
                  have h := HS5.out
                  rw [← HDD.out] at h; exact h
                case measure => simp [intOf] <;> omega
        · have g1 : decide ((bs : Int) < (n : Int)) = false := decide_eq_false (by omega)
          have g1' : decide (bs < n) = false := decide_eq_false hbn
          go_wp2_with fail
          go_end0
          exact ⟨rfl, d3, HJ3.out.2.2, Sb.done HJ3.out.1 (by omega), HJ3.out.2.1⟩
end Go.Proofs.Ytbopeofglhkffaa
namespace Go.Proofs.Ytbopeofglhkffaa
open Go.RowKit
attribute [local go_sem] block_of_add
theorem el_intz : El Try.prog 36 3 (.int .i64 0) 1 8 := ⟨Try.underlying36, by kernel_rfl, rfl, by decide⟩
theorem make_ints (n : Nat) (hn : n ≤ 1000000) (w : World) : (Instr.makeSlice 36 (.int .i64 (n : Int)) (.int .i64 (n : Int))).run Try.prog w = .ok (.slice (some ⟨w.heap.size, 0, none⟩) n n) (w.alloc (.cells (dCells (fun _ => 0) n).toArray 3)) := by
  obtain ⟨i, hi, hz, hs, hb⟩ := info_parts el_intz.info
  have h := run_makeSlice (P := Try.prog) (w := w) 36 3 i (.int .i64 0) el_intz.ht hi hz .i64 .i64 (n : Int) (n : Int) (by omega) (by omega) (by rw [hs]; omega) (by rw [hb]; omega) (by omega)
  have hm : madeCells (Value.int .i64 0).cells (n * 1) = (dCells (fun _ => 0) n).toArray := by
    apply Array.toList_inj.1
    show (madeCells #[.int .i64 0] (n * 1)).toList = _
    rw [Nat.mul_one, toList_madeCells_one]
    apply List.ext_getElem?
    intro x
    simp [dCells, List.getElem?_replicate, List.getElem?_map, List.getElem?_range]
    by_cases hx : x < n
    · simp [hx]
    · simp [hx]
  rw [h, hs, Int.toNat_natCast, hm]
set_option maxRecDepth 100000 in
set_option maxHeartbeats 800000 in
theorem sortStable_any (gk N g n c : Nat) (o : Nat → Int) (w : World) (hn : n ≤ 400000) (hd : DAt N g n id w w) (hc : CmpOk gk g N o w) :
    Calls Try.prog 84 #[.slice (some ⟨g, 0, none⟩) n c, (.func (.func 85) #[] #[.pointer (some ⟨gk, 0, none⟩)])] w fun e w' => e = .returned (.tuple #[]) ∧ ∃ d', DAt N g n d' w w' ∧ Srt o d' 0 n ∧ Pin 0 n id d' := by
  have HX := Lib.hid (stable_any gk N g n c o w hn hd hc)
  clear hd hc
  go_enter Try.func84, Try.ntmps84
  go_wp2_with fail
  refine HX.out.mono ?_
  rintro e w3 ⟨rfl, d5, hk, hs, hp⟩
  have HK := Lib.hid (And.intro hk (And.intro hs hp))
  clear hk hs hp
  go_wp2_with fail
  go_end0
  exact ⟨rfl, d5, HK.out⟩
def idU (i : Nat) : Nat → Nat := fun x => if x < i then x else 0
theorem idU_set (n i : Nat) (h : i < n) : (dCells (idU i) n).toArray.setIfInBounds i (.int .i64 (i : Nat)) = (dCells (idU (i + 1)) n).toArray := by
  apply Array.ext_getElem?
  intro x
  simp only [Array.getElem?_setIfInBounds, List.size_toArray, dCells_len, List.getElem?_toArray]
  by_cases hx : x < n
  · have hr : (dCells (idU (i + 1)) n)[x]? = some (.int .i64 (idU (i + 1) x : Nat)) := by simp [dCells, hx]
    have hl : (dCells (idU i) n)[x]? = some (.int .i64 (idU i x : Nat)) := by simp [dCells, hx]
    rw [hr, hl]
    unfold idU
    by_cases e : i = x
    · subst e; simp [h]
    · have : (x < i + 1) = (x < i) := by apply propext; omega
      simp [e, this]
  · have hr : (dCells (idU (i + 1)) n)[x]? = none := List.getElem?_eq_none (by rw [dCells_len]; omega)
    have hl : (dCells (idU i) n)[x]? = none := List.getElem?_eq_none (by rw [dCells_len]; omega)
    have e : ¬ i = x := by omega
    rw [hr, hl]; simp [e]
theorem dCells_congr {d d' : Nat → Nat} {n : Nat} (h : ∀ x, x < n → d x = d' x) : dCells d n = dCells d' n := List.map_congr_left fun x hx => by rw [h x (List.mem_range.1 hx)]
def natCells (l : List Nat) : List Value := l.map fun x : Nat => Value.int .i64 (x : Int)
theorem dCells_nat (d : Nat → Nat) (n : Nat) : dCells d n = natCells ((List.range n).map d) := by unfold dCells natCells; rw [List.map_map]; rfl
set_option maxRecDepth 100000 in
set_option maxHeartbeats 2000000 in
theorem order_any (l : List Sty) (A : Option Addr) (c : Nat) (w : World) (hn : l.length ≤ 400000) (hr : Reads w w.heap.size 43 A l.length (stysCells l)) :
    Calls Try.prog 56 #[.slice A l.length c] w fun e w' => e = .returned (.slice (some ⟨w.heap.size + 1, 0, none⟩) l.length l.length) ∧ Blk w' (w.heap.size + 1) 3 (natCells (orderF (ordF l) l.length)).toArray ∧ Below w.heap.size w w' := by
  have HR := Lib.hid hr
  clear hr
  obtain ⟨n, hne⟩ : ∃ n, n = l.length := ⟨_, rfl⟩
  rw [← hne] at hn HR ⊢
  have HN := Lib.hid hne
  clear hne
  have hmk := fun W => make_ints n (by omega) W
  go_enter Try.func56, Try.ntmps56
  go_wp2_with fail
  go_loopw [4, 10] (fun v4 kv wr => ∃ k : Nat, k ≤ n ∧ kv = .int .i64 k ∧ Hid (Blk wr w.heap.size 64 #[.slice A n c] ∧ Blk wr (w.heap.size + 1) 3 (dCells (idU k) n).toArray ∧ Below w.heap.size w wr)) (fun _ kv _ => n - (intOf kv).toNat)
  case atStart =>
    refine ⟨0, by omega, rfl, Lib.hid ⟨(Blk.new _ _ _).alloc _, ?_, bal (bal (Below.refl _ _) _) _⟩⟩
    have e : dCells (idU 0) n = dCells (fun _ => 0) n := dCells_congr fun x _ => if_neg (by omega)
    rw [e]; exact Blk.at_ _ _ _ (by simp)
  case round =>
    obtain ⟨k, hk, rfl, HK⟩ := hrel
    by_cases hlt : k < n
    · have g0 : decide ((k : Int) < (n : Int)) = true := decide_eq_true (by omega)
      have g0' : decide (k < n) = true := decide_eq_true hlt
      have hki : (k : Int) < (n : Int) := by omega
      have wk : IntKind.i64.wrap ((k : Int) + 1) = (k : Int) + 1 := IntWalk.i64_in _ ⟨by omega, by omega⟩
      have c1 := HK.out.2.1.get k (dCells_at (idU k) hlt)
      have f1 := HK.out.2.1.frozen k
      have hg := HK.out.2.1.lt
      go_wp2_with fail
      go_roundw
      case rel =>
        refine ⟨k + 1, by omega, by go_num, Lib.hid ⟨HK.out.1.far (by show w.heap.size ≠ w.heap.size + 1; omega) _, ?_, HK.out.2.2.setCell (p := ⟨w.heap.size + 1, k, none⟩) (by show w.heap.size ≤ w.heap.size + 1; omega) _⟩⟩
        rw [← idU_set n k hlt]; exact HK.out.2.1.set_ k _
      case measure => simp [intOf] <;> omega
    · have g0 : decide ((k : Int) < (n : Int)) = false := decide_eq_false (by omega)
      have g0' : decide (k < n) = false := decide_eq_false hlt
      have hkn : k = n := by omega
      rw [hkn] at HK
      clear hkn hlt
      have HD : Hid (DAt n (w.heap.size + 1) n id wr wr) := Lib.hid ⟨by
        have e : dCells id n = dCells (idU n) n := dCells_congr fun x hx => (if_pos hx).symm
        rw [e]; exact HK.out.2.1, Kp.refl _ _, fun p hp => hp⟩
      have HC : Hid (CmpOk w.heap.size (w.heap.size + 1) n (ordF l) wr) := Lib.hid ⟨fun W x y hW hx hy => by
        have hs := HK.out.2.2.size
        have hlt := HK.out.2.1.lt
        have hc1 : W.cell? ⟨w.heap.size, 0, none⟩ = some (.slice A n c) := ((HK.out.1.kp hW (by omega)).cell 0)
        have hrd : Reads W w.heap.size 43 A l.length (stysCells l) := by rw [← HN.out]; exact (HR.out.below HK.out.2.2).kp hW hs (fun k h => by omega)
        rw [HN.out] at hc1 hx hy
        exact cmpk_any w.heap.size c w.heap.size A l x y W hx hy (by rw [← HN.out]; omega) ⟨hc1, hrd⟩⟩
      have HX := Lib.hid (sortStable_any w.heap.size n (w.heap.size + 1) n n (ordF l) wr hn HD.out HC.out)
      go_wp2_with fail
      refine HX.out.mono ?_
      rintro e w5 ⟨rfl, d5, hk5, hs5, hp5⟩
      have HF : Hid (Blk w5 (w.heap.size + 1) 3 (natCells (orderF (ordF l) n)).toArray ∧ Below w.heap.size w w5) := Lib.hid ⟨by
        rw [← order_eq hs5 hp5, ← dCells_nat]; exact hk5.b, HK.out.2.2.trans (hk5.k.below (fun k h => by omega) HK.out.2.2.size)⟩
      clear hk5 hs5 hp5
      go_wp2_with fail
      go_ret
      exact ⟨rfl, HF.out⟩
end Go.Proofs.Ytbopeofglhkffaa
