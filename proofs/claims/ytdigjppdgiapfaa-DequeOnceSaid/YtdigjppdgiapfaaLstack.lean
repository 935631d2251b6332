/- DequeStack walked. -/
import Derived.Test.YtdigjppdgiapfaaDlw
import Derived.Test.YtdigjppdgiapfaaDqs
set_option linter.unusedSimpArgs false
set_option linter.unusedVariables false
namespace Go.Proofs.Ytdigjppdgiapfaa
open Go.RowKit
attribute [local go_sem] block_of_add fn_some fn_nil fn_somen fn_niln
attribute [local go_sem ↓] Go.wp_at_zero Go.wp_at_succ

def bools (l : List Bool) : List Value := l.map Value.bool
theorem bools_at {l : List Bool} {k : Nat} {u : Value} (h : k < l.length) (hu : (bools l)[k]? = some u) : u = .bool l[k] := by
  simp [bools, List.getElem?_map, List.getElem?_eq_getElem h] at hu; exact hu.symm
theorem own_cut {w : World} {base g n c : Nat} {e : TypeId} {l : List Int} (h : w.ownsRow base e 1 (.slice (some ⟨g, 0, none⟩) n c) n (ints l)) (hl : n = l.length) : w.ownsRow base e 1 (.slice (some ⟨g, 0, none⟩) (n - 1) c) (n - 1) (ints l.dropLast) := by
  obtain ⟨h1, h2⟩ := h
  rcases h2 with ⟨h2, _⟩ | ⟨g', cap, cur, hv, hb, hh, hc, hm, hs, ht⟩
  · cases h2
  · injection hv with e1 e2 e3
    injection e1 with e1
    injection e1 with e1
    subst e1 e3
    refine ⟨by simp [ints]; omega, .inr ⟨g, c, cur, rfl, hb, hh, by omega, hm, hs, ?_⟩⟩
    rw [Nat.mul_one] at ht ⊢
    rw [List.dropLast_eq_take, ints, List.map_take, show l.map (Value.int .i64) = ints l from rfl, ← ht, List.take_take, ← hl, Nat.min_eq_left (by omega)]
theorem endop_of {go gd gc : Nat} {d : Dq} {own : Value} {o : Dop} {w : World} (hd : DqAt w gd gc d own) (ho : OpAt w go gd o) {d' : Dq} {r : Nat × Int} (h : Ends d o d' r) :
    Calls Try.prog 22 #[.pointer (some ⟨go, 0, none⟩)] w fun e w' => e = .returned (.tuple #[.int .u8 r.1, .int .i64 r.2]) ∧ DqAt w' gd gc d' own ∧ (∃ o, OpAt w' go gd o ∧ o.pc = 0) ∧ Kp (fun k => k = gc ∨ k = go) w w' :=
  (endop_any go gd gc d own o w hd ho h.can).mono fun e w' ⟨h1, h2, h3, h4⟩ => ⟨by rw [h1, h.tt], by rw [← h.dd]; exact h2, ⟨_, h3, h.pp⟩, h4⟩
/-- The deque's tasks against the law's own list. -/
theorem St.task {d : Dq} {l : List Int} {n c : Nat} (h : St d l n c) (hn : n ≤ 100) (hc : c ≤ 2000) {gd gc : Nat} {own : Value} {w : World} (hd : DqAt w gd gc d own) :
    Calls Try.prog 20 #[.pointer (some ⟨gd, 0, none⟩)] w fun e w' => ∃ A c, e = .returned (.slice A l.length c) ∧ Reads w' w'.heap.size 1 A l.length (ints l) ∧ Below w.heap.size w w' := by
  have ht := h.tk
  have h1 := h.sn
  have h2 := h.pos
  have h3 := h.t0
  have h4 := h.tb
  have h5 := h.bc
  refine (tasks_any gd gc d own w hd (by omega) (by omega) h3 (by omega) (by omega)).mono ?_
  rintro e w' ⟨A, c, he, ho, hb⟩
  rw [ht] at he ho
  exact ⟨A, c, he, Reads.of_own ho, hb⟩
theorem own_none {w : World} {base : Nat} {e : TypeId} {v : Value} {xs : List Value} (h : w.ownsRow base e 1 v 0 xs) : v = .slice none 0 0 ∨ ∃ g c, v = .slice (some ⟨g, 0, none⟩) 0 c := by
  rcases h.2 with ⟨h, _⟩ | ⟨g, cap, cur, h, _⟩
  · exact .inl h
  · exact .inr ⟨g, cap, h⟩
theorem same_len (a b : List Int) (A B : Option Addr) (c d na nb : Nat) (w : World) (ea : a.length = na) (eb : b.length = nb) (hn : na ≤ 4294967296) (hm : nb ≤ 4294967296) (ha : Reads w w.heap.size 1 A na (ints a)) (hb : Reads w w.heap.size 1 B nb (ints b)) :
    Calls Try.prog 19 #[.slice A na c, .slice B nb d] w fun e w' => e = .returned (.bool (decide (a = b))) ∧ ∃ n, w' = w.drewN n := by
  subst ea eb
  exact same_any a b A B c d w hn hm ha hb
theorem Idle.kp {w w' : World} {gd : Nat} {own : Value} (h : Idle w gd own) (hk : Kp (fun _ => False) w w') : Idle w' gd own := by
  rcases h with h | ⟨go, o, h1, h2, h3⟩
  · exact .inl h
  · exact .inr ⟨go, o, h1, Blk.kp h2 hk id, h3⟩
theorem Idle.kp2 {w w' : World} {gd go : Nat} {bad : Nat → Prop} (h : Idle w gd (.pointer (some ⟨go, 0, none⟩))) (hk : Kp bad w w') (hn : ¬ bad go) : Idle w' gd (.pointer (some ⟨go, 0, none⟩)) := by
  rcases h with h | ⟨g2, o, h1, h2, h3⟩
  · cases h
  · injection h1 with h1
    injection h1 with h1
    injection h1 with h1
    subst h1
    exact .inr ⟨go, o, rfl, Blk.kp h2 hk hn, h3⟩
set_option maxRecDepth 100000 in
set_option maxHeartbeats 4000000 in
theorem dequeStack_any (room : Int) (l : List Bool) (A : Option Addr) (c : Nat) (w : World) (hr : 0 ≤ room ∧ room < 256) (hrl : Reads w w.heap.size 1 A l.length (bools l)) :
    Calls Try.prog 5 #[.int .u8 room, .slice A l.length c] w fun e w' => e = .returned (.bool true) ∧ Below w.heap.size w w' := by
  suffices h : Calls Try.prog 5 #[.int .u8 room, .slice A l.length c] w fun e w' => e = .returned (.bool true) ∧ Kp (fun _ => False) w w' from
    h.mono fun e w' ⟨h1, h2⟩ => ⟨h1, h2.below (fun k h => h.elim) (Nat.le_refl _)⟩
  have HL := Lib.hid hrl
  have HW := Lib.hid fun W => works_any W
  clear hrl
  by_cases hbig : 1000 < l.length
  · have d1 : decide ((1000 : Int) < (l.length : Int)) = true := decide_eq_true (by omega)
    go_enter Try.func5, Try.ntmps5
    go_wp2_with fail
    refine (HW.out _).mono ?_
    rintro e w1 ⟨rfl, hk⟩
    have HK := Lib.hid hk
    clear hk
    go_wp2_with fail
    go_ret
    exact ⟨rfl, HK.out⟩
  · have d1 : decide ((1000 : Int) < (l.length : Int)) = false := decide_eq_false (by omega)
    have hl2 : l.length ≤ 1000 := by omega
    obtain ⟨n, hn⟩ : ∃ n : Nat, 1 + room % 20 = (n : Int) := ⟨(1 + room % 20).toNat, by omega⟩
    have hn1 : 1 ≤ n := by omega
    have hn2 : n ≤ 20 := by omega
    have r0 := hr.1
    have hm1 : Int.tmod room 20 = (n : Int) - 1 := by rw [Int.tmod_eq_emod_of_nonneg r0]; omega
    have hm2 : room % 20 = (n : Int) - 1 := by omega
    have hm3 : 1 + ((n : Int) - 1) = (n : Int) := by omega
    have hwr : IntKind.i64.wrap (n : Int) = (n : Int) := IntWalk.i64_in _ ⟨by omega, by omega⟩
    have hwr2 : IntKind.i64.wrap ((n : Int) - 1) = (n : Int) - 1 := IntWalk.i64_in _ ⟨by omega, by omega⟩
    have hwr3 : IntKind.i64.wrap room = room := IntWalk.i64_in _ ⟨by omega, by omega⟩
    have HN := Lib.hid fun W => new_var n hn1 (by omega) W
    clear hn hbig
    go_enter Try.func5, Try.ntmps5
    go_wp2_with fail
    refine (HN.out _).mono ?_
    rintro e w1 ⟨gd, gc, rfl, hgd, hgc, hd, hk⟩
    have HD := Lib.hid hd
    have HK := Lib.hid hk
    clear hd hk HN hm1 hm2 hm3 hwr hwr2 hwr3 hr r0
    go_wp2_with fail
    go_loopw [8, 9] (fun o i wr => ∃ (s : List Int) (k : Nat) (d : Dq) (own : Value), k ≤ l.length ∧ i = .int .i64 k ∧ DqAt wr gd gc d own ∧ Idle wr gd own ∧ Hid (St d s n k) ∧ wr.ownsRow w.heap.size 3 1 o s.length (ints s) ∧ Kp (fun _ => False) w wr) (fun _ i _ => l.length - (intOf i).toNat)
    case atStart => exact ⟨[], 0, _, _, by omega, rfl, HD.out, .inl rfl, Lib.hid (St.new n hn1), World.ownsRow_nil _ _ _ _, HK.out⟩
    case round =>
      obtain ⟨s, k, d, own, hk, rfl, hd, hi, HSt, hown, hkk⟩ := hrel
      by_cases hlt : k < l.length
      · have hB : Below w.heap.size w wr := hkk.below (fun k h => h.elim) (Nat.le_refl _)
        obtain ⟨ad, u, rfl, hab, hu, hcu⟩ := HL.out.at_ hlt
        obtain rfl := bools_at hlt hu
        have hcw : wr.cell? (ad.add k) = some (.bool l[k]) := (hB.cell (by rw [block_of_add]; exact hab)).trans hcu
        obtain ⟨b, hb⟩ : ∃ b, b = l[k] := ⟨_, rfl⟩
        rw [← hb] at hcw
        rw [← hb] at hcu
        have HCU := Lib.hid hcu
        have hkl : (k : Int) < (l.length : Int) := by omega
        have hd1 : decide ((k : Int) < (l.length : Int)) = true := decide_eq_true hkl
        have hpos : 0 < d.sl.length := by have h1 := HSt.out.sn; have h2 := HSt.out.pos; omega
        have HOWN := Lib.hid hown
        have hn1' := own_blk_ne hown hd.hdr (by decide)
        have hn2' := own_blk_ne hown hd.cel (by decide)
        have HN1 := Lib.hid hn1'
        have HN2 := Lib.hid hn2'
        have HKK := Lib.hid hkk
        cases b
        · have HB := Lib.hid (begin_push gd gc d own wr hd hpos (k : Int) (by omega) hi)
          clear hd hi hown hkk hB hb hu hcu hn1' hn2'
          go_wp2_with fail
          refine HB.out.mono ?_
          intro e w2 hbe
          obtain ⟨go, rfl, hgo, hd, ho, hk2⟩ := Begun.var (own := fun g => .pointer (some ⟨g, 0, none⟩)) hbe
          have HD2 := Lib.hid hd
          have HO2 := Lib.hid ho
          have HOW2 := Lib.hid (own_kp HOWN.out hk2 (fun g hg e => HN1.out (by rw [hg, e])))
          have HN3 := Lib.hid (own_blk_ne HOW2.out HO2.out (by decide))
          have HK2 := Lib.hid (HKK.out.trans' hk2 (fun i h e => by omega))
          have HGO : Hid (w.heap.size ≤ go) := Lib.hid (Nat.le_trans HKK.out.size hgo)
          clear hd ho hk2 hbe HB HOWN HKK hgo
          by_cases hfull : s.length = n
          · obtain ⟨As, cs, hv⟩ := own_form HOW2.out
            subst hv
            have hq : ((s.length : Int) == (n : Int)) = true := by simp [hfull]
            have HE : Hid (Calls Try.prog 22 #[.pointer (some ⟨go, 0, none⟩)] w2 fun e w' => e = .returned (.tuple #[.int .u8 5, .int .i64 0]) ∧ DqAt w' gd gc d (.pointer (some ⟨go, 0, none⟩)) ∧ (∃ o, OpAt w' go gd o ∧ o.pc = 0) ∧ Kp (fun k => k = gc ∨ k = go) w2 w') := Lib.hid (endop_of HD2.out HO2.out (full_ends HSt.out (by omega) (by omega) (k : Int) hfull))
            go_wp2_with fail
            refine HE.out.mono ?_
            rintro e w3 ⟨rfl, hd, ⟨o3, ho, hp3⟩, hk3⟩
            have HD3 := Lib.hid hd
            have HI3 : Hid (Idle w3 gd (.pointer (some ⟨go, 0, none⟩))) := Lib.hid (.inr ⟨go, o3, rfl, ho, hp3⟩)
            have hw3 := own_kp HOW2.out hk3 (fun g hg e => by
              rcases e with e | e
              · exact HN2.out (by rw [hg, e])
              · exact HN3.out (by rw [hg, e]))
            have HK3 := Lib.hid (HK2.out.trans' hk3 (fun i h e => by have := HGO.out; omega))
            have hc3 := (HK3.out.cell (p := ad.add k) (by rw [block_of_add]; exact hab) id).trans HCU.out
            clear hd ho hp3 hk3 HE
            rw [hfull] at hw3
            have HOW3 := Lib.hid hw3
            have HST := Lib.hid HSt.out.more
            have HLEN := Lib.hid hfull
            clear hw3 HSt HOW2 hfull
            go_wp2_with fail
            have HTk := Lib.hid (HST.out.task (by omega) (by omega) HD3.out)
            go_wp2_with fail
            refine HTk.out.mono ?_
            rintro e w4 ⟨At, ct, rfl, hrt, hbt⟩
            have hown4 := own_below HOW3.out hbt
            have HSm := Lib.hid (same_len s s At As ct cs _ n w4 rfl HLEN.out (by have := HST.out.ln; omega) (by have := HST.out.ln; have := HLEN.out; omega) hrt (Reads.of_own hown4))
            have htru : Hid (decide (s = s) = true) := Lib.hid (decide_eq_true rfl)
            have HO4 := Lib.hid hown4
            have HD4 := Lib.hid (HD3.out.kp (Kp.of_below hbt (fun _ => False)) id id)
            have HI4 := Lib.hid (Idle.kp HI3.out (Kp.of_below hbt (fun _ => False)))
            have HK4 := Lib.hid (HK3.out.trans (Kp.of_below hbt _))
            clear hrt hbt hown4 HTk
            go_wp2_with fail
            refine HSm.out.mono ?_
            rintro e w5 ⟨rfl, nn, rfl⟩
            rw [htru.out]
            clear HSm
            go_wp2_with fail
            go_roundw
            case rel => exact ⟨s, k + 1, _, _, by omega, by go_num, HD4.out.kp ((Kp.refl (fun _ => False) w4).drewN _) id id, Idle.kp HI4.out ((Kp.refl (fun _ => False) w4).drewN _), HST, by rw [HLEN.out]; exact own_kp HO4.out ((Kp.refl (fun _ => False) w4).drewN _) (fun _ _ => id), HK4.out.drewN _⟩
            case measure => simp [intOf]; omega
          · have hq : ((s.length : Int) == (n : Int)) = false := by simpa using (show ¬ (s.length : Int) = (n : Int) by omega)
            have hq2 : ¬ s.length = n := hfull
            obtain ⟨As, cs, hv⟩ := own_form HOW2.out
            subst hv
            have hsn : s.length < n := by have := HSt.out.ln; omega
            have HE : Hid (Calls Try.prog 22 #[.pointer (some ⟨go, 0, none⟩)] w2 fun e w' => e = .returned (.tuple #[.int .u8 1, .int .i64 0]) ∧ DqAt w' gd gc ⟨d.top, d.bot + 1, (d.put d.bot (k : Int)).sl⟩ (.pointer (some ⟨go, 0, none⟩)) ∧ (∃ o, OpAt w' go gd o ∧ o.pc = 0) ∧ Kp (fun k => k = gc ∨ k = go) w2 w') := Lib.hid (endop_of HD2.out HO2.out (push_ends HSt.out (by omega) (by omega) (k : Int) hsn))
            go_wp2_with fail
            refine HE.out.mono ?_
            rintro e w3 ⟨rfl, hd, ⟨o3, ho, hp3⟩, hk3⟩
            have HD3 := Lib.hid hd
            have HI3 : Hid (Idle w3 gd (.pointer (some ⟨go, 0, none⟩))) := Lib.hid (.inr ⟨go, o3, rfl, ho, hp3⟩)
            have hw3 := own_kp HOW2.out hk3 (fun g hg e => by
              rcases e with e | e
              · exact HN2.out (by rw [hg, e])
              · exact HN3.out (by rw [hg, e]))
            have HK3 := Lib.hid (HK2.out.trans' hk3 (fun i h e => by have := HGO.out; omega))
            have hc3 := (HK3.out.cell (p := ad.add k) (by rw [block_of_add]; exact hab) id).trans HCU.out
            clear hd ho hp3 hk3 HE
            have HW3 := Lib.hid hw3
            have hst := push_st HSt.out hsn (k : Int)
            obtain ⟨s', hs'⟩ : ∃ s', s ++ [(k : Int)] = s' := ⟨_, rfl⟩
            rw [hs'] at hst
            have HST := Lib.hid hst
            have HLEN : Hid (s'.length = s.length + 1) := Lib.hid (by rw [← hs']; simp)
            have HSS := Lib.hid hs'
            clear hst hs'
            have hsz := HK3.out.size
            have hs100 : s.length < 100 := by omega
            clear hw3 HSt HOW2 hfull hsn
            go_wp2_with (at_builtin; refine wpList_app rfl _ _ rfl el_int HW3.out hsz rfl [_] rfl (by simp) (by simp [Value.oneCell']) (by omega) (by omega) ?_; intro A' c' w30 hown' hBB hg _)
            have hkp : Kp (fun i => (Value.slice As s.length cs).ownBlock = some i) w3 w30 := (Kp.refl _ w3).grown hg (fun g e => .inl e)
            have HD30 := Lib.hid (HD3.out.kp hkp (own_blk_ne HW3.out HD3.out.hdr (by decide)) (own_blk_ne HW3.out HD3.out.cel (by decide)))
            have HI30 := Lib.hid (Idle.kp2 HI3.out hkp HN3.out)
            have HK30 := Lib.hid (HK3.out.trans' hkp (fun i h e => by have := (HW3.out.lt i e).1; omega))
            have HOW3 : Hid (w30.ownsRow w.heap.size 3 1 (.slice A' (s.length + 1) c') (s.length + 1) (ints s')) := Lib.hid (by rw [← HSS.out]; simpa [ints] using hown')
            clear HD3 HI3 HK3 hown' hBB hg hkp HW3
            have HD3 := HD30
            have HI3 := HI30
            have HK3 := HK30
            clear HD30 HI30 HK30
            have HTk := Lib.hid (HST.out.task (by omega) (by omega) HD3.out)
            refine HTk.out.mono ?_
            rintro e w4 ⟨At, ct, rfl, hrt, hbt⟩
            have hown4 := own_below HOW3.out hbt
            have HSm := Lib.hid (same_len s' s' At A' ct c' _ (s.length + 1) w4 rfl HLEN.out (by have := HST.out.ln; omega) (by have := HST.out.ln; have := HLEN.out; omega) hrt (Reads.of_own hown4))
            have htru : Hid (decide (s' = s') = true) := Lib.hid (decide_eq_true rfl)
            have HO4 := Lib.hid hown4
            have HD4 := Lib.hid (HD3.out.kp (Kp.of_below hbt (fun _ => False)) id id)
            have HI4 := Lib.hid (Idle.kp HI3.out (Kp.of_below hbt (fun _ => False)))
            have HK4 := Lib.hid (HK3.out.trans (Kp.of_below hbt _))
            clear hrt hbt hown4 HTk
            go_wp2_with fail
            refine HSm.out.mono ?_
            rintro e w5 ⟨rfl, nn, rfl⟩
            rw [htru.out]
            clear HSm
            go_wp2_with fail
            go_roundw
            case rel => exact ⟨s', k + 1, _, _, by omega, by go_num, HD4.out.kp ((Kp.refl (fun _ => False) w4).drewN _) id id, Idle.kp HI4.out ((Kp.refl (fun _ => False) w4).drewN _), HST, by rw [HLEN.out]; exact own_kp HO4.out ((Kp.refl (fun _ => False) w4).drewN _) (fun _ _ => id), HK4.out.drewN _⟩
            case measure => simp [intOf]; omega
        · have HB := Lib.hid (begin_pop gd gc d own wr hd hpos (k : Int) hi)
          clear hd hi hown hkk hB hb hu hcu hn1' hn2'
          go_wp2_with fail
          refine HB.out.mono ?_
          intro e w2 hbe
          obtain ⟨go, rfl, hgo, hd, ho, hk2⟩ := Begun.var (own := fun g => .pointer (some ⟨g, 0, none⟩)) hbe
          have HD2 := Lib.hid hd
          have HO2 := Lib.hid ho
          have HOW2 := Lib.hid (own_kp HOWN.out hk2 (fun g hg e => HN1.out (by rw [hg, e])))
          have HN3 := Lib.hid (own_blk_ne HOW2.out HO2.out (by decide))
          have HK2 := Lib.hid (HKK.out.trans' hk2 (fun i h e => by omega))
          have HGO : Hid (w.heap.size ≤ go) := Lib.hid (Nat.le_trans HKK.out.size hgo)
          clear hd ho hk2 hbe HB HOWN HKK hgo
          rcases pop_all HSt.out (by omega) (by omega) with ⟨rfl, hen⟩ | ⟨hlen, d', x, hen, hx, hst⟩
          · rcases own_none HOW2.out with hv | ⟨g, cg, hv⟩
            · subst hv
              have HE : Hid (Calls Try.prog 22 #[.pointer (some ⟨go, 0, none⟩)] w2 fun e w' => e = .returned (.tuple #[.int .u8 3, .int .i64 0]) ∧ DqAt w' gd gc d (.pointer (some ⟨go, 0, none⟩)) ∧ (∃ o, OpAt w' go gd o ∧ o.pc = 0) ∧ Kp (fun k => k = gc ∨ k = go) w2 w') := Lib.hid (endop_of HD2.out HO2.out hen)
              go_wp2_with fail
              refine HE.out.mono ?_
              rintro e w3 ⟨rfl, hd, ⟨o3, ho, hp3⟩, hk3⟩
              have HD3 := Lib.hid hd
              have HI3 : Hid (Idle w3 gd (.pointer (some ⟨go, 0, none⟩))) := Lib.hid (.inr ⟨go, o3, rfl, ho, hp3⟩)
              have hw3 := own_kp HOW2.out hk3 (fun g hg e => by
                rcases e with e | e
                · exact HN2.out (by rw [hg, e])
                · exact HN3.out (by rw [hg, e]))
              have HK3 := Lib.hid (HK2.out.trans' hk3 (fun i h e => by have := HGO.out; omega))
              have hc3 := (HK3.out.cell (p := ad.add k) (by rw [block_of_add]; exact hab) id).trans HCU.out
              clear hd ho hp3 hk3 HE
              have HOW3 := Lib.hid hw3
              have HST := Lib.hid HSt.out.more
              have HLEN : Hid (([] : List Int).length = 0) := Lib.hid rfl
              clear hw3 HSt HOW2
              go_wp2_with fail
              have HTk := Lib.hid (HST.out.task (by omega) (by omega) HD3.out)
              go_wp2_with fail
              refine HTk.out.mono ?_
              rintro e w4 ⟨At, ct, rfl, hrt, hbt⟩
              have hown4 := own_below HOW3.out hbt
              have HSm := Lib.hid (same_len ([] : List Int) ([] : List Int) At none ct 0 _ 0 w4 rfl HLEN.out (by have := HST.out.ln; omega) (by have := HST.out.ln; have := HLEN.out; omega) hrt (Reads.of_own hown4))
              have htru : Hid (decide (([] : List Int) = ([] : List Int)) = true) := Lib.hid (decide_eq_true rfl)
              have HO4 := Lib.hid hown4
              have HD4 := Lib.hid (HD3.out.kp (Kp.of_below hbt (fun _ => False)) id id)
              have HI4 := Lib.hid (Idle.kp HI3.out (Kp.of_below hbt (fun _ => False)))
              have HK4 := Lib.hid (HK3.out.trans (Kp.of_below hbt _))
              clear hrt hbt hown4 HTk
              go_wp2_with fail
              refine HSm.out.mono ?_
              rintro e w5 ⟨rfl, nn, rfl⟩
              rw [htru.out]
              clear HSm
              go_wp2_with fail
              go_roundw
              case rel => exact ⟨([] : List Int), k + 1, _, _, by omega, by go_num, HD4.out.kp ((Kp.refl (fun _ => False) w4).drewN _) id id, Idle.kp HI4.out ((Kp.refl (fun _ => False) w4).drewN _), HST, by rw [HLEN.out]; exact own_kp HO4.out ((Kp.refl (fun _ => False) w4).drewN _) (fun _ _ => id), HK4.out.drewN _⟩
              case measure => simp [intOf]; omega
            · subst hv
              have HE : Hid (Calls Try.prog 22 #[.pointer (some ⟨go, 0, none⟩)] w2 fun e w' => e = .returned (.tuple #[.int .u8 3, .int .i64 0]) ∧ DqAt w' gd gc d (.pointer (some ⟨go, 0, none⟩)) ∧ (∃ o, OpAt w' go gd o ∧ o.pc = 0) ∧ Kp (fun k => k = gc ∨ k = go) w2 w') := Lib.hid (endop_of HD2.out HO2.out hen)
              go_wp2_with fail
              refine HE.out.mono ?_
              rintro e w3 ⟨rfl, hd, ⟨o3, ho, hp3⟩, hk3⟩
              have HD3 := Lib.hid hd
              have HI3 : Hid (Idle w3 gd (.pointer (some ⟨go, 0, none⟩))) := Lib.hid (.inr ⟨go, o3, rfl, ho, hp3⟩)
              have hw3 := own_kp HOW2.out hk3 (fun g hg e => by
                rcases e with e | e
                · exact HN2.out (by rw [hg, e])
                · exact HN3.out (by rw [hg, e]))
              have HK3 := Lib.hid (HK2.out.trans' hk3 (fun i h e => by have := HGO.out; omega))
              have hc3 := (HK3.out.cell (p := ad.add k) (by rw [block_of_add]; exact hab) id).trans HCU.out
              clear hd ho hp3 hk3 HE
              have HOW3 := Lib.hid hw3
              have HST := Lib.hid HSt.out.more
              have HLEN : Hid (([] : List Int).length = 0) := Lib.hid rfl
              clear hw3 HSt HOW2
              go_wp2_with fail
              have HTk := Lib.hid (HST.out.task (by omega) (by omega) HD3.out)
              go_wp2_with fail
              refine HTk.out.mono ?_
              rintro e w4 ⟨At, ct, rfl, hrt, hbt⟩
              have hown4 := own_below HOW3.out hbt
              have HSm := Lib.hid (same_len ([] : List Int) ([] : List Int) At (some ⟨g, 0, none⟩) ct cg _ 0 w4 rfl HLEN.out (by have := HST.out.ln; omega) (by have := HST.out.ln; have := HLEN.out; omega) hrt (Reads.of_own hown4))
              have htru : Hid (decide (([] : List Int) = ([] : List Int)) = true) := Lib.hid (decide_eq_true rfl)
              have HO4 := Lib.hid hown4
              have HD4 := Lib.hid (HD3.out.kp (Kp.of_below hbt (fun _ => False)) id id)
              have HI4 := Lib.hid (Idle.kp HI3.out (Kp.of_below hbt (fun _ => False)))
              have HK4 := Lib.hid (HK3.out.trans (Kp.of_below hbt _))
              clear hrt hbt hown4 HTk
              go_wp2_with fail
              refine HSm.out.mono ?_
              rintro e w5 ⟨rfl, nn, rfl⟩
              rw [htru.out]
              clear HSm
              go_wp2_with fail
              go_roundw
              case rel => exact ⟨([] : List Int), k + 1, _, _, by omega, by go_num, HD4.out.kp ((Kp.refl (fun _ => False) w4).drewN _) id id, Idle.kp HI4.out ((Kp.refl (fun _ => False) w4).drewN _), HST, by rw [HLEN.out]; exact own_kp HO4.out ((Kp.refl (fun _ => False) w4).drewN _) (fun _ _ => id), HK4.out.drewN _⟩
              case measure => simp [intOf]; omega
          · obtain ⟨s', hs'⟩ : ∃ s', s' = s.dropLast := ⟨_, rfl⟩
            have hlen' : s.length = s'.length + 1 := by rw [hs', List.length_dropLast]; omega
            rw [← hs'] at hst
            have HS' := Lib.hid hs'
            have HLEN' := Lib.hid hlen'
            have HX := Lib.hid hx
            clear hs' hlen' hx
            obtain ⟨g, cap, hv, _, _⟩ := HOW2.out.form hlen
            subst hv
            have HE : Hid (Calls Try.prog 22 #[.pointer (some ⟨go, 0, none⟩)] w2 fun e w' => e = .returned (.tuple #[.int .u8 2, .int .i64 x]) ∧ DqAt w' gd gc d' (.pointer (some ⟨go, 0, none⟩)) ∧ (∃ o, OpAt w' go gd o ∧ o.pc = 0) ∧ Kp (fun k => k = gc ∨ k = go) w2 w') := Lib.hid (endop_of HD2.out HO2.out hen)
            go_wp2_with fail
            refine HE.out.mono ?_
            rintro e w3 ⟨rfl, hd, ⟨o3, ho, hp3⟩, hk3⟩
            have HD3 := Lib.hid hd
            have HI3 : Hid (Idle w3 gd (.pointer (some ⟨go, 0, none⟩))) := Lib.hid (.inr ⟨go, o3, rfl, ho, hp3⟩)
            have hw3 := own_kp HOW2.out hk3 (fun g hg e => by
              rcases e with e | e
              · exact HN2.out (by rw [hg, e])
              · exact HN3.out (by rw [hg, e]))
            have HK3 := Lib.hid (HK2.out.trans' hk3 (fun i h e => by have := HGO.out; omega))
            have hc3 := (HK3.out.cell (p := ad.add k) (by rw [block_of_add]; exact hab) id).trans HCU.out
            clear hd ho hp3 hk3 HE
            have hs' := HS'.out
            have hlen' := HLEN'.out
            have hx := HX.out
            have hln := HSt.out.ln
            have hcx : w3.cell? ⟨g, s'.length, none⟩ = some (.int .i64 x) := by
              rw [World.ownsRow.cellAt hw3 s'.length (by omega)]
              rw [hlen', Nat.add_sub_cancel] at hx
              simp [ints, hx]
            have hcp := own_cap hw3
            have hcut := own_cut hw3 rfl
            rw [← hs', hlen', Nat.add_sub_cancel] at hcut
            have HST := Lib.hid hst.more
            simp only [hlen']
            obtain ⟨m, hm⟩ : ∃ m, s'.length = m := ⟨_, rfl⟩
            have HLEN := Lib.hid hm
            rw [hlen'] at hcp hln
            rw [hm] at hcut hcx hcp hln
            simp only [hm]
            have HOW3 := Lib.hid hcut
            have hw1 : IntKind.i64.wrap ((m : Int) + 1 - 1) = (m : Int) := by rw [Int.add_sub_cancel]; exact IntWalk.i64_in _ ⟨by omega, by omega⟩
            have hw2 : IntKind.i64.wrap (m : Int) = (m : Int) := IntWalk.i64_in _ ⟨by omega, by omega⟩
            have hcap1 : m + 1 ≤ cap := by omega
            have hcap2 : m ≤ cap := by omega
            have hcap3 : (m : Int) ≤ (cap : Int) := by omega
            have hcap4 : ¬ cap = 0 := by omega
            have hsl : m < 100 := by omega
            clear hw3 HSt HOW2 hx hst hcut hlen hln hlen' hs' hen hm HS' HLEN' hcp
            rcases Nat.eq_zero_or_pos m with hmz | hmp
            · subst hmz
              go_wp2_with fail
              have HTk := Lib.hid (HST.out.task (by omega) (by omega) HD3.out)
              go_wp2_with fail
              refine HTk.out.mono ?_
              rintro e w4 ⟨At, ct, rfl, hrt, hbt⟩
              have hown4 := own_below HOW3.out hbt
              have HSm := Lib.hid (same_len s' s' At (some ⟨g, 0, none⟩) ct cap _ 0 w4 rfl HLEN.out (by have := HST.out.ln; omega) (by have := HST.out.ln; have := HLEN.out; omega) hrt (Reads.of_own hown4))
              have htru : Hid (decide (s' = s') = true) := Lib.hid (decide_eq_true rfl)
              have HO4 := Lib.hid hown4
              have HD4 := Lib.hid (HD3.out.kp (Kp.of_below hbt (fun _ => False)) id id)
              have HI4 := Lib.hid (Idle.kp HI3.out (Kp.of_below hbt (fun _ => False)))
              have HK4 := Lib.hid (HK3.out.trans (Kp.of_below hbt _))
              clear hrt hbt hown4 HTk
              go_wp2_with fail
              refine HSm.out.mono ?_
              rintro e w5 ⟨rfl, nn, rfl⟩
              rw [htru.out]
              clear HSm
              go_wp2_with fail
              go_roundw
              case rel => exact ⟨s', k + 1, _, _, by omega, by go_num, HD4.out.kp ((Kp.refl (fun _ => False) w4).drewN _) id id, Idle.kp HI4.out ((Kp.refl (fun _ => False) w4).drewN _), HST, by rw [HLEN.out]; exact own_kp HO4.out ((Kp.refl (fun _ => False) w4).drewN _) (fun _ _ => id), HK4.out.drewN _⟩
              case measure => simp [intOf]; omega
            · have hmp2 : (0 : Int) < (m : Int) := by omega
              go_wp2_with fail
              have HTk := Lib.hid (HST.out.task (by omega) (by omega) HD3.out)
              go_wp2_with fail
              refine HTk.out.mono ?_
              rintro e w4 ⟨At, ct, rfl, hrt, hbt⟩
              have hown4 := own_below HOW3.out hbt
              have HSm := Lib.hid (same_len s' s' At (some ⟨g, 0, none⟩) ct cap _ m w4 rfl HLEN.out (by have := HST.out.ln; omega) (by have := HST.out.ln; have := HLEN.out; omega) hrt (Reads.of_own hown4))
              have htru : Hid (decide (s' = s') = true) := Lib.hid (decide_eq_true rfl)
              have HO4 := Lib.hid hown4
              have HD4 := Lib.hid (HD3.out.kp (Kp.of_below hbt (fun _ => False)) id id)
              have HI4 := Lib.hid (Idle.kp HI3.out (Kp.of_below hbt (fun _ => False)))
              have HK4 := Lib.hid (HK3.out.trans (Kp.of_below hbt _))
              clear hrt hbt hown4 HTk
              go_wp2_with fail
              refine HSm.out.mono ?_
              rintro e w5 ⟨rfl, nn, rfl⟩
              rw [htru.out]
              clear HSm
              go_wp2_with fail
              go_roundw
              case rel => exact ⟨s', k + 1, _, _, by omega, by go_num, HD4.out.kp ((Kp.refl (fun _ => False) w4).drewN _) id id, Idle.kp HI4.out ((Kp.refl (fun _ => False) w4).drewN _), HST, by rw [HLEN.out]; exact own_kp HO4.out ((Kp.refl (fun _ => False) w4).drewN _) (fun _ _ => id), HK4.out.drewN _⟩
              case measure => simp [intOf]; omega
      · obtain rfl : k = l.length := by omega
        have hd1 : decide ((l.length : Int) < (l.length : Int)) = false := decide_eq_false (by omega)
        have HK9 := Lib.hid hkk
        clear hkk hown hd hi hlt
        go_wp2_with fail
        refine (HW.out _).mono ?_
        rintro e w6 ⟨rfl, hk6⟩
        have K6 := Lib.hid hk6
        clear hk6
        go_wp2_with fail
        go_ret
        exact ⟨rfl, HK9.out.trans K6.out⟩
end Go.Proofs.Ytdigjppdgiapfaa
