/- DequeOnce walked. -/
import Derived.Test.YtdigjppdgiapfaaDwk
import Derived.Test.YtdigjppdgiapfaaDqp
import Derived.Test.YtdigjppdgiapfaaMv
import Derived.Deep.DeepCutAuto
import Derived.Deep.CutRange
set_option linter.unusedSimpArgs false
set_option linter.unusedVariables false
namespace Go.Proofs.Ytdigjppdgiapfaa
open Go.RowKit
attribute [local go_sem] block_of_add fn_some fn_nil fn_somen fn_niln
attribute [local go_sem ↓] Go.wp_at_zero Go.wp_at_succ

theorem Wk.start {w : World} {gd gc base n : Nat} (hd : DqAt w gd gc (Dq.made n) (.pointer none)) (hn : 0 < n) (lc : base ≤ gc) (ld : base ≤ gd) : Wk w gd gc base 0 (Dq.made n) (.pointer none) ⟨0, 0, 0, 0, false, 0⟩ (List.replicate 7 none) := by
  have none_ : ∀ (i g : Nat) (h : Dop), (List.replicate 7 (none : Option (Nat × Dop)))[i]? ≠ some (some (g, h)) := fun i g h e => by
    rw [List.getElem?_replicate] at e
    split at e
    · injection e with e; cases e
    · cases e
  exact ⟨hd, made_ok n hn _ rfl, ⟨by simp [Dq.made], by simp [Dq.made], by simp [Dq.made], by simp [Dq.made]⟩, fun g h e => absurd e (none_ 0 g h), fun _ => ⟨rfl, .inl rfl⟩, fun i g h e => absurd e (none_ i g h), fun i j g h h' e => absurd e (none_ i g h), lc, ld⟩
theorem el_op : El Try.prog 31 36 (.pointer none) 1 8 := ⟨Try.underlying31, by kernel_rfl, rfl, by decide⟩
theorem Wk.more {w : World} {gd gc base c : Nat} {d : Dq} {own : Value} {o : Dop} {hs : List (Option (Nat × Dop))} (k : Wk w gd gc base c d own o hs) : Wk w gd gc base (c + 1) d own o hs :=
  ⟨k.at_, k.ok, k.bd.more, k.own1, k.own0, fun i g h e => (k.each i g h e).more (k.each i g h e).at_ (fun _ x => x), k.dist, k.lc, k.ld⟩
def none7 : Array Value := ((List.replicate 7 (none : Option (Nat × Dop))).map ptrV).toArray
theorem made_ops : madeCells (Value.pointer none).cells ((7 : Int).toNat * 1) = ((List.replicate 7 (none : Option (Nat × Dop))).map ptrV).toArray := by
  apply Array.toList_inj.1
  show (madeCells #[.pointer none] 7).toList = _
  rw [toList_madeCells_one]; rfl
theorem make_ops (w : World) : (Instr.makeSlice 31 (.int .i64 7) (.int .i64 7)).run Try.prog w = .ok (.slice (some ⟨w.heap.size, 0, none⟩) 7 7) (w.alloc (.cells none7 36)) := by
  obtain ⟨i, hi, hz, hs, hb⟩ := info_parts el_op.info
  have h := run_makeSlice (P := Try.prog) (w := w) 31 36 i (.pointer none) el_op.ht hi hz .i64 .i64 7 7 (by omega) (by omega) (by rw [hs]; decide) (by rw [hb]; decide) (by omega)
  rw [h, hs, made_ops]
  rfl
def zeros (n : Nat) : Array Value := (ints (List.replicate n 0)).toArray
theorem made_zeros (n : Nat) : madeCells (Value.int .i64 0).cells (n * 1) = zeros n := by
  apply Array.toList_inj.1
  rw [Nat.mul_one]
  show (madeCells #[.int .i64 0] n).toList = _
  rw [toList_madeCells_one]; simp [zeros, ints]
theorem make_zeros (l c : Nat) (hl : l ≤ c) (hc : c ≤ 1000000) (w : World) : (Instr.makeSlice 49 (.int .i64 (l : Int)) (.int .i64 (c : Int))).run Try.prog w = .ok (.slice (some ⟨w.heap.size, 0, none⟩) l c) (w.alloc (.cells (zeros c) 3)) := by
  obtain ⟨i, hi, hz, hs, hb⟩ := info_parts el_int.info
  have h := run_makeSlice (P := Try.prog) (w := w) 49 3 i (.int .i64 0) el_int.ht hi hz .i64 .i64 (l : Int) (c : Int) (by omega) (by omega) (by rw [hs]; omega) (by rw [hb]; omega) (by omega)
  rw [h, hs, Int.toNat_natCast, Int.toNat_natCast, made_zeros]
theorem own_bad {w : World} {base : Nat} {e : TypeId} {size : Nat} {v : Value} {n : Nat} {xs : List Value} (h : w.ownsRow base e size v n xs) : ∀ g, v.ownBlock = some g → base ≤ g ∧ ∃ cs, Blk w g e cs := by
  intro g hg
  rcases h.2 with ⟨rfl, _⟩ | ⟨g', cap, cur, rfl, hb, hh, _⟩
  · simp [Value.ownBlock] at hg
  · have : g' = g := by simpa [Value.ownBlock] using hg
    subst this
    exact ⟨hb, _, hh⟩
theorem app_blk {w2 w4 : World} {B : Nat} {ov : Value} {n : Nat} {xs : List Value} {g : Nat} {t : TypeId} {cs : Array Value} (ho : w2.ownsRow B 3 1 ov n xs) (hg : w2.grownBy w4 ov.ownBlock) (hb : Blk w2 g t cs) (hl : g < B) : Blk w4 g t cs := hb.grown hg (own_far ho hl)
theorem arr_set_get {α : Type} (a : Array α) {i : Nat} {u : α} (h : i < a.size) : (a.setIfInBounds i u)[i]? = some u := by simp [h]
theorem set_same {α : Type} (hs : List α) {i : Nat} {a : α} (h : hs[i]? = some a) : hs.set i a = hs := by
  apply List.ext_getElem?
  intro j
  by_cases hj : j = i
  · subst hj
    rw [List.getElem?_set_self ((List.getElem?_eq_some_iff.1 h).1), h]
  · rw [List.getElem?_set_ne (Ne.symm hj)]
theorem step_pc14 (d : Dq) (h : Dop) (h1 : 1 ≤ h.pc) (h2 : h.pc ≤ 14) : (dstep d h).2.1.pc ≤ 14 := by
  obtain ⟨q, b, t, x, sw, how⟩ := h
  dsimp only at h1 h2
  have hq : (q = 1 ∨ q = 2 ∨ q = 3 ∨ q = 4 ∨ q = 5 ∨ q = 6 ∨ q = 7) ∨ (q = 8 ∨ q = 9 ∨ q = 10 ∨ q = 11 ∨ q = 12 ∨ q = 13 ∨ q = 14) := by omega
  rcases hq with (rfl | rfl | rfl | rfl | rfl | rfl | rfl) | (rfl | rfl | rfl | rfl | rfl | rfl | rfl)
  all_goals
    simp only [dstep]
    repeat' split
  all_goals simp
theorem th_top {d : Dq} {o h : Dop} (hd : DqOk d o) (hth : ThOk d o h) (h11 : 11 ≤ h.pc) : (dstep d h).1 = d ∨ ((dstep d h).2.1.how = 2 ∧ (dstep d h).2.1.pc = 0 ∧ (dstep d h).1 = ⟨d.top + 1, d.bot, d.sl⟩) := by
  by_cases hsw : h.pc = 14 ∧ d.top = h.t
  · obtain ⟨e1, e2, _⟩ := th_swap hd hth hsw.1 hsw.2
    exact .inr ⟨by rw [e2], by rw [e2], e1⟩
  · exact .inl (th_rest hd hth h11 hsw).1
/-- What holds at the head of round k. -/
structure Oc (W w : World) (NN gd gc gO gS gN B L k : Nat) (d : Dq) (own : Value) (o : Dop) (hs : List (Option (Nat × Dop))) (T : Nat) (gets last : Int) (since seen ord : List Int) (ov : Value) : Prop where
  wk : Wk W gd gc w.heap.size k d own o hs
  ob : Ob L k d o hs T gets last since seen ord
  bo : Blk W gO 36 (hs.map ptrV).toArray
  bs : Blk W gS 3 (ints since).toArray
  bn : Blk W gN 3 (ints seen).toArray
  ow : W.ownsRow B 3 1 ov ord.length (ints ord)
  sl : d.sl.length = NN
  kk : Kp (fun _ => False) w W
theorem ints_get {l : List Int} {i : Nat} {x : Int} (h : l[i]? = some x) : (ints l)[i]? = some (.int .i64 x) := by simp [ints, h]
theorem ints_set (l : List Int) (i : Nat) (x : Int) : (ints l).set i (.int .i64 x) = ints (l.set i x) := by simp [ints, List.map_set]
/-- What is left of the last check: of tasks ll from i on. -/
structure Lf (ll : List Int) (i : Nat) (seen : List Int) : Prop where
  one : ∀ y, Sn seen y 1 ↔ ∃ j, i ≤ j ∧ ll[j]? = some y
  inc : ∀ (a b : Nat) (x y : Int), a < b → ll[a]? = some x → ll[b]? = some y → x < y
theorem Lf.next {ll : List Int} {i : Nat} {seen : List Int} (h : Lf ll i seen) {x : Int} (hx : ll[i]? = some x) : Sn seen x 1 ∧ Lf ll (i + 1) (snSet seen x 2) := by
  have h1 : Sn seen x 1 := (h.one x).2 ⟨i, Nat.le_refl _, hx⟩
  refine ⟨h1, ⟨fun y => ?_, h.inc⟩⟩
  rw [h1.set_iff, h.one y]
  constructor
  · rintro (⟨_, a⟩ | ⟨a, j, b, c⟩)
    · exact absurd a (by decide)
    · refine ⟨j, ?_, c⟩
      rcases Nat.lt_or_ge i j with hj | hj
      · exact hj
      · have : j = i := by omega
        subst this; rw [hx] at c; injection c with c; exact absurd c.symm a
  · rintro ⟨j, b, c⟩
    exact .inr ⟨by have := h.inc i j x y (by omega) hx c; omega, j, by omega, c⟩
theorem tasks_get {d : Dq} {j : Nat} {y : Int} : d.tasks[j]? = some y ↔ j < d.tasksN ∧ d.at_ (d.top + (j : Int)) = y := by
  unfold Dq.tasks
  rw [List.getElem?_map]
  by_cases hj : j < d.tasksN
  · rw [List.getElem?_range hj]; simp [hj]
  · rw [List.getElem?_eq_none (by simpa using hj)]; simp [hj]
theorem On.left {d : Dq} {o : Dop} {T : Nat} {seen : List Int} {last : Int} (h : On d o T seen last) (hp : o.pc = 0) : Lf d.tasks 0 seen := by
  have hl : lim d o = d.bot := lim_pop (by omega)
  refine ⟨fun y => ?_, fun a b x y hab h1 h2 => ?_⟩
  · rw [h.one y, hl]
    constructor
    · rintro (⟨i, a, b, c⟩ | ⟨a, _⟩)
      · exact ⟨(i - d.top).toNat, Nat.zero_le _, tasks_get.2 ⟨by unfold Dq.tasksN; omega, by rw [show d.top + ((i - d.top).toNat : Int) = i by omega]; exact c⟩⟩
      · omega
    · rintro ⟨j, _, c⟩
      obtain ⟨c1, c2⟩ := tasks_get.1 c
      unfold Dq.tasksN at c1
      exact .inl ⟨d.top + j, by omega, by omega, c2⟩
  · obtain ⟨a1, a2⟩ := tasks_get.1 h1
    obtain ⟨b1, b2⟩ := tasks_get.1 h2
    unfold Dq.tasksN at b1
    have := h.inc (d.top + a) (d.top + b) (by omega) (by omega) (by rw [hl]; omega)
    omega
set_option maxRecDepth 100000 in
set_option maxHeartbeats 4000000 in
theorem dequeOnce_any (room : Int) (l : List (Int × Bool)) (A : Option Addr) (c : Nat) (w : World) (hr : 0 ≤ room ∧ room < 256) (hlm : ∀ m ∈ l, 0 ≤ m.1 ∧ m.1 < 256) (hrl : Reads w w.heap.size 2 A l.length (mvCells l)) :
    Calls Try.prog 4 #[.int .u8 room, .slice A l.length c] w fun e w' => e = .returned (.bool true) ∧ Below w.heap.size w w' := by
  suffices h : Calls Try.prog 4 #[.int .u8 room, .slice A l.length c] w fun e w' => e = .returned (.bool true) ∧ Kp (fun _ => False) w w' from
    h.mono fun e w' ⟨h1, h2⟩ => ⟨h1, h2.below (fun k h => h.elim) (Nat.le_refl _)⟩
  have HL := Lib.hid hrl
  have HM := Lib.hid hlm
  have HW := Lib.hid fun W => works_any W
  clear hrl hlm
  by_cases hbig : 1500 < l.length
  · have d1 : decide ((1500 : Int) < (l.length : Int)) = true := decide_eq_true (by omega)
    go_enter Try.func4, Try.ntmps4
    go_wp2_with fail
    refine (HW.out _).mono ?_
    rintro e w1 ⟨rfl, hk⟩
    have HK := Lib.hid hk
    clear hk
    go_wp2_with fail
    go_ret
    exact ⟨rfl, HK.out⟩
  · have d1 : decide ((1500 : Int) < (l.length : Int)) = false := decide_eq_false (by omega)
    have hl2 : l.length ≤ 1500 := by omega
    have hmo := make_ops
    have hm1 : ∀ w : World, (Instr.makeSlice 49 (.int .i64 7) (.int .i64 7)).run Try.prog w = .ok (.slice (some ⟨w.heap.size, 0, none⟩) 7 7) (w.alloc (.cells (zeros 7) 3)) := fun w => make_zeros 7 7 (by omega) (by omega) w
    have hm2 : ∀ w : World, (Instr.makeSlice 49 (.int .i64 ((l.length : Int) + 1)) (.int .i64 ((l.length : Int) + 1))).run Try.prog w = .ok (.slice (some ⟨w.heap.size, 0, none⟩) (l.length + 1) (l.length + 1)) (w.alloc (.cells (zeros (l.length + 1)) 3)) := fun w => make_zeros (l.length + 1) (l.length + 1) (by omega) (by omega) w
    have hm3 : ∀ w : World, (Instr.makeSlice 49 (.int .i64 0) (.int .i64 (l.length : Int))).run Try.prog w = .ok (.slice (some ⟨w.heap.size, 0, none⟩) 0 l.length) (w.alloc (.cells (zeros l.length) 3)) := fun w => make_zeros 0 l.length (by omega) (by omega) w
    obtain ⟨n, hn⟩ : ∃ n : Nat, 1 + room % 9 = (n : Int) := ⟨(1 + room % 9).toNat, by omega⟩
    have hn1 : 1 ≤ n := by omega
    have hn2 : n ≤ 9 := by omega
    have r0 := hr.1
    have hq1 : Int.tmod room 9 = (n : Int) - 1 := by rw [Int.tmod_eq_emod_of_nonneg r0]; omega
    have hq2 : room % 9 = (n : Int) - 1 := by omega
    have hq3 : 1 + ((n : Int) - 1) = (n : Int) := by omega
    have hwr : IntKind.i64.wrap (n : Int) = (n : Int) := IntWalk.i64_in _ ⟨by omega, by omega⟩
    have hwr2 : IntKind.i64.wrap ((n : Int) - 1) = (n : Int) - 1 := IntWalk.i64_in _ ⟨by omega, by omega⟩
    have hwr3 : IntKind.i64.wrap room = room := IntWalk.i64_in _ ⟨by omega, by omega⟩
    have HN := Lib.hid fun W => new_var n hn1 (by omega) W
    clear hn hbig
    go_enter Try.func4, Try.ntmps4
    go_wp2_with fail
    refine (HN.out _).mono ?_
    rintro e w1 ⟨gd, gc, rfl, hgd, hgc, hd, hk⟩
    have HD := Lib.hid hd
    have HK := Lib.hid hk
    have hs1 := hk.size
    clear hd hk HN hq1 hq2 hq3 hwr hwr2 hwr3 hr r0
    go_wp2_with fail
    obtain ⟨W, hW⟩ : ∃ W, W = (((w1.alloc (.cells none7 36)).alloc (.cells (zeros 7) 3)).alloc (.cells (zeros (l.length + 1)) 3)).alloc (.cells (zeros l.length) 3) := ⟨_, rfl⟩
    obtain ⟨gO, hgO⟩ : ∃ g, g = w1.heap.size := ⟨_, rfl⟩
    obtain ⟨gS, hgS⟩ : ∃ g, g = gO + 1 := ⟨_, rfl⟩
    obtain ⟨gN, hgN⟩ : ∃ g, g = gS + 1 := ⟨_, rfl⟩
    obtain ⟨B, hB⟩ : ∃ g, g = gN + 1 := ⟨_, rfl⟩
    have HG : Hid (w.heap.size ≤ gO ∧ gS = gO + 1 ∧ gN = gS + 1 ∧ B = gN + 1) := Lib.hid ⟨by omega, hgS, hgN, hB⟩
    have HKW : Hid (Kp (fun _ => False) w1 W) := Lib.hid (by rw [hW]; exact ((((Kp.refl _ _).alloc _).alloc _).alloc _).alloc _)
    have HOC : Hid (Oc W w n gd gc gO gS gN B l.length 0 (Dq.made n) (.pointer none) ⟨0, 0, 0, 0, false, 0⟩ (List.replicate 7 none) 0 0 (-1) (List.replicate 7 0) (List.replicate (l.length + 1) 0) [] (.slice (some ⟨B, 0, none⟩) 0 l.length)) := Lib.hid
      ⟨Wk.start (HD.out.kp HKW.out id id) (by omega) hgc hgd, Ob.start n l.length, (by rw [hW]; exact (((Blk.at_ _ _ _ hgO).alloc _).alloc _).alloc _), (by rw [hW]; exact ((Blk.at_ _ _ _ (by rw [hgS, hgO]; simp)).alloc _).alloc _),
        (by rw [hW]; exact (Blk.at_ _ _ _ (by rw [hgN, hgS, hgO]; simp)).alloc _), (by
          have hb : B = (((w1.alloc (.cells none7 36)).alloc (.cells (zeros 7) 3)).alloc (.cells (zeros (l.length + 1)) 3)).heap.size := by simp; omega
          rw [hW, hb]
          exact World.ownsRow_made _ _ _ (Nat.le_refl _) (by unfold maxLen; omega) (by simp [zeros, ints])), by simp [Dq.made], HK.out.trans HKW.out⟩
    simp only [← hgO, ← hgS, ← hgN, ← hB]
    rw [show (((w1.alloc (.cells none7 36)).alloc (.cells (zeros 7) 3)).alloc (.cells (zeros (l.length + 1)) 3)).alloc (.cells (zeros l.length) 3) = W from hW.symm]
    clear hW hgO hgS hgN hB HD HK HKW hmo hm1 hm2 hm3
    go_loopw [10, 11, 12, 13, 14] (fun ov tk gt ls i wr => ∃ (k : Nat) (d : Dq) (own : Value) (o : Dop) (hs : List (Option (Nat × Dop))) (T : Nat) (gets last : Int) (since seen ord : List Int), k ≤ l.length + 42 ∧ tk = .int .i64 T ∧ gt = .int .i64 gets ∧ ls = .int .i64 last ∧ i = .int .i64 k ∧ Hid (Oc wr w n gd gc gO gS gN B l.length k d own o hs T gets last since seen ord ov)) (fun _ _ _ _ i _ => l.length + 42 - (intOf i).toNat)
    case atStart => exact ⟨0, _, _, _, _, 0, 0, -1, _, _, _, by omega, rfl, rfl, rfl, rfl, HOC⟩
    case round =>
      clear HOC
      obtain ⟨k, d, own, o, hs, T, gets, last, since, seen, ord, hk, rfl, rfl, rfl, rfl, HC⟩ := hrel
      have hw42 : IntKind.i64.wrap ((l.length : Int) + 42) = (l.length : Int) + 42 := IntWalk.i64_in _ ⟨by omega, by omega⟩
      by_cases hlt : k < l.length + 42
      · have hkl : (k : Int) < (l.length : Int) + 42 := by omega
        have hd1 : decide ((k : Int) < (l.length : Int) + 42) = true := decide_eq_true hkl
        obtain ⟨k7, hk7⟩ : ∃ x, x = k % 7 := ⟨_, rfl⟩
        have h77 : k7 < 7 := by omega
        have hkt : Int.tmod (k : Int) 7 = (k7 : Int) := by rw [Int.tmod_eq_emod_of_nonneg (by omega)]; omega
        have hkt2 : (k : Int) % 7 = (k7 : Int) := by omega
        have hwk7 : IntKind.i64.wrap (k7 : Int) = (k7 : Int) := IntWalk.i64_in _ ⟨by omega, by omega⟩
        have HK7 := Lib.hid hk7
        clear hk7
        go_upto_if 62 with (fail)
        go_cut [15] from 50 to 252 (fun s15 wx => ∃ wi : Nat, wi < 7 ∧ s15 = .int .i64 wi ∧ wr = wx ∧ Hid (l.length ≤ k → wi = k % 7))
        case first =>
          by_cases hkL : k < l.length
          · have hB : Below w.heap.size w wr := HC.out.kk.below (fun k h => h.elim) (Nat.le_refl _)
            obtain ⟨ad, rfl, hab, hc0, hc1⟩ := HL.out.mv rfl hkL
            have hm := HM.out l[k] (List.getElem_mem hkL)
            obtain ⟨mw, hmw⟩ : ∃ x, x = l[k].1 := ⟨_, rfl⟩
            rw [← hmw] at hc0 hm
            have HC0 := Lib.hid hc0
            have c0 : wr.cell? (ad.add (k * 2)) = some (.int .u8 mw) := (hB.cell (by rw [block_of_add]; exact hab)).trans hc0
            have hkl2 : (k : Int) < (l.length : Int) := by omega
            have hd2 : decide ((k : Int) < (l.length : Int)) = true := decide_eq_true hkl2
            have hd3 : decide (k < l.length) = true := decide_eq_true hkL
            obtain ⟨wi, hwi⟩ : ∃ x : Nat, mw % 7 = (x : Int) := ⟨(mw % 7).toNat, by omega⟩
            have hw7 : wi < 7 := by omega
            have hmt : Int.tmod mw 7 = (wi : Int) := by rw [Int.tmod_eq_emod_of_nonneg hm.1]; exact hwi
            have hwr1 : IntKind.i64.wrap mw = mw := IntWalk.i64_in _ ⟨by omega, by omega⟩
            have hwr2 : IntKind.i64.wrap (wi : Int) = (wi : Int) := IntWalk.i64_in _ ⟨by omega, by omega⟩
            clear hmw hc0 hc1 hB
            go_wp2_with fail
            go_meet
            case rel => exact ⟨wi, hw7, rfl, rfl, Lib.hid (fun x => by omega)⟩
          · have hd2 : decide ((k : Int) < (l.length : Int)) = false := decide_eq_false (by omega)
            have hd3 : decide (k < l.length) = false := decide_eq_false hkL
            go_wp2_with fail
            go_meet
            case rel => exact ⟨k7, h77, rfl, rfl, Lib.hid (fun _ => HK7.out)⟩
        case rest =>
          obtain ⟨wi, hw7, rfl, rfl, HWI⟩ := hcut
          clear hkt hkt2 hwk7 HK7 h77 hd1 hkl
          have hw7i : (wi : Int) < 7 := by omega
          have H7 := Lib.hid HC.out.ob.h7
          have HS7 := Lib.hid HC.out.ob.s7
          obtain ⟨e, he⟩ : ∃ e, hs[wi]? = some e := ⟨_, List.getElem?_eq_getElem (by have := H7.out; omega)⟩
          have HE := Lib.hid he
          have HWk := Lib.hid HC.out.wk
          have HOb := Lib.hid HC.out.ob
          have HBo := Lib.hid HC.out.bo
          have HBs := Lib.hid HC.out.bs
          have HBn := Lib.hid HC.out.bn
          have HOw := Lib.hid HC.out.ow
          have HKk := Lib.hid HC.out.kk
          have hmm : seen.length = l.length + 1 := HOb.out.m
          have HMM := Lib.hid hmm
          have HSL := Lib.hid HC.out.sl
          have hT1 := HOb.out.tk.1
          have hT2 := HOb.out.tk.2
          have hg0 := HOb.out.g0.1
          have hg1 := HOb.out.g0.2
          have hol := HOb.out.ol
          have hla := HOb.out.on.lst.1
          have hpos : 0 < d.sl.length := HWk.out.ok.n
          have hsz : w.heap.size ≤ wr.heap.size := HKk.out.size
          have lO := HBo.out.lt
          have lS := HBs.out.lt
          have lN := HBn.out.lt
          have hBz : B ≤ wr.heap.size := by have := HG.out; omega
          have hgn : gO ≠ gS ∧ gO ≠ gN ∧ gS ≠ gN := by have := HG.out; omega
          obtain ⟨n1, n2, n3⟩ := hgn
          have m1 := Ne.symm n1
          have m2 := Ne.symm n2
          have m3 := Ne.symm n3
          have hgt : IntKind.i64.wrap (gets + 1) = gets + 1 := IntWalk.i64_in _ ⟨by omega, by omega⟩
          have hTt : IntKind.i64.wrap ((T : Int) + 1) = (T : Int) + 1 := IntWalk.i64_in _ ⟨by omega, by omega⟩
          clear he hmm hw42
          rcases e with _ | ⟨g, h⟩
          · have co : wr.cell? ⟨gO, wi, none⟩ = some (.pointer none) := HBo.out.get wi (by simp [HE.out, ptrV])
            by_cases hkL : k < l.length
            · have hd4 : decide ((l.length : Int) ≤ (k : Int)) = false := decide_eq_false (by omega)
              have hd5 : decide (l.length ≤ k) = false := decide_eq_false (by omega)
              have hB : Below w.heap.size w wr := HKk.out.below (fun k h => h.elim) (Nat.le_refl _)
              obtain ⟨ad, rfl, hab, hc0, hc1⟩ := HL.out.mv rfl hkL
              obtain ⟨mp, hmp⟩ : ∃ x, x = l[k].2 := ⟨_, rfl⟩
              rw [← hmp] at hc1
              have c1 : wr.cell? ⟨ad.block, (ad.add (k * 2)).off + 1, none⟩ = some (.bool mp) := (hB.cell (by exact hab)).trans hc1
              clear hmp hc0 hc1 hB
              rcases Nat.eq_zero_or_pos wi with hz | hp
              · subst hz
                cases mp
                · as_aux_lemma =>
                    have HB := Lib.hid (begin_push gd gc d own wr HWk.out.at_ hpos (T : Int) (by omega) (HWk.out.idle HE.out))
                    go_wp2_with fail
                    refine HB.out.mono ?_
                    intro e w2 hbe
                    have hwk2 := HWk.out.begun_own HE.out (.inr ⟨_, rfl⟩) hbe hsz
                    obtain ⟨he1, _, _, hk2⟩ := hbe
                    subst he1
                    obtain ⟨g, hg⟩ : ∃ g, g = wr.heap.size := ⟨_, rfl⟩
                    have ngd : ∀ i, (∃ cs, Blk wr i 3 cs) → i ≠ gd := fun i ⟨cs, hc⟩ => Blk.ne_ hc HWk.out.at_.hdr (by decide)
                    have b1 := HBo.out.kp hk2 (Blk.ne_ HBo.out HWk.out.at_.hdr (by decide))
                    have b2 := HBs.out.kp hk2 (Blk.ne_ HBs.out HWk.out.at_.hdr (by decide))
                    have b3 := HBn.out.kp hk2 (Blk.ne_ HBn.out HWk.out.at_.hdr (by decide))
                    have hown2 := own_kp HOw.out hk2 (fun i e => ngd i (own_bad HOw.out i e).2)
                    have cb : w2.cell? ⟨ad.block, (ad.add (k * 2)).off + 1, none⟩ = some (.bool false) := by
                      rw [hk2.cell (by dsimp only; omega) (by dsimp only; have := HWk.out.ld; omega)]; exact c1
                    have HWk2 := Lib.hid hwk2
                    have HK2 := Lib.hid (HKk.out.trans' hk2 (bad := fun _ => False) (fun i hi e => by have := HWk.out.ld; omega))
                    have hz2 := hk2.size
                    have hBz2 : B ≤ w2.heap.size := by omega
                    have HO2 := Lib.hid hown2
                    have B1 := Lib.hid b1
                    have B2 := Lib.hid b2
                    have B3 := Lib.hid b3
                    have HBz := Lib.hid hBz2
                    obtain ⟨v2, hv2⟩ : ∃ v, since[0]? = some v := ⟨_, List.getElem?_eq_getElem (by have := HS7.out; omega)⟩
                    have HQ1 : Hid ((hs.map ptrV).toArray[0]? = some (.pointer none)) := Lib.hid (by simp [HE.out, ptrV])
                    have HQ2 : Hid ((ints since).toArray[0]? = some (.int .i64 v2)) := Lib.hid (by simpa using ints_get hv2)
                    have HG3 : Hid (gO < B ∧ gS < B ∧ gN < B) := Lib.hid (by have := HG.out; omega)
                    clear hwk2 hk2 b1 b2 b3 hg c1 hown2 ngd hv2
                    go_wp2_with (at_builtin; refine wpList_app (m := 1) rfl _ _ rfl el_int HO2.out HBz.out rfl [_] rfl (by simp) (by simp [Value.oneCell']) (by omega) (by omega) ?_; intro A' c' w4 hown4 hB4 hg4 hob4; have b1 := app_blk HO2.out hg4 B1.out HG3.out.1; have b2 := app_blk HO2.out hg4 B2.out HG3.out.2.1; have b3 := app_blk HO2.out hg4 B3.out HG3.out.2.2; have q1 := b1.get 0 HQ1.out; have q2 := b2.get 0 HQ2.out; have z1 := b1.frozen 0; have z2 := b2.frozen 0; have l1 := b1.lt; have l2 := b2.lt)
                    have hk4 : Kp (fun i => some i = Value.ownBlock u10) w2 w4 := (Kp.refl _ _).grown hg4 (fun i e => .inl e.symm)
                    have hr4 : ∀ i, some i = Value.ownBlock u10 → B ≤ i ∧ ∃ cs, Blk w2 i 3 cs := fun i e => own_bad HO2.out i e.symm
                    have hwk4 := HWk2.out.kp hk4 (fun i _ e => by
                      obtain ⟨x, cs, y⟩ := hr4 i e
                      exact .inr ⟨_, _, y, by decide, by decide, by decide⟩)
                    have HK4 := Lib.hid (HK2.out.trans' hk4 (bad := fun _ => False) (fun i hi e => by have := (hr4 i e).1; have := HG.out; omega))
                    have HO4 := Lib.hid hown4
                    have HWk4 := Lib.hid hwk4
                    have C1 := Lib.hid b1
                    have C2 := Lib.hid b2
                    have C3 := Lib.hid b3
                    clear hk4 hr4 hwk4 hown4 hB4 hg4 hob4
                    go_roundw
                    case rel =>
                      have HKX := ((Kp.refl (fun i => i = gO ∨ i = gS) w4).setCell (p := ⟨gO, 0, none⟩) (.inl (.inl rfl)) (.pointer (some ⟨wr.heap.size, 0, none⟩))).setCell (p := ⟨gS, 0, none⟩) (.inl (.inr rfl)) (.int .i64 gets)
                      refine ⟨k + 1, d, (.pointer (some ⟨wr.heap.size, 0, none⟩)), (opPush T), hs.set 0 (some (wr.heap.size, (opPush T))), T + 1, gets, last, since.set 0 gets, seen, (ord ++ [(T : Int)]), by omega, by go_num, rfl, rfl, by go_num, Lib.hid ⟨HWk4.out.kp HKX ?_, HOb.out.begun hkL (HWk.out.own0 HE.out).1 _ (on_push HOb.out.on (HWk.out.own0 HE.out).1 (by have := HMM.out; omega)) (Nat.le_refl _) (.inl ⟨by simp [opPush], by simp [opPush]⟩), ?_, ?_, ?_, ?_, HSL.out, HK4.out.trans' HKX (fun i h e => by have := HG.out; omega)⟩⟩
                      · intro i _ hbad
                        rcases hbad with x | x
                        · rw [x]; exact .inr ⟨_, _, C1.out, by decide, by decide, by decide⟩
                        · rw [x]; exact .inr ⟨_, _, C2.out, by decide, by decide, by decide⟩
                      · exact Blk.conv ((C1.out.set_ 0 _).far (p := ⟨gS, 0, none⟩) n1 _) (by simp [ptrV, List.map_set])
                      · exact Blk.conv ((C2.out.far (p := ⟨gO, 0, none⟩) m1 _).set_ 0 _) (by simp [ints_set])
                      · exact (C3.out.far (p := ⟨gO, 0, none⟩) m2 _).far (p := ⟨gS, 0, none⟩) m3 _
                      · exact own_kp (by simpa [ints] using HO4.out) HKX (fun i e x => by have := (own_bad HO4.out i e).1; have := HG.out; omega)
                    case measure => simp [intOf]; omega
                · as_aux_lemma =>
                    have HB := Lib.hid (begin_pop gd gc d own wr HWk.out.at_ hpos (T : Int) (HWk.out.idle HE.out))
                    go_wp2_with fail
                    refine HB.out.mono ?_
                    intro e w2 hbe
                    have hwk2 := HWk.out.begun_own HE.out (.inl rfl) hbe hsz
                    obtain ⟨he1, _, _, hk2⟩ := hbe
                    subst he1
                    obtain ⟨g, hg⟩ : ∃ g, g = wr.heap.size := ⟨_, rfl⟩
                    have ngd : ∀ i, (∃ cs, Blk wr i 3 cs) → i ≠ gd := fun i ⟨cs, hc⟩ => Blk.ne_ hc HWk.out.at_.hdr (by decide)
                    have b1 := HBo.out.kp hk2 (Blk.ne_ HBo.out HWk.out.at_.hdr (by decide))
                    have b2 := HBs.out.kp hk2 (Blk.ne_ HBs.out HWk.out.at_.hdr (by decide))
                    have b3 := HBn.out.kp hk2 (Blk.ne_ HBn.out HWk.out.at_.hdr (by decide))
                    have hown2 := own_kp HOw.out hk2 (fun i e => ngd i (own_bad HOw.out i e).2)
                    have cb : w2.cell? ⟨ad.block, (ad.add (k * 2)).off + 1, none⟩ = some (.bool true) := by
                      rw [hk2.cell (by dsimp only; omega) (by dsimp only; have := HWk.out.ld; omega)]; exact c1
                    have HWk2 := Lib.hid hwk2
                    have HK2 := Lib.hid (HKk.out.trans' hk2 (bad := fun _ => False) (fun i hi e => by have := HWk.out.ld; omega))
                    have hz2 := hk2.size
                    have hBz2 : B ≤ w2.heap.size := by omega
                    have HO2 := Lib.hid hown2
                    have B1 := Lib.hid b1
                    have B2 := Lib.hid b2
                    have B3 := Lib.hid b3
                    have HBz := Lib.hid hBz2
                    obtain ⟨v2, hv2⟩ : ∃ v, since[0]? = some v := ⟨_, List.getElem?_eq_getElem (by have := HS7.out; omega)⟩
                    have HQ1 : Hid ((hs.map ptrV).toArray[0]? = some (.pointer none)) := Lib.hid (by simp [HE.out, ptrV])
                    have HQ2 : Hid ((ints since).toArray[0]? = some (.int .i64 v2)) := Lib.hid (by simpa using ints_get hv2)
                    have HG3 : Hid (gO < B ∧ gS < B ∧ gN < B) := Lib.hid (by have := HG.out; omega)
                    clear hwk2 hk2 b1 b2 b3 hg c1 hown2 ngd hv2
                    go_wp2_with (at_builtin; refine wpList_app (m := 1) rfl _ _ rfl el_int HO2.out HBz.out rfl [_] rfl (by simp) (by simp [Value.oneCell']) (by omega) (by omega) ?_; intro A' c' w4 hown4 hB4 hg4 hob4; have b1 := app_blk HO2.out hg4 B1.out HG3.out.1; have b2 := app_blk HO2.out hg4 B2.out HG3.out.2.1; have b3 := app_blk HO2.out hg4 B3.out HG3.out.2.2; have q1 := b1.get 0 HQ1.out; have q2 := b2.get 0 HQ2.out; have z1 := b1.frozen 0; have z2 := b2.frozen 0; have l1 := b1.lt; have l2 := b2.lt)
                    have hk4 : Kp (fun i => some i = Value.ownBlock u10) w2 w4 := (Kp.refl _ _).grown hg4 (fun i e => .inl e.symm)
                    have hr4 : ∀ i, some i = Value.ownBlock u10 → B ≤ i ∧ ∃ cs, Blk w2 i 3 cs := fun i e => own_bad HO2.out i e.symm
                    have hwk4 := HWk2.out.kp hk4 (fun i _ e => by
                      obtain ⟨x, cs, y⟩ := hr4 i e
                      exact .inr ⟨_, _, y, by decide, by decide, by decide⟩)
                    have HK4 := Lib.hid (HK2.out.trans' hk4 (bad := fun _ => False) (fun i hi e => by have := (hr4 i e).1; have := HG.out; omega))
                    have HO4 := Lib.hid hown4
                    have HWk4 := Lib.hid hwk4
                    have C1 := Lib.hid b1
                    have C2 := Lib.hid b2
                    have C3 := Lib.hid b3
                    clear hk4 hr4 hwk4 hown4 hB4 hg4 hob4
                    go_roundw
                    case rel =>
                      have HKX := ((Kp.refl (fun i => i = gO ∨ i = gS) w4).setCell (p := ⟨gO, 0, none⟩) (.inl (.inl rfl)) (.pointer (some ⟨wr.heap.size, 0, none⟩))).setCell (p := ⟨gS, 0, none⟩) (.inl (.inr rfl)) (.int .i64 gets)
                      refine ⟨k + 1, d, (.pointer (some ⟨wr.heap.size, 0, none⟩)), opPop, hs.set 0 (some (wr.heap.size, opPop)), T, gets, last, since.set 0 gets, seen, (ord ++ [(-1 : Int)]), by omega, by go_num, rfl, rfl, by go_num, Lib.hid ⟨HWk4.out.kp HKX ?_, HOb.out.begun hkL (HWk.out.own0 HE.out).1 _ (on_pop HOb.out.on (HWk.out.own0 HE.out).1) (Nat.le_succ _) (.inr ⟨by simp [opPop], rfl⟩), ?_, ?_, ?_, ?_, HSL.out, HK4.out.trans' HKX (fun i h e => by have := HG.out; omega)⟩⟩
                      · intro i _ hbad
                        rcases hbad with x | x
                        · rw [x]; exact .inr ⟨_, _, C1.out, by decide, by decide, by decide⟩
                        · rw [x]; exact .inr ⟨_, _, C2.out, by decide, by decide, by decide⟩
                      · exact Blk.conv ((C1.out.set_ 0 _).far (p := ⟨gS, 0, none⟩) n1 _) (by simp [ptrV, List.map_set])
                      · exact Blk.conv ((C2.out.far (p := ⟨gO, 0, none⟩) m1 _).set_ 0 _) (by simp [ints_set])
                      · exact (C3.out.far (p := ⟨gO, 0, none⟩) m2 _).far (p := ⟨gS, 0, none⟩) m3 _
                      · exact own_kp (by simpa [ints] using HO4.out) HKX (fun i e x => by have := (own_bad HO4.out i e).1; have := HG.out; omega)
                    case measure => simp [intOf]; omega
              · as_aux_lemma =>
                  have e0 : ((wi : Int) == 0) = false := beq_eq_false_iff_ne.2 (by omega)
                  have e1 : ¬ wi = 0 := by omega
                  have HB := Lib.hid (begin_steal gd gc d own wr HWk.out.at_ hpos wi hp mp (T : Int))
                  go_wp2_with fail
                  refine HB.out.mono ?_
                  intro e w2 hbe
                  have hwk2 := HWk.out.begun_th hp HE.out hbe hsz
                  obtain ⟨he1, _, _, hk2⟩ := hbe
                  subst he1
                  obtain ⟨g, hg⟩ : ∃ g, g = wr.heap.size := ⟨_, rfl⟩
                  have ngd : ∀ i, (∃ cs, Blk wr i 3 cs) → i ≠ gd := fun i ⟨cs, hc⟩ => Blk.ne_ hc HWk.out.at_.hdr (by decide)
                  have b1 := HBo.out.kp hk2 (Blk.ne_ HBo.out HWk.out.at_.hdr (by decide))
                  have b2 := HBs.out.kp hk2 (Blk.ne_ HBs.out HWk.out.at_.hdr (by decide))
                  have b3 := HBn.out.kp hk2 (Blk.ne_ HBn.out HWk.out.at_.hdr (by decide))
                  have hown2 := own_kp HOw.out hk2 (fun i e => ngd i (own_bad HOw.out i e).2)
                  have cb : w2.cell? ⟨ad.block, (ad.add (k * 2)).off + 1, none⟩ = some (.bool mp) := by
                    rw [hk2.cell (by dsimp only; omega) (by dsimp only; have := HWk.out.ld; omega)]; exact c1
                  have HWk2 := Lib.hid hwk2
                  have HK2 := Lib.hid (HKk.out.trans' hk2 (bad := fun _ => False) (fun i hi e => by have := HWk.out.ld; omega))
                  have hz2 := hk2.size
                  have hBz2 : B ≤ w2.heap.size := by omega
                  have HO2 := Lib.hid hown2
                  have B1 := Lib.hid b1
                  have B2 := Lib.hid b2
                  have B3 := Lib.hid b3
                  have HBz := Lib.hid hBz2
                  have HWk4 := HWk2
                  have HK4 := HK2
                  have HO4 := HO2
                  obtain ⟨w4, rfl⟩ : ∃ w4, w4 = w2 := ⟨_, rfl⟩
                  clear hwk2 hk2 hg c1 hown2 ngd
                  obtain ⟨v2, hv2⟩ : ∃ v, since[wi]? = some v := ⟨_, List.getElem?_eq_getElem (by have := HS7.out; omega)⟩
                  have q1 := b1.get wi (v := .pointer none) (by simp [HE.out, ptrV])
                  have q2 := b2.get wi (v := .int .i64 v2) (by simpa using ints_get hv2)
                  have z1 := b1.frozen wi
                  have z2 := b2.frozen wi
                  have l1 := b1.lt
                  have l2 := b2.lt
                  have C1 := Lib.hid b1
                  have C2 := Lib.hid b2
                  have C3 := Lib.hid b3
                  clear b1 b2 b3 hv2
                  go_wp2_with fail
                  go_roundw
                  case rel =>
                    have HKX := ((Kp.refl (fun i => i = gO ∨ i = gS) w4).setCell (p := ⟨gO, wi, none⟩) (.inl (.inl rfl)) (.pointer (some ⟨wr.heap.size, 0, none⟩))).setCell (p := ⟨gS, wi, none⟩) (.inl (.inr rfl)) (.int .i64 gets)
                    refine ⟨k + 1, d, own, o, hs.set wi (some (wr.heap.size, opSteal)), T, gets, last, since.set wi gets, seen, ord, by omega, by go_num, rfl, rfl, by go_num, Lib.hid ⟨HWk4.out.kp HKX ?_, HOb.out.steal hkL hp _, ?_, ?_, ?_, ?_, HSL.out, HK4.out.trans' HKX (fun i h e => by have := HG.out; omega)⟩⟩
                    · intro i _ hbad
                      rcases hbad with x | x
                      · rw [x]; exact .inr ⟨_, _, C1.out, by decide, by decide, by decide⟩
                      · rw [x]; exact .inr ⟨_, _, C2.out, by decide, by decide, by decide⟩
                    · exact Blk.conv ((C1.out.set_ wi _).far (p := ⟨gS, wi, none⟩) n1 _) (by simp [ptrV, List.map_set])
                    · exact Blk.conv ((C2.out.far (p := ⟨gO, wi, none⟩) m1 _).set_ wi _) (by simp [ints_set])
                    · exact (C3.out.far (p := ⟨gO, wi, none⟩) m2 _).far (p := ⟨gS, wi, none⟩) m3 _
                    · exact own_kp (by simpa [ints] using HO4.out) HKX (fun i e x => by have := (own_bad HO4.out i e).1; have := HG.out; omega)
                  case measure => simp [intOf]; omega
            · have hd4 : decide ((l.length : Int) ≤ (k : Int)) = true := decide_eq_true (by omega)
              have hd5 : decide (l.length ≤ k) = true := decide_eq_true (by omega)
              go_wp2_with fail
              go_roundw
              case rel => exact ⟨k + 1, d, own, o, hs, T, gets, last, since, seen, ord, by omega, rfl, rfl, rfl, by go_num, Lib.hid ⟨HWk.out.more, HOb.out.idle HWI.out (by omega) HE.out, HBo.out, HBs.out, HBn.out, HOw.out, HSL.out, HKk.out⟩⟩
              case measure => simp [intOf]; omega
          · have co : wr.cell? ⟨gO, wi, none⟩ = some (.pointer (some ⟨g, 0, none⟩)) := HBo.out.get wi (by simp [HE.out, ptrV])
            obtain ⟨hpc, hpc14, _⟩ := HOb.out.pc wi g h HE.out
            have hx := HWk.out.each wi g h HE.out
            have hh0 : h.how = 0 := by have := hx.done; omega
            have hcd : k ≤ 100000 := by omega
            have hl1 : d.sl.length ≤ 1000000 := by have := HSL.out; omega
            have HS := Lib.hid (HWk.out.step hcd hl1 HE.out hpc)
            have hth : 0 < wi → ThOk d o h ∧ 11 ≤ h.pc := fun hp => ⟨(hx.th hp).2, by have := (hx.th hp).1; omega⟩
            have hths : ∀ (i g : Nat) (t : Dop), 0 < i → hs[i]? = some (some (g, t)) → ThOk d o t := fun i g t hp e => ((HWk.out.each i g t e).th hp).2
            have h0o : wi = 0 → h = o := fun hz => by subst hz; exact (HWk.out.own1 g h HE.out).2
            have htl : Tells (dstep d h).1 (dstep d h).2.1 := by
              rcases Nat.eq_zero_or_pos wi with hz | hp
              · have e := h0o hz
                rw [e]
                exact own_tells HWk.out.ok (by rw [← e]; exact hpc) (by rw [← e]; exact hh0)
              · exact th_tells HWk.out.ok (hth hp).1 (hth hp).2 hh0
            obtain ⟨s, hs0⟩ : ∃ s, since[wi]? = some s := ⟨_, List.getElem?_eq_getElem (by have := HS7.out; omega)⟩
            have HOS := Lib.hid (once_step (i := wi) (gets := gets) (s := s) HWk.out.ok h0o hth hpc hh0 htl HOb.out.on (fun hp => HOb.out.rob wi g h s hp HE.out hs0))
            have hp14 : (dstep d h).2.1.pc ≤ 14 := step_pc14 d h hpc hpc14
            have hDN : (dstep d h).2.1.pc = 0 ↔ (dstep d h).2.1.how ≠ 0 := htl.done
            have HGO : Hid ((dstep d h).2.1.how = 0 → Ob l.length (k + 1) (dstep d h).1 (if wi = 0 then (dstep d h).2.1 else o) (hs.set wi (some (g, (dstep d h).2.1))) T gets last since seen ord) := Lib.hid (fun e => by
              have hp : (dstep d h).2.1.pc ≠ 0 := fun x => (hDN.1 x) e
              refine HOb.out.goes HWI.out HE.out HWk.out.ok hth hths (HOS.out.goes e) hp hp14 (fun hp0 => ?_)
              rcases th_top HWk.out.ok (hth hp0).1 (hth hp0).2 with x | ⟨_, x, _⟩
              · exact x
              · exact absurd x hp)
            have HEN : Hid (∀ seen' last', (dstep d h).2.1.how ≠ 0 → On (dstep d h).1 (if wi = 0 then (dstep d h).2.1 else o) T seen' last' → seen'.length = seen.length → Ob l.length (k + 1) (dstep d h).1 (if wi = 0 then (dstep d h).2.1 else o) (hs.set wi none) T (if (dstep d h).2.1.how = 2 then gets + 1 else gets) last' since seen' ord) := Lib.hid (fun seen' last' e hon hm => by
              refine HOb.out.ends HWI.out HE.out HWk.out.ok hths hon (hDN.2 e) hm (fun hp0 => ?_)
              rcases th_top HWk.out.ok (hth hp0).1 (hth hp0).2 with x | ⟨x, _, y⟩
              · exact .inl x
              · exact .inr ⟨x, y⟩)
            have hsl2 : (dstep d h).1.sl.length = n := by rw [step_len]; exact HSL.out
            have HDN := Lib.hid hDN
            have HS0 := Lib.hid hs0
            have HX := Lib.hid hx
            have HLO := Lib.hid HOb.out.lo
            have hsn := HOb.out.sn wi s hs0
            have H0O := Lib.hid h0o
            have HBS := Lib.hid hx.base
            have HOPW := Lib.hid hx.at_
            clear hpc14 hx hh0 hcd hl1 hth hths h0o htl hs0 hp14 hDN hpc
            generalize dstep d h = st at HS HOS HGO HEN hsl2 HDN
            obtain ⟨d2, h2, a1, a2⟩ := st
            dsimp only at HS HOS HGO HEN hsl2 HDN
            go_wp2_with fail
            refine HS.out.mono ?_
            rintro e w2 ⟨rfl, hwk2, _, hk2⟩
            have nb : ∀ (g' : Nat) (t : TypeId) (cs : Array Value), Blk wr g' t cs → t ≠ 73 → t ≠ 67 → ¬ (g' = gc ∨ g' = g) := fun g' t cs hb x1 x2 => by
              rintro (x | x)
              · subst x; exact Blk.ne_ hb HWk.out.at_.cel x1 rfl
              · subst x; exact Blk.ne_ hb HOPW.out x2 rfl
            have B1 := Lib.hid (HBo.out.kp hk2 (nb _ _ _ HBo.out (by decide) (by decide)))
            have B2 := Lib.hid (HBs.out.kp hk2 (nb _ _ _ HBs.out (by decide) (by decide)))
            have B3 := Lib.hid (HBn.out.kp hk2 (nb _ _ _ HBn.out (by decide) (by decide)))
            have HO2 := Lib.hid (own_kp HOw.out hk2 (fun i e => by obtain ⟨_, cs, hc⟩ := own_bad HOw.out i e; exact nb _ _ _ hc (by decide) (by decide)))
            have HKs := Lib.hid (HKk.out.trans' hk2 (bad := fun _ => False) (fun i hi e => by
              rcases e with e | e
              · have := HWk.out.lc; omega
              · have := HBS.out; omega))
            have HOP := Lib.hid (hwk2.each wi g h2 (List.getElem?_set_self (by have := H7.out; omega))).at_
            obtain ⟨H, hH⟩ : ∃ H, H = h2.how := ⟨_, rfl⟩
            obtain ⟨X, hX⟩ : ∃ X, X = (told h2).2 := ⟨_, rfl⟩
            have HTO : Hid (∀ W, OpAt W g gd h2 → Calls Try.prog 17 #[.pointer (some ⟨g, 0, none⟩)] W fun e w' => e = .returned (.tuple #[.int .u8 (H : Int), .int .i64 X]) ∧ Kp (fun _ => False) W w') := Lib.hid (fun W ha => by rw [hH, hX]; exact told_any g gd h2 W ha)
            have HX2 : Hid (H = 2 → X = h2.x) := Lib.hid (fun e => by rw [hX]; unfold told; rw [← hH]; simp [e])
            rw [← hH] at HGO HEN HDN
            have HHH := Lib.hid hH
            have hH5 : H ≤ 5 := by rw [hH]; exact HOS.out.hw
            have HWk2 := Lib.hid hwk2
            have qo : w2.cell? ⟨gO, wi, none⟩ = some (.pointer (some ⟨g, 0, none⟩)) := B1.out.get wi (by simp [HE.out, ptrV])
            have hBz2 : B ≤ w2.heap.size := by have := hk2.size; omega
            clear hwk2 hk2 nb hH hX co lO lS lN HS
            go_wp2_with fail
            have HC5 := HTO.out _ HOP.out
            with_reducible refine HC5.mono ?_
            rintro e w3 ⟨rfl, hk3⟩
            have C1 := Lib.hid (B1.out.kp hk3 id)
            have C2 := Lib.hid (B2.out.kp hk3 id)
            have C3 := Lib.hid (B3.out.kp hk3 id)
            have HWk3 := Lib.hid (HWk2.out.kp hk3 (fun _ _ h => h.elim))
            have HK3 := Lib.hid (HKs.out.trans hk3)
            have HO3 := Lib.hid (own_kp HO2.out hk3 (fun _ _ => id))
            have lO := C1.out.lt
            have lS := C2.out.lt
            have lN := C3.out.lt
            have z1 := C1.out.frozen wi
            have s1 : w3.cell? ⟨gO, wi, none⟩ = some (.pointer (some ⟨g, 0, none⟩)) := C1.out.get wi (by simp [HE.out, ptrV])
            clear hk3 HC5 qo hBz2 HTO
            have n7 : wi < hs.length := by have := H7.out; omega
            have N7 := Lib.hid n7
            clear n7
            by_cases h0 : H = 0
            · as_aux_lemma =>
                have f0 : ((H : Int) == 0) = true := beq_iff_eq.2 (by omega)
                have HH0 := Lib.hid h0
                clear h0
                go_wp2_with fail
                go_roundw
                case rel =>
                  refine ⟨k + 1, d2, own, (if wi = 0 then h2 else o), hs.set wi (some (g, h2)), T, gets, last, since, seen, ord, by omega, rfl, rfl, rfl, by go_num, Lib.hid ⟨HWk3.out, HGO.out HH0.out, ?_, C2.out, C3.out, HO3.out, hsl2, HK3.out⟩⟩
                  refine Blk.conv C1.out ?_
                  rw [List.map_set, show ptrV (some (g, h2)) = ptrV (some (g, h)) from rfl, ← List.map_set, set_same hs HE.out]
                case measure => simp [intOf]; omega
            · have f0 : ((H : Int) == 0) = false := beq_eq_false_iff_ne.2 (by omega)
              have HH0 := Lib.hid h0
              have hdr := HWk3.out.drop (i := wi) (g := g) (h := h2) (List.getElem?_set_self N7.out) (HDN.out.2 h0)
              rw [List.set_set] at hdr
              have HDR := Lib.hid hdr
              clear h0 hdr HGO
              by_cases h1 : H = 1
              · as_aux_lemma =>
                  have f1 : ((H : Int) == 1) = true := beq_iff_eq.2 (by omega)
                  have f2 : ((H : Int) == 2) = false := beq_eq_false_iff_ne.2 (by omega)
                  have f4 : ((H : Int) == 4) = false := beq_eq_false_iff_ne.2 (by omega)
                  have HH2 : Hid (¬ H = 2) := Lib.hid (by omega)
                  obtain ⟨hz, hp4, hxx, hsn0, hon⟩ := HOS.out.put (by rw [← HHH.out]; exact h1)
                  have HON := Lib.hid hon
                  obtain ⟨e1, z, hlast, hz4, _⟩ := HLO.out g h (by rw [← hz]; exact HE.out)
                  have hzx : z = h2.x := by rw [hxx]; exact hz4 (by omega)
                  obtain ⟨y, hy⟩ : ∃ y : Nat, h2.x = (y : Int) := ⟨h2.x.toNat, by have := hsn0.1; omega⟩
                  rw [hzx, hy] at hlast
                  rw [hy] at HON hsn0
                  have hyl : y < seen.length := by have := (List.getElem?_eq_some_iff.1 hsn0.2).1; simpa using this
                  have hyL : y < l.length + 1 := by have := HMM.out; omega
                  have hyI : (y : Int) < (l.length : Int) + 1 := by omega
                  have hsy : w3.cell? ⟨gN, y, none⟩ = some (.int .i64 0) := C3.out.get y (by have := hsn0.2; simpa using ints_get this)
                  have zy := C3.out.frozen y
                  obtain ⟨gq, cap, hov, _, hlt⟩ := World.ownsRow.form HO3.out (by cases ord with | nil => simp at hlast | cons a t => simp)
                  obtain ⟨p, hp⟩ : ∃ p, ord.length = p + 1 := ⟨ord.length - 1, by cases ord with | nil => simp at hlast | cons a t => simp⟩
                  have hcq : w3.cell? ⟨gq, p, none⟩ = some (.int .i64 (y : Int)) := by
                    have := HO3.out.cells (g := gq) (by rw [hov]; rfl) p (.int .i64 (y : Int)) (ints_get (by rw [List.getLast?_eq_getElem?, hp] at hlast; simpa using hlast))
                    rw [show ((⟨gq, 0, none⟩ : Addr).add p) = ⟨gq, p, none⟩ from by unfold Addr.add; split <;> simp_all] at this
                    exact this
                  have hgq : gq ≠ gO := by have := (own_bad HO3.out gq (by rw [hov]; rfl)).1; have := HG.out; omega
                  have hgq2 : gq ≠ gN := by have := (own_bad HO3.out gq (by rw [hov]; rfl)).1; have := HG.out; omega
                  have hwp : IntKind.i64.wrap ((p : Int) + 1 - 1) = (p : Int) := by rw [show (p : Int) + 1 - 1 = (p : Int) by omega]; exact IntWalk.i64_in _ ⟨by omega, by omega⟩
                  have hwp2 : IntKind.i64.wrap (p : Int) = (p : Int) := IntWalk.i64_in _ ⟨by omega, by omega⟩
                  have hyn : decide ((y : Int) < 0) = false := decide_eq_false (by omega)
                  have hpl : (p : Int) < (p : Int) + 1 := by omega
                  have w0 : ((wi : Int) == 0) = true := beq_iff_eq.2 (by omega)
                  have w0' : ((wi : Int) != 0) = false := by rw [bne, w0]; rfl
                  rw [hp] at hov
                  subst hov
                  have HP := Lib.hid hp
                  have HY := Lib.hid hy
                  clear hz hp4 hxx hsn0 hon h1 e1 hz4 hzx hlast hyl hp hy
                  go_wp2_with fail
                  go_roundw
                  case rel =>
                    have HKX := (((Kp.refl (fun i => i = gO ∨ i = gN) w3).setCell (p := ⟨gO, wi, none⟩) (.inl (.inl rfl)) (.pointer none)).setCell (p := ⟨gN, y, none⟩) (.inl (.inr rfl)) (.int .i64 1))
                    refine ⟨k + 1, d2, own, (if wi = 0 then h2 else o), hs.set wi none, T, gets, last, since, (snSet seen (y : Int) 1), ord, by omega, rfl, rfl, rfl, by go_num, Lib.hid ⟨HDR.out.kp HKX ?_, ?_, ?_, ?_, ?_, ?_, hsl2, HK3.out.trans' HKX (fun i h e => by have := HG.out; omega)⟩⟩
                    · intro i _ hbad
                      rcases hbad with x | x
                      · rw [x]; exact .inr ⟨_, _, C1.out, by decide, by decide, by decide⟩
                      · rw [x]; exact .inr ⟨_, _, C3.out, by decide, by decide, by decide⟩
                    · have := HEN.out _ _ HH0.out (HON.out) (by simp [snSet])
                      rw [if_neg HH2.out] at this
                      exact this
                    · exact Blk.conv ((C1.out.set_ wi _).far (p := ⟨gN, y, none⟩) n2 _) (by simp [ptrV, List.map_set])
                    · exact ((C2.out.far (p := ⟨gO, wi, none⟩) m1 _).far (p := ⟨gN, y, none⟩) n3 _)
                    · exact Blk.conv ((C3.out.far (p := ⟨gO, wi, none⟩) m2 _).set_ y _) (by rw [show snSet seen (y : Int) 1 = seen.set y 1 from rfl]; simp [ints_set])
                    · exact own_kp HO3.out HKX (fun i e x => by have := (own_bad HO3.out i e).1; have := HG.out; omega)
                  case measure => simp [intOf]; omega
              by_cases h2h : H = 2
              · skip
                obtain ⟨hs1, hlx, hon⟩ := HOS.out.got (by rw [← HHH.out]; exact h2h)
                obtain ⟨y, hy⟩ : ∃ y : Nat, h2.x = (y : Int) := ⟨h2.x.toNat, by have := hs1.1; omega⟩
                have hXy : X = (y : Int) := by rw [HX2.out h2h]; exact hy
                rw [hy] at hs1 hlx hon
                subst hXy
                have HON := Lib.hid hon
                have hyl : y < seen.length := by have := (List.getElem?_eq_some_iff.1 hs1.2).1; simpa using this
                have hyL : y < l.length + 1 := by have := HMM.out; omega
                have hyI : (y : Int) < (l.length : Int) + 1 := by omega
                have hsy : w3.cell? ⟨gN, y, none⟩ = some (.int .i64 1) := C3.out.get y (by have := hs1.2; simpa using ints_get this)
                have zy := C3.out.frozen y
                have hyn : decide ((y : Int) < 0) = false := decide_eq_false (by omega)
                have hyg : decide ((l.length : Int) + 1 ≤ (y : Int)) = false := decide_eq_false (by omega)
                clear hs1 hon hyl hy
                rcases Nat.eq_zero_or_pos wi with hz | hp0
                · as_aux_lemma =>
                    have f1 : ((H : Int) == 1) = false := beq_eq_false_iff_ne.2 (by omega)
                    have f2 : ((H : Int) == 2) = true := beq_iff_eq.2 (by omega)
                    have f4 : ((H : Int) == 4) = false := beq_eq_false_iff_ne.2 (by omega)
                    have HH2 : Hid (H = 2) := Lib.hid (by omega)
                    have w0 : decide ((0 : Int) < (wi : Int)) = false := decide_eq_false (by omega)
                    have w1 : decide (0 < wi) = false := decide_eq_false (by omega)
                    have hon2 := HON.out
                    rw [if_pos hz] at hon2
                    rw [if_pos hz] at hon2
                    have HON2 : Hid (On d2 (if wi = 0 then h2 else o) T (snSet seen (y : Int) 2) last) := Lib.hid (by rw [if_pos hz]; exact hon2)
                    clear hz h1 h2h hlx hon2
                    go_wp2_with fail
                    go_roundw
                    case rel =>
                      have HKX := (((Kp.refl (fun i => i = gO ∨ i = gN) w3).setCell (p := ⟨gO, wi, none⟩) (.inl (.inl rfl)) (.pointer none)).setCell (p := ⟨gN, y, none⟩) (.inl (.inr rfl)) (.int .i64 2))
                      refine ⟨k + 1, d2, own, (if wi = 0 then h2 else o), hs.set wi none, T, (gets + 1), last, since, (snSet seen (y : Int) 2), ord, by omega, rfl, rfl, rfl, by go_num, Lib.hid ⟨HDR.out.kp HKX ?_, ?_, ?_, ?_, ?_, ?_, hsl2, HK3.out.trans' HKX (fun i h e => by have := HG.out; omega)⟩⟩
                      · intro i _ hbad
                        rcases hbad with x | x
                        · rw [x]; exact .inr ⟨_, _, C1.out, by decide, by decide, by decide⟩
                        · rw [x]; exact .inr ⟨_, _, C3.out, by decide, by decide, by decide⟩
                      · have := HEN.out _ _ HH0.out (HON2.out) (by simp [snSet])
                        rw [if_pos HH2.out] at this
                        exact this
                      · exact Blk.conv ((C1.out.set_ wi _).far (p := ⟨gN, y, none⟩) n2 _) (by simp [ptrV, List.map_set])
                      · exact ((C2.out.far (p := ⟨gO, wi, none⟩) m1 _).far (p := ⟨gN, y, none⟩) n3 _)
                      · exact Blk.conv ((C3.out.far (p := ⟨gO, wi, none⟩) m2 _).set_ y _) (by rw [show snSet seen (y : Int) 2 = seen.set y 2 from rfl]; simp [ints_set])
                      · exact own_kp HO3.out HKX (fun i e x => by have := (own_bad HO3.out i e).1; have := HG.out; omega)
                    case measure => simp [intOf]; omega
                · as_aux_lemma =>
                    have f1 : ((H : Int) == 1) = false := beq_eq_false_iff_ne.2 (by omega)
                    have f2 : ((H : Int) == 2) = true := beq_iff_eq.2 (by omega)
                    have f4 : ((H : Int) == 4) = false := beq_eq_false_iff_ne.2 (by omega)
                    have HH2 : Hid (H = 2) := Lib.hid (by omega)
                    have w0 : decide ((0 : Int) < (wi : Int)) = true := decide_eq_true (by omega)
                    have w1 : decide (0 < wi) = true := decide_eq_true (by omega)
                    have hxl : decide ((y : Int) ≤ last) = false := decide_eq_false (by have := hlx hp0; omega)
                    have hon2 := HON.out
                    have HON2 : Hid (On d2 (if wi = 0 then h2 else o) T (snSet seen (y : Int) 2) (y : Int)) := Lib.hid (by rw [if_neg (show ¬ wi = 0 by omega)] at hon2 ⊢; rw [if_neg (show ¬ wi = 0 by omega)] at hon2; exact hon2)
                    clear hp0 h1 h2h hlx hon2
                    go_wp2_with fail
                    go_roundw
                    case rel =>
                      have HKX := (((Kp.refl (fun i => i = gO ∨ i = gN) w3).setCell (p := ⟨gO, wi, none⟩) (.inl (.inl rfl)) (.pointer none)).setCell (p := ⟨gN, y, none⟩) (.inl (.inr rfl)) (.int .i64 2))
                      refine ⟨k + 1, d2, own, (if wi = 0 then h2 else o), hs.set wi none, T, (gets + 1), (y : Int), since, (snSet seen (y : Int) 2), ord, by omega, rfl, rfl, rfl, by go_num, Lib.hid ⟨HDR.out.kp HKX ?_, ?_, ?_, ?_, ?_, ?_, hsl2, HK3.out.trans' HKX (fun i h e => by have := HG.out; omega)⟩⟩
                      · intro i _ hbad
                        rcases hbad with x | x
                        · rw [x]; exact .inr ⟨_, _, C1.out, by decide, by decide, by decide⟩
                        · rw [x]; exact .inr ⟨_, _, C3.out, by decide, by decide, by decide⟩
                      · have := HEN.out _ _ HH0.out (HON2.out) (by simp [snSet])
                        rw [if_pos HH2.out] at this
                        exact this
                      · exact Blk.conv ((C1.out.set_ wi _).far (p := ⟨gN, y, none⟩) n2 _) (by simp [ptrV, List.map_set])
                      · exact ((C2.out.far (p := ⟨gO, wi, none⟩) m1 _).far (p := ⟨gN, y, none⟩) n3 _)
                      · exact Blk.conv ((C3.out.far (p := ⟨gO, wi, none⟩) m2 _).set_ y _) (by rw [show snSet seen (y : Int) 2 = seen.set y 2 from rfl]; simp [ints_set])
                      · exact own_kp HO3.out HKX (fun i e x => by have := (own_bad HO3.out i e).1; have := HG.out; omega)
                    case measure => simp [intOf]; omega
              by_cases h4 : H = 4
              · skip
                obtain ⟨hp0, hrob⟩ := HOS.out.lost (by rw [← HHH.out]; exact h4)
                have HON := Lib.hid (HOS.out.els (by rw [← HHH.out]; omega))
                have hsc : w3.cell? ⟨gS, wi, none⟩ = some (.int .i64 s) := C2.out.get wi (by simpa using ints_get HS0.out)
                by_cases hgs : s < gets
                · as_aux_lemma =>
                    have f1 : ((H : Int) == 1) = false := beq_eq_false_iff_ne.2 (by omega)
                    have f2 : ((H : Int) == 2) = false := beq_eq_false_iff_ne.2 (by omega)
                    have f4 : ((H : Int) == 4) = true := beq_iff_eq.2 (by omega)
                    have HH2 : Hid (¬ H = 2) := Lib.hid (by omega)
                    have w0 : (gets == s) = false := beq_eq_false_iff_ne.2 (by omega)
                    clear hp0 hrob h1 h2h h4 hgs
                    go_wp2_with fail
                    go_roundw
                    case rel =>
                      have HKX := ((Kp.refl (fun i => i = gO ∨ i = gN) w3).setCell (p := ⟨gO, wi, none⟩) (.inl (.inl rfl)) (.pointer none))
                      refine ⟨k + 1, d2, own, (if wi = 0 then h2 else o), hs.set wi none, T, gets, last, since, seen, ord, by omega, rfl, rfl, rfl, by go_num, Lib.hid ⟨HDR.out.kp HKX ?_, ?_, ?_, ?_, ?_, ?_, hsl2, HK3.out.trans' HKX (fun i h e => by have := HG.out; omega)⟩⟩
                      · intro i _ hbad
                        rcases hbad with x | x
                        · rw [x]; exact .inr ⟨_, _, C1.out, by decide, by decide, by decide⟩
                        · rw [x]; exact .inr ⟨_, _, C3.out, by decide, by decide, by decide⟩
                      · have := HEN.out _ _ HH0.out (HON.out) rfl
                        rw [if_neg HH2.out] at this
                        exact this
                      · exact Blk.conv (C1.out.set_ wi _) (by simp [ptrV, List.map_set])
                      · exact (C2.out.far (p := ⟨gO, wi, none⟩) m1 _)
                      · exact (C3.out.far (p := ⟨gO, wi, none⟩) m2 _)
                      · exact own_kp HO3.out HKX (fun i e x => by have := (own_bad HO3.out i e).1; have := HG.out; omega)
                    case measure => simp [intOf]; omega
                · as_aux_lemma =>
                    have f1 : ((H : Int) == 1) = false := beq_eq_false_iff_ne.2 (by omega)
                    have f2 : ((H : Int) == 2) = false := beq_eq_false_iff_ne.2 (by omega)
                    have f4 : ((H : Int) == 4) = true := beq_iff_eq.2 (by omega)
                    have HH2 : Hid (¬ H = 2) := Lib.hid (by omega)
                    obtain ⟨hp10, _⟩ := hrob.resolve_left hgs
                    have w0 : (gets == s) = true := beq_iff_eq.2 (by omega)
                    obtain ⟨e9, he9⟩ : ∃ e, hs[0]? = some e := ⟨_, List.getElem?_eq_getElem (by have := H7.out; omega)⟩
                    rcases e9 with _ | ⟨g9, h9⟩
                    · have := (HWk.out.own0 he9).1; omega
                    obtain ⟨e1, z, hlast, _, hz5⟩ := HLO.out g9 h9 he9
                    have hzm : z = -1 := hz5 (by rw [e1]; omega)
                    rw [hzm] at hlast
                    have c9 : w3.cell? ⟨gO, 0, none⟩ = some (.pointer (some ⟨g9, 0, none⟩)) := C1.out.get 0 (by simp [he9, ptrV])
                    obtain ⟨gq, cap, hov, _, hlt⟩ := World.ownsRow.form HO3.out (by cases ord with | nil => simp at hlast | cons a t => simp)
                    obtain ⟨p, hp⟩ : ∃ p, ord.length = p + 1 := ⟨ord.length - 1, by cases ord with | nil => simp at hlast | cons a t => simp⟩
                    have hcq : w3.cell? ⟨gq, p, none⟩ = some (.int .i64 (-1)) := by
                      have := HO3.out.cells (g := gq) (by rw [hov]; rfl) p (.int .i64 (-1)) (ints_get (by rw [List.getLast?_eq_getElem?, hp] at hlast; simpa using hlast))
                      rw [show ((⟨gq, 0, none⟩ : Addr).add p) = ⟨gq, p, none⟩ from by unfold Addr.add; split <;> simp_all] at this
                      exact this
                    have hgq : gq ≠ gO := by have := (own_bad HO3.out gq (by rw [hov]; rfl)).1; have := HG.out; omega
                    have hwp : IntKind.i64.wrap ((p : Int) + 1 - 1) = (p : Int) := by rw [show (p : Int) + 1 - 1 = (p : Int) by omega]; exact IntWalk.i64_in _ ⟨by omega, by omega⟩
                    have hwp2 : IntKind.i64.wrap (p : Int) = (p : Int) := IntWalk.i64_in _ ⟨by omega, by omega⟩
                    have hpl : (p : Int) < (p : Int) + 1 := by omega
                    have nw : wi ≠ 0 := by omega
                    have nw2 : 0 ≠ wi := by omega
                    rw [hp] at hov
                    subst hov
                    have HP := Lib.hid hp
                    clear hp0 hrob h1 h2h h4 hgs hp10 he9 e1 hz5 hzm hlast hp
                    go_wp2_with fail
                    go_roundw
                    case rel =>
                      have HKX := ((Kp.refl (fun i => i = gO ∨ i = gN) w3).setCell (p := ⟨gO, wi, none⟩) (.inl (.inl rfl)) (.pointer none))
                      refine ⟨k + 1, d2, own, (if wi = 0 then h2 else o), hs.set wi none, T, gets, last, since, seen, ord, by omega, rfl, rfl, rfl, by go_num, Lib.hid ⟨HDR.out.kp HKX ?_, ?_, ?_, ?_, ?_, ?_, hsl2, HK3.out.trans' HKX (fun i h e => by have := HG.out; omega)⟩⟩
                      · intro i _ hbad
                        rcases hbad with x | x
                        · rw [x]; exact .inr ⟨_, _, C1.out, by decide, by decide, by decide⟩
                        · rw [x]; exact .inr ⟨_, _, C3.out, by decide, by decide, by decide⟩
                      · have := HEN.out _ _ HH0.out (HON.out) rfl
                        rw [if_neg HH2.out] at this
                        exact this
                      · exact Blk.conv (C1.out.set_ wi _) (by simp [ptrV, List.map_set])
                      · exact (C2.out.far (p := ⟨gO, wi, none⟩) m1 _)
                      · exact (C3.out.far (p := ⟨gO, wi, none⟩) m2 _)
                      · exact own_kp HO3.out HKX (fun i e x => by have := (own_bad HO3.out i e).1; have := HG.out; omega)
                    case measure => simp [intOf]; omega
              as_aux_lemma =>
                have HON := Lib.hid (HOS.out.els (by rw [← HHH.out]; have := HH0.out; omega))
                have f1 : ((H : Int) == 1) = false := beq_eq_false_iff_ne.2 (by omega)
                have f2 : ((H : Int) == 2) = false := beq_eq_false_iff_ne.2 (by omega)
                have f4 : ((H : Int) == 4) = false := beq_eq_false_iff_ne.2 (by omega)
                have HH2 : Hid (¬ H = 2) := Lib.hid (by omega)
                clear h1 h2h h4
                go_wp2_with fail
                go_roundw
                case rel =>
                  have HKX := ((Kp.refl (fun i => i = gO ∨ i = gN) w3).setCell (p := ⟨gO, wi, none⟩) (.inl (.inl rfl)) (.pointer none))
                  refine ⟨k + 1, d2, own, (if wi = 0 then h2 else o), hs.set wi none, T, gets, last, since, seen, ord, by omega, rfl, rfl, rfl, by go_num, Lib.hid ⟨HDR.out.kp HKX ?_, ?_, ?_, ?_, ?_, ?_, hsl2, HK3.out.trans' HKX (fun i h e => by have := HG.out; omega)⟩⟩
                  · intro i _ hbad
                    rcases hbad with x | x
                    · rw [x]; exact .inr ⟨_, _, C1.out, by decide, by decide, by decide⟩
                    · rw [x]; exact .inr ⟨_, _, C3.out, by decide, by decide, by decide⟩
                  · have := HEN.out _ _ HH0.out (HON.out) rfl
                    rw [if_neg HH2.out] at this
                    exact this
                  · exact Blk.conv (C1.out.set_ wi _) (by simp [ptrV, List.map_set])
                  · exact (C2.out.far (p := ⟨gO, wi, none⟩) m1 _)
                  · exact (C3.out.far (p := ⟨gO, wi, none⟩) m2 _)
                  · exact own_kp HO3.out HKX (fun i e x => by have := (own_bad HO3.out i e).1; have := HG.out; omega)
                case measure => simp [intOf]; omega
      · have hke : l.length + 42 ≤ k := by omega
        have hd1 : decide ((k : Int) < (l.length : Int) + 42) = false := decide_eq_false (by omega)
        have hke2 : k = l.length + 42 := by omega
        have HOb := Lib.hid HC.out.ob
        have hnone : hs[0]? = some none := by
          have h7 := HOb.out.h7
          obtain ⟨e, he⟩ : ∃ e, hs[0]? = some e := ⟨_, List.getElem?_eq_getElem (by omega)⟩
          rcases e with _ | ⟨g, h⟩
          · exact he
          · exfalso
            have hob := HOb.out
            rw [hke2] at hob
            exact hob.none_ 0 g h he
        have hpc0 := (HC.out.wk.own0 hnone).1
        have HLf := Lib.hid (HOb.out.on.left hpc0)
        have HMM := Lib.hid HOb.out.m
        have hbd := HC.out.wk.bd
        have t0 := hbd.t0
        have t1 := hbd.t1
        have b1 := hbd.b1
        have HKk := Lib.hid HC.out.kk
        have HBn := Lib.hid HC.out.bn
        have HT := Lib.hid (tasks_any gd gc d own wr HC.out.wk.at_ HC.out.wk.ok.n (by have := HC.out.sl; omega) t0 (by omega) (by omega))
        have hlen : d.tasks.length ≤ 2000000 := by rw [tasks_len]; unfold Dq.tasksN; omega
        obtain ⟨ll, hll⟩ : ∃ ll, ll = d.tasks := ⟨_, rfl⟩
        rw [← hll] at HT HLf hlen
        have lN := HBn.out.lt
        have hBz : gN < wr.heap.size := lN
        clear hlt hke2 hnone hpc0 hbd t0 t1 b1 hll hke
        go_wp2_with fail
        refine HT.out.mono ?_
        rintro e w2 ⟨A9, c9, rfl, hown, hb⟩
        have hk2 : Kp (fun _ => False) wr w2 := Kp.of_below hb _
        have HO := Lib.hid hown
        have HB2 := Lib.hid (HBn.out.kp hk2 id)
        have HK2 := Lib.hid (HKk.out.trans hk2)
        have HGN := Lib.hid hBz
        have HGL := Lib.hid (show w.heap.size ≤ gN by have := HG.out; omega)
        clear hown hb hk2 HT lN hBz
        go_wp2_with fail
        go_loopw [21] (fun i wx => ∃ (j : Nat) (sn : List Int), j ≤ ll.length ∧ i = .int .i64 j ∧ Hid (Lf ll j sn ∧ sn.length = l.length + 1 ∧ Blk wx gN 3 (ints sn).toArray ∧ wx.ownsRow wr.heap.size 3 1 (.slice A9 ll.length c9) ll.length (ints ll) ∧ Kp (fun _ => False) w wx)) (fun i _ => ll.length - (intOf i).toNat)
        case atStart => exact ⟨0, seen, by omega, rfl, Lib.hid ⟨HLf.out, HMM.out, HB2.out, HO.out, HK2.out⟩⟩
        case round =>
          obtain ⟨j, sn, hj, rfl, HR⟩ := hrel
          obtain ⟨hlf, hsl, hbx, hox, hkx⟩ := HR.out
          by_cases hjl : j < ll.length
          · have hd2 : decide ((j : Int) < (ll.length : Int)) = true := decide_eq_true (by omega)
            have hd2' : decide (j < ll.length) = true := decide_eq_true hjl
            have hji : (j : Int) < (ll.length : Int) := by omega
            have hru := Reads.of_own hox
            obtain ⟨ad, u, rfl, hab, hu, hcu⟩ := hru.at_ hjl
            obtain rfl := ints_at hjl hu
            obtain ⟨hs1, hnx⟩ := hlf.next (List.getElem?_eq_getElem hjl)
            obtain ⟨y, hy⟩ : ∃ y : Nat, ll[j] = (y : Int) := ⟨ll[j].toNat, by have := hs1.1; omega⟩
            rw [hy] at hcu hs1 hnx
            have hyl : y < sn.length := by have := (List.getElem?_eq_some_iff.1 hs1.2).1; simpa using this
            have hyL : y < l.length + 1 := by omega
            have hyI : (y : Int) < (l.length : Int) + 1 := by omega
            have hsy : wr.cell? ⟨gN, y, none⟩ = some (.int .i64 1) := hbx.get y (by have := hs1.2; simpa using ints_get this)
            have zy := hbx.frozen y
            have hyn : decide ((y : Int) < 0) = false := decide_eq_false (by omega)
            have hyg : decide ((l.length : Int) + 1 ≤ (y : Int)) = false := decide_eq_false (by omega)
            have lx := hbx.lt
            have HN := Lib.hid hnx
            have HBX := Lib.hid hbx
            have HOX := Lib.hid hox
            have HKX := Lib.hid hkx
            have HSX := Lib.hid hsl
            clear hlf hsl hbx hox hkx hru hu hs1 hnx hy hyl
            go_wp2_with fail
            go_roundw
            case rel =>
              have hk := (Kp.refl (fun i => i = gN) wr).setCell (p := ⟨gN, y, none⟩) (.inl rfl) (.int .i64 2)
              refine ⟨j + 1, snSet sn (y : Int) 2, by omega, by go_num, Lib.hid ⟨HN.out, by simp [snSet, HSX.out], ?_, ?_, ?_⟩⟩
              · exact Blk.conv (HBX.out.set_ y _) (by rw [show snSet sn (y : Int) 2 = sn.set y 2 from rfl]; simp [ints_set])
              · exact own_kp HOX.out hk (fun i e x => by have := (own_bad HOX.out i e).1; have := HGN.out; omega)
              · exact HKX.out.trans' hk (fun i h e => by have := HGL.out; omega)
            case measure => simp [intOf]; omega
          · have hd2 : decide ((j : Int) < (ll.length : Int)) = false := decide_eq_false (by omega)
            have hd2' : decide (j < ll.length) = false := decide_eq_false (by omega)
            have hje : ll.length ≤ j := by omega
            have HV : Hid (∀ (i : Nat) (v : Int), sn[i]? = some v → v ≠ 1) := Lib.hid (fun i v e hv => by
              subst hv
              obtain ⟨q, hq, hq2⟩ := (hlf.one (i : Int)).1 ⟨by omega, by simpa using e⟩
              have := (List.getElem?_eq_some_iff.1 hq2).1
              omega)
            have HBX := Lib.hid hbx
            have HKX := Lib.hid hkx
            have HSX := Lib.hid hsl
            clear hlf hsl hbx hox hkx hjl hje
            go_wp2_with fail
            go_loop [22] (fun i => ∃ q : Nat, q ≤ l.length + 1 ∧ i = .int .i64 q) (fun i => l.length + 1 - (intOf i).toNat)
            case atStart => exact ⟨0, by omega, rfl⟩
            case round =>
              obtain ⟨q, hq, rfl⟩ := hrel
              by_cases hql : q < l.length + 1
              · have hd3 : decide ((q : Int) < (l.length : Int) + 1) = true := decide_eq_true (by omega)
                have hqi : (q : Int) < (l.length : Int) + 1 := by omega
                obtain ⟨v, hv⟩ : ∃ v, sn[q]? = some v := ⟨_, List.getElem?_eq_getElem (by have := HSX.out; omega)⟩
                have hc := HBX.out.get q (v := .int .i64 v) (by simpa using ints_get hv)
                have hv1 : (v == 1) = false := beq_eq_false_iff_ne.2 (HV.out q v hv)
                have hwq : IntKind.i64.wrap ((q : Int) + 1) = (q : Int) + 1 := IntWalk.i64_in _ ⟨by omega, by omega⟩
                clear hv
                go_wp2_with fail
                go_round
                case rel => exact ⟨q + 1, by omega, by go_num⟩
                case measure => simp [intOf]; omega
              · have hd3 : decide ((q : Int) < (l.length : Int) + 1) = false := decide_eq_false (by omega)
                clear hql
                go_wp2_with fail
                refine (HW.out _).mono ?_
                rintro e w6 ⟨rfl, hk6⟩
                have K6 := Lib.hid hk6
                clear hk6
                go_wp2_with fail
                go_ret
                exact ⟨rfl, HKX.out.trans K6.out⟩
end Go.Proofs.Ytdigjppdgiapfaa
