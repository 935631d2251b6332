/- The program's trees: Check, exactly. -/
import Derived.Test.YtjhfcpadnofdnaaGreatPch
import Derived.Test.YtjhfcpadnofdnaaGreatApp
import Derived.Deep.DeepCutAuto
import Derived.Deep.CutRange
import Derived.Deep.CutBlock
import Derived.Scope
import Derived.WalkMore
set_option linter.unusedSimpArgs false
set_option linter.unusedVariables false
namespace Go.Proofs.YtjhfcpadnofdnaaGreat
open Go.RowKit
attribute [local go_sem] block_of_add
/-- The open nodes ahead of a node, the nearest first. -/
def opnR (l : List Nd) (i : Nat) : List Int := if i = 0 then [] else stF l (i - 1)
theorem opnR_succ (l : List Nd) (i : Nat) : opnR l (i + 1) = stF l i := by unfold opnR; rw [if_neg (by omega)]; rfl
theorem opn_hit {l : List Nd} {i k : Nat} {P : Int} (hi : i < l.length) (hP : l[i].parent = P) (hk : k < (opnR l i).length) (he : (opnR l i)[k] = P) (hn : ∀ q (h : q < (opnR l i).length), q < k → (opnR l i)[q] ≠ P) :
    ParOk l i P ∧ (opnR l i).drop k = anc l i := by
  by_cases h0 : i = 0
  · subst h0; simp [opnR] at hk
  · have hR : opnR l i = stF l (i - 1) := by unfold opnR; rw [if_neg h0]
    rw [hR] at hk
    have hm : P ∈ stF l (i - 1) := by rw [← he]; simp only [hR]; exact List.getElem_mem _
    obtain ⟨p, rfl⟩ := Int.eq_ofNat_of_zero_le (st_lt l hm).1
    have hlt := (st_lt l hm).2
    have hpo : ParOk l i (p : Int) := by
      refine .inr ⟨by omega, by omega, by omega, ?_⟩
      rcases List.mem_cons.1 hm with h | h
      · left; omega
      · exact .inr h
    refine ⟨hpo, ?_⟩
    have hpf : parF l i = p := by unfold parF; rw [List.getElem?_eq_getElem hi]; simp only [hP]; rw [if_pos ⟨by omega, by omega⟩]
    obtain ⟨pre, h1, h2⟩ := st_split l (i - 1) p hm
    have hkp : k = pre.length := by
      rcases Nat.lt_trichotomy k pre.length with h | h | h
      · exfalso
        have := h2 (pre[k]) (List.getElem_mem h)
        have he' : (opnR l i)[k] = pre[k] := by simp only [hR, h1]; rw [List.getElem_append_left h]
        rw [he'] at he; omega
      · exact h
      · exfalso
        have hpl : pre.length < (opnR l i).length := by rw [hR, h1, List.length_append]; simp [stF]
        refine hn pre.length hpl h ?_
        simp only [hR, h1]
        rw [List.getElem_append_right (Nat.le_refl _)]
        simp [stF]
    rw [hR, h1, hkp, List.drop_left, anc_some hpf]
    rfl
theorem opn_miss {l : List Nd} {i : Nat} {P : Int} (h0 : 0 < i) (hn : ∀ q (h : q < (opnR l i).length), (opnR l i)[q] ≠ P) : ¬ ParOk l i P := by
  intro h
  have hR : opnR l i = stF l (i - 1) := by unfold opnR; rw [if_neg (by omega)]
  have hm : P ∈ stF l (i - 1) := by
    rcases h with h | ⟨_, _, _, h | h⟩
    · omega
    · unfold stF; rw [List.mem_cons]; left; omega
    · exact List.mem_cons_of_mem _ h
  obtain ⟨q, hq, e⟩ := List.getElem_of_mem hm
  exact hn q (by rw [hR]; exact hq) (by simp only [hR]; exact e)
theorem own_pre {w : World} {base g n c k : Nat} {e : TypeId} {xs : List Value} (h : w.ownsRow base e 1 (.slice (some ⟨g, 0, none⟩) n c) n xs) (hk : k ≤ n) : w.ownsRow base e 1 (.slice (some ⟨g, 0, none⟩) k c) k (xs.take k) := by
  obtain ⟨h1, h2⟩ := h
  rcases h2 with ⟨h2, _⟩ | ⟨g', cap, cur, hv, hb, hh, hc, hm, hs, ht⟩
  · cases h2
  · injection hv with e1 e2 e3
    injection e1 with e1
    injection e1 with e1
    subst e1 e3
    refine ⟨by rw [List.length_take, h1]; omega, .inr ⟨g, c, cur, rfl, hb, hh, by omega, hm, hs, ?_⟩⟩
    rw [Nat.mul_one] at ht ⊢
    rw [← ht, List.take_take, Nat.min_eq_left hk]
theorem own_addrP {w : World} {base : Nat} {e : TypeId} {n c : Nat} {A : Option Addr} {xs : List Value} (h : w.ownsRow base e 1 (.slice A n c) n xs) (h0 : 0 < n) : ∃ g, A = some ⟨g, 0, none⟩ := by
  obtain ⟨g, c', e2, _⟩ := h.form h0
  injection e2 with e2
  exact ⟨g, e2⟩
theorem own_atP {w : World} {base g : Nat} {e : TypeId} {n c j : Nat} {xs : List Value} {u : Value} (h : w.ownsRow base e 1 (.slice (some ⟨g, 0, none⟩) n c) n xs) (hx : xs[j]? = some u) : w.cell? ⟨g, j, none⟩ = some u := by
  have h3 := (@World.ownsRow.cells _ _ _ _ _ _ _ h) (g := g) rfl j u hx
  have ha : (⟨g, 0, none⟩ : Addr).add j = ⟨g, j, none⟩ := by unfold Addr.add; split <;> simp_all
  rw [ha] at h3; exact h3
theorem el_intP : El Tryz.prog 50 3 (.int .i64 0) 1 8 := ⟨Tryz.underlying50, by kernel_rfl, rfl, by decide⟩
theorem anc_len (l : List Nd) : ∀ (i : Nat), (anc l i).length ≤ i := by
  intro i
  induction i using Nat.strongRecOn with
  | ind i ih =>
    have hp := parF_lt l i
    by_cases h0 : parF l i < 0
    · rw [anc_none h0]; simp
    · obtain ⟨p, hpe⟩ := Int.eq_ofNat_of_zero_le (show 0 ≤ parF l i by omega)
      rw [anc_some hpe, List.length_cons]
      have := ih p (by omega)
      omega
theorem opnR_len (l : List Nd) (i : Nat) : (opnR l i).length ≤ i := by
  unfold opnR
  split
  · simp
  · unfold stF; rw [List.length_cons]; have := anc_len l (i - 1); omega
/-- What stands while a node is looked at. -/
structure ChI (w : World) (gN : Nat) (A A2 : Option Addr) (n c m c2 : Nat) (view : Int) (x : Nd) (W : World) : Prop where
  l : Below w.heap.size w W
  t : Blk W w.heap.size 25 #[.slice A n c, .slice A2 m c2, .int .i64 view]
  x : Blk W gN 69 (ndCells x).toArray
  g : w.heap.size < gN
theorem ChI.below {w : World} {gN : Nat} {A A2 : Option Addr} {n c m c2 : Nat} {view : Int} {x : Nd} {W W' : World} (h : ChI w gN A A2 n c m c2 view x W) (hb : Below W.heap.size W W') : ChI w gN A A2 n c m c2 view x W' :=
  ⟨h.l.trans (hb.mono h.l.size), h.t.below hb h.t.lt, h.x.below hb h.x.lt, h.g⟩
section
variable (l : List Nd) (adv : List Int) (A A2 : Option Addr) (c c2 : Nat) (view : Int) (w : World)
set_option maxRecDepth 100000 in
set_option maxHeartbeats 4000000 in
theorem pcheckX_any (hr : Reads w w.heap.size 44 A l.length (ndsCells l)) (ha : Reads w w.heap.size 1 A2 adv.length (i64s adv)) (hal : adv.length ≤ 4294967296) (hu : ∀ x ∈ l, ∃ Au cu, x.s.uv = .slice Au x.s.units.length cu) :
    Calls Tryz.prog 62 #[.agg #[.slice A l.length c, .slice A2 adv.length c2, .int .i64 view]] w fun e w' => CheckEx l adv view w w' e := by
  have HR := Lib.hid hr
  have HU := Lib.hid hu
  have HB0 : Hid (Blk (w.alloc (.cells #[.slice A l.length c, .slice A2 adv.length c2, .int .i64 view] 25)) w.heap.size 25 #[.slice A l.length c, .slice A2 adv.length c2, .int .i64 view]) := Lib.hid (Blk.new _ _ _)
  have HB1 : Hid (Below w.heap.size w (w.alloc (.cells #[.slice A l.length c, .slice A2 adv.length c2, .int .i64 view] 25))) := Lib.hid ((Below.refl _ _).alloc (Nat.le_refl _) _)
  have HWH := Lib.hid (fun W (hb : Below w.heap.size w W) => whole_any l adv A A2 c c2 view W ((ha.below hb).more hb.size) hal)
  have HST := Lib.hid (fun W (i : Nat) (hi : i < l.length) (hn : l.length ≤ 65536) (hb : Below w.heap.size w W) => stands_any l A A2 c adv.length c2 view W i hi hn ((hr.below hb).more hb.size))
  clear hr ha hu
  go_enter Tryz.func62, Tryz.ntmps62
  go_wp2_with fail
  refine (HWH.out _ HB1.out).mono ?_
  rintro e w1 ⟨⟨r, rfl, hr⟩, hb1⟩
  have HRR := Lib.hid hr
  have HC1 : Hid (Below w.heap.size w w1 ∧ Blk w1 w.heap.size 25 #[.slice A l.length c, .slice A2 adv.length c2, .int .i64 view]) := Lib.hid ⟨HB1.out.trans (hb1.mono (by simp)), HB0.out.below hb1 HB0.out.lt⟩
  clear hr hb1
  by_cases hr0 : r = 0
  rotate_left
  · have e1 : (r == 0) = false := beq_eq_false_iff_ne.2 hr0
    have e2 : (r != 0) = true := by rw [bne, e1]; rfl
    have HNO := Lib.hid (show ¬ CheckE l adv view from fun h => hr0 (HRR.out.2 ⟨h.n, h.m, h.v, h.a⟩))
    have HR0 := Lib.hid hr0
    clear hr0
    go_wp2_with fail
    go_ret2
    exact ⟨⟨_, r, rfl, fun h => absurd h HR0.out, fun h => absurd h HNO.out⟩, HC1.out.1⟩
  have e1 : (r == 0) = true := beq_iff_eq.2 hr0
  have e2 : (r != 0) = false := by rw [bne, e1]; rfl
  have HWE := Lib.hid (HRR.out.1 hr0)
  have hln : l.length ≤ 65536 := HWE.out.1.2
  subst hr0
  have bt := HC1.out.2.c3
  go_wp2_with fail
  clear bt e1 e2
  go_loopw [19, 5] (fun iv ov wr => ∃ i : Nat, i ≤ l.length ∧ iv = .int .i64 i ∧ Hid ((∀ (j : Nat) (h : j < l.length), j < i → NdE l j l[j]) ∧ Below w.heap.size w wr ∧ Blk wr w.heap.size 25 #[.slice A l.length c, .slice A2 adv.length c2, .int .i64 view] ∧ wr.ownsRow (w.heap.size + 1) 3 1 ov (opnR l i).length (i64s (opnR l i).reverse))) (fun iv _ _ => l.length - (intOf iv).toNat)
  case atStart => exact ⟨0, by omega, rfl, Lib.hid ⟨fun j h h2 => by omega, HC1.out.1, HC1.out.2, by simpa [opnR, i64s] using World.ownsRow_nil w1 (w.heap.size + 1) 3 1⟩⟩
  case round =>
    obtain ⟨i, hi, rfl, H⟩ := hrel
    by_cases hlt : i < l.length
    rotate_left
    · have d0 : decide ((i : Int) < (l.length : Int)) = false := decide_eq_false (by omega)
      have d0' : decide (i < l.length) = false := decide_eq_false hlt
      go_wp2_with fail
      go_ret2
      exact ⟨⟨_, 0, rfl, fun _ => ⟨HWE.out.1, HWE.out.2.1, HWE.out.2.2.1, HWE.out.2.2.2, fun j h => H.out.1 j h (by omega)⟩, fun _ => rfl⟩, H.out.2.1⟩
    have d0 : decide ((i : Int) < (l.length : Int)) = true := decide_eq_true (by omega)
    have d0' : decide (i < l.length) = true := decide_eq_true hlt
    have hii : (i : Int) < (l.length : Int) := by omega
    obtain ⟨Ao, co, hov⟩ := own_form H.out.2.2.2
    subst hov
    obtain ⟨x, hx⟩ : ∃ x, x = l[i] := ⟨_, rfl⟩
    obtain ⟨Au, cu, huv⟩ := HU.out l[i] (List.getElem_mem hlt)
    rw [← hx] at huv
    obtain ⟨ad, hA, hnd⟩ := (HR.out.below H.out.2.1).nd rfl hlt
    have hlb : ad.block < w.heap.size := by have := hnd.lt; rw [block_of_add] at this; exact this
    have HC : Hid (∀ j u, (ndCells x)[j]? = some u → wr.cell? ((ad.add (i * 44)).add j) = some u) := Lib.hid (by
      intro j u hu
      obtain ⟨ad', e, hb, hc⟩ := (HR.out.below H.out.2.1).2 (by omega)
      rw [hA] at e; injection e with e; subst e
      have hj : j < 44 := by have := (List.getElem?_eq_some_iff.1 hu).1; rw [nd_len] at this; exact this
      rw [add_of_add]
      exact hc _ u (by rw [ndsCells_at l i j hlt hj, ← hx]; exact hu))
    obtain ⟨gN, hgN⟩ : ∃ g, g = wr.heap.size := ⟨_, rfl⟩
    obtain ⟨W7, hW7⟩ : ∃ W, W = wr.alloc (.cells (ndCells x).toArray 69) := ⟨_, rfl⟩
    have HI7 : Hid (ChI w gN A A2 l.length c adv.length c2 view x W7) := Lib.hid (by
      rw [hW7, hgN]
      exact ⟨H.out.2.1.alloc H.out.2.1.size _, H.out.2.2.1.alloc _, Blk.new _ _ _, H.out.2.2.1.lt⟩)
    have HO7 : Hid (W7.ownsRow (w.heap.size + 1) 3 1 (.slice Ao (opnR l i).length co) (opnR l i).length (i64s (opnR l i).reverse)) := Lib.hid (by rw [hW7]; exact own_below H.out.2.2.2 ((Below.refl _ _).alloc (Nat.le_refl _) _))
    have HO := Lib.hid (Nd.one x huv)
    have HX := Lib.hid hx
    have HUV := Lib.hid huv
    have HND := Lib.hid H.out.1
    have bt := H.out.2.2.1.c3
    have HW7 := Lib.hid hW7
    have HG7 := Lib.hid hgN
    clear hnd hx huv H
    subst hA
    go_upto_region 8 with (first
      | refine wpList_load_at rfl 69 _ rfl (ad.add (i * 44)) rfl (ndCells x) _ HC.out Tryz.underlying69 rfl (by kernel_rfl) ?_
      | refine wpList_store_new rfl 69 _ _ rfl wr.heap.size (by simp) (ndCells x).toArray rfl rfl 69 _ (by kernel_rfl) rfl HO.out ?_)
    rw [← hW7, ← hgN]
    clear hW7 hgN bt
    obtain ⟨P, hP⟩ : ∃ P, P = x.parent := ⟨_, rfl⟩
    have n0 : W7.cell? ⟨gN, 0, none⟩ = some (.int .i64 P) := by rw [hP]; exact HI7.out.x.get 0 rfl
    have HP := Lib.hid hP
    have HPX : Hid (l[i].parent = P) := Lib.hid (by rw [hP, HX.out])
    have lgN := HI7.out.x.lt
    clear hP
    try simp only [Act.put]
    refine wp_scope_straight ?_
    go_upto_region 8 with (fail)
    go_cut [8] (fun s8 wx => s8 = .bool (decide (i = 0) && (P == -1)) ∧ W7 = wx)
    case first =>
      by_cases h0 : i = 0
      · have e0 : ((i : Int) == 0) = true := beq_iff_eq.2 (by omega)
        have e0' : (i == 0) = true := beq_iff_eq.2 h0
        have e0'' : decide (i = 0) = true := decide_eq_true h0
        clear h0
        cases h1 : (P == -1)
        · go_wp2_with fail
          go_meet
          case rel => exact ⟨by rw [e0'', h1]; rfl, rfl⟩
        · go_wp2_with fail
          go_meet
          case rel => exact ⟨by rw [e0'', h1]; rfl, rfl⟩
      · have e0 : ((i : Int) == 0) = false := beq_eq_false_iff_ne.2 (by omega)
        have e0' : (i == 0) = false := beq_eq_false_iff_ne.2 h0
        have e0'' : decide (i = 0) = false := decide_eq_false h0
        clear h0
        go_wp2_with fail
        go_meet
        case rel => exact ⟨by rw [e0'']; rfl, rfl⟩
    case rest =>
    obtain ⟨rfl, rfl⟩ := hcut
    obtain ⟨fb, hfb⟩ : ∃ b, b = (decide (i = 0) && (P == -1)) := ⟨_, rfl⟩
    rw [← hfb]
    have HFB := Lib.hid hfb
    clear hfb
    have hol : (opnR l i).length ≤ 65536 := by have := opnR_len l i; omega
    obtain ⟨nO, hnO⟩ : ∃ n, n = (opnR l i).length := ⟨_, rfl⟩
    have HNO := Lib.hid hnO
    rw [← hnO] at hol HO7 ⊢
    clear hnO
    go_upto_block 2 with (fail)
    refine wp_label ?_
    go_upto_block 2 with (fail)
    go_cut [5, 8, 9, 10] from 33 to 53 (fun s5 s8 s9 s10 wx => ∃ (b : Bool) (S : List Int) (As : Option Addr) (cs : Nat), s8 = .bool b ∧ s5 = .slice As S.length cs ∧ S.length ≤ 65536 ∧ Hid ((b = true ↔ ParOk l i P) ∧ (b = true → S = (anc l i).reverse) ∧ W7.ownsRow (w.heap.size + 1) 3 1 (.slice As S.length cs) S.length (i64s S)) ∧ W7 = wx)
    case first =>
      go_wp2_with fail
      go_loopw [33, 5, 8] (fun kv ov fv wx => ∃ k : Nat, k ≤ nO ∧ kv = .int .i64 k ∧ ov = .slice Ao nO co ∧ fv = .bool fb ∧ Hid (∀ q (h : q < (opnR l i).length), q < k → (opnR l i)[q] ≠ P) ∧ W7 = wx) (fun kv _ _ _ => nO - (intOf kv).toNat)
      case atStart => exact ⟨0, by omega, rfl, rfl, rfl, Lib.hid (fun q h h2 => by omega), rfl⟩
      case round =>
        obtain ⟨k, hk, rfl, rfl, rfl, HQ, rfl⟩ := hrel
        by_cases hkn : k < nO
        · have d1 : decide ((k : Int) < (nO : Int)) = true := decide_eq_true (by omega)
          have d1' : decide (k < nO) = true := decide_eq_true hkn
          have hkl : k < (opnR l i).length := by have := HNO.out; omega
          obtain ⟨gO, hAo⟩ := own_addrP HO7.out (by omega)
          subst hAo
          obtain ⟨y, hy⟩ : ∃ y, y = (opnR l i)[k] := ⟨_, rfl⟩
          obtain ⟨at_, hat⟩ : ∃ a, a = nO - 1 - k := ⟨_, rfl⟩
          have hatn : at_ < nO := by omega
          have oc : W7.cell? ⟨gO, at_, none⟩ = some (.int .i64 y) := own_atP HO7.out (by
            unfold i64s
            rw [List.getElem?_map, List.getElem?_eq_getElem (by rw [List.length_reverse]; have := HNO.out; omega), List.getElem_reverse]
            have : (opnR l i).length - 1 - at_ = k := by have := HNO.out; omega
            simp only [this, ← hy, Option.map_some])
          have hgO : gO < W7.heap.size := (own_lt HO7.out gO rfl).2
          have hw1 : IntKind.i64.wrap ((nO : Int) - 1) = (nO : Int) - 1 := IntWalk.i64_in _ ⟨by omega, by omega⟩
          have hw2 : IntKind.i64.wrap ((nO : Int) - 1 - (k : Int)) = ((at_ : Nat) : Int) := by rw [IntWalk.i64_in _ ⟨by omega, by omega⟩]; omega
          have hw3 : IntKind.i64.wrap ((at_ : Int) + 1) = ((at_ + 1 : Nat) : Int) := by rw [IntWalk.i64_in _ ⟨by omega, by omega⟩]; omega
          have hwk : IntKind.i64.wrap ((k : Int) + 1) = (k : Int) + 1 := IntWalk.i64_in _ ⟨by omega, by omega⟩
          have hati : ((at_ : Nat) : Int) < (nO : Int) := by omega
          have hcap := own_cap HO7.out
          have hat1 : at_ + 1 ≤ co := by omega
          have hat2 : ((at_ + 1 : Nat) : Int) ≤ (co : Int) := by omega
          have HY := Lib.hid hy
          have HAT := Lib.hid hat
          clear hy hat
          by_cases hyP : y = P
          · have eyP : (y == P) = true := beq_iff_eq.2 hyP
            have HHIT := Lib.hid (opn_hit hlt HPX.out hkl (by rw [← HY.out]; exact hyP) HQ.out)
            clear hyP
            go_wp2_with fail
            go_meet
            case rel => exact ⟨true, (anc l i).reverse, some ⟨gO, 0, none⟩, co, rfl, by
                have h1 := congrArg List.length HHIT.out.2
                rw [List.length_drop] at h1
                rw [List.length_reverse, ← h1]
                have := HNO.out
                have := HAT.out
                first
                | (congr 2; omega)
                | (congr 1; omega), by
                rw [List.length_reverse]; have := anc_len l i; omega, Lib.hid ⟨⟨fun _ => HHIT.out.1, fun _ => rfl⟩, fun _ => rfl, by
                have h1 := congrArg List.length HHIT.out.2
                rw [List.length_drop] at h1
                have hlen : (anc l i).reverse.length = at_ + 1 := by rw [List.length_reverse]; have := HNO.out; have := HAT.out; omega
                have h2 := own_pre HO7.out (k := at_ + 1) (by omega)
                rw [hlen]
                have h3 : (i64s (opnR l i).reverse).take (at_ + 1) = i64s (anc l i).reverse := by
                  unfold i64s
                  rw [← List.map_take, ← HHIT.out.2, List.reverse_drop]
                  congr 2
                  have := HNO.out; have := HAT.out; omega
                rw [← h3]
                exact h2⟩, rfl⟩
          · have eyP : (y == P) = false := beq_eq_false_iff_ne.2 hyP
            have HYP := Lib.hid hyP
            clear hyP
            go_wp2_with fail
            go_roundw
            case rel => exact ⟨k + 1, by omega, by go_num, rfl, rfl, Lib.hid (fun q h h2 => by
              by_cases hq : q = k
              · subst hq; rw [← HY.out]; exact HYP.out
              · exact HQ.out q h (by omega)), by first | rfl | trivial⟩
            case measure => simp [intOf]; omega
        · have d1 : decide ((k : Int) < (nO : Int)) = false := decide_eq_false (by omega)
          have d1' : decide (k < nO) = false := decide_eq_false hkn
          have HPAR : Hid (fb = true ↔ ParOk l i P) := Lib.hid (by
            by_cases h0 : i = 0
            · rw [HFB.out]
              simp only [h0, decide_true, Bool.true_and, beq_iff_eq]
              unfold ParOk
              omega
            · rw [HFB.out]
              simp only [h0, decide_false, Bool.false_and]
              constructor
              · intro h; cases h
              · intro h
                exact absurd h (opn_miss (by omega) (fun q hq => HQ.out q hq (by have := HNO.out; omega))))
          have HANC : Hid (fb = true → (opnR l i).reverse = (anc l i).reverse) := Lib.hid (fun h => by
            rw [HFB.out, Bool.and_eq_true] at h
            have h0 : i = 0 := of_decide_eq_true h.1
            have hp := parF_lt l 0
            rw [h0, anc_none (by omega)]
            simp [opnR])
          go_wp2_with fail
          go_meet
          case rel => exact ⟨fb, (opnR l i).reverse, Ao, co, rfl, by rw [List.length_reverse, HNO.out], by rw [List.length_reverse]; have := HNO.out; omega, Lib.hid ⟨HPAR.out, HANC.out, by rw [List.length_reverse, ← HNO.out]; exact HO7.out⟩, rfl⟩
    case rest =>
    obtain ⟨b, S, As, cs, rfl, rfl, hSl, HS, rfl⟩ := hcut
    cases b
    · have HNE := Lib.hid (show ¬ CheckE l adv view from fun h => by have := (h.nd i hlt).par; rw [HPX.out] at this; have := HS.out.1.2 this; simp at this)
      go_wp2_with fail
      try (rw [Exit.noGoto_ret]; go_wp2_with fail)
      go_ret2
      exact ⟨⟨_, 6, rfl, fun h => by omega, fun h => absurd h HNE.out⟩, HI7.out.l⟩
    have HPO : Hid (ParOk l i l[i].parent) := Lib.hid (by rw [HPX.out]; exact HS.out.1.1 (by simp))
    have HIF := Lib.hid (ndE_iff hlt HND.out)
    have n43 : W7.cell? ⟨gN, 43, none⟩ = some (.slice Au x.s.units.length cu) := by rw [← HUV.out]; exact HI7.out.x.get 43 rfl
    cases hu : decide (65536 < x.s.units.length)
    rotate_left
    · have hu' : decide ((65536 : Int) < (x.s.units.length : Int)) = true := decide_eq_true (by have := of_decide_eq_true hu; omega)
      have HNE := Lib.hid (show ¬ CheckE l adv view from fun h => by have := (h.nd i hlt).run; rw [← HX.out] at this; have := of_decide_eq_true hu; omega)
      go_wp2_with fail
      try (rw [Exit.noGoto_ret]; go_wp2_with fail)
      go_ret2
      exact ⟨⟨_, 7, rfl, fun h => by omega, fun h => absurd h HNE.out⟩, HI7.out.l⟩
    have hu' : decide ((65536 : Int) < (x.s.units.length : Int)) = false := decide_eq_false (by have := of_decide_eq_false hu; omega)
    have HUN := Lib.hid (show l[i].s.units.length ≤ 65536 by rw [← HX.out]; have := of_decide_eq_false hu; omega)
    have HSA := Lib.hid (HS.out.2.1 (by simp))
    cases hd : decide (512 ≤ S.length)
    rotate_left
    · have hd' : decide ((512 : Int) ≤ (S.length : Int)) = true := decide_eq_true (by have := of_decide_eq_true hd; omega)
      have HNE := Lib.hid (show ¬ CheckE l adv view from fun h => by have := (h.nd i hlt).deep; have := of_decide_eq_true hd; rw [HSA.out, List.length_reverse] at this; omega)
      go_wp2_with fail
      try (rw [Exit.noGoto_ret]; go_wp2_with fail)
      go_ret2
      exact ⟨⟨_, 8, rfl, fun h => by omega, fun h => absurd h HNE.out⟩, HI7.out.l⟩
    have hd' : decide ((512 : Int) ≤ (S.length : Int)) = false := decide_eq_false (by have := of_decide_eq_false hd; omega)
    have HDP := Lib.hid (show (anc l i).length < 512 by have := of_decide_eq_false hd; rw [HSA.out, List.length_reverse] at this; omega)
    have HRG : Hid (W7.rangeAt gN 1 (styCells x.s)) := Lib.hid (fun j v hv => HI7.out.x.get (1 + j) (by simpa [ndCells, Nat.add_comm 1 j] using hv))
    clear n0
    go_wp2_with (refine wpList_load_mid rfl 67 _ rfl gN 1 rfl (styCells x.s) _ HRG.out Tryz.underlying67 rfl (by kernel_rfl) ?_)
    refine (prightX_any x.s _ HUV.out).mono ?_
    rintro e w3 ⟨⟨rb, rfl, hrb⟩, hw3⟩
    have HRB : Hid (rb = true ↔ RightX l[i].s l[i].s.units.length) := Lib.hid (by rw [← HX.out]; exact hrb)
    have HI3 := Lib.hid (HI7.out.below hw3)
    have HO3 := Lib.hid (own_below HS.out.2.2 hw3)
    clear hrb hw3 n43
    cases rb
    · have HNE := Lib.hid (show ¬ CheckE l adv view from fun h => by have := HRB.out.2 (h.nd i hlt).sty; simp at this)
      go_wp2_with fail
      try (rw [Exit.noGoto_ret]; go_wp2_with fail)
      go_ret2
      exact ⟨⟨_, 6, rfl, fun h => by omega, fun h => absurd h HNE.out⟩, HI3.out.l⟩
    have HRX := Lib.hid (HRB.out.1 rfl)
    obtain ⟨bt0, bt1, bt2⟩ := HI3.out.t.c3
    have ltr := HI3.out.t.lt
    go_wp2_with fail
    refine (HST.out w3 i hlt hln HI3.out.l HPO.out (fun j h hj => right_kind (HND.out j h hj).sty)).mono ?_
    rintro e w4 ⟨⟨sb, rfl, hsb⟩, hw4⟩
    have HSB := Lib.hid hsb
    have HI4 := Lib.hid (HI3.out.below hw4)
    have HO4 := Lib.hid (own_below HO3.out hw4)
    clear hsb hw4 bt0 bt1 bt2 ltr
    cases sb
    · have HNE := Lib.hid (show ¬ CheckE l adv view from fun h => by have := HSB.out.2 (HIF.out.1 (h.nd i hlt)).2.2.2.2; simp at this)
      go_wp2_with fail
      try (rw [Exit.noGoto_ret]; go_wp2_with fail)
      go_ret2
      exact ⟨⟨_, 6, rfl, fun h => by omega, fun h => absurd h HNE.out⟩, HI4.out.l⟩
    have HNDE := Lib.hid (HIF.out.2 ⟨HPO.out, HUN.out, HDP.out, HRX.out, HSB.out.1 rfl⟩)
    have hwi : IntKind.i64.wrap ((i : Int) + 1) = (i : Int) + 1 := IntWalk.i64_in _ ⟨by omega, by omega⟩
    have HSZ := Lib.hid (show w.heap.size + 1 ≤ w4.heap.size by have := HI4.out.t.lt; omega)
    have hS9 : S.length + 1 ≤ 4294967296 := by omega
    go_wp2_with (at_builtin; refine wpList_app (m := 1) rfl _ _ rfl el_intP HO4.out HSZ.out rfl [.int .i64 i] rfl (by simp) (by simp [Value.oneCell']) (by omega) (by omega) ?_; intro A' c' w5 hown hB hg hob)
    have HO5 := Lib.hid hown
    have HB5 := Lib.hid (hB w.heap.size w (by omega) HI4.out.l)
    have HT5 := Lib.hid (HI4.out.t.grown hg (own_far HO4.out (by omega)))
    clear hown hB hg hob
    rw [Exit.noGoto_normal]
    go_wp2_with fail
    go_roundw
    case rel => exact ⟨i + 1, by omega, by go_num, Lib.hid ⟨fun j h h2 => by
      by_cases hj : j = i
      · subst hj; exact HNDE.out
      · exact HND.out j h (by omega), HB5.out, HT5.out, by
      have hl2 : (opnR l (i + 1)).length = S.length + 1 := by rw [opnR_succ, HSA.out]; simp [stF]
      rw [hl2, opnR_succ]
      have : i64s (stF l i).reverse = i64s S ++ [.int .i64 i] := by rw [HSA.out]; simp [stF, i64s]
      rw [this]
      exact HO5.out⟩⟩
    case measure => simp [intOf]; omega
end
end Go.Proofs.YtjhfcpadnofdnaaGreat
