/- The contract of jambref06.Words. -/
import Derived.Test.YtmpcpcagphgopaaRlet
import Derived.Test.YtmpcpcagphgopaaWalka
set_option linter.unusedSimpArgs false
set_option linter.unusedVariables false
namespace Go.Proofs.Ytmpcpcagphgopaa
open Go.RowKit
attribute [local go_sem] block_of_add

theorem refR_no {l : List Int} {k : Nat} (h : begins l k = false) : refR l (k + 1) = refR l k := by simp [refR, h]
theorem refR_yes {l : List Int} {k : Nat} (h : begins l k = true) : refR l (k + 1) = ((refR l k).1 ++ [⟨k, runEnd l k, cnt l (refR l k).2 k, anyS l (refR l k).2 k⟩], runEnd l k) := by simp [refR, h]

theorem letter_before (l : List Int) (A : Option Addr) (c : Nat) (w : World) (hl : U16s l) (hn : l.length ≤ 1000000) (hr : Reads w w.heap.size 1 A l.length (u16s l)) (k : Nat) (hk : k ≤ 1000000) (h : begins l k = true) :
    Calls Try.prog 25 #[.slice A l.length c, .int .i64 ((k : Int) - 1)] w fun e w' => e = .returned (.bool false) ∧ w = w' := by
  rcases k with _ | j
  · exact letter_neg l A c w
  · have h1 := (begins_i h).2 (by omega)
    rw [show (((j + 1 : Nat) : Int) - 1) = (j : Int) by omega]
    have := letter_any l A c w hl (by omega) hr j (by omega)
    rw [Nat.add_sub_cancel] at h1
    rw [h1] at this
    exact this

/-- Between two rounds. -/
def RI (w : World) (t l : List Int) (o f q i : Value) (k : Nat) (W : World) : Prop :=
  i = .int .i64 k ∧ f = .bool (wordsOf t l (refR l k).1).2 ∧ q = .int .i64 (refR l k).2 ∧ W.ownsRow w.heap.size 37 5 o (wordsOf t l (refR l k).1).1.length (wdsCells (wordsOf t l (refR l k).1).1) ∧ Below w.heap.size w W

theorem RI.step {w w' : World} {t l : List Int} {k : Nat} {s : Sp} {v i q : Value} {nb : Bool} (hR : refR l (k + 1) = ((refR l k).1 ++ [s], s.up))
    (hown : w'.ownsRow w.heap.size 37 5 v ((wordsOf t l (refR l k).1).1.length + 1) (wdsCells (wordsOf t l (refR l k).1).1 ++ wdCells (mkW t l (wordsOf t l (refR l k).1).1.isEmpty s)))
    (hb : Below w.heap.size w w') (hnb : nb = ((wordsOf t l (refR l k).1).2 || overW t l (wordsOf t l (refR l k).1).1.isEmpty s)) (hi : i = .int .i64 (k + 1)) (hq : q = .int .i64 s.up) : RI w t l v (.bool nb) q i (k + 1) w' := by
  refine ⟨by rw [hi]; rfl, ?_, by rw [hq, hR], ?_, hb⟩
  · rw [hR, wordsOf_snoc, hnb]; rfl
  · rw [hR, wordsOf_snoc]
    simp only [stepW, List.length_append, List.length_singleton, wdsCells_snoc]
    exact hown

theorem wpList_appg {P : Program} {w : World} {o : Oper} {a : Act} {t e : TypeId} {z : Value} {size bytes base n m : Nat} {v : Value} {xs : List Value} {ops : Array Oper} {rest : List Oper} {Q : Exit → Act → World → Prop} (hgd : o.guard = none) (s x : Operand)
    (ho : o.op = .call { callee := .builtin .append, args := #[s, x], argTypes := #[t, t] }) (hE : El P t e z size bytes) (hown : w.ownsRow base e size v n xs) (hbase : base ≤ w.heap.size) (hs : a.eval s = v)
    (news : List Value) {g : Nat} (hx : a.eval x = .slice (some ⟨g, 0, none⟩) m m) (hgs : g = w.heap.size) (hl : news.length = m * size) (h1 : ∀ u ∈ news, u.oneCell' = true) (h63 : n + m ≤ 4294967296) (hby : bytes ≤ 32768)
    (h : ∀ A' c' w', w'.ownsRow base e size (.slice A' (n + m) c') (n + m) (xs ++ news) → (∀ B w0, B ≤ base → Below B w0 w → Below B w0 w') → w.grownBy w' v.ownBlock →
      ((Value.slice A' (n + m) c').ownBlock = v.ownBlock ∨ w.heap.size ≤ ((Value.slice A' (n + m) c').ownBlock).getD w.heap.size) → wpList P ops Q rest (a.put o.dst (.slice A' (n + m) c')) w') :
    wpList P ops Q (o :: rest) a (w.alloc (.cells news.toArray e)) := by
  subst hgs
  exact wpList_app hgd s x ho hE hown hbase hs news hx hl h1 h63 hby h

theorem of_big (x : Int) (w : World) (h0 : -9223372036854775808 ≤ x) (h1 : x < 9223372036854775808) :
    Calls Try.prog 27 #[.int .i64 x] w fun e w' => ∃ (m : Bool) (A : Option Addr) (c n : Nat), e = .returned (.agg #[.bool m, .slice A n c]) ∧ Below w.heap.size w w' ∧ Big w' w.heap.size (.agg #[.bool m, .slice A n c]) 64 x :=
  (of_any x w h0 h1).mono fun _ _ ⟨v, he, hv, hb⟩ => by
    obtain ⟨m, A, c, l, hvv, h⟩ := id hv
    exact ⟨m, A, c, l.length, by rw [he, hvv], hb, by rw [← hvv]; exact hv⟩

set_option maxRecDepth 100000 in
set_option maxHeartbeats 8000000 in
theorem rwords_any (l t : List Int) (A B : Option Addr) (c d : Nat) (w : World) (hl : U16s l) (ht : I64s t) (hn : l.length ≤ 1000000) (hc : l.length ≤ c) (hrl : Reads w w.heap.size 1 A l.length (u16s l)) (hrt : Reads w w.heap.size 1 B t.length (i64s t)) :
    Calls Try.prog 12 #[.slice A l.length c, .slice B t.length d] w fun e w' => ∃ v, e = .returned (.tuple #[v, .bool (wordsF t l).2]) ∧ w'.ownsRow w.heap.size 37 5 v (wordsF t l).1.length (wdsCells (wordsF t l).1) ∧ Below w.heap.size w w' := by
  have HL := Lib.hid hrl
  have HT := Lib.hid hrt
  clear hrl hrt
  go_enter Try.func12, Try.ntmps12
  go_wp2_with fail
  go_loopw [6, 7, 8, 9] (fun o f q i wr => ∃ k : Nat, k ≤ l.length ∧ RI w t l o f q i k wr) (fun _ _ _ i _ => l.length - (intOf i).toNat)
  case atStart => exact ⟨0, by omega, rfl, rfl, rfl, World.ownsRow_nil _ _ _ _, Below.refl _ _⟩
  case round =>
    obtain ⟨k, hk, rfl, rfl, rfl, hown, hw⟩ := hrel
    obtain ⟨Av, cv, rfl⟩ := own_form hown
    by_cases hlt : k < l.length
    · have LET := fun (W : World) (hb : Below w.heap.size w W) (j : Nat) (hj : j ≤ 1000000) => letter_any l A c W hl (by omega) ((HL.out.below hb).more hb.size) j (by omega)
      cases hB : begins l k
      · have HR := Lib.hid (refR_no hB)
        cases hL : letN l k
        · go_wp2_with fail
          refine (LET _ hw k (by omega)).mono ?_
          rintro e w' ⟨rfl, rfl⟩
          rw [hL]
          go_wp2_with fail
          go_roundw
          case rel => exact ⟨k + 1, by omega, by go_num, by rw [HR.out], by rw [HR.out], by rw [HR.out]; exact hown, hw⟩
          case measure => simp [intOf]; omega
        · obtain ⟨j, rfl⟩ : ∃ j, k = j + 1 := by
            rcases k with _ | j
            · simp [begins, hL] at hB
            · exact ⟨j, rfl⟩
          have hL' : letN l j = true := by simpa [begins, hL] using hB
          have HJ := Lib.hid (show ((j : Int) + 1 - 1) = j by omega)
          go_wp2_with fail
          refine (LET _ hw (j + 1) (by omega)).mono ?_
          rintro e w' ⟨rfl, rfl⟩
          rw [hL]
          go_wp2_with fail
          refine (LET _ hw j (by omega)).mono ?_
          rintro e w' ⟨rfl, rfl⟩
          rw [hL']
          go_wp2_with fail
          go_roundw
          case rel => exact ⟨j + 1 + 1, by omega, by go_num, by rw [HR.out], by rw [HR.out], by rw [HR.out]; exact hown, hw⟩
          case measure => simp [intOf]; omega
      · have hLL := begins_i hB
        have HR := Lib.hid (refR_yes hB)
        obtain ⟨ad, u, rfl, hab, hx, hcl⟩ := (HL.out.below hw).at_ hlt
        clear hx hcl u
        have hla : (refR l k).2 ≤ k := ref_last hk hB
        have hrn := ref_len l k
        have hE1 := runEnd_le l k hk
        have hE0 : k < runEnd l k := by have := runEnd_ge l (k + 1); rw [runEnd_let hLL.1] at this; omega
        go_wp2_with fail
        refine (LET _ hw k (by omega)).mono ?_
        rintro e w' ⟨rfl, rfl⟩
        rw [hLL.1]
        go_wp2_with fail
        refine (letter_before l (some ad) c _ hl (by omega) ((HL.out.below hw).more hw.size) k (by omega) hB).mono ?_
        rintro e w' ⟨rfl, rfl⟩
        clear hLL
        go_wp2_with fail
        obtain ⟨wo, hwo⟩ : ∃ wo : World, wo = wr := ⟨_, rfl⟩
        subst hwo
        have hwl := hw.size
        obtain ⟨E, hE⟩ : ∃ E, runEnd l k = E := ⟨_, rfl⟩
        have HE := Lib.hid hE
        rw [hE] at hE0 hE1 HR
        clear hE
        have hb0 : Below wo.heap.size wo (wo.alloc (.cells #[.int .i64 k, .int .i64 k, .int .i64 0, .int .i64 0, .int .i64 0] 37)) := (Below.refl _ _).alloc (Nat.le_refl _) _
        have hb1 : Blk (wo.alloc (.cells #[.int .i64 k, .int .i64 k, .int .i64 0, .int .i64 0, .int .i64 0] 37)) wo.heap.size 37 #[.int .i64 k, .int .i64 k, .int .i64 0, .int .i64 0, .int .i64 0] := Blk.new _ _ _
        go_loopw [] (fun wr => ∃ j : Nat, k ≤ j ∧ j ≤ E ∧ runEnd l j = E ∧ Blk wr wo.heap.size 37 #[.int .i64 k, .int .i64 j, .int .i64 0, .int .i64 0, .int .i64 0] ∧ Below wo.heap.size wo wr) (fun wr => E - (intOf ((wr.cell? ⟨wo.heap.size, 1, none⟩).getD (.int .i64 0))).toNat)
        case atStart => exact ⟨k, Nat.le_refl _, by omega, HE.out, hb1, hb0⟩
        case round =>
          obtain ⟨j, hj0, hj1, hjE, hbl, hbw⟩ := hrel
          obtain ⟨c0, c1, c2, c3, c4⟩ := hbl.c5
          have hsz := hbw.size
          have hww := hw.trans (hbw.mono hwl)
          have fz := hbl.frozen
          have hbl2 := hbl.set_ 1 (.int .i64 (j + 1))
          have hblt := hbl.lt
          cases hL : letN l j
          · have hjE' : j = E := by rw [← hjE, runEnd_no hL]
            subst hjE'
            go_wp2_with fail
            refine (LET _ hww j (by omega)).mono ?_
            rintro e w' ⟨rfl, rfl⟩
            rw [hL]
            go_wp2_with fail
            obtain ⟨wx, hwx⟩ : ∃ wx : World, wx = wr := ⟨_, rfl⟩
            subst hwx
            have hjc : j ≤ c := by omega
            have hjl : j ≤ l.length := hE1
            clear hE1 hjE hj1 HE
            obtain ⟨L, hLa⟩ : ∃ L, (refR l k).2 = L := ⟨_, rfl⟩
            rw [hLa] at hla HR
            have HLA := Lib.hid hLa
            have HC0 := Lib.hid (cnt_same l L L (Nat.le_refl _))
            have HA0 := Lib.hid (any_same l L L (Nat.le_refl _))
            simp only [hLa]
            clear hLa
            go_loopw [11, 12] (fun sv q wr => ∃ m : Nat, L ≤ m ∧ m ≤ k ∧ q = .int .i64 m ∧ sv = .bool (anyS l L m) ∧ Blk wr wo.heap.size 37 #[.int .i64 k, .int .i64 j, .int .i64 0, .int .i64 0, .int .i64 (cnt l L m)] ∧ Below wo.heap.size wo wr) (fun _ q _ => k - (intOf q).toNat)
            case atStart => exact ⟨L, Nat.le_refl _, hla, rfl, by rw [HA0.out], by rw [HC0.out]; exact hbl, hbw⟩
            case round =>
              clear c0 c1 c2 c3 c4 fz hbl hbl2 hbw hww hblt hsz hL HA0 HC0
              obtain ⟨m, hm0, hm1, rfl, rfl, hbl, hbw⟩ := hrel
              obtain ⟨c0, c1, c2, c3, c4⟩ := hbl.c5
              have hsz := hbw.size
              have hww := hw.trans (hbw.mono hwl)
              have fz := hbl.frozen
              have hblt := hbl.lt
              by_cases hmk : m < k
              · obtain ⟨ad', u, he, hab', hx, hcl⟩ := (HL.out.below hww).at_ (show m < l.length by omega)
                injection he with he
                subst he
                have hmm : m < l.length := by omega
                have hu : u = .int .u16 l[m] := by simpa [u16s, hmm] using hx.symm
                subst hu
                have hx2 := hl.at_ hmm
                have hcm := cnt_le l L m
                have HG : Hid (l[m]?.getD 0 = l[m]) := Lib.hid (by simp [hmm])
                obtain ⟨x, hxx⟩ : ∃ x, l[m] = x := ⟨_, rfl⟩
                rw [hxx] at hcl hx2 HG
                clear hx hxx
                have HCN : Hid (cnt l L (m + 1) = if x = 10 then cnt l L m + 1 else cnt l L m) := Lib.hid (by simp only [cnt, HG.out, hm0, true_and])
                have HAN : Hid (anyS l L (m + 1) = if x = 32 then true else anyS l L m) := Lib.hid (by simp only [anyS, HG.out, hm0, true_and])
                have hbl2 := hbl.set_ 4 (.int .i64 (cnt l L m + 1))
                have hcl2 : (wr.setCell ⟨wo.heap.size, 4, none⟩ (.int .i64 (cnt l L m + 1))).cell? (ad.add m) = some (.int .u16 x) := (World.cell?_setCell_other _ _ _ _ (fun e => by have := congrArg Addr.block e; rw [block_of_add] at this; simp at this; omega)).trans hcl
                obtain ⟨n, hn'⟩ : ∃ n, cnt l L m = n := ⟨_, rfl⟩
                obtain ⟨sb, hsb⟩ : ∃ sb, anyS l L m = sb := ⟨_, rfl⟩
                simp only [hn', hsb]
                rw [hn'] at c4 hcm HCN hbl2 hbl hcl2
                rw [hsb] at HAN
                clear hn' hsb hE0
                by_cases h10 : x = 10
                · subst h10
                  cases sb
                  all_goals
                    go_wp2_with fail
                    go_roundw
                    case rel => exact ⟨m + 1, by omega, by omega, by go_num, by rw [HAN.out]; rfl, by rw [HCN.out]; exact hbl2, hbw.setCell (p := ⟨wo.heap.size, 4, none⟩) (Nat.le_refl _) _⟩
                    case measure => simp [intOf]; omega
                · have e1 : (x == 10) = false := by simp [h10]
                  rw [if_neg h10] at HCN
                  clear h10
                  by_cases h32 : x = 32
                  · subst h32
                    cases sb
                    all_goals
                      go_wp2_with fail
                      go_roundw
                      case rel => exact ⟨m + 1, by omega, by omega, by go_num, by rw [HAN.out]; rfl, by rw [HCN.out]; exact hbl, hbw⟩
                      case measure => simp [intOf]; omega
                  · have e2 : (x == 32) = false := by simp [h32]
                    rw [if_neg h32] at HAN
                    clear h32
                    cases sb
                    all_goals
                      go_wp2_with fail
                      go_roundw
                      case rel => exact ⟨m + 1, by omega, by omega, by go_num, by rw [HAN.out], by rw [HCN.out]; exact hbl, hbw⟩
                      case measure => simp [intOf]; omega
              · obtain rfl : m = k := by omega
                have hcm := cnt_le l L m
                obtain ⟨n, hn'⟩ : ∃ n, cnt l L m = n := ⟨_, rfl⟩
                obtain ⟨sb, hsb⟩ : ∃ sb, anyS l L m = sb := ⟨_, rfl⟩
                rw [hn', hsb] at HR
                simp only [hn', hsb]
                rw [hn'] at c4 hcm hbl
                clear hn' hsb hmk hm1 hb0 hb1 hm0
                have hne : ¬ c = m := by omega
                have hrp : Reads wr wr.heap.size 1 (some (ad.add m)) (part l ⟨m, j, n, sb⟩).length (u16s (part l ⟨m, j, n, sb⟩)) := part_reads (HL.out.below hww) hww.size hj0 hjl
                have hpl : (part l ⟨m, j, n, sb⟩).length = j - m := part_len (s := ⟨m, j, n, sb⟩) hj0 hjl
                have hpu : U16s (part l ⟨m, j, n, sb⟩) := part_u16 hl
                have HC := Lib.hid (rwide_any (part l ⟨m, j, n, sb⟩) t (some (ad.add m)) B (c - m) d wr hpu ht (by omega) hrp ((HT.out.below hww).more hww.size))
                rw [hpl] at HC
                clear hpl hrp hpu
                go_wp2_with fail
                refine HC.out.mono ?_
                rintro e W1 ⟨rfl, hB1⟩
                have hbl1 := hbl.below hB1 hblt
                have hbW := hbw.trans (hB1.mono hsz)
                have hwW := hww.trans (hB1.mono hww.size)
                have hszW := hbW.size
                have fz1 := hbl1.frozen
                have e2 := hbl1.c5.2.2.1
                have hlt1 := hbl1.lt
                clear fz c0 c1 c2 c3 c4 hbl hww
                have hblS : Blk (W1.setCell ⟨wo.heap.size, 2, none⟩ (.int .i64 (cutF (advs t (part l ⟨m, j, n, sb⟩)).sum))) wo.heap.size 37 #[.int .i64 m, .int .i64 j, .int .i64 (cutF (advs t (part l ⟨m, j, n, sb⟩)).sum), .int .i64 0, .int .i64 n] := hbl1.set_ 2 _
                have hbS : Below wo.heap.size wo (W1.setCell ⟨wo.heap.size, 2, none⟩ (.int .i64 (cutF (advs t (part l ⟨m, j, n, sb⟩)).sum))) := hbW.setCell (p := ⟨wo.heap.size, 2, none⟩) (Nat.le_refl _) _
                have HOWN := Lib.hid fun (W : World) (h : Below wo.heap.size wo W) => own_below hown h
                have HW := Lib.hid hw
                have hlenw : (wordsOf t l (refR l m).1).1.length ≤ 1000000 := by rw [wordsOf_len]; omega
                have hfst : (wordsOf t l (refR l m).1).1.isEmpty = decide ((wordsOf t l (refR l m).1).1.length = 0) := by cases (wordsOf t l (refR l m).1).1 <;> simp
                obtain ⟨ob, hob⟩ : ∃ ob, cutB (advs t (part l ⟨m, j, n, sb⟩)).sum = ob := ⟨_, rfl⟩
                obtain ⟨fb, hfb⟩ : ∃ fb, (wordsOf t l (refR l m).1).2 = fb := ⟨_, rfl⟩
                by_cases hgap : gapIs (wordsOf t l (refR l m).1).1.isEmpty ⟨m, j, n, sb⟩ = true
                · have hmk : mkW t l (wordsOf t l (refR l m).1).1.isEmpty ⟨m, j, n, sb⟩ = ⟨m, j, cutF (advs t (part l ⟨m, j, n, sb⟩)).sum, cutF (adv t 32), n⟩ := by simp [mkW, hgap]
                  have hov : overW t l (wordsOf t l (refR l m).1).1.isEmpty ⟨m, j, n, sb⟩ = (ob || cutB (adv t 32)) := by simp [overW, hgap, hob]
                  have HM : Hid (wdCells (mkW t l (wordsOf t l (refR l m).1).1.isEmpty ⟨m, j, n, sb⟩) = [.int .i64 m, .int .i64 j, .int .i64 (cutF (advs t (part l ⟨m, j, n, sb⟩)).sum), .int .i64 (cutF (adv t 32)), .int .i64 n]) := Lib.hid (by rw [hmk]; rfl)
                  obtain ⟨hsp, he, hz⟩ : sb = true ∧ ((n : Int) == 0) = true ∧ 0 < (wordsOf t l (refR l m).1).1.length := by
                    rw [hfst] at hgap
                    simp only [gapIs, Bool.and_eq_true, decide_eq_true_eq, Bool.not_eq_true', decide_eq_false_iff_not] at hgap
                    exact ⟨hgap.1.1, by simp [hgap.1.2], by omega⟩
                  obtain ⟨wb, hwb⟩ : ∃ wb, cutB (adv t 32) = wb := ⟨_, rfl⟩
                  have HF : Hid (∀ nb, nb = (fb || (ob || wb)) → nb = ((wordsOf t l (refR l m).1).2 || overW t l (wordsOf t l (refR l m).1).1.isEmpty ⟨m, j, n, sb⟩)) := Lib.hid (by rintro nb rfl; rw [hov, hfb, hwb])
                  have hz' : decide (0 < (wordsOf t l (refR l m).1).1.length) = true := decide_eq_true hz
                  simp only [hfb, hob]
                  clear hmk hov hgap hfst hfb
                  cases hsp
                  obtain ⟨d0, d1, d2, d3, d4⟩ := hblS.c5
                  have hwS := HW.out.trans (hbS.mono hwl)
                  have hadv := adv_i64 ht 32
                  have hltS := hblS.lt
                  have HR32 := Lib.hid (radv_any t B d _ ((HT.out.below hwS).more hwS.size) 32 (by omega) (by omega))
                  cases ob <;> cases fb <;> cases wb
                  all_goals
                    go_wp2_with fail
                    refine HR32.out.mono ?_
                    rintro e w' ⟨rfl, rfl⟩
                    go_wp2_with fail
                    refine (of_big (adv t 32) _ hadv.1 hadv.2).mono ?_
                    rintro e W2 ⟨bm, bA, bc, bn, rfl, hB3, hbig⟩
                    go_wp2_with fail
                    refine (rcut_any _ 64 (adv t 32) _ (by omega) _ hbig).mono ?_
                    rintro e W3 ⟨rfl, hB4⟩
                    rw [hwb]
                    have hB34 := hB3.trans (hB4.mono hB3.size)
                    have hbl3 := hblS.below hB34 hltS
                    have fz3 := hbl3.frozen
                    have e3 := hbl3.c5.2.2.2.1
                    have hb3 := hbS.trans (hB34.mono hbS.size)
                    have hblT : Blk (W3.setCell ⟨wo.heap.size, 3, none⟩ (.int .i64 (cutF (adv t 32)))) wo.heap.size 37 #[.int .i64 m, .int .i64 j, .int .i64 (cutF (advs t (part l ⟨m, j, n, true⟩)).sum), .int .i64 (cutF (adv t 32)), .int .i64 n] := hbl3.set_ 3 _
                    have hbT : Below wo.heap.size wo (W3.setCell ⟨wo.heap.size, 3, none⟩ (.int .i64 (cutF (adv t 32)))) := hb3.setCell (p := ⟨wo.heap.size, 3, none⟩) (Nat.le_refl _) _
                    obtain ⟨t0, t1, t2, t3, t4⟩ := hblT.c5
                    clear d0 d1 d2 d3 d4 hbig
                    go_wp2_with (at_builtin; refine wpList_appg (m := 1) rfl _ _ rfl el_word (HOWN.out _ hbT) (Nat.le_trans hwl hbT.size) rfl [_, _, _, _, _] rfl (by simp [World.setCell]) (by simp) (by simp [Value.oneCell']) (by omega) (by omega) ?_; intro A' c' w' hown' hB2 hg _)
                    go_roundw
                    case rel => exact ⟨m + 1, by omega, RI.step HR.out (by rw [HM.out]; exact hown') (hB2 _ _ (Nat.le_refl _) (HW.out.trans (hbT.mono hwl))) (HF.out _ rfl) (by go_num) rfl⟩
                    case measure => simp [intOf]; omega
                · have hmk : mkW t l (wordsOf t l (refR l m).1).1.isEmpty ⟨m, j, n, sb⟩ = ⟨m, j, cutF (advs t (part l ⟨m, j, n, sb⟩)).sum, 0, n⟩ := by simp [mkW, hgap]
                  have hov : overW t l (wordsOf t l (refR l m).1).1.isEmpty ⟨m, j, n, sb⟩ = ob := by simp [overW, hgap, hob]
                  have HM : Hid (wdCells (mkW t l (wordsOf t l (refR l m).1).1.isEmpty ⟨m, j, n, sb⟩) = [.int .i64 m, .int .i64 j, .int .i64 (cutF (advs t (part l ⟨m, j, n, sb⟩)).sum), .int .i64 0, .int .i64 n]) := Lib.hid (by rw [hmk]; rfl)
                  have hg3 : sb = false ∨ sb = true ∧ ((n : Int) == 0) = false ∨ sb = true ∧ ((n : Int) == 0) = true ∧ (wordsOf t l (refR l m).1).1.length = 0 := by
                    rw [hfst] at hgap
                    cases hsp : sb
                    · exact .inl rfl
                    · simp only [gapIs, hsp, Bool.true_and, Bool.and_eq_true, decide_eq_true_eq, Bool.not_eq_true', decide_eq_false_iff_not] at hgap
                      by_cases h0 : n = 0
                      · exact .inr (.inr ⟨rfl, by simp [h0], by omega⟩)
                      · exact .inr (.inl ⟨rfl, by simp [h0]⟩)
                  have HF : Hid (∀ nb, nb = (fb || ob) → nb = ((wordsOf t l (refR l m).1).2 || overW t l (wordsOf t l (refR l m).1).1.isEmpty ⟨m, j, n, sb⟩)) := Lib.hid (by rintro nb rfl; rw [hov, hfb])
                  obtain ⟨d0, d1, d2, d3, d4⟩ := hblS.c5
                  simp only [hfb, hob]
                  clear hmk hov hgap hfst hfb
                  rcases hg3 with hsp | ⟨hsp, he⟩ | ⟨hsp, he, hz⟩
                  · cases hsp
                    cases ob <;> cases fb
                    all_goals
                      go_wp2_with (at_builtin; refine wpList_appg (m := 1) rfl _ _ rfl el_word (HOWN.out _ hbS) (Nat.le_trans hwl hbS.size) rfl [_, _, _, _, _] rfl (by simp [World.setCell]) (by simp) (by simp [Value.oneCell']) (by omega) (by omega) ?_; intro A' c' w' hown' hB2 hg _)
                      go_roundw
                      case rel => exact ⟨m + 1, by omega, RI.step HR.out (by rw [HM.out]; exact hown') (hB2 _ _ (Nat.le_refl _) (HW.out.trans (hbS.mono hwl))) (HF.out _ rfl) (by go_num) rfl⟩
                      case measure => simp [intOf]; omega
                  · cases hsp
                    cases ob <;> cases fb
                    all_goals
                      go_wp2_with (at_builtin; refine wpList_appg (m := 1) rfl _ _ rfl el_word (HOWN.out _ hbS) (Nat.le_trans hwl hbS.size) rfl [_, _, _, _, _] rfl (by simp [World.setCell]) (by simp) (by simp [Value.oneCell']) (by omega) (by omega) ?_; intro A' c' w' hown' hB2 hg _)
                      go_roundw
                      case rel => exact ⟨m + 1, by omega, RI.step HR.out (by rw [HM.out]; exact hown') (hB2 _ _ (Nat.le_refl _) (HW.out.trans (hbS.mono hwl))) (HF.out _ rfl) (by go_num) rfl⟩
                      case measure => simp [intOf]; omega
                  · cases hsp
                    have hz' : decide (0 < (wordsOf t l (refR l m).1).1.length) = false := decide_eq_false (by omega)
                    have hlen' := hlenw
                    clear hz
                    cases ob <;> cases fb
                    all_goals
                      go_wp2_with (at_builtin; refine wpList_appg (m := 1) rfl _ _ rfl el_word (HOWN.out _ hbS) (Nat.le_trans hwl hbS.size) rfl [_, _, _, _, _] rfl (by simp [World.setCell]) (by simp) (by simp [Value.oneCell']) (by omega) (by omega) ?_; intro A' c' w' hown' hB2 hg _)
                      go_roundw
                      case rel => exact ⟨m + 1, by omega, RI.step HR.out (by rw [HM.out]; exact hown') (hB2 _ _ (Nat.le_refl _) (HW.out.trans (hbS.mono hwl))) (HF.out _ rfl) (by go_num) rfl⟩
                      case measure => simp [intOf]; omega
          · have hjE' := runEnd_let hL
            have hjl := runEnd_ge l (j + 1)
            rw [hjE'] at hjl
            rw [hjE] at hjE' hjl
            have HM : Hid (((wr.setCell ⟨wo.heap.size, 1, none⟩ (.int .i64 (j + 1))).cell? ⟨wo.heap.size, 1, none⟩).getD (.int .i64 0) = .int .i64 (j + 1) ∧ (wr.cell? ⟨wo.heap.size, 1, none⟩).getD (.int .i64 0) = .int .i64 j) := Lib.hid ⟨by rw [hbl2.cell 1]; rfl, by rw [c1]; rfl⟩
            have HJ := Lib.hid hjE'
            clear hjE' hjE
            go_wp2_with fail
            refine (LET _ hww j (by omega)).mono ?_
            rintro e w' ⟨rfl, rfl⟩
            rw [hL]
            go_wp2_with fail
            go_roundw
            case rel => exact ⟨j + 1, by omega, by omega, HJ.out, hbl2, hbw.setCell (p := ⟨wo.heap.size, 1, none⟩) (Nat.le_refl _) _⟩
            case measure => rw [HM.out.1, HM.out.2]; simp [intOf]; omega
    · obtain rfl : k = l.length := by omega
      have HS := Lib.hid (ref_spans l)
      rw [ref_spans] at hown
      go_wp2_with fail
      go_ret2
      exact ⟨_, by rw [HS.out]; rfl, hown, hw⟩
end Go.Proofs.Ytmpcpcagphgopaa
