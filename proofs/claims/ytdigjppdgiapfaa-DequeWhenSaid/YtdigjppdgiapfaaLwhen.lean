/- DequeWhen walked. -/
import Derived.Test.YtdigjppdgiapfaaDwk
import Derived.Test.YtdigjppdgiapfaaMv
set_option linter.unusedSimpArgs false
set_option linter.unusedVariables false
namespace Go.Proofs.Ytdigjppdgiapfaa
open Go.RowKit
attribute [local go_sem] block_of_add fn_some fn_nil fn_somen fn_niln
attribute [local go_sem ↓] Go.wp_at_zero Go.wp_at_succ

theorem Wk.start {w : World} {gd gc base n : Nat} (hd : DqAt w gd gc (Dq.made n) (.pointer none)) (hn : 0 < n) (lc : base ≤ gc) (ld : base ≤ gd) : Wk w gd gc base 0 (Dq.made n) (.pointer none) ⟨0, 0, 0, 0, false, 0⟩ (List.replicate 7 none) := by
  have none_ : ∀ (i g : Nat) (h : Dop), (List.replicate 7 (none : Option (Nat × Dop)))[i]? ≠ some (some (g, h)) := fun i g h e => by
    rw [List.getElem?_replicate] at e
    split at e
    · injection e with e; cases e
    · cases e
  exact ⟨hd, made_ok n hn _ rfl, ⟨by simp [Dq.made], by simp [Dq.made], by simp [Dq.made], by simp [Dq.made]⟩, fun g h e => absurd e (none_ 0 g h), fun _ => ⟨rfl, .inl rfl⟩, fun i g h e => absurd e (none_ i g h), fun i j g h h' e => absurd e (none_ i g h), lc, ld⟩
theorem el_op : El Try.prog 31 36 (.pointer none) 1 8 := ⟨Try.underlying31, by kernel_rfl, rfl, by decide⟩
theorem el_bool : El Try.prog 52 4 (.bool false) 1 1 := ⟨Try.underlying52, by kernel_rfl, rfl, by decide⟩
def none7 : Array Value := ((List.replicate 7 (none : Option (Nat × Dop))).map ptrV).toArray
def false7 : Array Value := (bools (List.replicate 7 false)).toArray
theorem made_ops : madeCells (Value.pointer none).cells ((7 : Int).toNat * 1) = ((List.replicate 7 (none : Option (Nat × Dop))).map ptrV).toArray := by
  apply Array.toList_inj.1
  show (madeCells #[.pointer none] 7).toList = _
  rw [toList_madeCells_one]; rfl
theorem made_bools : madeCells (Value.bool false).cells ((7 : Int).toNat * 1) = (bools (List.replicate 7 false)).toArray := by
  apply Array.toList_inj.1
  show (madeCells #[.bool false] 7).toList = _
  rw [toList_madeCells_one]; rfl
theorem make_ops (w : World) : (Instr.makeSlice 31 (.int .i64 7) (.int .i64 7)).run Try.prog w = .ok (.slice (some ⟨w.heap.size, 0, none⟩) 7 7) (w.alloc (.cells none7 36)) := by
  obtain ⟨i, hi, hz, hs, hb⟩ := info_parts el_op.info
  have h := run_makeSlice (P := Try.prog) (w := w) 31 36 i (.pointer none) el_op.ht hi hz .i64 .i64 7 7 (by omega) (by omega) (by rw [hs]; decide) (by rw [hb]; decide) (by omega)
  rw [h, hs, made_ops]
  rfl
theorem make_bools (w : World) : (Instr.makeSlice 52 (.int .i64 7) (.int .i64 7)).run Try.prog w = .ok (.slice (some ⟨w.heap.size, 0, none⟩) 7 7) (w.alloc (.cells false7 4)) := by
  obtain ⟨i, hi, hz, hs, hb⟩ := info_parts el_bool.info
  have h := run_makeSlice (P := Try.prog) (w := w) 52 4 i (.bool false) el_bool.ht hi hz .i64 .i64 7 7 (by omega) (by omega) (by rw [hs]; decide) (by rw [hb]; decide) (by omega)
  rw [h, hs, made_bools]
  rfl
theorem arr_set_get {α : Type} (a : Array α) {i : Nat} {u : α} (h : i < a.size) : (a.setIfInBounds i u)[i]? = some u := by simp [h]
theorem set_same {α : Type} (hs : List α) {i : Nat} {a : α} (h : hs[i]? = some a) : hs.set i a = hs := by
  apply List.ext_getElem?
  intro j
  by_cases hj : j = i
  · subst hj
    rw [List.getElem?_set_self ((List.getElem?_eq_some_iff.1 h).1), h]
  · rw [List.getElem?_set_ne (Ne.symm hj)]
set_option maxRecDepth 100000 in
set_option maxHeartbeats 4000000 in
theorem dequeWhen_any (room : Int) (l : List (Int × Bool)) (A : Option Addr) (c : Nat) (w : World) (hr : 0 ≤ room ∧ room < 256) (hlm : ∀ m ∈ l, 0 ≤ m.1 ∧ m.1 < 256) (hrl : Reads w w.heap.size 2 A l.length (mvCells l)) :
    Calls Try.prog 6 #[.int .u8 room, .slice A l.length c] w fun e w' => e = .returned (.bool true) ∧ Below w.heap.size w w' := by
  suffices h : Calls Try.prog 6 #[.int .u8 room, .slice A l.length c] w fun e w' => e = .returned (.bool true) ∧ Kp (fun _ => False) w w' from
    h.mono fun e w' ⟨h1, h2⟩ => ⟨h1, h2.below (fun k h => h.elim) (Nat.le_refl _)⟩
  have HL := Lib.hid hrl
  have HM := Lib.hid hlm
  have HW := Lib.hid fun W => works_any W
  have hmo := make_ops
  have hmb := make_bools
  clear hrl hlm
  by_cases hbig : 1000 < l.length
  · have d1 : decide ((1000 : Int) < (l.length : Int)) = true := decide_eq_true (by omega)
    go_enter Try.func6, Try.ntmps6
    go_wp2_with fail
    refine (HW.out _).mono ?_
    rintro e w1 ⟨rfl, hk⟩
    have HK := Lib.hid hk
    clear hk
    go_wp2_with fail
    go_ret
    exact ⟨rfl, HK.out⟩
  · have d1 : decide ((1000 : Int) < (l.length : Int)) = false := decide_eq_false (by omega)
    have hl2 : l.length ≤ 1000 := by omega
    obtain ⟨n, hn⟩ : ∃ n : Nat, 1 + room % 9 = (n : Int) := ⟨(1 + room % 9).toNat, by omega⟩
    have hn1 : 1 ≤ n := by omega
    have hn2 : n ≤ 9 := by omega
    have r0 := hr.1
    have hm1 : Int.tmod room 9 = (n : Int) - 1 := by rw [Int.tmod_eq_emod_of_nonneg r0]; omega
    have hm2 : room % 9 = (n : Int) - 1 := by omega
    have hm3 : 1 + ((n : Int) - 1) = (n : Int) := by omega
    have hwr : IntKind.i64.wrap (n : Int) = (n : Int) := IntWalk.i64_in _ ⟨by omega, by omega⟩
    have hwr2 : IntKind.i64.wrap ((n : Int) - 1) = (n : Int) - 1 := IntWalk.i64_in _ ⟨by omega, by omega⟩
    have hwr3 : IntKind.i64.wrap room = room := IntWalk.i64_in _ ⟨by omega, by omega⟩
    have HN := Lib.hid fun W => new_var n hn1 (by omega) W
    clear hn hbig
    go_enter Try.func6, Try.ntmps6
    go_wp2_with fail
    refine (HN.out _).mono ?_
    rintro e w1 ⟨gd, gc, rfl, hgd, hgc, hd, hk⟩
    have HD := Lib.hid hd
    have HK := Lib.hid hk
    clear hd hk HN hm1 hm2 hm3 hwr hwr2 hwr3 hr r0
    go_wp2_with fail
    obtain ⟨W, hW⟩ : ∃ W, W = ((w1.alloc (.cells none7 36)).alloc (.cells false7 4)).alloc (.cells false7 4) := ⟨_, rfl⟩
    obtain ⟨gO, hgO⟩ : ∃ g, g = w1.heap.size := ⟨_, rfl⟩
    obtain ⟨gB, hgB⟩ : ∃ g, g = gO + 1 := ⟨_, rfl⟩
    obtain ⟨gF, hgF⟩ : ∃ g, g = gB + 1 := ⟨_, rfl⟩
    have HBO : Hid (Blk W gO 36 ((List.replicate 7 (none : Option (Nat × Dop))).map ptrV).toArray) := Lib.hid (by rw [hW]; exact ((Blk.at_ _ _ _ hgO).alloc _).alloc _)
    have HBB : Hid (Blk W gB 4 (bools (List.replicate 7 false)).toArray) := Lib.hid (by rw [hW]; exact (Blk.at_ _ _ _ (by rw [hgB, hgO]; simp)).alloc _)
    have HBF : Hid (Blk W gF 4 (bools (List.replicate 7 false)).toArray) := Lib.hid (by rw [hW]; exact Blk.at_ _ _ _ (by rw [hgF, hgB, hgO]; simp))
    have HKW : Hid (Kp (fun _ => False) w W) := Lib.hid (by rw [hW]; exact ((HK.out.alloc _).alloc _).alloc _)
    have HKD : Hid (Kp (fun _ => False) w1 W) := Lib.hid (by rw [hW]; exact (((Kp.refl _ _).alloc _).alloc _).alloc _)
    have HGO : Hid (w.heap.size ≤ gO ∧ gB = gO + 1 ∧ gF = gB + 1) := Lib.hid ⟨by rw [hgO]; exact HK.out.size, hgB, hgF⟩
    have HWK := Lib.hid (Wk.start (base := w.heap.size) (HD.out.kp HKD.out id id) (by omega) hgc hgd)
    simp only [← hgO, ← hgB, ← hgF]
    rw [show ((w1.alloc (.cells none7 36)).alloc (.cells false7 4)).alloc (.cells false7 4) = W from hW.symm]
    clear hW hgO hgB hgF HD HK HKD
    go_loopw [11] (fun i wr => ∃ (k : Nat) (d : Dq) (own : Value) (o : Dop) (hs : List (Option (Nat × Dop))) (bs fs : List Bool), k ≤ l.length ∧ i = .int .i64 k ∧ Wk wr gd gc w.heap.size k d own o hs ∧ d.sl.length = n ∧ hs.length = 7 ∧ Hid (∀ (i g : Nat) (h : Dop), hs[i]? = some (some (g, h)) → 1 ≤ h.pc) ∧
      Blk wr gO 36 (hs.map ptrV).toArray ∧ bs.length = 7 ∧ Blk wr gB 4 (bools bs).toArray ∧ fs.length = 7 ∧ Blk wr gF 4 (bools fs).toArray ∧ Kp (fun _ => False) w wr) (fun i _ => l.length - (intOf i).toNat)
    case atStart =>
      refine ⟨0, _, _, _, _, _, _, by omega, rfl, HWK.out, by simp [Dq.made], by simp, Lib.hid (fun i g h e => ?_), HBO.out, by simp, HBB.out, by simp, HBF.out, HKW.out⟩
      rw [List.getElem?_replicate] at e
      split at e
      · injection e with e; cases e
      · cases e
    case round =>
      obtain ⟨k, d, own, o, hs, bs, fs, hk, rfl, hwk, hsn, h7, HGo, hbo, hb7, hbb, hf7, hbf, hkk⟩ := hrel
      by_cases hlt : k < l.length
      · have hB : Below w.heap.size w wr := hkk.below (fun k h => h.elim) (Nat.le_refl _)
        obtain ⟨ad, rfl, hab, hc0, hc1⟩ := HL.out.mv rfl hlt
        have hm := HM.out l[k] (List.getElem_mem hlt)
        obtain ⟨mw, hmw⟩ : ∃ x, x = l[k].1 := ⟨_, rfl⟩
        obtain ⟨mp, hmp⟩ : ∃ x, x = l[k].2 := ⟨_, rfl⟩
        rw [← hmw] at hc0 hm
        rw [← hmp] at hc1
        have HC0 := Lib.hid hc0
        have HC1 := Lib.hid hc1
        have c0 : wr.cell? (ad.add (k * 2)) = some (.int .u8 mw) := (hB.cell (by rw [block_of_add]; exact hab)).trans hc0
        have c1 : wr.cell? ⟨ad.block, (ad.add (k * 2)).off + 1, none⟩ = some (.bool mp) := (hB.cell (by exact hab)).trans hc1
        have hkl : (k : Int) < (l.length : Int) := by omega
        have hd1 : decide ((k : Int) < (l.length : Int)) = true := decide_eq_true hkl
        obtain ⟨wi, hwi⟩ : ∃ x : Nat, mw % 7 = (x : Int) := ⟨(mw % 7).toNat, by omega⟩
        have hw7 : wi < 7 := by omega
        have hw7i : (wi : Int) < 7 := by omega
        have hmt : Int.tmod mw 7 = (wi : Int) := by rw [Int.tmod_eq_emod_of_nonneg hm.1]; exact hwi
        have hwr1 : IntKind.i64.wrap mw = mw := IntWalk.i64_in _ ⟨by omega, by omega⟩
        have hwr2 : IntKind.i64.wrap (wi : Int) = (wi : Int) := IntWalk.i64_in _ ⟨by omega, by omega⟩
        have hwl : wi < hs.length := by omega
        obtain ⟨e, he⟩ : ∃ e, hs[wi]? = some e := ⟨_, List.getElem?_eq_getElem hwl⟩
        have co : wr.cell? ⟨gO, wi, none⟩ = some (ptrV e) := hbo.get wi (by simp [he])
        have HWk := Lib.hid hwk
        have HBo := Lib.hid hbo
        have HBb := Lib.hid hbb
        have HBf := Lib.hid hbf
        have HKk := Lib.hid hkk
        have HE := Lib.hid he
        have HH7 := Lib.hid h7
        clear hwk hbo hbb hbf hkk he h7 hmw hmp hc0 hc1 hB hwl
        rcases e with _ | ⟨g, h⟩
        · have co2 : wr.cell? ⟨gO, wi, none⟩ = some (.pointer none) := co
          clear co
          have hpos : 0 < d.sl.length := HWk.out.ok.n
          have hsz : w.heap.size ≤ wr.heap.size := HKk.out.size
          rcases Nat.eq_zero_or_pos wi with hz | hp
          · subst hz
            cases mp
            · have HB := Lib.hid (begin_push gd gc d own wr HWk.out.at_ hpos (k : Int) (by omega) (HWk.out.idle HE.out))
              go_wp2_with fail
              refine HB.out.mono ?_
              intro e w2 hbe
              have hwk2 := HWk.out.begun_own HE.out (.inr ⟨_, rfl⟩) hbe hsz
              obtain ⟨he1, _, _, hk2⟩ := hbe
              subst he1
              obtain ⟨g, hg⟩ : ∃ g, g = wr.heap.size := ⟨_, rfl⟩
              have b1 := HBo.out.kp hk2 (Blk.ne_ HBo.out HWk.out.at_.hdr (by decide))
              have b2 := HBb.out.kp hk2 (Blk.ne_ HBb.out HWk.out.at_.hdr (by decide))
              have b3 := HBf.out.kp hk2 (Blk.ne_ HBf.out HWk.out.at_.hdr (by decide))
              have q1 := b1.get 0 (v := ptrV none) (by simp [HE.out])
              obtain ⟨vb, hvb⟩ : ∃ v, bs[0]? = some v := ⟨_, List.getElem?_eq_getElem (by omega)⟩
              obtain ⟨vf, hvf⟩ : ∃ v, fs[0]? = some v := ⟨_, List.getElem?_eq_getElem (by omega)⟩
              have q2 := b2.get 0 (v := .bool vb) (by simp [bools, hvb])
              have q3 := b3.get 0 (v := .bool vf) (by simp [bools, hvf])
              have z1 := b1.frozen 0
              have z2 := b2.frozen 0
              have z3 := b3.frozen 0
              have l1 := b1.lt
              have l2 := b2.lt
              have l3 := b3.lt
              have hne1 : gO ≠ gB ∧ gO ≠ gF ∧ gB ≠ gF := by have := HGO.out; omega
              obtain ⟨n1, n2, n3⟩ := hne1
              have B1 := Lib.hid b1
              have B2 := Lib.hid b2
              have B3 := Lib.hid b3
              have HWk2 := Lib.hid hwk2
              have HK2 := Lib.hid (HKk.out.trans' hk2 (fun i h e => by omega))
              clear hwk2 hk2 b1 b2 b3 hvb hvf
              go_wp2_with fail
              go_roundw
              case rel =>
                refine ⟨k + 1, d, (.pointer (some ⟨wr.heap.size, 0, none⟩)), (opPush k), hs.set 0 (some (wr.heap.size, (opPush k))), bs.set 0 false, fs.set 0 false, by omega, by go_num, ?_, hsn, by simp [HH7.out], Lib.hid ?_, ?_, by simp [hb7], ?_, by simp [hf7], ?_, ?_⟩
                · refine HWk2.out.kp (bad := fun i => i = gO ∨ i = gB ∨ i = gF) ((((Kp.refl _ _).setCell (p := ⟨gO, 0, none⟩) (.inl (.inl rfl)) _).setCell (p := ⟨gB, 0, none⟩) (.inl (.inr (.inl rfl))) _).setCell (p := ⟨gF, 0, none⟩) (.inl (.inr (.inr rfl))) _) ?_
                  intro i _ hbad
                  rcases hbad with x | x | x
                  · rw [x]; exact .inr ⟨_, _, B1.out, by decide, by decide, by decide⟩
                  · rw [x]; exact .inr ⟨_, _, B2.out, by decide, by decide, by decide⟩
                  · rw [x]; exact .inr ⟨_, _, B3.out, by decide, by decide, by decide⟩
                · intro i g' h' e
                  by_cases hj : i = 0
                  · rw [hj] at e
                    rw [List.getElem?_set_self (by have := HH7.out; omega)] at e
                    injection e with e
                    injection e with e
                    injection e with e1 e2
                    subst e2
                    simp [opPush, opPop, opSteal]
                  · rw [List.getElem?_set_ne (Ne.symm hj)] at e
                    exact HGo.out i g' h' e
                · exact Blk.conv (((B1.out.set_ 0 _).far (p := ⟨gB, 0, none⟩) n1 _).far (p := ⟨gF, 0, none⟩) n2 _) (by simp [ptrV, List.map_set])
                · exact Blk.conv (((B2.out.far (p := ⟨gO, 0, none⟩) (Ne.symm n1) _).set_ 0 _).far (p := ⟨gF, 0, none⟩) n3 _) (by simp [bools, List.map_set])
                · exact Blk.conv (((B3.out.far (p := ⟨gO, 0, none⟩) (Ne.symm n2) _).far (p := ⟨gB, 0, none⟩) (Ne.symm n3) _).set_ 0 _) (by simp [bools, List.map_set])
                · refine HK2.out.trans' ((((Kp.refl (fun i => i = gO ∨ i = gB ∨ i = gF) _).setCell (p := ⟨gO, 0, none⟩) (.inl (.inl rfl)) _).setCell (p := ⟨gB, 0, none⟩) (.inl (.inr (.inl rfl))) _).setCell (p := ⟨gF, 0, none⟩) (.inl (.inr (.inr rfl))) _) (fun i h e => ?_)
                  have := HGO.out
                  omega
              case measure => simp [intOf]; omega
            · have HB := Lib.hid (begin_pop gd gc d own wr HWk.out.at_ hpos (k : Int) (HWk.out.idle HE.out))
              go_wp2_with fail
              refine HB.out.mono ?_
              intro e w2 hbe
              have hwk2 := HWk.out.begun_own HE.out (.inl rfl) hbe hsz
              obtain ⟨he1, _, _, hk2⟩ := hbe
              subst he1
              obtain ⟨g, hg⟩ : ∃ g, g = wr.heap.size := ⟨_, rfl⟩
              have b1 := HBo.out.kp hk2 (Blk.ne_ HBo.out HWk.out.at_.hdr (by decide))
              have b2 := HBb.out.kp hk2 (Blk.ne_ HBb.out HWk.out.at_.hdr (by decide))
              have b3 := HBf.out.kp hk2 (Blk.ne_ HBf.out HWk.out.at_.hdr (by decide))
              have q1 := b1.get 0 (v := ptrV none) (by simp [HE.out])
              obtain ⟨vb, hvb⟩ : ∃ v, bs[0]? = some v := ⟨_, List.getElem?_eq_getElem (by omega)⟩
              obtain ⟨vf, hvf⟩ : ∃ v, fs[0]? = some v := ⟨_, List.getElem?_eq_getElem (by omega)⟩
              have q2 := b2.get 0 (v := .bool vb) (by simp [bools, hvb])
              have q3 := b3.get 0 (v := .bool vf) (by simp [bools, hvf])
              have z1 := b1.frozen 0
              have z2 := b2.frozen 0
              have z3 := b3.frozen 0
              have l1 := b1.lt
              have l2 := b2.lt
              have l3 := b3.lt
              have hne1 : gO ≠ gB ∧ gO ≠ gF ∧ gB ≠ gF := by have := HGO.out; omega
              obtain ⟨n1, n2, n3⟩ := hne1
              have B1 := Lib.hid b1
              have B2 := Lib.hid b2
              have B3 := Lib.hid b3
              have HWk2 := Lib.hid hwk2
              have HK2 := Lib.hid (HKk.out.trans' hk2 (fun i h e => by omega))
              clear hwk2 hk2 b1 b2 b3 hvb hvf
              go_wp2_with fail
              go_roundw
              case rel =>
                refine ⟨k + 1, d, (.pointer (some ⟨wr.heap.size, 0, none⟩)), opPop, hs.set 0 (some (wr.heap.size, opPop)), bs.set 0 false, fs.set 0 false, by omega, by go_num, ?_, hsn, by simp [HH7.out], Lib.hid ?_, ?_, by simp [hb7], ?_, by simp [hf7], ?_, ?_⟩
                · refine HWk2.out.kp (bad := fun i => i = gO ∨ i = gB ∨ i = gF) ((((Kp.refl _ _).setCell (p := ⟨gO, 0, none⟩) (.inl (.inl rfl)) _).setCell (p := ⟨gB, 0, none⟩) (.inl (.inr (.inl rfl))) _).setCell (p := ⟨gF, 0, none⟩) (.inl (.inr (.inr rfl))) _) ?_
                  intro i _ hbad
                  rcases hbad with x | x | x
                  · rw [x]; exact .inr ⟨_, _, B1.out, by decide, by decide, by decide⟩
                  · rw [x]; exact .inr ⟨_, _, B2.out, by decide, by decide, by decide⟩
                  · rw [x]; exact .inr ⟨_, _, B3.out, by decide, by decide, by decide⟩
                · intro i g' h' e
                  by_cases hj : i = 0
                  · rw [hj] at e
                    rw [List.getElem?_set_self (by have := HH7.out; omega)] at e
                    injection e with e
                    injection e with e
                    injection e with e1 e2
                    subst e2
                    simp [opPush, opPop, opSteal]
                  · rw [List.getElem?_set_ne (Ne.symm hj)] at e
                    exact HGo.out i g' h' e
                · exact Blk.conv (((B1.out.set_ 0 _).far (p := ⟨gB, 0, none⟩) n1 _).far (p := ⟨gF, 0, none⟩) n2 _) (by simp [ptrV, List.map_set])
                · exact Blk.conv (((B2.out.far (p := ⟨gO, 0, none⟩) (Ne.symm n1) _).set_ 0 _).far (p := ⟨gF, 0, none⟩) n3 _) (by simp [bools, List.map_set])
                · exact Blk.conv (((B3.out.far (p := ⟨gO, 0, none⟩) (Ne.symm n2) _).far (p := ⟨gB, 0, none⟩) (Ne.symm n3) _).set_ 0 _) (by simp [bools, List.map_set])
                · refine HK2.out.trans' ((((Kp.refl (fun i => i = gO ∨ i = gB ∨ i = gF) _).setCell (p := ⟨gO, 0, none⟩) (.inl (.inl rfl)) _).setCell (p := ⟨gB, 0, none⟩) (.inl (.inr (.inl rfl))) _).setCell (p := ⟨gF, 0, none⟩) (.inl (.inr (.inr rfl))) _) (fun i h e => ?_)
                  have := HGO.out
                  omega
              case measure => simp [intOf]; omega
          · have HB := Lib.hid (begin_steal gd gc d own wr HWk.out.at_ hpos wi hp mp (k : Int))
            go_wp2_with fail
            refine HB.out.mono ?_
            intro e w2 hbe
            have hwk2 := HWk.out.begun_th hp HE.out hbe hsz
            obtain ⟨he1, _, _, hk2⟩ := hbe
            subst he1
            obtain ⟨g, hg⟩ : ∃ g, g = wr.heap.size := ⟨_, rfl⟩
            have b1 := HBo.out.kp hk2 (Blk.ne_ HBo.out HWk.out.at_.hdr (by decide))
            have b2 := HBb.out.kp hk2 (Blk.ne_ HBb.out HWk.out.at_.hdr (by decide))
            have b3 := HBf.out.kp hk2 (Blk.ne_ HBf.out HWk.out.at_.hdr (by decide))
            have q1 := b1.get wi (v := ptrV none) (by simp [HE.out])
            obtain ⟨vb, hvb⟩ : ∃ v, bs[wi]? = some v := ⟨_, List.getElem?_eq_getElem (by omega)⟩
            obtain ⟨vf, hvf⟩ : ∃ v, fs[wi]? = some v := ⟨_, List.getElem?_eq_getElem (by omega)⟩
            have q2 := b2.get wi (v := .bool vb) (by simp [bools, hvb])
            have q3 := b3.get wi (v := .bool vf) (by simp [bools, hvf])
            have z1 := b1.frozen wi
            have z2 := b2.frozen wi
            have z3 := b3.frozen wi
            have l1 := b1.lt
            have l2 := b2.lt
            have l3 := b3.lt
            have hne1 : gO ≠ gB ∧ gO ≠ gF ∧ gB ≠ gF := by have := HGO.out; omega
            obtain ⟨n1, n2, n3⟩ := hne1
            have B1 := Lib.hid b1
            have B2 := Lib.hid b2
            have B3 := Lib.hid b3
            have HWk2 := Lib.hid hwk2
            have HK2 := Lib.hid (HKk.out.trans' hk2 (fun i h e => by omega))
            clear hwk2 hk2 b1 b2 b3 hvb hvf
            go_wp2_with fail
            go_roundw
            case rel =>
              refine ⟨k + 1, d, own, o, hs.set wi (some (wr.heap.size, opSteal)), bs.set wi false, fs.set wi false, by omega, by go_num, ?_, hsn, by simp [HH7.out], Lib.hid ?_, ?_, by simp [hb7], ?_, by simp [hf7], ?_, ?_⟩
              · refine HWk2.out.kp (bad := fun i => i = gO ∨ i = gB ∨ i = gF) ((((Kp.refl _ _).setCell (p := ⟨gO, wi, none⟩) (.inl (.inl rfl)) _).setCell (p := ⟨gB, wi, none⟩) (.inl (.inr (.inl rfl))) _).setCell (p := ⟨gF, wi, none⟩) (.inl (.inr (.inr rfl))) _) ?_
                intro i _ hbad
                rcases hbad with x | x | x
                · rw [x]; exact .inr ⟨_, _, B1.out, by decide, by decide, by decide⟩
                · rw [x]; exact .inr ⟨_, _, B2.out, by decide, by decide, by decide⟩
                · rw [x]; exact .inr ⟨_, _, B3.out, by decide, by decide, by decide⟩
              · intro i g' h' e
                by_cases hj : i = wi
                · subst hj
                  rw [List.getElem?_set_self (by have := HH7.out; omega)] at e
                  injection e with e
                  injection e with e
                  injection e with e1 e2
                  subst e2
                  simp [opPush, opPop, opSteal]
                · rw [List.getElem?_set_ne (Ne.symm hj)] at e
                  exact HGo.out i g' h' e
              · exact Blk.conv (((B1.out.set_ wi _).far (p := ⟨gB, wi, none⟩) n1 _).far (p := ⟨gF, wi, none⟩) n2 _) (by simp [ptrV, List.map_set])
              · exact Blk.conv (((B2.out.far (p := ⟨gO, wi, none⟩) (Ne.symm n1) _).set_ wi _).far (p := ⟨gF, wi, none⟩) n3 _) (by simp [bools, List.map_set])
              · exact Blk.conv (((B3.out.far (p := ⟨gO, wi, none⟩) (Ne.symm n2) _).far (p := ⟨gB, wi, none⟩) (Ne.symm n3) _).set_ wi _) (by simp [bools, List.map_set])
              · refine HK2.out.trans' ((((Kp.refl (fun i => i = gO ∨ i = gB ∨ i = gF) _).setCell (p := ⟨gO, wi, none⟩) (.inl (.inl rfl)) _).setCell (p := ⟨gB, wi, none⟩) (.inl (.inr (.inl rfl))) _).setCell (p := ⟨gF, wi, none⟩) (.inl (.inr (.inr rfl))) _) (fun i h e => ?_)
                have := HGO.out
                omega
            case measure => simp [intOf]; omega
        · have co2 : wr.cell? ⟨gO, wi, none⟩ = some (.pointer (some ⟨g, 0, none⟩)) := co
          clear co
          have hpc := HGo.out wi g h HE.out
          have hsl2 : (dstep d h).1.sl.length = n := by rw [step_len]; exact hsn
          have HS := Lib.hid (HWk.out.step (by omega) (by omega) HE.out hpc)
          generalize dstep d h = st at HS hsl2
          obtain ⟨d2, h2, a1, a2⟩ := st
          dsimp only at HS hsl2
          have HOP0 := Lib.hid (HWk.out.each wi g h HE.out).at_
          go_wp2_with fail
          refine HS.out.mono ?_
          rintro e w2 ⟨rfl, hwk2, htl, hk2⟩
          have hpos2 : 0 < d2.sl.length := hwk2.ok.n
          have hbd := hwk2.bd
          have hle := hwk2.ok.len
          have t0 := hbd.t0
          have t1 := hbd.t1
          have b1 := hbd.b1
          obtain ⟨T, hTe⟩ : ∃ T, T = d2.tasks.length := ⟨_, rfl⟩
          have htk : T = (d2.bot - d2.top).toNat := by rw [hTe, tasks_len]; rfl
          have HT : Hid (Calls Try.prog 20 #[.pointer (some ⟨gd, 0, none⟩)] w2 fun e w' => ∃ A c, e = .returned (.slice A T c) ∧ Below w2.heap.size w2 w') :=
            Lib.hid ((tasks_any gd gc d2 own w2 hwk2.at_ hpos2 (by omega) t0 (by omega) (by omega)).mono fun e w' ⟨A, c, h1, _, h3⟩ => ⟨A, c, by rw [hTe]; exact h1, h3⟩)
          have hTn : T ≤ n := by omega
          have hT3 : h2.how = 3 → T = 0 := fun e => by have := htl.bare e; omega
          have hT5 : h2.how = 5 → T = n := fun e => by have := htl.full e; omega
          obtain ⟨H, hH⟩ : ∃ H, H = (told h2).1 := ⟨_, rfl⟩
          obtain ⟨X, hX⟩ : ∃ X, X = (told h2).2 := ⟨_, rfl⟩
          have hHh : H = h2.how := hH
          have HTO : Hid (∀ W, OpAt W g gd h2 → Calls Try.prog 17 #[.pointer (some ⟨g, 0, none⟩)] W fun e w' => e = .returned (.tuple #[.int .u8 (H : Int), .int .i64 X]) ∧ Kp (fun _ => False) W w') := Lib.hid (fun W ha => by rw [hH, hX]; exact told_any g gd h2 W ha)
          have hdone : h2.pc = 0 ↔ H ≠ 0 := by rw [hHh]; exact htl.done
          have hT3' : H = 3 → T = 0 := by rw [hHh]; exact hT3
          have hT5' : H = 5 → T = n := by rw [hHh]; exact hT5
          have hOP2 : OpAt w2 g gd h2 := (hwk2.each wi g h2 (List.getElem?_set_self (by have := HH7.out; omega))).at_
          have nb : ∀ (g' : Nat) (t : TypeId) (cs : Array Value), Blk wr g' t cs → t ≠ 73 → t ≠ 67 → ¬ (g' = gc ∨ g' = g) := fun g' t cs hb x1 x2 => by
            rintro (x | x)
            · subst x; exact Blk.ne_ hb HWk.out.at_.cel x1 rfl
            · subst x; exact Blk.ne_ hb HOP0.out x2 rfl
          have B1 := Lib.hid (HBo.out.kp hk2 (nb _ _ _ HBo.out (by decide) (by decide)))
          have B2 := Lib.hid (HBb.out.kp hk2 (nb _ _ _ HBb.out (by decide) (by decide)))
          have B3 := Lib.hid (HBf.out.kp hk2 (nb _ _ _ HBf.out (by decide) (by decide)))
          have HWk2 := Lib.hid hwk2
          have HKs := Lib.hid (HKk.out.trans' hk2 (bad := fun _ => False) (fun i hi e => by
            rcases e with e | e
            · have := HWk.out.lc; omega
            · have := (HWk.out.each wi g h HE.out).base; omega))
          have HOP := Lib.hid hOP2
          have HT3 := Lib.hid hT3'
          have HT5 := Lib.hid hT5'
          have HDN := Lib.hid hdone
          have hgt : decide ((n : Int) < (T : Int)) = false := decide_eq_false (by omega)
          have hgt2 : decide (n < T) = false := decide_eq_false (by omega)
          have hgt3 : ¬ n < T := by omega
          have hgt4 : T ≤ n := by omega
          clear hwk2 htl hk2 hpos2 hbd hle t0 t1 b1 hTe htk hT3 hT5 hH hX hHh hdone hT3' hT5' hOP2 nb co2 HS
          go_wp2_with fail
          refine HT.out.mono ?_
          rintro e w3 ⟨A3, c3, rfl, hb3⟩
          have b1 := B1.out.below hb3 B1.out.lt
          have b2 := B2.out.below hb3 B2.out.lt
          have b3 := B3.out.below hb3 B3.out.lt
          have HP3 := Lib.hid (Blk.below HOP.out hb3 (Blk.lt HOP.out))
          have q1 := b1.get wi (v := .pointer (some ⟨g, 0, none⟩)) (by simp [HE.out, ptrV])
          obtain ⟨vb, hvb⟩ : ∃ v, bs[wi]? = some v := ⟨_, List.getElem?_eq_getElem (by omega)⟩
          obtain ⟨vf, hvf⟩ : ∃ v, fs[wi]? = some v := ⟨_, List.getElem?_eq_getElem (by omega)⟩
          have q2 := b2.get wi (v := .bool vb) (by simp [bools, hvb])
          have q3 := b3.get wi (v := .bool vf) (by simp [bools, hvf])
          have z1 := b1.frozen wi
          have z2 := b2.frozen wi
          have z3 := b3.frozen wi
          have l1 := b1.lt
          have l2 := b2.lt
          have l3 := b3.lt
          have hne1 : gO ≠ gB ∧ gO ≠ gF ∧ gB ≠ gF := by have := HGO.out; omega
          obtain ⟨n1, n2, n3⟩ := hne1
          have hg1 : g ≠ gB := Blk.ne_ HP3.out b2 (by decide)
          have hg2 : g ≠ gF := Blk.ne_ HP3.out b3 (by decide)
          have HG1 := Lib.hid hg1
          have HG2 := Lib.hid hg2
          have B1' := Lib.hid b1
          have B2' := Lib.hid b2
          have B3' := Lib.hid b3
          have HB3 := Lib.hid hb3
          clear b1 b2 b3 hvb hvf hg1 hg2 hb3
          obtain ⟨e0, he0⟩ : ∃ b, ((T : Int) == 0) = b := ⟨_, rfl⟩
          obtain ⟨en, hen⟩ : ∃ b, ((T : Int) == (n : Int)) = b := ⟨_, rfl⟩
          have HX : Hid (H = 3 → (vb || e0) = true) := Lib.hid (fun e => by have := HT3.out e; rw [← he0]; simp [this])
          have HY : Hid (H = 5 → (vf || en) = true) := Lib.hid (fun e => by have := HT5.out e; rw [← hen]; simp [this])
          cases vb
          · cases e0
            · skip
              cases vf
              · cases en
                · skip
                  have BO := Lib.hid ((B1'.out.far (p := ⟨gB, wi, none⟩) n1 (.bool false)).far (p := ⟨gF, wi, none⟩) n2 (.bool false))
                  have BB := Lib.hid (((B2'.out.set_ wi (.bool false)).far (p := ⟨gF, wi, none⟩) n3 (.bool false)))
                  have BF := Lib.hid (((B3'.out.far (p := ⟨gB, wi, none⟩) (Ne.symm n3) (.bool false)).set_ wi (.bool false)))
                  have HP5 := Lib.hid ((Blk.far HP3.out (p := ⟨gB, wi, none⟩) HG1.out (.bool false)).far (p := ⟨gF, wi, none⟩) HG2.out (.bool false))
                  go_wp2_with fail
                  have HC5 := HTO.out _ HP5.out
                  with_reducible refine HC5.mono ?_
                  rintro e w5 ⟨rfl, hk5⟩
                  have C1 := Lib.hid (BO.out.kp hk5 id)
                  have C2 := Lib.hid (BB.out.kp hk5 id)
                  have C3 := Lib.hid (BF.out.kp hk5 id)
                  have s1 := C1.out.frozen wi
                  have r1 : w5.cell? ⟨gB, wi, none⟩ = some (.bool false) := C2.out.get wi (arr_set_get _ (by simp [bools]; omega))
                  have r2 : w5.cell? ⟨gF, wi, none⟩ = some (.bool false) := C3.out.get wi (arr_set_get _ (by simp [bools]; omega))
                  have r3 : w5.cell? ⟨gO, wi, none⟩ = some (.pointer (some ⟨g, 0, none⟩)) := C1.out.get wi (by simp [HE.out, ptrV])
                  have HK5 : Hid (Kp (fun i => i = gO ∨ i = gB ∨ i = gF) w2 w5) := Lib.hid ((((Kp.of_below HB3.out (fun i => i = gO ∨ i = gB ∨ i = gF)).setCell (p := ⟨gB, wi, none⟩) (.inl (.inr (.inl rfl))) (.bool false)).setCell (p := ⟨gF, wi, none⟩) (.inl (.inr (.inr rfl))) (.bool false)).trans (hk5.mono (fun _ h => h.elim)))
                  clear hk5 q1 q2 q3 z1 z2 z3
                  by_cases h3 : H = 3
                  · exact absurd (HX.out h3) (by simp)
                  by_cases h5 : H = 5
                  · exact absurd (HY.out h5) (by simp)
                  by_cases h0 : H = 0
                  · skip
                    have f3 : ((H : Int) == 3) = false := by simp; omega
                    have f5 : ((H : Int) == 5) = false := by simp; omega
                    have f0 : ((H : Int) == 0) = true := by simp; omega
                    have f0' : ((H : Int) != 0) = false := by simp; omega
                    have HHH : Hid (H = 0) := Lib.hid (by omega)
                    try clear h3
                    try clear h5
                    try clear h0
                    go_wp2_with fail
                    go_roundw
                    case rel =>
                      refine ⟨k + 1, d2, own, _, hs.set wi (some (g, h2)), bs.set wi false, fs.set wi false, by omega, by go_num, HWk2.out.kp HK5.out (fun i _ hbad => ?_), hsl2, by simp [HH7.out], Lib.hid (fun i g' h' e => ?_), ?_, by simp [hb7], ?_, by simp [hf7], ?_, ?_⟩
                      · rcases hbad with x | x | x
                        · rw [x]; exact .inr ⟨_, _, B1.out, by decide, by decide, by decide⟩
                        · rw [x]; exact .inr ⟨_, _, B2.out, by decide, by decide, by decide⟩
                        · rw [x]; exact .inr ⟨_, _, B3.out, by decide, by decide, by decide⟩
                      · by_cases hj : i = wi
                        · subst hj
                          rw [List.getElem?_set_self (by have := HH7.out; omega)] at e
                          injection e with e
                          injection e with e
                          injection e with e1 e2
                          subst e2
                          have := HDN.out
                          have := HHH.out
                          omega
                        · rw [List.getElem?_set_ne (Ne.symm hj)] at e
                          exact HGo.out i g' h' e
                      · refine Blk.conv C1.out ?_
                        rw [List.map_set, show ptrV (some (g, h2)) = ptrV (some (g, h)) from rfl, ← List.map_set, set_same hs HE.out]
                      · exact Blk.conv C2.out (by simp [bools, List.map_set])
                      · exact Blk.conv C3.out (by simp [bools, List.map_set])
                      · exact HKs.out.trans' HK5.out (fun i hi e => by have := HGO.out; omega)
                    case measure => simp [intOf]; omega
                  · skip
                    have f3 : ((H : Int) == 3) = false := by simp; omega
                    have f5 : ((H : Int) == 5) = false := by simp; omega
                    have f0 : ((H : Int) == 0) = false := by simp; omega
                    have f0' : ((H : Int) != 0) = true := by simp; omega
                    have HHH : Hid (H ≠ 0) := Lib.hid (by omega)
                    try clear h3
                    try clear h5
                    try clear h0
                    go_wp2_with fail
                    go_roundw
                    case rel =>
                      refine ⟨k + 1, d2, own, (if wi = 0 then h2 else o), hs.set wi none, bs.set wi false, fs.set wi false, by omega, by go_num, ?_, hsl2, by simp [HH7.out], Lib.hid (fun i g' h' e => ?_), ?_, by simp [hb7], ?_, by simp [hf7], ?_, ?_⟩
                      · have hdr := HWk2.out.drop (i := wi) (g := g) (h := h2) (List.getElem?_set_self (by have := HH7.out; omega)) (HDN.out.2 HHH.out)
                        rw [List.set_set] at hdr
                        refine hdr.kp (HK5.out.setCell (p := ⟨gO, wi, none⟩) (.inl (.inl rfl)) _) (fun i _ hbad => ?_)
                        rcases hbad with x | x | x
                        · rw [x]; exact .inr ⟨_, _, B1.out, by decide, by decide, by decide⟩
                        · rw [x]; exact .inr ⟨_, _, B2.out, by decide, by decide, by decide⟩
                        · rw [x]; exact .inr ⟨_, _, B3.out, by decide, by decide, by decide⟩
                      · by_cases hj : i = wi
                        · subst hj
                          rw [List.getElem?_set_self (by have := HH7.out; omega)] at e
                          injection e with e
                          cases e
                        · rw [List.getElem?_set_ne (Ne.symm hj)] at e
                          exact HGo.out i g' h' e
                      · exact Blk.conv (C1.out.set_ wi _) (by simp [ptrV, List.map_set])
                      · exact Blk.conv (C2.out.far (p := ⟨gO, wi, none⟩) (Ne.symm n1) _) (by simp [bools, List.map_set])
                      · exact Blk.conv (C3.out.far (p := ⟨gO, wi, none⟩) (Ne.symm n2) _) (by simp [bools, List.map_set])
                      · exact HKs.out.trans' (HK5.out.setCell (p := ⟨gO, wi, none⟩) (.inl (.inl rfl)) _) (fun i hi e => by have := HGO.out; omega)
                    case measure => simp [intOf]; omega
                · skip
                  have BO := Lib.hid ((B1'.out.far (p := ⟨gB, wi, none⟩) n1 (.bool false)).far (p := ⟨gF, wi, none⟩) n2 (.bool true))
                  have BB := Lib.hid (((B2'.out.set_ wi (.bool false)).far (p := ⟨gF, wi, none⟩) n3 (.bool true)))
                  have BF := Lib.hid (((B3'.out.far (p := ⟨gB, wi, none⟩) (Ne.symm n3) (.bool false)).set_ wi (.bool true)))
                  have HP5 := Lib.hid ((Blk.far HP3.out (p := ⟨gB, wi, none⟩) HG1.out (.bool false)).far (p := ⟨gF, wi, none⟩) HG2.out (.bool true))
                  go_wp2_with fail
                  have HC5 := HTO.out _ HP5.out
                  with_reducible refine HC5.mono ?_
                  rintro e w5 ⟨rfl, hk5⟩
                  have C1 := Lib.hid (BO.out.kp hk5 id)
                  have C2 := Lib.hid (BB.out.kp hk5 id)
                  have C3 := Lib.hid (BF.out.kp hk5 id)
                  have s1 := C1.out.frozen wi
                  have r1 : w5.cell? ⟨gB, wi, none⟩ = some (.bool false) := C2.out.get wi (arr_set_get _ (by simp [bools]; omega))
                  have r2 : w5.cell? ⟨gF, wi, none⟩ = some (.bool true) := C3.out.get wi (arr_set_get _ (by simp [bools]; omega))
                  have r3 : w5.cell? ⟨gO, wi, none⟩ = some (.pointer (some ⟨g, 0, none⟩)) := C1.out.get wi (by simp [HE.out, ptrV])
                  have HK5 : Hid (Kp (fun i => i = gO ∨ i = gB ∨ i = gF) w2 w5) := Lib.hid ((((Kp.of_below HB3.out (fun i => i = gO ∨ i = gB ∨ i = gF)).setCell (p := ⟨gB, wi, none⟩) (.inl (.inr (.inl rfl))) (.bool false)).setCell (p := ⟨gF, wi, none⟩) (.inl (.inr (.inr rfl))) (.bool true)).trans (hk5.mono (fun _ h => h.elim)))
                  clear hk5 q1 q2 q3 z1 z2 z3
                  by_cases h3 : H = 3
                  · exact absurd (HX.out h3) (by simp)
                  by_cases h5 : H = 5
                  · skip
                    have f3 : ((H : Int) == 3) = false := by simp; omega
                    have f5 : ((H : Int) == 5) = true := by simp; omega
                    have f0 : ((H : Int) == 0) = false := by simp; omega
                    have f0' : ((H : Int) != 0) = true := by simp; omega
                    have HHH : Hid (H ≠ 0) := Lib.hid (by omega)
                    try clear h3
                    try clear h5
                    try clear h0
                    go_wp2_with fail
                    go_roundw
                    case rel =>
                      refine ⟨k + 1, d2, own, (if wi = 0 then h2 else o), hs.set wi none, bs.set wi false, fs.set wi true, by omega, by go_num, ?_, hsl2, by simp [HH7.out], Lib.hid (fun i g' h' e => ?_), ?_, by simp [hb7], ?_, by simp [hf7], ?_, ?_⟩
                      · have hdr := HWk2.out.drop (i := wi) (g := g) (h := h2) (List.getElem?_set_self (by have := HH7.out; omega)) (HDN.out.2 HHH.out)
                        rw [List.set_set] at hdr
                        refine hdr.kp (HK5.out.setCell (p := ⟨gO, wi, none⟩) (.inl (.inl rfl)) _) (fun i _ hbad => ?_)
                        rcases hbad with x | x | x
                        · rw [x]; exact .inr ⟨_, _, B1.out, by decide, by decide, by decide⟩
                        · rw [x]; exact .inr ⟨_, _, B2.out, by decide, by decide, by decide⟩
                        · rw [x]; exact .inr ⟨_, _, B3.out, by decide, by decide, by decide⟩
                      · by_cases hj : i = wi
                        · subst hj
                          rw [List.getElem?_set_self (by have := HH7.out; omega)] at e
                          injection e with e
                          cases e
                        · rw [List.getElem?_set_ne (Ne.symm hj)] at e
                          exact HGo.out i g' h' e
                      · exact Blk.conv (C1.out.set_ wi _) (by simp [ptrV, List.map_set])
                      · exact Blk.conv (C2.out.far (p := ⟨gO, wi, none⟩) (Ne.symm n1) _) (by simp [bools, List.map_set])
                      · exact Blk.conv (C3.out.far (p := ⟨gO, wi, none⟩) (Ne.symm n2) _) (by simp [bools, List.map_set])
                      · exact HKs.out.trans' (HK5.out.setCell (p := ⟨gO, wi, none⟩) (.inl (.inl rfl)) _) (fun i hi e => by have := HGO.out; omega)
                    case measure => simp [intOf]; omega
                  by_cases h0 : H = 0
                  · skip
                    have f3 : ((H : Int) == 3) = false := by simp; omega
                    have f5 : ((H : Int) == 5) = false := by simp; omega
                    have f0 : ((H : Int) == 0) = true := by simp; omega
                    have f0' : ((H : Int) != 0) = false := by simp; omega
                    have HHH : Hid (H = 0) := Lib.hid (by omega)
                    try clear h3
                    try clear h5
                    try clear h0
                    go_wp2_with fail
                    go_roundw
                    case rel =>
                      refine ⟨k + 1, d2, own, _, hs.set wi (some (g, h2)), bs.set wi false, fs.set wi true, by omega, by go_num, HWk2.out.kp HK5.out (fun i _ hbad => ?_), hsl2, by simp [HH7.out], Lib.hid (fun i g' h' e => ?_), ?_, by simp [hb7], ?_, by simp [hf7], ?_, ?_⟩
                      · rcases hbad with x | x | x
                        · rw [x]; exact .inr ⟨_, _, B1.out, by decide, by decide, by decide⟩
                        · rw [x]; exact .inr ⟨_, _, B2.out, by decide, by decide, by decide⟩
                        · rw [x]; exact .inr ⟨_, _, B3.out, by decide, by decide, by decide⟩
                      · by_cases hj : i = wi
                        · subst hj
                          rw [List.getElem?_set_self (by have := HH7.out; omega)] at e
                          injection e with e
                          injection e with e
                          injection e with e1 e2
                          subst e2
                          have := HDN.out
                          have := HHH.out
                          omega
                        · rw [List.getElem?_set_ne (Ne.symm hj)] at e
                          exact HGo.out i g' h' e
                      · refine Blk.conv C1.out ?_
                        rw [List.map_set, show ptrV (some (g, h2)) = ptrV (some (g, h)) from rfl, ← List.map_set, set_same hs HE.out]
                      · exact Blk.conv C2.out (by simp [bools, List.map_set])
                      · exact Blk.conv C3.out (by simp [bools, List.map_set])
                      · exact HKs.out.trans' HK5.out (fun i hi e => by have := HGO.out; omega)
                    case measure => simp [intOf]; omega
                  · skip
                    have f3 : ((H : Int) == 3) = false := by simp; omega
                    have f5 : ((H : Int) == 5) = false := by simp; omega
                    have f0 : ((H : Int) == 0) = false := by simp; omega
                    have f0' : ((H : Int) != 0) = true := by simp; omega
                    have HHH : Hid (H ≠ 0) := Lib.hid (by omega)
                    try clear h3
                    try clear h5
                    try clear h0
                    go_wp2_with fail
                    go_roundw
                    case rel =>
                      refine ⟨k + 1, d2, own, (if wi = 0 then h2 else o), hs.set wi none, bs.set wi false, fs.set wi true, by omega, by go_num, ?_, hsl2, by simp [HH7.out], Lib.hid (fun i g' h' e => ?_), ?_, by simp [hb7], ?_, by simp [hf7], ?_, ?_⟩
                      · have hdr := HWk2.out.drop (i := wi) (g := g) (h := h2) (List.getElem?_set_self (by have := HH7.out; omega)) (HDN.out.2 HHH.out)
                        rw [List.set_set] at hdr
                        refine hdr.kp (HK5.out.setCell (p := ⟨gO, wi, none⟩) (.inl (.inl rfl)) _) (fun i _ hbad => ?_)
                        rcases hbad with x | x | x
                        · rw [x]; exact .inr ⟨_, _, B1.out, by decide, by decide, by decide⟩
                        · rw [x]; exact .inr ⟨_, _, B2.out, by decide, by decide, by decide⟩
                        · rw [x]; exact .inr ⟨_, _, B3.out, by decide, by decide, by decide⟩
                      · by_cases hj : i = wi
                        · subst hj
                          rw [List.getElem?_set_self (by have := HH7.out; omega)] at e
                          injection e with e
                          cases e
                        · rw [List.getElem?_set_ne (Ne.symm hj)] at e
                          exact HGo.out i g' h' e
                      · exact Blk.conv (C1.out.set_ wi _) (by simp [ptrV, List.map_set])
                      · exact Blk.conv (C2.out.far (p := ⟨gO, wi, none⟩) (Ne.symm n1) _) (by simp [bools, List.map_set])
                      · exact Blk.conv (C3.out.far (p := ⟨gO, wi, none⟩) (Ne.symm n2) _) (by simp [bools, List.map_set])
                      · exact HKs.out.trans' (HK5.out.setCell (p := ⟨gO, wi, none⟩) (.inl (.inl rfl)) _) (fun i hi e => by have := HGO.out; omega)
                    case measure => simp [intOf]; omega
              · skip
                have BO := Lib.hid ((B1'.out.far (p := ⟨gB, wi, none⟩) n1 (.bool false)).far (p := ⟨gF, wi, none⟩) n2 (.bool true))
                have BB := Lib.hid (((B2'.out.set_ wi (.bool false)).far (p := ⟨gF, wi, none⟩) n3 (.bool true)))
                have BF := Lib.hid (((B3'.out.far (p := ⟨gB, wi, none⟩) (Ne.symm n3) (.bool false)).set_ wi (.bool true)))
                have HP5 := Lib.hid ((Blk.far HP3.out (p := ⟨gB, wi, none⟩) HG1.out (.bool false)).far (p := ⟨gF, wi, none⟩) HG2.out (.bool true))
                go_wp2_with fail
                have HC5 := HTO.out _ HP5.out
                with_reducible refine HC5.mono ?_
                rintro e w5 ⟨rfl, hk5⟩
                have C1 := Lib.hid (BO.out.kp hk5 id)
                have C2 := Lib.hid (BB.out.kp hk5 id)
                have C3 := Lib.hid (BF.out.kp hk5 id)
                have s1 := C1.out.frozen wi
                have r1 : w5.cell? ⟨gB, wi, none⟩ = some (.bool false) := C2.out.get wi (arr_set_get _ (by simp [bools]; omega))
                have r2 : w5.cell? ⟨gF, wi, none⟩ = some (.bool true) := C3.out.get wi (arr_set_get _ (by simp [bools]; omega))
                have r3 : w5.cell? ⟨gO, wi, none⟩ = some (.pointer (some ⟨g, 0, none⟩)) := C1.out.get wi (by simp [HE.out, ptrV])
                have HK5 : Hid (Kp (fun i => i = gO ∨ i = gB ∨ i = gF) w2 w5) := Lib.hid ((((Kp.of_below HB3.out (fun i => i = gO ∨ i = gB ∨ i = gF)).setCell (p := ⟨gB, wi, none⟩) (.inl (.inr (.inl rfl))) (.bool false)).setCell (p := ⟨gF, wi, none⟩) (.inl (.inr (.inr rfl))) (.bool true)).trans (hk5.mono (fun _ h => h.elim)))
                clear hk5 q1 q2 q3 z1 z2 z3
                by_cases h3 : H = 3
                · exact absurd (HX.out h3) (by simp)
                by_cases h5 : H = 5
                · skip
                  have f3 : ((H : Int) == 3) = false := by simp; omega
                  have f5 : ((H : Int) == 5) = true := by simp; omega
                  have f0 : ((H : Int) == 0) = false := by simp; omega
                  have f0' : ((H : Int) != 0) = true := by simp; omega
                  have HHH : Hid (H ≠ 0) := Lib.hid (by omega)
                  try clear h3
                  try clear h5
                  try clear h0
                  go_wp2_with fail
                  go_roundw
                  case rel =>
                    refine ⟨k + 1, d2, own, (if wi = 0 then h2 else o), hs.set wi none, bs.set wi false, fs.set wi true, by omega, by go_num, ?_, hsl2, by simp [HH7.out], Lib.hid (fun i g' h' e => ?_), ?_, by simp [hb7], ?_, by simp [hf7], ?_, ?_⟩
                    · have hdr := HWk2.out.drop (i := wi) (g := g) (h := h2) (List.getElem?_set_self (by have := HH7.out; omega)) (HDN.out.2 HHH.out)
                      rw [List.set_set] at hdr
                      refine hdr.kp (HK5.out.setCell (p := ⟨gO, wi, none⟩) (.inl (.inl rfl)) _) (fun i _ hbad => ?_)
                      rcases hbad with x | x | x
                      · rw [x]; exact .inr ⟨_, _, B1.out, by decide, by decide, by decide⟩
                      · rw [x]; exact .inr ⟨_, _, B2.out, by decide, by decide, by decide⟩
                      · rw [x]; exact .inr ⟨_, _, B3.out, by decide, by decide, by decide⟩
                    · by_cases hj : i = wi
                      · subst hj
                        rw [List.getElem?_set_self (by have := HH7.out; omega)] at e
                        injection e with e
                        cases e
                      · rw [List.getElem?_set_ne (Ne.symm hj)] at e
                        exact HGo.out i g' h' e
                    · exact Blk.conv (C1.out.set_ wi _) (by simp [ptrV, List.map_set])
                    · exact Blk.conv (C2.out.far (p := ⟨gO, wi, none⟩) (Ne.symm n1) _) (by simp [bools, List.map_set])
                    · exact Blk.conv (C3.out.far (p := ⟨gO, wi, none⟩) (Ne.symm n2) _) (by simp [bools, List.map_set])
                    · exact HKs.out.trans' (HK5.out.setCell (p := ⟨gO, wi, none⟩) (.inl (.inl rfl)) _) (fun i hi e => by have := HGO.out; omega)
                  case measure => simp [intOf]; omega
                by_cases h0 : H = 0
                · skip
                  have f3 : ((H : Int) == 3) = false := by simp; omega
                  have f5 : ((H : Int) == 5) = false := by simp; omega
                  have f0 : ((H : Int) == 0) = true := by simp; omega
                  have f0' : ((H : Int) != 0) = false := by simp; omega
                  have HHH : Hid (H = 0) := Lib.hid (by omega)
                  try clear h3
                  try clear h5
                  try clear h0
                  go_wp2_with fail
                  go_roundw
                  case rel =>
                    refine ⟨k + 1, d2, own, _, hs.set wi (some (g, h2)), bs.set wi false, fs.set wi true, by omega, by go_num, HWk2.out.kp HK5.out (fun i _ hbad => ?_), hsl2, by simp [HH7.out], Lib.hid (fun i g' h' e => ?_), ?_, by simp [hb7], ?_, by simp [hf7], ?_, ?_⟩
                    · rcases hbad with x | x | x
                      · rw [x]; exact .inr ⟨_, _, B1.out, by decide, by decide, by decide⟩
                      · rw [x]; exact .inr ⟨_, _, B2.out, by decide, by decide, by decide⟩
                      · rw [x]; exact .inr ⟨_, _, B3.out, by decide, by decide, by decide⟩
                    · by_cases hj : i = wi
                      · subst hj
                        rw [List.getElem?_set_self (by have := HH7.out; omega)] at e
                        injection e with e
                        injection e with e
                        injection e with e1 e2
                        subst e2
                        have := HDN.out
                        have := HHH.out
                        omega
                      · rw [List.getElem?_set_ne (Ne.symm hj)] at e
                        exact HGo.out i g' h' e
                    · refine Blk.conv C1.out ?_
                      rw [List.map_set, show ptrV (some (g, h2)) = ptrV (some (g, h)) from rfl, ← List.map_set, set_same hs HE.out]
                    · exact Blk.conv C2.out (by simp [bools, List.map_set])
                    · exact Blk.conv C3.out (by simp [bools, List.map_set])
                    · exact HKs.out.trans' HK5.out (fun i hi e => by have := HGO.out; omega)
                  case measure => simp [intOf]; omega
                · skip
                  have f3 : ((H : Int) == 3) = false := by simp; omega
                  have f5 : ((H : Int) == 5) = false := by simp; omega
                  have f0 : ((H : Int) == 0) = false := by simp; omega
                  have f0' : ((H : Int) != 0) = true := by simp; omega
                  have HHH : Hid (H ≠ 0) := Lib.hid (by omega)
                  try clear h3
                  try clear h5
                  try clear h0
                  go_wp2_with fail
                  go_roundw
                  case rel =>
                    refine ⟨k + 1, d2, own, (if wi = 0 then h2 else o), hs.set wi none, bs.set wi false, fs.set wi true, by omega, by go_num, ?_, hsl2, by simp [HH7.out], Lib.hid (fun i g' h' e => ?_), ?_, by simp [hb7], ?_, by simp [hf7], ?_, ?_⟩
                    · have hdr := HWk2.out.drop (i := wi) (g := g) (h := h2) (List.getElem?_set_self (by have := HH7.out; omega)) (HDN.out.2 HHH.out)
                      rw [List.set_set] at hdr
                      refine hdr.kp (HK5.out.setCell (p := ⟨gO, wi, none⟩) (.inl (.inl rfl)) _) (fun i _ hbad => ?_)
                      rcases hbad with x | x | x
                      · rw [x]; exact .inr ⟨_, _, B1.out, by decide, by decide, by decide⟩
                      · rw [x]; exact .inr ⟨_, _, B2.out, by decide, by decide, by decide⟩
                      · rw [x]; exact .inr ⟨_, _, B3.out, by decide, by decide, by decide⟩
                    · by_cases hj : i = wi
                      · subst hj
                        rw [List.getElem?_set_self (by have := HH7.out; omega)] at e
                        injection e with e
                        cases e
                      · rw [List.getElem?_set_ne (Ne.symm hj)] at e
                        exact HGo.out i g' h' e
                    · exact Blk.conv (C1.out.set_ wi _) (by simp [ptrV, List.map_set])
                    · exact Blk.conv (C2.out.far (p := ⟨gO, wi, none⟩) (Ne.symm n1) _) (by simp [bools, List.map_set])
                    · exact Blk.conv (C3.out.far (p := ⟨gO, wi, none⟩) (Ne.symm n2) _) (by simp [bools, List.map_set])
                    · exact HKs.out.trans' (HK5.out.setCell (p := ⟨gO, wi, none⟩) (.inl (.inl rfl)) _) (fun i hi e => by have := HGO.out; omega)
                  case measure => simp [intOf]; omega
            · skip
              cases vf
              · cases en
                · skip
                  have BO := Lib.hid ((B1'.out.far (p := ⟨gB, wi, none⟩) n1 (.bool true)).far (p := ⟨gF, wi, none⟩) n2 (.bool false))
                  have BB := Lib.hid (((B2'.out.set_ wi (.bool true)).far (p := ⟨gF, wi, none⟩) n3 (.bool false)))
                  have BF := Lib.hid (((B3'.out.far (p := ⟨gB, wi, none⟩) (Ne.symm n3) (.bool true)).set_ wi (.bool false)))
                  have HP5 := Lib.hid ((Blk.far HP3.out (p := ⟨gB, wi, none⟩) HG1.out (.bool true)).far (p := ⟨gF, wi, none⟩) HG2.out (.bool false))
                  go_wp2_with fail
                  have HC5 := HTO.out _ HP5.out
                  with_reducible refine HC5.mono ?_
                  rintro e w5 ⟨rfl, hk5⟩
                  have C1 := Lib.hid (BO.out.kp hk5 id)
                  have C2 := Lib.hid (BB.out.kp hk5 id)
                  have C3 := Lib.hid (BF.out.kp hk5 id)
                  have s1 := C1.out.frozen wi
                  have r1 : w5.cell? ⟨gB, wi, none⟩ = some (.bool true) := C2.out.get wi (arr_set_get _ (by simp [bools]; omega))
                  have r2 : w5.cell? ⟨gF, wi, none⟩ = some (.bool false) := C3.out.get wi (arr_set_get _ (by simp [bools]; omega))
                  have r3 : w5.cell? ⟨gO, wi, none⟩ = some (.pointer (some ⟨g, 0, none⟩)) := C1.out.get wi (by simp [HE.out, ptrV])
                  have HK5 : Hid (Kp (fun i => i = gO ∨ i = gB ∨ i = gF) w2 w5) := Lib.hid ((((Kp.of_below HB3.out (fun i => i = gO ∨ i = gB ∨ i = gF)).setCell (p := ⟨gB, wi, none⟩) (.inl (.inr (.inl rfl))) (.bool true)).setCell (p := ⟨gF, wi, none⟩) (.inl (.inr (.inr rfl))) (.bool false)).trans (hk5.mono (fun _ h => h.elim)))
                  clear hk5 q1 q2 q3 z1 z2 z3
                  by_cases h3 : H = 3
                  · skip
                    have f3 : ((H : Int) == 3) = true := by simp; omega
                    have f5 : ((H : Int) == 5) = false := by simp; omega
                    have f0 : ((H : Int) == 0) = false := by simp; omega
                    have f0' : ((H : Int) != 0) = true := by simp; omega
                    have HHH : Hid (H ≠ 0) := Lib.hid (by omega)
                    try clear h3
                    try clear h5
                    try clear h0
                    go_wp2_with fail
                    go_roundw
                    case rel =>
                      refine ⟨k + 1, d2, own, (if wi = 0 then h2 else o), hs.set wi none, bs.set wi true, fs.set wi false, by omega, by go_num, ?_, hsl2, by simp [HH7.out], Lib.hid (fun i g' h' e => ?_), ?_, by simp [hb7], ?_, by simp [hf7], ?_, ?_⟩
                      · have hdr := HWk2.out.drop (i := wi) (g := g) (h := h2) (List.getElem?_set_self (by have := HH7.out; omega)) (HDN.out.2 HHH.out)
                        rw [List.set_set] at hdr
                        refine hdr.kp (HK5.out.setCell (p := ⟨gO, wi, none⟩) (.inl (.inl rfl)) _) (fun i _ hbad => ?_)
                        rcases hbad with x | x | x
                        · rw [x]; exact .inr ⟨_, _, B1.out, by decide, by decide, by decide⟩
                        · rw [x]; exact .inr ⟨_, _, B2.out, by decide, by decide, by decide⟩
                        · rw [x]; exact .inr ⟨_, _, B3.out, by decide, by decide, by decide⟩
                      · by_cases hj : i = wi
                        · subst hj
                          rw [List.getElem?_set_self (by have := HH7.out; omega)] at e
                          injection e with e
                          cases e
                        · rw [List.getElem?_set_ne (Ne.symm hj)] at e
                          exact HGo.out i g' h' e
                      · exact Blk.conv (C1.out.set_ wi _) (by simp [ptrV, List.map_set])
                      · exact Blk.conv (C2.out.far (p := ⟨gO, wi, none⟩) (Ne.symm n1) _) (by simp [bools, List.map_set])
                      · exact Blk.conv (C3.out.far (p := ⟨gO, wi, none⟩) (Ne.symm n2) _) (by simp [bools, List.map_set])
                      · exact HKs.out.trans' (HK5.out.setCell (p := ⟨gO, wi, none⟩) (.inl (.inl rfl)) _) (fun i hi e => by have := HGO.out; omega)
                    case measure => simp [intOf]; omega
                  by_cases h5 : H = 5
                  · exact absurd (HY.out h5) (by simp)
                  by_cases h0 : H = 0
                  · skip
                    have f3 : ((H : Int) == 3) = false := by simp; omega
                    have f5 : ((H : Int) == 5) = false := by simp; omega
                    have f0 : ((H : Int) == 0) = true := by simp; omega
                    have f0' : ((H : Int) != 0) = false := by simp; omega
                    have HHH : Hid (H = 0) := Lib.hid (by omega)
                    try clear h3
                    try clear h5
                    try clear h0
                    go_wp2_with fail
                    go_roundw
                    case rel =>
                      refine ⟨k + 1, d2, own, _, hs.set wi (some (g, h2)), bs.set wi true, fs.set wi false, by omega, by go_num, HWk2.out.kp HK5.out (fun i _ hbad => ?_), hsl2, by simp [HH7.out], Lib.hid (fun i g' h' e => ?_), ?_, by simp [hb7], ?_, by simp [hf7], ?_, ?_⟩
                      · rcases hbad with x | x | x
                        · rw [x]; exact .inr ⟨_, _, B1.out, by decide, by decide, by decide⟩
                        · rw [x]; exact .inr ⟨_, _, B2.out, by decide, by decide, by decide⟩
                        · rw [x]; exact .inr ⟨_, _, B3.out, by decide, by decide, by decide⟩
                      · by_cases hj : i = wi
                        · subst hj
                          rw [List.getElem?_set_self (by have := HH7.out; omega)] at e
                          injection e with e
                          injection e with e
                          injection e with e1 e2
                          subst e2
                          have := HDN.out
                          have := HHH.out
                          omega
                        · rw [List.getElem?_set_ne (Ne.symm hj)] at e
                          exact HGo.out i g' h' e
                      · refine Blk.conv C1.out ?_
                        rw [List.map_set, show ptrV (some (g, h2)) = ptrV (some (g, h)) from rfl, ← List.map_set, set_same hs HE.out]
                      · exact Blk.conv C2.out (by simp [bools, List.map_set])
                      · exact Blk.conv C3.out (by simp [bools, List.map_set])
                      · exact HKs.out.trans' HK5.out (fun i hi e => by have := HGO.out; omega)
                    case measure => simp [intOf]; omega
                  · skip
                    have f3 : ((H : Int) == 3) = false := by simp; omega
                    have f5 : ((H : Int) == 5) = false := by simp; omega
                    have f0 : ((H : Int) == 0) = false := by simp; omega
                    have f0' : ((H : Int) != 0) = true := by simp; omega
                    have HHH : Hid (H ≠ 0) := Lib.hid (by omega)
                    try clear h3
                    try clear h5
                    try clear h0
                    go_wp2_with fail
                    go_roundw
                    case rel =>
                      refine ⟨k + 1, d2, own, (if wi = 0 then h2 else o), hs.set wi none, bs.set wi true, fs.set wi false, by omega, by go_num, ?_, hsl2, by simp [HH7.out], Lib.hid (fun i g' h' e => ?_), ?_, by simp [hb7], ?_, by simp [hf7], ?_, ?_⟩
                      · have hdr := HWk2.out.drop (i := wi) (g := g) (h := h2) (List.getElem?_set_self (by have := HH7.out; omega)) (HDN.out.2 HHH.out)
                        rw [List.set_set] at hdr
                        refine hdr.kp (HK5.out.setCell (p := ⟨gO, wi, none⟩) (.inl (.inl rfl)) _) (fun i _ hbad => ?_)
                        rcases hbad with x | x | x
                        · rw [x]; exact .inr ⟨_, _, B1.out, by decide, by decide, by decide⟩
                        · rw [x]; exact .inr ⟨_, _, B2.out, by decide, by decide, by decide⟩
                        · rw [x]; exact .inr ⟨_, _, B3.out, by decide, by decide, by decide⟩
                      · by_cases hj : i = wi
                        · subst hj
                          rw [List.getElem?_set_self (by have := HH7.out; omega)] at e
                          injection e with e
                          cases e
                        · rw [List.getElem?_set_ne (Ne.symm hj)] at e
                          exact HGo.out i g' h' e
                      · exact Blk.conv (C1.out.set_ wi _) (by simp [ptrV, List.map_set])
                      · exact Blk.conv (C2.out.far (p := ⟨gO, wi, none⟩) (Ne.symm n1) _) (by simp [bools, List.map_set])
                      · exact Blk.conv (C3.out.far (p := ⟨gO, wi, none⟩) (Ne.symm n2) _) (by simp [bools, List.map_set])
                      · exact HKs.out.trans' (HK5.out.setCell (p := ⟨gO, wi, none⟩) (.inl (.inl rfl)) _) (fun i hi e => by have := HGO.out; omega)
                    case measure => simp [intOf]; omega
                · skip
                  have BO := Lib.hid ((B1'.out.far (p := ⟨gB, wi, none⟩) n1 (.bool true)).far (p := ⟨gF, wi, none⟩) n2 (.bool true))
                  have BB := Lib.hid (((B2'.out.set_ wi (.bool true)).far (p := ⟨gF, wi, none⟩) n3 (.bool true)))
                  have BF := Lib.hid (((B3'.out.far (p := ⟨gB, wi, none⟩) (Ne.symm n3) (.bool true)).set_ wi (.bool true)))
                  have HP5 := Lib.hid ((Blk.far HP3.out (p := ⟨gB, wi, none⟩) HG1.out (.bool true)).far (p := ⟨gF, wi, none⟩) HG2.out (.bool true))
                  go_wp2_with fail
                  have HC5 := HTO.out _ HP5.out
                  with_reducible refine HC5.mono ?_
                  rintro e w5 ⟨rfl, hk5⟩
                  have C1 := Lib.hid (BO.out.kp hk5 id)
                  have C2 := Lib.hid (BB.out.kp hk5 id)
                  have C3 := Lib.hid (BF.out.kp hk5 id)
                  have s1 := C1.out.frozen wi
                  have r1 : w5.cell? ⟨gB, wi, none⟩ = some (.bool true) := C2.out.get wi (arr_set_get _ (by simp [bools]; omega))
                  have r2 : w5.cell? ⟨gF, wi, none⟩ = some (.bool true) := C3.out.get wi (arr_set_get _ (by simp [bools]; omega))
                  have r3 : w5.cell? ⟨gO, wi, none⟩ = some (.pointer (some ⟨g, 0, none⟩)) := C1.out.get wi (by simp [HE.out, ptrV])
                  have HK5 : Hid (Kp (fun i => i = gO ∨ i = gB ∨ i = gF) w2 w5) := Lib.hid ((((Kp.of_below HB3.out (fun i => i = gO ∨ i = gB ∨ i = gF)).setCell (p := ⟨gB, wi, none⟩) (.inl (.inr (.inl rfl))) (.bool true)).setCell (p := ⟨gF, wi, none⟩) (.inl (.inr (.inr rfl))) (.bool true)).trans (hk5.mono (fun _ h => h.elim)))
                  clear hk5 q1 q2 q3 z1 z2 z3
                  by_cases h3 : H = 3
                  · skip
                    have f3 : ((H : Int) == 3) = true := by simp; omega
                    have f5 : ((H : Int) == 5) = false := by simp; omega
                    have f0 : ((H : Int) == 0) = false := by simp; omega
                    have f0' : ((H : Int) != 0) = true := by simp; omega
                    have HHH : Hid (H ≠ 0) := Lib.hid (by omega)
                    try clear h3
                    try clear h5
                    try clear h0
                    go_wp2_with fail
                    go_roundw
                    case rel =>
                      refine ⟨k + 1, d2, own, (if wi = 0 then h2 else o), hs.set wi none, bs.set wi true, fs.set wi true, by omega, by go_num, ?_, hsl2, by simp [HH7.out], Lib.hid (fun i g' h' e => ?_), ?_, by simp [hb7], ?_, by simp [hf7], ?_, ?_⟩
                      · have hdr := HWk2.out.drop (i := wi) (g := g) (h := h2) (List.getElem?_set_self (by have := HH7.out; omega)) (HDN.out.2 HHH.out)
                        rw [List.set_set] at hdr
                        refine hdr.kp (HK5.out.setCell (p := ⟨gO, wi, none⟩) (.inl (.inl rfl)) _) (fun i _ hbad => ?_)
                        rcases hbad with x | x | x
                        · rw [x]; exact .inr ⟨_, _, B1.out, by decide, by decide, by decide⟩
                        · rw [x]; exact .inr ⟨_, _, B2.out, by decide, by decide, by decide⟩
                        · rw [x]; exact .inr ⟨_, _, B3.out, by decide, by decide, by decide⟩
                      · by_cases hj : i = wi
                        · subst hj
                          rw [List.getElem?_set_self (by have := HH7.out; omega)] at e
                          injection e with e
                          cases e
                        · rw [List.getElem?_set_ne (Ne.symm hj)] at e
                          exact HGo.out i g' h' e
                      · exact Blk.conv (C1.out.set_ wi _) (by simp [ptrV, List.map_set])
                      · exact Blk.conv (C2.out.far (p := ⟨gO, wi, none⟩) (Ne.symm n1) _) (by simp [bools, List.map_set])
                      · exact Blk.conv (C3.out.far (p := ⟨gO, wi, none⟩) (Ne.symm n2) _) (by simp [bools, List.map_set])
                      · exact HKs.out.trans' (HK5.out.setCell (p := ⟨gO, wi, none⟩) (.inl (.inl rfl)) _) (fun i hi e => by have := HGO.out; omega)
                    case measure => simp [intOf]; omega
                  by_cases h5 : H = 5
                  · skip
                    have f3 : ((H : Int) == 3) = false := by simp; omega
                    have f5 : ((H : Int) == 5) = true := by simp; omega
                    have f0 : ((H : Int) == 0) = false := by simp; omega
                    have f0' : ((H : Int) != 0) = true := by simp; omega
                    have HHH : Hid (H ≠ 0) := Lib.hid (by omega)
                    try clear h3
                    try clear h5
                    try clear h0
                    go_wp2_with fail
                    go_roundw
                    case rel =>
                      refine ⟨k + 1, d2, own, (if wi = 0 then h2 else o), hs.set wi none, bs.set wi true, fs.set wi true, by omega, by go_num, ?_, hsl2, by simp [HH7.out], Lib.hid (fun i g' h' e => ?_), ?_, by simp [hb7], ?_, by simp [hf7], ?_, ?_⟩
                      · have hdr := HWk2.out.drop (i := wi) (g := g) (h := h2) (List.getElem?_set_self (by have := HH7.out; omega)) (HDN.out.2 HHH.out)
                        rw [List.set_set] at hdr
                        refine hdr.kp (HK5.out.setCell (p := ⟨gO, wi, none⟩) (.inl (.inl rfl)) _) (fun i _ hbad => ?_)
                        rcases hbad with x | x | x
                        · rw [x]; exact .inr ⟨_, _, B1.out, by decide, by decide, by decide⟩
                        · rw [x]; exact .inr ⟨_, _, B2.out, by decide, by decide, by decide⟩
                        · rw [x]; exact .inr ⟨_, _, B3.out, by decide, by decide, by decide⟩
                      · by_cases hj : i = wi
                        · subst hj
                          rw [List.getElem?_set_self (by have := HH7.out; omega)] at e
                          injection e with e
                          cases e
                        · rw [List.getElem?_set_ne (Ne.symm hj)] at e
                          exact HGo.out i g' h' e
                      · exact Blk.conv (C1.out.set_ wi _) (by simp [ptrV, List.map_set])
                      · exact Blk.conv (C2.out.far (p := ⟨gO, wi, none⟩) (Ne.symm n1) _) (by simp [bools, List.map_set])
                      · exact Blk.conv (C3.out.far (p := ⟨gO, wi, none⟩) (Ne.symm n2) _) (by simp [bools, List.map_set])
                      · exact HKs.out.trans' (HK5.out.setCell (p := ⟨gO, wi, none⟩) (.inl (.inl rfl)) _) (fun i hi e => by have := HGO.out; omega)
                    case measure => simp [intOf]; omega
                  by_cases h0 : H = 0
                  · skip
                    have f3 : ((H : Int) == 3) = false := by simp; omega
                    have f5 : ((H : Int) == 5) = false := by simp; omega
                    have f0 : ((H : Int) == 0) = true := by simp; omega
                    have f0' : ((H : Int) != 0) = false := by simp; omega
                    have HHH : Hid (H = 0) := Lib.hid (by omega)
                    try clear h3
                    try clear h5
                    try clear h0
                    go_wp2_with fail
                    go_roundw
                    case rel =>
                      refine ⟨k + 1, d2, own, _, hs.set wi (some (g, h2)), bs.set wi true, fs.set wi true, by omega, by go_num, HWk2.out.kp HK5.out (fun i _ hbad => ?_), hsl2, by simp [HH7.out], Lib.hid (fun i g' h' e => ?_), ?_, by simp [hb7], ?_, by simp [hf7], ?_, ?_⟩
                      · rcases hbad with x | x | x
                        · rw [x]; exact .inr ⟨_, _, B1.out, by decide, by decide, by decide⟩
                        · rw [x]; exact .inr ⟨_, _, B2.out, by decide, by decide, by decide⟩
                        · rw [x]; exact .inr ⟨_, _, B3.out, by decide, by decide, by decide⟩
                      · by_cases hj : i = wi
                        · subst hj
                          rw [List.getElem?_set_self (by have := HH7.out; omega)] at e
                          injection e with e
                          injection e with e
                          injection e with e1 e2
                          subst e2
                          have := HDN.out
                          have := HHH.out
                          omega
                        · rw [List.getElem?_set_ne (Ne.symm hj)] at e
                          exact HGo.out i g' h' e
                      · refine Blk.conv C1.out ?_
                        rw [List.map_set, show ptrV (some (g, h2)) = ptrV (some (g, h)) from rfl, ← List.map_set, set_same hs HE.out]
                      · exact Blk.conv C2.out (by simp [bools, List.map_set])
                      · exact Blk.conv C3.out (by simp [bools, List.map_set])
                      · exact HKs.out.trans' HK5.out (fun i hi e => by have := HGO.out; omega)
                    case measure => simp [intOf]; omega
                  · skip
                    have f3 : ((H : Int) == 3) = false := by simp; omega
                    have f5 : ((H : Int) == 5) = false := by simp; omega
                    have f0 : ((H : Int) == 0) = false := by simp; omega
                    have f0' : ((H : Int) != 0) = true := by simp; omega
                    have HHH : Hid (H ≠ 0) := Lib.hid (by omega)
                    try clear h3
                    try clear h5
                    try clear h0
                    go_wp2_with fail
                    go_roundw
                    case rel =>
                      refine ⟨k + 1, d2, own, (if wi = 0 then h2 else o), hs.set wi none, bs.set wi true, fs.set wi true, by omega, by go_num, ?_, hsl2, by simp [HH7.out], Lib.hid (fun i g' h' e => ?_), ?_, by simp [hb7], ?_, by simp [hf7], ?_, ?_⟩
                      · have hdr := HWk2.out.drop (i := wi) (g := g) (h := h2) (List.getElem?_set_self (by have := HH7.out; omega)) (HDN.out.2 HHH.out)
                        rw [List.set_set] at hdr
                        refine hdr.kp (HK5.out.setCell (p := ⟨gO, wi, none⟩) (.inl (.inl rfl)) _) (fun i _ hbad => ?_)
                        rcases hbad with x | x | x
                        · rw [x]; exact .inr ⟨_, _, B1.out, by decide, by decide, by decide⟩
                        · rw [x]; exact .inr ⟨_, _, B2.out, by decide, by decide, by decide⟩
                        · rw [x]; exact .inr ⟨_, _, B3.out, by decide, by decide, by decide⟩
                      · by_cases hj : i = wi
                        · subst hj
                          rw [List.getElem?_set_self (by have := HH7.out; omega)] at e
                          injection e with e
                          cases e
                        · rw [List.getElem?_set_ne (Ne.symm hj)] at e
                          exact HGo.out i g' h' e
                      · exact Blk.conv (C1.out.set_ wi _) (by simp [ptrV, List.map_set])
                      · exact Blk.conv (C2.out.far (p := ⟨gO, wi, none⟩) (Ne.symm n1) _) (by simp [bools, List.map_set])
                      · exact Blk.conv (C3.out.far (p := ⟨gO, wi, none⟩) (Ne.symm n2) _) (by simp [bools, List.map_set])
                      · exact HKs.out.trans' (HK5.out.setCell (p := ⟨gO, wi, none⟩) (.inl (.inl rfl)) _) (fun i hi e => by have := HGO.out; omega)
                    case measure => simp [intOf]; omega
              · skip
                have BO := Lib.hid ((B1'.out.far (p := ⟨gB, wi, none⟩) n1 (.bool true)).far (p := ⟨gF, wi, none⟩) n2 (.bool true))
                have BB := Lib.hid (((B2'.out.set_ wi (.bool true)).far (p := ⟨gF, wi, none⟩) n3 (.bool true)))
                have BF := Lib.hid (((B3'.out.far (p := ⟨gB, wi, none⟩) (Ne.symm n3) (.bool true)).set_ wi (.bool true)))
                have HP5 := Lib.hid ((Blk.far HP3.out (p := ⟨gB, wi, none⟩) HG1.out (.bool true)).far (p := ⟨gF, wi, none⟩) HG2.out (.bool true))
                go_wp2_with fail
                have HC5 := HTO.out _ HP5.out
                with_reducible refine HC5.mono ?_
                rintro e w5 ⟨rfl, hk5⟩
                have C1 := Lib.hid (BO.out.kp hk5 id)
                have C2 := Lib.hid (BB.out.kp hk5 id)
                have C3 := Lib.hid (BF.out.kp hk5 id)
                have s1 := C1.out.frozen wi
                have r1 : w5.cell? ⟨gB, wi, none⟩ = some (.bool true) := C2.out.get wi (arr_set_get _ (by simp [bools]; omega))
                have r2 : w5.cell? ⟨gF, wi, none⟩ = some (.bool true) := C3.out.get wi (arr_set_get _ (by simp [bools]; omega))
                have r3 : w5.cell? ⟨gO, wi, none⟩ = some (.pointer (some ⟨g, 0, none⟩)) := C1.out.get wi (by simp [HE.out, ptrV])
                have HK5 : Hid (Kp (fun i => i = gO ∨ i = gB ∨ i = gF) w2 w5) := Lib.hid ((((Kp.of_below HB3.out (fun i => i = gO ∨ i = gB ∨ i = gF)).setCell (p := ⟨gB, wi, none⟩) (.inl (.inr (.inl rfl))) (.bool true)).setCell (p := ⟨gF, wi, none⟩) (.inl (.inr (.inr rfl))) (.bool true)).trans (hk5.mono (fun _ h => h.elim)))
                clear hk5 q1 q2 q3 z1 z2 z3
                by_cases h3 : H = 3
                · skip
                  have f3 : ((H : Int) == 3) = true := by simp; omega
                  have f5 : ((H : Int) == 5) = false := by simp; omega
                  have f0 : ((H : Int) == 0) = false := by simp; omega
                  have f0' : ((H : Int) != 0) = true := by simp; omega
                  have HHH : Hid (H ≠ 0) := Lib.hid (by omega)
                  try clear h3
                  try clear h5
                  try clear h0
                  go_wp2_with fail
                  go_roundw
                  case rel =>
                    refine ⟨k + 1, d2, own, (if wi = 0 then h2 else o), hs.set wi none, bs.set wi true, fs.set wi true, by omega, by go_num, ?_, hsl2, by simp [HH7.out], Lib.hid (fun i g' h' e => ?_), ?_, by simp [hb7], ?_, by simp [hf7], ?_, ?_⟩
                    · have hdr := HWk2.out.drop (i := wi) (g := g) (h := h2) (List.getElem?_set_self (by have := HH7.out; omega)) (HDN.out.2 HHH.out)
                      rw [List.set_set] at hdr
                      refine hdr.kp (HK5.out.setCell (p := ⟨gO, wi, none⟩) (.inl (.inl rfl)) _) (fun i _ hbad => ?_)
                      rcases hbad with x | x | x
                      · rw [x]; exact .inr ⟨_, _, B1.out, by decide, by decide, by decide⟩
                      · rw [x]; exact .inr ⟨_, _, B2.out, by decide, by decide, by decide⟩
                      · rw [x]; exact .inr ⟨_, _, B3.out, by decide, by decide, by decide⟩
                    · by_cases hj : i = wi
                      · subst hj
                        rw [List.getElem?_set_self (by have := HH7.out; omega)] at e
                        injection e with e
                        cases e
                      · rw [List.getElem?_set_ne (Ne.symm hj)] at e
                        exact HGo.out i g' h' e
                    · exact Blk.conv (C1.out.set_ wi _) (by simp [ptrV, List.map_set])
                    · exact Blk.conv (C2.out.far (p := ⟨gO, wi, none⟩) (Ne.symm n1) _) (by simp [bools, List.map_set])
                    · exact Blk.conv (C3.out.far (p := ⟨gO, wi, none⟩) (Ne.symm n2) _) (by simp [bools, List.map_set])
                    · exact HKs.out.trans' (HK5.out.setCell (p := ⟨gO, wi, none⟩) (.inl (.inl rfl)) _) (fun i hi e => by have := HGO.out; omega)
                  case measure => simp [intOf]; omega
                by_cases h5 : H = 5
                · skip
                  have f3 : ((H : Int) == 3) = false := by simp; omega
                  have f5 : ((H : Int) == 5) = true := by simp; omega
                  have f0 : ((H : Int) == 0) = false := by simp; omega
                  have f0' : ((H : Int) != 0) = true := by simp; omega
                  have HHH : Hid (H ≠ 0) := Lib.hid (by omega)
                  try clear h3
                  try clear h5
                  try clear h0
                  go_wp2_with fail
                  go_roundw
                  case rel =>
                    refine ⟨k + 1, d2, own, (if wi = 0 then h2 else o), hs.set wi none, bs.set wi true, fs.set wi true, by omega, by go_num, ?_, hsl2, by simp [HH7.out], Lib.hid (fun i g' h' e => ?_), ?_, by simp [hb7], ?_, by simp [hf7], ?_, ?_⟩
                    · have hdr := HWk2.out.drop (i := wi) (g := g) (h := h2) (List.getElem?_set_self (by have := HH7.out; omega)) (HDN.out.2 HHH.out)
                      rw [List.set_set] at hdr
                      refine hdr.kp (HK5.out.setCell (p := ⟨gO, wi, none⟩) (.inl (.inl rfl)) _) (fun i _ hbad => ?_)
                      rcases hbad with x | x | x
                      · rw [x]; exact .inr ⟨_, _, B1.out, by decide, by decide, by decide⟩
                      · rw [x]; exact .inr ⟨_, _, B2.out, by decide, by decide, by decide⟩
                      · rw [x]; exact .inr ⟨_, _, B3.out, by decide, by decide, by decide⟩
                    · by_cases hj : i = wi
                      · subst hj
                        rw [List.getElem?_set_self (by have := HH7.out; omega)] at e
                        injection e with e
                        cases e
                      · rw [List.getElem?_set_ne (Ne.symm hj)] at e
                        exact HGo.out i g' h' e
                    · exact Blk.conv (C1.out.set_ wi _) (by simp [ptrV, List.map_set])
                    · exact Blk.conv (C2.out.far (p := ⟨gO, wi, none⟩) (Ne.symm n1) _) (by simp [bools, List.map_set])
                    · exact Blk.conv (C3.out.far (p := ⟨gO, wi, none⟩) (Ne.symm n2) _) (by simp [bools, List.map_set])
                    · exact HKs.out.trans' (HK5.out.setCell (p := ⟨gO, wi, none⟩) (.inl (.inl rfl)) _) (fun i hi e => by have := HGO.out; omega)
                  case measure => simp [intOf]; omega
                by_cases h0 : H = 0
                · skip
                  have f3 : ((H : Int) == 3) = false := by simp; omega
                  have f5 : ((H : Int) == 5) = false := by simp; omega
                  have f0 : ((H : Int) == 0) = true := by simp; omega
                  have f0' : ((H : Int) != 0) = false := by simp; omega
                  have HHH : Hid (H = 0) := Lib.hid (by omega)
                  try clear h3
                  try clear h5
                  try clear h0
                  go_wp2_with fail
                  go_roundw
                  case rel =>
                    refine ⟨k + 1, d2, own, _, hs.set wi (some (g, h2)), bs.set wi true, fs.set wi true, by omega, by go_num, HWk2.out.kp HK5.out (fun i _ hbad => ?_), hsl2, by simp [HH7.out], Lib.hid (fun i g' h' e => ?_), ?_, by simp [hb7], ?_, by simp [hf7], ?_, ?_⟩
                    · rcases hbad with x | x | x
                      · rw [x]; exact .inr ⟨_, _, B1.out, by decide, by decide, by decide⟩
                      · rw [x]; exact .inr ⟨_, _, B2.out, by decide, by decide, by decide⟩
                      · rw [x]; exact .inr ⟨_, _, B3.out, by decide, by decide, by decide⟩
                    · by_cases hj : i = wi
                      · subst hj
                        rw [List.getElem?_set_self (by have := HH7.out; omega)] at e
                        injection e with e
                        injection e with e
                        injection e with e1 e2
                        subst e2
                        have := HDN.out
                        have := HHH.out
                        omega
                      · rw [List.getElem?_set_ne (Ne.symm hj)] at e
                        exact HGo.out i g' h' e
                    · refine Blk.conv C1.out ?_
                      rw [List.map_set, show ptrV (some (g, h2)) = ptrV (some (g, h)) from rfl, ← List.map_set, set_same hs HE.out]
                    · exact Blk.conv C2.out (by simp [bools, List.map_set])
                    · exact Blk.conv C3.out (by simp [bools, List.map_set])
                    · exact HKs.out.trans' HK5.out (fun i hi e => by have := HGO.out; omega)
                  case measure => simp [intOf]; omega
                · skip
                  have f3 : ((H : Int) == 3) = false := by simp; omega
                  have f5 : ((H : Int) == 5) = false := by simp; omega
                  have f0 : ((H : Int) == 0) = false := by simp; omega
                  have f0' : ((H : Int) != 0) = true := by simp; omega
                  have HHH : Hid (H ≠ 0) := Lib.hid (by omega)
                  try clear h3
                  try clear h5
                  try clear h0
                  go_wp2_with fail
                  go_roundw
                  case rel =>
                    refine ⟨k + 1, d2, own, (if wi = 0 then h2 else o), hs.set wi none, bs.set wi true, fs.set wi true, by omega, by go_num, ?_, hsl2, by simp [HH7.out], Lib.hid (fun i g' h' e => ?_), ?_, by simp [hb7], ?_, by simp [hf7], ?_, ?_⟩
                    · have hdr := HWk2.out.drop (i := wi) (g := g) (h := h2) (List.getElem?_set_self (by have := HH7.out; omega)) (HDN.out.2 HHH.out)
                      rw [List.set_set] at hdr
                      refine hdr.kp (HK5.out.setCell (p := ⟨gO, wi, none⟩) (.inl (.inl rfl)) _) (fun i _ hbad => ?_)
                      rcases hbad with x | x | x
                      · rw [x]; exact .inr ⟨_, _, B1.out, by decide, by decide, by decide⟩
                      · rw [x]; exact .inr ⟨_, _, B2.out, by decide, by decide, by decide⟩
                      · rw [x]; exact .inr ⟨_, _, B3.out, by decide, by decide, by decide⟩
                    · by_cases hj : i = wi
                      · subst hj
                        rw [List.getElem?_set_self (by have := HH7.out; omega)] at e
                        injection e with e
                        cases e
                      · rw [List.getElem?_set_ne (Ne.symm hj)] at e
                        exact HGo.out i g' h' e
                    · exact Blk.conv (C1.out.set_ wi _) (by simp [ptrV, List.map_set])
                    · exact Blk.conv (C2.out.far (p := ⟨gO, wi, none⟩) (Ne.symm n1) _) (by simp [bools, List.map_set])
                    · exact Blk.conv (C3.out.far (p := ⟨gO, wi, none⟩) (Ne.symm n2) _) (by simp [bools, List.map_set])
                    · exact HKs.out.trans' (HK5.out.setCell (p := ⟨gO, wi, none⟩) (.inl (.inl rfl)) _) (fun i hi e => by have := HGO.out; omega)
                  case measure => simp [intOf]; omega
          · skip
            cases vf
            · cases en
              · skip
                have BO := Lib.hid ((B1'.out.far (p := ⟨gB, wi, none⟩) n1 (.bool true)).far (p := ⟨gF, wi, none⟩) n2 (.bool false))
                have BB := Lib.hid (((B2'.out.set_ wi (.bool true)).far (p := ⟨gF, wi, none⟩) n3 (.bool false)))
                have BF := Lib.hid (((B3'.out.far (p := ⟨gB, wi, none⟩) (Ne.symm n3) (.bool true)).set_ wi (.bool false)))
                have HP5 := Lib.hid ((Blk.far HP3.out (p := ⟨gB, wi, none⟩) HG1.out (.bool true)).far (p := ⟨gF, wi, none⟩) HG2.out (.bool false))
                go_wp2_with fail
                have HC5 := HTO.out _ HP5.out
                with_reducible refine HC5.mono ?_
                rintro e w5 ⟨rfl, hk5⟩
                have C1 := Lib.hid (BO.out.kp hk5 id)
                have C2 := Lib.hid (BB.out.kp hk5 id)
                have C3 := Lib.hid (BF.out.kp hk5 id)
                have s1 := C1.out.frozen wi
                have r1 : w5.cell? ⟨gB, wi, none⟩ = some (.bool true) := C2.out.get wi (arr_set_get _ (by simp [bools]; omega))
                have r2 : w5.cell? ⟨gF, wi, none⟩ = some (.bool false) := C3.out.get wi (arr_set_get _ (by simp [bools]; omega))
                have r3 : w5.cell? ⟨gO, wi, none⟩ = some (.pointer (some ⟨g, 0, none⟩)) := C1.out.get wi (by simp [HE.out, ptrV])
                have HK5 : Hid (Kp (fun i => i = gO ∨ i = gB ∨ i = gF) w2 w5) := Lib.hid ((((Kp.of_below HB3.out (fun i => i = gO ∨ i = gB ∨ i = gF)).setCell (p := ⟨gB, wi, none⟩) (.inl (.inr (.inl rfl))) (.bool true)).setCell (p := ⟨gF, wi, none⟩) (.inl (.inr (.inr rfl))) (.bool false)).trans (hk5.mono (fun _ h => h.elim)))
                clear hk5 q1 q2 q3 z1 z2 z3
                by_cases h3 : H = 3
                · skip
                  have f3 : ((H : Int) == 3) = true := by simp; omega
                  have f5 : ((H : Int) == 5) = false := by simp; omega
                  have f0 : ((H : Int) == 0) = false := by simp; omega
                  have f0' : ((H : Int) != 0) = true := by simp; omega
                  have HHH : Hid (H ≠ 0) := Lib.hid (by omega)
                  try clear h3
                  try clear h5
                  try clear h0
                  go_wp2_with fail
                  go_roundw
                  case rel =>
                    refine ⟨k + 1, d2, own, (if wi = 0 then h2 else o), hs.set wi none, bs.set wi true, fs.set wi false, by omega, by go_num, ?_, hsl2, by simp [HH7.out], Lib.hid (fun i g' h' e => ?_), ?_, by simp [hb7], ?_, by simp [hf7], ?_, ?_⟩
                    · have hdr := HWk2.out.drop (i := wi) (g := g) (h := h2) (List.getElem?_set_self (by have := HH7.out; omega)) (HDN.out.2 HHH.out)
                      rw [List.set_set] at hdr
                      refine hdr.kp (HK5.out.setCell (p := ⟨gO, wi, none⟩) (.inl (.inl rfl)) _) (fun i _ hbad => ?_)
                      rcases hbad with x | x | x
                      · rw [x]; exact .inr ⟨_, _, B1.out, by decide, by decide, by decide⟩
                      · rw [x]; exact .inr ⟨_, _, B2.out, by decide, by decide, by decide⟩
                      · rw [x]; exact .inr ⟨_, _, B3.out, by decide, by decide, by decide⟩
                    · by_cases hj : i = wi
                      · subst hj
                        rw [List.getElem?_set_self (by have := HH7.out; omega)] at e
                        injection e with e
                        cases e
                      · rw [List.getElem?_set_ne (Ne.symm hj)] at e
                        exact HGo.out i g' h' e
                    · exact Blk.conv (C1.out.set_ wi _) (by simp [ptrV, List.map_set])
                    · exact Blk.conv (C2.out.far (p := ⟨gO, wi, none⟩) (Ne.symm n1) _) (by simp [bools, List.map_set])
                    · exact Blk.conv (C3.out.far (p := ⟨gO, wi, none⟩) (Ne.symm n2) _) (by simp [bools, List.map_set])
                    · exact HKs.out.trans' (HK5.out.setCell (p := ⟨gO, wi, none⟩) (.inl (.inl rfl)) _) (fun i hi e => by have := HGO.out; omega)
                  case measure => simp [intOf]; omega
                by_cases h5 : H = 5
                · exact absurd (HY.out h5) (by simp)
                by_cases h0 : H = 0
                · skip
                  have f3 : ((H : Int) == 3) = false := by simp; omega
                  have f5 : ((H : Int) == 5) = false := by simp; omega
                  have f0 : ((H : Int) == 0) = true := by simp; omega
                  have f0' : ((H : Int) != 0) = false := by simp; omega
                  have HHH : Hid (H = 0) := Lib.hid (by omega)
                  try clear h3
                  try clear h5
                  try clear h0
                  go_wp2_with fail
                  go_roundw
                  case rel =>
                    refine ⟨k + 1, d2, own, _, hs.set wi (some (g, h2)), bs.set wi true, fs.set wi false, by omega, by go_num, HWk2.out.kp HK5.out (fun i _ hbad => ?_), hsl2, by simp [HH7.out], Lib.hid (fun i g' h' e => ?_), ?_, by simp [hb7], ?_, by simp [hf7], ?_, ?_⟩
                    · rcases hbad with x | x | x
                      · rw [x]; exact .inr ⟨_, _, B1.out, by decide, by decide, by decide⟩
                      · rw [x]; exact .inr ⟨_, _, B2.out, by decide, by decide, by decide⟩
                      · rw [x]; exact .inr ⟨_, _, B3.out, by decide, by decide, by decide⟩
                    · by_cases hj : i = wi
                      · subst hj
                        rw [List.getElem?_set_self (by have := HH7.out; omega)] at e
                        injection e with e
                        injection e with e
                        injection e with e1 e2
                        subst e2
                        have := HDN.out
                        have := HHH.out
                        omega
                      · rw [List.getElem?_set_ne (Ne.symm hj)] at e
                        exact HGo.out i g' h' e
                    · refine Blk.conv C1.out ?_
                      rw [List.map_set, show ptrV (some (g, h2)) = ptrV (some (g, h)) from rfl, ← List.map_set, set_same hs HE.out]
                    · exact Blk.conv C2.out (by simp [bools, List.map_set])
                    · exact Blk.conv C3.out (by simp [bools, List.map_set])
                    · exact HKs.out.trans' HK5.out (fun i hi e => by have := HGO.out; omega)
                  case measure => simp [intOf]; omega
                · skip
                  have f3 : ((H : Int) == 3) = false := by simp; omega
                  have f5 : ((H : Int) == 5) = false := by simp; omega
                  have f0 : ((H : Int) == 0) = false := by simp; omega
                  have f0' : ((H : Int) != 0) = true := by simp; omega
                  have HHH : Hid (H ≠ 0) := Lib.hid (by omega)
                  try clear h3
                  try clear h5
                  try clear h0
                  go_wp2_with fail
                  go_roundw
                  case rel =>
                    refine ⟨k + 1, d2, own, (if wi = 0 then h2 else o), hs.set wi none, bs.set wi true, fs.set wi false, by omega, by go_num, ?_, hsl2, by simp [HH7.out], Lib.hid (fun i g' h' e => ?_), ?_, by simp [hb7], ?_, by simp [hf7], ?_, ?_⟩
                    · have hdr := HWk2.out.drop (i := wi) (g := g) (h := h2) (List.getElem?_set_self (by have := HH7.out; omega)) (HDN.out.2 HHH.out)
                      rw [List.set_set] at hdr
                      refine hdr.kp (HK5.out.setCell (p := ⟨gO, wi, none⟩) (.inl (.inl rfl)) _) (fun i _ hbad => ?_)
                      rcases hbad with x | x | x
                      · rw [x]; exact .inr ⟨_, _, B1.out, by decide, by decide, by decide⟩
                      · rw [x]; exact .inr ⟨_, _, B2.out, by decide, by decide, by decide⟩
                      · rw [x]; exact .inr ⟨_, _, B3.out, by decide, by decide, by decide⟩
                    · by_cases hj : i = wi
                      · subst hj
                        rw [List.getElem?_set_self (by have := HH7.out; omega)] at e
                        injection e with e
                        cases e
                      · rw [List.getElem?_set_ne (Ne.symm hj)] at e
                        exact HGo.out i g' h' e
                    · exact Blk.conv (C1.out.set_ wi _) (by simp [ptrV, List.map_set])
                    · exact Blk.conv (C2.out.far (p := ⟨gO, wi, none⟩) (Ne.symm n1) _) (by simp [bools, List.map_set])
                    · exact Blk.conv (C3.out.far (p := ⟨gO, wi, none⟩) (Ne.symm n2) _) (by simp [bools, List.map_set])
                    · exact HKs.out.trans' (HK5.out.setCell (p := ⟨gO, wi, none⟩) (.inl (.inl rfl)) _) (fun i hi e => by have := HGO.out; omega)
                  case measure => simp [intOf]; omega
              · skip
                have BO := Lib.hid ((B1'.out.far (p := ⟨gB, wi, none⟩) n1 (.bool true)).far (p := ⟨gF, wi, none⟩) n2 (.bool true))
                have BB := Lib.hid (((B2'.out.set_ wi (.bool true)).far (p := ⟨gF, wi, none⟩) n3 (.bool true)))
                have BF := Lib.hid (((B3'.out.far (p := ⟨gB, wi, none⟩) (Ne.symm n3) (.bool true)).set_ wi (.bool true)))
                have HP5 := Lib.hid ((Blk.far HP3.out (p := ⟨gB, wi, none⟩) HG1.out (.bool true)).far (p := ⟨gF, wi, none⟩) HG2.out (.bool true))
                go_wp2_with fail
                have HC5 := HTO.out _ HP5.out
                with_reducible refine HC5.mono ?_
                rintro e w5 ⟨rfl, hk5⟩
                have C1 := Lib.hid (BO.out.kp hk5 id)
                have C2 := Lib.hid (BB.out.kp hk5 id)
                have C3 := Lib.hid (BF.out.kp hk5 id)
                have s1 := C1.out.frozen wi
                have r1 : w5.cell? ⟨gB, wi, none⟩ = some (.bool true) := C2.out.get wi (arr_set_get _ (by simp [bools]; omega))
                have r2 : w5.cell? ⟨gF, wi, none⟩ = some (.bool true) := C3.out.get wi (arr_set_get _ (by simp [bools]; omega))
                have r3 : w5.cell? ⟨gO, wi, none⟩ = some (.pointer (some ⟨g, 0, none⟩)) := C1.out.get wi (by simp [HE.out, ptrV])
                have HK5 : Hid (Kp (fun i => i = gO ∨ i = gB ∨ i = gF) w2 w5) := Lib.hid ((((Kp.of_below HB3.out (fun i => i = gO ∨ i = gB ∨ i = gF)).setCell (p := ⟨gB, wi, none⟩) (.inl (.inr (.inl rfl))) (.bool true)).setCell (p := ⟨gF, wi, none⟩) (.inl (.inr (.inr rfl))) (.bool true)).trans (hk5.mono (fun _ h => h.elim)))
                clear hk5 q1 q2 q3 z1 z2 z3
                by_cases h3 : H = 3
                · skip
                  have f3 : ((H : Int) == 3) = true := by simp; omega
                  have f5 : ((H : Int) == 5) = false := by simp; omega
                  have f0 : ((H : Int) == 0) = false := by simp; omega
                  have f0' : ((H : Int) != 0) = true := by simp; omega
                  have HHH : Hid (H ≠ 0) := Lib.hid (by omega)
                  try clear h3
                  try clear h5
                  try clear h0
                  go_wp2_with fail
                  go_roundw
                  case rel =>
                    refine ⟨k + 1, d2, own, (if wi = 0 then h2 else o), hs.set wi none, bs.set wi true, fs.set wi true, by omega, by go_num, ?_, hsl2, by simp [HH7.out], Lib.hid (fun i g' h' e => ?_), ?_, by simp [hb7], ?_, by simp [hf7], ?_, ?_⟩
                    · have hdr := HWk2.out.drop (i := wi) (g := g) (h := h2) (List.getElem?_set_self (by have := HH7.out; omega)) (HDN.out.2 HHH.out)
                      rw [List.set_set] at hdr
                      refine hdr.kp (HK5.out.setCell (p := ⟨gO, wi, none⟩) (.inl (.inl rfl)) _) (fun i _ hbad => ?_)
                      rcases hbad with x | x | x
                      · rw [x]; exact .inr ⟨_, _, B1.out, by decide, by decide, by decide⟩
                      · rw [x]; exact .inr ⟨_, _, B2.out, by decide, by decide, by decide⟩
                      · rw [x]; exact .inr ⟨_, _, B3.out, by decide, by decide, by decide⟩
                    · by_cases hj : i = wi
                      · subst hj
                        rw [List.getElem?_set_self (by have := HH7.out; omega)] at e
                        injection e with e
                        cases e
                      · rw [List.getElem?_set_ne (Ne.symm hj)] at e
                        exact HGo.out i g' h' e
                    · exact Blk.conv (C1.out.set_ wi _) (by simp [ptrV, List.map_set])
                    · exact Blk.conv (C2.out.far (p := ⟨gO, wi, none⟩) (Ne.symm n1) _) (by simp [bools, List.map_set])
                    · exact Blk.conv (C3.out.far (p := ⟨gO, wi, none⟩) (Ne.symm n2) _) (by simp [bools, List.map_set])
                    · exact HKs.out.trans' (HK5.out.setCell (p := ⟨gO, wi, none⟩) (.inl (.inl rfl)) _) (fun i hi e => by have := HGO.out; omega)
                  case measure => simp [intOf]; omega
                by_cases h5 : H = 5
                · skip
                  have f3 : ((H : Int) == 3) = false := by simp; omega
                  have f5 : ((H : Int) == 5) = true := by simp; omega
                  have f0 : ((H : Int) == 0) = false := by simp; omega
                  have f0' : ((H : Int) != 0) = true := by simp; omega
                  have HHH : Hid (H ≠ 0) := Lib.hid (by omega)
                  try clear h3
                  try clear h5
                  try clear h0
                  go_wp2_with fail
                  go_roundw
                  case rel =>
                    refine ⟨k + 1, d2, own, (if wi = 0 then h2 else o), hs.set wi none, bs.set wi true, fs.set wi true, by omega, by go_num, ?_, hsl2, by simp [HH7.out], Lib.hid (fun i g' h' e => ?_), ?_, by simp [hb7], ?_, by simp [hf7], ?_, ?_⟩
                    · have hdr := HWk2.out.drop (i := wi) (g := g) (h := h2) (List.getElem?_set_self (by have := HH7.out; omega)) (HDN.out.2 HHH.out)
                      rw [List.set_set] at hdr
                      refine hdr.kp (HK5.out.setCell (p := ⟨gO, wi, none⟩) (.inl (.inl rfl)) _) (fun i _ hbad => ?_)
                      rcases hbad with x | x | x
                      · rw [x]; exact .inr ⟨_, _, B1.out, by decide, by decide, by decide⟩
                      · rw [x]; exact .inr ⟨_, _, B2.out, by decide, by decide, by decide⟩
                      · rw [x]; exact .inr ⟨_, _, B3.out, by decide, by decide, by decide⟩
                    · by_cases hj : i = wi
                      · subst hj
                        rw [List.getElem?_set_self (by have := HH7.out; omega)] at e
                        injection e with e
                        cases e
                      · rw [List.getElem?_set_ne (Ne.symm hj)] at e
                        exact HGo.out i g' h' e
                    · exact Blk.conv (C1.out.set_ wi _) (by simp [ptrV, List.map_set])
                    · exact Blk.conv (C2.out.far (p := ⟨gO, wi, none⟩) (Ne.symm n1) _) (by simp [bools, List.map_set])
                    · exact Blk.conv (C3.out.far (p := ⟨gO, wi, none⟩) (Ne.symm n2) _) (by simp [bools, List.map_set])
                    · exact HKs.out.trans' (HK5.out.setCell (p := ⟨gO, wi, none⟩) (.inl (.inl rfl)) _) (fun i hi e => by have := HGO.out; omega)
                  case measure => simp [intOf]; omega
                by_cases h0 : H = 0
                · skip
                  have f3 : ((H : Int) == 3) = false := by simp; omega
                  have f5 : ((H : Int) == 5) = false := by simp; omega
                  have f0 : ((H : Int) == 0) = true := by simp; omega
                  have f0' : ((H : Int) != 0) = false := by simp; omega
                  have HHH : Hid (H = 0) := Lib.hid (by omega)
                  try clear h3
                  try clear h5
                  try clear h0
                  go_wp2_with fail
                  go_roundw
                  case rel =>
                    refine ⟨k + 1, d2, own, _, hs.set wi (some (g, h2)), bs.set wi true, fs.set wi true, by omega, by go_num, HWk2.out.kp HK5.out (fun i _ hbad => ?_), hsl2, by simp [HH7.out], Lib.hid (fun i g' h' e => ?_), ?_, by simp [hb7], ?_, by simp [hf7], ?_, ?_⟩
                    · rcases hbad with x | x | x
                      · rw [x]; exact .inr ⟨_, _, B1.out, by decide, by decide, by decide⟩
                      · rw [x]; exact .inr ⟨_, _, B2.out, by decide, by decide, by decide⟩
                      · rw [x]; exact .inr ⟨_, _, B3.out, by decide, by decide, by decide⟩
                    · by_cases hj : i = wi
                      · subst hj
                        rw [List.getElem?_set_self (by have := HH7.out; omega)] at e
                        injection e with e
                        injection e with e
                        injection e with e1 e2
                        subst e2
                        have := HDN.out
                        have := HHH.out
                        omega
                      · rw [List.getElem?_set_ne (Ne.symm hj)] at e
                        exact HGo.out i g' h' e
                    · refine Blk.conv C1.out ?_
                      rw [List.map_set, show ptrV (some (g, h2)) = ptrV (some (g, h)) from rfl, ← List.map_set, set_same hs HE.out]
                    · exact Blk.conv C2.out (by simp [bools, List.map_set])
                    · exact Blk.conv C3.out (by simp [bools, List.map_set])
                    · exact HKs.out.trans' HK5.out (fun i hi e => by have := HGO.out; omega)
                  case measure => simp [intOf]; omega
                · skip
                  have f3 : ((H : Int) == 3) = false := by simp; omega
                  have f5 : ((H : Int) == 5) = false := by simp; omega
                  have f0 : ((H : Int) == 0) = false := by simp; omega
                  have f0' : ((H : Int) != 0) = true := by simp; omega
                  have HHH : Hid (H ≠ 0) := Lib.hid (by omega)
                  try clear h3
                  try clear h5
                  try clear h0
                  go_wp2_with fail
                  go_roundw
                  case rel =>
                    refine ⟨k + 1, d2, own, (if wi = 0 then h2 else o), hs.set wi none, bs.set wi true, fs.set wi true, by omega, by go_num, ?_, hsl2, by simp [HH7.out], Lib.hid (fun i g' h' e => ?_), ?_, by simp [hb7], ?_, by simp [hf7], ?_, ?_⟩
                    · have hdr := HWk2.out.drop (i := wi) (g := g) (h := h2) (List.getElem?_set_self (by have := HH7.out; omega)) (HDN.out.2 HHH.out)
                      rw [List.set_set] at hdr
                      refine hdr.kp (HK5.out.setCell (p := ⟨gO, wi, none⟩) (.inl (.inl rfl)) _) (fun i _ hbad => ?_)
                      rcases hbad with x | x | x
                      · rw [x]; exact .inr ⟨_, _, B1.out, by decide, by decide, by decide⟩
                      · rw [x]; exact .inr ⟨_, _, B2.out, by decide, by decide, by decide⟩
                      · rw [x]; exact .inr ⟨_, _, B3.out, by decide, by decide, by decide⟩
                    · by_cases hj : i = wi
                      · subst hj
                        rw [List.getElem?_set_self (by have := HH7.out; omega)] at e
                        injection e with e
                        cases e
                      · rw [List.getElem?_set_ne (Ne.symm hj)] at e
                        exact HGo.out i g' h' e
                    · exact Blk.conv (C1.out.set_ wi _) (by simp [ptrV, List.map_set])
                    · exact Blk.conv (C2.out.far (p := ⟨gO, wi, none⟩) (Ne.symm n1) _) (by simp [bools, List.map_set])
                    · exact Blk.conv (C3.out.far (p := ⟨gO, wi, none⟩) (Ne.symm n2) _) (by simp [bools, List.map_set])
                    · exact HKs.out.trans' (HK5.out.setCell (p := ⟨gO, wi, none⟩) (.inl (.inl rfl)) _) (fun i hi e => by have := HGO.out; omega)
                  case measure => simp [intOf]; omega
            · skip
              have BO := Lib.hid ((B1'.out.far (p := ⟨gB, wi, none⟩) n1 (.bool true)).far (p := ⟨gF, wi, none⟩) n2 (.bool true))
              have BB := Lib.hid (((B2'.out.set_ wi (.bool true)).far (p := ⟨gF, wi, none⟩) n3 (.bool true)))
              have BF := Lib.hid (((B3'.out.far (p := ⟨gB, wi, none⟩) (Ne.symm n3) (.bool true)).set_ wi (.bool true)))
              have HP5 := Lib.hid ((Blk.far HP3.out (p := ⟨gB, wi, none⟩) HG1.out (.bool true)).far (p := ⟨gF, wi, none⟩) HG2.out (.bool true))
              go_wp2_with fail
              have HC5 := HTO.out _ HP5.out
              with_reducible refine HC5.mono ?_
              rintro e w5 ⟨rfl, hk5⟩
              have C1 := Lib.hid (BO.out.kp hk5 id)
              have C2 := Lib.hid (BB.out.kp hk5 id)
              have C3 := Lib.hid (BF.out.kp hk5 id)
              have s1 := C1.out.frozen wi
              have r1 : w5.cell? ⟨gB, wi, none⟩ = some (.bool true) := C2.out.get wi (arr_set_get _ (by simp [bools]; omega))
              have r2 : w5.cell? ⟨gF, wi, none⟩ = some (.bool true) := C3.out.get wi (arr_set_get _ (by simp [bools]; omega))
              have r3 : w5.cell? ⟨gO, wi, none⟩ = some (.pointer (some ⟨g, 0, none⟩)) := C1.out.get wi (by simp [HE.out, ptrV])
              have HK5 : Hid (Kp (fun i => i = gO ∨ i = gB ∨ i = gF) w2 w5) := Lib.hid ((((Kp.of_below HB3.out (fun i => i = gO ∨ i = gB ∨ i = gF)).setCell (p := ⟨gB, wi, none⟩) (.inl (.inr (.inl rfl))) (.bool true)).setCell (p := ⟨gF, wi, none⟩) (.inl (.inr (.inr rfl))) (.bool true)).trans (hk5.mono (fun _ h => h.elim)))
              clear hk5 q1 q2 q3 z1 z2 z3
              by_cases h3 : H = 3
              · skip
                have f3 : ((H : Int) == 3) = true := by simp; omega
                have f5 : ((H : Int) == 5) = false := by simp; omega
                have f0 : ((H : Int) == 0) = false := by simp; omega
                have f0' : ((H : Int) != 0) = true := by simp; omega
                have HHH : Hid (H ≠ 0) := Lib.hid (by omega)
                try clear h3
                try clear h5
                try clear h0
                go_wp2_with fail
                go_roundw
                case rel =>
                  refine ⟨k + 1, d2, own, (if wi = 0 then h2 else o), hs.set wi none, bs.set wi true, fs.set wi true, by omega, by go_num, ?_, hsl2, by simp [HH7.out], Lib.hid (fun i g' h' e => ?_), ?_, by simp [hb7], ?_, by simp [hf7], ?_, ?_⟩
                  · have hdr := HWk2.out.drop (i := wi) (g := g) (h := h2) (List.getElem?_set_self (by have := HH7.out; omega)) (HDN.out.2 HHH.out)
                    rw [List.set_set] at hdr
                    refine hdr.kp (HK5.out.setCell (p := ⟨gO, wi, none⟩) (.inl (.inl rfl)) _) (fun i _ hbad => ?_)
                    rcases hbad with x | x | x
                    · rw [x]; exact .inr ⟨_, _, B1.out, by decide, by decide, by decide⟩
                    · rw [x]; exact .inr ⟨_, _, B2.out, by decide, by decide, by decide⟩
                    · rw [x]; exact .inr ⟨_, _, B3.out, by decide, by decide, by decide⟩
                  · by_cases hj : i = wi
                    · subst hj
                      rw [List.getElem?_set_self (by have := HH7.out; omega)] at e
                      injection e with e
                      cases e
                    · rw [List.getElem?_set_ne (Ne.symm hj)] at e
                      exact HGo.out i g' h' e
                  · exact Blk.conv (C1.out.set_ wi _) (by simp [ptrV, List.map_set])
                  · exact Blk.conv (C2.out.far (p := ⟨gO, wi, none⟩) (Ne.symm n1) _) (by simp [bools, List.map_set])
                  · exact Blk.conv (C3.out.far (p := ⟨gO, wi, none⟩) (Ne.symm n2) _) (by simp [bools, List.map_set])
                  · exact HKs.out.trans' (HK5.out.setCell (p := ⟨gO, wi, none⟩) (.inl (.inl rfl)) _) (fun i hi e => by have := HGO.out; omega)
                case measure => simp [intOf]; omega
              by_cases h5 : H = 5
              · skip
                have f3 : ((H : Int) == 3) = false := by simp; omega
                have f5 : ((H : Int) == 5) = true := by simp; omega
                have f0 : ((H : Int) == 0) = false := by simp; omega
                have f0' : ((H : Int) != 0) = true := by simp; omega
                have HHH : Hid (H ≠ 0) := Lib.hid (by omega)
                try clear h3
                try clear h5
                try clear h0
                go_wp2_with fail
                go_roundw
                case rel =>
                  refine ⟨k + 1, d2, own, (if wi = 0 then h2 else o), hs.set wi none, bs.set wi true, fs.set wi true, by omega, by go_num, ?_, hsl2, by simp [HH7.out], Lib.hid (fun i g' h' e => ?_), ?_, by simp [hb7], ?_, by simp [hf7], ?_, ?_⟩
                  · have hdr := HWk2.out.drop (i := wi) (g := g) (h := h2) (List.getElem?_set_self (by have := HH7.out; omega)) (HDN.out.2 HHH.out)
                    rw [List.set_set] at hdr
                    refine hdr.kp (HK5.out.setCell (p := ⟨gO, wi, none⟩) (.inl (.inl rfl)) _) (fun i _ hbad => ?_)
                    rcases hbad with x | x | x
                    · rw [x]; exact .inr ⟨_, _, B1.out, by decide, by decide, by decide⟩
                    · rw [x]; exact .inr ⟨_, _, B2.out, by decide, by decide, by decide⟩
                    · rw [x]; exact .inr ⟨_, _, B3.out, by decide, by decide, by decide⟩
                  · by_cases hj : i = wi
                    · subst hj
                      rw [List.getElem?_set_self (by have := HH7.out; omega)] at e
                      injection e with e
                      cases e
                    · rw [List.getElem?_set_ne (Ne.symm hj)] at e
                      exact HGo.out i g' h' e
                  · exact Blk.conv (C1.out.set_ wi _) (by simp [ptrV, List.map_set])
                  · exact Blk.conv (C2.out.far (p := ⟨gO, wi, none⟩) (Ne.symm n1) _) (by simp [bools, List.map_set])
                  · exact Blk.conv (C3.out.far (p := ⟨gO, wi, none⟩) (Ne.symm n2) _) (by simp [bools, List.map_set])
                  · exact HKs.out.trans' (HK5.out.setCell (p := ⟨gO, wi, none⟩) (.inl (.inl rfl)) _) (fun i hi e => by have := HGO.out; omega)
                case measure => simp [intOf]; omega
              by_cases h0 : H = 0
              · skip
                have f3 : ((H : Int) == 3) = false := by simp; omega
                have f5 : ((H : Int) == 5) = false := by simp; omega
                have f0 : ((H : Int) == 0) = true := by simp; omega
                have f0' : ((H : Int) != 0) = false := by simp; omega
                have HHH : Hid (H = 0) := Lib.hid (by omega)
                try clear h3
                try clear h5
                try clear h0
                go_wp2_with fail
                go_roundw
                case rel =>
                  refine ⟨k + 1, d2, own, _, hs.set wi (some (g, h2)), bs.set wi true, fs.set wi true, by omega, by go_num, HWk2.out.kp HK5.out (fun i _ hbad => ?_), hsl2, by simp [HH7.out], Lib.hid (fun i g' h' e => ?_), ?_, by simp [hb7], ?_, by simp [hf7], ?_, ?_⟩
                  · rcases hbad with x | x | x
                    · rw [x]; exact .inr ⟨_, _, B1.out, by decide, by decide, by decide⟩
                    · rw [x]; exact .inr ⟨_, _, B2.out, by decide, by decide, by decide⟩
                    · rw [x]; exact .inr ⟨_, _, B3.out, by decide, by decide, by decide⟩
                  · by_cases hj : i = wi
                    · subst hj
                      rw [List.getElem?_set_self (by have := HH7.out; omega)] at e
                      injection e with e
                      injection e with e
                      injection e with e1 e2
                      subst e2
                      have := HDN.out
                      have := HHH.out
                      omega
                    · rw [List.getElem?_set_ne (Ne.symm hj)] at e
                      exact HGo.out i g' h' e
                  · refine Blk.conv C1.out ?_
                    rw [List.map_set, show ptrV (some (g, h2)) = ptrV (some (g, h)) from rfl, ← List.map_set, set_same hs HE.out]
                  · exact Blk.conv C2.out (by simp [bools, List.map_set])
                  · exact Blk.conv C3.out (by simp [bools, List.map_set])
                  · exact HKs.out.trans' HK5.out (fun i hi e => by have := HGO.out; omega)
                case measure => simp [intOf]; omega
              · skip
                have f3 : ((H : Int) == 3) = false := by simp; omega
                have f5 : ((H : Int) == 5) = false := by simp; omega
                have f0 : ((H : Int) == 0) = false := by simp; omega
                have f0' : ((H : Int) != 0) = true := by simp; omega
                have HHH : Hid (H ≠ 0) := Lib.hid (by omega)
                try clear h3
                try clear h5
                try clear h0
                go_wp2_with fail
                go_roundw
                case rel =>
                  refine ⟨k + 1, d2, own, (if wi = 0 then h2 else o), hs.set wi none, bs.set wi true, fs.set wi true, by omega, by go_num, ?_, hsl2, by simp [HH7.out], Lib.hid (fun i g' h' e => ?_), ?_, by simp [hb7], ?_, by simp [hf7], ?_, ?_⟩
                  · have hdr := HWk2.out.drop (i := wi) (g := g) (h := h2) (List.getElem?_set_self (by have := HH7.out; omega)) (HDN.out.2 HHH.out)
                    rw [List.set_set] at hdr
                    refine hdr.kp (HK5.out.setCell (p := ⟨gO, wi, none⟩) (.inl (.inl rfl)) _) (fun i _ hbad => ?_)
                    rcases hbad with x | x | x
                    · rw [x]; exact .inr ⟨_, _, B1.out, by decide, by decide, by decide⟩
                    · rw [x]; exact .inr ⟨_, _, B2.out, by decide, by decide, by decide⟩
                    · rw [x]; exact .inr ⟨_, _, B3.out, by decide, by decide, by decide⟩
                  · by_cases hj : i = wi
                    · subst hj
                      rw [List.getElem?_set_self (by have := HH7.out; omega)] at e
                      injection e with e
                      cases e
                    · rw [List.getElem?_set_ne (Ne.symm hj)] at e
                      exact HGo.out i g' h' e
                  · exact Blk.conv (C1.out.set_ wi _) (by simp [ptrV, List.map_set])
                  · exact Blk.conv (C2.out.far (p := ⟨gO, wi, none⟩) (Ne.symm n1) _) (by simp [bools, List.map_set])
                  · exact Blk.conv (C3.out.far (p := ⟨gO, wi, none⟩) (Ne.symm n2) _) (by simp [bools, List.map_set])
                  · exact HKs.out.trans' (HK5.out.setCell (p := ⟨gO, wi, none⟩) (.inl (.inl rfl)) _) (fun i hi e => by have := HGO.out; omega)
                case measure => simp [intOf]; omega
      · obtain rfl : k = l.length := by omega
        have hd1 : decide ((l.length : Int) < (l.length : Int)) = false := decide_eq_false (by omega)
        have HK9 := Lib.hid hkk
        clear hkk hwk hbo hbb hbf hlt
        go_wp2_with fail
        refine (HW.out _).mono ?_
        rintro e w6 ⟨rfl, hk6⟩
        have K6 := Lib.hid hk6
        clear hk6
        go_wp2_with fail
        go_ret
        exact ⟨rfl, HK9.out.trans K6.out⟩
end Go.Proofs.Ytdigjppdgiapfaa
