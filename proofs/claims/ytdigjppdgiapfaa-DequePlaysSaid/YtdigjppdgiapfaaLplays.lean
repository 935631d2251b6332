/- DequePlays walked. -/
import Derived.Test.YtdigjppdgiapfaaRkw
import Derived.Test.YtdigjppdgiapfaaMv
import Derived.Deep.DeepCutAuto
import Derived.Deep.CutRange
set_option linter.unusedSimpArgs false
set_option linter.unusedVariables false
namespace Go.Proofs.Ytdigjppdgiapfaa
open Go.RowKit
attribute [local go_sem] block_of_add fn_some fn_nil fn_somen fn_niln acc_neq guardA
attribute [local go_sem ↓] Go.wp_at_zero Go.wp_at_succ

theorem Wk.start {w : World} {gd gc base n : Nat} (hd : DqAt w gd gc (Dq.made n) (.pointer none)) (hn : 0 < n) (lc : base ≤ gc) (ld : base ≤ gd) : Wk w gd gc base 0 (Dq.made n) (.pointer none) ⟨0, 0, 0, 0, false, 0⟩ (List.replicate 7 none) := by
  have none_ : ∀ (i g : Nat) (h : Dop), (List.replicate 7 (none : Option (Nat × Dop)))[i]? ≠ some (some (g, h)) := fun i g h e => by
    rw [List.getElem?_replicate] at e
    split at e
    · injection e with e; cases e
    · cases e
  exact ⟨hd, made_ok n hn _ rfl, ⟨by simp [Dq.made], by simp [Dq.made], by simp [Dq.made], by simp [Dq.made]⟩, fun g h e => absurd e (none_ 0 g h), fun _ => ⟨rfl, .inl rfl⟩, fun i g h e => absurd e (none_ i g h), fun i j g h h' e => absurd e (none_ i g h), lc, ld⟩
def rptr : Option Nat → Value
  | some g => .pointer (some ⟨g, 0, none⟩)
  | none => .pointer none
theorem el_op : El Try.prog 31 36 (.pointer none) 1 8 := ⟨Try.underlying31, by kernel_rfl, rfl, by decide⟩
theorem el_rop : El Try.prog 32 35 (.pointer none) 1 8 := ⟨Try.underlying32, by kernel_rfl, rfl, by decide⟩
def nil7 : Array Value := (List.replicate 7 (Value.pointer none)).toArray
theorem made_nils : madeCells (Value.pointer none).cells ((7 : Int).toNat * 1) = (List.replicate 7 (Value.pointer none)).toArray := by
  apply Array.toList_inj.1
  show (madeCells #[.pointer none] 7).toList = _
  rw [toList_madeCells_one]
theorem make_ops (w : World) : (Instr.makeSlice 31 (.int .i64 7) (.int .i64 7)).run Try.prog w = .ok (.slice (some ⟨w.heap.size, 0, none⟩) 7 7) (w.alloc (.cells nil7 36)) := by
  obtain ⟨i, hi, hz, hs, hb⟩ := info_parts el_op.info
  have h := run_makeSlice (P := Try.prog) (w := w) 31 36 i (.pointer none) el_op.ht hi hz .i64 .i64 7 7 (by omega) (by omega) (by rw [hs]; decide) (by rw [hb]; decide) (by omega)
  rw [h, hs, made_nils]
  rfl
theorem make_rops (w : World) : (Instr.makeSlice 32 (.int .i64 7) (.int .i64 7)).run Try.prog w = .ok (.slice (some ⟨w.heap.size, 0, none⟩) 7 7) (w.alloc (.cells nil7 35)) := by
  obtain ⟨i, hi, hz, hs, hb⟩ := info_parts el_rop.info
  have h := run_makeSlice (P := Try.prog) (w := w) 32 35 i (.pointer none) el_rop.ht hi hz .i64 .i64 7 7 (by omega) (by omega) (by rw [hs]; decide) (by rw [hb]; decide) (by omega)
  rw [h, hs, made_nils]
  rfl
/-- What holds at the head of each round. -/
structure Pl (wr w : World) (gd gc rd rc gO gR k n : Nat) (nx : Nat) (d : Dq) (own : Value) (o : Dop) (hs : List (Option (Nat × Dop))) (rs : List (Option Nat)) (vs : List Value) (ow : Int) : Prop where
  wk : Wk wr gd gc w.heap.size k d own o hs
  rk : Rk wr rd rc w.heap.size d hs rs ow
  nx : nx ≤ k
  sl : d.sl.length = n
  h7 : hs.length = 7
  v7 : vs.length = 7
  bo : Blk wr gO 36 vs.toArray
  br : Blk wr gR 35 (rs.map rptr).toArray
  vh : ∀ (i g : Nat) (h : Dop), hs[i]? = some (some (g, h)) → vs[i]? = some (.pointer (some ⟨g, 0, none⟩))
  kk : Kp (fun _ => False) w wr
set_option maxRecDepth 100000 in
set_option maxHeartbeats 4000000 in
theorem dequePlays_any (room : Int) (l : List (Int × Bool)) (A : Option Addr) (c : Nat) (w : World) (hr : 0 ≤ room ∧ room < 256) (hlm : ∀ m ∈ l, 0 ≤ m.1 ∧ m.1 < 256) (hrl : Reads w w.heap.size 2 A l.length (mvCells l)) :
    Calls Try.prog 3 #[.int .u8 room, .slice A l.length c] w fun e w' => e = .returned (.bool true) ∧ Below w.heap.size w w' := by
  suffices h : Calls Try.prog 3 #[.int .u8 room, .slice A l.length c] w fun e w' => e = .returned (.bool true) ∧ Kp (fun _ => False) w w' from
    h.mono fun e w' ⟨h1, h2⟩ => ⟨h1, h2.below (fun k h => h.elim) (Nat.le_refl _)⟩
  have HL := Lib.hid hrl
  have HM := Lib.hid hlm
  have HW := Lib.hid fun W => works_any W
  have hmo := make_ops
  have hmb := make_rops
  clear hrl hlm
  by_cases hbig : 600 < l.length
  · have d1 : decide ((600 : Int) < (l.length : Int)) = true := decide_eq_true (by omega)
    go_enter Try.func3, Try.ntmps3
    go_wp2_with fail
    refine (HW.out _).mono ?_
    rintro e w1 ⟨rfl, hk⟩
    have HK := Lib.hid hk
    clear hk
    go_wp2_with fail
    go_ret
    exact ⟨rfl, HK.out⟩
  · have d1 : decide ((600 : Int) < (l.length : Int)) = false := decide_eq_false (by omega)
    have hl2 : l.length ≤ 600 := by omega
    obtain ⟨n, hn⟩ : ∃ n : Nat, 1 + room % 9 = (n : Int) := ⟨(1 + room % 9).toNat, by omega⟩
    have hn1 : 1 ≤ n := by omega
    have hn2 : n ≤ 9 := by omega
    have r0 := hr.1
    have hm1 : Int.tmod room 9 = (n : Int) - 1 := by rw [Int.tmod_eq_emod_of_nonneg r0]; omega
    have hm2 : room % 9 = (n : Int) - 1 := by omega
    have hm3 : 1 + ((n : Int) - 1) = (n : Int) := by omega
    have hwr : IntKind.i64.wrap (n : Int) = (n : Int) := IntWalk.i64_in _ ⟨by omega, by omega⟩
    have hwr2 : IntKind.i64.wrap ((n : Int) - 1) = (n : Int) - 1 := IntWalk.i64_in _ ⟨by omega, by omega⟩
    have hwr3 : IntKind.i64.wrap room = room := IntWalk.i64_in _ ⟨by omega, by omega⟩
    have HN := Lib.hid fun W => new_var n hn1 (by omega) W
    have HN2 := Lib.hid fun W => rnew_any n hn1 (by omega) W
    clear hn hbig
    go_enter Try.func3, Try.ntmps3
    go_wp2_with fail
    refine (HN.out _).mono ?_
    rintro e w1 ⟨gd, gc, rfl, hgd, hgc, hd, hk⟩
    have HD := Lib.hid hd
    have HK := Lib.hid hk
    clear hd hk
    go_wp2_with fail
    refine (HN2.out _).mono ?_
    rintro e w2 ⟨rd, rc, rfl, hrd, hrc, hd, hk⟩
    have HRD := Lib.hid hd
    have HK2 := Lib.hid hk
    have hs1 := HK.out.size
    clear hd hk HN HN2 hm1 hm2 hm3 hwr hwr2 hwr3 hr r0
    go_wp2_with fail
    obtain ⟨W, hW⟩ : ∃ W, W = (w2.alloc (.cells nil7 36)).alloc (.cells nil7 35) := ⟨_, rfl⟩
    obtain ⟨gO, hgO⟩ : ∃ g, g = w2.heap.size := ⟨_, rfl⟩
    obtain ⟨gR, hgR⟩ : ∃ g, g = gO + 1 := ⟨_, rfl⟩
    have HBO : Hid (Blk W gO 36 (List.replicate 7 (Value.pointer none)).toArray) := Lib.hid (by rw [hW]; exact (Blk.at_ _ _ _ hgO).alloc _)
    have HBR : Hid (Blk W gR 35 ((List.replicate 7 none).map rptr).toArray) := Lib.hid (by rw [hW]; exact Blk.conv (Blk.at_ _ _ _ (by rw [hgR, hgO]; simp)) rfl)
    have HK3 : Hid (Kp (fun _ => False) w2 W) := Lib.hid (by rw [hW]; exact ((Kp.refl _ _).alloc _).alloc _)
    have HGO : Hid (w.heap.size ≤ gO ∧ gR = gO + 1) := Lib.hid ⟨by rw [hgO]; have := HK2.out.size; omega, hgR⟩
    have HPL : Hid (Pl W w gd gc rd rc gO gR 0 n 0 (Dq.made n) (.pointer none) ⟨0, 0, 0, 0, false, 0⟩ (List.replicate 7 none) (List.replicate 7 none) (List.replicate 7 (Value.pointer none)) 0) := Lib.hid
      ⟨Wk.start ((HD.out.kp HK2.out id id).kp HK3.out id id) (by omega) hgc hgd, Rk.start (HRD.out.kp HK3.out id id) (by omega) (by omega), by omega, by simp [Dq.made], by simp, by simp, HBO.out, HBR.out, fun i g h e => (by
        rw [List.getElem?_replicate] at e
        split at e
        · injection e with e; cases e
        · cases e), (HK.out.trans HK2.out).trans HK3.out⟩
    simp only [← hgO, ← hgR]
    rw [show (w2.alloc (.cells nil7 36)).alloc (.cells nil7 35) = W from hW.symm]
    clear hW hgO hgR HD HK HK2 HK3 HRD HBO HBR
    go_loopw [11, 12] (fun nn i wr => ∃ (k nx : Nat) (d : Dq) (own : Value) (o : Dop) (hs : List (Option (Nat × Dop))) (rs : List (Option Nat)) (vs : List Value) (ow : Int), k ≤ l.length ∧ nn = .int .i64 nx ∧ i = .int .i64 k ∧ Hid (Pl wr w gd gc rd rc gO gR k n nx d own o hs rs vs ow)) (fun _ i _ => l.length - (intOf i).toNat)
    case atStart => exact ⟨0, 0, _, _, _, _, _, _, _, by omega, rfl, rfl, HPL⟩
    case round =>
      obtain ⟨k, nx, d, own, o, hs, rs, vs, ow, hk, rfl, rfl, HP⟩ := hrel
      have hsn := HP.out.sl
      have hnx := HP.out.nx
      by_cases hlt : k < l.length
      · have hB : Below w.heap.size w wr := HP.out.kk.below (fun k h => h.elim) (Nat.le_refl _)
        obtain ⟨ad, rfl, hab, hc0, hc1⟩ := HL.out.mv rfl hlt
        have hm := HM.out l[k] (List.getElem_mem hlt)
        obtain ⟨mw, hmw⟩ : ∃ x, x = l[k].1 := ⟨_, rfl⟩
        obtain ⟨mp, hmp⟩ : ∃ x, x = l[k].2 := ⟨_, rfl⟩
        rw [← hmw] at hc0 hm
        rw [← hmp] at hc1
        have HC0 := Lib.hid hc0
        have HC1 := Lib.hid hc1
        have c0 : wr.cell? (ad.add (k * 2)) = some (.int .u8 mw) := (hB.cell (by rw [block_of_add]; exact hab)).trans hc0
        have c1 : wr.cell? ⟨ad.block, (ad.add (k * 2)).off + 1, none⟩ = some (.bool mp) := (hB.cell (by exact hab)).trans hc1
        have hkl : (k : Int) < (l.length : Int) := by omega
        have hd1 : decide ((k : Int) < (l.length : Int)) = true := decide_eq_true hkl
        obtain ⟨wi, hwi⟩ : ∃ x : Nat, mw % 7 = (x : Int) := ⟨(mw % 7).toNat, by omega⟩
        have hw7 : wi < 7 := by omega
        have hw7i : (wi : Int) < 7 := by omega
        have hmt : Int.tmod mw 7 = (wi : Int) := by rw [Int.tmod_eq_emod_of_nonneg hm.1]; exact hwi
        have hwr1 : IntKind.i64.wrap mw = mw := IntWalk.i64_in _ ⟨by omega, by omega⟩
        have hwr2 : IntKind.i64.wrap (wi : Int) = (wi : Int) := IntWalk.i64_in _ ⟨by omega, by omega⟩
        have hwr4 : IntKind.i64.wrap ((nx : Int) + 1) = (nx : Int) + 1 := IntWalk.i64_in _ ⟨by omega, by omega⟩
        have h7 := HP.out.h7
        have hr7 : rs.length = 7 := by rw [← HP.out.rk.len]; exact h7
        have hv7 := HP.out.v7
        obtain ⟨e, he⟩ : ∃ e, hs[wi]? = some e := ⟨_, List.getElem?_eq_getElem (by omega)⟩
        have HWk := Lib.hid HP.out.wk
        have HRk := Lib.hid HP.out.rk
        have HBo := Lib.hid HP.out.bo
        have HBr := Lib.hid HP.out.br
        have HKk := Lib.hid HP.out.kk
        have HVh := Lib.hid HP.out.vh
        have HE := Lib.hid he
        have H7 := Lib.hid h7
        have HR7 := Lib.hid hr7
        have HV7 := Lib.hid hv7
        have hgne : gO ≠ gR := by have := HGO.out; omega
        have hgne2 : gR ≠ gO := Ne.symm hgne
        have hpos : 0 < d.sl.length := HWk.out.ok.n
        have hsz : w.heap.size ≤ wr.heap.size := HKk.out.size
        have lO := HBo.out.lt
        have lR := HBr.out.lt
        clear he h7 hr7 hv7 hmw hmp hc0 hc1 hB
        rcases e with _ | ⟨g, h⟩
        · have hrn := HRk.out.none_ wi HE.out
          have co : wr.cell? ⟨gR, wi, none⟩ = some (.pointer none) := HBr.out.get wi (by simp [hrn, rptr])
          clear hrn
          rcases Nat.eq_zero_or_pos wi with hz | hp
          · subst hz
            cases mp
            · skip
              have HB := Lib.hid (begin_push gd gc d own wr HWk.out.at_ hpos (nx : Int) (by omega) (HWk.out.idle HE.out))
              go_wp2_with fail
              refine HB.out.mono ?_
              intro e w2 hbe
              have hwk2 := HWk.out.begun_own HE.out (.inr ⟨_, rfl⟩) hbe hsz
              obtain ⟨he1, _, _, hk2⟩ := hbe
              subst he1
              obtain ⟨g, hg⟩ : ∃ g, g = wr.heap.size := ⟨_, rfl⟩
              have hrk2 := HRk.out.kp hk2 (fun i _ e => .inr (by rw [e]; exact ⟨_, _, HWk.out.at_.hdr, by decide, by decide, by decide⟩))
              have b1 := HBo.out.kp hk2 (Blk.ne_ HBo.out HWk.out.at_.hdr (by decide))
              have b2 := HBr.out.kp hk2 (Blk.ne_ HBr.out HWk.out.at_.hdr (by decide))
              have ca : w2.cell? (ad.add (k * 2)) = some (.int .u8 mw) := by
                rw [hk2.cell (by rw [block_of_add]; omega) (by rw [block_of_add]; have := HWk.out.ld; omega)]; exact c0
              have cb : w2.cell? ⟨ad.block, (ad.add (k * 2)).off + 1, none⟩ = some (.bool false) := by
                rw [hk2.cell (by dsimp only; omega) (by dsimp only; have := HWk.out.ld; omega)]; exact c1
              have HWk2 := Lib.hid hwk2
              have HRk2 := Lib.hid hrk2
              have HK2 := Lib.hid (HKk.out.trans' hk2 (bad := fun _ => False) (fun i hi e => by have := HWk.out.ld; omega))
              have hz2 := hk2.size
              have B1 := Lib.hid b1
              have B2 := Lib.hid b2
              clear hwk2 hrk2 hk2 b1 b2 hg c0 c1
              go_wp2_with fail
              have HC := Lib.hid (kind_own false w2)
              refine HC.out.mono ?_
              rintro e w3 ⟨rfl, rfl⟩
              go_wp2_with fail
              refine (rbegin_push rd rc d w3 (nx : Int) (by omega) (by have h := HRk2.out.at_; rw [HRk2.out.ow0 HE.out] at h; exact h)).mono ?_
              rintro e w4 ⟨⟨ro, rfl, hro, hroa⟩, hrq, hk4⟩
              have hwk4 := HWk2.out.kp hk4 (fun i _ e => .inr (by rw [e]; exact ⟨_, _, HRk2.out.at_.hdr, by decide, by decide, by decide⟩))
              have hrk4 := HRk2.out.begun HE.out (K := 0) (o := (opPush nx)) (ow' := 1) (by simp; try omega) (by simp; try omega) (by simp [opPush, opPop, opSteal]) (by omega) hrq hk4 hro hroa wr.heap.size
              have b1 := B1.out.kp hk4 (Blk.ne_ B1.out HRk2.out.at_.hdr (by decide))
              have b2 := B2.out.kp hk4 (Blk.ne_ B2.out HRk2.out.at_.hdr (by decide))
              obtain ⟨v1, hv1⟩ : ∃ v, vs[0]? = some v := ⟨_, List.getElem?_eq_getElem (by have := HV7.out; omega)⟩
              have q1 := b1.get 0 (v := v1) (by simp [hv1])
              have hrn := HRk.out.none_ 0 HE.out
              have q2 := b2.get 0 (v := .pointer none) (by simp [hrn, rptr])
              have z1 := b1.frozen 0
              have z2 := b2.frozen 0
              have l1 := b1.lt
              have l2 := b2.lt
              have HWk4 := Lib.hid hwk4
              have HRk4 := Lib.hid hrk4
              have HK4 := Lib.hid (HK2.out.trans' hk4 (bad := fun _ => False) (fun i hi e => by have := HRk.out.ld; omega))
              have C1 := Lib.hid b1
              have C2 := Lib.hid b2
              clear hwk4 hrk4 hk4 b1 b2 hrq hroa hv1 hrn
              go_wp2_with fail
              go_roundw
              case rel =>
                refine ⟨k + 1, nx + 1, d, (.pointer (some ⟨wr.heap.size, 0, none⟩)), (opPush nx), hs.set 0 (some (wr.heap.size, (opPush nx))), rs.set 0 (some ro), vs.set 0 (.pointer (some ⟨wr.heap.size, 0, none⟩)), 1, by omega, by go_num, by go_num, Lib.hid ?_⟩
                have HKX := ((Kp.refl (fun i => i = gO ∨ i = gR) w4).setCell (p := ⟨gO, 0, none⟩) (.inl (.inl rfl)) (.pointer (some ⟨wr.heap.size, 0, none⟩))).setCell (p := ⟨gR, 0, none⟩) (.inl (.inr rfl)) (.pointer (some ⟨ro, 0, none⟩))
                refine ⟨HWk4.out.kp HKX ?_, HRk4.out.kp HKX ?_, by omega, hsn, by simp [H7.out], by simp [HV7.out], ?_, ?_, fun i g' h' e => ?_, HK4.out.trans' HKX (fun i h e => by have := HGO.out; omega)⟩
                · intro i _ hbad
                  rcases hbad with x | x
                  · rw [x]; exact .inr ⟨_, _, C1.out, by decide, by decide, by decide⟩
                  · rw [x]; exact .inr ⟨_, _, C2.out, by decide, by decide, by decide⟩
                · intro i _ hbad
                  rcases hbad with x | x
                  · rw [x]; exact .inr ⟨_, _, C1.out, by decide, by decide, by decide⟩
                  · rw [x]; exact .inr ⟨_, _, C2.out, by decide, by decide, by decide⟩
                · exact Blk.conv ((C1.out.set_ 0 _).far (p := ⟨gR, 0, none⟩) hgne _) (by simp)
                · exact Blk.conv ((C2.out.far (p := ⟨gO, 0, none⟩) hgne2 _).set_ 0 _) (by simp [rptr, List.map_set])
                · by_cases hj : i = 0
                  · rw [hj] at e ⊢
                    rw [List.getElem?_set_self (by have := H7.out; omega)] at e
                    injection e with e
                    injection e with e
                    injection e with e1 e2
                    rw [List.getElem?_set_self (by have := HV7.out; omega), e1]
                  · rw [List.getElem?_set_ne (Ne.symm hj)] at e ⊢
                    exact HVh.out i g' h' e
              case measure => simp [intOf]; omega
            · skip
              have HB := Lib.hid (begin_pop gd gc d own wr HWk.out.at_ hpos (nx : Int) (HWk.out.idle HE.out))
              go_wp2_with fail
              refine HB.out.mono ?_
              intro e w2 hbe
              have hwk2 := HWk.out.begun_own HE.out (.inl rfl) hbe hsz
              obtain ⟨he1, _, _, hk2⟩ := hbe
              subst he1
              obtain ⟨g, hg⟩ : ∃ g, g = wr.heap.size := ⟨_, rfl⟩
              have hrk2 := HRk.out.kp hk2 (fun i _ e => .inr (by rw [e]; exact ⟨_, _, HWk.out.at_.hdr, by decide, by decide, by decide⟩))
              have b1 := HBo.out.kp hk2 (Blk.ne_ HBo.out HWk.out.at_.hdr (by decide))
              have b2 := HBr.out.kp hk2 (Blk.ne_ HBr.out HWk.out.at_.hdr (by decide))
              have ca : w2.cell? (ad.add (k * 2)) = some (.int .u8 mw) := by
                rw [hk2.cell (by rw [block_of_add]; omega) (by rw [block_of_add]; have := HWk.out.ld; omega)]; exact c0
              have cb : w2.cell? ⟨ad.block, (ad.add (k * 2)).off + 1, none⟩ = some (.bool true) := by
                rw [hk2.cell (by dsimp only; omega) (by dsimp only; have := HWk.out.ld; omega)]; exact c1
              have HWk2 := Lib.hid hwk2
              have HRk2 := Lib.hid hrk2
              have HK2 := Lib.hid (HKk.out.trans' hk2 (bad := fun _ => False) (fun i hi e => by have := HWk.out.ld; omega))
              have hz2 := hk2.size
              have B1 := Lib.hid b1
              have B2 := Lib.hid b2
              clear hwk2 hrk2 hk2 b1 b2 hg c0 c1
              go_wp2_with fail
              have HC := Lib.hid (kind_own true w2)
              refine HC.out.mono ?_
              rintro e w3 ⟨rfl, rfl⟩
              go_wp2_with fail
              refine (rbegin_pop rd rc d w3 (nx : Int) (by have h := HRk2.out.at_; rw [HRk2.out.ow0 HE.out] at h; exact h)).mono ?_
              rintro e w4 ⟨⟨ro, rfl, hro, hroa⟩, hrq, hk4⟩
              have hwk4 := HWk2.out.kp hk4 (fun i _ e => .inr (by rw [e]; exact ⟨_, _, HRk2.out.at_.hdr, by decide, by decide, by decide⟩))
              have hrk4 := HRk2.out.begun HE.out (K := 1) (o := opPop) (ow' := 1) (by simp; try omega) (by simp; try omega) (by simp [opPush, opPop, opSteal]) (by omega) hrq hk4 hro hroa wr.heap.size
              have b1 := B1.out.kp hk4 (Blk.ne_ B1.out HRk2.out.at_.hdr (by decide))
              have b2 := B2.out.kp hk4 (Blk.ne_ B2.out HRk2.out.at_.hdr (by decide))
              obtain ⟨v1, hv1⟩ : ∃ v, vs[0]? = some v := ⟨_, List.getElem?_eq_getElem (by have := HV7.out; omega)⟩
              have q1 := b1.get 0 (v := v1) (by simp [hv1])
              have hrn := HRk.out.none_ 0 HE.out
              have q2 := b2.get 0 (v := .pointer none) (by simp [hrn, rptr])
              have z1 := b1.frozen 0
              have z2 := b2.frozen 0
              have l1 := b1.lt
              have l2 := b2.lt
              have HWk4 := Lib.hid hwk4
              have HRk4 := Lib.hid hrk4
              have HK4 := Lib.hid (HK2.out.trans' hk4 (bad := fun _ => False) (fun i hi e => by have := HRk.out.ld; omega))
              have C1 := Lib.hid b1
              have C2 := Lib.hid b2
              clear hwk4 hrk4 hk4 b1 b2 hrq hroa hv1 hrn
              go_wp2_with fail
              go_roundw
              case rel =>
                refine ⟨k + 1, nx + 1, d, (.pointer (some ⟨wr.heap.size, 0, none⟩)), opPop, hs.set 0 (some (wr.heap.size, opPop)), rs.set 0 (some ro), vs.set 0 (.pointer (some ⟨wr.heap.size, 0, none⟩)), 1, by omega, by go_num, by go_num, Lib.hid ?_⟩
                have HKX := ((Kp.refl (fun i => i = gO ∨ i = gR) w4).setCell (p := ⟨gO, 0, none⟩) (.inl (.inl rfl)) (.pointer (some ⟨wr.heap.size, 0, none⟩))).setCell (p := ⟨gR, 0, none⟩) (.inl (.inr rfl)) (.pointer (some ⟨ro, 0, none⟩))
                refine ⟨HWk4.out.kp HKX ?_, HRk4.out.kp HKX ?_, by omega, hsn, by simp [H7.out], by simp [HV7.out], ?_, ?_, fun i g' h' e => ?_, HK4.out.trans' HKX (fun i h e => by have := HGO.out; omega)⟩
                · intro i _ hbad
                  rcases hbad with x | x
                  · rw [x]; exact .inr ⟨_, _, C1.out, by decide, by decide, by decide⟩
                  · rw [x]; exact .inr ⟨_, _, C2.out, by decide, by decide, by decide⟩
                · intro i _ hbad
                  rcases hbad with x | x
                  · rw [x]; exact .inr ⟨_, _, C1.out, by decide, by decide, by decide⟩
                  · rw [x]; exact .inr ⟨_, _, C2.out, by decide, by decide, by decide⟩
                · exact Blk.conv ((C1.out.set_ 0 _).far (p := ⟨gR, 0, none⟩) hgne _) (by simp)
                · exact Blk.conv ((C2.out.far (p := ⟨gO, 0, none⟩) hgne2 _).set_ 0 _) (by simp [rptr, List.map_set])
                · by_cases hj : i = 0
                  · rw [hj] at e ⊢
                    rw [List.getElem?_set_self (by have := H7.out; omega)] at e
                    injection e with e
                    injection e with e
                    injection e with e1 e2
                    rw [List.getElem?_set_self (by have := HV7.out; omega), e1]
                  · rw [List.getElem?_set_ne (Ne.symm hj)] at e ⊢
                    exact HVh.out i g' h' e
              case measure => simp [intOf]; omega
          · skip
            have HB := Lib.hid (begin_steal gd gc d own wr HWk.out.at_ hpos wi hp mp (nx : Int))
            go_wp2_with fail
            refine HB.out.mono ?_
            intro e w2 hbe
            have hwk2 := HWk.out.begun_th hp HE.out hbe hsz
            obtain ⟨he1, _, _, hk2⟩ := hbe
            subst he1
            obtain ⟨g, hg⟩ : ∃ g, g = wr.heap.size := ⟨_, rfl⟩
            have hrk2 := HRk.out.kp hk2 (fun i _ e => .inr (by rw [e]; exact ⟨_, _, HWk.out.at_.hdr, by decide, by decide, by decide⟩))
            have b1 := HBo.out.kp hk2 (Blk.ne_ HBo.out HWk.out.at_.hdr (by decide))
            have b2 := HBr.out.kp hk2 (Blk.ne_ HBr.out HWk.out.at_.hdr (by decide))
            have ca : w2.cell? (ad.add (k * 2)) = some (.int .u8 mw) := by
              rw [hk2.cell (by rw [block_of_add]; omega) (by rw [block_of_add]; have := HWk.out.ld; omega)]; exact c0
            have cb : w2.cell? ⟨ad.block, (ad.add (k * 2)).off + 1, none⟩ = some (.bool mp) := by
              rw [hk2.cell (by dsimp only; omega) (by dsimp only; have := HWk.out.ld; omega)]; exact c1
            have HWk2 := Lib.hid hwk2
            have HRk2 := Lib.hid hrk2
            have HK2 := Lib.hid (HKk.out.trans' hk2 (bad := fun _ => False) (fun i hi e => by have := HWk.out.ld; omega))
            have hz2 := hk2.size
            have B1 := Lib.hid b1
            have B2 := Lib.hid b2
            clear hwk2 hrk2 hk2 b1 b2 hg c0 c1
            go_wp2_with fail
            have HC := Lib.hid (kind_th wi hp mp w2)
            refine HC.out.mono ?_
            rintro e w3 ⟨rfl, rfl⟩
            go_wp2_with fail
            refine (rbegin_steal rd rc d w3 (nx : Int) ow HRk2.out.at_).mono ?_
            rintro e w4 ⟨⟨ro, rfl, hro, hroa⟩, hrq, hk4⟩
            have hwk4 := HWk2.out.kp hk4 (fun i _ e => .inr (by rw [e]; exact ⟨_, _, HRk2.out.at_.hdr, by decide, by decide, by decide⟩))
            have hrk4 := HRk2.out.begun HE.out (K := 2) (o := opSteal) (ow' := ow) (by simp; try omega) (by simp; try omega) (by simp [opPush, opPop, opSteal]) (by omega) hrq hk4 hro hroa wr.heap.size
            have b1 := B1.out.kp hk4 (Blk.ne_ B1.out HRk2.out.at_.hdr (by decide))
            have b2 := B2.out.kp hk4 (Blk.ne_ B2.out HRk2.out.at_.hdr (by decide))
            obtain ⟨v1, hv1⟩ : ∃ v, vs[wi]? = some v := ⟨_, List.getElem?_eq_getElem (by have := HV7.out; omega)⟩
            have q1 := b1.get wi (v := v1) (by simp [hv1])
            have hrn := HRk.out.none_ wi HE.out
            have q2 := b2.get wi (v := .pointer none) (by simp [hrn, rptr])
            have z1 := b1.frozen wi
            have z2 := b2.frozen wi
            have l1 := b1.lt
            have l2 := b2.lt
            have HWk4 := Lib.hid hwk4
            have HRk4 := Lib.hid hrk4
            have HK4 := Lib.hid (HK2.out.trans' hk4 (bad := fun _ => False) (fun i hi e => by have := HRk.out.ld; omega))
            have C1 := Lib.hid b1
            have C2 := Lib.hid b2
            clear hwk4 hrk4 hk4 b1 b2 hrq hroa hv1 hrn
            go_wp2_with fail
            go_roundw
            case rel =>
              refine ⟨k + 1, nx + 1, d, own, o, hs.set wi (some (wr.heap.size, opSteal)), rs.set wi (some ro), vs.set wi (.pointer (some ⟨wr.heap.size, 0, none⟩)), ow, by omega, by go_num, by go_num, Lib.hid ?_⟩
              have HKX := ((Kp.refl (fun i => i = gO ∨ i = gR) w4).setCell (p := ⟨gO, wi, none⟩) (.inl (.inl rfl)) (.pointer (some ⟨wr.heap.size, 0, none⟩))).setCell (p := ⟨gR, wi, none⟩) (.inl (.inr rfl)) (.pointer (some ⟨ro, 0, none⟩))
              refine ⟨HWk4.out.kp HKX ?_, HRk4.out.kp HKX ?_, by omega, hsn, by simp [H7.out], by simp [HV7.out], ?_, ?_, fun i g' h' e => ?_, HK4.out.trans' HKX (fun i h e => by have := HGO.out; omega)⟩
              · intro i _ hbad
                rcases hbad with x | x
                · rw [x]; exact .inr ⟨_, _, C1.out, by decide, by decide, by decide⟩
                · rw [x]; exact .inr ⟨_, _, C2.out, by decide, by decide, by decide⟩
              · intro i _ hbad
                rcases hbad with x | x
                · rw [x]; exact .inr ⟨_, _, C1.out, by decide, by decide, by decide⟩
                · rw [x]; exact .inr ⟨_, _, C2.out, by decide, by decide, by decide⟩
              · exact Blk.conv ((C1.out.set_ wi _).far (p := ⟨gR, wi, none⟩) hgne _) (by simp)
              · exact Blk.conv ((C2.out.far (p := ⟨gO, wi, none⟩) hgne2 _).set_ wi _) (by simp [rptr, List.map_set])
              · by_cases hj : i = wi
                · rw [hj] at e ⊢
                  rw [List.getElem?_set_self (by have := H7.out; omega)] at e
                  injection e with e
                  injection e with e
                  injection e with e1 e2
                  rw [List.getElem?_set_self (by have := HV7.out; omega), e1]
                · rw [List.getElem?_set_ne (Ne.symm hj)] at e ⊢
                  exact HVh.out i g' h' e
            case measure => simp [intOf]; omega
        · obtain ⟨r, K, hr1, hr2, _, _, hroa, hpc⟩ := HRk.out.some_ wi g h HE.out
          have co : wr.cell? ⟨gR, wi, none⟩ = some (.pointer (some ⟨r, 0, none⟩)) := HBr.out.get wi (by simp [hr1, rptr])
          have co2 : wr.cell? ⟨gO, wi, none⟩ = some (.pointer (some ⟨g, 0, none⟩)) := HBo.out.get wi (by simp [HVh.out wi g h HE.out])
          have HR1 := Lib.hid hr1
          have hx := HWk.out.each wi g h HE.out
          have hcan : Can d h := by
            rcases Nat.eq_zero_or_pos wi with hz | hp
            · subst hz
              obtain ⟨_, rfl⟩ := HWk.out.own1 g h HE.out
              exact own_can HWk.out.ok HWk.out.bd hx.bo (by omega) (by omega)
            · exact th_can HWk.out.ok (hx.th hp).2 HWk.out.bd hx.bo (by omega) (by omega)
          have hbd := HWk.out.bd
          have HS := Lib.hid (fun W (hW : Kp (fun _ => False) wr W) => (HWk.out.kp hW (fun g _ h => h.elim)).step (by omega) (by omega) HE.out hpc)
          have HRS0 := Lib.hid (fun W (hW : Kp (fun k => k = gc ∨ k = g) wr W) => (HRk.out.kp hW (fun i _ e => by
            rcases e with e | e
            · exact .inr (by rw [e]; exact ⟨_, _, HWk.out.at_.cel, by decide, by decide, by decide⟩)
            · exact .inr (by rw [e]; exact ⟨_, _, hx.at_, by decide, by decide, by decide⟩))).step HE.out HR1.out hcan (by have := hbd.b0; omega) (by have := hbd.b1; omega))
          have hsl2 : (dstep d h).1.sl.length = n := by rw [step_len]; exact hsn
          have HX := Lib.hid hx
          have HPB : Hid (wi = 0 → Calls Try.prog 14 #[.pointer (some ⟨gd, 0, none⟩)] wr fun e w' => e = .returned (.tuple #[.pointer none, .int .i64 3]) ∧ w' = wr) := Lib.hid (fun hz => by
            subst hz
            obtain ⟨ho, rfl⟩ := HWk.out.own1 g h HE.out
            have ha := HWk.out.at_
            rw [ho] at ha
            exact pop_busy gd gc g d h wr ha hpos hx.at_ hpc (by have := hcan.pc; omega))
          have HRS : Hid (∀ W, Kp (fun k => k = gc ∨ k = g) wr W → Calls Try.prog 16 #[.pointer (some ⟨r, 0, none⟩)] W fun e w' => e = .returned (.agg #[.int .u8 (dstep d h).2.2.1, .int .i64 (dstep d h).2.2.2]) ∧ (∃ K, RoAt w' r rd K (dstep d h).2.1) ∧ (∃ ow', RqAt w' rd rc (dstep d h).1 ow') ∧ (1 ≤ (dstep d h).2.1.pc → Rk w' rd rc w.heap.size (dstep d h).1 (hs.set wi (some (g, (dstep d h).2.1))) rs ow) ∧ ((dstep d h).2.1.pc = 0 → ∃ ow', Rk w' rd rc w.heap.size (dstep d h).1 (hs.set wi none) (rs.set wi none) ow') ∧ Kp (fun k => k = rc ∨ k = r ∨ k = rd) W w') :=
            Lib.hid (fun W hW => (HRS0.out W hW).mono fun e w' x => ⟨x.he, x.ro, x.rq, x.go, x.dn, x.hk⟩)
          have nA : ¬ (gO = gc ∨ gO = g) := fun x => x.elim (Blk.ne_ HBo.out HWk.out.at_.cel (by decide)) (Blk.ne_ HBo.out hx.at_ (by decide))
          have nB : ¬ (gR = gc ∨ gR = g) := fun x => x.elim (Blk.ne_ HBr.out HWk.out.at_.cel (by decide)) (Blk.ne_ HBr.out hx.at_ (by decide))
          obtain ⟨yr, hyr⟩ := hroa.blk
          have nC : ¬ (gO = rc ∨ gO = r ∨ gO = rd) := fun x => x.elim (Blk.ne_ HBo.out HRk.out.at_.cel (by decide)) (fun x => x.elim (Blk.ne_ HBo.out hyr (by decide)) (Blk.ne_ HBo.out HRk.out.at_.hdr (by decide)))
          have nD : ¬ (gR = rc ∨ gR = r ∨ gR = rd) := fun x => x.elim (Blk.ne_ HBr.out HRk.out.at_.cel (by decide)) (fun x => x.elim (Blk.ne_ HBr.out hyr (by decide)) (Blk.ne_ HBr.out HRk.out.at_.hdr (by decide)))
          have nE : ∀ i, (i = rc ∨ i = r ∨ i = rd) → ∃ t cs, Blk wr i t cs ∧ t ≠ 60 ∧ t ≠ 73 ∧ t ≠ 67 ∧ i ≠ gc ∧ i ≠ g := fun i e => by
            rcases e with e | e | e
            · rw [e]; exact ⟨_, _, HRk.out.at_.cel, by decide, by decide, by decide, Blk.ne_ HRk.out.at_.cel HWk.out.at_.cel (by decide), Blk.ne_ HRk.out.at_.cel hx.at_ (by decide)⟩
            · rw [e]; exact ⟨_, _, hyr, by decide, by decide, by decide, Blk.ne_ hyr HWk.out.at_.cel (by decide), Blk.ne_ hyr hx.at_ (by decide)⟩
            · rw [e]; exact ⟨_, _, HRk.out.at_.hdr, by decide, by decide, by decide, Blk.ne_ HRk.out.at_.hdr HWk.out.at_.cel (by decide), Blk.ne_ HRk.out.at_.hdr hx.at_ (by decide)⟩
          have NA := Lib.hid nA
          have NB := Lib.hid nB
          have NC := Lib.hid nC
          have ND := Lib.hid nD
          have NE := Lib.hid nE
          have HBS := Lib.hid hr2
          clear hr1 hroa hx hcan hbd hr2 hyr nA nB nC nD nE HRS0
          generalize dstep d h = st at HS HRS hsl2
          obtain ⟨d2, h2, a1, a2⟩ := st
          dsimp only at HS HRS hsl2
          go_upto_if 113 with (fail)
          go_cut [] from 52 to 168 (fun wx => wr = wx)
          case first =>
            by_cases hz : wi = 0
            · have e0 : ((wi : Int) == 0) = true := beq_iff_eq.2 (by omega)
              have e1 : decide (wi = 0) = true := decide_eq_true hz
              have HZ := Lib.hid hz
              clear hz
              go_wp2_with fail
              refine (HPB.out HZ.out).mono ?_
              rintro e w9 ⟨rfl, rfl⟩
              go_wp2_with fail
              go_meet
              case rel => rfl
            · have e0 : ((wi : Int) == 0) = false := beq_eq_false_iff_ne.2 (by omega)
              have e1 : decide (wi = 0) = false := decide_eq_false hz
              clear hz
              go_wp2_with fail
              go_meet
              case rel => rfl
          case rest =>
            subst hcut
            go_wp2_with fail
            refine wp_region_held_drew (S := fun W => W.cell? ⟨gO, wi, none⟩ = some (.pointer (some ⟨g, 0, none⟩)) ∧ W.cell? ⟨gR, wi, none⟩ = some (.pointer (some ⟨r, 0, none⟩))) (by kernel_rfl) ⟨co2, co⟩ (fun hS => ?_)
            refine wpAnyH_take (i := 0) (v := ?_) rfl (by kernel_rfl) (by kernel_rfl) (by kernel_rfl) (fun _ _ _ h => h) (Or.inl ⟨by rfl, ?_⟩) hS ?_
            rotate_left
            · intro W' hS'
              go_simp
              rfl
            try simp only [Act.put, List.setIfInBounds_toArray, List.set_cons_zero, List.set_cons_succ, List.getElem_toArray, List.getElem_cons_zero, List.getElem_cons_succ]
            refine wpAnyH_take (i := 1) (v := ?_) rfl (by kernel_rfl) (by kernel_rfl) (by kernel_rfl) (fun _ _ _ h => h) (Or.inl ⟨by rfl, ?_⟩) hS ?_
            rotate_left
            · intro W' hS'
              go_simp
              rfl
            try simp only [Act.put, List.setIfInBounds_toArray, List.set_cons_zero, List.set_cons_succ, List.getElem_toArray, List.getElem_cons_zero, List.getElem_cons_succ]
            refine wpAnyH_take (i := 2) (v := ?_) rfl (by kernel_rfl) (by kernel_rfl) (by kernel_rfl) (fun _ _ _ h => h) (Or.inl ⟨by rfl, ?_⟩) hS ?_
            rotate_left
            · intro W' hS'
              go_simp
              rfl
            try simp only [Act.put, List.setIfInBounds_toArray, List.set_cons_zero, List.set_cons_succ, List.getElem_toArray, List.getElem_cons_zero, List.getElem_cons_succ]
            refine wpAnyH_take (i := 3) (v := ?_) rfl (by kernel_rfl) (by kernel_rfl) (by kernel_rfl) (fun _ _ _ h => h) (Or.inl ⟨by rfl, ?_⟩) hS ?_
            rotate_left
            · intro W' hS'
              go_simp
              rfl
            try simp only [Act.put, List.setIfInBounds_toArray, List.set_cons_zero, List.set_cons_succ, List.getElem_toArray, List.getElem_cons_zero, List.getElem_cons_succ]
            refine wpAnyH_take (i := 5) (v := ?_) rfl (by kernel_rfl) (by kernel_rfl) (by kernel_rfl) (fun _ _ _ h => h) (Or.inl ⟨by rfl, ?_⟩) hS ?_
            rotate_left
            · intro W' hS'
              go_simp
              rfl
            try simp only [Act.put, List.setIfInBounds_toArray, List.set_cons_zero, List.set_cons_succ, List.getElem_toArray, List.getElem_cons_zero, List.getElem_cons_succ]
            refine wpAnyH_take (i := 6) (v := ?_) rfl (by kernel_rfl) (by kernel_rfl) (by kernel_rfl) (fun _ _ _ h => h) (Or.inl ⟨by rfl, ?_⟩) hS ?_
            rotate_left
            · intro W' hS'
              go_simp
              rfl
            try simp only [Act.put, List.setIfInBounds_toArray, List.set_cons_zero, List.set_cons_succ, List.getElem_toArray, List.getElem_cons_zero, List.getElem_cons_succ]
            refine wpAnyH_take (i := 7) (v := ?_) rfl (by kernel_rfl) (by kernel_rfl) (by kernel_rfl) (fun _ _ _ h => h) (Or.inl ⟨by rfl, ?_⟩) hS ?_
            rotate_left
            · intro W' hS'
              go_simp
              rfl
            try simp only [Act.put, List.setIfInBounds_toArray, List.set_cons_zero, List.set_cons_succ, List.getElem_toArray, List.getElem_cons_zero, List.getElem_cons_succ]
            refine wpAnyH_take (i := 8) (v := ?_) rfl (by kernel_rfl) (by kernel_rfl) (by kernel_rfl) (fun _ _ _ h => h) (Or.inl ⟨by rfl, ?_⟩) hS ?_
            rotate_left
            · intro W' hS'
              go_simp
              rfl
            try simp only [Act.put, List.setIfInBounds_toArray, List.set_cons_zero, List.set_cons_succ, List.getElem_toArray, List.getElem_cons_zero, List.getElem_cons_succ]
            refine wpAnyH_ready (rs := [4]) (by kernel_rfl) (by simp) (AllReadyH.cons rfl (fun K hK => ?_) AllReadyH.nil)
            go_simp
            refine (HS.out _ ((Kp.refl _ _).drew)).mono ?_
            rintro e w2 ⟨rfl, hwk2, htl, hk2⟩
            refine hK.out _ _ ⟨(hk2.cell (p := ⟨gO, wi, none⟩) lO NA.out).trans co2, (hk2.cell (p := ⟨gR, wi, none⟩) lR NB.out).trans co⟩ (fun hS => ?_)
            try simp only [Act.put, List.setIfInBounds_toArray, List.set_cons_zero, List.set_cons_succ, List.getElem_toArray, List.getElem_cons_zero, List.getElem_cons_succ]
            clear hK
            refine wpAnyH_ready (rs := [9]) (by kernel_rfl) (by simp) (AllReadyH.cons rfl (fun K hK => ?_) AllReadyH.nil)
            go_simp
            refine (HRS.out _ (((Kp.refl _ _).drew).trans hk2)).mono ?_
            rintro e w3 ⟨rfl, hro, hrq, hgo, hdn, hk3⟩
            refine hK.out _ _ ⟨(hk3.cell (p := ⟨gO, wi, none⟩) (Nat.lt_of_lt_of_le lO hk2.size) NC.out).trans hS.1, (hk3.cell (p := ⟨gR, wi, none⟩) (Nat.lt_of_lt_of_le lR hk2.size) ND.out).trans hS.2⟩ (fun hS => ?_)
            try simp only [Act.put, List.setIfInBounds_toArray, List.set_cons_zero, List.set_cons_succ, List.getElem_toArray, List.getElem_cons_zero, List.getElem_cons_succ]
            clear hK
            refine wpAnyH_take (i := 10) (v := ?_) rfl (by kernel_rfl) (by kernel_rfl) (by kernel_rfl) (fun _ _ _ h => h) (Or.inl ⟨by rfl, ?_⟩) hS ?_
            rotate_left
            · intro W' hS'
              go_simp
              rfl
            try simp only [Act.put, List.setIfInBounds_toArray, List.set_cons_zero, List.set_cons_succ, List.getElem_toArray, List.getElem_cons_zero, List.getElem_cons_succ]
            refine wpAnyH_done (by kernel_rfl) ?_ _
            skip
            have hk13 : Kp (fun k => k = gc ∨ k = g) wr w2 := ((Kp.refl _ _).drew).trans hk2
            have HS1 := Lib.hid hS.1
            have HS2 := Lib.hid hS.2
            have HWk3 := Lib.hid (hwk2.kp hk3 (fun i hi e => by
              obtain ⟨t, cs, x1, x2, x3, x4, x5, x6⟩ := NE.out i e
              exact .inr ⟨t, cs, x1.kp hk13 (fun y : _ ∨ _ => y.elim x5 x6), x2, x3, x4⟩))
            have HK3 : Hid (Kp (fun _ => False) w w3) := Lib.hid ((HKk.out.trans' hk13 (fun i hi e => by
              have := HWk.out.lc
              have := (HX.out).base
              omega)).trans' hk3 (fun i hi e => by
              have := HRk.out.lc
              have := HRk.out.ld
              have := HBS.out
              have := HKk.out.size
              have := hk13.size
              omega))
            have HO3 := Lib.hid (HWk3.out.each wi g h2 (List.getElem?_set_self (by have := H7.out; omega))).at_
            have BO3 := Lib.hid ((HBo.out.kp hk13 NA.out).kp hk3 NC.out)
            have BR3 := Lib.hid ((HBr.out.kp hk13 NB.out).kp hk3 ND.out)
            obtain ⟨Kr, hro⟩ := hro
            obtain ⟨ow3, hrq⟩ := hrq
            have HRo := Lib.hid hro
            have HRq := Lib.hid hrq
            have HGo := Lib.hid hgo
            have HDn := Lib.hid hdn
            have hbd := HWk3.out.bd
            have t0 := hbd.t0
            have t1 := hbd.t1
            have b1 := hbd.b1
            have hle := HWk3.out.ok.len
            have hpos2 := HWk3.out.ok.n
            have hTl : d2.tasks.length ≤ n := by rw [tasks_len]; unfold Dq.tasksN; omega
            have HTa : Hid (∀ W, Kp (fun _ => False) w3 W → Calls Try.prog 20 #[.pointer (some ⟨gd, 0, none⟩)] W fun e w' => ∃ A c, e = .returned (.slice A d2.tasks.length c) ∧ Reads w' w'.heap.size 1 A d2.tasks.length (ints d2.tasks) ∧ Below W.heap.size W w') :=
              Lib.hid (fun W hW => (tasks_any gd gc d2 own W (HWk3.out.at_.kp hW id id) hpos2 (by omega) t0 (by omega) (by omega)).mono fun e w' ⟨A, c, h1, h2, h3⟩ => ⟨A, c, h1, Reads.of_own h2, h3⟩)
            have HTb : Hid (∀ W, Kp (fun _ => False) w3 W → Calls Try.prog 21 #[.pointer (some ⟨rd, 0, none⟩)] W fun e w' => ∃ A c, e = .returned (.slice A d2.tasks.length c) ∧ Reads w' w'.heap.size 1 A d2.tasks.length (ints d2.tasks) ∧ Below W.heap.size W w') :=
              Lib.hid (fun W hW => (rtasks_any rd rc d2 ow3 W (HRq.out.kp hW id id) hpos2 (by omega) t0 (by omega) (by omega)).mono fun e w' ⟨A, c, h1, h2, h3⟩ => ⟨A, c, h1, Reads.of_own h2, h3⟩)
            obtain ⟨L, hL⟩ : ∃ L, L = d2.tasks := ⟨_, rfl⟩
            rw [← hL] at HTa HTb hTl
            obtain ⟨H, hH⟩ : ∃ H, H = (told h2).1 := ⟨_, rfl⟩
            obtain ⟨X, hX⟩ : ∃ X, X = (told h2).2 := ⟨_, rfl⟩
            have HDD : Hid (h2.pc = 0 ↔ H ≠ 0) := Lib.hid (by rw [hH]; exact htl.done)
            have HTO : Hid (∀ W, Kp (fun _ => False) w3 W → Calls Try.prog 17 #[.pointer (some ⟨g, 0, none⟩)] W fun e w' => e = .returned (.tuple #[.int .u8 (H : Int), .int .i64 X]) ∧ Kp (fun _ => False) W w') := Lib.hid (fun W hW => by rw [hH, hX]; exact told_any g gd h2 W (Blk.kp HO3.out hW id))
            have HTR : Hid (∀ W, Kp (fun _ => False) w3 W → Calls Try.prog 18 #[.pointer (some ⟨r, 0, none⟩)] W fun e w' => e = .returned (.tuple #[.int .u8 (H : Int), .int .i64 X]) ∧ Kp (fun _ => False) W w') := Lib.hid (fun W hW => by rw [hH, hX]; exact rtold_any r rd Kr h2 W (HRo.out.kp hW id))
            have q1 := HS1.out
            have l1 := BO3.out.lt
            have l2 := BR3.out.lt
            clear hS hwk2 htl hk2 hro hrq hgo hdn hk3 hk13 hbd t0 t1 b1 hle hpos2 hL hH hX co co2 c0 c1 HPB HS HRS
            go_wp2_with fail
            refine (HTO.out _ (Kp.refl _ _)).mono ?_
            rintro e w4 ⟨rfl, hk4⟩
            have K4 := Lib.hid hk4
            have q2 : w4.cell? ⟨gR, wi, none⟩ = some (.pointer (some ⟨r, 0, none⟩)) := (hk4.cell l2 id).trans HS2.out
            clear hk4 q1
            go_wp2_with fail
            refine (HTR.out _ K4.out).mono ?_
            rintro e w5 ⟨rfl, hk5⟩
            have K5 := Lib.hid (K4.out.trans hk5)
            clear hk5 q2
            go_wp2_with fail
            refine (HTa.out _ K5.out).mono ?_
            rintro e w6 ⟨A6, c6, rfl, hr6, hb6⟩
            have R6 := Lib.hid hr6
            have K6 := Lib.hid (K5.out.trans (Kp.of_below hb6 _))
            clear hr6 hb6
            go_wp2_with fail
            refine (HTb.out _ K6.out).mono ?_
            rintro e w7 ⟨A7, c7, rfl, hr7, hb7⟩
            have R7 := Lib.hid hr7
            have R67 := Lib.hid ((R6.out.below hb7).more hb7.size)
            have K7 := Lib.hid (K6.out.trans (Kp.of_below hb7 _))
            have HSM : Hid (Calls Try.prog 19 #[.slice A6 L.length c6, .slice A7 L.length c7] w7 fun e w' => e = .returned (.bool true) ∧ Kp (fun _ => False) w7 w') := Lib.hid ((same_any L L A6 A7 c6 c7 w7 (by omega) (by omega) R67.out R7.out).mono fun e w' ⟨h1, n9, h2⟩ => ⟨by rw [h1]; simp, by rw [h2]; exact (Kp.refl _ _).drewN _⟩)
            clear hr7 hb7
            go_wp2_with fail
            refine HSM.out.mono ?_
            rintro e w8 ⟨rfl, hk8⟩
            have K8 := Lib.hid (K7.out.trans hk8)
            have C1 := Lib.hid (BO3.out.kp K8.out id)
            have C2 := Lib.hid (BR3.out.kp K8.out id)
            have s1 := C2.out.frozen wi
            have s2 := C2.out.lt
            have s3 : w8.cell? ⟨gR, wi, none⟩ = some (.pointer (some ⟨r, 0, none⟩)) := (K8.out.cell l2 id).trans HS2.out
            clear hk8
            by_cases h0 : H = 0
            · have f0 : ((H : Int) == 0) = true := beq_iff_eq.2 (by omega)
              have f0' : ((H : Int) != 0) = false := by rw [bne, f0]; rfl
              have HH0 := Lib.hid h0
              clear h0
              go_wp2_with fail
              go_roundw
              case rel =>
                have hpc2 : 1 ≤ h2.pc := by have := HDD.out; have := HH0.out; omega
                refine ⟨k + 1, nx, d2, own, _, hs.set wi (some (g, h2)), rs, vs, ow, by omega, rfl, by go_num, Lib.hid ⟨HWk3.out.kp K8.out (fun i _ h => h.elim), (HGo.out hpc2).kp K8.out (fun i _ h => h.elim), by omega, hsl2, by simp [H7.out], HV7.out, C1.out, C2.out, fun i g' h' e => ?_, HK3.out.trans K8.out⟩⟩
                by_cases hj : i = wi
                · subst hj
                  rw [List.getElem?_set_self (by have := H7.out; omega)] at e
                  injection e with e
                  injection e with e
                  injection e with e1 e2
                  subst e1
                  exact HVh.out i g h HE.out
                · rw [List.getElem?_set_ne (Ne.symm hj)] at e
                  exact HVh.out i g' h' e
              case measure => simp [intOf]; omega
            · have f0 : ((H : Int) == 0) = false := beq_eq_false_iff_ne.2 (by omega)
              have f0' : ((H : Int) != 0) = true := by rw [bne, f0]; rfl
              have HH0 := Lib.hid h0
              clear h0
              go_wp2_with fail
              go_roundw
              case rel =>
                have hpc2 : h2.pc = 0 := HDD.out.2 HH0.out
                obtain ⟨ow9, hrk9⟩ := HDn.out hpc2
                have hdr := HWk3.out.drop (i := wi) (g := g) (h := h2) (List.getElem?_set_self (by have := H7.out; omega)) hpc2
                rw [List.set_set] at hdr
                have HKX := K8.out.mono (bad' := fun i => i = gR) (fun k h => h.elim)
                have HKY := HKX.setCell (p := ⟨gR, wi, none⟩) (.inl rfl) (.pointer none)
                refine ⟨k + 1, nx, d2, own, (if wi = 0 then h2 else o), hs.set wi none, rs.set wi none, vs, ow9, by omega, rfl, by go_num, Lib.hid ⟨hdr.kp HKY ?_, hrk9.kp HKY ?_, by omega, hsl2, by simp [H7.out], HV7.out, C1.out.far (p := ⟨gR, wi, none⟩) hgne _, ?_, fun i g' h' e => ?_, HK3.out.trans' HKY (fun i h e => by have := HGO.out; omega)⟩⟩
                · intro i _ hbad
                  rw [hbad]; exact .inr ⟨_, _, BR3.out, by decide, by decide, by decide⟩
                · intro i _ hbad
                  rw [hbad]; exact .inr ⟨_, _, BR3.out, by decide, by decide, by decide⟩
                · exact Blk.conv (C2.out.set_ wi _) (by simp [rptr, List.map_set])
                · by_cases hj : i = wi
                  · subst hj
                    rw [List.getElem?_set_self (by have := H7.out; omega)] at e
                    injection e with e
                    cases e
                  · rw [List.getElem?_set_ne (Ne.symm hj)] at e
                    exact HVh.out i g' h' e
              case measure => simp [intOf]; omega
        
      · obtain rfl : k = l.length := by omega
        have hd1 : decide ((l.length : Int) < (l.length : Int)) = false := decide_eq_false (by omega)
        have HK9 := Lib.hid HP.out.kk
        clear hlt
        go_wp2_with fail
        refine (HW.out _).mono ?_
        rintro e w6 ⟨rfl, hk6⟩
        have K6 := Lib.hid hk6
        clear hk6
        go_wp2_with fail
        go_ret
        exact ⟨rfl, HK9.out.trans K6.out⟩
end Go.Proofs.Ytdigjppdgiapfaa
