/- Contracts: lay of flow's walk. -/
import Derived.Test.YtlebbkhhhmempaaFp
import Derived.Test.YtlebbkhhhmempaaFq
import Derived.Test.YtlebbkhhhmempaaTrk
set_option linter.unusedSimpArgs false
set_option linter.unusedVariables false
namespace Go.Proofs.Ytlebbkhhhmempaa
open Go.RowKit
attribute [local go_sem] block_of_add
def lwC (A A2 uA hA : Option Addr) (n c m c2 un uc hn hc : Nat) (view : Int) (kv sv : Value) : Array Value := #[.slice A n c, .slice A2 m c2, .int .i64 view, .int .i64 0, .slice uA un uc, .slice hA hn hc, kv, sv, .int .i64 0, .int .i64 0, .int .i64 0, .slice none 0 0, .slice none 0 0]
def lieF (l : List Nd) (j : Nat) : List Bool := (List.range l.length).map fun i => if i = 0 then true else if i ≤ j then !rootF l i else false
theorem lieF_len (l : List Nd) (j : Nat) : (lieF l j).length = l.length := by simp [lieF]
theorem lieF_at (l : List Nd) (j i : Nat) (h : i < l.length) : (lieF l j)[i]? = some (if i = 0 then true else if i ≤ j then !rootF l i else false) := by simp [lieF, h]
theorem lieF_none (l : List Nd) (j i : Nat) (h : ¬ i < l.length) : (lieF l j)[i]? = none := List.getElem?_eq_none (by rw [lieF_len]; omega)
theorem lieF_set (l : List Nd) (j : Nat) (h : j + 1 < l.length) : (lieF l j).set (j + 1) (!rootF l (j + 1)) = lieF l (j + 1) := by
  apply List.ext_getElem?
  intro i
  rw [List.getElem?_set]
  by_cases hi : i < l.length
  · rw [lieF_at l (j + 1) i hi]
    by_cases e : j + 1 = i
    · subst e; rw [if_pos rfl, if_pos (by rw [lieF_len]; exact h), if_neg (by omega), if_pos (by omega)]
    · rw [if_neg e, lieF_at l j i hi]
      by_cases h0 : i = 0
      · rw [if_pos h0, if_pos h0]
      · rw [if_neg h0, if_neg h0]
        by_cases h1 : i ≤ j
        · rw [if_pos h1, if_pos (by omega)]
        · rw [if_neg h1, if_neg (by omega)]
  · rw [lieF_none l (j + 1) i hi, if_neg (by omega), lieF_none l j i hi]
theorem lieF_0 (l : List Nd) : (List.replicate l.length false).set 0 true = lieF l 0 := by
  apply List.ext_getElem?
  intro i
  rw [List.getElem?_set]
  by_cases hi : i < l.length
  · rw [lieF_at l 0 i hi]
    by_cases e : 0 = i
    · subst e; rw [if_pos rfl, if_pos (by simpa using hi), if_pos rfl]
    · rw [if_neg e, if_neg (by omega), if_neg (by omega), List.getElem?_replicate, if_pos hi]
  · rw [lieF_none l 0 i hi]
    by_cases e : 0 = i
    · subst e; rw [if_pos rfl, if_neg (by simpa using hi)]
    · rw [if_neg e, List.getElem?_replicate, if_neg hi]
structure LyI (w : World) (n bw gk gs gl : Nat) (wc : Array Value) (vs : List Value) (bos : List Bool) (W : World) : Prop where
  wk : Blk W bw 107 wc
  k : Blk W gk 36 vs.toArray
  s : Blk W gs 114 (spsCells (List.replicate n sp0)).toArray
  b : Blk W gl 4 (boCells bos).toArray
  kp : Kp (fun b => b = bw) w W
  ge : bw < w.heap.size ∧ w.heap.size ≤ gk ∧ gk < gs ∧ gs < gl
theorem LyI.below {w : World} {n bw gk gs gl : Nat} {wc : Array Value} {vs : List Value} {bos : List Bool} {W W' : World} (h : LyI w n bw gk gs gl wc vs bos W) (hb : Below W.heap.size W W') : LyI w n bw gk gs gl wc vs bos W' :=
  ⟨h.wk.below hb h.wk.lt, h.k.below hb h.k.lt, h.s.below hb h.s.lt, h.b.below hb h.b.lt, h.kp.trans' (Kp.of_below hb (fun _ => False)) (fun _ _ h => h.elim), h.ge⟩
theorem LyI.lo {w : World} {n bw gk gs gl : Nat} {wc : Array Value} {vs : List Value} {bos : List Bool} {W : World} (h : LyI w n bw gk gs gl wc vs bos W) : Below bw w W := h.kp.below (fun b hb => by omega) (by have := h.ge; omega)
theorem LyI.setB {w : World} {n bw gk gs gl : Nat} {wc : Array Value} {vs : List Value} {bos : List Bool} {W : World} (h : LyI w n bw gk gs gl wc vs bos W) (i : Nat) (b : Bool) : LyI w n bw gk gs gl wc vs (bos.set i b) (W.setCell ⟨gl, i, none⟩ (.bool b)) :=
  ⟨h.wk.far (h.wk.ne_ h.b (by decide)) _, h.k.far (h.k.ne_ h.b (by decide)) _, h.s.far (h.s.ne_ h.b (by decide)) _, by rw [← bo_set]; exact h.b.set_ _ _, h.kp.setCell (p := ⟨gl, i, none⟩) (.inr (by have := h.ge; simp; omega)) _, h.ge⟩
theorem KInv.kept_set {l : List Nd} {base k : Nat} {vs : List Value} {W : World} (h : KInv l base k vs W) {g : Nat} (hg : g < base) (i : Nat) (v : Value) : KInv l base k vs (W.setCell ⟨g, i, none⟩ v) :=
  ⟨h.len, fun p hp => ownsRow_setCell_below (h.own p hp) (a := ⟨g, i, none⟩) hg v, h.ne⟩
section
variable (w : World) (l : List Nd) (A A2 uA hA Ab : Option Addr) (c m c2 un uc hn hc cb bw lo : Nat) (view : Int)
set_option maxRecDepth 100000 in
set_option maxHeartbeats 2000000 in
theorem lay_any (n : Nat) (hln : l.length = n + 1) (hn2 : l.length ≤ 4096) (hwb : Blk w bw 107 (lwC A A2 uA hA l.length c m c2 un uc hn hc view (.slice none 0 0) (.slice none 0 0))) (hlo : lo ≤ bw) (hr : Reads w lo 44 A l.length (ndsCells l)) (hbx : Reads w lo 1 Ab n ((List.range' 1 n).map fun (i : Nat) => Value.int .i64 i))
    (hs : ∀ x ∈ l, StyT x.s) (hpar : ∀ i (h : i < l.length), 0 < i → 0 ≤ l[i].parent ∧ l[i].parent < i) (hp0 : parF l 0 < 0) (hpf : ∀ i, 0 < i → i < l.length → parF l i = 0 ∨ rootF l (parF l i).toNat = false) :
    Calls Try.prog 41 #[.pointer (some ⟨bw, 0, none⟩), .slice Ab n cb] w fun e w' => (∃ v, e = .returned v) ∧ ∃ gk gs gl vs, LyI w l.length bw gk gs gl (lwC A A2 uA hA l.length c m c2 un uc hn hc view (.slice (some ⟨gk, 0, none⟩) l.length l.length) (.slice (some ⟨gs, 0, none⟩) l.length l.length)) vs (lieF l n) w' ∧ KInv l (gl + 1) l.length vs w' := by
  have hsz := hwb.lt
  have HWB := Lib.hid hwb
  have HR := Lib.hid hr
  have HBX := Lib.hid hbx
  have HS := Lib.hid hs
  have HPAR := Lib.hid hpar
  have HP0 := Lib.hid hp0
  have HPF := Lib.hid hpf
  have hmk1 : ∀ W : World, (Instr.makeSlice 34 (.int .i64 (l.length : Int)) (.int .i64 (l.length : Int))).run Try.prog W = .ok (.slice (some ⟨W.heap.size, 0, none⟩) l.length l.length) (W.alloc (.cells (nilRs l.length) 36)) := fun W => make_kds l.length (by omega) W
  have hmk2 : ∀ W : World, (Instr.makeSlice 104 (.int .i64 (l.length : Int)) (.int .i64 (l.length : Int))).run Try.prog W = .ok (.slice (some ⟨W.heap.size, 0, none⟩) l.length l.length) (W.alloc (.cells (spsCells (List.replicate l.length sp0)).toArray 114)) := fun W => make_spots l.length (by omega) W
  have hmk3 : ∀ W : World, (Instr.makeSlice 38 (.int .i64 (l.length : Int)) (.int .i64 (l.length : Int))).run Try.prog W = .ok (.slice (some ⟨W.heap.size, 0, none⟩) l.length l.length) (W.alloc (.cells (boCells (List.replicate l.length false)).toArray 4)) := fun W => make_bos l.length (by omega) W
  have c3 : w.cell? ⟨bw, 3, none⟩ = some (.int .i64 0) := hwb.get 3 rfl
  have HLN := Lib.hid hln
  have hl1 : 1 ≤ l.length := by omega
  clear hwb hr hbx hs hpar hp0 hpf hln
  go_enter Try.func41, Try.ntmps41
  go_wp2_with fail
  go_loopw [4] (fun q wr => ∃ j : Nat, 1 ≤ j ∧ j ≤ l.length ∧ q = .int .i64 (j : Int) ∧ Hid (Below w.heap.size w wr)) (fun q _ => l.length - (intOf q).toNat)
  case atStart => exact ⟨1, by omega, hl1, rfl, Lib.hid (Below.refl _ _)⟩
  case round =>
    obtain ⟨j, hj1, hj, rfl, HJ⟩ := hrel
    have HW1 := Lib.hid (HWB.out.below HJ.out hsz)
    have c0 : wr.cell? ⟨bw, 0, none⟩ = some (.slice A l.length c) := HW1.out.get 0 rfl
    clear c3
    have c3 : wr.cell? ⟨bw, 3, none⟩ = some (.int .i64 0) := HW1.out.get 3 rfl
    by_cases hlt : j < l.length
    · have d0 : decide ((j : Int) < (l.length : Int)) = true := decide_eq_true (by omega)
      have d0' : decide (j < l.length) = true := decide_eq_true hlt
      have hwk : IntKind.i64.wrap ((j : Int) + 1) = (j : Int) + 1 := IntWalk.i64_in _ ⟨by omega, by omega⟩
      obtain ⟨ad, hA9, hnd⟩ := (HR.out.below (HJ.out.mono (by omega))).nd rfl hlt
      obtain ⟨y0, -, -, -⟩ := nd_c hnd
      have hp := (HPAR.out j hlt (by omega)).1
      obtain ⟨P, hP⟩ : ∃ P, P = l[j].parent := ⟨_, rfl⟩
      rw [← hP] at y0 hp
      have d1 : decide ((0 : Int) ≤ P) = true := decide_eq_true hp
      have hj2 : (j : Int) < (l.length : Int) := by omega
      subst hA9
      clear hP hnd
      go_wp2_with fail
      go_quiet (fail)
      go_wp2_with fail
      go_roundw
      case rel => exact ⟨j + 1, by omega, by omega, by go_num, Lib.hid (below_dr HJ.out _)⟩
      case measure => simp [intOf]; omega
    · have d0 : decide ((j : Int) < (l.length : Int)) = false := decide_eq_false (by omega)
      have d0' : decide (j < l.length) = false := decide_eq_false hlt
      have HJN : Hid (j = l.length) := Lib.hid (by omega)
      go_wp2_with fail
      go_quiet (fail)
      have hjn := HJN.out
      subst hjn
      have v0 : IntKind.i64.wrap ((l.length : Int) - 0) = (l.length : Int) := by rw [Int.sub_zero]; exact IntWalk.i64_in _ ⟨by omega, by omega⟩
      have v0' : IntKind.i64.wrap (l.length : Int) = (l.length : Int) := IntWalk.i64_in _ ⟨by omega, by omega⟩
      obtain ⟨w1, hw1⟩ : ∃ w1, w1 = wr.drewN nq := ⟨_, rfl⟩
      have HB1 : Hid (Below w.heap.size w w1) := Lib.hid (by rw [hw1]; exact below_dr HJ.out _)
      rw [← hw1]
      have HW1 := Lib.hid (HWB.out.below HB1.out hsz)
      clear hw1 c0 c3 HJ d0 d0' hlt hj hj1 HJN
      have c3 : w1.cell? ⟨bw, 3, none⟩ = some (.int .i64 0) := HW1.out.get 3 rfl
      have c6 : w1.cell? ⟨bw, 6, none⟩ = some (.slice none 0 0) := HW1.out.get 6 rfl
      have c7 : w1.cell? ⟨bw, 7, none⟩ = some (.slice none 0 0) := HW1.out.get 7 rfl
      have cf := HW1.out.frozen
      have hz1 : bw < w1.heap.size := HW1.out.lt
      have hz2 : bw < w1.heap.size + 1 := by omega
      have hz3 : bw < w1.heap.size + 1 + 1 := by omega
      have hbne : bw ≠ w1.heap.size + 1 + 1 := by omega
      have hl2 : (0 : Int) < (l.length : Int) := by omega
      go_upto_region 6 with (fail)
      obtain ⟨w2, hw2⟩ : ∃ w2, w2 = ((((w1.setCell ⟨bw, 6, none⟩ (.slice (some ⟨w1.heap.size, 0, none⟩) l.length l.length)).setCell ⟨bw, 7, none⟩ (.slice (some ⟨w1.heap.size + 1, 0, none⟩) l.length l.length)).alloc (.cells (nilRs l.length) 36)).alloc (.cells (spsCells (List.replicate l.length sp0)).toArray 114)).alloc (.cells (boCells (List.replicate l.length false)).toArray 4) := ⟨_, rfl⟩
      have HY2 : Hid (LyI w l.length bw w1.heap.size (w1.heap.size + 1) (w1.heap.size + 1 + 1) (lwC A A2 uA hA l.length c m c2 un uc hn hc view (.slice (some ⟨w1.heap.size, 0, none⟩) l.length l.length) (.slice (some ⟨w1.heap.size + 1, 0, none⟩) l.length l.length)) (List.replicate l.length (.slice none 0 0)) (List.replicate l.length false) w2) := Lib.hid (by
        rw [hw2]
        refine ⟨((((HW1.out.set_ 6 _).set_ 7 _).alloc _).alloc _).alloc _, ((Blk.at_ _ _ _ (by simp [World.setCell])).alloc _).alloc _, (Blk.at_ _ _ _ (by simp [World.setCell])).alloc _, Blk.at_ _ _ _ (by simp [World.setCell]), ?_, ?_⟩
        · exact ((((((Kp.of_below HB1.out (fun b => b = bw)).setCell (p := ⟨bw, 6, none⟩) (.inl rfl) _).setCell (p := ⟨bw, 7, none⟩) (.inl rfl) _).alloc _).alloc _).alloc _)
        · have := HB1.out.size; omega)
      have HK2 : Hid (KInv l (w1.heap.size + 1 + 1 + 1) 0 (List.replicate l.length (.slice none 0 0)) w2) := Lib.hid (KInv.start l _ _)
      rw [← hw2]
      obtain ⟨gk, hgk⟩ : ∃ gk, gk = w1.heap.size := ⟨_, rfl⟩
      obtain ⟨gs, hgs⟩ : ∃ gs, gs = gk + 1 := ⟨_, rfl⟩
      obtain ⟨gl, hgl⟩ : ∃ gl, gl = gs + 1 := ⟨_, rfl⟩
      rw [← hgk] at HY2 HK2 ⊢
      rw [← hgs] at HY2 HK2 ⊢
      rw [← hgl] at HY2 HK2 ⊢
      clear hw2 hgk hgs hgl c3 c6 c7 cf hz1 hz2 hz3 hbne HW1 HB1 v0
      have b0 := HY2.out.b.get 0 (v := .bool false) (by rw [List.getElem?_toArray]; unfold boCells; rw [List.getElem?_map, List.getElem?_replicate, if_pos (by omega)]; rfl)
      have bf := HY2.out.b.frozen 0
      go_upto_region 7 with (fail)
      have HY3' := Lib.hid (HY2.out.setB 0 true)
      have HK3 := Lib.hid (HK2.out.kept_set (g := gl) (by omega) 0 (.bool true))
      rw [lieF_0] at HY3'
      clear b0 bf
      generalize World.setCell w2 _ _ = w3 at HY3' HK3 ⊢
      have HY3 := HY3'
      have c3 : w3.cell? ⟨bw, 3, none⟩ = some (.int .i64 0) := HY3.out.wk.get 3 rfl
      go_wp2_with fail
      clear c3 HY2 HK2
      go_loopw [72] (fun q wr => ∃ j : Nat, j ≤ n ∧ q = .int .i64 (j : Int) ∧ Hid (LyI w l.length bw gk gs gl (lwC A A2 uA hA l.length c m c2 un uc hn hc view (.slice (some ⟨gk, 0, none⟩) l.length l.length) (.slice (some ⟨gs, 0, none⟩) l.length l.length)) (List.replicate l.length (.slice none 0 0)) (lieF l j) wr ∧ KInv l (gl + 1) 0 (List.replicate l.length (.slice none 0 0)) wr)) (fun q _ => n - (intOf q).toNat)
      case atStart => exact ⟨0, by omega, rfl, Lib.hid ⟨HY3.out, HK3.out⟩⟩
      case round =>
        obtain ⟨j, hj, rfl, HJJ⟩ := hrel
        have HJ := Lib.hid HJJ.out.1
        have HKJ := Lib.hid HJJ.out.2
        clear HJJ
        by_cases hlt : j < n
        · have d0 : decide ((j : Int) < (n : Int)) = true := decide_eq_true (by omega)
          have d0' : decide (j < n) = true := decide_eq_true hlt
          have hwk : IntKind.i64.wrap ((j : Int) + 1) = (j : Int) + 1 := IntWalk.i64_in _ ⟨by omega, by have := HLN.out; omega⟩
          obtain ⟨ab, u, hAb, hblt, hu, hbc⟩ := (HBX.out.below (HJ.out.lo.mono hlo)).at_ hlt
          obtain ⟨ii, hii⟩ : ∃ ii, ii = j + 1 := ⟨_, rfl⟩
          have hu2 : u = .int .i64 (ii : Nat) := by
            rw [List.getElem?_map, List.getElem?_range' (by omega)] at hu
            simp at hu
            rw [← hu, hii]; simp; omega
          subst hu2
          have hil : ii < l.length := by have := HLN.out; omega
          have HII := Lib.hid hii
          have v1 : IntKind.i64.wrap ((ii : Int) - 0) = (ii : Int) := by rw [Int.sub_zero]; exact IntWalk.i64_in _ ⟨by omega, by omega⟩
          have v2 : IntKind.i64.wrap (ii : Int) = (ii : Int) := IntWalk.i64_in _ ⟨by omega, by omega⟩
          have hil2 : (ii : Int) < (l.length : Int) := by omega
          have hablt : ab.block < wr.heap.size := by have := HJ.out.wk.lt; omega
          have HRT := Lib.hid (fun W' (h : Below bw w W') (hz : bw < W'.heap.size) => rootT_any l A A2 c m c2 view W' ii hil hn2 ((HR.out.below (h.mono hlo)).more (by omega)) (fun h => HPAR.out ii hil h) HS.out)
          have HRV : Hid ((!rootF l ii) = !rootF l (j + 1)) := Lib.hid (by rw [hii])
          obtain ⟨rv, hrv⟩ : ∃ rv, rv = rootF l ii := ⟨_, rfl⟩
          rw [← hrv] at HRT HRV
          have E0 : LyI w l.length bw gk gs gl (lwC A A2 uA hA l.length c m c2 un uc hn hc view (.slice (some ⟨gk, 0, none⟩) l.length l.length) (.slice (some ⟨gs, 0, none⟩) l.length l.length)) (List.replicate l.length (.slice none 0 0)) (lieF l j) wr.drew ∧ KInv l (gl + 1) 0 (List.replicate l.length (.slice none 0 0)) wr.drew := ⟨HJ.out.below (Below.refl _ _).drew, HKJ.out.kept (Below.refl _ _).drew⟩
          clear hii hrv hu
          subst hAb
          go_upto_region 10 with (fail)
          refine wp_region_S (fun b _ _ W' => (if b then LyI w l.length bw gk gs gl (lwC A A2 uA hA l.length c m c2 un uc hn hc view (.slice (some ⟨gk, 0, none⟩) l.length l.length) (.slice (some ⟨gs, 0, none⟩) l.length l.length)) (List.replicate l.length (.slice none 0 0)) (lieF l (j + 1)) W' else LyI w l.length bw gk gs gl (lwC A A2 uA hA l.length c m c2 un uc hn hc view (.slice (some ⟨gk, 0, none⟩) l.length l.length) (.slice (some ⟨gs, 0, none⟩) l.length l.length)) (List.replicate l.length (.slice none 0 0)) (lieF l j) W') ∧ KInv l (gl + 1) 0 (List.replicate l.length (.slice none 0 0)) W') 15 1000 100000 false true (by kernel_rfl) (by kernel_rfl) (by kernel_rfl) (E0) ?_
          refine wpAnyS_take (i := 0) (v := ?_) rfl (by kernel_rfl) (by kernel_rfl) (by kernel_rfl) (fun _ _ _ h => h) (by rfl) (gives_pureF (by rfl) (by kernel_rfl) ?_) ?_
          rotate_left
          · intro d' u' W' hS'
            have hh : LyI w l.length bw gk gs gl (lwC A A2 uA hA l.length c m c2 un uc hn hc view (.slice (some ⟨gk, 0, none⟩) l.length l.length) (.slice (some ⟨gs, 0, none⟩) l.length l.length)) (List.replicate l.length (.slice none 0 0)) (lieF l j) W' := hS'.1
            have c0 : W'.cell? ⟨bw, 0, none⟩ = some (.slice (A) l.length c) := hh.wk.get 0 rfl
            have c1 : W'.cell? ⟨bw, 1, none⟩ = some (.slice A2 m c2) := hh.wk.get 1 rfl
            have c2' : W'.cell? ⟨bw, 2, none⟩ = some (.int .i64 view) := hh.wk.get 2 rfl
            have c3 : W'.cell? ⟨bw, 3, none⟩ = some (.int .i64 0) := hh.wk.get 3 rfl
            go_simp
            rfl
          try simp only [Act.put, List.setIfInBounds_toArray, List.set_cons_zero, List.set_cons_succ, List.getElem_toArray, List.getElem_cons_zero, List.getElem_cons_succ]
          refine wpAnyS_take (i := 1) (v := ?_) rfl (by kernel_rfl) (by kernel_rfl) (by kernel_rfl) (fun _ _ _ h => h) (by rfl) (gives_pureF (by rfl) (by kernel_rfl) ?_) ?_
          rotate_left
          · intro d' u' W' hS'
            have hh : LyI w l.length bw gk gs gl (lwC A A2 uA hA l.length c m c2 un uc hn hc view (.slice (some ⟨gk, 0, none⟩) l.length l.length) (.slice (some ⟨gs, 0, none⟩) l.length l.length)) (List.replicate l.length (.slice none 0 0)) (lieF l j) W' := hS'.1
            have c0 : W'.cell? ⟨bw, 0, none⟩ = some (.slice (A) l.length c) := hh.wk.get 0 rfl
            have c1 : W'.cell? ⟨bw, 1, none⟩ = some (.slice A2 m c2) := hh.wk.get 1 rfl
            have c2' : W'.cell? ⟨bw, 2, none⟩ = some (.int .i64 view) := hh.wk.get 2 rfl
            have c3 : W'.cell? ⟨bw, 3, none⟩ = some (.int .i64 0) := hh.wk.get 3 rfl
            go_simp
            rfl
          try simp only [Act.put, List.setIfInBounds_toArray, List.set_cons_zero, List.set_cons_succ, List.getElem_toArray, List.getElem_cons_zero, List.getElem_cons_succ]
          refine wpAnyS_take (i := 2) (v := ?_) rfl (by kernel_rfl) (by kernel_rfl) (by kernel_rfl) (fun _ _ _ h => h) (by rfl) (gives_pureF (by rfl) (by kernel_rfl) ?_) ?_
          rotate_left
          · intro d' u' W' hS'
            have hh : LyI w l.length bw gk gs gl (lwC A A2 uA hA l.length c m c2 un uc hn hc view (.slice (some ⟨gk, 0, none⟩) l.length l.length) (.slice (some ⟨gs, 0, none⟩) l.length l.length)) (List.replicate l.length (.slice none 0 0)) (lieF l j) W' := hS'.1
            have c0 : W'.cell? ⟨bw, 0, none⟩ = some (.slice (A) l.length c) := hh.wk.get 0 rfl
            have c1 : W'.cell? ⟨bw, 1, none⟩ = some (.slice A2 m c2) := hh.wk.get 1 rfl
            have c2' : W'.cell? ⟨bw, 2, none⟩ = some (.int .i64 view) := hh.wk.get 2 rfl
            have c3 : W'.cell? ⟨bw, 3, none⟩ = some (.int .i64 0) := hh.wk.get 3 rfl
            go_simp
            rfl
          try simp only [Act.put, List.setIfInBounds_toArray, List.set_cons_zero, List.set_cons_succ, List.getElem_toArray, List.getElem_cons_zero, List.getElem_cons_succ]
          refine wpAnyS_take (i := 3) (v := ?_) rfl (by kernel_rfl) (by kernel_rfl) (by kernel_rfl) (fun _ _ _ h => h) (by rfl) (gives_pureF (by rfl) (by kernel_rfl) ?_) ?_
          rotate_left
          · intro d' u' W' hS'
            have hh : LyI w l.length bw gk gs gl (lwC A A2 uA hA l.length c m c2 un uc hn hc view (.slice (some ⟨gk, 0, none⟩) l.length l.length) (.slice (some ⟨gs, 0, none⟩) l.length l.length)) (List.replicate l.length (.slice none 0 0)) (lieF l j) W' := hS'.1
            have c0 : W'.cell? ⟨bw, 0, none⟩ = some (.slice (A) l.length c) := hh.wk.get 0 rfl
            have c1 : W'.cell? ⟨bw, 1, none⟩ = some (.slice A2 m c2) := hh.wk.get 1 rfl
            have c2' : W'.cell? ⟨bw, 2, none⟩ = some (.int .i64 view) := hh.wk.get 2 rfl
            have c3 : W'.cell? ⟨bw, 3, none⟩ = some (.int .i64 0) := hh.wk.get 3 rfl
            go_simp
            rfl
          try simp only [Act.put, List.setIfInBounds_toArray, List.set_cons_zero, List.set_cons_succ, List.getElem_toArray, List.getElem_cons_zero, List.getElem_cons_succ]
          refine wpAnyS_take (i := 4) (v := ?_) rfl (by kernel_rfl) (by kernel_rfl) (by kernel_rfl) (fun _ _ _ h => h) (by rfl) (gives_pureF (by rfl) (by kernel_rfl) ?_) ?_
          rotate_left
          · intro d' u' W' hS'
            have hh : LyI w l.length bw gk gs gl (lwC A A2 uA hA l.length c m c2 un uc hn hc view (.slice (some ⟨gk, 0, none⟩) l.length l.length) (.slice (some ⟨gs, 0, none⟩) l.length l.length)) (List.replicate l.length (.slice none 0 0)) (lieF l j) W' := hS'.1
            have c0 : W'.cell? ⟨bw, 0, none⟩ = some (.slice (A) l.length c) := hh.wk.get 0 rfl
            have c1 : W'.cell? ⟨bw, 1, none⟩ = some (.slice A2 m c2) := hh.wk.get 1 rfl
            have c2' : W'.cell? ⟨bw, 2, none⟩ = some (.int .i64 view) := hh.wk.get 2 rfl
            have c3 : W'.cell? ⟨bw, 3, none⟩ = some (.int .i64 0) := hh.wk.get 3 rfl
            go_simp
            rfl
          try simp only [Act.put, List.setIfInBounds_toArray, List.set_cons_zero, List.set_cons_succ, List.getElem_toArray, List.getElem_cons_zero, List.getElem_cons_succ]
          refine wpAnyS_take (i := 5) (v := ?_) rfl (by kernel_rfl) (by kernel_rfl) (by kernel_rfl) (fun _ _ _ h => h) (by rfl) (gives_pureF (by rfl) (by kernel_rfl) ?_) ?_
          rotate_left
          · intro d' u' W' hS'
            have hh : LyI w l.length bw gk gs gl (lwC A A2 uA hA l.length c m c2 un uc hn hc view (.slice (some ⟨gk, 0, none⟩) l.length l.length) (.slice (some ⟨gs, 0, none⟩) l.length l.length)) (List.replicate l.length (.slice none 0 0)) (lieF l j) W' := hS'.1
            have c0 : W'.cell? ⟨bw, 0, none⟩ = some (.slice (A) l.length c) := hh.wk.get 0 rfl
            have c1 : W'.cell? ⟨bw, 1, none⟩ = some (.slice A2 m c2) := hh.wk.get 1 rfl
            have c2' : W'.cell? ⟨bw, 2, none⟩ = some (.int .i64 view) := hh.wk.get 2 rfl
            have c3 : W'.cell? ⟨bw, 3, none⟩ = some (.int .i64 0) := hh.wk.get 3 rfl
            go_simp
            rfl
          try simp only [Act.put, List.setIfInBounds_toArray, List.set_cons_zero, List.set_cons_succ, List.getElem_toArray, List.getElem_cons_zero, List.getElem_cons_succ]
          refine wpAnyS_take (i := 6) (v := ?_) rfl (by kernel_rfl) (by kernel_rfl) (by kernel_rfl) (fun _ _ _ h => h) (by rfl) (gives_pureF (by rfl) (by kernel_rfl) ?_) ?_
          rotate_left
          · intro d' u' W' hS'
            have hh : LyI w l.length bw gk gs gl (lwC A A2 uA hA l.length c m c2 un uc hn hc view (.slice (some ⟨gk, 0, none⟩) l.length l.length) (.slice (some ⟨gs, 0, none⟩) l.length l.length)) (List.replicate l.length (.slice none 0 0)) (lieF l j) W' := hS'.1
            have c0 : W'.cell? ⟨bw, 0, none⟩ = some (.slice (A) l.length c) := hh.wk.get 0 rfl
            have c1 : W'.cell? ⟨bw, 1, none⟩ = some (.slice A2 m c2) := hh.wk.get 1 rfl
            have c2' : W'.cell? ⟨bw, 2, none⟩ = some (.int .i64 view) := hh.wk.get 2 rfl
            have c3 : W'.cell? ⟨bw, 3, none⟩ = some (.int .i64 0) := hh.wk.get 3 rfl
            go_simp
            rfl
          try simp only [Act.put, List.setIfInBounds_toArray, List.set_cons_zero, List.set_cons_succ, List.getElem_toArray, List.getElem_cons_zero, List.getElem_cons_succ]
          refine wpAnyS_take (i := 7) (v := ?_) rfl (by kernel_rfl) (by kernel_rfl) (by kernel_rfl) (fun _ _ _ h => h) (by rfl) (gives_pureF (by rfl) (by kernel_rfl) ?_) ?_
          rotate_left
          · intro d' u' W' hS'
            have hh : LyI w l.length bw gk gs gl (lwC A A2 uA hA l.length c m c2 un uc hn hc view (.slice (some ⟨gk, 0, none⟩) l.length l.length) (.slice (some ⟨gs, 0, none⟩) l.length l.length)) (List.replicate l.length (.slice none 0 0)) (lieF l j) W' := hS'.1
            have c0 : W'.cell? ⟨bw, 0, none⟩ = some (.slice (A) l.length c) := hh.wk.get 0 rfl
            have c1 : W'.cell? ⟨bw, 1, none⟩ = some (.slice A2 m c2) := hh.wk.get 1 rfl
            have c2' : W'.cell? ⟨bw, 2, none⟩ = some (.int .i64 view) := hh.wk.get 2 rfl
            have c3 : W'.cell? ⟨bw, 3, none⟩ = some (.int .i64 0) := hh.wk.get 3 rfl
            go_simp
            rfl
          try simp only [Act.put, List.setIfInBounds_toArray, List.set_cons_zero, List.set_cons_succ, List.getElem_toArray, List.getElem_cons_zero, List.getElem_cons_succ]
          refine wpAnyS_take (i := 8) (v := ?_) rfl (by kernel_rfl) (by kernel_rfl) (by kernel_rfl) (fun _ _ _ h => h) (by rfl) (gives_pureF (by rfl) (by kernel_rfl) ?_) ?_
          rotate_left
          · intro d' u' W' hS'
            have hh : LyI w l.length bw gk gs gl (lwC A A2 uA hA l.length c m c2 un uc hn hc view (.slice (some ⟨gk, 0, none⟩) l.length l.length) (.slice (some ⟨gs, 0, none⟩) l.length l.length)) (List.replicate l.length (.slice none 0 0)) (lieF l j) W' := hS'.1
            have c0 : W'.cell? ⟨bw, 0, none⟩ = some (.slice (A) l.length c) := hh.wk.get 0 rfl
            have c1 : W'.cell? ⟨bw, 1, none⟩ = some (.slice A2 m c2) := hh.wk.get 1 rfl
            have c2' : W'.cell? ⟨bw, 2, none⟩ = some (.int .i64 view) := hh.wk.get 2 rfl
            have c3 : W'.cell? ⟨bw, 3, none⟩ = some (.int .i64 0) := hh.wk.get 3 rfl
            go_simp
            rfl
          try simp only [Act.put, List.setIfInBounds_toArray, List.set_cons_zero, List.set_cons_succ, List.getElem_toArray, List.getElem_cons_zero, List.getElem_cons_succ]
          refine wpAnyS_take (i := 9) (v := ?_) rfl (by kernel_rfl) (by kernel_rfl) (by kernel_rfl) (fun _ _ _ h => h) (by rfl) (gives_pureF (by rfl) (by kernel_rfl) ?_) ?_
          rotate_left
          · intro d' u' W' hS'
            have hh : LyI w l.length bw gk gs gl (lwC A A2 uA hA l.length c m c2 un uc hn hc view (.slice (some ⟨gk, 0, none⟩) l.length l.length) (.slice (some ⟨gs, 0, none⟩) l.length l.length)) (List.replicate l.length (.slice none 0 0)) (lieF l j) W' := hS'.1
            have c0 : W'.cell? ⟨bw, 0, none⟩ = some (.slice (A) l.length c) := hh.wk.get 0 rfl
            have c1 : W'.cell? ⟨bw, 1, none⟩ = some (.slice A2 m c2) := hh.wk.get 1 rfl
            have c2' : W'.cell? ⟨bw, 2, none⟩ = some (.int .i64 view) := hh.wk.get 2 rfl
            have c3 : W'.cell? ⟨bw, 3, none⟩ = some (.int .i64 0) := hh.wk.get 3 rfl
            go_simp
            rfl
          try simp only [Act.put, List.setIfInBounds_toArray, List.set_cons_zero, List.set_cons_succ, List.getElem_toArray, List.getElem_cons_zero, List.getElem_cons_succ]
          refine wpAnyS_take (i := 10) (v := ?_) rfl (by kernel_rfl) (by kernel_rfl) (by kernel_rfl) (fun _ _ _ h => h) (by rfl) (gives_pureF (by rfl) (by kernel_rfl) ?_) ?_
          rotate_left
          · intro d' u' W' hS'
            have hh : LyI w l.length bw gk gs gl (lwC A A2 uA hA l.length c m c2 un uc hn hc view (.slice (some ⟨gk, 0, none⟩) l.length l.length) (.slice (some ⟨gs, 0, none⟩) l.length l.length)) (List.replicate l.length (.slice none 0 0)) (lieF l j) W' := hS'.1
            have c0 : W'.cell? ⟨bw, 0, none⟩ = some (.slice (A) l.length c) := hh.wk.get 0 rfl
            have c1 : W'.cell? ⟨bw, 1, none⟩ = some (.slice A2 m c2) := hh.wk.get 1 rfl
            have c2' : W'.cell? ⟨bw, 2, none⟩ = some (.int .i64 view) := hh.wk.get 2 rfl
            have c3 : W'.cell? ⟨bw, 3, none⟩ = some (.int .i64 0) := hh.wk.get 3 rfl
            go_simp
            rfl
          try simp only [Act.put, List.setIfInBounds_toArray, List.set_cons_zero, List.set_cons_succ, List.getElem_toArray, List.getElem_cons_zero, List.getElem_cons_succ]
          refine wpAnyS_take (i := 11) (v := ?_) rfl (by kernel_rfl) (by kernel_rfl) (by kernel_rfl) (fun _ _ _ h => h) (by rfl) (gives_pureF (by rfl) (by kernel_rfl) ?_) ?_
          rotate_left
          · intro d' u' W' hS'
            have hh : LyI w l.length bw gk gs gl (lwC A A2 uA hA l.length c m c2 un uc hn hc view (.slice (some ⟨gk, 0, none⟩) l.length l.length) (.slice (some ⟨gs, 0, none⟩) l.length l.length)) (List.replicate l.length (.slice none 0 0)) (lieF l j) W' := hS'.1
            have c0 : W'.cell? ⟨bw, 0, none⟩ = some (.slice (A) l.length c) := hh.wk.get 0 rfl
            have c1 : W'.cell? ⟨bw, 1, none⟩ = some (.slice A2 m c2) := hh.wk.get 1 rfl
            have c2' : W'.cell? ⟨bw, 2, none⟩ = some (.int .i64 view) := hh.wk.get 2 rfl
            have c3 : W'.cell? ⟨bw, 3, none⟩ = some (.int .i64 0) := hh.wk.get 3 rfl
            go_simp
            rfl
          try simp only [Act.put, List.setIfInBounds_toArray, List.set_cons_zero, List.set_cons_succ, List.getElem_toArray, List.getElem_cons_zero, List.getElem_cons_succ]
          refine wpAnyS_take (i := 12) (v := _) rfl (by kernel_rfl) (by kernel_rfl) (by kernel_rfl) (fun _ _ _ h => h) (by rfl) (gives_callF (by rfl) (by kernel_rfl) _ _ ?_ (fun d' u' W' hS' => (HRT.out W' (show LyI w l.length bw gk gs gl (lwC A A2 uA hA l.length c m c2 un uc hn hc view (.slice (some ⟨gk, 0, none⟩) l.length l.length) (.slice (some ⟨gs, 0, none⟩) l.length l.length)) (List.replicate l.length (.slice none 0 0)) (lieF l j) W' from hS'.1).lo (show LyI w l.length bw gk gs gl (lwC A A2 uA hA l.length c m c2 un uc hn hc view (.slice (some ⟨gk, 0, none⟩) l.length l.length) (.slice (some ⟨gs, 0, none⟩) l.length l.length)) (List.replicate l.length (.slice none 0 0)) (lieF l j) W' from hS'.1).wk.lt).mono (fun _ _ h => ⟨h.1, (show LyI w l.length bw gk gs gl (lwC A A2 uA hA l.length c m c2 un uc hn hc view (.slice (some ⟨gk, 0, none⟩) l.length l.length) (.slice (some ⟨gs, 0, none⟩) l.length l.length)) (List.replicate l.length (.slice none 0 0)) (lieF l j) W' from hS'.1).below h.2, hS'.2.kept h.2⟩))) ?_
          · intro W'
            first | rfl | kernel_rfl
          try simp only [Act.put, List.setIfInBounds_toArray, List.set_cons_zero, List.set_cons_succ, List.getElem_toArray, List.getElem_cons_zero, List.getElem_cons_succ]
          refine wpAnyS_take (i := 13) (v := ?_) rfl (by kernel_rfl) (by kernel_rfl) (by kernel_rfl) (fun _ _ _ h => h) (by rfl) (gives_pureF (by rfl) (by kernel_rfl) ?_) ?_
          rotate_left
          · intro d' u' W' hS'
            have hh : LyI w l.length bw gk gs gl (lwC A A2 uA hA l.length c m c2 un uc hn hc view (.slice (some ⟨gk, 0, none⟩) l.length l.length) (.slice (some ⟨gs, 0, none⟩) l.length l.length)) (List.replicate l.length (.slice none 0 0)) (lieF l j) W' := hS'.1
            have c0 : W'.cell? ⟨bw, 0, none⟩ = some (.slice (A) l.length c) := hh.wk.get 0 rfl
            have c1 : W'.cell? ⟨bw, 1, none⟩ = some (.slice A2 m c2) := hh.wk.get 1 rfl
            have c2' : W'.cell? ⟨bw, 2, none⟩ = some (.int .i64 view) := hh.wk.get 2 rfl
            have c3 : W'.cell? ⟨bw, 3, none⟩ = some (.int .i64 0) := hh.wk.get 3 rfl
            go_simp
            rfl
          try simp only [Act.put, List.setIfInBounds_toArray, List.set_cons_zero, List.set_cons_succ, List.getElem_toArray, List.getElem_cons_zero, List.getElem_cons_succ]
          refine wpAnyS_take (i := 14) (v := ?_) rfl (by kernel_rfl) (by kernel_rfl) (by kernel_rfl) (fun _ _ _ h => h) (by rfl) (gives_pureF (by rfl) (by kernel_rfl) ?_) ?_
          rotate_left
          · intro d' u' W' hS'
            have hh : LyI w l.length bw gk gs gl (lwC A A2 uA hA l.length c m c2 un uc hn hc view (.slice (some ⟨gk, 0, none⟩) l.length l.length) (.slice (some ⟨gs, 0, none⟩) l.length l.length)) (List.replicate l.length (.slice none 0 0)) (lieF l j) W' := hS'.1
            have c0 : W'.cell? ⟨bw, 0, none⟩ = some (.slice (A) l.length c) := hh.wk.get 0 rfl
            have c1 : W'.cell? ⟨bw, 1, none⟩ = some (.slice A2 m c2) := hh.wk.get 1 rfl
            have c2' : W'.cell? ⟨bw, 2, none⟩ = some (.int .i64 view) := hh.wk.get 2 rfl
            have c3 : W'.cell? ⟨bw, 3, none⟩ = some (.int .i64 0) := hh.wk.get 3 rfl
            go_simp
            rfl
          try simp only [Act.put, List.setIfInBounds_toArray, List.set_cons_zero, List.set_cons_succ, List.getElem_toArray, List.getElem_cons_zero, List.getElem_cons_succ]
          refine wpAnyS_store (i := 15) (d := true) (fun W' => W'.setCell ⟨gl, ii, none⟩ (.bool (!rv))) rfl (by kernel_rfl) (by rfl) (by rfl) (by kernel_rfl) rfl ?_ (fun W' hS' => by
            have h := (show LyI w l.length bw gk gs gl (lwC A A2 uA hA l.length c m c2 un uc hn hc view (.slice (some ⟨gk, 0, none⟩) l.length l.length) (.slice (some ⟨gs, 0, none⟩) l.length l.length)) (List.replicate l.length (.slice none 0 0)) (lieF l j) W' from hS'.1).setB ii (!rv)
            rw [HRV.out, HII.out, lieF_set l j (by rw [← HII.out]; exact hil)] at h
            rw [HRV.out, HII.out]
            exact ⟨h, hS'.2.kept_set (by omega) _ _⟩) ?_
          · intro W' hS'
            have hh : LyI w l.length bw gk gs gl (lwC A A2 uA hA l.length c m c2 un uc hn hc view (.slice (some ⟨gk, 0, none⟩) l.length l.length) (.slice (some ⟨gs, 0, none⟩) l.length l.length)) (List.replicate l.length (.slice none 0 0)) (lieF l j) W' := hS'.1
            have b0 := hh.b.get ii (v := .bool (if ii = 0 then true else if ii ≤ j then !rootF l ii else false)) (by rw [List.getElem?_toArray]; unfold boCells; rw [List.getElem?_map, lieF_at l j ii hil]; rfl)
            have bf := hh.b.frozen ii
            clear hh
            go_simp
            try rfl
          try simp only [Act.put, List.setIfInBounds_toArray, List.set_cons_zero, List.set_cons_succ, List.getElem_toArray, List.getElem_cons_zero, List.getElem_cons_succ]
          refine wpAnyS_done (b := true) (d := true) (by kernel_rfl) (by kernel_rfl) (by kernel_rfl) rfl (fun wS hS => ?_) _
          have HS9 := Lib.hid hS
          clear hS E0
          go_wp2_with fail
          go_roundw
          case rel => exact ⟨j + 1, by omega, by go_num, Lib.hid HS9.out⟩
          case measure => simp [intOf]; omega
        · have d0 : decide ((j : Int) < (n : Int)) = false := decide_eq_false (by omega)
          have d0' : decide (j < n) = false := decide_eq_false hlt
          have HJN : Hid (j = n) := Lib.hid (by omega)
          have hjn := HJN.out
          subst hjn
          have c3 : wr.cell? ⟨bw, 3, none⟩ = some (.int .i64 0) := HJ.out.wk.get 3 rfl
          go_wp2_with fail
          clear c3 HY3 HK3
          go_loopw [8] (fun q wr => ∃ i : Nat, 1 ≤ i ∧ i ≤ l.length ∧ q = .int .i64 (i : Int) ∧ Hid (∃ vs, LyI w l.length bw gk gs gl (lwC A A2 uA hA l.length c m c2 un uc hn hc view (.slice (some ⟨gk, 0, none⟩) l.length l.length) (.slice (some ⟨gs, 0, none⟩) l.length l.length)) (vs) (lieF l j) wr ∧ KInv l (gl + 1) i vs wr)) (fun q _ => l.length - (intOf q).toNat)
          case atStart => exact ⟨1, by omega, hl1, rfl, Lib.hid ⟨_, HJ.out, HKJ.out.skip HP0.out⟩⟩
          case round =>
            obtain ⟨i, hi1, hi, rfl, HII⟩ := hrel
            obtain ⟨vs, hvs⟩ := HII.out
            have HJ3 := Lib.hid hvs.1
            have HK3 := Lib.hid hvs.2
            clear hvs
            by_cases hlt3 : i < l.length
            · have d0 : decide ((i : Int) < (l.length : Int)) = true := decide_eq_true (by omega)
              have d0' : decide (i < l.length) = true := decide_eq_true hlt3
              have hwk : IntKind.i64.wrap ((i : Int) + 1) = (i : Int) + 1 := IntWalk.i64_in _ ⟨by omega, by omega⟩
              obtain ⟨ad, hA9, hnd⟩ := (HR.out.below (HJ3.out.lo.mono hlo)).nd rfl hlt3
              obtain ⟨y0, -, -, -⟩ := nd_c hnd
              obtain ⟨hq0, hq1⟩ := HPAR.out i hlt3 (by omega)
              obtain ⟨p, hp⟩ := Int.eq_ofNat_of_zero_le hq0
              have hpi : p < i := by omega
              have hpl : p < l.length := by omega
              rw [hp] at y0
              have HPF2 : Hid (parF l i = (p : Int)) := Lib.hid (by
                unfold parF; rw [List.getElem?_eq_getElem hlt3]; simp only; rw [if_pos (by omega)]; exact hp)
              have HLT : Hid ((if p = 0 then true else if p ≤ j then !rootF l p else false) = true) := Lib.hid (by
                have h := HPF.out i (by omega) hlt3
                rw [HPF2.out] at h
                by_cases h0 : p = 0
                · rw [if_pos h0]
                · rw [if_neg h0, if_pos (by have := HLN.out; omega)]
                  rcases h with h | h
                  · omega
                  · rw [Int.toNat_natCast] at h; rw [h]; rfl)
              have v1 : IntKind.i64.wrap ((p : Int) - 0) = (p : Int) := by rw [Int.sub_zero]; exact IntWalk.i64_in _ ⟨by omega, by omega⟩
              have v2 : IntKind.i64.wrap (p : Int) = (p : Int) := IntWalk.i64_in _ ⟨by omega, by omega⟩
              have hi2 : (i : Int) < (l.length : Int) := by omega
              have hp2 : (p : Int) < (l.length : Int) := by omega
              have hadl : ad.block < wr.heap.size := by have h1 := hnd.lt; rw [block_of_add] at h1; have := HJ3.out.wk.lt; omega
              have c0 : wr.cell? ⟨bw, 0, none⟩ = some (.slice A l.length c) := HJ3.out.wk.get 0 rfl
              have c3 : wr.cell? ⟨bw, 3, none⟩ = some (.int .i64 0) := HJ3.out.wk.get 3 rfl
              clear hp hq0 hq1 hnd HII
              have HA9 := Lib.hid hA9
              rw [hA9] at c0
              go_upto_region 15 with (fail)
              go_quiet (fail)
              have b0 := HJ3.out.b.get p (v := .bool true) (by rw [List.getElem?_toArray]; unfold boCells; rw [List.getElem?_map, lieF_at l j p hpl, HLT.out]; rfl)
              go_upto_region 17 with (fail)
              obtain ⟨w4, hw4⟩ : ∃ w4, w4 = wr.drewN nq := ⟨_, rfl⟩
              have HJ4 : Hid (LyI w l.length bw gk gs gl (lwC A A2 uA hA l.length c m c2 un uc hn hc view (.slice (some ⟨gk, 0, none⟩) l.length l.length) (.slice (some ⟨gs, 0, none⟩) l.length l.length)) (vs) (lieF l j) w4) := Lib.hid (by rw [hw4]; exact HJ3.out.below (below_dr (Below.refl _ _) _))
              have HK4 : Hid (KInv l (gl + 1) i vs w4) := Lib.hid (by rw [hw4]; exact HK3.out.kept (below_dr (Below.refl _ _) _))
              rw [← hw4]
              clear hw4 c0 c3 y0 b0
              obtain ⟨wd, hwd⟩ : ∃ wd, wd = w4.drew := ⟨_, rfl⟩
              have HJd : Hid (LyI w l.length bw gk gs gl (lwC A A2 uA hA l.length c m c2 un uc hn hc view (.slice (some ⟨gk, 0, none⟩) l.length l.length) (.slice (some ⟨gs, 0, none⟩) l.length l.length)) (vs) (lieF l j) wd) := Lib.hid (by rw [hwd]; exact HJ4.out.below (Below.refl _ _).drew)
              have HKd : Hid (KInv l (gl + 1) i vs wd) := Lib.hid (by rw [hwd]; exact HK4.out.kept (Below.refl _ _).drew)
              have E6 : Hid ((w4.alloc (.cells #[.int .i64 (i : Int)] 3)).drew = wd.alloc (.cells #[.int .i64 (i : Int)] 3)) := Lib.hid (by rw [hwd]; rfl)
              have HGZ : Hid (w4.heap.size = wd.heap.size) := Lib.hid (by rw [hwd]; rfl)
              have HE0 : Hid ((fun W' => W'.cell? ⟨bw, 6, none⟩ = some (.slice (some ⟨gk, 0, none⟩) l.length l.length)) w4.drew) := Lib.hid (by rw [← hwd]; exact HJd.out.wk.get 6 rfl)
              clear hwd
              have HQV : Hid (p < vs.length) := Lib.hid (by rw [HKd.out.len]; exact hpl)
              have ho := HKd.out.own p HQV.out
              obtain ⟨Aq, cq, hq⟩ := own_form ho
              have HQE := Lib.hid hq
              have cv : w4.cell? ⟨gk, p, none⟩ = some (.slice Aq (kidsK l p i).length cq) := by rw [HJ4.out.k.cell, List.getElem?_toArray, List.getElem?_eq_getElem HQV.out, hq]
              rw [hq] at ho
              have HO := Lib.hid ho
              have HSZ : Hid (gl + 1 ≤ wd.heap.size) := Lib.hid HJd.out.b.lt
              have hk9 : (kidsK l p i).length + 1 ≤ 4294967296 := by have := kidsK_len l p i; omega
              have HOB := Lib.hid (show ∀ g, g < gl + 1 → some g ≠ (Value.slice Aq (kidsK l p i).length cq).ownBlock from fun g hg => own_far HO.out hg)
              have hgk : gk < w4.heap.size := HJ4.out.k.lt
              have HGE := Lib.hid HJd.out.ge
              clear ho hq
              refine wp_region_held_drew (S := fun W' => W'.cell? ⟨bw, 6, none⟩ = some (.slice (some ⟨gk, 0, none⟩) l.length l.length)) (by kernel_rfl) HE0.out (fun hS => ?_)
              refine wpAnyH_take (i := 0) (v := ?_) rfl (by kernel_rfl) (by kernel_rfl) (by kernel_rfl) (fun _ _ _ h => h) (Or.inl ⟨by rfl, ?_⟩) hS ?_
              rotate_left
              · intro W' hS'
                go_simp
                rfl
              try simp only [Act.put, List.setIfInBounds_toArray, List.set_cons_zero, List.set_cons_succ, List.getElem_toArray, List.getElem_cons_zero, List.getElem_cons_succ]
              refine wpAnyH_take (i := 1) (v := ?_) rfl (by kernel_rfl) (by kernel_rfl) (by kernel_rfl) (fun _ _ _ h => h) (Or.inl ⟨by rfl, ?_⟩) hS ?_
              rotate_left
              · intro W' hS'
                go_simp
                rfl
              try simp only [Act.put, List.setIfInBounds_toArray, List.set_cons_zero, List.set_cons_succ, List.getElem_toArray, List.getElem_cons_zero, List.getElem_cons_succ]
              refine wpAnyH_take (i := 2) (v := ?_) rfl (by kernel_rfl) (by kernel_rfl) (by kernel_rfl) (fun _ _ _ h => h) (Or.inl ⟨by rfl, ?_⟩) hS ?_
              rotate_left
              · intro W' hS'
                go_simp
                rfl
              try simp only [Act.put, List.setIfInBounds_toArray, List.set_cons_zero, List.set_cons_succ, List.getElem_toArray, List.getElem_cons_zero, List.getElem_cons_succ]
              refine wpAnyH_take (i := 3) (v := ?_) rfl (by kernel_rfl) (by kernel_rfl) (by kernel_rfl) (fun _ _ _ h => h) (Or.inl ⟨by rfl, ?_⟩) hS ?_
              rotate_left
              · intro W' hS'
                go_simp
                rfl
              try simp only [Act.put, List.setIfInBounds_toArray, List.set_cons_zero, List.set_cons_succ, List.getElem_toArray, List.getElem_cons_zero, List.getElem_cons_succ]
              refine wpAnyH_take (i := 4) (v := ?_) rfl (by kernel_rfl) (by kernel_rfl) (by kernel_rfl) (fun _ _ _ h => h) (Or.inl ⟨by rfl, ?_⟩) hS ?_
              rotate_left
              · intro W' hS'
                go_simp
                rfl
              try simp only [Act.put, List.setIfInBounds_toArray, List.set_cons_zero, List.set_cons_succ, List.getElem_toArray, List.getElem_cons_zero, List.getElem_cons_succ]
              refine wpAnyH_take (i := 5) (v := ?_) rfl (by kernel_rfl) (by kernel_rfl) (by kernel_rfl) (fun _ _ _ h => h) (Or.inl ⟨by rfl, ?_⟩) hS ?_
              rotate_left
              · intro W' hS'
                go_simp
                rfl
              try simp only [Act.put, List.setIfInBounds_toArray, List.set_cons_zero, List.set_cons_succ, List.getElem_toArray, List.getElem_cons_zero, List.getElem_cons_succ]
              refine wpAnyH_take (i := 6) (v := ?_) rfl (by kernel_rfl) (by kernel_rfl) (by kernel_rfl) (fun _ _ _ h => h) (Or.inl ⟨by rfl, ?_⟩) hS ?_
              rotate_left
              · intro W' hS'
                go_simp
                rfl
              try simp only [Act.put, List.setIfInBounds_toArray, List.set_cons_zero, List.set_cons_succ, List.getElem_toArray, List.getElem_cons_zero, List.getElem_cons_succ]
              refine wpAnyH_take (i := 7) (v := ?_) rfl (by kernel_rfl) (by kernel_rfl) (by kernel_rfl) (fun _ _ _ h => h) (Or.inl ⟨by rfl, ?_⟩) hS ?_
              rotate_left
              · intro W' hS'
                go_simp
                rfl
              try simp only [Act.put, List.setIfInBounds_toArray, List.set_cons_zero, List.set_cons_succ, List.getElem_toArray, List.getElem_cons_zero, List.getElem_cons_succ]
              refine wpAnyH_take (i := 8) (v := ?_) rfl (by kernel_rfl) (by kernel_rfl) (by kernel_rfl) (fun _ _ _ h => h) (Or.inl ⟨by rfl, ?_⟩) hS ?_
              rotate_left
              · intro W' hS'
                go_simp
                rfl
              try simp only [Act.put, List.setIfInBounds_toArray, List.set_cons_zero, List.set_cons_succ, List.getElem_toArray, List.getElem_cons_zero, List.getElem_cons_succ]
              refine wpAnyH_take (i := 9) (v := ?_) rfl (by kernel_rfl) (by kernel_rfl) (by kernel_rfl) (fun _ _ _ h => h) (Or.inl ⟨by rfl, ?_⟩) hS ?_
              rotate_left
              · intro W' hS'
                go_simp
                rfl
              try simp only [Act.put, List.setIfInBounds_toArray, List.set_cons_zero, List.set_cons_succ, List.getElem_toArray, List.getElem_cons_zero, List.getElem_cons_succ]
              refine wpAnyH_take (i := 10) (v := ?_) rfl (by kernel_rfl) (by kernel_rfl) (by kernel_rfl) (fun _ _ _ h => h) (Or.inl ⟨by rfl, ?_⟩) hS ?_
              rotate_left
              · intro W' hS'
                go_simp
                rfl
              try simp only [Act.put, List.setIfInBounds_toArray, List.set_cons_zero, List.set_cons_succ, List.getElem_toArray, List.getElem_cons_zero, List.getElem_cons_succ]
              refine wpAnyH_take (i := 12) (v := ?_) rfl (by kernel_rfl) (by kernel_rfl) (by kernel_rfl) (fun _ _ _ h => h) (Or.inl ⟨by rfl, ?_⟩) hS ?_
              rotate_left
              · intro W' hS'
                go_simp
                rfl
              try simp only [Act.put, List.setIfInBounds_toArray, List.set_cons_zero, List.set_cons_succ, List.getElem_toArray, List.getElem_cons_zero, List.getElem_cons_succ]
              refine wpAnyH_ready (rs := [11, 13]) (by kernel_rfl) (by simp) (AllReadyH.cons rfl (fun K hK => ?_) (AllReadyH.cons rfl (fun K hK => ?_) AllReadyH.nil))
              · go_simp
                refine hK.out _ _ HE0.out (fun hS => ?_)
                try simp only [Act.put, List.setIfInBounds_toArray, List.set_cons_zero, List.set_cons_succ, List.getElem_toArray, List.getElem_cons_zero, List.getElem_cons_succ]
                clear hK
                refine wpAnyH_ready (rs := [13]) (by kernel_rfl) (by simp) (AllReadyH.cons rfl (fun K hK => ?_) AllReadyH.nil)
                go_simp
                rw [E6.out]
                refine hK.out _ _ (by rw [World.cell?_alloc_lt _ _ _ HJd.out.wk.lt]; exact HJd.out.wk.get 6 rfl) (fun hS => ?_)
                try simp only [Act.put, List.setIfInBounds_toArray, List.set_cons_zero, List.set_cons_succ, List.getElem_toArray, List.getElem_cons_zero, List.getElem_cons_succ]
                clear hK
                refine wpAnyH_ready (rs := [14]) (by kernel_rfl) (by simp) (AllReadyH.cons rfl (fun K hK => ?_) AllReadyH.nil)
                refine step_appG (m := 1) rfl _ _ rfl el_int2 HO.out HSZ.out rfl [.int .i64 (i : Int)] rfl HGZ.out rfl (by simp [Value.oneCell']) hk9 (by omega) ?_
                intro A' c' w7 hown hB hg hob
                have HK7 := Lib.hid (HKd.out.step HQV.out HPF2.out (nv := .slice A' ((kidsK l p i).length + 1) c') (w1 := w7) hown (by rw [HQE.out]; exact hg) (by rw [HQE.out]; exact hob) (g := gk) (by have := HGE.out; omega) p (.slice A' ((kidsK l p i).length + 1) c'))
                have HW7 := Lib.hid (HJd.out.wk.grown hg (HOB.out _ (by have := HGE.out; omega)))
                have HKB7 := Lib.hid (HJd.out.k.grown hg (HOB.out _ (by have := HGE.out; omega)))
                have HS7 := Lib.hid (HJd.out.s.grown hg (HOB.out _ (by have := HGE.out; omega)))
                have HB7 := Lib.hid (HJd.out.b.grown hg (HOB.out _ (by omega)))
                have HP7 := Lib.hid (HJd.out.kp.grown hg (fun g e => .inr (by have := (HO.out.lt g e).1; have := HGE.out; omega)))
                clear hown hB hg hob
                have k0 := HKB7.out.get p (v := .slice Aq (kidsK l p i).length cq) (by rw [List.getElem?_toArray, List.getElem?_eq_getElem HQV.out, HQE.out])
                have kf := HKB7.out.frozen p
                refine hK.out _ _ (HW7.out.get 6 rfl) (fun hS => ?_)
                try simp only [Act.put, List.setIfInBounds_toArray, List.set_cons_zero, List.set_cons_succ, List.getElem_toArray, List.getElem_cons_zero, List.getElem_cons_succ]
                clear hK
                refine wpAnyH_take (i := 15) (v := ?_) rfl (by kernel_rfl) (by kernel_rfl) (by kernel_rfl) (fun _ _ _ h => h) (Or.inl ⟨by rfl, ?_⟩) hS ?_
                rotate_left
                · intro W' hS'
                  go_simp
                  rfl
                try simp only [Act.put, List.setIfInBounds_toArray, List.set_cons_zero, List.set_cons_succ, List.getElem_toArray, List.getElem_cons_zero, List.getElem_cons_succ]
                refine wpAnyH_ready (rs := [16]) (by kernel_rfl) (by simp) (AllReadyH.cons rfl (fun K hK => ?_) AllReadyH.nil)
                go_simp
                refine hK.out _ _ ((HW7.out.far (p := ⟨gk, p, none⟩) (HW7.out.ne_ HKB7.out (by decide)) _).get 6 rfl) (fun hS => ?_)
                try simp only [Act.put, List.setIfInBounds_toArray, List.set_cons_zero, List.set_cons_succ, List.getElem_toArray, List.getElem_cons_zero, List.getElem_cons_succ]
                clear hK
                refine wpAnyH_done (by kernel_rfl) ?_ _
                have HJ8 : Hid (LyI w l.length bw gk gs gl (lwC A A2 uA hA l.length c m c2 un uc hn hc view (.slice (some ⟨gk, 0, none⟩) l.length l.length) (.slice (some ⟨gs, 0, none⟩) l.length l.length)) (vs.set p (.slice A' ((kidsK l p i).length + 1) c')) (lieF l j) (w7.setCell ⟨gk, p, none⟩ (.slice A' ((kidsK l p i).length + 1) c'))) := Lib.hid ⟨HW7.out.far (HW7.out.ne_ HKB7.out (by decide)) _, by rw [← List.setIfInBounds_toArray]; exact HKB7.out.set_ _ _, HS7.out.far (HS7.out.ne_ HKB7.out (by decide)) _, HB7.out.far (HB7.out.ne_ HKB7.out (by decide)) _, HP7.out.setCell (p := ⟨gk, p, none⟩) (.inr (by have := HGE.out; simp; omega)) _, HGE.out⟩
                clear hS k0 kf
                go_wp2_with fail
                go_roundw
                case rel => exact ⟨i + 1, by omega, by omega, by go_num, Lib.hid ⟨_, by have h9 := HJ8.out; rw [HA9.out] at h9; exact h9, HK7.out⟩⟩
                case measure => simp [intOf]; omega
              · go_simp
                rw [E6.out]
                refine hK.out _ _ (by rw [World.cell?_alloc_lt _ _ _ HJd.out.wk.lt]; exact HJd.out.wk.get 6 rfl) (fun hS => ?_)
                try simp only [Act.put, List.setIfInBounds_toArray, List.set_cons_zero, List.set_cons_succ, List.getElem_toArray, List.getElem_cons_zero, List.getElem_cons_succ]
                clear hK
                have cvq : (wd.alloc (.cells #[.int .i64 (i : Int)] 3)).cell? ⟨gk, p, none⟩ = some (.slice Aq (kidsK l p i).length cq) := (World.cell?_alloc_lt _ _ _ HJd.out.k.lt).trans (by rw [HJd.out.k.cell, List.getElem?_toArray, List.getElem?_eq_getElem HQV.out, HQE.out])
                refine wpAnyH_ready (rs := [11]) (by kernel_rfl) (by simp) (AllReadyH.cons rfl (fun K hK => ?_) AllReadyH.nil)
                go_simp
                refine hK.out _ _ (by rw [World.cell?_alloc_lt _ _ _ HJd.out.wk.lt]; exact HJd.out.wk.get 6 rfl) (fun hS => ?_)
                try simp only [Act.put, List.setIfInBounds_toArray, List.set_cons_zero, List.set_cons_succ, List.getElem_toArray, List.getElem_cons_zero, List.getElem_cons_succ]
                clear hK
                refine wpAnyH_ready (rs := [14]) (by kernel_rfl) (by simp) (AllReadyH.cons rfl (fun K hK => ?_) AllReadyH.nil)
                refine step_appG (m := 1) rfl _ _ rfl el_int2 HO.out HSZ.out rfl [.int .i64 (i : Int)] rfl HGZ.out rfl (by simp [Value.oneCell']) hk9 (by omega) ?_
                intro A' c' w7 hown hB hg hob
                have HK7 := Lib.hid (HKd.out.step HQV.out HPF2.out (nv := .slice A' ((kidsK l p i).length + 1) c') (w1 := w7) hown (by rw [HQE.out]; exact hg) (by rw [HQE.out]; exact hob) (g := gk) (by have := HGE.out; omega) p (.slice A' ((kidsK l p i).length + 1) c'))
                have HW7 := Lib.hid (HJd.out.wk.grown hg (HOB.out _ (by have := HGE.out; omega)))
                have HKB7 := Lib.hid (HJd.out.k.grown hg (HOB.out _ (by have := HGE.out; omega)))
                have HS7 := Lib.hid (HJd.out.s.grown hg (HOB.out _ (by have := HGE.out; omega)))
                have HB7 := Lib.hid (HJd.out.b.grown hg (HOB.out _ (by omega)))
                have HP7 := Lib.hid (HJd.out.kp.grown hg (fun g e => .inr (by have := (HO.out.lt g e).1; have := HGE.out; omega)))
                clear hown hB hg hob
                have k0 := HKB7.out.get p (v := .slice Aq (kidsK l p i).length cq) (by rw [List.getElem?_toArray, List.getElem?_eq_getElem HQV.out, HQE.out])
                have kf := HKB7.out.frozen p
                refine hK.out _ _ (HW7.out.get 6 rfl) (fun hS => ?_)
                try simp only [Act.put, List.setIfInBounds_toArray, List.set_cons_zero, List.set_cons_succ, List.getElem_toArray, List.getElem_cons_zero, List.getElem_cons_succ]
                clear hK
                refine wpAnyH_take (i := 15) (v := ?_) rfl (by kernel_rfl) (by kernel_rfl) (by kernel_rfl) (fun _ _ _ h => h) (Or.inl ⟨by rfl, ?_⟩) hS ?_
                rotate_left
                · intro W' hS'
                  go_simp
                  rfl
                try simp only [Act.put, List.setIfInBounds_toArray, List.set_cons_zero, List.set_cons_succ, List.getElem_toArray, List.getElem_cons_zero, List.getElem_cons_succ]
                refine wpAnyH_ready (rs := [16]) (by kernel_rfl) (by simp) (AllReadyH.cons rfl (fun K hK => ?_) AllReadyH.nil)
                go_simp
                refine hK.out _ _ ((HW7.out.far (p := ⟨gk, p, none⟩) (HW7.out.ne_ HKB7.out (by decide)) _).get 6 rfl) (fun hS => ?_)
                try simp only [Act.put, List.setIfInBounds_toArray, List.set_cons_zero, List.set_cons_succ, List.getElem_toArray, List.getElem_cons_zero, List.getElem_cons_succ]
                clear hK
                refine wpAnyH_done (by kernel_rfl) ?_ _
                have HJ8 : Hid (LyI w l.length bw gk gs gl (lwC A A2 uA hA l.length c m c2 un uc hn hc view (.slice (some ⟨gk, 0, none⟩) l.length l.length) (.slice (some ⟨gs, 0, none⟩) l.length l.length)) (vs.set p (.slice A' ((kidsK l p i).length + 1) c')) (lieF l j) (w7.setCell ⟨gk, p, none⟩ (.slice A' ((kidsK l p i).length + 1) c'))) := Lib.hid ⟨HW7.out.far (HW7.out.ne_ HKB7.out (by decide)) _, by rw [← List.setIfInBounds_toArray]; exact HKB7.out.set_ _ _, HS7.out.far (HS7.out.ne_ HKB7.out (by decide)) _, HB7.out.far (HB7.out.ne_ HKB7.out (by decide)) _, HP7.out.setCell (p := ⟨gk, p, none⟩) (.inr (by have := HGE.out; simp; omega)) _, HGE.out⟩
                clear hS k0 kf
                go_wp2_with fail
                go_roundw
                case rel => exact ⟨i + 1, by omega, by omega, by go_num, Lib.hid ⟨_, by have h9 := HJ8.out; rw [HA9.out] at h9; exact h9, HK7.out⟩⟩
                case measure => simp [intOf]; omega
            · have d0 : decide ((i : Int) < (l.length : Int)) = false := decide_eq_false (by omega)
              have d0' : decide (i < l.length) = false := decide_eq_false hlt3
              have HIN : Hid (i = l.length) := Lib.hid (by omega)
              go_wp2_with fail
              go_end0
              exact ⟨⟨_, rfl⟩, gk, gs, gl, vs, HJ3.out, by have := HK3.out; rw [HIN.out] at this; exact this⟩
end
end Go.Proofs.Ytlebbkhhhmempaa
