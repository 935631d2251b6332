/- islands.Inside of any tree that is laid down in order. -/
import Derived.Test.YtjhfcpadnofdnaaGreatTrc
import Derived.Test.YtjhfcpadnofdnaaGreatRtg
import Derived.Test.YtjhfcpadnofdnaaGreatApp
import Derived.Deep.RegionHeld
import Derived.Lib.OwnKind
import Derived.Deep.DeepCutAuto
import Derived.Deep.CutRange
import Derived.Deep.CutBlock
import Derived.Test.YtjhfcpadnofdnaaGreatRgh
set_option linter.unusedSimpArgs false
set_option linter.unusedVariables false
namespace Go.Proofs.YtjhfcpadnofdnaaGreat
open Go.RowKit
attribute [local go_sem] block_of_add
theorem run_store_fnG {P : Program} {w : World} {a : Addr} {m : Mode} (F : Fn) (b l : Array Value) : (store a (.func F b l) m).run P w = stored P w a (.func F b l) m := run_store P w a _ m rfl
attribute [local go_sem] run_store_fnG
theorem own_lowerG {w : World} {base base' : Nat} {e : TypeId} {size n : Nat} {v : Value} {xs : List Value} (h : w.ownsRow base e size v n xs) (hb : base' ≤ base) : w.ownsRow base' e size v n xs := ⟨h.1, h.2.elim .inl (fun ⟨g, cap, cur, a, b, r⟩ => .inr ⟨g, cap, cur, a, Nat.le_trans hb b, r⟩)⟩
/-- The parent of a node, as a number; is it a text? -/
def Pl (l : List Nd) (j : Nat) : Nat := (((l[j]?).map fun x : Nd => x.parent).getD 0).toNat
def K3l (l : List Nd) (j : Nat) : Bool := ((l[j]?).map fun x : Nd => x.s.kind == 3).getD false
theorem dnG_len {n : Nat} {P : Nat → Nat} {K3 rt : Nat → Bool} : ∀ (f i k : Nat) (b : Bool) (e : Nat) (bs : List Nat), dnG n P K3 rt f i k b = some (e, bs) → k ≤ e ∧ bs.length ≤ e - k := by
  intro f
  induction f with
  | zero => intro i k b e bs h; simp [dnG] at h
  | succ f ih =>
    intro i k b e bs h
    rw [dnG] at h
    split at h
    · split at h
      · cases h
      · rename_i e1 b1 h1
        split at h
        · cases h
        · rename_i e2 b2 h2
          injection h with h
          injection h with h3 h4
          have g1 := ih _ _ _ _ _ h1
          have g2 := ih _ _ _ _ _ h2
          subst h3
          subst h4
          refine ⟨by omega, ?_⟩
          rw [List.length_append]
          have : (if (b && !K3 k) = true then k :: b1 else b1).length ≤ b1.length + 1 := by split <;> simp
          omega
    · injection h with h
      injection h with h3 h4
      subst h3
      subst h4
      simp
structure InJ (w : World) (bt bb : Nat) (l : List Nd) (A A2 : Option Addr) (c m c2 : Nat) (view : Int) (B : List Nat) (Av : Option Addr) (cv : Nat) (W : World) : Prop where
  t : Blk W bt 25 #[.slice A l.length c, .slice A2 m c2, .int .i64 view]
  b : Blk W bb 50 #[.slice Av B.length cv]
  d : Blk W (bb + 1) 171 #[.func (.func 119) #[] #[.pointer (some ⟨bt, 0, none⟩), .pointer (some ⟨bb, 0, none⟩), .pointer (some ⟨bb + 1, 0, none⟩)]]
  o : W.ownsRow (bb + 1 + 1) 3 1 (.slice Av B.length cv) B.length (B.map fun (i : Nat) => Value.int .i64 i)
  l : Below w.heap.size w W
  lt : bt < bb ∧ w.heap.size ≤ bt
theorem InJ.below {w : World} {bt bb : Nat} {l : List Nd} {A A2 : Option Addr} {c m c2 : Nat} {view : Int} {B : List Nat} {Av : Option Addr} {cv : Nat} {W W' : World} (h : InJ w bt bb l A A2 c m c2 view B Av cv W) (hb : Below W.heap.size W W') : InJ w bt bb l A A2 c m c2 view B Av cv W' :=
  ⟨h.t.below hb h.t.lt, h.b.below hb h.b.lt, h.d.below hb h.d.lt, own_below h.o hb, h.l.trans (hb.mono h.l.size), h.lt⟩
theorem InJ.app {w : World} {bt bb : Nat} {l : List Nd} {A A2 : Option Addr} {c m c2 : Nat} {view : Int} {B : List Nat} {Av : Option Addr} {cv : Nat} {W W' : World} (h : InJ w bt bb l A A2 c m c2 view B Av cv W) {A' : Option Addr} {c' : Nat} (k : Nat) (hown : W'.ownsRow (bb + 1 + 1) 3 1 (.slice A' (B.length + 1) c') (B.length + 1) ((B.map fun (i : Nat) => Value.int .i64 i) ++ [.int .i64 k])) (hg : W.grownBy W' (Value.slice Av B.length cv).ownBlock)
    (hB : ∀ B' w0, B' ≤ bb + 1 + 1 → Below B' w0 W → Below B' w0 W') : InJ w bt bb l A A2 c m c2 view (B ++ [k]) A' c' (W'.setCell ⟨bb, 0, none⟩ (.slice A' (B.length + 1) c')) := by
  have e1 : (B ++ [k]).length = B.length + 1 := by simp
  have hlt := h.lt
  refine ⟨(h.t.grown hg (own_far h.o (by omega))).far (by simp; omega) _, ?_, (h.d.grown hg (own_far h.o (by omega))).far (by simp) _, ?_, (hB _ _ (by omega) h.l).setCell (p := ⟨bb, 0, none⟩) (by simp; omega) _, hlt⟩
  · rw [e1]; exact (h.b.grown hg (own_far h.o (by omega))).set_ 0 _
  · rw [e1, List.map_append]; exact ownsRow_setCell_below hown (a := ⟨bb, 0, none⟩) (by show bb < bb + 1 + 1; omega) _
section
variable (w : World) (bt bb : Nat) (l : List Nd) (A A2 : Option Addr) (c m c2 : Nat) (view : Int)
set_option maxRecDepth 100000 in
set_option maxHeartbeats 4000000 in
theorem downG_any (hn : l.length ≤ 65536) (hr : Reads w w.heap.size 44 A l.length (ndsCells l)) (hpar : ∀ i (h : i < l.length), 0 < i → 0 ≤ l[i].parent) : ∀ (f i : Nat) (b : Bool) (B : List Nat) (Av : Option Addr) (cv : Nat) (W : World) (e : Nat) (bs : List Nat), InJ w bt bb l A A2 c m c2 view B Av cv W → i < l.length → B.length ≤ i → dnG l.length (Pl l) (K3l l) (rootX l) f i (i + 1) b = some (e, bs) →
    Calls Tryz.prog 119 #[.int .i64 i, .bool b, .pointer (some ⟨bt, 0, none⟩), .pointer (some ⟨bb, 0, none⟩), .pointer (some ⟨bb + 1, 0, none⟩)] W fun en w' => en = .returned (.int .i64 e) ∧ ∃ Av' cv', InJ w bt bb l A A2 c m c2 view (B ++ bs) Av' cv' w' := by
  intro f
  induction f using Nat.strongRecOn with
  | _ f IH =>
  intro i b B Av cv W e bs h hi hBi he
  have HI := Lib.hid h
  have HIH := Lib.hid IH
  have HE := Lib.hid he
  have hwk : IntKind.i64.wrap ((i : Int) + 1) = (i : Int) + 1 := IntWalk.i64_in _ ⟨by omega, by omega⟩
  obtain ⟨t0, t1, t2⟩ := h.t.c3
  have HR := Lib.hid hr
  have HP := Lib.hid hpar
  clear h IH he hr hpar
  go_enter Tryz.func119, Tryz.ntmps119
  go_wp2_with fail
  go_loopw [8] (fun q wr => ∃ (k f' : Nat) (dn br : List Nat), i < k ∧ dnG l.length (Pl l) (K3l l) (rootX l) f' i k b = some (e, br) ∧ f' ≤ f ∧ dn.length + (i + 1) ≤ k ∧ q = .int .i64 (k : Int) ∧ Hid (dn ++ br = bs ∧ ∃ Av cv, InJ w bt bb l A A2 c m c2 view (B ++ dn) Av cv wr)) (fun q _ => l.length + 1 - (intOf q).toNat)
  case atStart => exact ⟨i + 1, f, [], bs, by omega, HE.out, by omega, by simp, by go_num, Lib.hid ⟨rfl, _, _, by simpa using HI.out⟩⟩
  case round =>
    obtain ⟨k, f1, dn, br, hik, hdn, hff, hdl, rfl, HH⟩ := hrel
    obtain ⟨hbs, Ak, ck, hik2⟩ := HH.out
    have HBS := Lib.hid hbs
    clear t0 t1 t2 hbs
    obtain ⟨t0, t1, t2⟩ := hik2.t.c3
    obtain ⟨BK, hBK⟩ : ∃ BK, BK = B ++ dn := ⟨_, rfl⟩
    rw [← hBK] at hik2
    have hBKl : BK.length + 1 ≤ k := by rw [hBK, List.length_append]; omega
    have HBK := Lib.hid hBK
    have HJ := Lib.hid hik2
    clear hik2 HH hBK
    obtain ⟨f', rfl⟩ : ∃ f', f1 = f' + 1 := by
      cases f1 with
      | zero => simp [dnG] at hdn
      | succ f' => exact ⟨f', rfl⟩
    rw [dnG] at hdn
    by_cases hc : k < l.length ∧ Pl l k = i
    · rw [if_pos hc] at hdn
      obtain ⟨hkl, hpk⟩ := hc
      have d1 : decide ((k : Int) < (l.length : Int)) = true := decide_eq_true (by omega)
      have d1' : decide (k < l.length) = true := decide_eq_true hkl
      obtain ⟨ad, hA, hnd⟩ := (HR.out.below HJ.out.l).nd rfl hkl
      obtain ⟨y0, y1, -, -⟩ := nd_cG hnd
      have hb : ad.block < w.heap.size := by have := hnd.lt; rwa [block_of_add] at this
      have hp0 := HP.out k hkl (by omega)
      have hpe : l[k].parent = (i : Int) := by unfold Pl at hpk; rw [List.getElem?_eq_getElem hkl] at hpk; simp at hpk; omega
      have hk3 : K3l l k = (l[k].s.kind == 3) := by unfold K3l; rw [List.getElem?_eq_getElem hkl]; rfl
      rw [hpe] at y0
      obtain ⟨kd, hkd⟩ : ∃ x, l[k].s.kind = x := ⟨_, rfl⟩
      rw [hkd] at y1 hk3
      rw [hk3] at hdn
      have hk1 : (k : Int) < (l.length : Int) := by omega
      have hBK9 : BK.length + 1 ≤ 4294967296 := by omega
      obtain ⟨rv, hrv⟩ : ∃ x, rootX l k = x := ⟨_, rfl⟩
      have HRT := Lib.hid (fun W' (hb : Below w.heap.size w W') => rootG_any l A A2 c m c2 view W' k hkl hn ((HR.out.below hb).more hb.size))
      rw [hrv] at HRT hdn
      subst hA
      clear hnd hpe hpk hp0 hkd hrv
      have cb := HJ.out.b.c1
      have hzb : bb < wr.heap.size := HJ.out.b.lt
      have HSZ : Hid (bb + 1 + 1 ≤ wr.heap.size) := Lib.hid (by have := HJ.out.d.lt; omega)
      have HS6 : Hid (∀ W' {B Av cv}, InJ w bt bb l (some ad) A2 c m c2 view B Av cv W' → (fun W' => W'.cell? ⟨bb + 1, 0, none⟩ = some (.func (.func 119) #[] #[.pointer (some ⟨bt, 0, none⟩), .pointer (some ⟨bb, 0, none⟩), .pointer (some ⟨bb + 1, 0, none⟩)]) ∧ W'.cell? ⟨bt, 0, none⟩ = some (.slice (some ad) l.length c) ∧ W'.cell? ⟨bt, 1, none⟩ = some (.slice A2 m c2) ∧ W'.cell? ⟨bt, 2, none⟩ = some (.int .i64 view)) W') := Lib.hid (fun W' {B Av cv} h => ⟨h.d.c1, h.t.c3⟩)
      cases hbx : (b && !(kd == 3))
      · as_aux_lemma =>
        rw [hbx, Bool.false_and] at hdn
        obtain ⟨e1, b1, e2, b2, h1, h2, h3, h4⟩ : ∃ e1 b1 e2 b2, dnG l.length (Pl l) (K3l l) (rootX l) f' k (k + 1) false = some (e1, b1) ∧ dnG l.length (Pl l) (K3l l) (rootX l) f' i e1 b = some (e2, b2) ∧ e2 = e ∧ b1 ++ b2 = br := by
          cases g1 : dnG l.length (Pl l) (K3l l) (rootX l) f' k (k + 1) false with
          | none => rw [g1] at hdn; cases hdn
          | some p =>
            obtain ⟨e1, b1⟩ := p
            rw [g1] at hdn
            simp only [] at hdn
            cases g2 : dnG l.length (Pl l) (K3l l) (rootX l) f' i e1 b with
            | none => rw [g2] at hdn; cases hdn
            | some p =>
              obtain ⟨e2, b2⟩ := p
              rw [g2] at hdn
              injection hdn with hdn
              injection hdn with h3 h4
              exact ⟨e1, b1, e2, b2, rfl, g2, h3, by simpa using h4⟩
        subst h3
        have HL1 := Lib.hid (dnG_len _ _ _ _ _ _ h1)
        have HE1 := Lib.hid h2
        have HB4 := Lib.hid h4
        have HCA := Lib.hid (fun W' Av cv (h : InJ w bt bb l (some ad) A2 c m c2 view BK Av cv W') => HIH.out f' (by omega) k false BK Av cv W' e1 b1 h hkl (by omega) h1)
        have hle1 := HL1.out.1
        clear hdn h1 h2 h4 hk3
        cases b
        · skip
          go_upto_region 6 with (fail)
          clear cb hzb t0 t1 t2 y0 y1
          refine wp_region_held_drew (S := fun W' => W'.cell? ⟨bb + 1, 0, none⟩ = some (.func (.func 119) #[] #[.pointer (some ⟨bt, 0, none⟩), .pointer (some ⟨bb, 0, none⟩), .pointer (some ⟨bb + 1, 0, none⟩)]) ∧ W'.cell? ⟨bt, 0, none⟩ = some (.slice (some ad) l.length c) ∧ W'.cell? ⟨bt, 1, none⟩ = some (.slice A2 m c2) ∧ W'.cell? ⟨bt, 2, none⟩ = some (.int .i64 view)) (by kernel_rfl) (HS6.out _ (HJ.out.below (Below.refl _ _).drew)) (fun hS => ?_)
          refine wpAnyH_take (i := 0) (v := ?_) rfl (by kernel_rfl) (by kernel_rfl) (by kernel_rfl) (fun _ _ _ h => h) (Or.inl ⟨by rfl, ?_⟩) hS ?_
          rotate_left
          · intro W' hS'
            go_simp
            rfl
          try simp only [Act.put, List.setIfInBounds_toArray, List.set_cons_zero, List.set_cons_succ, List.getElem_toArray, List.getElem_cons_zero, List.getElem_cons_succ]
          refine wpAnyH_take (i := 1) (v := ?_) rfl (by kernel_rfl) (by kernel_rfl) (by kernel_rfl) (fun _ _ _ h => h) (Or.inl ⟨by rfl, ?_⟩) hS ?_
          rotate_left
          · intro W' hS'
            go_simp
            rfl
          try simp only [Act.put, List.setIfInBounds_toArray, List.set_cons_zero, List.set_cons_succ, List.getElem_toArray, List.getElem_cons_zero, List.getElem_cons_succ]
          refine wpAnyH_take (i := 2) (v := ?_) rfl (by kernel_rfl) (by kernel_rfl) (by kernel_rfl) (fun _ _ _ h => h) (Or.inl ⟨by rfl, ?_⟩) hS ?_
          rotate_left
          · intro W' hS'
            go_simp
            rfl
          try simp only [Act.put, List.setIfInBounds_toArray, List.set_cons_zero, List.set_cons_succ, List.getElem_toArray, List.getElem_cons_zero, List.getElem_cons_succ]
          refine wpAnyH_take (i := 3) (v := ?_) rfl (by kernel_rfl) (by kernel_rfl) (by kernel_rfl) (fun _ _ _ h => h) (Or.inl ⟨by rfl, ?_⟩) hS ?_
          rotate_left
          · intro W' hS'
            go_simp
            rfl
          try simp only [Act.put, List.setIfInBounds_toArray, List.set_cons_zero, List.set_cons_succ, List.getElem_toArray, List.getElem_cons_zero, List.getElem_cons_succ]
          refine wpAnyH_take (i := 4) (v := undef) rfl (by kernel_rfl) (by kernel_rfl) (by kernel_rfl) (fun _ _ _ h => h) (Or.inr ⟨by rfl, rfl⟩) hS ?_
          try simp only [Act.put, List.setIfInBounds_toArray, List.set_cons_zero, List.set_cons_succ, List.getElem_toArray, List.getElem_cons_zero, List.getElem_cons_succ]
          refine wpAnyH_take (i := 5) (v := undef) rfl (by kernel_rfl) (by kernel_rfl) (by kernel_rfl) (fun _ _ _ h => h) (Or.inr ⟨by rfl, rfl⟩) hS ?_
          try simp only [Act.put, List.setIfInBounds_toArray, List.set_cons_zero, List.set_cons_succ, List.getElem_toArray, List.getElem_cons_zero, List.getElem_cons_succ]
          refine wpAnyH_take (i := 6) (v := undef) rfl (by kernel_rfl) (by kernel_rfl) (by kernel_rfl) (fun _ _ _ h => h) (Or.inr ⟨by rfl, rfl⟩) hS ?_
          try simp only [Act.put, List.setIfInBounds_toArray, List.set_cons_zero, List.set_cons_succ, List.getElem_toArray, List.getElem_cons_zero, List.getElem_cons_succ]
          refine wpAnyH_take (i := 7) (v := undef) rfl (by kernel_rfl) (by kernel_rfl) (by kernel_rfl) (fun _ _ _ h => h) (Or.inr ⟨by rfl, rfl⟩) hS ?_
          try simp only [Act.put, List.setIfInBounds_toArray, List.set_cons_zero, List.set_cons_succ, List.getElem_toArray, List.getElem_cons_zero, List.getElem_cons_succ]
          have HI6 := Lib.hid (HJ.out.below (Below.refl _ _).drew)
          refine wpAnyH_take (i := 8) (v := ?_) rfl (by kernel_rfl) (by kernel_rfl) (by kernel_rfl) (fun _ _ _ h => h) (Or.inl ⟨by rfl, ?_⟩) hS ?_
          rotate_left
          · intro W' hS'
            go_simp
            rfl
          try simp only [Act.put, List.setIfInBounds_toArray, List.set_cons_zero, List.set_cons_succ, List.getElem_toArray, List.getElem_cons_zero, List.getElem_cons_succ]
          refine wpAnyH_ready (rs := [9]) (by kernel_rfl) (by simp) (AllReadyH.cons rfl (fun K hK => ?_) AllReadyH.nil)
          go_simp
          refine (HCA.out _ _ _ HI6.out).mono ?_
          rintro e w7 ⟨rfl, Av7, cv7, hi7⟩
          have HI7 := Lib.hid hi7
          clear hi7
          refine hK.out _ _ (HS6.out _ HI7.out) (fun hS => ?_)
          try simp only [Act.put, List.setIfInBounds_toArray, List.set_cons_zero, List.set_cons_succ, List.getElem_toArray, List.getElem_cons_zero, List.getElem_cons_succ]
          clear hK
          refine wpAnyH_take (i := 10) (v := ?_) rfl (by kernel_rfl) (by kernel_rfl) (by kernel_rfl) (fun _ _ _ h => h) (Or.inl ⟨by rfl, ?_⟩) hS ?_
          rotate_left
          · intro W' hS'
            go_simp
            rfl
          try simp only [Act.put, List.setIfInBounds_toArray, List.set_cons_zero, List.set_cons_succ, List.getElem_toArray, List.getElem_cons_zero, List.getElem_cons_succ]
          refine wpAnyH_done (by kernel_rfl) ?_ _
          clear hS
          go_wp2_with fail
          go_roundw
          case rel => exact ⟨e1, f', dn ++ b1, b2, by omega, HE1.out, by omega, by have := HL1.out.2; rw [List.length_append]; omega, by go_num, Lib.hid ⟨by rw [List.append_assoc, HB4.out]; exact HBS.out, _, _, by have h := HI7.out; rw [HBK.out] at h; simpa using h⟩⟩
          case measure => simp [intOf]; have := HL1.out.1; omega
        · have e3 : (kd == 3) = true := by simpa using hbx
          have e3n : (kd != 3) = false := by rw [bne, e3]; rfl
          go_upto_region 6 with (fail)
          clear cb hzb t0 t1 t2 y0 y1
          refine wp_region_held_drew (S := fun W' => W'.cell? ⟨bb + 1, 0, none⟩ = some (.func (.func 119) #[] #[.pointer (some ⟨bt, 0, none⟩), .pointer (some ⟨bb, 0, none⟩), .pointer (some ⟨bb + 1, 0, none⟩)]) ∧ W'.cell? ⟨bt, 0, none⟩ = some (.slice (some ad) l.length c) ∧ W'.cell? ⟨bt, 1, none⟩ = some (.slice A2 m c2) ∧ W'.cell? ⟨bt, 2, none⟩ = some (.int .i64 view)) (by kernel_rfl) (HS6.out _ (HJ.out.below (Below.refl _ _).drew)) (fun hS => ?_)
          refine wpAnyH_take (i := 0) (v := ?_) rfl (by kernel_rfl) (by kernel_rfl) (by kernel_rfl) (fun _ _ _ h => h) (Or.inl ⟨by rfl, ?_⟩) hS ?_
          rotate_left
          · intro W' hS'
            go_simp
            rfl
          try simp only [Act.put, List.setIfInBounds_toArray, List.set_cons_zero, List.set_cons_succ, List.getElem_toArray, List.getElem_cons_zero, List.getElem_cons_succ]
          refine wpAnyH_take (i := 1) (v := ?_) rfl (by kernel_rfl) (by kernel_rfl) (by kernel_rfl) (fun _ _ _ h => h) (Or.inl ⟨by rfl, ?_⟩) hS ?_
          rotate_left
          · intro W' hS'
            go_simp
            rfl
          try simp only [Act.put, List.setIfInBounds_toArray, List.set_cons_zero, List.set_cons_succ, List.getElem_toArray, List.getElem_cons_zero, List.getElem_cons_succ]
          refine wpAnyH_take (i := 2) (v := ?_) rfl (by kernel_rfl) (by kernel_rfl) (by kernel_rfl) (fun _ _ _ h => h) (Or.inl ⟨by rfl, ?_⟩) hS ?_
          rotate_left
          · intro W' hS'
            go_simp
            rfl
          try simp only [Act.put, List.setIfInBounds_toArray, List.set_cons_zero, List.set_cons_succ, List.getElem_toArray, List.getElem_cons_zero, List.getElem_cons_succ]
          refine wpAnyH_take (i := 3) (v := ?_) rfl (by kernel_rfl) (by kernel_rfl) (by kernel_rfl) (fun _ _ _ h => h) (Or.inl ⟨by rfl, ?_⟩) hS ?_
          rotate_left
          · intro W' hS'
            go_simp
            rfl
          try simp only [Act.put, List.setIfInBounds_toArray, List.set_cons_zero, List.set_cons_succ, List.getElem_toArray, List.getElem_cons_zero, List.getElem_cons_succ]
          refine wpAnyH_take (i := 4) (v := undef) rfl (by kernel_rfl) (by kernel_rfl) (by kernel_rfl) (fun _ _ _ h => h) (Or.inr ⟨by rfl, rfl⟩) hS ?_
          try simp only [Act.put, List.setIfInBounds_toArray, List.set_cons_zero, List.set_cons_succ, List.getElem_toArray, List.getElem_cons_zero, List.getElem_cons_succ]
          refine wpAnyH_take (i := 5) (v := undef) rfl (by kernel_rfl) (by kernel_rfl) (by kernel_rfl) (fun _ _ _ h => h) (Or.inr ⟨by rfl, rfl⟩) hS ?_
          try simp only [Act.put, List.setIfInBounds_toArray, List.set_cons_zero, List.set_cons_succ, List.getElem_toArray, List.getElem_cons_zero, List.getElem_cons_succ]
          refine wpAnyH_take (i := 6) (v := undef) rfl (by kernel_rfl) (by kernel_rfl) (by kernel_rfl) (fun _ _ _ h => h) (Or.inr ⟨by rfl, rfl⟩) hS ?_
          try simp only [Act.put, List.setIfInBounds_toArray, List.set_cons_zero, List.set_cons_succ, List.getElem_toArray, List.getElem_cons_zero, List.getElem_cons_succ]
          refine wpAnyH_take (i := 7) (v := undef) rfl (by kernel_rfl) (by kernel_rfl) (by kernel_rfl) (fun _ _ _ h => h) (Or.inr ⟨by rfl, rfl⟩) hS ?_
          try simp only [Act.put, List.setIfInBounds_toArray, List.set_cons_zero, List.set_cons_succ, List.getElem_toArray, List.getElem_cons_zero, List.getElem_cons_succ]
          have HI6 := Lib.hid (HJ.out.below (Below.refl _ _).drew)
          refine wpAnyH_take (i := 8) (v := ?_) rfl (by kernel_rfl) (by kernel_rfl) (by kernel_rfl) (fun _ _ _ h => h) (Or.inl ⟨by rfl, ?_⟩) hS ?_
          rotate_left
          · intro W' hS'
            go_simp
            rfl
          try simp only [Act.put, List.setIfInBounds_toArray, List.set_cons_zero, List.set_cons_succ, List.getElem_toArray, List.getElem_cons_zero, List.getElem_cons_succ]
          refine wpAnyH_ready (rs := [9]) (by kernel_rfl) (by simp) (AllReadyH.cons rfl (fun K hK => ?_) AllReadyH.nil)
          go_simp
          refine (HCA.out _ _ _ HI6.out).mono ?_
          rintro e w7 ⟨rfl, Av7, cv7, hi7⟩
          have HI7 := Lib.hid hi7
          clear hi7
          refine hK.out _ _ (HS6.out _ HI7.out) (fun hS => ?_)
          try simp only [Act.put, List.setIfInBounds_toArray, List.set_cons_zero, List.set_cons_succ, List.getElem_toArray, List.getElem_cons_zero, List.getElem_cons_succ]
          clear hK
          refine wpAnyH_take (i := 10) (v := ?_) rfl (by kernel_rfl) (by kernel_rfl) (by kernel_rfl) (fun _ _ _ h => h) (Or.inl ⟨by rfl, ?_⟩) hS ?_
          rotate_left
          · intro W' hS'
            go_simp
            rfl
          try simp only [Act.put, List.setIfInBounds_toArray, List.set_cons_zero, List.set_cons_succ, List.getElem_toArray, List.getElem_cons_zero, List.getElem_cons_succ]
          refine wpAnyH_done (by kernel_rfl) ?_ _
          clear hS
          go_wp2_with fail
          go_roundw
          case rel => exact ⟨e1, f', dn ++ b1, b2, by omega, HE1.out, by omega, by have := HL1.out.2; rw [List.length_append]; omega, by go_num, Lib.hid ⟨by rw [List.append_assoc, HB4.out]; exact HBS.out, _, _, by have h := HI7.out; rw [HBK.out] at h; simpa using h⟩⟩
          case measure => simp [intOf]; have := HL1.out.1; omega
      · as_aux_lemma =>
        rw [hbx, Bool.true_and] at hdn
        obtain ⟨e1, b1, e2, b2, h1, h2, h3, h4⟩ : ∃ e1 b1 e2 b2, dnG l.length (Pl l) (K3l l) (rootX l) f' k (k + 1) (!rv) = some (e1, b1) ∧ dnG l.length (Pl l) (K3l l) (rootX l) f' i e1 b = some (e2, b2) ∧ e2 = e ∧ (k :: b1) ++ b2 = br := by
          cases g1 : dnG l.length (Pl l) (K3l l) (rootX l) f' k (k + 1) (!rv) with
          | none => rw [g1] at hdn; cases hdn
          | some p =>
            obtain ⟨e1, b1⟩ := p
            rw [g1] at hdn
            simp only [] at hdn
            cases g2 : dnG l.length (Pl l) (K3l l) (rootX l) f' i e1 b with
            | none => rw [g2] at hdn; cases hdn
            | some p =>
              obtain ⟨e2, b2⟩ := p
              rw [g2] at hdn
              injection hdn with hdn
              injection hdn with h3 h4
              exact ⟨e1, b1, e2, b2, rfl, g2, h3, by simpa using h4⟩
        subst h3
        have HL1 := Lib.hid (dnG_len _ _ _ _ _ _ h1)
        have HE1 := Lib.hid h2
        have HB4 := Lib.hid h4
        have HCA := Lib.hid (fun W' Av cv (h : InJ w bt bb l (some ad) A2 c m c2 view (BK ++ [k]) Av cv W') => HIH.out f' (by omega) k (!rv) (BK ++ [k]) Av cv W' e1 b1 h hkl (by rw [List.length_append]; simp; omega) h1)
        have hle1 := HL1.out.1
        have hbt : b = true ∧ (kd == 3) = false := by cases b <;> simp_all
        obtain ⟨rfl, e3⟩ := hbt
        have e3n : (kd != 3) = true := by rw [bne, e3]; rfl
        clear hdn h1 h2 h4 hk3 hbx
        go_upto_region 6 with (at_builtin; refine wpList_appG (m := 1) rfl _ _ rfl el_int2 HJ.out.o HSZ.out rfl [.int .i64 (k : Int)] rfl rfl rfl (by simp [Value.oneCell']) hBK9 (by omega) ?_; intro A' c' w4 hown hB hg hob; have HIo := Lib.hid (HJ.out.app k hown hg (fun B' w0 h1 h2 => hB B' w0 h1 h2)); have HBW := HJ.out.b.grown hg (own_far HJ.out.o (by omega)); have cb' := HBW.c1; have fb' := HBW.frozen 0; clear hown hB hg hob HBW)
        clear cb' fb' cb hzb
        generalize World.setCell w4 _ _ = w5 at HIo ⊢
        have HI5 := HIo
        have HE6 := Lib.hid (HS6.out _ (HI5.out.below (Below.refl _ _).drew))
        clear t0 t1 t2 y0 y1
        go_wp2_with fail
        refine wp_region_held_drew (S := fun W' => W'.cell? ⟨bb + 1, 0, none⟩ = some (.func (.func 119) #[] #[.pointer (some ⟨bt, 0, none⟩), .pointer (some ⟨bb, 0, none⟩), .pointer (some ⟨bb + 1, 0, none⟩)]) ∧ W'.cell? ⟨bt, 0, none⟩ = some (.slice (some ad) l.length c) ∧ W'.cell? ⟨bt, 1, none⟩ = some (.slice A2 m c2) ∧ W'.cell? ⟨bt, 2, none⟩ = some (.int .i64 view)) (by kernel_rfl) HE6.out (fun hS => ?_)
        refine wpAnyH_take (i := 0) (v := ?_) rfl (by kernel_rfl) (by kernel_rfl) (by kernel_rfl) (fun _ _ _ h => h) (Or.inl ⟨by rfl, ?_⟩) hS ?_
        rotate_left
        · intro W' hS'
          go_simp
          rfl
        try simp only [Act.put, List.setIfInBounds_toArray, List.set_cons_zero, List.set_cons_succ, List.getElem_toArray, List.getElem_cons_zero, List.getElem_cons_succ]
        refine wpAnyH_take (i := 1) (v := ?_) rfl (by kernel_rfl) (by kernel_rfl) (by kernel_rfl) (fun _ _ _ h => h) (Or.inl ⟨by rfl, ?_⟩) hS ?_
        rotate_left
        · intro W' hS'
          go_simp
          rfl
        try simp only [Act.put, List.setIfInBounds_toArray, List.set_cons_zero, List.set_cons_succ, List.getElem_toArray, List.getElem_cons_zero, List.getElem_cons_succ]
        refine wpAnyH_take (i := 2) (v := ?_) rfl (by kernel_rfl) (by kernel_rfl) (by kernel_rfl) (fun _ _ _ h => h) (Or.inl ⟨by rfl, ?_⟩) hS ?_
        rotate_left
        · intro W' hS'
          go_simp
          rfl
        try simp only [Act.put, List.setIfInBounds_toArray, List.set_cons_zero, List.set_cons_succ, List.getElem_toArray, List.getElem_cons_zero, List.getElem_cons_succ]
        refine wpAnyH_take (i := 3) (v := ?_) rfl (by kernel_rfl) (by kernel_rfl) (by kernel_rfl) (fun _ _ _ h => h) (Or.inl ⟨by rfl, ?_⟩) hS ?_
        rotate_left
        · intro W' hS'
          go_simp
          rfl
        try simp only [Act.put, List.setIfInBounds_toArray, List.set_cons_zero, List.set_cons_succ, List.getElem_toArray, List.getElem_cons_zero, List.getElem_cons_succ]
        refine wpAnyH_take (i := 4) (v := ?_) rfl (by kernel_rfl) (by kernel_rfl) (by kernel_rfl) (fun _ _ _ h => h) (Or.inl ⟨by rfl, ?_⟩) hS ?_
        rotate_left
        · intro W' hS'
          go_simp
          rfl
        try simp only [Act.put, List.setIfInBounds_toArray, List.set_cons_zero, List.set_cons_succ, List.getElem_toArray, List.getElem_cons_zero, List.getElem_cons_succ]
        refine wpAnyH_take (i := 5) (v := ?_) rfl (by kernel_rfl) (by kernel_rfl) (by kernel_rfl) (fun _ _ _ h => h) (Or.inl ⟨by rfl, ?_⟩) hS ?_
        rotate_left
        · intro W' hS'
          go_simp
          rfl
        try simp only [Act.put, List.setIfInBounds_toArray, List.set_cons_zero, List.set_cons_succ, List.getElem_toArray, List.getElem_cons_zero, List.getElem_cons_succ]
        refine wpAnyH_ready (rs := [6]) (by kernel_rfl) (by simp) (AllReadyH.cons rfl (fun K hK => ?_) AllReadyH.nil)
        go_simp
        refine (HRT.out _ (HI5.out.below (Below.refl _ _).drew).l).mono ?_
        rintro e w6 ⟨rfl, hb6⟩
        have HI6 := Lib.hid (HI5.out.below ((Below.refl _ _).drew.trans (hb6.mono (Nat.le_refl _))))
        clear hb6
        refine hK.out _ _ (HS6.out _ HI6.out) (fun hS => ?_)
        try simp only [Act.put, List.setIfInBounds_toArray, List.set_cons_zero, List.set_cons_succ, List.getElem_toArray, List.getElem_cons_zero, List.getElem_cons_succ]
        clear hK
        refine wpAnyH_take (i := 7) (v := ?_) rfl (by kernel_rfl) (by kernel_rfl) (by kernel_rfl) (fun _ _ _ h => h) (Or.inl ⟨by rfl, ?_⟩) hS ?_
        rotate_left
        · intro W' hS'
          go_simp
          rfl
        try simp only [Act.put, List.setIfInBounds_toArray, List.set_cons_zero, List.set_cons_succ, List.getElem_toArray, List.getElem_cons_zero, List.getElem_cons_succ]
        refine wpAnyH_take (i := 8) (v := ?_) rfl (by kernel_rfl) (by kernel_rfl) (by kernel_rfl) (fun _ _ _ h => h) (Or.inl ⟨by rfl, ?_⟩) hS ?_
        rotate_left
        · intro W' hS'
          go_simp
          rfl
        try simp only [Act.put, List.setIfInBounds_toArray, List.set_cons_zero, List.set_cons_succ, List.getElem_toArray, List.getElem_cons_zero, List.getElem_cons_succ]
        refine wpAnyH_ready (rs := [9]) (by kernel_rfl) (by simp) (AllReadyH.cons rfl (fun K hK => ?_) AllReadyH.nil)
        go_simp
        refine (HCA.out _ _ _ HI6.out).mono ?_
        rintro e w7 ⟨rfl, Av7, cv7, hi7⟩
        have HI7 := Lib.hid hi7
        clear hi7
        refine hK.out _ _ (HS6.out _ HI7.out) (fun hS => ?_)
        try simp only [Act.put, List.setIfInBounds_toArray, List.set_cons_zero, List.set_cons_succ, List.getElem_toArray, List.getElem_cons_zero, List.getElem_cons_succ]
        clear hK
        refine wpAnyH_take (i := 10) (v := ?_) rfl (by kernel_rfl) (by kernel_rfl) (by kernel_rfl) (fun _ _ _ h => h) (Or.inl ⟨by rfl, ?_⟩) hS ?_
        rotate_left
        · intro W' hS'
          go_simp
          rfl
        try simp only [Act.put, List.setIfInBounds_toArray, List.set_cons_zero, List.set_cons_succ, List.getElem_toArray, List.getElem_cons_zero, List.getElem_cons_succ]
        refine wpAnyH_done (by kernel_rfl) ?_ _
        clear hS
        go_wp2_with fail
        go_roundw
        case rel => exact ⟨e1, f', dn ++ (k :: b1), b2, by omega, HE1.out, by omega, by have := HL1.out.2; rw [List.length_append, List.length_cons]; omega, by go_num, Lib.hid ⟨by rw [List.append_assoc, HB4.out]; exact HBS.out, _, _, by have h := HI7.out; rw [HBK.out] at h; simpa using h⟩⟩
        case measure => simp [intOf]; have := HL1.out.1; omega
    · rw [if_neg hc] at hdn
      injection hdn with hdn
      injection hdn with h3 h4
      have HEE : Hid (k = e ∧ br = []) := Lib.hid ⟨h3, h4.symm⟩
      clear h3 h4
      by_cases hkl : k < l.length
      · as_aux_lemma =>
        have d1 : decide ((k : Int) < (l.length : Int)) = true := decide_eq_true (by omega)
        have d1' : decide (k < l.length) = true := decide_eq_true hkl
        obtain ⟨ad, hA, hnd⟩ := (HR.out.below HJ.out.l).nd rfl hkl
        obtain ⟨y0, -, -, -⟩ := nd_cG hnd
        have hb : ad.block < w.heap.size := by have := hnd.lt; rwa [block_of_add] at this
        obtain ⟨P, hP⟩ : ∃ P, P = l[k].parent := ⟨_, rfl⟩
        have hp0 := HP.out k hkl (by omega)
        have d2 : (P == (i : Int)) = false := by
          refine beq_eq_false_iff_ne.2 fun e => hc ⟨hkl, ?_⟩
          unfold Pl
          rw [List.getElem?_eq_getElem hkl]
          simp only [Option.map_some, Option.getD_some]
          rw [← hP, e]; simp
        rw [← hP] at y0
        have hk1 : (k : Int) < (l.length : Int) := by omega
        subst hA
        clear hnd hP hc hp0
        go_wp2_with fail
        go_ret
        exact ⟨by rw [HEE.out.1]; rfl, _, _, by have h := HBS.out; rw [HEE.out.2, List.append_nil] at h; rw [← h, ← HBK.out]; exact HJ.out⟩
      · as_aux_lemma =>
        have d1 : decide ((k : Int) < (l.length : Int)) = false := decide_eq_false (by omega)
        have d1' : decide (k < l.length) = false := decide_eq_false hkl
        go_wp2_with fail
        go_ret
        exact ⟨by rw [HEE.out.1]; rfl, _, _, by have h := HBS.out; rw [HEE.out.2, List.append_nil] at h; rw [← h, ← HBK.out]; exact HJ.out⟩
set_option maxRecDepth 100000 in
set_option maxHeartbeats 4000000 in
theorem insideG_any (r : Nat) (hl : r < l.length) (hn : l.length ≤ 65536) (hr : Reads w w.heap.size 44 A l.length (ndsCells l)) (hpar : ∀ i (h : i < l.length), 0 < i → 0 ≤ l[i].parent) (hrt : rootX l r = true) (f e : Nat) (bs : List Nat) (he : dnG l.length (Pl l) (K3l l) (rootX l) f r (r + 1) true = some (e, bs)) :
    Calls Tryz.prog 63 #[.agg #[.slice A l.length c, .slice A2 m c2, .int .i64 view], .int .i64 r] w fun en w' => ∃ Av cv, en = .returned (.slice Av bs.length cv) ∧ w'.ownsRow w.heap.size 3 1 (.slice Av bs.length cv) bs.length (bs.map fun (i : Nat) => Value.int .i64 i) ∧ Below w.heap.size w w' := by
  have HD := Lib.hid (fun bb Av cv W (h : InJ w w.heap.size bb l A A2 c m c2 view [] Av cv W) => downG_any w w.heap.size bb l A A2 c m c2 view hn hr hpar f r true [] Av cv W e bs h hl (by simp) he)
  have HRT := Lib.hid (fun W' (hb : Below w.heap.size w W') => rootG_any l A A2 c m c2 view W' r hl hn ((hr.below hb).more hb.size))
  rw [hrt] at HRT
  clear hr hpar he hrt
  go_enter Tryz.func63, Tryz.ntmps63
  have HT0 : Hid (Blk (w.alloc (.cells #[.slice A l.length c, .slice A2 m c2, .int .i64 view] 25)) w.heap.size 25 #[.slice A l.length c, .slice A2 m c2, .int .i64 view]) := Lib.hid (Blk.new _ _ _)
  have q1 := Lib.hid (HRT.out (w.alloc (.cells #[.slice A l.length c, .slice A2 m c2, .int .i64 view] 25)) ((Below.refl _ _).alloc (Nat.le_refl _) _))
  go_upto_region 3 with (go_at_call 36; refine q1.out.mono ?_; rintro e w1 ⟨rfl, hb1⟩; have HB1 := Lib.hid hb1; clear hb1)
  have HT1 : Hid (Blk w1 w.heap.size 25 #[.slice A l.length c, .slice A2 m c2, .int .i64 view]) := Lib.hid (HT0.out.below HB1.out (by simp))
  have HL1 : Hid (Below w.heap.size w w1) := Lib.hid (((Below.refl _ _).alloc (Nat.le_refl _) _).trans (HB1.out.mono (by simp)))
  have HZ1 : Hid (w.heap.size < w1.heap.size) := Lib.hid (HT1.out.lt)
  go_upto_region 6 with (fail)
  obtain ⟨w2, hw2⟩ : ∃ w2, w2 = (w1.alloc (.cells #[.slice none 0 0] 50)).alloc (.cells #[.func (.func 119) #[] #[.pointer (some ⟨w.heap.size, 0, none⟩), .pointer (some ⟨w1.heap.size, 0, none⟩), .pointer (some ⟨w1.heap.size + 1, 0, none⟩)]] 171) := ⟨_, rfl⟩
  have HI2 : Hid (InJ w w.heap.size w1.heap.size l A A2 c m c2 view [] none 0 w2) := Lib.hid (by
    rw [hw2]
    exact ⟨(HT1.out.alloc _).alloc _, (Blk.new _ _ _).alloc _, Blk.at_ _ _ _ (by simp), ⟨by simp, .inl ⟨rfl, rfl⟩⟩, (HL1.out.alloc HL1.out.size _).alloc (by have := HL1.out.size; simp; omega) _, HZ1.out, Nat.le_refl _⟩)
  rw [← hw2]
  have q2 := Lib.hid (HD.out _ _ _ _ HI2.out)
  have d0 := HI2.out.d.c1
  clear hw2 HT1 HL1 HT0 HB1 q1
  go_upto_region 7 with (go_at_call 119; refine q2.out.mono ?_; rintro e w3 ⟨rfl, Av, cv, hi3⟩; have HI3 : Hid (InJ w w.heap.size w1.heap.size l A A2 c m c2 view bs Av cv w3) := Lib.hid (by simpa using hi3); clear hi3)
  have b0 := HI3.out.b.c1
  go_wp2_with fail
  go_ret
  have ho := HI3.out.o
  exact ⟨Av, cv, rfl, own_lowerG ho (by have := HZ1.out; omega), HI3.out.l⟩
end
end Go.Proofs.YtjhfcpadnofdnaaGreat
