/- Contracts: islands.Inside. -/
import Derived.Test.YtlebbkhhhmempaaFi
set_option linter.unusedSimpArgs false
set_option linter.unusedVariables false
namespace Go.Proofs.Ytlebbkhhhmempaa
open Go.RowKit
attribute [local go_sem] block_of_add
theorem run_store_fn {P : Program} {w : World} {a : Addr} {m : Mode} (F : Fn) (b l : Array Value) : (store a (.func F b l) m).run P w = stored P w a (.func F b l) m := run_store P w a _ m rfl
attribute [local go_sem] run_store_fn
theorem own_lower {w : World} {base base' : Nat} {e : TypeId} {size n : Nat} {v : Value} {xs : List Value} (h : w.ownsRow base e size v n xs) (hb : base' ≤ base) : w.ownsRow base' e size v n xs := ⟨h.1, h.2.elim .inl (fun ⟨g, cap, cur, a, b, r⟩ => .inr ⟨g, cap, cur, a, Nat.le_trans hb b, r⟩)⟩
def parN (l : List Nd) (k : Nat) : Option Int := (l[k]?).map (·.parent)
def fltN (l : List Nd) (k : Nat) : Int := ((l[k]?).map (·.s.float)).getD 0
/-- Behind the children of i from k on: the first node that is none of them; none, if one that floats has children (or no fuel is left). -/
def dnF : Nat → List Nd → Nat → Nat → Option Nat
  | 0, _, _, _ => none
  | f + 1, l, i, k =>
    if parN l k = some (i : Int) then
      if fltN l k ≠ 0 then (if parN l (k + 1) = some (k : Int) then none else dnF f l i (k + 1))
      else match dnF f l k (k + 1) with
        | none => none
        | some e => dnF f l i e
    else some k
theorem dnF_le (l : List Nd) : ∀ (f i k e : Nat), dnF f l i k = some e → k ≤ e := by
  intro f
  induction f with
  | zero => intro i k e h; simp [dnF] at h
  | succ f ih =>
    intro i k e h
    unfold dnF at h
    split at h
    · split at h
      · split at h
        · simp at h
        · have := ih _ _ _ h; omega
      · split at h
        · simp at h
        · rename_i e1 h1
          have := ih _ _ _ h1
          have := ih _ _ _ h
          omega
    · simp at h; omega
structure InI (w : World) (bt bb : Nat) (l : List Nd) (A A2 : Option Addr) (c m c2 : Nat) (view : Int) (B : List Nat) (Av : Option Addr) (cv : Nat) (W : World) : Prop where
  t : Blk W bt 25 #[.slice A l.length c, .slice A2 m c2, .int .i64 view]
  b : Blk W bb 36 #[.slice Av B.length cv]
  d : Blk W (bb + 1) 153 #[.func (.func 68) #[] #[.pointer (some ⟨bt, 0, none⟩), .pointer (some ⟨bb, 0, none⟩), .pointer (some ⟨bb + 1, 0, none⟩)]]
  o : W.ownsRow (bb + 1 + 1) 3 1 (.slice Av B.length cv) B.length (B.map fun (i : Nat) => Value.int .i64 i)
  l : Below w.heap.size w W
  lt : bt < bb ∧ w.heap.size ≤ bt
theorem InI.below {w : World} {bt bb : Nat} {l : List Nd} {A A2 : Option Addr} {c m c2 : Nat} {view : Int} {B : List Nat} {Av : Option Addr} {cv : Nat} {W W' : World} (h : InI w bt bb l A A2 c m c2 view B Av cv W) (hb : Below W.heap.size W W') : InI w bt bb l A A2 c m c2 view B Av cv W' :=
  ⟨h.t.below hb h.t.lt, h.b.below hb h.b.lt, h.d.below hb h.d.lt, own_below h.o hb, h.l.trans (hb.mono h.l.size), h.lt⟩
theorem InI.app {w : World} {bt bb : Nat} {l : List Nd} {A A2 : Option Addr} {c m c2 : Nat} {view : Int} {B : List Nat} {Av : Option Addr} {cv : Nat} {W W' : World} (h : InI w bt bb l A A2 c m c2 view B Av cv W) {A' : Option Addr} {c' : Nat} (k : Nat) (hown : W'.ownsRow (bb + 1 + 1) 3 1 (.slice A' (B.length + 1) c') (B.length + 1) ((B.map fun (i : Nat) => Value.int .i64 i) ++ [.int .i64 k])) (hg : W.grownBy W' (Value.slice Av B.length cv).ownBlock)
    (hB : ∀ B' w0, B' ≤ bb + 1 + 1 → Below B' w0 W → Below B' w0 W') : InI w bt bb l A A2 c m c2 view (B ++ [k]) A' c' (W'.setCell ⟨bb, 0, none⟩ (.slice A' (B.length + 1) c')) := by
  have e1 : (B ++ [k]).length = B.length + 1 := by simp
  have hlt := h.lt
  refine ⟨(h.t.grown hg (own_far h.o (by omega))).far (by simp; omega) _, ?_, (h.d.grown hg (own_far h.o (by omega))).far (by simp) _, ?_, (hB _ _ (by omega) h.l).setCell (p := ⟨bb, 0, none⟩) (by simp; omega) _, hlt⟩
  · rw [e1]; exact (h.b.grown hg (own_far h.o (by omega))).set_ 0 _
  · rw [e1, List.map_append]; exact ownsRow_setCell_below hown (a := ⟨bb, 0, none⟩) (by show bb < bb + 1 + 1; omega) _
section
variable (w : World) (bt bb : Nat) (l : List Nd) (A A2 : Option Addr) (c m c2 : Nat) (view : Int)
set_option maxRecDepth 100000 in
set_option maxHeartbeats 1000000 in
theorem leaf_any (B : List Nat) (Av : Option Addr) (cv : Nat) (W : World) (h : InI w bt bb l A A2 c m c2 view B Av cv W) (k : Nat) (hk : k < l.length) (hn : l.length ≤ 4096) (hr : Reads w w.heap.size 44 A l.length (ndsCells l)) (hp : ¬ parN l (k + 1) = some (k : Int)) :
    Calls Try.prog 68 #[.int .i64 k, .bool false, .pointer (some ⟨bt, 0, none⟩), .pointer (some ⟨bb, 0, none⟩), .pointer (some ⟨bb + 1, 0, none⟩)] W fun e w' => e = .returned (.int .i64 ((k + 1 : Nat) : Int)) ∧ InI w bt bb l A A2 c m c2 view B Av cv w' := by
  have hwk : IntKind.i64.wrap ((k : Int) + 1) = (k : Int) + 1 := IntWalk.i64_in _ ⟨by omega, by omega⟩
  obtain ⟨t0, t1, t2⟩ := h.t.c3
  have HI := Lib.hid h
  by_cases hlt : k + 1 < l.length
  · have d1 : decide ((k : Int) + 1 < (l.length : Int)) = true := decide_eq_true (by omega)
    obtain ⟨ad, rfl, hnd⟩ := (hr.below h.l).nd rfl hlt
    have y0 := (nd_c hnd).1
    have hb : ad.block < w.heap.size := by have := hnd.lt; rwa [block_of_add] at this
    have d2 : (l[k + 1].parent == (k : Int)) = false := by
      simp only [parN, List.getElem?_eq_getElem hlt, Option.map_some] at hp
      simpa using hp
    obtain ⟨P, hP⟩ : ∃ P, P = l[k + 1].parent := ⟨_, rfl⟩
    rw [← hP] at d2 y0
    have y0' : W.cell? (ad.add ((k + 1) * 44)) = some (.int .i64 P) := y0
    have hk1 : (k : Int) + 1 < (l.length : Int) := by omega
    have hk0 : (0 : Int) ≤ (k : Int) + 1 := by omega
    have hk2 : ((k : Int) + 1).toNat = k + 1 := by omega
    clear hp hP hr h hnd
    go_enter Try.func68, Try.ntmps68
    go_wp2_with fail
    go_loopw [8] (fun q wr => q = .int .i64 ((k + 1 : Nat) : Int) ∧ wr = W) (fun _ _ => 0)
    case atStart => exact ⟨by go_num, rfl⟩
    case round =>
      obtain ⟨rfl, rfl⟩ := hrel
      go_wp2_with fail
      go_ret
      exact ⟨by go_num, HI.out⟩
  · have d1 : decide ((k : Int) + 1 < (l.length : Int)) = false := decide_eq_false (by omega)
    clear hr h
    go_enter Try.func68, Try.ntmps68
    go_wp2_with fail
    go_loopw [8] (fun q wr => q = .int .i64 ((k + 1 : Nat) : Int) ∧ wr = W) (fun _ _ => 0)
    case atStart => exact ⟨by go_num, rfl⟩
    case round =>
      obtain ⟨rfl, rfl⟩ := hrel
      go_wp2_with fail
      go_ret
      exact ⟨by go_num, HI.out⟩
set_option maxRecDepth 100000 in
set_option maxHeartbeats 2000000 in
theorem down_any (hn : l.length ≤ 4096) (hr : Reads w w.heap.size 44 A l.length (ndsCells l)) (hs : ∀ x ∈ l, StyT x.s) (hpar : ∀ i (h : i < l.length), 0 < i → 0 ≤ l[i].parent ∧ l[i].parent < i) : ∀ (f i : Nat) (B : List Nat) (Av : Option Addr) (cv : Nat) (W : World) (e : Nat), InI w bt bb l A A2 c m c2 view B Av cv W → i < l.length → B.length ≤ i → dnF f l i (i + 1) = some e →
    Calls Try.prog 68 #[.int .i64 i, .bool true, .pointer (some ⟨bt, 0, none⟩), .pointer (some ⟨bb, 0, none⟩), .pointer (some ⟨bb + 1, 0, none⟩)] W fun en w' => en = .returned (.int .i64 e) ∧ ∃ Av' cv', InI w bt bb l A A2 c m c2 view (B ++ List.range' (i + 1) (e - (i + 1))) Av' cv' w' := by
  intro f
  induction f using Nat.strongRecOn with
  | _ f IH =>
  intro i B Av cv W e h hi hBi he
  have HI := Lib.hid h
  have HIH := Lib.hid IH
  have HE := Lib.hid he
  have hwk : IntKind.i64.wrap ((i : Int) + 1) = (i : Int) + 1 := IntWalk.i64_in _ ⟨by omega, by omega⟩
  obtain ⟨t0, t1, t2⟩ := h.t.c3
  have HR := Lib.hid hr
  have HS := Lib.hid hs
  have HP := Lib.hid hpar
  clear h IH he hr hs hpar
  go_enter Try.func68, Try.ntmps68
  go_wp2_with fail
  go_loopw [8] (fun q wr => ∃ k f' : Nat, i < k ∧ dnF f' l i k = some e ∧ f' ≤ f ∧ q = .int .i64 (k : Int) ∧ Hid (∃ Av cv, InI w bt bb l A A2 c m c2 view (B ++ List.range' (i + 1) (k - (i + 1))) Av cv wr)) (fun q _ => l.length + 1 - (intOf q).toNat)
  case atStart => exact ⟨i + 1, f, by omega, HE.out, by omega, by go_num, Lib.hid ⟨_, _, by rw [Nat.sub_self]; simpa using HI.out⟩⟩
  case round =>
    obtain ⟨k, f1, hik, hdn, hff, rfl, HH⟩ := hrel
    obtain ⟨Ak, ck, hik2⟩ := HH.out
    clear t0 t1 t2
    obtain ⟨t0, t1, t2⟩ := hik2.t.c3
    obtain ⟨BK, hBK⟩ : ∃ BK, BK = B ++ List.range' (i + 1) (k - (i + 1)) := ⟨_, rfl⟩
    rw [← hBK] at hik2
    have HBL : Hid (BK.length = B.length + (k - (i + 1))) := Lib.hid (by rw [hBK]; simp)
    have HBK := Lib.hid hBK
    have HJ := Lib.hid hik2
    clear hik2 HH hBK
    obtain ⟨f', rfl⟩ : ∃ f', f1 = f' + 1 := by
      cases f1 with
      | zero => simp [dnF] at hdn
      | succ f' => exact ⟨f', rfl⟩
    unfold dnF at hdn
    by_cases hpk : parN l k = some (i : Int)
    · rw [if_pos hpk] at hdn
      have hkl : k < l.length := by
        rcases Nat.lt_or_ge k l.length with h | h
        · exact h
        · unfold parN at hpk; rw [List.getElem?_eq_none h] at hpk; simp at hpk
      have d1 : decide ((k : Int) < (l.length : Int)) = true := decide_eq_true (by omega)
      have d1' : decide (k < l.length) = true := decide_eq_true hkl
      obtain ⟨ad, hA, hnd⟩ := (HR.out.below HJ.out.l).nd rfl hkl
      obtain ⟨y0, y1, -, -⟩ := nd_c hnd
      rw [(HS.out _ (List.getElem_mem hkl)).kind] at y1
      have hb : ad.block < w.heap.size := by have := hnd.lt; rwa [block_of_add] at this
      have hpe : l[k].parent = (i : Int) := by unfold parN at hpk; rw [List.getElem?_eq_getElem hkl] at hpk; simpa using hpk
      have hfe : fltN l k = l[k].s.float := by unfold fltN; rw [List.getElem?_eq_getElem hkl]; rfl
      rw [hpe] at y0
      have hk1 : (k : Int) < (l.length : Int) := by omega
      have hBKl : BK.length ≤ k := by have := HBL.out; omega
      have hBK9 : BK.length + 1 ≤ 4294967296 := by omega
      have HFE := Lib.hid hfe
      have HRT := Lib.hid (fun W' (hb : Below w.heap.size w W') => rootT_any l A A2 c m c2 view W' k hkl hn ((HR.out.below hb).more hb.size) (HP.out k hkl) HS.out)
      have hrf : rootF l k = decide (l[k].s.float ≠ 0) := by unfold rootF styF; rw [List.getElem?_eq_getElem hkl]; simp; omega
      rw [hrf] at HRT
      have HS6 : Hid (∀ W' {B Av cv}, InI w bt bb l A A2 c m c2 view B Av cv W' → (fun W' => W'.cell? ⟨bb + 1, 0, none⟩ = some (.func (.func 68) #[] #[.pointer (some ⟨bt, 0, none⟩), .pointer (some ⟨bb, 0, none⟩), .pointer (some ⟨bb + 1, 0, none⟩)]) ∧ W'.cell? ⟨bt, 0, none⟩ = some (.slice A l.length c) ∧ W'.cell? ⟨bt, 1, none⟩ = some (.slice A2 m c2) ∧ W'.cell? ⟨bt, 2, none⟩ = some (.int .i64 view)) W') := Lib.hid (fun W' {B Av cv} h => ⟨h.d.c1, h.t.c3⟩)
      subst hA
      clear hnd hpe hrf hpk hfe
      obtain ⟨fv, hfv⟩ : ∃ fv, fv = l[k].s.float := ⟨_, rfl⟩
      rw [← hfv] at HRT HFE
      rw [HFE.out] at hdn
      have cb := HJ.out.b.c1
      have hzb : bb < wr.heap.size := HJ.out.b.lt
      have HSZ : Hid (bb + 1 + 1 ≤ wr.heap.size) := Lib.hid (by have := HJ.out.d.lt; omega)
      clear hfv
      go_upto_region 6 with (at_builtin; refine wpList_appG (m := 1) rfl _ _ rfl el_int2 HJ.out.o HSZ.out rfl [.int .i64 (k : Int)] rfl rfl rfl (by simp [Value.oneCell']) hBK9 (by omega) ?_; intro A' c' w4 hown hB hg hob; have HIo := Lib.hid (HJ.out.app k hown hg (fun B' w0 h1 h2 => hB B' w0 h1 h2)); have HBW := HJ.out.b.grown hg (own_far HJ.out.o (by omega)); have cb' := HBW.c1; have fb' := HBW.frozen 0; clear hown hB hg hob HBW)
      clear cb' fb' cb hzb
      generalize World.setCell w4 _ _ = w5 at HIo ⊢
      have HI5 := HIo
      have HBN0 : Hid (BK ++ [k] = B ++ List.range' (i + 1) (k + 1 - (i + 1))) := Lib.hid (by
        rw [HBK.out, List.append_assoc]; congr 1
        rw [show k + 1 - (i + 1) = (k - (i + 1)) + 1 by omega, List.range'_concat]; congr 1; simp; omega)
      have HE6 := Lib.hid (HS6.out _ (HI5.out.below (Below.refl _ _).drew))
      clear t0 t1 t2 y0 y1
      by_cases hf0 : fv = 0
      · have HRT' := HRT
        clear HRT
        have HRT : Hid (∀ W', Below w.heap.size w W' → Calls Try.prog 39 #[.agg #[.slice (some ad) l.length c, .slice A2 m c2, .int .i64 view], .int .i64 k] W' fun e w' => e = .returned (.bool false) ∧ Below W'.heap.size W' w') := Lib.hid (fun W' h => by have := HRT'.out W' h; rw [show decide (fv ≠ 0) = false by simp [hf0]] at this; exact this)
        rw [if_neg (by simp [hf0])] at hdn
        obtain ⟨e1, hd1, hd2⟩ : ∃ e1, dnF f' l k (k + 1) = some e1 ∧ dnF f' l i e1 = some e := by
          cases h1 : dnF f' l k (k + 1) with
          | none => rw [h1] at hdn; simp at hdn
          | some e1 => rw [h1] at hdn; exact ⟨e1, rfl, hdn⟩
        have HE1 := Lib.hid hd2
        have HLE := Lib.hid (dnF_le _ _ _ _ _ hd1)
        have HCA := Lib.hid (fun W' Av cv (h : InI w bt bb l (some ad) A2 c m c2 view (BK ++ [k]) Av cv W') => HIH.out f' (by omega) k (BK ++ [k]) Av cv W' e1 h hkl (by have := HBL.out; simp; omega) hd1)
        have HBN : Hid ((BK ++ [k]) ++ List.range' (k + 1) (e1 - (k + 1)) = B ++ List.range' (i + 1) (e1 - (i + 1))) := Lib.hid (by
          rw [HBN0.out, List.append_assoc]; congr 1
          have := HLE.out
          rw [show e1 - (i + 1) = (k + 1 - (i + 1)) + (e1 - (k + 1)) by omega, ← List.range'_append_1]
          congr 2; omega)
        have hle1 := HLE.out
        clear hdn hd1 hd2 hf0 HRT'
        go_wp2_with fail
        refine wp_region_held_drew (S := fun W' => W'.cell? ⟨bb + 1, 0, none⟩ = some (.func (.func 68) #[] #[.pointer (some ⟨bt, 0, none⟩), .pointer (some ⟨bb, 0, none⟩), .pointer (some ⟨bb + 1, 0, none⟩)]) ∧ W'.cell? ⟨bt, 0, none⟩ = some (.slice (some ad) l.length c) ∧ W'.cell? ⟨bt, 1, none⟩ = some (.slice A2 m c2) ∧ W'.cell? ⟨bt, 2, none⟩ = some (.int .i64 view)) (by kernel_rfl) HE6.out (fun hS => ?_)
        refine wpAnyH_take (i := 0) (v := ?_) rfl (by kernel_rfl) (by kernel_rfl) (by kernel_rfl) (fun _ _ _ h => h) (Or.inl ⟨by rfl, ?_⟩) hS ?_
        rotate_left
        · intro W' hS'
          go_simp
          rfl
        try simp only [Act.put, List.setIfInBounds_toArray, List.set_cons_zero, List.set_cons_succ, List.getElem_toArray, List.getElem_cons_zero, List.getElem_cons_succ]
        refine wpAnyH_take (i := 1) (v := ?_) rfl (by kernel_rfl) (by kernel_rfl) (by kernel_rfl) (fun _ _ _ h => h) (Or.inl ⟨by rfl, ?_⟩) hS ?_
        rotate_left
        · intro W' hS'
          go_simp
          rfl
        try simp only [Act.put, List.setIfInBounds_toArray, List.set_cons_zero, List.set_cons_succ, List.getElem_toArray, List.getElem_cons_zero, List.getElem_cons_succ]
        refine wpAnyH_take (i := 2) (v := ?_) rfl (by kernel_rfl) (by kernel_rfl) (by kernel_rfl) (fun _ _ _ h => h) (Or.inl ⟨by rfl, ?_⟩) hS ?_
        rotate_left
        · intro W' hS'
          go_simp
          rfl
        try simp only [Act.put, List.setIfInBounds_toArray, List.set_cons_zero, List.set_cons_succ, List.getElem_toArray, List.getElem_cons_zero, List.getElem_cons_succ]
        refine wpAnyH_take (i := 3) (v := ?_) rfl (by kernel_rfl) (by kernel_rfl) (by kernel_rfl) (fun _ _ _ h => h) (Or.inl ⟨by rfl, ?_⟩) hS ?_
        rotate_left
        · intro W' hS'
          go_simp
          rfl
        try simp only [Act.put, List.setIfInBounds_toArray, List.set_cons_zero, List.set_cons_succ, List.getElem_toArray, List.getElem_cons_zero, List.getElem_cons_succ]
        refine wpAnyH_take (i := 4) (v := ?_) rfl (by kernel_rfl) (by kernel_rfl) (by kernel_rfl) (fun _ _ _ h => h) (Or.inl ⟨by rfl, ?_⟩) hS ?_
        rotate_left
        · intro W' hS'
          go_simp
          rfl
        try simp only [Act.put, List.setIfInBounds_toArray, List.set_cons_zero, List.set_cons_succ, List.getElem_toArray, List.getElem_cons_zero, List.getElem_cons_succ]
        refine wpAnyH_take (i := 5) (v := ?_) rfl (by kernel_rfl) (by kernel_rfl) (by kernel_rfl) (fun _ _ _ h => h) (Or.inl ⟨by rfl, ?_⟩) hS ?_
        rotate_left
        · intro W' hS'
          go_simp
          rfl
        try simp only [Act.put, List.setIfInBounds_toArray, List.set_cons_zero, List.set_cons_succ, List.getElem_toArray, List.getElem_cons_zero, List.getElem_cons_succ]
        refine wpAnyH_ready (rs := [6]) (by kernel_rfl) (by simp) (AllReadyH.cons rfl (fun K hK => ?_) AllReadyH.nil)
        go_simp
        refine (HRT.out _ (HI5.out.below (Below.refl _ _).drew).l).mono ?_
        rintro e w6 ⟨rfl, hb6⟩
        have HI6 := Lib.hid (HI5.out.below ((Below.refl _ _).drew.trans (hb6.mono (Nat.le_refl _))))
        clear hb6
        refine hK.out _ _ (HS6.out _ HI6.out) (fun hS => ?_)
        try simp only [Act.put, List.setIfInBounds_toArray, List.set_cons_zero, List.set_cons_succ, List.getElem_toArray, List.getElem_cons_zero, List.getElem_cons_succ]
        clear hK
        refine wpAnyH_take (i := 7) (v := ?_) rfl (by kernel_rfl) (by kernel_rfl) (by kernel_rfl) (fun _ _ _ h => h) (Or.inl ⟨by rfl, ?_⟩) hS ?_
        rotate_left
        · intro W' hS'
          go_simp
          rfl
        try simp only [Act.put, List.setIfInBounds_toArray, List.set_cons_zero, List.set_cons_succ, List.getElem_toArray, List.getElem_cons_zero, List.getElem_cons_succ]
        refine wpAnyH_take (i := 8) (v := ?_) rfl (by kernel_rfl) (by kernel_rfl) (by kernel_rfl) (fun _ _ _ h => h) (Or.inl ⟨by rfl, ?_⟩) hS ?_
        rotate_left
        · intro W' hS'
          go_simp
          rfl
        try simp only [Act.put, List.setIfInBounds_toArray, List.set_cons_zero, List.set_cons_succ, List.getElem_toArray, List.getElem_cons_zero, List.getElem_cons_succ]
        refine wpAnyH_ready (rs := [9]) (by kernel_rfl) (by simp) (AllReadyH.cons rfl (fun K hK => ?_) AllReadyH.nil)
        go_simp
        refine (HCA.out _ _ _ HI6.out).mono ?_
        rintro e w7 ⟨rfl, Av7, cv7, hi7⟩
        have HI7 := Lib.hid hi7
        clear hi7
        refine hK.out _ _ (HS6.out _ HI7.out) (fun hS => ?_)
        try simp only [Act.put, List.setIfInBounds_toArray, List.set_cons_zero, List.set_cons_succ, List.getElem_toArray, List.getElem_cons_zero, List.getElem_cons_succ]
        clear hK
        refine wpAnyH_take (i := 10) (v := ?_) rfl (by kernel_rfl) (by kernel_rfl) (by kernel_rfl) (fun _ _ _ h => h) (Or.inl ⟨by rfl, ?_⟩) hS ?_
        rotate_left
        · intro W' hS'
          go_simp
          rfl
        try simp only [Act.put, List.setIfInBounds_toArray, List.set_cons_zero, List.set_cons_succ, List.getElem_toArray, List.getElem_cons_zero, List.getElem_cons_succ]
        refine wpAnyH_done (by kernel_rfl) ?_ _
        clear hS
        go_wp2_with fail
        go_roundw
        case rel => exact ⟨e1, f', by omega, HE1.out, by omega, by go_num, Lib.hid ⟨_, _, by rw [← HBN.out]; exact HI7.out⟩⟩
        case measure => simp [intOf]; have := HLE.out; omega
      · have HRT' := HRT
        clear HRT
        have HRT : Hid (∀ W', Below w.heap.size w W' → Calls Try.prog 39 #[.agg #[.slice (some ad) l.length c, .slice A2 m c2, .int .i64 view], .int .i64 k] W' fun e w' => e = .returned (.bool true) ∧ Below W'.heap.size W' w') := Lib.hid (fun W' h => by have := HRT'.out W' h; rw [show decide (fv ≠ 0) = true by simp [hf0]] at this; exact this)
        rw [if_pos (by simpa using hf0)] at hdn
        by_cases hlf : parN l (k + 1) = some (k : Int)
        · rw [if_pos hlf] at hdn; simp at hdn
        rw [if_neg hlf] at hdn
        obtain ⟨e1, he1⟩ : ∃ e1, e1 = k + 1 := ⟨_, rfl⟩
        have HE1 : Hid (dnF f' l i e1 = some e) := Lib.hid (by rw [he1]; exact hdn)
        have HLE : Hid (k + 1 ≤ e1) := Lib.hid (by omega)
        have HCA : Hid (∀ W' Av cv, InI w bt bb l (some ad) A2 c m c2 view (BK ++ [k]) Av cv W' → Calls Try.prog 68 #[.int .i64 k, .bool false, .pointer (some ⟨bt, 0, none⟩), .pointer (some ⟨bb, 0, none⟩), .pointer (some ⟨bb + 1, 0, none⟩)] W' fun en w' => en = .returned (.int .i64 (e1 : Int)) ∧ ∃ Av' cv', InI w bt bb l (some ad) A2 c m c2 view (BK ++ [k]) Av' cv' w') := Lib.hid (fun W' Av cv h => (leaf_any w bt bb l (some ad) A2 c m c2 view (BK ++ [k]) Av cv W' h k hkl hn HR.out hlf).mono (fun e w' h => ⟨by rw [he1]; exact h.1, _, _, h.2⟩))
        have HBN : Hid (BK ++ [k] = B ++ List.range' (i + 1) (e1 - (i + 1))) := Lib.hid (by rw [HBN0.out, he1])
        have hle1 : k + 1 ≤ e1 := by omega
        clear hdn hf0 HRT' hlf he1
        go_wp2_with fail
        refine wp_region_held_drew (S := fun W' => W'.cell? ⟨bb + 1, 0, none⟩ = some (.func (.func 68) #[] #[.pointer (some ⟨bt, 0, none⟩), .pointer (some ⟨bb, 0, none⟩), .pointer (some ⟨bb + 1, 0, none⟩)]) ∧ W'.cell? ⟨bt, 0, none⟩ = some (.slice (some ad) l.length c) ∧ W'.cell? ⟨bt, 1, none⟩ = some (.slice A2 m c2) ∧ W'.cell? ⟨bt, 2, none⟩ = some (.int .i64 view)) (by kernel_rfl) HE6.out (fun hS => ?_)
        refine wpAnyH_take (i := 0) (v := ?_) rfl (by kernel_rfl) (by kernel_rfl) (by kernel_rfl) (fun _ _ _ h => h) (Or.inl ⟨by rfl, ?_⟩) hS ?_
        rotate_left
        · intro W' hS'
          go_simp
          rfl
        try simp only [Act.put, List.setIfInBounds_toArray, List.set_cons_zero, List.set_cons_succ, List.getElem_toArray, List.getElem_cons_zero, List.getElem_cons_succ]
        refine wpAnyH_take (i := 1) (v := ?_) rfl (by kernel_rfl) (by kernel_rfl) (by kernel_rfl) (fun _ _ _ h => h) (Or.inl ⟨by rfl, ?_⟩) hS ?_
        rotate_left
        · intro W' hS'
          go_simp
          rfl
        try simp only [Act.put, List.setIfInBounds_toArray, List.set_cons_zero, List.set_cons_succ, List.getElem_toArray, List.getElem_cons_zero, List.getElem_cons_succ]
        refine wpAnyH_take (i := 2) (v := ?_) rfl (by kernel_rfl) (by kernel_rfl) (by kernel_rfl) (fun _ _ _ h => h) (Or.inl ⟨by rfl, ?_⟩) hS ?_
        rotate_left
        · intro W' hS'
          go_simp
          rfl
        try simp only [Act.put, List.setIfInBounds_toArray, List.set_cons_zero, List.set_cons_succ, List.getElem_toArray, List.getElem_cons_zero, List.getElem_cons_succ]
        refine wpAnyH_take (i := 3) (v := ?_) rfl (by kernel_rfl) (by kernel_rfl) (by kernel_rfl) (fun _ _ _ h => h) (Or.inl ⟨by rfl, ?_⟩) hS ?_
        rotate_left
        · intro W' hS'
          go_simp
          rfl
        try simp only [Act.put, List.setIfInBounds_toArray, List.set_cons_zero, List.set_cons_succ, List.getElem_toArray, List.getElem_cons_zero, List.getElem_cons_succ]
        refine wpAnyH_take (i := 4) (v := ?_) rfl (by kernel_rfl) (by kernel_rfl) (by kernel_rfl) (fun _ _ _ h => h) (Or.inl ⟨by rfl, ?_⟩) hS ?_
        rotate_left
        · intro W' hS'
          go_simp
          rfl
        try simp only [Act.put, List.setIfInBounds_toArray, List.set_cons_zero, List.set_cons_succ, List.getElem_toArray, List.getElem_cons_zero, List.getElem_cons_succ]
        refine wpAnyH_take (i := 5) (v := ?_) rfl (by kernel_rfl) (by kernel_rfl) (by kernel_rfl) (fun _ _ _ h => h) (Or.inl ⟨by rfl, ?_⟩) hS ?_
        rotate_left
        · intro W' hS'
          go_simp
          rfl
        try simp only [Act.put, List.setIfInBounds_toArray, List.set_cons_zero, List.set_cons_succ, List.getElem_toArray, List.getElem_cons_zero, List.getElem_cons_succ]
        refine wpAnyH_ready (rs := [6]) (by kernel_rfl) (by simp) (AllReadyH.cons rfl (fun K hK => ?_) AllReadyH.nil)
        go_simp
        refine (HRT.out _ (HI5.out.below (Below.refl _ _).drew).l).mono ?_
        rintro e w6 ⟨rfl, hb6⟩
        have HI6 := Lib.hid (HI5.out.below ((Below.refl _ _).drew.trans (hb6.mono (Nat.le_refl _))))
        clear hb6
        refine hK.out _ _ (HS6.out _ HI6.out) (fun hS => ?_)
        try simp only [Act.put, List.setIfInBounds_toArray, List.set_cons_zero, List.set_cons_succ, List.getElem_toArray, List.getElem_cons_zero, List.getElem_cons_succ]
        clear hK
        refine wpAnyH_take (i := 7) (v := ?_) rfl (by kernel_rfl) (by kernel_rfl) (by kernel_rfl) (fun _ _ _ h => h) (Or.inl ⟨by rfl, ?_⟩) hS ?_
        rotate_left
        · intro W' hS'
          go_simp
          rfl
        try simp only [Act.put, List.setIfInBounds_toArray, List.set_cons_zero, List.set_cons_succ, List.getElem_toArray, List.getElem_cons_zero, List.getElem_cons_succ]
        refine wpAnyH_take (i := 8) (v := ?_) rfl (by kernel_rfl) (by kernel_rfl) (by kernel_rfl) (fun _ _ _ h => h) (Or.inl ⟨by rfl, ?_⟩) hS ?_
        rotate_left
        · intro W' hS'
          go_simp
          rfl
        try simp only [Act.put, List.setIfInBounds_toArray, List.set_cons_zero, List.set_cons_succ, List.getElem_toArray, List.getElem_cons_zero, List.getElem_cons_succ]
        refine wpAnyH_ready (rs := [9]) (by kernel_rfl) (by simp) (AllReadyH.cons rfl (fun K hK => ?_) AllReadyH.nil)
        go_simp
        refine (HCA.out _ _ _ HI6.out).mono ?_
        rintro e w7 ⟨rfl, Av7, cv7, hi7⟩
        have HI7 := Lib.hid hi7
        clear hi7
        refine hK.out _ _ (HS6.out _ HI7.out) (fun hS => ?_)
        try simp only [Act.put, List.setIfInBounds_toArray, List.set_cons_zero, List.set_cons_succ, List.getElem_toArray, List.getElem_cons_zero, List.getElem_cons_succ]
        clear hK
        refine wpAnyH_take (i := 10) (v := ?_) rfl (by kernel_rfl) (by kernel_rfl) (by kernel_rfl) (fun _ _ _ h => h) (Or.inl ⟨by rfl, ?_⟩) hS ?_
        rotate_left
        · intro W' hS'
          go_simp
          rfl
        try simp only [Act.put, List.setIfInBounds_toArray, List.set_cons_zero, List.set_cons_succ, List.getElem_toArray, List.getElem_cons_zero, List.getElem_cons_succ]
        refine wpAnyH_done (by kernel_rfl) ?_ _
        clear hS
        go_wp2_with fail
        go_roundw
        case rel => exact ⟨e1, f', by omega, HE1.out, by omega, by go_num, Lib.hid ⟨_, _, by rw [← HBN.out]; exact HI7.out⟩⟩
        case measure => simp [intOf]; have := HLE.out; omega
    · rw [if_neg hpk] at hdn
      have HEE : Hid (k = e) := Lib.hid (by simpa using hdn)
      clear hdn
      by_cases hkl : k < l.length
      · have d1 : decide ((k : Int) < (l.length : Int)) = true := decide_eq_true (by omega)
        have d1' : decide (k < l.length) = true := decide_eq_true hkl
        obtain ⟨ad, hA, hnd⟩ := (HR.out.below HJ.out.l).nd rfl hkl
        obtain ⟨y0, -, -, -⟩ := nd_c hnd
        have hb : ad.block < w.heap.size := by have := hnd.lt; rwa [block_of_add] at this
        obtain ⟨P, hP⟩ : ∃ P, P = l[k].parent := ⟨_, rfl⟩
        have d2 : (P == (i : Int)) = false := by
          unfold parN at hpk
          rw [List.getElem?_eq_getElem hkl] at hpk
          rw [hP]; simpa using hpk
        rw [← hP] at y0
        have hk1 : (k : Int) < (l.length : Int) := by omega
        subst hA
        clear hnd hP hpk
        go_wp2_with fail
        go_ret
        exact ⟨by rw [HEE.out]; rfl, _, _, by rw [← HEE.out, ← HBK.out]; exact HJ.out⟩
      · have d1 : decide ((k : Int) < (l.length : Int)) = false := decide_eq_false (by omega)
        have d1' : decide (k < l.length) = false := decide_eq_false hkl
        go_wp2_with fail
        go_ret
        exact ⟨by rw [HEE.out]; rfl, _, _, by rw [← HEE.out, ← HBK.out]; exact HJ.out⟩
set_option maxRecDepth 100000 in
set_option maxHeartbeats 2000000 in
theorem inside_any (hl : 0 < l.length) (hn : l.length ≤ 4096) (hr : Reads w w.heap.size 44 A l.length (ndsCells l)) (hs : ∀ x ∈ l, StyT x.s) (hpar : ∀ i (h : i < l.length), 0 < i → 0 ≤ l[i].parent ∧ l[i].parent < i) (f e : Nat) (he : dnF f l 0 1 = some e) :
    Calls Try.prog 40 #[.agg #[.slice A l.length c, .slice A2 m c2, .int .i64 view], .int .i64 0] w fun en w' => ∃ Av cv, en = .returned (.slice Av (e - 1) cv) ∧ w'.ownsRow w.heap.size 3 1 (.slice Av (e - 1) cv) (e - 1) ((List.range' 1 (e - 1)).map fun (i : Nat) => Value.int .i64 i) ∧ Below w.heap.size w w' := by
  have HD := Lib.hid (fun bb Av cv W (h : InI w w.heap.size bb l A A2 c m c2 view [] Av cv W) => down_any w w.heap.size bb l A A2 c m c2 view hn hr hs hpar f 0 [] Av cv W e h hl (by simp) he)
  have HRT := Lib.hid (fun W' (hb : Below w.heap.size w W') => rootT_any l A A2 c m c2 view W' 0 hl hn ((hr.below hb).more hb.size) (fun h => absurd h (by omega)) hs)
  have hrf : rootF l 0 = true := by unfold rootF; simp
  rw [hrf] at HRT
  clear hr hs hpar he hrf
  go_enter Try.func40, Try.ntmps40
  have HT0 : Hid (Blk (w.alloc (.cells #[.slice A l.length c, .slice A2 m c2, .int .i64 view] 25)) w.heap.size 25 #[.slice A l.length c, .slice A2 m c2, .int .i64 view]) := Lib.hid (Blk.new _ _ _)
  have q1 := Lib.hid (HRT.out (w.alloc (.cells #[.slice A l.length c, .slice A2 m c2, .int .i64 view] 25)) ((Below.refl _ _).alloc (Nat.le_refl _) _))
  go_upto_region 3 with (go_at_call 39; refine q1.out.mono ?_; rintro e w1 ⟨rfl, hb1⟩; have HB1 := Lib.hid hb1; clear hb1)
  have HT1 : Hid (Blk w1 w.heap.size 25 #[.slice A l.length c, .slice A2 m c2, .int .i64 view]) := Lib.hid (HT0.out.below HB1.out (by simp))
  have HL1 : Hid (Below w.heap.size w w1) := Lib.hid (((Below.refl _ _).alloc (Nat.le_refl _) _).trans (HB1.out.mono (by simp)))
  have HZ1 : Hid (w.heap.size < w1.heap.size) := Lib.hid (HT1.out.lt)
  go_upto_region 6 with (fail)
  obtain ⟨w2, hw2⟩ : ∃ w2, w2 = (w1.alloc (.cells #[.slice none 0 0] 36)).alloc (.cells #[.func (.func 68) #[] #[.pointer (some ⟨w.heap.size, 0, none⟩), .pointer (some ⟨w1.heap.size, 0, none⟩), .pointer (some ⟨w1.heap.size + 1, 0, none⟩)]] 153) := ⟨_, rfl⟩
  have HI2 : Hid (InI w w.heap.size w1.heap.size l A A2 c m c2 view [] none 0 w2) := Lib.hid (by
    rw [hw2]
    exact ⟨(HT1.out.alloc _).alloc _, (Blk.new _ _ _).alloc _, Blk.at_ _ _ _ (by simp), own_nil _ _ _ _, (HL1.out.alloc HL1.out.size _).alloc (by have := HL1.out.size; simp; omega) _, HZ1.out, Nat.le_refl _⟩)
  rw [← hw2]
  have q2 := Lib.hid (HD.out _ _ _ _ HI2.out)
  have d0 := HI2.out.d.c1
  clear hw2 HT1 HL1 HT0 HB1 q1
  go_upto_region 7 with (go_at_call 68; refine q2.out.mono ?_; rintro e w3 ⟨rfl, Av, cv, hi3⟩; have HI3 : Hid (InI w w.heap.size w1.heap.size l A A2 c m c2 view (List.range' 1 (e - 1)) Av cv w3) := Lib.hid (by simpa using hi3); clear hi3)
  have b0 := HI3.out.b.c1
  rw [List.length_range'] at b0
  go_wp2_with fail
  go_ret
  have ho := HI3.out.o
  rw [List.length_range'] at ho
  exact ⟨Av, cv, rfl, own_lower ho (by have := HZ1.out; omega), HI3.out.l⟩
end
end Go.Proofs.Ytlebbkhhhmempaa
