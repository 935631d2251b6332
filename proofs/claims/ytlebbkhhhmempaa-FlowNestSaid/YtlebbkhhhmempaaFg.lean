/- Chapter 22: the walk through an island, plain; and what lies in memory. -/
import Derived.Test.YtlebbkhhhmempaaFf
import Derived.Test.YtlebbkhhhmempaaTrp
set_option linter.unusedSimpArgs false
set_option linter.unusedVariables false
namespace Go.Proofs.Ytlebbkhhhmempaa
open Go.RowKit

structure Sp where
  left : Int
  top : Int
  high : Int
  op : Bool
  deriving DecidableEq
def sp0 : Sp := ⟨0, 0, 0, false⟩
structure Ud where
  w : Int
  left : Int
  right : Int
structure Wk where
  y : Int
  st : Stt
  fl : List Fl
  op : List Nat
  sp : List Sp
def spCells (s : Sp) : List Value := [.int .i64 s.left, .int .i64 s.top, .int .i64 s.high, .bool s.op, .slice none 0 0, .slice none 0 0, .slice none 0 0]
def spsCells (l : List Sp) : List Value := l.flatMap spCells
def udCells (u : Ud) : List Value := [.int .i64 u.w, .int .i64 u.left, .int .i64 u.right]
def udsCells (l : List Ud) : List Value := l.flatMap udCells
theorem flat_len {α : Type} (f : α → List Value) (n : Nat) (hf : ∀ x, (f x).length = n) (l : List α) : (l.flatMap f).length = l.length * n := by
  induction l with
  | nil => simp
  | cons a t ih => rw [List.flatMap_cons, List.length_append, hf, ih, List.length_cons, Nat.succ_mul]; omega
theorem flat_at {α : Type} (f : α → List Value) (n : Nat) (hf : ∀ x, (f x).length = n) (l : List α) : ∀ (k i : Nat) (hk : k < l.length), i < n → (l.flatMap f)[k * n + i]? = (f l[k])[i]? := by
  induction l with
  | nil => intro k i hk; simp at hk
  | cons a t ih =>
    intro k i hk hi
    rw [List.flatMap_cons]
    rcases k with _ | k
    · rw [List.getElem?_append_left (by rw [hf]; omega)]; simp
    · rw [List.getElem?_append_right (by rw [hf, Nat.succ_mul]; omega), hf, show (k + 1) * n + i - n = k * n + i by rw [Nat.succ_mul]; omega, ih k i (by simpa using hk) hi]
      simp
theorem flat_set {α : Type} (f : α → List Value) (n : Nat) (hf : ∀ x, (f x).length = n) (g : α → α) (i : Nat) (v : Value) (hg : ∀ x, f (g x) = (f x).set i v) (hi : i < n) : ∀ (l : List α) (k : Nat), k < l.length → (l.modify k g).flatMap f = (l.flatMap f).set (k * n + i) v := by
  intro l
  induction l with
  | nil => intro k hk; simp at hk
  | cons a t ih =>
    intro k hk
    rcases k with _ | k
    · simp only [List.modify_zero_cons, List.flatMap_cons, Nat.zero_mul, Nat.zero_add]
      rw [hg, List.set_append_left _ _ (by rw [hf]; exact hi)]
    · simp only [List.modify_succ_cons, List.flatMap_cons]
      rw [ih k (by simpa using hk), List.set_append_right _ _ (by rw [hf, Nat.succ_mul]; omega), hf, show (k + 1) * n + i - n = k * n + i by rw [Nat.succ_mul]; omega]
theorem spsCells_len (l : List Sp) : (spsCells l).length = l.length * 7 := flat_len _ 7 (fun _ => rfl) l
theorem spsCells_at (l : List Sp) (k i : Nat) (hk : k < l.length) (hi : i < 7) : (spsCells l)[k * 7 + i]? = (spCells l[k])[i]? := flat_at _ 7 (fun _ => rfl) l k i hk hi
theorem udsCells_at (l : List Ud) (k i : Nat) (hk : k < l.length) (hi : i < 3) : (udsCells l)[k * 3 + i]? = (udCells l[k])[i]? := flat_at _ 3 (fun _ => rfl) l k i hk hi

/-! ### What the program does -/
def markF (k : Wk) : Int := k.y + sumF k.st
def setSp (k : Wk) (i : Nat) (f : Sp → Sp) : Wk := { k with sp := k.sp.modify i f }
def shut (m : Int) (s : Sp) : Sp := { s with top := m, op := false }
def shutAll (m : Int) (sp : List Sp) (l : List Nat) : List Sp := l.foldl (fun sp i => sp.modify i (shut m)) sp
def settleF (k : Wk) : Wk := { y := markF k, st := ⟨0, 0⟩, fl := k.fl, op := [], sp := shutAll (markF k) k.sp k.op }
def joinS (k : Wk) (m : Int) : Wk := { k with st := joinF k.st m }
def behindF (k : Wk) (y below : Int) : Wk := { k with y := y, st := joinF ⟨0, 0⟩ below }
def lim : Int := 1125899906842624
def inL (x : Int) : Bool := decide (-lim ≤ x) && decide (x ≤ lim)
def flB (f : Fl) : Bool := inL f.x && inL f.y && decide (0 ≤ f.w) && decide (f.w ≤ lim) && decide (0 ≤ f.h) && decide (f.h ≤ lim)
def spB (s : Sp) : Bool := inL s.left && inL s.top && inL s.high
def wkB (k : Wk) : Bool := inL k.y && inL k.st.most && inL k.st.least && k.fl.all flB && decide (k.fl.length ≤ 60000) && decide (k.op.length ≤ 60000) && k.sp.all spB
def chk (k : Wk) : Option Wk := if wkB k then some k else none
structure Cx where
  l : List Nd
  us : List Ud
  hs : List Int
  A : Option Addr
  c : Nat
  A2 : Option Addr
  m : Nat
  c2 : Nat
  view : Int
  uA : Option Addr
  uc : Nat
  hA : Option Addr
  hc : Nat
  gk : Nat
  bw : Nat
  bs : Nat
  lo : Nat
  w0 : World
def usF (us : List Ud) (i : Nat) : Ud := (us[i]?).getD ⟨0, 0, 0⟩
def hiF (hs : List Int) (i : Nat) : Int := (hs[i]?).getD 0
def styF (l : List Nd) (i : Nat) : Option Sty := (l[i]?).map (·.s)
def floatF (us : List Ud) (hs : List Int) (s : Sty) (k : Wk) (i : Nat) (x wide : Int) : Option Wk :=
  let u := usF us i
  let wd := u.left + u.w + u.right
  let hg := mgF s.m0 + hiF hs i + mgF s.m2
  let y := clearF k.fl s.clear (markF k)
  if 0 ≤ wd ∧ wd ≤ lim ∧ 0 ≤ hg ∧ inL u.left ∧ inL u.w ∧ inL u.right ∧ inL (hiF hs i) ∧ inL y ∧ inL x ∧ inL wide ∧ inL (x + wide) then
    let f := placeF k.fl s.float wd hg x (x + wide) y
    chk (setSp { k with fl := k.fl ++ [f] } i fun p => { p with left := f.x + u.left, top := f.y + mgF s.m0, high := hiF hs i })
  else none
def leaveF (s : Sty) (k : Wk) (i : Nat) (below : Int) : Option Wk :=
  match k.sp[i]? with
  | none => none
  | some own =>
    if own.op = true ∧ floorF s = 0 ∧ highF s 0 = 0 then
      if k.op = [] then none else chk (joinS { setSp k i (fun p => { p with top := markF k, high := 0, op := false }) with op := k.op.dropLast } below)
    else if own.op = true then
      chk (behindF (setSp (settleF k) i fun p => { p with high := highF s 0 + floorF s }) (markF k + (highF s 0 + floorF s)) below)
    else
      let k1 := if 0 < floorF s then settleF k else k
      match k1.sp[i]? with
      | none => none
      | some own =>
        let a := k1.y - own.top - roofF s
        let h := highF s a
        let k2 := setSp k1 i fun p => { p with high := roofF s + h + floorF s }
        if s.h.k = 0 ∧ h = a ∧ floorF s = 0 then chk (joinS k2 below) else chk (behindF k2 (own.top + (roofF s + h + floorF s)) below)
/-- What stands ahead of a box's contents. -/
def openF (us : List Ud) (s : Sty) (k : Wk) (i : Nat) (x : Int) : Option Wk :=
  match chk (setSp (joinS k (mgF s.m0)) i fun p => { p with left := x + (usF us i).left }) with
  | none => none
  | some k1 =>
    let cl := clearF k1.fl s.clear (markF k1)
    if markF k1 < cl then chk { setSp (settleF k1) i (fun p => { p with top := cl }) with y := cl + roofF s }
    else if 0 < roofF s then chk { setSp (settleF k1) i (fun p => { p with top := markF k1 }) with y := markF k1 + roofF s }
    else chk { setSp k1 i (fun p => { p with op := true }) with op := k1.op ++ [i] }
def contF : Nat → List Nd → List Ud → List Int → Wk → Nat → Int → Option Wk
  | 0, _, _, _, _, _, _ => none
  | n + 1, l, us, hs, k, i, x =>
    (kidsF l i).foldlM (fun (k : Wk) (kid : Int) =>
      match styF l kid.toNat with
      | none => none
      | some s =>
        if s.float ≠ 0 then floatF us hs s k kid.toNat x (usF us i).w
        else match openF us s k kid.toNat x with
          | none => none
          | some k1 => match contF n l us hs k1 kid.toNat (x + (usF us kid.toNat).left) with
            | none => none
            | some k2 => leaveF s k2 kid.toNat (mgF s.m2)) k

/-! ### Memory -/
def wkCells (C : Cx) (k : Wk) (vf vo : Value) : Array Value := #[.slice C.A C.l.length C.c, .slice C.A2 C.m C.c2, .int .i64 C.view, .int .i64 0, .slice C.uA C.us.length C.uc, .slice C.hA C.hs.length C.hc, .slice (some ⟨C.gk, 0, none⟩) C.l.length C.l.length, .slice (some ⟨C.bs, 0, none⟩) C.l.length C.l.length, .int .i64 k.y, .int .i64 k.st.most, .int .i64 k.st.least, vf, vo]
def cxBad (C : Cx) (b : Nat) : Prop := b = C.bw ∨ b = C.bs
structure CxOk (C : Cx) : Prop where
  n1 : 1 ≤ C.l.length
  n2 : C.l.length ≤ 4096
  un : C.us.length = C.l.length
  hn : C.hs.length ≤ 4096
  ne : C.bw ≠ C.bs
  bw : C.bw < C.w0.heap.size
  bs : C.bs < C.w0.heap.size
  lw : C.lo ≤ C.bw
  ls : C.lo ≤ C.bs
  nd : Reads C.w0 C.lo 44 C.A C.l.length (ndsCells C.l)
  ud : Reads C.w0 C.lo 3 C.uA C.us.length (udsCells C.us)
  hi : Reads C.w0 C.lo 1 C.hA C.hs.length (C.hs.map (Value.int .i64))
  gk : C.gk ≠ C.bw ∧ C.gk ≠ C.bs ∧ C.gk < C.w0.heap.size
  kd : ∀ p, p < C.l.length → ∃ A c, C.w0.cell? ⟨C.gk, p, none⟩ = some (.slice A (kidsF C.l p).length c) ∧ ∀ j (hj : j < (kidsF C.l p).length), ∃ ad : Addr, A = some ad ∧ ad.block ≠ C.bw ∧ ad.block ≠ C.bs ∧ ad.block < C.w0.heap.size ∧ C.w0.cell? (ad.add j) = some (.int .i64 (kidsF C.l p)[j])
  sty : ∀ x ∈ C.l, StyT x.s ∧ (x.s.float = 0 ∨ x.s.float = 1 ∨ x.s.float = 2) ∧ (x.s.clear = 0 ∨ x.s.clear = 1 ∨ x.s.clear = 2 ∨ x.s.clear = 3)
  uv : ∀ x ∈ C.l, ∃ A n c, x.s.uv = .slice A n c
  par : ∀ i (h : i < C.l.length), 0 < i → 0 ≤ C.l[i].parent ∧ C.l[i].parent < i
  us : ∀ u ∈ C.us, inL u.w = true ∧ inL u.left = true ∧ inL u.right = true
structure WkI (C : Cx) (k : Wk) (Af : Option Addr) (cf : Nat) (Ao : Option Addr) (co : Nat) (W : World) : Prop where
  kp : Kp (cxBad C) C.w0 W
  blk : Blk W C.bw 107 (wkCells C k (.slice Af k.fl.length cf) (.slice Ao k.op.length co))
  spt : Blk W C.bs 114 (spsCells k.sp).toArray
  flo : W.ownsRow C.w0.heap.size 165 5 (.slice Af k.fl.length cf) k.fl.length (flsCells k.fl)
  opn : W.ownsRow C.w0.heap.size 3 1 (.slice Ao k.op.length co) k.op.length (k.op.map fun (i : Nat) => Value.int .i64 i)
  len : k.sp.length = C.l.length
  opl : ∀ i ∈ k.op, i < C.l.length
def WkS (C : Cx) (k : Wk) (W : World) : Prop := ∃ Af cf Ao co, WkI C k Af cf Ao co W
theorem WkI.below {C : Cx} {k : Wk} {Af Ao : Option Addr} {cf co : Nat} {W W' : World} (h : WkI C k Af cf Ao co W) (hb : Below W.heap.size W W') : WkI C k Af cf Ao co W' :=
  ⟨h.kp.trans' (Kp.of_below hb (fun _ => False)) (fun _ _ h => h.elim), h.blk.below hb h.blk.lt, h.spt.below hb h.spt.lt, own_below h.flo hb, own_below h.opn hb, h.len, h.opl⟩
theorem WkI.size {C : Cx} {k : Wk} {Af Ao : Option Addr} {cf co : Nat} {W : World} (h : WkI C k Af cf Ao co W) : C.w0.heap.size ≤ W.heap.size := h.kp.size
theorem WkI.bl (C : Cx) (hC : CxOk C) {k : Wk} {Af Ao : Option Addr} {cf co : Nat} {W : World} (h : WkI C k Af cf Ao co W) : Below C.lo C.w0 W := h.kp.below (fun b hb => by have := hC.lw; have := hC.ls; rcases hb with rfl | rfl <;> assumption) (by have := hC.lw; have := hC.bw; omega)
theorem WkI.c {C : Cx} {k : Wk} {Af Ao : Option Addr} {cf co : Nat} {W : World} (h : WkI C k Af cf Ao co W) (i : Nat) {v : Value} (hv : (wkCells C k (.slice Af k.fl.length cf) (.slice Ao k.op.length co))[i]? = some v) : W.cell? ⟨C.bw, i, none⟩ = some v := h.blk.get i hv
/-- All cells of the walk's block at once. -/
theorem WkI.cs {C : Cx} {k : Wk} {Af Ao : Option Addr} {cf co : Nat} {W : World} (h : WkI C k Af cf Ao co W) :
    W.cell? ⟨C.bw, 0, none⟩ = some (.slice C.A C.l.length C.c) ∧ W.cell? ⟨C.bw, 1, none⟩ = some (.slice C.A2 C.m C.c2) ∧ W.cell? ⟨C.bw, 2, none⟩ = some (.int .i64 C.view) ∧ W.cell? ⟨C.bw, 3, none⟩ = some (.int .i64 0) ∧ W.cell? ⟨C.bw, 4, none⟩ = some (.slice C.uA C.us.length C.uc) ∧ W.cell? ⟨C.bw, 5, none⟩ = some (.slice C.hA C.hs.length C.hc) ∧ W.cell? ⟨C.bw, 6, none⟩ = some (.slice (some ⟨C.gk, 0, none⟩) C.l.length C.l.length) ∧ W.cell? ⟨C.bw, 7, none⟩ = some (.slice (some ⟨C.bs, 0, none⟩) C.l.length C.l.length) ∧
      W.cell? ⟨C.bw, 8, none⟩ = some (.int .i64 k.y) ∧ W.cell? ⟨C.bw, 9, none⟩ = some (.int .i64 k.st.most) ∧ W.cell? ⟨C.bw, 10, none⟩ = some (.int .i64 k.st.least) ∧ W.cell? ⟨C.bw, 11, none⟩ = some (.slice Af k.fl.length cf) ∧ W.cell? ⟨C.bw, 12, none⟩ = some (.slice Ao k.op.length co) :=
  ⟨h.c 0 rfl, h.c 1 rfl, h.c 2 rfl, h.c 3 rfl, h.c 4 rfl, h.c 5 rfl, h.c 6 rfl, h.c 7 rfl, h.c 8 rfl, h.c 9 rfl, h.c 10 rfl, h.c 11 rfl, h.c 12 rfl⟩
theorem WkI.sc {C : Cx} {k : Wk} {Af Ao : Option Addr} {cf co : Nat} {W : World} (h : WkI C k Af cf Ao co W) {i : Nat} (hi : i < k.sp.length) :
    W.cell? ⟨C.bs, i * 7, none⟩ = some (.int .i64 k.sp[i].left) ∧ W.cell? ⟨C.bs, i * 7 + 1, none⟩ = some (.int .i64 k.sp[i].top) ∧ W.cell? ⟨C.bs, i * 7 + 2, none⟩ = some (.int .i64 k.sp[i].high) ∧ W.cell? ⟨C.bs, i * 7 + 3, none⟩ = some (.bool k.sp[i].op) ∧ W.cell? ⟨C.bs, i * 7 + 4, none⟩ = some (.slice none 0 0) := by
  have g : ∀ j, j < 7 → ∀ v, (spCells k.sp[i])[j]? = some v → W.cell? ⟨C.bs, i * 7 + j, none⟩ = some v := fun j hj v hv => h.spt.get _ (by rw [List.getElem?_toArray, spsCells_at _ _ _ hi hj]; exact hv)
  exact ⟨g 0 (by omega) _ rfl, g 1 (by omega) _ rfl, g 2 (by omega) _ rfl, g 3 (by omega) _ rfl, g 4 (by omega) _ rfl⟩
theorem kp_set {C : Cx} {W : World} (h : Kp (cxBad C) C.w0 W) (g i : Nat) (hg : cxBad C g) (v : Value) : Kp (cxBad C) C.w0 (W.setCell ⟨g, i, none⟩ v) := h.setCell (p := ⟨g, i, none⟩) (.inl hg) v
theorem own_low {C : Cx} {W : World} {e : TypeId} {size n : Nat} {v : Value} {xs : List Value} (h : W.ownsRow C.w0.heap.size e size v n xs) (g i : Nat) (hg : g < C.w0.heap.size) (u : Value) : (W.setCell ⟨g, i, none⟩ u).ownsRow C.w0.heap.size e size v n xs := ownsRow_setCell_below h (a := ⟨g, i, none⟩) hg u
/-- A store into the walk's own cells. -/
theorem WkI.setW {C : Cx} (hC : CxOk C) {k k' : Wk} {Af Ao : Option Addr} {cf co : Nat} {W : World} (h : WkI C k Af cf Ao co W) (i : Nat) (v : Value)
    (e : (wkCells C k (.slice Af k.fl.length cf) (.slice Ao k.op.length co)).setIfInBounds i v = wkCells C k' (.slice Af k'.fl.length cf) (.slice Ao k'.op.length co)) (e1 : k'.fl = k.fl) (e2 : k'.op = k.op) (e3 : k'.sp = k.sp) : WkI C k' Af cf Ao co (W.setCell ⟨C.bw, i, none⟩ v) := by
  refine ⟨kp_set h.kp _ _ (.inl rfl) _, by rw [← e]; exact h.blk.set_ i v, by rw [e3]; exact h.spt.far (fun e => hC.ne e.symm) _, ?_, ?_, by rw [e3]; exact h.len, by rw [e2]; exact h.opl⟩
  · rw [e1]; exact own_low h.flo _ _ hC.bw _
  · rw [e2]; exact own_low h.opn _ _ hC.bw _
theorem WkI.setY {C : Cx} (hC : CxOk C) {k : Wk} {Af Ao : Option Addr} {cf co : Nat} {W : World} (h : WkI C k Af cf Ao co W) (y : Int) : WkI C { k with y := y } Af cf Ao co (W.setCell ⟨C.bw, 8, none⟩ (.int .i64 y)) := h.setW hC 8 _ rfl rfl rfl rfl
theorem WkI.setSt {C : Cx} (hC : CxOk C) {k : Wk} {Af Ao : Option Addr} {cf co : Nat} {W : World} (h : WkI C k Af cf Ao co W) (s : Stt) : WkI C { k with st := s } Af cf Ao co ((W.setCell ⟨C.bw, 9, none⟩ (.int .i64 s.most)).setCell ⟨C.bw, 10, none⟩ (.int .i64 s.least)) :=
  (h.setW hC (k' := { k with st := ⟨s.most, k.st.least⟩ }) 9 _ rfl rfl rfl rfl).setW hC 10 _ rfl rfl rfl rfl
theorem WkI.setOp {C : Cx} (hC : CxOk C) {k : Wk} {Af Ao : Option Addr} {cf co : Nat} {W : World} (h : WkI C k Af cf Ao co W) {A' : Option Addr} {c' : Nat} {op : List Nat} (ho : W.ownsRow C.w0.heap.size 3 1 (.slice A' op.length c') op.length (op.map fun (i : Nat) => Value.int .i64 i)) (hl : ∀ i ∈ op, i < C.l.length) : WkI C { k with op := op } Af cf A' c' (W.setCell ⟨C.bw, 12, none⟩ (.slice A' op.length c')) :=
  ⟨kp_set h.kp _ _ (.inl rfl) _, h.blk.set_ 12 _, h.spt.far (fun e => hC.ne e.symm) _, own_low h.flo _ _ hC.bw _, own_low ho _ _ hC.bw _, h.len, hl⟩
theorem own_nil (w : World) (b : Nat) (e : TypeId) (size : Nat) : w.ownsRow b e size (.slice none 0 0) 0 [] := ⟨by simp, .inl ⟨rfl, rfl⟩⟩
/-- A store into a spot. -/
theorem WkI.setS {C : Cx} (hC : CxOk C) {k : Wk} {Af Ao : Option Addr} {cf co : Nat} {W : World} (h : WkI C k Af cf Ao co W) {i : Nat} (hi : i < k.sp.length) (j : Nat) (hj : j < 7) (v : Value) (g : Sp → Sp) (hg : ∀ x, spCells (g x) = (spCells x).set j v) : WkI C (setSp k i g) Af cf Ao co (W.setCell ⟨C.bs, i * 7 + j, none⟩ v) :=
  ⟨kp_set h.kp _ _ (.inr rfl) _, h.blk.far hC.ne _, by
    have := h.spt.set_ (i * 7 + j) v
    have e : ((spsCells k.sp).toArray).setIfInBounds (i * 7 + j) v = (spsCells (k.sp.modify i g)).toArray := by
      rw [List.setIfInBounds_toArray]; congr 1
      exact (flat_set spCells 7 (fun _ => rfl) g j v hg hj k.sp i hi).symm
    rw [e] at this; exact this, own_low h.flo _ _ hC.bs _, own_low h.opn _ _ hC.bs _, by show (k.sp.modify i g).length = _; rw [List.length_modify]; exact h.len, h.opl⟩
theorem wk_fr {C : Cx} {k : Wk} {Af Ao : Option Addr} {cf co : Nat} {W : World} (h : WkI C k Af cf Ao co W) : (∀ i, W.frozen? ⟨C.bw, i, none⟩ = false) ∧ (∀ i, W.frozen? ⟨C.bs, i, none⟩ = false) := ⟨fun i => h.blk.frozen i, fun i => h.spt.frozen i⟩
end Go.Proofs.Ytlebbkhhhmempaa
