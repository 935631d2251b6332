/- The program's styles: bare, Right. -/
import Derived.Test.YtjhfcpadnofdnaaGreatBld
import Derived.Test.YtjhfcpadnofdnaaGreatRgh
set_option linter.unusedSimpArgs false
set_option linter.unusedVariables false
namespace Go.Proofs.YtjhfcpadnofdnaaGreat
open Go.RowKit
attribute [local go_sem] block_of_add eqPl guardPl
theorem exec_store_midP {P : Program} {a : Act} {op : Oper} (ty : TypeId) (x y : Operand) (ho : op.op = .store ty x y) (b o : Nat) (cells : List Value) (hx : a.eval x = .pointer (some ⟨b, o, none⟩)) (hy : a.eval y = .agg cells.toArray) (w : World)
    (ht : w.there b o cells.length) (hi : (P.info? ty).map (·.size) = some cells.length) (h1 : cells.toArray.all (·.oneCell') = true) : (execOp a.eval op).run P w = .ok .skip (w.setCells b o cells) := by
  have h := run_storeAt_mid (P := P) w b o ty cells.toArray (by simpa using ht) (by simpa using hi) h1
  unfold execOp
  simp only [ho, hx, hy, Sem.run_bind, h, Result.andThen_ok, Sem.run_pure]
theorem there_blkP {w : World} {g : Nat} {t : TypeId} {cs : Array Value} {k o : Nat} (h : Blk w g t cs) (hk : o + k ≤ cs.size) : w.there g o k := fun j hj => by
  rw [h.cell (o + j), Array.getElem?_eq_getElem (by omega)]; exact ⟨rfl, h.frozen (o + j)⟩
theorem below_setCellsP {B g : Nat} (hB : B ≤ g) : ∀ (vs : List Value) (o : Nat) (a w : World), Below B a w → Below B a (w.setCells g o vs)
  | [], _, _, _, h => h
  | v :: vs, o, a, w, h => below_setCellsP hB vs (o + 1) a _ (h.setCell (p := ⟨g, o, none⟩) hB v)
theorem store_midP {P : Program} {a : Act} {o : Oper} {x y : Operand} (ty : TypeId) (g : Nat) (cs : List Value) (t : TypeId) (zs : Array Value) {W : World} (hb : Blk W g t zs) (hl : cs.length = zs.size) (hi : (P.info? ty).map (·.size) = some cs.length) (h1 : cs.toArray.all (·.oneCell') = true) (ho : o.op = .store ty x y) (hx : a.eval x = .pointer (some ⟨g, 0, none⟩)) (hy : a.eval y = .agg cs.toArray) :
    (execOp a.eval o).run P W = .ok .skip (W.setCells g 0 cs) := exec_store_midP ty x y ho g 0 cs hx hy W (there_blkP hb (by omega)) hi h1
theorem wpList_valP {P : Program} {ops : Array Oper} {rest : List Oper} {o : Oper} {a : Act} {w w' : World} {Q : Exit → Act → World → Prop} {v : Value} (hgd : o.guard = none)
    (hrun : (execOp a.eval o).run P w = .ok (.value v) w') (h : wpList P ops Q rest (a.put o.dst v) w') : wpList P ops Q (o :: rest) a w :=
  wpList_plain hgd fun K hK => by
    unfold Oper.wp
    simp only [hrun]
    exact hK _ _ h
theorem exec_eqlP {s : Sty} {a : Act} {o : Oper} {x y : Operand} (c : TypeId) (ho : o.op = .binOp .eql 330 x y c) (hx : a.eval x = .agg (plL s).toArray) (hy : a.eval y = .agg plZ.toArray) (w : World) :
    (execOp a.eval o).run Tryz.prog w = .ok (.value (.bool (stBareF s))) w := by
  unfold execOp
  simp only [ho, hx, hy, Sem.run_bind, guardPl, run_eql_struct, eqPl, Result.andThen_ok, Sem.run_pure]
theorem plS_blk {s : Sty} {w W' : World} {gA : Nat} {b d : Bool} (hd : d = true) (hb : b = false) (h : Below w.heap.size w W' ∧ (d = true → ∃ gB, Value.pointer (some ⟨gA, 0, none⟩) = .pointer (some ⟨gB, 0, none⟩) ∧ w.heap.size ≤ gB ∧ (b = true → W'.rangeAt gB 0 (plL s)) ∧ (b = false → Blk W' gB 330 plZ.toArray))) : Blk W' gA 330 plZ.toArray := by
  obtain ⟨gA', e1, e2, e3⟩ := h.2 hd
  have e4 : gA = gA' := by injection e1 with e1; injection e1 with e1; injection e1
  subst e4
  exact e3.2 hb
theorem plS_rng {s : Sty} {w W' : World} {gA : Nat} {b d : Bool} (hd : d = true) (hb : b = true) (h : Below w.heap.size w W' ∧ (d = true → ∃ gB, Value.pointer (some ⟨gA, 0, none⟩) = .pointer (some ⟨gB, 0, none⟩) ∧ w.heap.size ≤ gB ∧ (b = true → W'.rangeAt gB 0 (plL s)) ∧ (b = false → Blk W' gB 330 plZ.toArray))) : W'.rangeAt gA 0 (plL s) := by
  obtain ⟨gA', e1, e2, e3⟩ := h.2 hd
  have e4 : gA = gA' := by injection e1 with e1; injection e1 with e1; injection e1
  subst e4
  exact e3.1 hb
theorem plS_len (s : Sty) : (plL s).length = plZ.toArray.size := rfl
theorem pl_one (s : Sty) : (plL s).toArray.all (·.oneCell') = true := by simp [plL, Value.oneCell']
def mgR (s : Sty) : List Value := [.int .u8 s.m0.k, .int .i64 s.m0.n, .int .u8 s.m1.k, .int .i64 s.m1.n, .int .u8 s.m2.k, .int .i64 s.m2.n, .int .u8 s.m3.k, .int .i64 s.m3.n]
def bdR (s : Sty) : List Value := [.int .i64 s.b0, .int .i64 s.b1, .int .i64 s.b2, .int .i64 s.b3]
def pdR (s : Sty) : List Value := [.int .i64 s.p0, .int .i64 s.p1, .int .i64 s.p2, .int .i64 s.p3]
set_option maxRecDepth 100000 in
set_option maxHeartbeats 30000000 in
theorem pbare_any (s : Sty) (g : Nat) (w : World) (hb : Blk w g 67 (styCells s).toArray) :
    Calls Tryz.prog 191 #[.pointer (some ⟨g, 0, none⟩)] w fun e w' => e = .returned (.bool (stBareF s)) ∧ Below w.heap.size w w' := by
  have HBX := Lib.hid hb
  have HBB : Hid (∀ W', Below w.heap.size w W' → Blk W' g 67 (styCells s).toArray) := Lib.hid (fun W' h => hb.below h hb.lt)
  have HRG16 : Hid (∀ W', Below w.heap.size w W' → W'.rangeAt g 16 (mgR s)) := Lib.hid (fun W' h => blk_rng (HBB.out W' h) (fun q v hv => by rcases q with _ | _ | _ | _ | _ | _ | _ | _ | q <;> first | exact hv | (simp [mgR] at hv)))
  have HRG24 : Hid (∀ W', Below w.heap.size w W' → W'.rangeAt g 24 (bdR s)) := Lib.hid (fun W' h => blk_rng (HBB.out W' h) (fun q v hv => by rcases q with _ | _ | _ | _ | q <;> first | exact hv | (simp [bdR] at hv)))
  have HRG28 : Hid (∀ W', Below w.heap.size w W' → W'.rangeAt g 28 (pdR s)) := Lib.hid (fun W' h => blk_rng (HBB.out W' h) (fun q v hv => by rcases q with _ | _ | _ | _ | q <;> first | exact hv | (simp [pdR] at hv)))
  have HLG := Lib.hid hb.lt
  clear hb
  go_enter Tryz.func191, Tryz.ntmps191
  go_upto_region 1 with (fail)
  refine wp_region_S (fun b d u W' => Below w.heap.size w W' ∧ (d = true → ∃ gA, u = .pointer (some ⟨gA, 0, none⟩) ∧ w.heap.size ≤ gA ∧ (b = true → W'.rangeAt gA 0 (plL s)) ∧ (b = false → Blk W' gA 330 plZ.toArray))) 89 88 3 false false (by kernel_rfl) (by kernel_rfl) (by kernel_rfl) (⟨below_drw w, fun h => absurd h (by decide)⟩) ?_
  refine wpAnyS_take (i := 0) (v := ?_) rfl (by kernel_rfl) (by kernel_rfl) (by kernel_rfl) (fun _ _ _ h => h) (by rfl) (gives_pureF (by rfl) (by kernel_rfl) ?_) ?_
  rotate_left
  · intro d' u' W' hS'
    go_simp
    rfl
  try simp only [Act.put, List.setIfInBounds_toArray, List.set_cons_zero, List.set_cons_succ, List.getElem_toArray, List.getElem_cons_zero, List.getElem_cons_succ]
  refine wpAnyS_take (i := 1) (v := ?_) rfl (by kernel_rfl) (by kernel_rfl) (by kernel_rfl) (fun _ _ _ h => h) (by rfl) (gives_pureF (by rfl) (by kernel_rfl) ?_) ?_
  rotate_left
  · intro d' u' W' hS'
    go_simp
    rfl
  try simp only [Act.put, List.setIfInBounds_toArray, List.set_cons_zero, List.set_cons_succ, List.getElem_toArray, List.getElem_cons_zero, List.getElem_cons_succ]
  refine wpAnyS_take (i := 2) (v := ?_) rfl (by kernel_rfl) (by kernel_rfl) (by kernel_rfl) (fun _ _ _ h => h) (by rfl) (gives_pureF (by rfl) (by kernel_rfl) ?_) ?_
  rotate_left
  · intro d' u' W' hS'
    go_simp
    rfl
  try simp only [Act.put, List.setIfInBounds_toArray, List.set_cons_zero, List.set_cons_succ, List.getElem_toArray, List.getElem_cons_zero, List.getElem_cons_succ]
  refine wpAnyS_take (i := 3) (v := ?_) rfl (by kernel_rfl) (by kernel_rfl) (by kernel_rfl) (fun _ _ _ h => h) (by rfl) (gives_pureF (by rfl) (by kernel_rfl) ?_) ?_
  rotate_left
  · intro d' u' W' hS'
    have hb := HBB.out _ hS'.1
    have c := hb.get _ (sty_a1 s)
    have lg := hb.lt
    clear hb
    go_simp
    rfl
  try simp only [Act.put, List.setIfInBounds_toArray, List.set_cons_zero, List.set_cons_succ, List.getElem_toArray, List.getElem_cons_zero, List.getElem_cons_succ]
  refine wpAnyS_take (i := 4) (v := ?_) rfl (by kernel_rfl) (by kernel_rfl) (by kernel_rfl) (fun _ _ _ h => h) (by rfl) (gives_pureF (by rfl) (by kernel_rfl) ?_) ?_
  rotate_left
  · intro d' u' W' hS'
    go_simp
    rfl
  try simp only [Act.put, List.setIfInBounds_toArray, List.set_cons_zero, List.set_cons_succ, List.getElem_toArray, List.getElem_cons_zero, List.getElem_cons_succ]
  refine wpAnyS_take (i := 5) (v := ?_) rfl (by kernel_rfl) (by kernel_rfl) (by kernel_rfl) (fun _ _ _ h => h) (by rfl) (gives_pureF (by rfl) (by kernel_rfl) ?_) ?_
  rotate_left
  · intro d' u' W' hS'
    go_simp
    rfl
  try simp only [Act.put, List.setIfInBounds_toArray, List.set_cons_zero, List.set_cons_succ, List.getElem_toArray, List.getElem_cons_zero, List.getElem_cons_succ]
  refine wpAnyS_take (i := 6) (v := ?_) rfl (by kernel_rfl) (by kernel_rfl) (by kernel_rfl) (fun _ _ _ h => h) (by rfl) (gives_pureF (by rfl) (by kernel_rfl) ?_) ?_
  rotate_left
  · intro d' u' W' hS'
    go_simp
    rfl
  try simp only [Act.put, List.setIfInBounds_toArray, List.set_cons_zero, List.set_cons_succ, List.getElem_toArray, List.getElem_cons_zero, List.getElem_cons_succ]
  refine wpAnyS_take (i := 7) (v := ?_) rfl (by kernel_rfl) (by kernel_rfl) (by kernel_rfl) (fun _ _ _ h => h) (by rfl) (gives_pureF (by rfl) (by kernel_rfl) ?_) ?_
  rotate_left
  · intro d' u' W' hS'
    have hb := HBB.out _ hS'.1
    have c := hb.get _ (sty_a34 s)
    have lg := hb.lt
    clear hb
    go_simp
    rfl
  try simp only [Act.put, List.setIfInBounds_toArray, List.set_cons_zero, List.set_cons_succ, List.getElem_toArray, List.getElem_cons_zero, List.getElem_cons_succ]
  refine wpAnyS_take (i := 8) (v := ?_) rfl (by kernel_rfl) (by kernel_rfl) (by kernel_rfl) (fun _ _ _ h => h) (by rfl) (gives_pureF (by rfl) (by kernel_rfl) ?_) ?_
  rotate_left
  · intro d' u' W' hS'
    go_simp
    rfl
  try simp only [Act.put, List.setIfInBounds_toArray, List.set_cons_zero, List.set_cons_succ, List.getElem_toArray, List.getElem_cons_zero, List.getElem_cons_succ]
  refine wpAnyS_take (i := 9) (v := ?_) rfl (by kernel_rfl) (by kernel_rfl) (by kernel_rfl) (fun _ _ _ h => h) (by rfl) (gives_pureF (by rfl) (by kernel_rfl) ?_) ?_
  rotate_left
  · intro d' u' W' hS'
    go_simp
    rfl
  try simp only [Act.put, List.setIfInBounds_toArray, List.set_cons_zero, List.set_cons_succ, List.getElem_toArray, List.getElem_cons_zero, List.getElem_cons_succ]
  refine wpAnyS_take (i := 10) (v := ?_) rfl (by kernel_rfl) (by kernel_rfl) (by kernel_rfl) (fun _ _ _ h => h) (by rfl) (gives_pureF (by rfl) (by kernel_rfl) ?_) ?_
  rotate_left
  · intro d' u' W' hS'
    go_simp
    rfl
  try simp only [Act.put, List.setIfInBounds_toArray, List.set_cons_zero, List.set_cons_succ, List.getElem_toArray, List.getElem_cons_zero, List.getElem_cons_succ]
  refine wpAnyS_take (i := 11) (v := ?_) rfl (by kernel_rfl) (by kernel_rfl) (by kernel_rfl) (fun _ _ _ h => h) (by rfl) (gives_pureF (by rfl) (by kernel_rfl) ?_) ?_
  rotate_left
  · intro d' u' W' hS'
    have hb := HBB.out _ hS'.1
    have c := hb.get _ (sty_a2 s)
    have lg := hb.lt
    clear hb
    go_simp
    rfl
  try simp only [Act.put, List.setIfInBounds_toArray, List.set_cons_zero, List.set_cons_succ, List.getElem_toArray, List.getElem_cons_zero, List.getElem_cons_succ]
  refine wpAnyS_take (i := 12) (v := ?_) rfl (by kernel_rfl) (by kernel_rfl) (by kernel_rfl) (fun _ _ _ h => h) (by rfl) (gives_pureF (by rfl) (by kernel_rfl) ?_) ?_
  rotate_left
  · intro d' u' W' hS'
    go_simp
    rfl
  try simp only [Act.put, List.setIfInBounds_toArray, List.set_cons_zero, List.set_cons_succ, List.getElem_toArray, List.getElem_cons_zero, List.getElem_cons_succ]
  refine wpAnyS_take (i := 13) (v := ?_) rfl (by kernel_rfl) (by kernel_rfl) (by kernel_rfl) (fun _ _ _ h => h) (by rfl) (gives_pureF (by rfl) (by kernel_rfl) ?_) ?_
  rotate_left
  · intro d' u' W' hS'
    go_simp
    rfl
  try simp only [Act.put, List.setIfInBounds_toArray, List.set_cons_zero, List.set_cons_succ, List.getElem_toArray, List.getElem_cons_zero, List.getElem_cons_succ]
  refine wpAnyS_take (i := 14) (v := ?_) rfl (by kernel_rfl) (by kernel_rfl) (by kernel_rfl) (fun _ _ _ h => h) (by rfl) (gives_pureF (by rfl) (by kernel_rfl) ?_) ?_
  rotate_left
  · intro d' u' W' hS'
    go_simp
    rfl
  try simp only [Act.put, List.setIfInBounds_toArray, List.set_cons_zero, List.set_cons_succ, List.getElem_toArray, List.getElem_cons_zero, List.getElem_cons_succ]
  refine wpAnyS_take (i := 15) (v := ?_) rfl (by kernel_rfl) (by kernel_rfl) (by kernel_rfl) (fun _ _ _ h => h) (by rfl) (gives_pureF (by rfl) (by kernel_rfl) ?_) ?_
  rotate_left
  · intro d' u' W' hS'
    have hb := HBB.out _ hS'.1
    have c := hb.get _ (sty_a3 s)
    have lg := hb.lt
    clear hb
    go_simp
    rfl
  try simp only [Act.put, List.setIfInBounds_toArray, List.set_cons_zero, List.set_cons_succ, List.getElem_toArray, List.getElem_cons_zero, List.getElem_cons_succ]
  refine wpAnyS_take (i := 16) (v := ?_) rfl (by kernel_rfl) (by kernel_rfl) (by kernel_rfl) (fun _ _ _ h => h) (by rfl) (gives_pureF (by rfl) (by kernel_rfl) ?_) ?_
  rotate_left
  · intro d' u' W' hS'
    go_simp
    rfl
  try simp only [Act.put, List.setIfInBounds_toArray, List.set_cons_zero, List.set_cons_succ, List.getElem_toArray, List.getElem_cons_zero, List.getElem_cons_succ]
  refine wpAnyS_take (i := 17) (v := ?_) rfl (by kernel_rfl) (by kernel_rfl) (by kernel_rfl) (fun _ _ _ h => h) (by rfl) (gives_pureF (by rfl) (by kernel_rfl) ?_) ?_
  rotate_left
  · intro d' u' W' hS'
    go_simp
    rfl
  try simp only [Act.put, List.setIfInBounds_toArray, List.set_cons_zero, List.set_cons_succ, List.getElem_toArray, List.getElem_cons_zero, List.getElem_cons_succ]
  refine wpAnyS_take (i := 18) (v := ?_) rfl (by kernel_rfl) (by kernel_rfl) (by kernel_rfl) (fun _ _ _ h => h) (by rfl) (gives_pureF (by rfl) (by kernel_rfl) ?_) ?_
  rotate_left
  · intro d' u' W' hS'
    go_simp
    rfl
  try simp only [Act.put, List.setIfInBounds_toArray, List.set_cons_zero, List.set_cons_succ, List.getElem_toArray, List.getElem_cons_zero, List.getElem_cons_succ]
  refine wpAnyS_take (i := 19) (v := ?_) rfl (by kernel_rfl) (by kernel_rfl) (by kernel_rfl) (fun _ _ _ h => h) (by rfl) (gives_pureF (by rfl) (by kernel_rfl) ?_) ?_
  rotate_left
  · intro d' u' W' hS'
    have hb := HBB.out _ hS'.1
    have c := hb.get _ (sty_a32 s)
    have lg := hb.lt
    clear hb
    go_simp
    rfl
  try simp only [Act.put, List.setIfInBounds_toArray, List.set_cons_zero, List.set_cons_succ, List.getElem_toArray, List.getElem_cons_zero, List.getElem_cons_succ]
  refine wpAnyS_take (i := 20) (v := ?_) rfl (by kernel_rfl) (by kernel_rfl) (by kernel_rfl) (fun _ _ _ h => h) (by rfl) (gives_pureF (by rfl) (by kernel_rfl) ?_) ?_
  rotate_left
  · intro d' u' W' hS'
    go_simp
    rfl
  try simp only [Act.put, List.setIfInBounds_toArray, List.set_cons_zero, List.set_cons_succ, List.getElem_toArray, List.getElem_cons_zero, List.getElem_cons_succ]
  refine wpAnyS_take (i := 21) (v := ?_) rfl (by kernel_rfl) (by kernel_rfl) (by kernel_rfl) (fun _ _ _ h => h) (by rfl) (gives_pureF (by rfl) (by kernel_rfl) ?_) ?_
  rotate_left
  · intro d' u' W' hS'
    go_simp
    rfl
  try simp only [Act.put, List.setIfInBounds_toArray, List.set_cons_zero, List.set_cons_succ, List.getElem_toArray, List.getElem_cons_zero, List.getElem_cons_succ]
  refine wpAnyS_take (i := 22) (v := ?_) rfl (by kernel_rfl) (by kernel_rfl) (by kernel_rfl) (fun _ _ _ h => h) (by rfl) (gives_pureF (by rfl) (by kernel_rfl) ?_) ?_
  rotate_left
  · intro d' u' W' hS'
    go_simp
    rfl
  try simp only [Act.put, List.setIfInBounds_toArray, List.set_cons_zero, List.set_cons_succ, List.getElem_toArray, List.getElem_cons_zero, List.getElem_cons_succ]
  refine wpAnyS_take (i := 23) (v := ?_) rfl (by kernel_rfl) (by kernel_rfl) (by kernel_rfl) (fun _ _ _ h => h) (by rfl) (gives_pureF (by rfl) (by kernel_rfl) ?_) ?_
  rotate_left
  · intro d' u' W' hS'
    have hb := HBB.out _ hS'.1
    have c := hb.get _ (sty_a35 s)
    have lg := hb.lt
    clear hb
    go_simp
    rfl
  try simp only [Act.put, List.setIfInBounds_toArray, List.set_cons_zero, List.set_cons_succ, List.getElem_toArray, List.getElem_cons_zero, List.getElem_cons_succ]
  refine wpAnyS_take (i := 24) (v := ?_) rfl (by kernel_rfl) (by kernel_rfl) (by kernel_rfl) (fun _ _ _ h => h) (by rfl) (gives_pureF (by rfl) (by kernel_rfl) ?_) ?_
  rotate_left
  · intro d' u' W' hS'
    go_simp
    rfl
  try simp only [Act.put, List.setIfInBounds_toArray, List.set_cons_zero, List.set_cons_succ, List.getElem_toArray, List.getElem_cons_zero, List.getElem_cons_succ]
  refine wpAnyS_take (i := 25) (v := ?_) rfl (by kernel_rfl) (by kernel_rfl) (by kernel_rfl) (fun _ _ _ h => h) (by rfl) (gives_pureF (by rfl) (by kernel_rfl) ?_) ?_
  rotate_left
  · intro d' u' W' hS'
    go_simp
    rfl
  try simp only [Act.put, List.setIfInBounds_toArray, List.set_cons_zero, List.set_cons_succ, List.getElem_toArray, List.getElem_cons_zero, List.getElem_cons_succ]
  refine wpAnyS_take (i := 26) (v := ?_) rfl (by kernel_rfl) (by kernel_rfl) (by kernel_rfl) (fun _ _ _ h => h) (by rfl) (gives_pureF (by rfl) (by kernel_rfl) ?_) ?_
  rotate_left
  · intro d' u' W' hS'
    go_simp
    rfl
  try simp only [Act.put, List.setIfInBounds_toArray, List.set_cons_zero, List.set_cons_succ, List.getElem_toArray, List.getElem_cons_zero, List.getElem_cons_succ]
  refine wpAnyS_take (i := 27) (v := ?_) rfl (by kernel_rfl) (by kernel_rfl) (by kernel_rfl) (fun _ _ _ h => h) (by rfl) (gives_pureF (by rfl) (by kernel_rfl) ?_) ?_
  rotate_left
  · intro d' u' W' hS'
    have hb := HBB.out _ hS'.1
    have c := hb.get _ (sty_a36 s)
    have lg := hb.lt
    clear hb
    go_simp
    rfl
  try simp only [Act.put, List.setIfInBounds_toArray, List.set_cons_zero, List.set_cons_succ, List.getElem_toArray, List.getElem_cons_zero, List.getElem_cons_succ]
  refine wpAnyS_take (i := 28) (v := .agg #[.int .u8 s.float, .int .u8 s.clear, .int .u8 s.align, .int .u8 s.justify, .int .u8 s.items]) rfl (by kernel_rfl) (by kernel_rfl) (by kernel_rfl) (fun _ _ _ h => h) (by rfl) (gives_pureF (by rfl) (by kernel_rfl) (fun d' u' W' hS' => by kernel_rfl)) ?_
  try simp only [Act.put, List.setIfInBounds_toArray, List.set_cons_zero, List.set_cons_succ, List.getElem_toArray, List.getElem_cons_zero, List.getElem_cons_succ]
  refine wpAnyS_take (i := 29) (v := ?_) rfl (by kernel_rfl) (by kernel_rfl) (by kernel_rfl) (fun _ _ _ h => h) (by rfl) (gives_pureF (by rfl) (by kernel_rfl) ?_) ?_
  rotate_left
  · intro d' u' W' hS'
    go_simp
    rfl
  try simp only [Act.put, List.setIfInBounds_toArray, List.set_cons_zero, List.set_cons_succ, List.getElem_toArray, List.getElem_cons_zero, List.getElem_cons_succ]
  refine wpAnyS_take (i := 30) (v := ?_) rfl (by kernel_rfl) (by kernel_rfl) (by kernel_rfl) (fun _ _ _ h => h) (by rfl) (gives_pureF (by rfl) (by kernel_rfl) ?_) ?_
  rotate_left
  · intro d' u' W' hS'
    go_simp
    rfl
  try simp only [Act.put, List.setIfInBounds_toArray, List.set_cons_zero, List.set_cons_succ, List.getElem_toArray, List.getElem_cons_zero, List.getElem_cons_succ]
  refine wpAnyS_take (i := 31) (v := ?_) rfl (by kernel_rfl) (by kernel_rfl) (by kernel_rfl) (fun _ _ _ h => h) (by rfl) (gives_pureF (by rfl) (by kernel_rfl) ?_) ?_
  rotate_left
  · intro d' u' W' hS'
    go_simp
    rfl
  try simp only [Act.put, List.setIfInBounds_toArray, List.set_cons_zero, List.set_cons_succ, List.getElem_toArray, List.getElem_cons_zero, List.getElem_cons_succ]
  refine wpAnyS_take (i := 32) (v := ?_) rfl (by kernel_rfl) (by kernel_rfl) (by kernel_rfl) (fun _ _ _ h => h) (by rfl) (gives_pureF (by rfl) (by kernel_rfl) ?_) ?_
  rotate_left
  · intro d' u' W' hS'
    have hb := HBB.out _ hS'.1
    have c := hb.get _ (sty_a33 s)
    have lg := hb.lt
    clear hb
    go_simp
    rfl
  try simp only [Act.put, List.setIfInBounds_toArray, List.set_cons_zero, List.set_cons_succ, List.getElem_toArray, List.getElem_cons_zero, List.getElem_cons_succ]
  refine wpAnyS_take (i := 33) (v := ?_) rfl (by kernel_rfl) (by kernel_rfl) (by kernel_rfl) (fun _ _ _ h => h) (by rfl) (gives_pureF (by rfl) (by kernel_rfl) ?_) ?_
  rotate_left
  · intro d' u' W' hS'
    go_simp
    rfl
  try simp only [Act.put, List.setIfInBounds_toArray, List.set_cons_zero, List.set_cons_succ, List.getElem_toArray, List.getElem_cons_zero, List.getElem_cons_succ]
  refine wpAnyS_take (i := 34) (v := ?_) rfl (by kernel_rfl) (by kernel_rfl) (by kernel_rfl) (fun _ _ _ h => h) (by rfl) (gives_pureF (by rfl) (by kernel_rfl) ?_) ?_
  rotate_left
  · intro d' u' W' hS'
    go_simp
    rfl
  try simp only [Act.put, List.setIfInBounds_toArray, List.set_cons_zero, List.set_cons_succ, List.getElem_toArray, List.getElem_cons_zero, List.getElem_cons_succ]
  refine wpAnyS_take (i := 35) (v := ?_) rfl (by kernel_rfl) (by kernel_rfl) (by kernel_rfl) (fun _ _ _ h => h) (by rfl) (gives_pureF (by rfl) (by kernel_rfl) ?_) ?_
  rotate_left
  · intro d' u' W' hS'
    go_simp
    rfl
  try simp only [Act.put, List.setIfInBounds_toArray, List.set_cons_zero, List.set_cons_succ, List.getElem_toArray, List.getElem_cons_zero, List.getElem_cons_succ]
  refine wpAnyS_take (i := 36) (v := ?_) rfl (by kernel_rfl) (by kernel_rfl) (by kernel_rfl) (fun _ _ _ h => h) (by rfl) (gives_pureF (by rfl) (by kernel_rfl) ?_) ?_
  rotate_left
  · intro d' u' W' hS'
    have hb := HBB.out _ hS'.1
    have c := hb.get _ (sty_a37 s)
    have lg := hb.lt
    clear hb
    go_simp
    rfl
  try simp only [Act.put, List.setIfInBounds_toArray, List.set_cons_zero, List.set_cons_succ, List.getElem_toArray, List.getElem_cons_zero, List.getElem_cons_succ]
  refine wpAnyS_take (i := 37) (v := ?_) rfl (by kernel_rfl) (by kernel_rfl) (by kernel_rfl) (fun _ _ _ h => h) (by rfl) (gives_pureF (by rfl) (by kernel_rfl) ?_) ?_
  rotate_left
  · intro d' u' W' hS'
    go_simp
    rfl
  try simp only [Act.put, List.setIfInBounds_toArray, List.set_cons_zero, List.set_cons_succ, List.getElem_toArray, List.getElem_cons_zero, List.getElem_cons_succ]
  refine wpAnyS_take (i := 38) (v := ?_) rfl (by kernel_rfl) (by kernel_rfl) (by kernel_rfl) (fun _ _ _ h => h) (by rfl) (gives_pureF (by rfl) (by kernel_rfl) ?_) ?_
  rotate_left
  · intro d' u' W' hS'
    go_simp
    rfl
  try simp only [Act.put, List.setIfInBounds_toArray, List.set_cons_zero, List.set_cons_succ, List.getElem_toArray, List.getElem_cons_zero, List.getElem_cons_succ]
  refine wpAnyS_take (i := 39) (v := ?_) rfl (by kernel_rfl) (by kernel_rfl) (by kernel_rfl) (fun _ _ _ h => h) (by rfl) (gives_pureF (by rfl) (by kernel_rfl) ?_) ?_
  rotate_left
  · intro d' u' W' hS'
    go_simp
    rfl
  try simp only [Act.put, List.setIfInBounds_toArray, List.set_cons_zero, List.set_cons_succ, List.getElem_toArray, List.getElem_cons_zero, List.getElem_cons_succ]
  refine wpAnyS_take (i := 40) (v := ?_) rfl (by kernel_rfl) (by kernel_rfl) (by kernel_rfl) (fun _ _ _ h => h) (by rfl) (gives_pureF (by rfl) (by kernel_rfl) ?_) ?_
  rotate_left
  · intro d' u' W' hS'
    have hb := HBB.out _ hS'.1
    have c := hb.get _ (sty_a38 s)
    have lg := hb.lt
    clear hb
    go_simp
    rfl
  try simp only [Act.put, List.setIfInBounds_toArray, List.set_cons_zero, List.set_cons_succ, List.getElem_toArray, List.getElem_cons_zero, List.getElem_cons_succ]
  refine wpAnyS_take (i := 41) (v := ?_) rfl (by kernel_rfl) (by kernel_rfl) (by kernel_rfl) (fun _ _ _ h => h) (by rfl) (gives_pureF (by rfl) (by kernel_rfl) ?_) ?_
  rotate_left
  · intro d' u' W' hS'
    go_simp
    rfl
  try simp only [Act.put, List.setIfInBounds_toArray, List.set_cons_zero, List.set_cons_succ, List.getElem_toArray, List.getElem_cons_zero, List.getElem_cons_succ]
  refine wpAnyS_take (i := 42) (v := ?_) rfl (by kernel_rfl) (by kernel_rfl) (by kernel_rfl) (fun _ _ _ h => h) (by rfl) (gives_pureF (by rfl) (by kernel_rfl) ?_) ?_
  rotate_left
  · intro d' u' W' hS'
    go_simp
    rfl
  try simp only [Act.put, List.setIfInBounds_toArray, List.set_cons_zero, List.set_cons_succ, List.getElem_toArray, List.getElem_cons_zero, List.getElem_cons_succ]
  refine wpAnyS_take (i := 43) (v := ?_) rfl (by kernel_rfl) (by kernel_rfl) (by kernel_rfl) (fun _ _ _ h => h) (by rfl) (gives_pureF (by rfl) (by kernel_rfl) ?_) ?_
  rotate_left
  · intro d' u' W' hS'
    go_simp
    rfl
  try simp only [Act.put, List.setIfInBounds_toArray, List.set_cons_zero, List.set_cons_succ, List.getElem_toArray, List.getElem_cons_zero, List.getElem_cons_succ]
  refine wpAnyS_take (i := 44) (v := ?_) rfl (by kernel_rfl) (by kernel_rfl) (by kernel_rfl) (fun _ _ _ h => h) (by rfl) (gives_pureF (by rfl) (by kernel_rfl) ?_) ?_
  rotate_left
  · intro d' u' W' hS'
    have hb := HBB.out _ hS'.1
    have c := hb.get _ (sty_a39 s)
    have lg := hb.lt
    clear hb
    go_simp
    rfl
  try simp only [Act.put, List.setIfInBounds_toArray, List.set_cons_zero, List.set_cons_succ, List.getElem_toArray, List.getElem_cons_zero, List.getElem_cons_succ]
  refine wpAnyS_take (i := 45) (v := .agg #[.int .i64 s.line, .int .i64 s.order, .int .i64 s.grow, .int .i64 s.shrink]) rfl (by kernel_rfl) (by kernel_rfl) (by kernel_rfl) (fun _ _ _ h => h) (by rfl) (gives_pureF (by rfl) (by kernel_rfl) (fun d' u' W' hS' => by kernel_rfl)) ?_
  try simp only [Act.put, List.setIfInBounds_toArray, List.set_cons_zero, List.set_cons_succ, List.getElem_toArray, List.getElem_cons_zero, List.getElem_cons_succ]
  refine wpAnyS_take (i := 46) (v := ?_) rfl (by kernel_rfl) (by kernel_rfl) (by kernel_rfl) (fun _ _ _ h => h) (by rfl) (gives_pureF (by rfl) (by kernel_rfl) ?_) ?_
  rotate_left
  · intro d' u' W' hS'
    go_simp
    rfl
  try simp only [Act.put, List.setIfInBounds_toArray, List.set_cons_zero, List.set_cons_succ, List.getElem_toArray, List.getElem_cons_zero, List.getElem_cons_succ]
  refine wpAnyS_take (i := 47) (v := ?_) rfl (by kernel_rfl) (by kernel_rfl) (by kernel_rfl) (fun _ _ _ h => h) (by rfl) (gives_pureF (by rfl) (by kernel_rfl) ?_) ?_
  rotate_left
  · intro d' u' W' hS'
    go_simp
    rfl
  try simp only [Act.put, List.setIfInBounds_toArray, List.set_cons_zero, List.set_cons_succ, List.getElem_toArray, List.getElem_cons_zero, List.getElem_cons_succ]
  refine wpAnyS_take (i := 48) (v := ?_) rfl (by kernel_rfl) (by kernel_rfl) (by kernel_rfl) (fun _ _ _ h => h) (by rfl) (gives_pureF (by rfl) (by kernel_rfl) ?_) ?_
  rotate_left
  · intro d' u' W' hS'
    go_simp
    rfl
  try simp only [Act.put, List.setIfInBounds_toArray, List.set_cons_zero, List.set_cons_succ, List.getElem_toArray, List.getElem_cons_zero, List.getElem_cons_succ]
  refine wpAnyS_take (i := 49) (v := ?_) rfl (by kernel_rfl) (by kernel_rfl) (by kernel_rfl) (fun _ _ _ h => h) (by rfl) (gives_pureF (by rfl) (by kernel_rfl) ?_) ?_
  rotate_left
  · intro d' u' W' hS'
    have hb := HBB.out _ hS'.1
    have c := hb.get _ (sty_a4 s)
    have c' := hb.get _ (sty_a5 s)
    have lg := hb.lt
    clear hb
    go_simp
    rfl
  try simp only [Act.put, List.setIfInBounds_toArray, List.set_cons_zero, List.set_cons_succ, List.getElem_toArray, List.getElem_cons_zero, List.getElem_cons_succ]
  refine wpAnyS_take (i := 50) (v := ?_) rfl (by kernel_rfl) (by kernel_rfl) (by kernel_rfl) (fun _ _ _ h => h) (by rfl) (gives_pureF (by rfl) (by kernel_rfl) ?_) ?_
  rotate_left
  · intro d' u' W' hS'
    go_simp
    rfl
  try simp only [Act.put, List.setIfInBounds_toArray, List.set_cons_zero, List.set_cons_succ, List.getElem_toArray, List.getElem_cons_zero, List.getElem_cons_succ]
  refine wpAnyS_take (i := 51) (v := ?_) rfl (by kernel_rfl) (by kernel_rfl) (by kernel_rfl) (fun _ _ _ h => h) (by rfl) (gives_pureF (by rfl) (by kernel_rfl) ?_) ?_
  rotate_left
  · intro d' u' W' hS'
    go_simp
    rfl
  try simp only [Act.put, List.setIfInBounds_toArray, List.set_cons_zero, List.set_cons_succ, List.getElem_toArray, List.getElem_cons_zero, List.getElem_cons_succ]
  refine wpAnyS_take (i := 52) (v := ?_) rfl (by kernel_rfl) (by kernel_rfl) (by kernel_rfl) (fun _ _ _ h => h) (by rfl) (gives_pureF (by rfl) (by kernel_rfl) ?_) ?_
  rotate_left
  · intro d' u' W' hS'
    go_simp
    rfl
  try simp only [Act.put, List.setIfInBounds_toArray, List.set_cons_zero, List.set_cons_succ, List.getElem_toArray, List.getElem_cons_zero, List.getElem_cons_succ]
  refine wpAnyS_take (i := 53) (v := ?_) rfl (by kernel_rfl) (by kernel_rfl) (by kernel_rfl) (fun _ _ _ h => h) (by rfl) (gives_pureF (by rfl) (by kernel_rfl) ?_) ?_
  rotate_left
  · intro d' u' W' hS'
    have hb := HBB.out _ hS'.1
    have c := hb.get _ (sty_a6 s)
    have c' := hb.get _ (sty_a7 s)
    have lg := hb.lt
    clear hb
    go_simp
    rfl
  try simp only [Act.put, List.setIfInBounds_toArray, List.set_cons_zero, List.set_cons_succ, List.getElem_toArray, List.getElem_cons_zero, List.getElem_cons_succ]
  refine wpAnyS_take (i := 54) (v := ?_) rfl (by kernel_rfl) (by kernel_rfl) (by kernel_rfl) (fun _ _ _ h => h) (by rfl) (gives_pureF (by rfl) (by kernel_rfl) ?_) ?_
  rotate_left
  · intro d' u' W' hS'
    go_simp
    rfl
  try simp only [Act.put, List.setIfInBounds_toArray, List.set_cons_zero, List.set_cons_succ, List.getElem_toArray, List.getElem_cons_zero, List.getElem_cons_succ]
  refine wpAnyS_take (i := 55) (v := ?_) rfl (by kernel_rfl) (by kernel_rfl) (by kernel_rfl) (fun _ _ _ h => h) (by rfl) (gives_pureF (by rfl) (by kernel_rfl) ?_) ?_
  rotate_left
  · intro d' u' W' hS'
    go_simp
    rfl
  try simp only [Act.put, List.setIfInBounds_toArray, List.set_cons_zero, List.set_cons_succ, List.getElem_toArray, List.getElem_cons_zero, List.getElem_cons_succ]
  refine wpAnyS_take (i := 56) (v := ?_) rfl (by kernel_rfl) (by kernel_rfl) (by kernel_rfl) (fun _ _ _ h => h) (by rfl) (gives_pureF (by rfl) (by kernel_rfl) ?_) ?_
  rotate_left
  · intro d' u' W' hS'
    go_simp
    rfl
  try simp only [Act.put, List.setIfInBounds_toArray, List.set_cons_zero, List.set_cons_succ, List.getElem_toArray, List.getElem_cons_zero, List.getElem_cons_succ]
  refine wpAnyS_take (i := 57) (v := ?_) rfl (by kernel_rfl) (by kernel_rfl) (by kernel_rfl) (fun _ _ _ h => h) (by rfl) (gives_pureF (by rfl) (by kernel_rfl) ?_) ?_
  rotate_left
  · intro d' u' W' hS'
    have hb := HBB.out _ hS'.1
    have c := hb.get _ (sty_a8 s)
    have c' := hb.get _ (sty_a9 s)
    have lg := hb.lt
    clear hb
    go_simp
    rfl
  try simp only [Act.put, List.setIfInBounds_toArray, List.set_cons_zero, List.set_cons_succ, List.getElem_toArray, List.getElem_cons_zero, List.getElem_cons_succ]
  refine wpAnyS_take (i := 58) (v := ?_) rfl (by kernel_rfl) (by kernel_rfl) (by kernel_rfl) (fun _ _ _ h => h) (by rfl) (gives_pureF (by rfl) (by kernel_rfl) ?_) ?_
  rotate_left
  · intro d' u' W' hS'
    go_simp
    rfl
  try simp only [Act.put, List.setIfInBounds_toArray, List.set_cons_zero, List.set_cons_succ, List.getElem_toArray, List.getElem_cons_zero, List.getElem_cons_succ]
  refine wpAnyS_take (i := 59) (v := ?_) rfl (by kernel_rfl) (by kernel_rfl) (by kernel_rfl) (fun _ _ _ h => h) (by rfl) (gives_pureF (by rfl) (by kernel_rfl) ?_) ?_
  rotate_left
  · intro d' u' W' hS'
    go_simp
    rfl
  try simp only [Act.put, List.setIfInBounds_toArray, List.set_cons_zero, List.set_cons_succ, List.getElem_toArray, List.getElem_cons_zero, List.getElem_cons_succ]
  refine wpAnyS_take (i := 60) (v := ?_) rfl (by kernel_rfl) (by kernel_rfl) (by kernel_rfl) (fun _ _ _ h => h) (by rfl) (gives_pureF (by rfl) (by kernel_rfl) ?_) ?_
  rotate_left
  · intro d' u' W' hS'
    go_simp
    rfl
  try simp only [Act.put, List.setIfInBounds_toArray, List.set_cons_zero, List.set_cons_succ, List.getElem_toArray, List.getElem_cons_zero, List.getElem_cons_succ]
  refine wpAnyS_take (i := 61) (v := ?_) rfl (by kernel_rfl) (by kernel_rfl) (by kernel_rfl) (fun _ _ _ h => h) (by rfl) (gives_pureF (by rfl) (by kernel_rfl) ?_) ?_
  rotate_left
  · intro d' u' W' hS'
    have hb := HBB.out _ hS'.1
    have c := hb.get _ (sty_a10 s)
    have c' := hb.get _ (sty_a11 s)
    have lg := hb.lt
    clear hb
    go_simp
    rfl
  try simp only [Act.put, List.setIfInBounds_toArray, List.set_cons_zero, List.set_cons_succ, List.getElem_toArray, List.getElem_cons_zero, List.getElem_cons_succ]
  refine wpAnyS_take (i := 62) (v := ?_) rfl (by kernel_rfl) (by kernel_rfl) (by kernel_rfl) (fun _ _ _ h => h) (by rfl) (gives_pureF (by rfl) (by kernel_rfl) ?_) ?_
  rotate_left
  · intro d' u' W' hS'
    go_simp
    rfl
  try simp only [Act.put, List.setIfInBounds_toArray, List.set_cons_zero, List.set_cons_succ, List.getElem_toArray, List.getElem_cons_zero, List.getElem_cons_succ]
  refine wpAnyS_take (i := 63) (v := ?_) rfl (by kernel_rfl) (by kernel_rfl) (by kernel_rfl) (fun _ _ _ h => h) (by rfl) (gives_pureF (by rfl) (by kernel_rfl) ?_) ?_
  rotate_left
  · intro d' u' W' hS'
    go_simp
    rfl
  try simp only [Act.put, List.setIfInBounds_toArray, List.set_cons_zero, List.set_cons_succ, List.getElem_toArray, List.getElem_cons_zero, List.getElem_cons_succ]
  refine wpAnyS_take (i := 64) (v := ?_) rfl (by kernel_rfl) (by kernel_rfl) (by kernel_rfl) (fun _ _ _ h => h) (by rfl) (gives_pureF (by rfl) (by kernel_rfl) ?_) ?_
  rotate_left
  · intro d' u' W' hS'
    go_simp
    rfl
  try simp only [Act.put, List.setIfInBounds_toArray, List.set_cons_zero, List.set_cons_succ, List.getElem_toArray, List.getElem_cons_zero, List.getElem_cons_succ]
  refine wpAnyS_take (i := 65) (v := ?_) rfl (by kernel_rfl) (by kernel_rfl) (by kernel_rfl) (fun _ _ _ h => h) (by rfl) (gives_pureF (by rfl) (by kernel_rfl) ?_) ?_
  rotate_left
  · intro d' u' W' hS'
    have hb := HBB.out _ hS'.1
    have c := hb.get _ (sty_a12 s)
    have c' := hb.get _ (sty_a13 s)
    have lg := hb.lt
    clear hb
    go_simp
    rfl
  try simp only [Act.put, List.setIfInBounds_toArray, List.set_cons_zero, List.set_cons_succ, List.getElem_toArray, List.getElem_cons_zero, List.getElem_cons_succ]
  refine wpAnyS_take (i := 66) (v := ?_) rfl (by kernel_rfl) (by kernel_rfl) (by kernel_rfl) (fun _ _ _ h => h) (by rfl) (gives_pureF (by rfl) (by kernel_rfl) ?_) ?_
  rotate_left
  · intro d' u' W' hS'
    go_simp
    rfl
  try simp only [Act.put, List.setIfInBounds_toArray, List.set_cons_zero, List.set_cons_succ, List.getElem_toArray, List.getElem_cons_zero, List.getElem_cons_succ]
  refine wpAnyS_take (i := 67) (v := ?_) rfl (by kernel_rfl) (by kernel_rfl) (by kernel_rfl) (fun _ _ _ h => h) (by rfl) (gives_pureF (by rfl) (by kernel_rfl) ?_) ?_
  rotate_left
  · intro d' u' W' hS'
    go_simp
    rfl
  try simp only [Act.put, List.setIfInBounds_toArray, List.set_cons_zero, List.set_cons_succ, List.getElem_toArray, List.getElem_cons_zero, List.getElem_cons_succ]
  refine wpAnyS_take (i := 68) (v := ?_) rfl (by kernel_rfl) (by kernel_rfl) (by kernel_rfl) (fun _ _ _ h => h) (by rfl) (gives_pureF (by rfl) (by kernel_rfl) ?_) ?_
  rotate_left
  · intro d' u' W' hS'
    go_simp
    rfl
  try simp only [Act.put, List.setIfInBounds_toArray, List.set_cons_zero, List.set_cons_succ, List.getElem_toArray, List.getElem_cons_zero, List.getElem_cons_succ]
  refine wpAnyS_take (i := 69) (v := ?_) rfl (by kernel_rfl) (by kernel_rfl) (by kernel_rfl) (fun _ _ _ h => h) (by rfl) (gives_pureF (by rfl) (by kernel_rfl) ?_) ?_
  rotate_left
  · intro d' u' W' hS'
    have hb := HBB.out _ hS'.1
    have c := hb.get _ (sty_a14 s)
    have c' := hb.get _ (sty_a15 s)
    have lg := hb.lt
    clear hb
    go_simp
    rfl
  try simp only [Act.put, List.setIfInBounds_toArray, List.set_cons_zero, List.set_cons_succ, List.getElem_toArray, List.getElem_cons_zero, List.getElem_cons_succ]
  refine wpAnyS_take (i := 70) (v := ?_) rfl (by kernel_rfl) (by kernel_rfl) (by kernel_rfl) (fun _ _ _ h => h) (by rfl) (gives_pureF (by rfl) (by kernel_rfl) ?_) ?_
  rotate_left
  · intro d' u' W' hS'
    go_simp
    rfl
  try simp only [Act.put, List.setIfInBounds_toArray, List.set_cons_zero, List.set_cons_succ, List.getElem_toArray, List.getElem_cons_zero, List.getElem_cons_succ]
  refine wpAnyS_take (i := 71) (v := ?_) rfl (by kernel_rfl) (by kernel_rfl) (by kernel_rfl) (fun _ _ _ h => h) (by rfl) (gives_pureF (by rfl) (by kernel_rfl) ?_) ?_
  rotate_left
  · intro d' u' W' hS'
    go_simp
    rfl
  try simp only [Act.put, List.setIfInBounds_toArray, List.set_cons_zero, List.set_cons_succ, List.getElem_toArray, List.getElem_cons_zero, List.getElem_cons_succ]
  refine wpAnyS_take (i := 72) (v := ?_) rfl (by kernel_rfl) (by kernel_rfl) (by kernel_rfl) (fun _ _ _ h => h) (by rfl) (gives_pureF (by rfl) (by kernel_rfl) ?_) ?_
  rotate_left
  · intro d' u' W' hS'
    go_simp
    rfl
  try simp only [Act.put, List.setIfInBounds_toArray, List.set_cons_zero, List.set_cons_succ, List.getElem_toArray, List.getElem_cons_zero, List.getElem_cons_succ]
  refine wpAnyS_take (i := 73) (v := ?_) rfl (by kernel_rfl) (by kernel_rfl) (by kernel_rfl) (fun _ _ _ h => h) (by rfl) (gives_pureF (by rfl) (by kernel_rfl) ?_) ?_
  rotate_left
  · intro d' u' W' hS'
    have hb := HBB.out _ hS'.1
    have c := hb.get _ (sty_a40 s)
    have c' := hb.get _ (sty_a41 s)
    have lg := hb.lt
    clear hb
    go_simp
    rfl
  try simp only [Act.put, List.setIfInBounds_toArray, List.set_cons_zero, List.set_cons_succ, List.getElem_toArray, List.getElem_cons_zero, List.getElem_cons_succ]
  refine wpAnyS_take (i := 74) (v := .agg #[.int .u8 s.w.k, .int .i64 s.w.n, .int .u8 s.h.k, .int .i64 s.h.n, .int .u8 s.minw.k, .int .i64 s.minw.n, .int .u8 s.maxw.k, .int .i64 s.maxw.n, .int .u8 s.minh.k, .int .i64 s.minh.n, .int .u8 s.maxh.k, .int .i64 s.maxh.n, .int .u8 s.basis.k, .int .i64 s.basis.n]) rfl (by kernel_rfl) (by kernel_rfl) (by kernel_rfl) (fun _ _ _ h => h) (by rfl) (gives_pureF (by rfl) (by kernel_rfl) (fun d' u' W' hS' => by kernel_rfl)) ?_
  try simp only [Act.put, List.setIfInBounds_toArray, List.set_cons_zero, List.set_cons_succ, List.getElem_toArray, List.getElem_cons_zero, List.getElem_cons_succ]
  refine wpAnyS_take (i := 75) (v := ?_) rfl (by kernel_rfl) (by kernel_rfl) (by kernel_rfl) (fun _ _ _ h => h) (by rfl) (gives_pureF (by rfl) (by kernel_rfl) ?_) ?_
  rotate_left
  · intro d' u' W' hS'
    go_simp
    rfl
  try simp only [Act.put, List.setIfInBounds_toArray, List.set_cons_zero, List.set_cons_succ, List.getElem_toArray, List.getElem_cons_zero, List.getElem_cons_succ]
  refine wpAnyS_take (i := 76) (v := ?_) rfl (by kernel_rfl) (by kernel_rfl) (by kernel_rfl) (fun _ _ _ h => h) (by rfl) (gives_pureF (by rfl) (by kernel_rfl) ?_) ?_
  rotate_left
  · intro d' u' W' hS'
    go_simp
    rfl
  try simp only [Act.put, List.setIfInBounds_toArray, List.set_cons_zero, List.set_cons_succ, List.getElem_toArray, List.getElem_cons_zero, List.getElem_cons_succ]
  refine wpAnyS_take (i := 77) (v := ?_) rfl (by kernel_rfl) (by kernel_rfl) (by kernel_rfl) (fun _ _ _ h => h) (by rfl) (gives_pureF (by rfl) (by kernel_rfl) ?_) ?_
  rotate_left
  · intro d' u' W' hS'
    go_simp
    rfl
  try simp only [Act.put, List.setIfInBounds_toArray, List.set_cons_zero, List.set_cons_succ, List.getElem_toArray, List.getElem_cons_zero, List.getElem_cons_succ]
  refine wpAnyS_take (i := 78) (v := .agg (mgR s).toArray) rfl (by kernel_rfl) (by kernel_rfl) (by kernel_rfl) (fun _ _ _ h => h) (by rfl) (gives_yields ?_) ?_
  · refine yieldsIf_load_mid (by rfl) 63 (.tmp 81) rfl (g) 16 (by go_simp) (mgR s) _ ?_ Tryz.underlying63 rfl (by kernel_rfl)
    rintro W' ⟨b', d', u', hS'⟩
    exact (HRG16.out _ hS'.1)
  try simp only [Act.put, List.setIfInBounds_toArray, List.set_cons_zero, List.set_cons_succ, List.getElem_toArray, List.getElem_cons_zero, List.getElem_cons_succ]
  refine wpAnyS_take (i := 79) (v := ?_) rfl (by kernel_rfl) (by kernel_rfl) (by kernel_rfl) (fun _ _ _ h => h) (by rfl) (gives_pureF (by rfl) (by kernel_rfl) ?_) ?_
  rotate_left
  · intro d' u' W' hS'
    go_simp
    rfl
  try simp only [Act.put, List.setIfInBounds_toArray, List.set_cons_zero, List.set_cons_succ, List.getElem_toArray, List.getElem_cons_zero, List.getElem_cons_succ]
  refine wpAnyS_take (i := 80) (v := ?_) rfl (by kernel_rfl) (by kernel_rfl) (by kernel_rfl) (fun _ _ _ h => h) (by rfl) (gives_pureF (by rfl) (by kernel_rfl) ?_) ?_
  rotate_left
  · intro d' u' W' hS'
    go_simp
    rfl
  try simp only [Act.put, List.setIfInBounds_toArray, List.set_cons_zero, List.set_cons_succ, List.getElem_toArray, List.getElem_cons_zero, List.getElem_cons_succ]
  refine wpAnyS_take (i := 81) (v := ?_) rfl (by kernel_rfl) (by kernel_rfl) (by kernel_rfl) (fun _ _ _ h => h) (by rfl) (gives_pureF (by rfl) (by kernel_rfl) ?_) ?_
  rotate_left
  · intro d' u' W' hS'
    go_simp
    rfl
  try simp only [Act.put, List.setIfInBounds_toArray, List.set_cons_zero, List.set_cons_succ, List.getElem_toArray, List.getElem_cons_zero, List.getElem_cons_succ]
  refine wpAnyS_take (i := 82) (v := .agg (bdR s).toArray) rfl (by kernel_rfl) (by kernel_rfl) (by kernel_rfl) (fun _ _ _ h => h) (by rfl) (gives_yields ?_) ?_
  · refine yieldsIf_load_mid (by rfl) 64 (.tmp 85) rfl (g) 24 (by go_simp) (bdR s) _ ?_ Tryz.underlying64 rfl (by kernel_rfl)
    rintro W' ⟨b', d', u', hS'⟩
    exact (HRG24.out _ hS'.1)
  try simp only [Act.put, List.setIfInBounds_toArray, List.set_cons_zero, List.set_cons_succ, List.getElem_toArray, List.getElem_cons_zero, List.getElem_cons_succ]
  refine wpAnyS_take (i := 83) (v := ?_) rfl (by kernel_rfl) (by kernel_rfl) (by kernel_rfl) (fun _ _ _ h => h) (by rfl) (gives_pureF (by rfl) (by kernel_rfl) ?_) ?_
  rotate_left
  · intro d' u' W' hS'
    go_simp
    rfl
  try simp only [Act.put, List.setIfInBounds_toArray, List.set_cons_zero, List.set_cons_succ, List.getElem_toArray, List.getElem_cons_zero, List.getElem_cons_succ]
  refine wpAnyS_take (i := 84) (v := ?_) rfl (by kernel_rfl) (by kernel_rfl) (by kernel_rfl) (fun _ _ _ h => h) (by rfl) (gives_pureF (by rfl) (by kernel_rfl) ?_) ?_
  rotate_left
  · intro d' u' W' hS'
    go_simp
    rfl
  try simp only [Act.put, List.setIfInBounds_toArray, List.set_cons_zero, List.set_cons_succ, List.getElem_toArray, List.getElem_cons_zero, List.getElem_cons_succ]
  refine wpAnyS_take (i := 85) (v := ?_) rfl (by kernel_rfl) (by kernel_rfl) (by kernel_rfl) (fun _ _ _ h => h) (by rfl) (gives_pureF (by rfl) (by kernel_rfl) ?_) ?_
  rotate_left
  · intro d' u' W' hS'
    go_simp
    rfl
  try simp only [Act.put, List.setIfInBounds_toArray, List.set_cons_zero, List.set_cons_succ, List.getElem_toArray, List.getElem_cons_zero, List.getElem_cons_succ]
  refine wpAnyS_take (i := 86) (v := .agg (pdR s).toArray) rfl (by kernel_rfl) (by kernel_rfl) (by kernel_rfl) (fun _ _ _ h => h) (by rfl) (gives_yields ?_) ?_
  · refine yieldsIf_load_mid (by rfl) 64 (.tmp 89) rfl (g) 28 (by go_simp) (pdR s) _ ?_ Tryz.underlying64 rfl (by kernel_rfl)
    rintro W' ⟨b', d', u', hS'⟩
    exact (HRG28.out _ hS'.1)
  try simp only [Act.put, List.setIfInBounds_toArray, List.set_cons_zero, List.set_cons_succ, List.getElem_toArray, List.getElem_cons_zero, List.getElem_cons_succ]
  refine wpAnyS_take (i := 87) (v := .agg (plL s).toArray) rfl (by kernel_rfl) (by kernel_rfl) (by kernel_rfl) (fun _ _ _ h => h) (by rfl) (gives_pureF (by rfl) (by kernel_rfl) (fun d' u' W' hS' => by kernel_rfl)) ?_
  try simp only [Act.put, List.setIfInBounds_toArray, List.set_cons_zero, List.set_cons_succ, List.getElem_toArray, List.getElem_cons_zero, List.getElem_cons_succ]
  refine wpAnyS_alloc (i := 88) (b := false) (.cells plZ.toArray 330) rfl (by kernel_rfl) (by kernel_rfl) (by kernel_rfl) (by kernel_rfl) ?_ (fun u' W' hS' => ⟨hS'.1.alloc hS'.1.size _, fun _ => ⟨W'.heap.size, rfl, hS'.1.size, (fun h => by cases h), fun _ => Blk.new _ _ _⟩⟩) (fun gA => ?_)
  · intro W'
    kernel_rfl
  try simp only [Act.put, List.setIfInBounds_toArray, List.set_cons_zero, List.set_cons_succ, List.getElem_toArray, List.getElem_cons_zero, List.getElem_cons_succ]
  refine wpAnyS_store (i := 89) (d := true) (u := .pointer (some ⟨gA, 0, none⟩)) (fun W' => W'.setCells gA 0 (plL s)) rfl (by kernel_rfl) (by kernel_rfl) (by kernel_rfl) (by kernel_rfl) (by kernel_rfl) ?_ (fun W' hS' => ?_) ?_
  · refine fun W' hS' => store_midP (x := .tmp 3) (y := .tmp 91) 330 gA (plL s) _ _ (plS_blk (s := s) (w := w) rfl rfl hS') (plS_len s) (by kernel_rfl) (pl_one s) ?_ ?_ ?_
    · kernel_rfl
    · kernel_rfl
    · kernel_rfl
  · obtain ⟨gA', e1, e2, e3⟩ := hS'.2 rfl
    have e4 : gA = gA' := by injection e1 with e1; injection e1 with e1; injection e1
    subst e4
    exact ⟨below_setCellsP e2 _ _ _ _ hS'.1, fun _ => ⟨gA, rfl, e2, (fun _ => World.rangeAt_setCells_same _ _ _ _ (there_blkP (e3.2 rfl) (Nat.le_refl _))), fun h => by cases h⟩⟩
  try simp only [Act.put, List.setIfInBounds_toArray, List.set_cons_zero, List.set_cons_succ, List.getElem_toArray, List.getElem_cons_zero, List.getElem_cons_succ]
  refine wpAnyS_done (b := true) (d := true) (u := .pointer (some ⟨gA, 0, none⟩)) (by kernel_rfl) (by kernel_rfl) (by kernel_rfl) (by kernel_rfl) (fun w3 hS => ?_) _
  have HR3 : Hid (w3.rangeAt gA 0 (plL s)) := Lib.hid (plS_rng (w := w) rfl rfl hS)
  have HBW := Lib.hid hS.1
  clear hS
  go_upto_region 2 with (fail)
  refine wp_region_lit ?_
  refine wpList_load_mid rfl 330 (.tmp 3) rfl gA 0 (by kernel_rfl) (plL s) _ HR3.out Tryz.underlying330 rfl (by kernel_rfl) ?_
  try simp only [Act.put, List.setIfInBounds_toArray, List.set_cons_zero, List.set_cons_succ, List.getElem_toArray, List.getElem_cons_zero, List.getElem_cons_succ]
  refine wpList_build rfl 330 #[] rfl (.agg plZ.toArray) (by kernel_rfl) ?_
  try simp only [Act.put, List.setIfInBounds_toArray, List.set_cons_zero, List.set_cons_succ, List.getElem_toArray, List.getElem_cons_zero, List.getElem_cons_succ]
  refine wpList_valP (v := .bool (stBareF s)) (w' := w3) rfl ?_ ?_
  · refine exec_eqlP 330 rfl ?_ ?_ w3
    · kernel_rfl
    · kernel_rfl
  try simp only [Act.put, List.setIfInBounds_toArray, List.set_cons_zero, List.set_cons_succ, List.getElem_toArray, List.getElem_cons_zero, List.getElem_cons_succ]
  go_wp2_with fail
  go_ret
  exact ⟨rfl, HBW.out⟩
end Go.Proofs.YtjhfcpadnofdnaaGreat
