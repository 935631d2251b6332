/- Contracts: px and Tower of chapter 22's statements. -/
import Derived.Test.YtlebbkhhhmempaaTx
import Derived.Test.YtlebbkhhhmempaaBld
set_option linter.unusedSimpArgs false
set_option linter.unusedVariables false
namespace Go.Proofs.Ytlebbkhhhmempaa
open Go.RowKit
attribute [local go_sem] block_of_add
theorem wpList_val {P : Program} {ops : Array Oper} {rest : List Oper} {o : Oper} {a : Act} {w w' : World} {Q : Exit → Act → World → Prop} {v : Value} (hgd : o.guard = none)
    (hrun : (execOp a.eval o).run P w = .ok (.value v) w') (h : wpList P ops Q rest (a.put o.dst v) w') : wpList P ops Q (o :: rest) a w :=
  wpList_plain hgd fun K hK => by
    unfold Oper.wp
    simp only [hrun]
    exact hK _ _ h
theorem el_node : El Try.prog 22 71 (.agg (ndCells ⟨0, styZF⟩).toArray) 44 328 := ⟨Try.underlying22, by kernel_rfl, rfl, by decide⟩
theorem el_usedT : El Try.prog 37 27 (.agg #[.int .i64 0, .int .i64 0, .int .i64 0]) 3 24 := ⟨Try.underlying37, by kernel_rfl, rfl, by decide⟩
theorem px22_any (n : Int) (w : World) : Calls Try.prog 23 #[.int .i64 n] w fun e w' => e = .returned (.agg #[.int .u8 1, .int .i64 n]) ∧ Below w.heap.size w w' := by
  go_enter Try.func23, Try.ntmps23
  go_wp2_with fail
  refine bodyPost_ret (results_cell_row rfl _ _ w.heap.size 64 #[_, _] (0, 0) _ rfl (Blk.new w 64 #[.int .u8 1, .int .i64 n]) Try.underlying64 rfl (by kernel_rfl)) rfl ⟨rfl, ?_⟩
  exact (Below.refl _ _).alloc (Nat.le_refl _) _
/-- Three numbers of a row. -/
def r3C (r : Int × Int × Int) : List Value := [.int .i64 r.1, .int .i64 r.2.1, .int .i64 r.2.2]
def rwOf (r : Int × Int × Int) : Rw := ⟨r.1, r.2.1, r.2.2, 0, 0⟩
theorem Reads.r3 {w : World} {B n k : Nat} {A : Option Addr} {l : List (Int × Int × Int)} (h : Reads w B 3 A n (l.flatMap r3C)) (hn : n = l.length) (hk : k < l.length) :
    ∃ ad : Addr, A = some ad ∧ ad.block < B ∧ w.cell? (ad.add (k * 3)) = some (.int .i64 l[k].1) ∧ w.cell? ⟨ad.block, (ad.add (k * 3)).off + 1, none⟩ = some (.int .i64 l[k].2.1) ∧ w.cell? ⟨ad.block, (ad.add (k * 3)).off + 2, none⟩ = some (.int .i64 l[k].2.2) := by
  obtain ⟨ad, e, hb, hc⟩ := h.2 (by omega)
  have ha : ∀ i, i ≠ 0 → (⟨ad.block, (ad.add (k * 3)).off + i, none⟩ : Addr) = ad.add (k * 3 + i) := by
    intro i hi
    rw [← add_of_add, show ∀ p : Addr, p.add i = ⟨p.block, p.off + i, none⟩ from fun p => by unfold Addr.add; rw [if_neg hi], block_of_add]
  have hg : ∀ i, i < 3 → ∀ u, (r3C l[k])[i]? = some u → w.cell? (ad.add (k * 3 + i)) = some u := fun i hi u hu => hc _ u (by rw [flat_at r3C 3 (fun _ => rfl) l k i hk hi]; exact hu)
  refine ⟨ad, e, hb, hg 0 (by omega) _ rfl, ?_, ?_⟩
  · rw [ha 1 (by omega)]; exact hg 1 (by omega) _ rfl
  · rw [ha 2 (by omega)]; exact hg 2 (by omega) _ rfl
/-- Where a tower stands that is being built: its nodes have k rows, its used values m. -/
structure TwI (w : World) (gT : Nat) (rs : List Rw) (m : Nat) (AN : Option Addr) (cN : Nat) (AU : Option Addr) (cU : Nat) (W : World) : Prop where
  r : Blk W w.heap.size 25 #[.slice none 0 0, .slice none 0 0, .int .i64 0]
  t : Blk W gT 25 #[.slice AN (rs.length + 1) cN, .slice none 0 0, .int .i64 100]
  n : W.ownsRow w.heap.size 71 44 (.slice AN (rs.length + 1) cN) (rs.length + 1) (ndsCells (twL 0 0 rs))
  u : W.ownsRow w.heap.size 27 3 (.slice AU (m + 1) cU) (m + 1) (udsCells (List.replicate (m + 1) ⟨100, 0, 0⟩))
  b : Below w.heap.size w W
  g : w.heap.size < gT
section
variable {w : World} {gT : Nat} {rs : List Rw} {m : Nat} {AN AU A' : Option Addr} {cN cU c' : Nat} {W W' : World}
theorem TwI.below (h : TwI w gT rs m AN cN AU cU W) (hb : Below W.heap.size W W') : TwI w gT rs m AN cN AU cU W' :=
  ⟨h.r.below hb h.r.lt, h.t.below hb h.t.lt, own_below h.n hb, own_below h.u hb, h.b.trans (hb.mono h.b.size), h.g⟩
theorem TwI.far (h : TwI w gT rs m AN cN AU cU W) {g : Nat} {t : TypeId} {cs : Array Value} (hg : Blk W g t cs) (h1 : 25 ≠ t) (h2 : 71 ≠ t) (h3 : 27 ≠ t) (hl : w.heap.size ≤ g) (i : Nat) (v : Value) : TwI w gT rs m AN cN AU cU (W.setCell ⟨g, i, none⟩ v) :=
  ⟨h.r.far (h.r.ne_ hg h1) _, h.t.far (h.t.ne_ hg h1) _, ownsRow_setCell_other h.n (a := ⟨g, i, none⟩) (own_blk_ne h.n hg h2) _, ownsRow_setCell_other h.u (a := ⟨g, i, none⟩) (own_blk_ne h.u hg h3) _, h.b.setCell (p := ⟨g, i, none⟩) hl _, h.g⟩
theorem TwI.appN (h : TwI w gT rs m AN cN AU cU W) (r : Rw) (hown : W'.ownsRow w.heap.size 71 44 (.slice A' (rs.length + 1 + 1) c') (rs.length + 1 + 1) (ndsCells (twL 0 0 rs) ++ ndCells ⟨0, twS r⟩)) (hg : W.grownBy W' (Value.slice AN (rs.length + 1) cN).ownBlock) (hB : ∀ B w0, B ≤ w.heap.size → Below B w0 W → Below B w0 W') :
    TwI w gT (rs ++ [r]) m A' c' AU cU (W'.setCell ⟨gT, 0, none⟩ (.slice A' (rs.length + 1 + 1) c')) := by
  have e1 : (rs ++ [r]).length = rs.length + 1 := by simp
  have e2 : ndsCells (twL 0 0 (rs ++ [r])) = ndsCells (twL 0 0 rs) ++ ndCells ⟨0, twS r⟩ := by simp [twL, ndsCells]
  have hr := h.r.grown hg (fun e => own_blk_ne h.n h.r (by decide) e.symm)
  have ht := h.t.grown hg (fun e => own_blk_ne h.n h.t (by decide) e.symm)
  have hu := h.u.kept hg (own_apart h.u h.n (by decide))
  have ht' := ht.set_ 0 (.slice A' (rs.length + 1 + 1) c')
  refine ⟨hr.far (by have := h.g; simp; omega) _, ?_, ?_, ownsRow_setCell_other hu (a := ⟨gT, 0, none⟩) (own_blk_ne hu ht (by decide)) _, (hB _ _ (Nat.le_refl _) h.b).setCell (p := ⟨gT, 0, none⟩) (by have := h.g; simp; omega) _, h.g⟩
  · rw [e1]; exact ht'
  · rw [e1, e2]; exact ownsRow_setCell_other hown (a := ⟨gT, 0, none⟩) (own_blk_ne hown ht (by decide)) _
theorem TwI.appU (h : TwI w gT rs m AN cN AU cU W) (hown : W'.ownsRow w.heap.size 27 3 (.slice A' (m + 1 + 1) c') (m + 1 + 1) (udsCells (List.replicate (m + 1) ⟨100, 0, 0⟩) ++ [.int .i64 100, .int .i64 0, .int .i64 0])) (hg : W.grownBy W' (Value.slice AU (m + 1) cU).ownBlock) (hB : ∀ B w0, B ≤ w.heap.size → Below B w0 W → Below B w0 W') :
    TwI w gT rs (m + 1) AN cN A' c' W' := by
  have e2 : udsCells (List.replicate (m + 1 + 1) ⟨100, 0, 0⟩) = udsCells (List.replicate (m + 1) ⟨100, 0, 0⟩) ++ [.int .i64 100, .int .i64 0, .int .i64 0] := by
    rw [List.replicate_succ']; simp [udsCells, udCells]
  refine ⟨h.r.grown hg (fun e => own_blk_ne h.u h.r (by decide) e.symm), h.t.grown hg (fun e => own_blk_ne h.u h.t (by decide) e.symm), h.n.kept hg (own_apart h.n h.u (by decide)), ?_, hB _ _ (Nat.le_refl _) h.b, h.g⟩
  rw [e2]; exact hown
theorem TwI.start (w : World) : TwI w (w.heap.size + 1 + 1) [] 0 (some ⟨w.heap.size + 1, 0, none⟩) 1 (some ⟨w.heap.size + 1 + 1 + 1, 0, none⟩) 1 ((((w.alloc (.cells #[.slice none 0 0, .slice none 0 0, .int .i64 0] 25)).alloc (.cells (ndsCells (twL 0 0 [])).toArray 71)).alloc (.cells #[.slice (some ⟨w.heap.size + 1, 0, none⟩) 1 1, .slice none 0 0, .int .i64 100] 25)).alloc (.cells #[.int .i64 100, .int .i64 0, .int .i64 0] 27)) := by
  refine ⟨((((Blk.new _ _ _).alloc _).alloc _).alloc _), ((Blk.at_ _ _ _ (by simp)).alloc _), ?_, ?_, ((((Below.refl _ _).alloc (Nat.le_refl _) _).alloc (by simp) _).alloc (by simp; omega) _).alloc (by simp; omega) _, by omega⟩
  · exact ⟨rfl, .inr ⟨w.heap.size + 1, 1, (ndsCells (twL 0 0 [])).toArray, rfl, by omega, (((Blk.at_ _ _ _ (by simp)).alloc _).alloc _), Nat.le_refl _, by decide, rfl, rfl⟩⟩
  · exact ⟨rfl, .inr ⟨w.heap.size + 1 + 1 + 1, 1, #[.int .i64 100, .int .i64 0, .int .i64 0], rfl, by omega, Blk.at_ _ _ _ (by simp), Nat.le_refl _, by decide, rfl, rfl⟩⟩
theorem TwI.cs (h : TwI w gT rs m AN cN AU cU W) : W.cell? ⟨gT, 0, none⟩ = some (.slice AN (rs.length + 1) cN) ∧ W.cell? ⟨gT, 1, none⟩ = some (.slice none 0 0) ∧ W.cell? ⟨gT, 2, none⟩ = some (.int .i64 100) := h.t.c3
end
theorem TwI.len {w : World} {gT : Nat} {rs : List Rw} {m : Nat} {AN AU : Option Addr} {cN cU : Nat} {W : World} (h : TwI w gT rs m AN cN AU cU W) {g : Nat} {s s' : Sty} (hs : Blk W g 69 (styCells s).toArray) (hl : w.heap.size ≤ g) (i j : Nat) (u v : Value) (e : ((styCells s).toArray.setIfInBounds i u).setIfInBounds j v = (styCells s').toArray) :
    TwI w gT rs m AN cN AU cU ((W.setCell ⟨g, i, none⟩ u).setCell ⟨g, j, none⟩ v) ∧ Blk ((W.setCell ⟨g, i, none⟩ u).setCell ⟨g, j, none⟩ v) g 69 (styCells s').toArray := by
  have h1 := hs.set_ i u
  refine ⟨(h.far hs (by decide) (by decide) (by decide) hl i u).far h1 (by decide) (by decide) (by decide) hl j v, ?_⟩
  rw [← e]; exact h1.set_ j v
theorem sty_rngT {W : World} {g : Nat} {s : Sty} (h : Blk W g 69 (styCells s).toArray) : W.rangeAt g 0 (styCells s) := blk_rng h fun q v hv => by rw [Nat.zero_add]; exact hv
theorem res_tree {fn : Func} {p u : Tmp} (h : fn.results = #[.cell p 25, .tmp u]) (tmps : Array Value) (w : World) (g : Nat) (a b c v : Value) (hp : tmps.getD p undef = .pointer (some ⟨g, 0, none⟩)) (hu : tmps.getD u undef = v) (hg : Blk w g 25 #[a, b, c]) :
    (results fn tmps).run Try.prog w = .ok (.tuple #[.agg #[a, b, c], v]) w := by
  rw [results_cell_tmp h, hp, hu]
  have h := run_loadVar_row (P := Try.prog) w g 25 25 #[a, b, c] (0, 0) _ hg Try.underlying25 rfl (by kernel_rfl)
  simp [asAddr, h, Result.andThen]
def twS0 : Sty := { styZF with kind := 1 }
set_option maxRecDepth 100000 in
set_option maxHeartbeats 2000000 in
theorem tower22_any (l : List (Int × Int × Int)) (A : Option Addr) (c : Nat) (w : World) (hn : l.length ≤ 4000) (hr : Reads w w.heap.size 3 A l.length (l.flatMap r3C)) :
    Calls Try.prog 19 #[.slice A l.length c] w fun e w' => ∃ AN cN AU cU, e = .returned (.tuple #[.agg #[.slice AN (l.length + 1) cN, .slice none 0 0, .int .i64 100], .slice AU (l.length + 1) cU]) ∧
      w'.ownsRow w.heap.size 71 44 (.slice AN (l.length + 1) cN) (l.length + 1) (ndsCells (twL 0 0 (l.map rwOf))) ∧ w'.ownsRow w.heap.size 27 3 (.slice AU (l.length + 1) cU) (l.length + 1) (udsCells (List.replicate (l.length + 1) ⟨100, 0, 0⟩)) ∧ Below w.heap.size w w' := by
  have HR := Lib.hid hr
  have HN := Lib.hid hn
  have HO := Lib.hid (Sty.one twS0 (A := none) (n := 0) (c := 0) rfl)
  clear hr hn
  go_enter Try.func19, Try.ntmps19
  go_upto_region 1 with (fail)
  refine wp_region_lit ?_
  refine wpList_build rfl 69 #[(0, .const (.int .u8 1))] rfl (.agg (styCells (rootS 0 0)).toArray) (by kernel_rfl) ?_
  try simp only [Act.put, List.setIfInBounds_toArray, List.set_cons_zero, List.set_cons_succ, List.getElem_toArray, List.getElem_cons_zero, List.getElem_cons_succ]
  refine wpList_build rfl 71 #[(0, .const (.int .i64 (-1))), (1, .tmp 8)] rfl (.agg (ndCells ⟨-1, rootS 0 0⟩).toArray) (by kernel_rfl) ?_
  try simp only [Act.put, List.setIfInBounds_toArray, List.set_cons_zero, List.set_cons_succ, List.getElem_toArray, List.getElem_cons_zero, List.getElem_cons_succ]
  refine wpList_rows rfl 22 1 #[(0, .tmp 9)] rfl (.slice (some ⟨(w.alloc (.cells #[.slice none 0 0, .slice none 0 0, .int .i64 0] 25)).heap.size, 0, none⟩) 1 1) ((w.alloc (.cells #[.slice none 0 0, .slice none 0 0, .int .i64 0] 25)).alloc (.cells (ndsCells (twL 0 0 [])).toArray 71)) (by kernel_rfl) ?_
  rw [show (w.alloc (.cells #[.slice none 0 0, .slice none 0 0, .int .i64 0] 25)).heap.size = w.heap.size + 1 by simp]
  try simp only [Act.put, List.setIfInBounds_toArray, List.set_cons_zero, List.set_cons_succ, List.getElem_toArray, List.getElem_cons_zero, List.getElem_cons_succ]
  go_upto_region 4 with (fail)
  have HTW := Lib.hid (TwI.start w)
  go_loopw [5, 6] (fun q5 q6 wr => ∃ (j : Nat) (AN : Option Addr) (cN : Nat) (AU : Option Addr) (cU : Nat), j ≤ l.length ∧ q5 = .slice AU (j + 1) cU ∧ q6 = .int .i64 (j : Int) ∧ Hid (TwI w (w.heap.size + 1 + 1) ((l.take j).map rwOf) j AN cN AU cU wr)) (fun _ q _ => l.length - (intOf q).toNat)
  case atStart => exact ⟨0, _, _, _, _, by omega, rfl, rfl, HTW⟩
  case round =>
    obtain ⟨j, AN, cN, AU, cU, hj, rfl, rfl, HJ⟩ := hrel
    by_cases hlt : j < l.length
    · have d0 : decide ((j : Int) < (l.length : Int)) = true := decide_eq_true (by omega)
      have hwk : IntKind.i64.wrap ((j : Int) + 1) = (j : Int) + 1 := IntWalk.i64_in _ ⟨by omega, by have := HN.out; omega⟩
      obtain ⟨ad, hA, hb, x0, x1, x2⟩ := (HR.out.below HJ.out.b).r3 rfl hlt
      obtain ⟨h, hh⟩ : ∃ h, h = l[j].1 := ⟨_, rfl⟩
      obtain ⟨a, ha⟩ : ∃ a, a = l[j].2.1 := ⟨_, rfl⟩
      obtain ⟨b, hb'⟩ : ∃ b, b = l[j].2.2 := ⟨_, rfl⟩
      rw [← hh] at x0
      rw [← ha] at x1
      rw [← hb'] at x2
      have HTK : Hid ((l.take (j + 1)).map rwOf = (l.take j).map rwOf ++ [⟨h, a, b, 0, 0⟩]) := Lib.hid (by
        rw [List.take_add_one, List.getElem?_eq_getElem hlt, List.map_append, hh, ha, hb']; rfl)
      have HLJ : Hid (((l.take j).map rwOf).length = j) := Lib.hid (by simp; omega)
      subst hA
      clear hh ha hb'
      obtain ⟨T, HT⟩ : ∃ T, Hid (T = (l.take j).map rwOf) := ⟨_, Lib.hid rfl⟩
      rw [← HT.out] at HJ HTK HLJ
      have hj2 : (j : Int) < (l.length : Int) := by omega
      have hz := HJ.out.b.size
      have hbw : ad.block < wr.heap.size := by omega
      have HX : Hid (∀ W', Below w.heap.size w W' → W'.cell? (ad.add (j * 3)) = some (.int .i64 h) ∧ W'.cell? ⟨ad.block, (ad.add (j * 3)).off + 1, none⟩ = some (.int .i64 a) ∧ W'.cell? ⟨ad.block, (ad.add (j * 3)).off + 2, none⟩ = some (.int .i64 b)) := Lib.hid (fun W' hB => by
        have hx := (HJ.out.b)
        refine ⟨?_, ?_, ?_⟩
        · rw [← x0, hB.cell (p := ad.add (j * 3)) (by rw [block_of_add]; exact hb), hx.cell (p := ad.add (j * 3)) (by rw [block_of_add]; exact hb)]
        · rw [← x1, hB.cell (p := ⟨ad.block, (ad.add (j * 3)).off + 1, none⟩) hb, hx.cell (p := ⟨ad.block, (ad.add (j * 3)).off + 1, none⟩) hb]
        · rw [← x2, hB.cell (p := ⟨ad.block, (ad.add (j * 3)).off + 2, none⟩) hb, hx.cell (p := ⟨ad.block, (ad.add (j * 3)).off + 2, none⟩) hb])
      have HBA := Lib.hid hb
      clear x0 x1 x2 hb
      go_upto_region 7 with (first
        | refine wpList_build rfl 69 #[(0, .const (.int .u8 1))] rfl (.agg (styCells twS0).toArray) (by kernel_rfl) ?_
        | refine wpList_store_new rfl 69 _ _ rfl _ rfl (styCells twS0).toArray rfl rfl 69 _ (by kernel_rfl) rfl HO.out ?_)
      obtain ⟨gT, HGT⟩ : ∃ gT, Hid (gT = w.heap.size + 1 + 1) := ⟨_, Lib.hid rfl⟩
      rw [← HGT.out] at HJ ⊢
      obtain ⟨g, HG⟩ : ∃ g, Hid (g = wr.heap.size) := ⟨_, Lib.hid rfl⟩
      obtain ⟨w1, hw1⟩ : ∃ w1, w1 = wr.alloc (.cells (styCells twS0).toArray 69) := ⟨_, rfl⟩
      have HJ1 : Hid (TwI w gT T j AN cN AU cU w1) := Lib.hid (by rw [hw1]; exact HJ.out.below ((Below.refl _ _).alloc (Nat.le_refl _) _))
      have HS1 : Hid (Blk w1 g 69 (styCells twS0).toArray) := Lib.hid (by rw [hw1, HG.out]; exact Blk.new _ _ _)
      rw [← hw1, ← HG.out]
      have HGL : Hid (w.heap.size ≤ g) := Lib.hid (by rw [HG.out]; exact hz)
      clear hw1 hbw hz
      have hx := HX.out w1 HJ1.out.b
      obtain ⟨x0, x1, x2⟩ := hx
      have hbw : ad.block < w1.heap.size := Nat.lt_of_lt_of_le HBA.out HJ1.out.b.size
      -- the height
      obtain ⟨s3, HE3⟩ : ∃ s3 : Sty, Hid (s3 = { twS0 with h := if 0 ≤ h then ⟨1, h⟩ else ⟨0, 0⟩ }) := ⟨_, Lib.hid rfl⟩
      cases d1 : decide (0 ≤ h)
      all_goals
        go_upto_region 9 with (go_at_call 23; refine (px22_any _ _).mono ?_; rintro e w2 ⟨rfl, hb2⟩; have HJ2 := Lib.hid (HJ1.out.below hb2); have HS2 := Lib.hid (HS1.out.below hb2 HS1.out.lt); clear hb2; have fs := HS2.out.frozen; have s6 := HS2.out.get 6 (v := .int .u8 0) rfl; have s7 := HS2.out.get 7 (v := .int .i64 0) rfl)
        first
        | (obtain ⟨w3, hw3⟩ : ∃ w3, w3 = (w2.setCell ⟨g, 6, none⟩ (.int .u8 1)).setCell ⟨g, 7, none⟩ (.int .i64 h) := ⟨_, rfl⟩
           have q := HJ2.out.len HS2.out (s' := s3) HGL.out 6 7 (.int .u8 1) (.int .i64 h) (by rw [HE3.out, if_pos (of_decide_eq_true d1)]; rfl)
           rw [← hw3] at q ⊢
           have HJ3 := Lib.hid q.1
           have HS3 := Lib.hid q.2
           clear hw3 q fs s6 s7)
        | (obtain ⟨w3, hw3⟩ : ∃ w3, w3 = w1 := ⟨_, rfl⟩
           have HS1' : Hid (Blk w1 g 69 (styCells s3).toArray) := Lib.hid (by rw [HE3.out, if_neg (of_decide_eq_false d1)]; exact HS1.out)
           rw [← hw3] at HJ1 HS1' ⊢
           have HJ3 := HJ1
           have HS3 := HS1'
           clear hw3)
        clear x0 x1 x2 hbw
        obtain ⟨x0, x1, x2⟩ := HX.out w3 HJ3.out.b
        have hbw : ad.block < w3.heap.size := Nat.lt_of_lt_of_le HBA.out HJ3.out.b.size
        go_upto_region 10 with (go_at_call 23; refine (px22_any _ _).mono ?_; rintro e w4 ⟨rfl, hb2⟩; have HJ4 := Lib.hid (HJ3.out.below hb2); have HS4 := Lib.hid (HS3.out.below hb2 HS3.out.lt); clear hb2; have fs := HS4.out.frozen; have s6 := HS4.out.get 16 (v := .int .u8 0) (by rw [HE3.out]; rfl); have s7 := HS4.out.get 17 (v := .int .i64 0) (by rw [HE3.out]; rfl))
        obtain ⟨w5, hw3⟩ : ∃ w5, w5 = (w4.setCell ⟨g, 16, none⟩ (.int .u8 1)).setCell ⟨g, 17, none⟩ (.int .i64 a) := ⟨_, rfl⟩
        obtain ⟨s5, HE5⟩ : ∃ z : Sty, Hid (z = { s3 with m0 := ⟨1, a⟩ }) := ⟨_, Lib.hid rfl⟩
        have q := HJ4.out.len HS4.out (s' := s5) HGL.out 16 17 (.int .u8 1) (.int .i64 a) (by rw [HE5.out]; rfl)
        rw [← hw3] at q ⊢
        have HJ5 := Lib.hid q.1
        have HS5 := Lib.hid q.2
        clear hw3 q fs s6 s7 x0 x1 x2 hbw
        obtain ⟨x0, x1, x2⟩ := HX.out w5 HJ5.out.b
        have hbw : ad.block < w5.heap.size := Nat.lt_of_lt_of_le HBA.out HJ5.out.b.size
        go_upto_region 11 with (go_at_call 23; refine (px22_any _ _).mono ?_; rintro e w6 ⟨rfl, hb2⟩; have HJ6 := Lib.hid (HJ5.out.below hb2); have HS6 := Lib.hid (HS5.out.below hb2 HS5.out.lt); clear hb2; have fs := HS6.out.frozen; have s6 := HS6.out.get 20 (v := .int .u8 0) (by rw [HE5.out, HE3.out]; rfl); have s7 := HS6.out.get 21 (v := .int .i64 0) (by rw [HE5.out, HE3.out]; rfl))
        obtain ⟨w7, hw3⟩ : ∃ w7, w7 = (w6.setCell ⟨g, 20, none⟩ (.int .u8 1)).setCell ⟨g, 21, none⟩ (.int .i64 b) := ⟨_, rfl⟩
        clear s7
        obtain ⟨s7, HE7⟩ : ∃ z : Sty, Hid (z = { s5 with m2 := ⟨1, b⟩ }) := ⟨_, Lib.hid rfl⟩
        have q := HJ6.out.len HS6.out (s' := s7) HGL.out 20 21 (.int .u8 1) (.int .i64 b) (by rw [HE7.out]; rfl)
        rw [← hw3] at q ⊢
        have HJ7 := Lib.hid q.1
        have HS7 := Lib.hid q.2
        clear hw3 q fs s6 x0 x1 x2 hbw
        obtain ⟨x0, x1, x2⟩ := HX.out w7 HJ7.out.b
        have hbw : ad.block < w7.heap.size := Nat.lt_of_lt_of_le HBA.out HJ7.out.b.size
        have HSS : Hid (s7 = twS ⟨h, a, b, 0, 0⟩) := Lib.hid (by rw [HE7.out, HE5.out, HE3.out]; rfl)
        have HON1 : Hid (∀ u ∈ ndCells ⟨0, s7⟩, u.oneCell' = true) := Lib.hid (fun u hu => by
          have := Nd.one ⟨0, s7⟩ (A := none) (n := 0) (c := 0) (by rw [HSS.out]; rfl)
          rw [List.all_toArray, List.all_eq_true] at this; exact this u hu)
        clear x0 x1 x2 hbw
        obtain ⟨c0, c1, c2⟩ := HJ7.out.t.c3
        have fT := HJ7.out.t.frozen
        have HLJ' := HLJ.out
        rw [HLJ'] at c0
        have HRG := Lib.hid (sty_rngT HS7.out)
        have HNN : Hid (w7.ownsRow w.heap.size 71 44 (.slice AN (j + 1) cN) (j + 1) (ndsCells (twL 0 0 T))) := Lib.hid (by have := HJ7.out.n; rw [HLJ'] at this; exact this)
        have HSZ7 := Lib.hid HJ7.out.b.size
        go_upto_region 11 with (fail)
        refine wp_region_lit ?_
        refine wpList_val (v := ?_) (w' := w7) rfl ?_ ?_
        rotate_left
        · go_simp
          rfl
        try simp only [Act.put, List.setIfInBounds_toArray, List.set_cons_zero, List.set_cons_succ, List.getElem_toArray, List.getElem_cons_zero, List.getElem_cons_succ]
        refine wpList_val (v := ?_) (w' := w7) rfl ?_ ?_
        rotate_left
        · go_simp
          rfl
        try simp only [Act.put, List.setIfInBounds_toArray, List.set_cons_zero, List.set_cons_succ, List.getElem_toArray, List.getElem_cons_zero, List.getElem_cons_succ]
        refine wpList_load_mid rfl 69 (.tmp 7) rfl g 0 rfl (styCells s7) _ HRG.out Try.underlying69 rfl (by kernel_rfl) ?_
        try simp only [Act.put, List.setIfInBounds_toArray, List.set_cons_zero, List.set_cons_succ, List.getElem_toArray, List.getElem_cons_zero, List.getElem_cons_succ]
        refine wpList_build rfl 71 #[(0, .const (.int .i64 0)), (1, .tmp 52)] rfl (.agg (ndCells ⟨0, s7⟩).toArray) (by kernel_rfl) ?_
        try simp only [Act.put, List.setIfInBounds_toArray, List.set_cons_zero, List.set_cons_succ, List.getElem_toArray, List.getElem_cons_zero, List.getElem_cons_succ]
        refine wpList_rows rfl 22 1 #[(0, .tmp 53)] rfl (.slice (some ⟨w7.heap.size, 0, none⟩) 1 1) (w7.alloc (.cells (ndCells ⟨0, s7⟩).toArray 71)) (by kernel_rfl) ?_
        try simp only [Act.put, List.setIfInBounds_toArray, List.set_cons_zero, List.set_cons_succ, List.getElem_toArray, List.getElem_cons_zero, List.getElem_cons_succ]
        have hj9 : j + 1 + 1 ≤ 4294967296 := by have := HN.out; omega
        refine wpList_appG (m := 1) rfl _ _ rfl el_node HNN.out HSZ7.out rfl (ndCells ⟨0, s7⟩) rfl rfl (by rfl) HON1.out hj9 (by omega) ?_
        intro A' c' w8 hown hB hg hob
        have HJ8 : Hid (TwI w gT (T ++ [⟨h, a, b, 0, 0⟩]) j A' c' AU cU (w8.setCell ⟨gT, 0, none⟩ (.slice A' (j + 1 + 1) c'))) := Lib.hid (by
          have q := HJ7.out.appN (A' := A') (c' := c') (W' := w8) ⟨h, a, b, 0, 0⟩ (by rw [HLJ', ← HSS.out]; exact hown) (by rw [HLJ']; exact hg) (fun B w0 h1 h2 => hB B w0 h1 h2)
          rw [HLJ'] at q; exact q)
        have hbt := HJ7.out.t.grown hg (fun e => own_blk_ne HNN.out HJ7.out.t (by decide) e.symm)
        have c0' := hbt.c3.1
        have fT' := hbt.frozen
        clear hown hB hg hob hbt c0 c1 c2 fT
        go_upto_region 12 with (fail)
        generalize World.setCell w8 _ _ = w9 at HJ8 ⊢
        have HSZ9 := Lib.hid HJ8.out.b.size
        go_upto_region 5 with (at_builtin; refine wpList_appG (m := 1) rfl _ _ rfl el_usedT HJ8.out.u HSZ9.out rfl [.int .i64 100, .int .i64 0, .int .i64 0] rfl rfl rfl (by simp [Value.oneCell']) hj9 (by omega) ?_; intro A2 c2 w10 hown hB hg hob; have HJ10 := Lib.hid (HJ8.out.appU hown hg (fun B w0 h1 h2 => hB B w0 h1 h2)); clear hown hB hg hob)
        go_wp2_with fail
        rw [HGT.out]
        go_roundw
        case rel =>
          refine ⟨j + 1, A', c', A2, c2, by omega, rfl, by go_num, ?_⟩
          rw [HTK.out, ← HGT.out]
          exact HJ10
        case measure => simp [intOf]; omega
    · have d0 : decide ((j : Int) < (l.length : Int)) = false := decide_eq_false (by omega)
      have HJL : Hid (j = l.length) := Lib.hid (by omega)
      obtain ⟨gT, HGT⟩ : ∃ gT, Hid (gT = w.heap.size + 1 + 1) := ⟨_, Lib.hid rfl⟩
      rw [← HGT.out] at HJ ⊢
      have HLJ : Hid (((l.take j).map rwOf).length = j) := Lib.hid (by simp; omega)
      have HTF : Hid ((l.take j).map rwOf = l.map rwOf) := Lib.hid (by rw [HJL.out, List.take_length])
      obtain ⟨T, HT⟩ : ∃ T, Hid (T = (l.take j).map rwOf) := ⟨_, Lib.hid rfl⟩
      rw [← HT.out] at HJ HLJ HTF
      obtain ⟨r0, r1, r2⟩ := HJ.out.r.c3
      obtain ⟨c0, c1, c2⟩ := HJ.out.t.c3
      have fr := HJ.out.r.frozen
      rw [HLJ.out] at c0
      go_wp2_with fail
      have hb3 := ((HJ.out.r.set_ 0 (.slice AN (j + 1) cN)).set_ 1 (.slice none 0 0)).set_ 2 (.int .i64 100)
      have hz : w.heap.size ≤ w.heap.size := Nat.le_refl _
      have hn := HJ.out.n
      have hu := HJ.out.u
      rw [HLJ.out, HTF.out] at hn
      have hr := HJ.out.r
      have hr1 := hr.set_ 0 (.slice AN (j + 1) cN)
      have hr2 := hr1.set_ 1 (.slice none 0 0)
      have hn1 := ownsRow_setCell_other hn (a := ⟨w.heap.size, 0, none⟩) (own_blk_ne hn hr (by decide)) (.slice AN (j + 1) cN)
      have hn2 := ownsRow_setCell_other hn1 (a := ⟨w.heap.size, 1, none⟩) (own_blk_ne hn1 hr1 (by decide)) (.slice none 0 0)
      have hn3 := ownsRow_setCell_other hn2 (a := ⟨w.heap.size, 2, none⟩) (own_blk_ne hn2 hr2 (by decide)) (.int .i64 100)
      have hu1 := ownsRow_setCell_other hu (a := ⟨w.heap.size, 0, none⟩) (own_blk_ne hu hr (by decide)) (.slice AN (j + 1) cN)
      have hu2 := ownsRow_setCell_other hu1 (a := ⟨w.heap.size, 1, none⟩) (own_blk_ne hu1 hr1 (by decide)) (.slice none 0 0)
      have hu3 := ownsRow_setCell_other hu2 (a := ⟨w.heap.size, 2, none⟩) (own_blk_ne hu2 hr2 (by decide)) (.int .i64 100)
      refine bodyPost_ret (res_tree rfl _ _ w.heap.size (.slice AN (j + 1) cN) (.slice none 0 0) (.int .i64 100) (.slice AU (j + 1) cU) rfl rfl hb3) rfl ⟨AN, cN, AU, cU, by rw [HJL.out], ?_, ?_, ?_⟩
      · rw [← HJL.out]; exact hn3
      · rw [← HJL.out]; exact hu3
      · exact (((HJ.out.b).setCell (p := ⟨w.heap.size, 0, none⟩) hz _).setCell (p := ⟨w.heap.size, 1, none⟩) hz _).setCell (p := ⟨w.heap.size, 2, none⟩) hz _
end Go.Proofs.Ytlebbkhhhmempaa
