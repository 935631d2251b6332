/- The program's valid, of a tree of one node: lists of no values, frags, lines. -/
import Derived.Test.YtjhfcpadnofdnaaGreatCnb
import Derived.Test.YtjhfcpadnofdnaaGreatTra
import Derived.Test.YtjhfcpadnofdnaaGreatLo0
import Derived.Test.YtjhfcpadnofdnaaGreatBld
import Derived.BigQuiet
import Derived.Laws.StructEq
set_option linter.unusedSimpArgs false
set_option linter.unusedVariables false
namespace Go.Proofs.YtjhfcpadnofdnaaGreat
open Go.RowKit
attribute [local go_sem] block_of_add
theorem below_drVN {B : Nat} {a w : World} (h : Below B a w) (n : Nat) : Below B a (w.drewN n) := ⟨h.os, h.tape, h.output, h.size, h.block⟩
/-- The node of jamblaw24.One. -/
def n1V : Nd := ⟨-1, styK 1 0⟩
def l1V : List Nd := [n1V]
theorem i64s_z : I64s [0] := by intro x hx; simp only [List.mem_cons, List.not_mem_nil, or_false] at hx; subst hx; decide
set_option maxHeartbeats 1000000 in
theorem greater0 (a : Addr) (w : World) (hr : Reads w w.heap.size 1 (some a) 1 (i64s [0])) :
    Calls Tryz.prog 211 #[.slice (some a) 1 1, .slice none 0 0] w fun e w' => e = .returned (.slice (some a) 1 1) ∧ Below w.heap.size w w' := by
  have HC := Lib.hid (clone_any [0] a 1 w (by simp) hr)
  clear hr
  go_enter Tryz.func211, Tryz.ntmps211
  go_wp2_with fail
  refine HC.out.mono ?_
  rintro e w1 ⟨⟨A, c, rfl, hown⟩, hb1⟩
  have HS := Lib.hid (sum_sl [0] _ w1 i64s_z (by simp) (SlAt.own (l := [0]) hown))
  have HB := Lib.hid hb1
  clear hown hb1
  go_wp2_with fail
  refine wp_loop0 ?_
  go_wp2_with fail
  refine HS.out.mono ?_
  rintro e w2 ⟨rfl, hb2⟩
  have HB2 := Lib.hid (HB.out.trans (hb2.mono HB.out.size))
  have hc0 : cutF ([0] : List Int).sum = 0 := by decide
  have hc1 : cutB ([0] : List Int).sum = false := by decide
  rw [hc0, hc1]
  clear hb2 hc0 hc1
  go_wp2_with fail
  go_ret
  exact ⟨rfl, HB2.out⟩
structure W4Ans (w w' : World) (e : Ending) : Prop where
  ex : ∃ v1 v2, e = .returned (.tuple #[v1, v2, .bool false]) ∧ SlAt w' w'.heap.size v1 [0] ∧ SlAt w' w'.heap.size v2 [0]
  b : Below w.heap.size w w'
set_option maxHeartbeats 1000000 in
theorem wanted4_one (g10 g4 g6 g9 : Nat) (w : World) (b10 : Blk w g10 23 #[.slice none 0 0]) (b9 : Blk w g9 23 #[.slice none 0 0]) :
    Calls Tryz.prog 210 #[.pointer (some ⟨g10, 0, none⟩), .pointer (some ⟨g4, 0, none⟩), .pointer (some ⟨g6, 0, none⟩), .pointer (some ⟨g9, 0, none⟩)] w fun e w' => W4Ans w w' e := by
  have c9 := b9.c1
  have c10 := b10.c1
  have l9 := b9.lt
  have l10 := b10.lt
  clear b9 b10
  have HM := Lib.hid (fun W => most_any [] none 0 W (by simp) Reads.none_)
  obtain ⟨w1, hw1⟩ : ∃ x, x = w.alloc (.cells #[.int .i64 0] 2) := ⟨_, rfl⟩
  obtain ⟨w2, hw2⟩ : ∃ x, x = w1.alloc (.cells #[.int .i64 0] 2) := ⟨_, rfl⟩
  have HS1 : Hid (SlAt w1 w1.heap.size (.slice (some ⟨w.heap.size, 0, none⟩) 1 1) [0]) := Lib.hid (by have := SlAt.one w 0; rw [hw1]; simpa using this)
  have HS2 : Hid (SlAt w2 w2.heap.size (.slice (some ⟨w1.heap.size, 0, none⟩) 1 1) [0]) := Lib.hid (by have := SlAt.one w1 0; rw [hw2]; simpa using this)
  have HB1 : Hid (Below w.heap.size w w1) := Lib.hid (by rw [hw1]; exact (Below.refl _ _).alloc (Nat.le_refl _) _)
  have HB12 : Hid (Below w1.heap.size w1 w2) := Lib.hid (by rw [hw2]; exact (Below.refl _ _).alloc (Nat.le_refl _) _)
  have HG := Lib.hid (greater0 ⟨w1.heap.size, 0, none⟩ w2 (by
    obtain ⟨A, c, e, _, _, hr, _⟩ := HS2.out
    injection e with e1 e2 e3
    subst e1
    exact hr))
  have HW1 := Lib.hid hw1
  have HW2 := Lib.hid hw2
  clear hw1 hw2
  go_enter Tryz.func210, Tryz.ntmps210
  go_wp2_with fail
  refine wp_loop0 ?_
  go_wp2_with fail
  refine (HM.out _).mono ?_
  rintro e w3 ⟨rfl, hw3⟩
  obtain rfl : w1 = w3 := HW1.out.trans hw3
  clear hw3
  go_wp2_with fail
  refine (HM.out _).mono ?_
  rintro e w3 ⟨rfl, hw3⟩
  obtain rfl : w2 = w3 := HW2.out.trans hw3
  clear hw3
  go_wp2_with fail
  refine HG.out.mono ?_
  rintro e w3 ⟨rfl, hb3⟩
  have HB3 := Lib.hid (HB1.out.trans ((HB12.out.mono HB1.out.size).trans (hb3.mono (Nat.le_trans HB1.out.size HB12.out.size))))
  have HA1 := Lib.hid ((((HS1.out.below HB12.out).more HB12.out.size).below hb3).more hb3.size)
  have HA2 := Lib.hid ((HS2.out.below hb3).more hb3.size)
  clear hb3
  go_wp2_with fail
  go_ret3
  exact ⟨⟨_, _, rfl, HA1.out, HA2.out⟩, HB3.out⟩
structure WaAns (w w' : World) (e : Ending) : Prop where
  ex : ∃ g10 g4 g6 g9, e = .returned (.func (.func 210) #[] #[.pointer (some ⟨g10, 0, none⟩), .pointer (some ⟨g4, 0, none⟩), .pointer (some ⟨g6, 0, none⟩), .pointer (some ⟨g9, 0, none⟩)]) ∧ Blk w' g10 23 #[.slice none 0 0] ∧ Blk w' g9 23 #[.slice none 0 0]
  b : Below w.heap.size w w'
set_option maxRecDepth 100000 in
set_option maxHeartbeats 2000000 in
theorem wanted_one (x1 x2 x3 : Value) (Ag : Option Addr) (cg : Nat) (w : World) (h1 : x1.oneCell' = true) (h2 : x2.oneCell' = true) (h3 : x3.oneCell' = true) :
    Calls Tryz.prog 122 #[.agg #[x1, x2, x3], .agg (styCells (styK 1 0)).toArray, .slice none 0 0, .slice Ag 0 cg] w fun e w' => WaAns w w' e := by
  go_enter Tryz.func122, Tryz.ntmps122
  go_wp2_with fail
  obtain ⟨W5, hW5⟩ : ∃ W, W = (((((w.alloc (.cells #[x1, x2, x3] 25)).alloc (.cells (styCells (styK 1 0)).toArray 67)).alloc (.cells #[.slice none 0 0] 50)).alloc (.cells #[.slice none 0 0] 23)).alloc (.cells #[.slice none 0 0] 23)) := ⟨_, rfl⟩
  have HB5 : Hid (Below w.heap.size w W5) := Lib.hid (by rw [hW5]; exact (((((Below.refl _ _).alloc (Nat.le_refl _) _).alloc (by simp) _).alloc (by simp; omega) _).alloc (by simp; omega) _).alloc (by simp; omega) _)
  have B1 : Blk W5 (w.heap.size + 1) 67 (styCells (styK 1 0)).toArray := by rw [hW5]; exact (((Blk.at_ _ _ _ (by simp)).alloc _).alloc _).alloc _
  have B2 : Blk W5 (w.heap.size + 1 + 1) 50 #[.slice none 0 0] := by rw [hW5]; exact ((Blk.at_ _ _ _ (by simp)).alloc _).alloc _
  have HB9 : Hid (Blk W5 (w.heap.size + 1 + 1 + 1) 23 #[.slice none 0 0]) := Lib.hid (by rw [hW5]; exact (Blk.at_ _ _ _ (by simp)).alloc _)
  have HB10 : Hid (Blk W5 (w.heap.size + 1 + 1 + 1 + 1) 23 #[.slice none 0 0]) := Lib.hid (by rw [hW5]; exact Blk.at_ _ _ _ (by simp))
  have s0 : W5.cell? ⟨w.heap.size + 1, 0, none⟩ = some (.int .u8 1) := B1.get 0 rfl
  have k0 := B2.c1
  have l1 := B1.lt
  have l2 := B2.lt
  rw [← hW5]
  clear hW5 B1 B2
  refine wp_loop0 ?_
  go_upto_region 12 with (fail)
  go_quiet (fail)
  go_wp2_with fail
  go_ret
  exact ⟨⟨_, _, _, _, rfl, HB10.out.drewN _, HB9.out.drewN _⟩, below_drVN HB5.out _⟩
theorem nds1V : ndsCells l1V = .int .i64 (-1) :: styCells (styK 1 0) := by simp [l1V, n1V, ndsCells, ndCells]
theorem sty1V_rng {W : World} {gN : Nat} (h : Blk W gN 69 (ndsCells l1V).toArray) : W.rangeAt gN 1 (styCells (styK 1 0)) := blk_rng h fun j v hv => by rw [nds1V, Nat.add_comm]; exact hv
/-- The variables of Node. -/
structure NoV (s : Sty) (bt : Array Value) (w wr : World) : Prop where
  t : Blk wr (w.heap.size) 25 bt
  n : Blk wr (w.heap.size + 1) 38 #[.int .i64 0, .int .i64 0, .int .i64 0, .int .i64 0]
  s : Blk wr (w.heap.size + 1 + 1) 67 (styCells s).toArray
  b : Below w.heap.size w wr
theorem NoV.kept {s : Sty} {bt : Array Value} {w wr w' : World} (h : NoV s bt w wr) (hb : Below wr.heap.size wr w') : NoV s bt w w' :=
  ⟨h.t.below hb h.t.lt, h.n.below hb h.n.lt, h.s.below hb h.s.lt, h.b.trans (hb.mono h.b.size)⟩
theorem NoV.set0 {s : Sty} {bt : Array Value} {w wr : World} (h : NoV s bt w wr) (i : Nat) (hi : i < 4) : NoV s bt w (wr.setCell ⟨w.heap.size + 1, i, none⟩ (.int .i64 0)) :=
  ⟨h.t.far (by simp) _, by
    have := h.n.set_ i (.int .i64 0)
    rcases i with _ | _ | _ | _ | i
    · simpa using this
    · simpa using this
    · simpa using this
    · simpa using this
    · omega, h.s.far (by simp) _, h.b.setCell (p := ⟨w.heap.size + 1, i, none⟩) (by simp) _⟩
theorem SlAt.stV {s : Sty} {bt : Array Value} {w wr : World} {v : Value} {l : List Int} (h : SlAt wr wr.heap.size v l) (hn : NoV s bt w wr) (i : Nat) (u : Value) : SlAt (wr.setCell ⟨w.heap.size + 1, i, none⟩ u) (wr.setCell ⟨w.heap.size + 1, i, none⟩ u).heap.size v l :=
  (h.set_ hn.n (by decide) i u).more (by simp [World.setCell])
theorem res_nodeV {fn : Func} (hr : fn.results = #[.cell 8 38, .tmp 9]) (tmps : Array Value) (w : World) (g : Nat) (a b c d : Int) (v9 : Value) (hp : tmps.getD 8 undef = .pointer (some ⟨g, 0, none⟩)) (h9 : tmps.getD 9 undef = v9) (hg : Blk w g 38 #[.int .i64 a, .int .i64 b, .int .i64 c, .int .i64 d]) :
    (results fn tmps).run Tryz.prog w = .ok (.tuple #[.agg #[.int .i64 a, .int .i64 b, .int .i64 c, .int .i64 d], v9]) w := by
  rw [results_cell_tmp hr, hp, h9]
  have h := run_loadVar_row (P := Tryz.prog) w g 38 38 #[.int .i64 a, .int .i64 b, .int .i64 c, .int .i64 d] (0, 0) _ hg Tryz.underlying38 rfl (by kernel_rfl)
  simp [asAddr, h, Result.andThen]
theorem styK_BV (k f : Int) : StyB (styK k f) := by
  have h1 : (0 : Int) ≤ 0 ∧ (0 : Int) ≤ 1099511627776 := by decide
  have h2 : (-1099511627776 : Int) ≤ 0 ∧ (0 : Int) ≤ 1099511627776 := by decide
  exact ⟨h1, h1, h1, h2, h2, h1, h1, h1, h1⟩
theorem outV0 : cutF (outP (styK 1 0) ([0] : List Int).sum) = 0 ∧ cutB (outP (styK 1 0) ([0] : List Int).sum) = false := by decide +kernel
theorem sumV0 : cutF ([0] : List Int).sum = 0 ∧ cutB ([0] : List Int).sum = false := by decide +kernel
set_option maxRecDepth 100000 in
set_option maxHeartbeats 4000000 in
theorem cnode_one (gN : Nat) (v : Int) (Ag : Option Addr) (cg : Nat) (w : World) (hn : Blk w gN 69 (ndsCells l1V).toArray) (hg : Reads w w.heap.size 4 Ag 0 (cnsCells [])) :
    Calls Tryz.prog 65 #[.agg #[.slice (some ⟨gN, 0, none⟩) 1 1, .slice none 0 0, .int .i64 v], .int .i64 0, .slice none 0 0, .slice Ag 0 cg] w fun e w' => e = .returned (.tuple #[.agg #[.int .i64 0, .int .i64 0, .int .i64 0, .int .i64 0], .bool false]) ∧ Below w.heap.size w w' := by
  have y0 : w.cell? ⟨gN, 1, none⟩ = some (.int .u8 1) := hn.get 1 rfl
  have hz := hn.lt
  have HC : Hid (∀ o o2 : Obj, ((w.alloc o).alloc o2).rangeAt gN 1 (styCells (styK 1 0))) := Lib.hid (fun o o2 => sty1V_rng ((hn.alloc o).alloc o2))
  have HO := Lib.hid (Sty.one (styK 1 0) (A := none) (n := 0) (c := 0) rfl)
  have hmk : ∀ W : World, (Instr.makeSlice 28 (.int .i64 0) (.int .i64 0)).run Tryz.prog W = .ok (.slice (some ⟨W.heap.size, 0, none⟩) 0 0) (W.alloc (.cells (cnsCells (List.replicate 0 cn0)).toArray 38)) := fun W => make_cns 0 (by omega) W
  have HB3 : Hid (Below w.heap.size w (((w.alloc (.cells #[.slice (some ⟨gN, 0, none⟩) 1 1, .slice none 0 0, .int .i64 v] 25)).alloc (.cells #[.int .i64 0, .int .i64 0, .int .i64 0, .int .i64 0] 38)).alloc (.cells (styCells (styK 1 0)).toArray 67))) := Lib.hid ((((Below.refl _ _).alloc (Nat.le_refl _) _).alloc (by simp) _).alloc (by simp; omega) _)
  have HZ3 := Lib.hid HB3.out.size
  have HG3 := Lib.hid (hg.below HB3.out)
  have HGZ : Hid (w.heap.size + 1 + 1 + 1 = (((w.alloc (.cells #[.slice (some ⟨gN, 0, none⟩) 1 1, .slice none 0 0, .int .i64 v] 25)).alloc (.cells #[.int .i64 0, .int .i64 0, .int .i64 0, .int .i64 0] 38)).alloc (.cells (styCells (styK 1 0)).toArray 67)).heap.size) := Lib.hid (by simp)
  obtain ⟨v50, hcp⟩ := run_copy_cns (P := Tryz.prog) (((w.alloc (.cells #[.slice (some ⟨gN, 0, none⟩) 1 1, .slice none 0 0, .int .i64 v] 25)).alloc (.cells #[.int .i64 0, .int .i64 0, .int .i64 0, .int .i64 0] 38)).alloc (.cells (styCells (styK 1 0)).toArray 67)) 28 28 3 38 el_cn.ht (by kernel_rfl) 0 cg [] 38 HG3.out HZ3.out
  rw [← HGZ.out] at hcp
  simp only [List.length_nil, List.replicate_zero] at hcp
  obtain ⟨W4, hW4⟩ : ∃ W, W = (((w.alloc (.cells #[.slice (some ⟨gN, 0, none⟩) 1 1, .slice none 0 0, .int .i64 v] 25)).alloc (.cells #[.int .i64 0, .int .i64 0, .int .i64 0, .int .i64 0] 38)).alloc (.cells (styCells (styK 1 0)).toArray 67)).alloc (.cells (cnsCells (allF [] 0)).toArray 38) := ⟨_, rfl⟩
  have HN4 : Hid (NoV (styK 1 0) #[.slice (some ⟨gN, 0, none⟩) 1 1, .slice none 0 0, .int .i64 v] w W4) := Lib.hid (by
    rw [hW4]
    exact ⟨(((Blk.new _ _ _).alloc _).alloc _).alloc _, ((Blk.at_ _ _ _ (by simp)).alloc _).alloc _, (Blk.at_ _ _ _ (by simp)).alloc _, HB3.out.alloc HZ3.out _⟩)
  have HRG := Lib.hid (sty_rng HN4.out.s)
  have HW4 := Lib.hid hW4
  clear hn hg hW4
  go_enter Tryz.func65, Tryz.ntmps65
  go_upto_region 6 with (first
    | refine wpList_load_mid rfl 67 _ rfl gN 1 rfl (styCells (styK 1 0)) _ (HC.out _ _) Tryz.underlying67 rfl (by kernel_rfl) ?_
    | refine wpList_store_new rfl 67 _ _ rfl (w.heap.size + 1 + 1) (by simp) (styCells (styK 1 0)).toArray rfl rfl 67 _ (by kernel_rfl) rfl HO.out ?_)
  rw [← HW4.out]
  clear hcp hmk y0
  have t0 := HN4.out.t.get 0 rfl
  have t1 := HN4.out.t.get 1 rfl
  have t2 := HN4.out.t.get 2 rfl
  have tl := HN4.out.t.lt
  go_wp2_with (refine wpList_load_mid rfl 67 _ rfl (w.heap.size + 1 + 1) 0 rfl (styCells (styK 1 0)) _ HRG.out Tryz.underlying67 rfl (by kernel_rfl) ?_)
  refine (wanted_one _ _ _ _ _ _ rfl rfl rfl).mono ?_
  rintro e w5 ⟨⟨g10, g4, g6, g9, rfl, b10, b9⟩, hb5⟩
  have HN5 := Lib.hid (HN4.out.kept hb5)
  have HCL := Lib.hid (wanted4_one g10 g4 g6 g9 w5 b10 b9)
  clear hb5 b10 b9 t0 t1 t2 tl
  go_wp2_with fail
  refine HCL.out.mono ?_
  rintro e w6 ⟨⟨vl, vg, rfl, sl, sg⟩, hb6⟩
  have HN6 := Lib.hid (HN5.out.kept hb6)
  have HL6 := Lib.hid sl
  have HG6 := Lib.hid sg
  clear hb6 sl sg
  go_wp2_with fail
  refine (sum_sl [0] vl w6 i64s_z (by simp) HL6.out).mono ?_
  rintro e w7 ⟨rfl, hb7⟩
  have HN7 := Lib.hid (HN6.out.kept hb7)
  have HL7 := Lib.hid ((HL6.out.below hb7).more hb7.size)
  have HG7 := Lib.hid ((HG6.out.below hb7).more hb7.size)
  rw [sumV0.1, sumV0.2]
  clear hb7
  have q0 := HN7.out.n.get 0 rfl
  have ql := HN7.out.n.lt
  have qf := HN7.out.n.frozen 0
  have HN8 := Lib.hid (HN7.out.set0 0 (by omega))
  have HL8 := Lib.hid (HL7.out.stV HN7.out 0 (.int .i64 0))
  have HG8 := Lib.hid (HG7.out.stV HN7.out 0 (.int .i64 0))
  go_wp2_with fail
  refine (sum_sl [0] vg _ i64s_z (by simp) HG8.out).mono ?_
  rintro e w9 ⟨rfl, hb9⟩
  have HN9 := Lib.hid (HN8.out.kept hb9)
  have HL9 := Lib.hid ((HL8.out.below hb9).more hb9.size)
  have HG9 := Lib.hid ((HG8.out.below hb9).more hb9.size)
  rw [sumV0.1, sumV0.2]
  clear hb9 q0 ql qf
  have q1 := HN9.out.n.get 1 rfl
  have ql := HN9.out.n.lt
  have qf := HN9.out.n.frozen 1
  have HN10 := Lib.hid (HN9.out.set0 1 (by omega))
  have HL10 := Lib.hid (HL9.out.stV HN9.out 1 (.int .i64 0))
  have HG10 := Lib.hid (HG9.out.stV HN9.out 1 (.int .i64 0))
  have HRG10 := Lib.hid (sty_rng HN10.out.s)
  go_wp2_with (refine wpList_load_mid rfl 67 _ rfl (w.heap.size + 1 + 1) 0 rfl (styCells (styK 1 0)) _ HRG10.out Tryz.underlying67 rfl (by kernel_rfl) ?_)
  refine (outer_any (styK 1 0) [0] vl _ (styK_BV 1 0) i64s_z (by simp) HL10.out rfl).mono ?_
  rintro e w11 ⟨rfl, hb11⟩
  have HN11 := Lib.hid (HN10.out.kept hb11)
  have HG11 := Lib.hid ((HG10.out.below hb11).more hb11.size)
  rw [outV0.1, outV0.2]
  clear hb11 q1 ql qf
  have q2 := HN11.out.n.get 2 rfl
  have ql := HN11.out.n.lt
  have qf := HN11.out.n.frozen 2
  have HN12 := Lib.hid (HN11.out.set0 2 (by omega))
  have HG12 := Lib.hid (HG11.out.stV HN11.out 2 (.int .i64 0))
  have HRG12 := Lib.hid (sty_rng HN12.out.s)
  go_wp2_with (refine wpList_load_mid rfl 67 _ rfl (w.heap.size + 1 + 1) 0 rfl (styCells (styK 1 0)) _ HRG12.out Tryz.underlying67 rfl (by kernel_rfl) ?_)
  refine (outer_any (styK 1 0) [0] vg _ (styK_BV 1 0) i64s_z (by simp) HG12.out rfl).mono ?_
  rintro e w13 ⟨rfl, hb13⟩
  have HN13 := Lib.hid (HN12.out.kept hb13)
  rw [outV0.1, outV0.2]
  clear hb13 q2 ql qf
  have q0 := HN13.out.n.get 0 rfl
  have q1 := HN13.out.n.get 1 rfl
  have q2 := HN13.out.n.get 2 rfl
  have q3 := HN13.out.n.get 3 rfl
  have ql := HN13.out.n.lt
  have qf0 := HN13.out.n.frozen 0
  have qf1 := HN13.out.n.frozen 1
  have qf2 := HN13.out.n.frozen 2
  have qf3 := HN13.out.n.frozen 3
  have HN14 := Lib.hid (HN13.out.set0 3 (by omega))
  have HN15 := Lib.hid ((((HN14.out.set0 0 (by omega)).set0 1 (by omega)).set0 2 (by omega)).set0 3 (by omega))
  go_wp2_with fail
  refine bodyPost_ret (res_nodeV Tryz.results65 _ _ (w.heap.size + 1) 0 0 0 0 _ rfl rfl HN15.out.n) rfl ?_
  exact ⟨by simp, HN15.out.b⟩
end Go.Proofs.YtjhfcpadnofdnaaGreat
namespace Go.Proofs.YtjhfcpadnofdnaaGreat
open Go.RowKit
attribute [local go_sem] block_of_add
theorem eqUdV (a1 a2 a3 b1 b2 b3 : Int) (w : World) : (Op.equalIn 10000 40 (.agg #[.int .i64 a1, .int .i64 a2, .int .i64 a3]) (.agg #[.int .i64 b1, .int .i64 b2, .int .i64 b3])).run Tryz.prog w = .ok (a1 == b1 && a2 == b2 && a3 == b3) w := by
  have u2 := Tryz.underlying2
  have g2 := Tryz.isAgg2
  have z2 := Tryz.sizeOf2
  have hS : Tryz.prog.underlying 40 = some (.struct (Tryz.prog.fieldsOf 40)) := by kernel_rfl
  have hp : Tryz.prog.stoodInHeld 40 = false := by kernel_rfl
  rw [show (10000 : Nat) = 9999 + 1 from rfl, run_equalIn_agg w 9999 40 _ _ hS hp]
  simp only [Program.fieldsOf, Tryz.underlying40]
  go_simp
  by_cases h1 : a1 = b1 <;> by_cases h2 : a2 = b2 <;> by_cases h3 : a3 = b3 <;> simp [h1, h2, h3]
theorem guardUdV (op : BinOp) (x y : Operand) (xs ys : Array Value) (w : World) : (eqGuard op 40 x y (.agg xs) (.agg ys)).run Tryz.prog w = .ok () w := run_eqGuard_agg w op _ x y xs ys (by kernel_rfl)
set_option maxHeartbeats 1000000 in
theorem index0 (A : Option Addr) (c : Nat) (w : World) : Calls Tryz.prog 174 #[.slice A 0 c, .bool true] w fun e w' => e = .returned (.int .i64 (-1)) ∧ w = w' := by
  go_enter Tryz.func174, Tryz.ntmps174
  go_wp2_with fail
  refine wp_loop0 ?_
  go_wp2_with fail
  go_ret
  exact ⟨rfl, rfl⟩
set_option maxHeartbeats 1000000 in
theorem contains0 (A : Option Addr) (c : Nat) (w : World) : Calls Tryz.prog 101 #[.slice A 0 c, .bool true] w fun e w' => e = .returned (.bool false) ∧ w = w' := by
  have HI := Lib.hid (index0 A c w)
  go_enter Tryz.func101, Tryz.ntmps101
  go_wp2_with fail
  refine HI.out.mono ?_
  rintro e w1 ⟨rfl, rfl⟩
  go_wp2_with fail
  go_ret
  exact ⟨rfl, rfl⟩
set_option maxHeartbeats 1000000 in
theorem eqfunc0 (F : Value) (w : World) : Calls Tryz.prog 175 #[.slice none 0 0, .slice none 0 0, F] w fun e w' => e = .returned (.bool true) ∧ w = w' := by
  go_enter Tryz.func175, Tryz.ntmps175
  go_wp2_with fail
  refine wp_loop0 ?_
  go_wp2_with fail
  go_ret
  exact ⟨rfl, rfl⟩
set_option maxHeartbeats 1000000 in
theorem lines0 (w : World) : Calls Tryz.prog 103 #[.slice none 0 0, .slice none 0 0] w fun e w' => e = .returned (.bool true) ∧ w = w' := by
  have HI := Lib.hid (fun F => eqfunc0 F w)
  go_enter Tryz.func103, Tryz.ntmps103
  go_wp2_with fail
  refine (HI.out _).mono ?_
  rintro e w1 ⟨rfl, rfl⟩
  go_wp2_with fail
  go_ret
  exact ⟨rfl, rfl⟩
/-- The cells of the frag of jamblaw24.One. -/
def frV : Array Value := #[.int .i64 0, .int .i64 0, .int .i64 100, .int .i64 0, .slice none 0 0]
set_option maxHeartbeats 1000000 in
theorem stands_one (w : World) : Calls Tryz.prog 102 #[.agg frV, .agg frV] w fun e w' => e = .returned (.bool true) ∧ Below w.heap.size w w' := by
  have HB : Hid (∀ o o2 : Obj, Below w.heap.size w ((w.alloc o).alloc o2)) := Lib.hid (fun o o2 => ((Below.refl _ _).alloc (Nat.le_refl _) _).alloc (by simp) _)
  unfold frV
  go_enter Tryz.func102, Tryz.ntmps102
  go_wp2_with fail
  go_ret
  exact ⟨rfl, HB.out _ _⟩
end Go.Proofs.YtjhfcpadnofdnaaGreat
