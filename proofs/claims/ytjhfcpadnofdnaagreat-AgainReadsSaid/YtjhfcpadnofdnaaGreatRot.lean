/- A tree, a used value, contents and a small number that came in as arguments. -/
import Derived.Test.YtjhfcpadnofdnaaGreatApp
import Derived.Test.YtjhfcpadnofdnaaGreatTra
import Derived.Test.YtjhfcpadnofdnaaGreatText
import Derived.OpenShut
import Derived.Carry
set_option linter.unusedSimpArgs false
set_option linter.unusedVariables false
namespace Go.Proofs.YtjhfcpadnofdnaaGreat
open Go.ChangeShapes Go.WideShapes Go.ChangeAt Go.RowKit
structure TrI (w : World) (A A2 : Option Addr) (l : List Nd) (adv : List Int) : Prop where
  nd : Reads w w.heap.size 44 A l.length (ndsCells l)
  ad : Reads w w.heap.size 1 A2 adv.length (i64s adv)
  un : ∀ x ∈ l, ∃ Au cu, x.s.uv = .slice Au x.s.units.length cu ∧ x.s.units.length ≤ cu ∧ Reads w w.heap.size 1 Au x.s.units.length (u16s x.s.units) ∧ U16s x.s.units
  i64 : I64s adv
section
variable {H : Type} {enc : TypeId × Value → H} {W : World}
/-- A slice that came in reads as a list. -/
theorem reads_list2 {α : Type} {encd : α → List Value} {good : α → Prop} {P : Program} {W : World} {t e : TypeId} {size : Nat} {v : Value} {d : DataW H} {ps : List MemPlace} (ht : P.underlying t = some (.slice e)) (hc : P.cellsOf e = size) (hpos : 0 < size)
    (hg : ∀ n cs y, cs.length = size → DataW.trod enc P W 0 (fun _ => true) true n e cs = some y → (∀ p ∈ y.2, p ∈ ps) → ∃ x, cs = encd x ∧ good x) (hlt : ∀ x ∈ ps, x.block < W.heap.size)
    (hv : ∃ A len c, v = .slice A len c) (h : DataW.Trod enc P W 0 (fun _ => true) true t v d ps) :
    ∃ A c, ∃ l : List α, v = .slice A l.length c ∧ l.length ≤ c ∧ (∀ x ∈ l, good x) ∧ Reads W W.heap.size size A l.length (l.flatMap encd) := by
  obtain ⟨A, len, c, rfl⟩ := hv
  obtain ⟨fuel, hf⟩ := h
  rcases Go.Deep.open_slice ht hf with ⟨hcs, _⟩ | ⟨a, len', cap, m, n, D, Pl, hcs, _, hl, _, hm, hx, hel⟩
  · simp [Value.cells] at hcs
    obtain ⟨rfl, rfl, rfl⟩ := hcs
    exact ⟨none, 0, [], rfl, by simp, by simp, Reads.none_⟩
  · simp [Value.cells] at hcs
    obtain ⟨rfl, rfl, rfl⟩ := hcs
    rw [hc] at hel
    simp only [if_true] at hm
    subst hm
    have hel' : ∀ i, ∃ r : List Value, i < m → r.length = size ∧ (∃ x, r = encd x ∧ good x) ∧ ∀ j u, r[j]? = some u → W.cell? (a.add (i * size + j)) = some u := by
      intro i
      by_cases hi : i < m
      · obtain ⟨cs, h1, h2⟩ := hel i hi
        obtain ⟨_, hlen, hcell⟩ := World.cells?_some h1
        refine ⟨cs, fun _ => ⟨hlen, hg _ _ _ hlen h2 (fun p hp => by have e2 := (Prod.mk.inj hx).2; rw [e2]; exact List.mem_append_right _ (List.mem_flatMap.2 ⟨i, List.mem_range.2 hi, hp⟩)), fun j u hu => ?_⟩⟩
        have hj : j < size := by rw [← hlen]; exact (List.getElem?_eq_some_iff.1 hu).1
        rw [← add_of_add, hcell j hj]
        exact hu
      · exact ⟨[], fun h => absurd h hi⟩
    obtain ⟨R, hR⟩ := Classical.axiomOfChoice hel'
    obtain ⟨l, hl1, hl2⟩ := list_of_rows (encd := encd) (good := good) ((List.range len).map R) (by
      intro r hr
      obtain ⟨i, hi, rfl⟩ := List.mem_map.1 hr
      exact (hR i (by have := List.mem_range.1 hi; omega)).2.1)
    have hll : l.length = len := by have := congrArg List.length hl1; simpa using this.symm
    have hfl : l.flatMap encd = ((List.range len).map R).flatten := by rw [hl1, List.flatMap_def]
    have hsz : ∀ r ∈ (List.range len).map R, r.length = size := fun r hr => by
      obtain ⟨i, hi, rfl⟩ := List.mem_map.1 hr
      exact (hR i (by have := List.mem_range.1 hi; omega)).1
    refine ⟨some a, m, l, by rw [hll], by omega, hl2, ?_, fun hn => ⟨a, rfl, ?_, fun j u hu => ?_⟩⟩
    · rw [hfl, flatten_len size _ hsz, hll]; simp
    · have hp : MemPlace.cell a.block (a.off + 0) ∈ ps := by
        have e : ps = MemPlace.row a (m * size) ++ (List.range m).flatMap Pl := by rw [← hc]; exact (Prod.mk.inj hx).2
        rw [e]
        refine List.mem_append_left _ (List.mem_map.2 ⟨0, List.mem_range.2 ?_, rfl⟩)
        exact Nat.mul_pos (by omega) hpos
      exact hlt _ hp
    · have hj : j < len * size := by
        have := (List.getElem?_eq_some_iff.1 hu).1
        rw [hfl, flatten_len size _ hsz] at this
        simpa using this
      have hk : j / size < len := Nat.div_lt_of_lt_mul (by rw [Nat.mul_comm]; exact hj)
      have hi : j % size < size := Nat.mod_lt _ hpos
      have ej : j / size * size + j % size = j := Nat.div_add_mod' j size
      rw [hfl, ← ej, flatten_at size _ hsz (j / size) (j % size) (R (j / size)) (by simp [hk]) hi] at hu
      rw [← ej]
      exact (hR (j / size) (by omega)).2.2 _ _ hu
theorem slice_form {P : Program} {t e : TypeId} {n : Nat} {v : Value} {y : DataW H × List MemPlace} (ht : P.underlying t = some (.slice e)) (h : DataW.trod enc P W 0 (fun _ => true) true n t [v] = some y) :
    (∃ A len c, v = .slice A len c) ∧ DataW.Trod enc P W 0 (fun _ => true) true t v y.1 y.2 := by
  have hf : ∃ A len c, v = .slice A len c := by
    rcases Go.Deep.open_slice ht h with ⟨hcs, _⟩ | ⟨a, len', cap, m, n, D, Pl, hcs, _⟩
    · injection hcs with hcs _; exact ⟨_, _, _, hcs⟩
    · injection hcs with hcs _; exact ⟨_, _, _, hcs⟩
  refine ⟨hf, n, ?_⟩
  obtain ⟨A, len, c, rfl⟩ := hf
  exact h
theorem reads_units {n : Nat} {v : Value} {y : DataW H × List MemPlace} (hlt : ∀ x ∈ y.2, x.block < W.heap.size) (h : DataW.trod enc Tryz.prog W 0 (fun _ => true) true n 65 [v] = some y) :
    ∃ A c, ∃ l : List Int, v = .slice A l.length c ∧ l.length ≤ c ∧ U16s l ∧ Reads W W.heap.size 1 A l.length (u16s l) := by
  obtain ⟨h1, h2⟩ := slice_form Tryz.underlying65 h
  exact reads_u16s hlt h1 h2
theorem len_good {n : Nat} {a b : Value} {y : DataW H × List MemPlace} (h : DataW.trod enc Tryz.prog W 0 (fun _ => true) true n 62 [a, b] = some y) : ∃ x : Ln, a = .int .u8 x.k ∧ b = .int .i64 x.n := by
  obtain ⟨m0, y0, x0, -⟩ := struct_field Tryz.underlying62 h 0 rfl rfl rfl (show Tryz.prog.cellsOf 5 = 1 by kernel_rfl)
  obtain ⟨n0, e0, -, -⟩ := DataW.trod_int Tryz.underlying5 x0
  obtain ⟨m1, y1, x1, -⟩ := struct_field Tryz.underlying62 h 1 rfl rfl rfl (show Tryz.prog.cellsOf 2 = 1 by kernel_rfl)
  obtain ⟨n1, e1, -, -⟩ := DataW.trod_int Tryz.underlying2 x1
  simp at e0 e1
  exact ⟨⟨n0, n1⟩, e0, e1⟩
theorem len4_good {n : Nat} {c0 c1 c2 c3 c4 c5 c6 c7 : Value} {y : DataW H × List MemPlace} (h : DataW.trod enc Tryz.prog W 0 (fun _ => true) true n 63 [c0, c1, c2, c3, c4, c5, c6, c7] = some y) :
    ∃ x0 x1 x2 x3 : Ln, c0 = .int .u8 x0.k ∧ c1 = .int .i64 x0.n ∧ c2 = .int .u8 x1.k ∧ c3 = .int .i64 x1.n ∧ c4 = .int .u8 x2.k ∧ c5 = .int .i64 x2.n ∧ c6 = .int .u8 x3.k ∧ c7 = .int .i64 x3.n := by
  obtain ⟨xs, m, _, _, _, hx, hf⟩ := DataW.trod_array Tryz.underlying63 h
  rw [show Tryz.prog.cellsOf 62 = 2 by kernel_rfl] at hf
  have g : ∀ i (hi : i < 4), ∃ z, xs[i]? = some z := fun i hi => ⟨_, List.getElem?_eq_getElem (by omega)⟩
  obtain ⟨z0, h0⟩ := g 0 (by omega)
  obtain ⟨z1, h1⟩ := g 1 (by omega)
  obtain ⟨z2, h2⟩ := g 2 (by omega)
  obtain ⟨z3, h3⟩ := g 3 (by omega)
  obtain ⟨x0, p0, p1⟩ := len_good ((hf 0 (by omega)).trans h0)
  obtain ⟨x1, p2, p3⟩ := len_good ((hf 1 (by omega)).trans h1)
  obtain ⟨x2, p4, p5⟩ := len_good ((hf 2 (by omega)).trans h2)
  obtain ⟨x3, p6, p7⟩ := len_good ((hf 3 (by omega)).trans h3)
  exact ⟨x0, x1, x2, x3, p0, p1, p2, p3, p4, p5, p6, p7⟩
theorem int_good {n : Nat} {a : Value} {y : DataW H × List MemPlace} (h : DataW.trod enc Tryz.prog W 0 (fun _ => true) true n 2 [a] = some y) : ∃ x : Int, a = .int .i64 x := by
  obtain ⟨n0, e0, -, -⟩ := DataW.trod_int Tryz.underlying2 h
  injection e0 with e0 _
  exact ⟨n0, e0⟩
theorem int4_good {n : Nat} {c0 c1 c2 c3 : Value} {y : DataW H × List MemPlace} (h : DataW.trod enc Tryz.prog W 0 (fun _ => true) true n 64 [c0, c1, c2, c3] = some y) :
    ∃ x0 x1 x2 x3 : Int, c0 = .int .i64 x0 ∧ c1 = .int .i64 x1 ∧ c2 = .int .i64 x2 ∧ c3 = .int .i64 x3 := by
  obtain ⟨xs, m, _, _, _, hx, hf⟩ := DataW.trod_array Tryz.underlying64 h
  rw [show Tryz.prog.cellsOf 2 = 1 by kernel_rfl] at hf
  have g : ∀ i (hi : i < 4), ∃ z, xs[i]? = some z := fun i hi => ⟨_, List.getElem?_eq_getElem (by omega)⟩
  obtain ⟨z0, h0⟩ := g 0 (by omega)
  obtain ⟨z1, h1⟩ := g 1 (by omega)
  obtain ⟨z2, h2⟩ := g 2 (by omega)
  obtain ⟨z3, h3⟩ := g 3 (by omega)
  obtain ⟨x0, p0⟩ := int_good ((hf 0 (by omega)).trans h0)
  obtain ⟨x1, p1⟩ := int_good ((hf 1 (by omega)).trans h1)
  obtain ⟨x2, p2⟩ := int_good ((hf 2 (by omega)).trans h2)
  obtain ⟨x3, p3⟩ := int_good ((hf 3 (by omega)).trans h3)
  exact ⟨x0, x1, x2, x3, p0, p1, p2, p3⟩
/-- What is known of a style's units. -/
def UnOk (W : World) (s : Sty) : Prop := ∃ Au cu, s.uv = .slice Au s.units.length cu ∧ s.units.length ≤ cu ∧ Reads W W.heap.size 1 Au s.units.length (u16s s.units) ∧ U16s s.units
set_option maxRecDepth 100000 in
set_option maxHeartbeats 1000000 in
theorem sty_good {n : Nat} {cs : List Value} {y : DataW H × List MemPlace} (hl : cs.length = 43) (hlt : ∀ p ∈ y.2, p.block < W.heap.size) (h : DataW.trod enc Tryz.prog W 0 (fun _ => true) true n 67 cs = some y) : ∃ s : Sty, cs = styCells s ∧ UnOk W s := by
  obtain ⟨c0, t0, rfl⟩ := List.exists_cons_of_length_eq_add_one hl
  have hl0 : t0.length = 42 := by simpa using hl
  obtain ⟨c1, t1, rfl⟩ := List.exists_cons_of_length_eq_add_one hl0
  have hl1 : t1.length = 41 := by simpa using hl0
  obtain ⟨c2, t2, rfl⟩ := List.exists_cons_of_length_eq_add_one hl1
  have hl2 : t2.length = 40 := by simpa using hl1
  obtain ⟨c3, t3, rfl⟩ := List.exists_cons_of_length_eq_add_one hl2
  have hl3 : t3.length = 39 := by simpa using hl2
  obtain ⟨c4, t4, rfl⟩ := List.exists_cons_of_length_eq_add_one hl3
  have hl4 : t4.length = 38 := by simpa using hl3
  obtain ⟨c5, t5, rfl⟩ := List.exists_cons_of_length_eq_add_one hl4
  have hl5 : t5.length = 37 := by simpa using hl4
  obtain ⟨c6, t6, rfl⟩ := List.exists_cons_of_length_eq_add_one hl5
  have hl6 : t6.length = 36 := by simpa using hl5
  obtain ⟨c7, t7, rfl⟩ := List.exists_cons_of_length_eq_add_one hl6
  have hl7 : t7.length = 35 := by simpa using hl6
  obtain ⟨c8, t8, rfl⟩ := List.exists_cons_of_length_eq_add_one hl7
  have hl8 : t8.length = 34 := by simpa using hl7
  obtain ⟨c9, t9, rfl⟩ := List.exists_cons_of_length_eq_add_one hl8
  have hl9 : t9.length = 33 := by simpa using hl8
  obtain ⟨c10, t10, rfl⟩ := List.exists_cons_of_length_eq_add_one hl9
  have hl10 : t10.length = 32 := by simpa using hl9
  obtain ⟨c11, t11, rfl⟩ := List.exists_cons_of_length_eq_add_one hl10
  have hl11 : t11.length = 31 := by simpa using hl10
  obtain ⟨c12, t12, rfl⟩ := List.exists_cons_of_length_eq_add_one hl11
  have hl12 : t12.length = 30 := by simpa using hl11
  obtain ⟨c13, t13, rfl⟩ := List.exists_cons_of_length_eq_add_one hl12
  have hl13 : t13.length = 29 := by simpa using hl12
  obtain ⟨c14, t14, rfl⟩ := List.exists_cons_of_length_eq_add_one hl13
  have hl14 : t14.length = 28 := by simpa using hl13
  obtain ⟨c15, t15, rfl⟩ := List.exists_cons_of_length_eq_add_one hl14
  have hl15 : t15.length = 27 := by simpa using hl14
  obtain ⟨c16, t16, rfl⟩ := List.exists_cons_of_length_eq_add_one hl15
  have hl16 : t16.length = 26 := by simpa using hl15
  obtain ⟨c17, t17, rfl⟩ := List.exists_cons_of_length_eq_add_one hl16
  have hl17 : t17.length = 25 := by simpa using hl16
  obtain ⟨c18, t18, rfl⟩ := List.exists_cons_of_length_eq_add_one hl17
  have hl18 : t18.length = 24 := by simpa using hl17
  obtain ⟨c19, t19, rfl⟩ := List.exists_cons_of_length_eq_add_one hl18
  have hl19 : t19.length = 23 := by simpa using hl18
  obtain ⟨c20, t20, rfl⟩ := List.exists_cons_of_length_eq_add_one hl19
  have hl20 : t20.length = 22 := by simpa using hl19
  obtain ⟨c21, t21, rfl⟩ := List.exists_cons_of_length_eq_add_one hl20
  have hl21 : t21.length = 21 := by simpa using hl20
  obtain ⟨c22, t22, rfl⟩ := List.exists_cons_of_length_eq_add_one hl21
  have hl22 : t22.length = 20 := by simpa using hl21
  obtain ⟨c23, t23, rfl⟩ := List.exists_cons_of_length_eq_add_one hl22
  have hl23 : t23.length = 19 := by simpa using hl22
  obtain ⟨c24, t24, rfl⟩ := List.exists_cons_of_length_eq_add_one hl23
  have hl24 : t24.length = 18 := by simpa using hl23
  obtain ⟨c25, t25, rfl⟩ := List.exists_cons_of_length_eq_add_one hl24
  have hl25 : t25.length = 17 := by simpa using hl24
  obtain ⟨c26, t26, rfl⟩ := List.exists_cons_of_length_eq_add_one hl25
  have hl26 : t26.length = 16 := by simpa using hl25
  obtain ⟨c27, t27, rfl⟩ := List.exists_cons_of_length_eq_add_one hl26
  have hl27 : t27.length = 15 := by simpa using hl26
  obtain ⟨c28, t28, rfl⟩ := List.exists_cons_of_length_eq_add_one hl27
  have hl28 : t28.length = 14 := by simpa using hl27
  obtain ⟨c29, t29, rfl⟩ := List.exists_cons_of_length_eq_add_one hl28
  have hl29 : t29.length = 13 := by simpa using hl28
  obtain ⟨c30, t30, rfl⟩ := List.exists_cons_of_length_eq_add_one hl29
  have hl30 : t30.length = 12 := by simpa using hl29
  obtain ⟨c31, t31, rfl⟩ := List.exists_cons_of_length_eq_add_one hl30
  have hl31 : t31.length = 11 := by simpa using hl30
  obtain ⟨c32, t32, rfl⟩ := List.exists_cons_of_length_eq_add_one hl31
  have hl32 : t32.length = 10 := by simpa using hl31
  obtain ⟨c33, t33, rfl⟩ := List.exists_cons_of_length_eq_add_one hl32
  have hl33 : t33.length = 9 := by simpa using hl32
  obtain ⟨c34, t34, rfl⟩ := List.exists_cons_of_length_eq_add_one hl33
  have hl34 : t34.length = 8 := by simpa using hl33
  obtain ⟨c35, t35, rfl⟩ := List.exists_cons_of_length_eq_add_one hl34
  have hl35 : t35.length = 7 := by simpa using hl34
  obtain ⟨c36, t36, rfl⟩ := List.exists_cons_of_length_eq_add_one hl35
  have hl36 : t36.length = 6 := by simpa using hl35
  obtain ⟨c37, t37, rfl⟩ := List.exists_cons_of_length_eq_add_one hl36
  have hl37 : t37.length = 5 := by simpa using hl36
  obtain ⟨c38, t38, rfl⟩ := List.exists_cons_of_length_eq_add_one hl37
  have hl38 : t38.length = 4 := by simpa using hl37
  obtain ⟨c39, t39, rfl⟩ := List.exists_cons_of_length_eq_add_one hl38
  have hl39 : t39.length = 3 := by simpa using hl38
  obtain ⟨c40, t40, rfl⟩ := List.exists_cons_of_length_eq_add_one hl39
  have hl40 : t40.length = 2 := by simpa using hl39
  obtain ⟨c41, t41, rfl⟩ := List.exists_cons_of_length_eq_add_one hl40
  have hl41 : t41.length = 1 := by simpa using hl40
  obtain ⟨c42, t42, rfl⟩ := List.exists_cons_of_length_eq_add_one hl41
  have hl42 : t42.length = 0 := by simpa using hl41
  obtain rfl := List.eq_nil_of_length_eq_zero hl42
  obtain ⟨m0, z0, x0, q0⟩ := struct_field (e := 5) (o := 0) Tryz.underlying67 h 0 rfl rfl rfl (show Tryz.prog.cellsOf 5 = 1 by kernel_rfl)
  simp only [List.drop_succ_cons, List.drop_zero, List.take_succ_cons, List.take_zero] at x0
  obtain ⟨n0, e0, -, w0⟩ := DataW.trod_int Tryz.underlying5 x0
  injection e0 with e0 _
  obtain ⟨m1, z1, x1, q1⟩ := struct_field (e := 4) (o := 1) Tryz.underlying67 h 1 rfl rfl rfl (show Tryz.prog.cellsOf 4 = 1 by kernel_rfl)
  simp only [List.drop_succ_cons, List.drop_zero, List.take_succ_cons, List.take_zero] at x1
  obtain ⟨n1, e1, -⟩ := DataW.trod_bool Tryz.underlying4 x1
  injection e1 with e1 _
  obtain ⟨m2, z2, x2, q2⟩ := struct_field (e := 5) (o := 2) Tryz.underlying67 h 2 rfl rfl rfl (show Tryz.prog.cellsOf 5 = 1 by kernel_rfl)
  simp only [List.drop_succ_cons, List.drop_zero, List.take_succ_cons, List.take_zero] at x2
  obtain ⟨n2, e2, -, w2⟩ := DataW.trod_int Tryz.underlying5 x2
  injection e2 with e2 _
  obtain ⟨m3, z3, x3, q3⟩ := struct_field (e := 5) (o := 3) Tryz.underlying67 h 3 rfl rfl rfl (show Tryz.prog.cellsOf 5 = 1 by kernel_rfl)
  simp only [List.drop_succ_cons, List.drop_zero, List.take_succ_cons, List.take_zero] at x3
  obtain ⟨n3, e3, -, w3⟩ := DataW.trod_int Tryz.underlying5 x3
  injection e3 with e3 _
  obtain ⟨m4, z4, x4, q4⟩ := struct_field (e := 62) (o := 4) Tryz.underlying67 h 4 rfl rfl rfl (show Tryz.prog.cellsOf 62 = 2 by kernel_rfl)
  simp only [List.drop_succ_cons, List.drop_zero, List.take_succ_cons, List.take_zero] at x4
  obtain ⟨n4, e4, f4⟩ := len_good x4
  obtain ⟨m5, z5, x5, q5⟩ := struct_field (e := 62) (o := 6) Tryz.underlying67 h 5 rfl rfl rfl (show Tryz.prog.cellsOf 62 = 2 by kernel_rfl)
  simp only [List.drop_succ_cons, List.drop_zero, List.take_succ_cons, List.take_zero] at x5
  obtain ⟨n5, e5, f5⟩ := len_good x5
  obtain ⟨m6, z6, x6, q6⟩ := struct_field (e := 62) (o := 8) Tryz.underlying67 h 6 rfl rfl rfl (show Tryz.prog.cellsOf 62 = 2 by kernel_rfl)
  simp only [List.drop_succ_cons, List.drop_zero, List.take_succ_cons, List.take_zero] at x6
  obtain ⟨n6, e6, f6⟩ := len_good x6
  obtain ⟨m7, z7, x7, q7⟩ := struct_field (e := 62) (o := 10) Tryz.underlying67 h 7 rfl rfl rfl (show Tryz.prog.cellsOf 62 = 2 by kernel_rfl)
  simp only [List.drop_succ_cons, List.drop_zero, List.take_succ_cons, List.take_zero] at x7
  obtain ⟨n7, e7, f7⟩ := len_good x7
  obtain ⟨m8, z8, x8, q8⟩ := struct_field (e := 62) (o := 12) Tryz.underlying67 h 8 rfl rfl rfl (show Tryz.prog.cellsOf 62 = 2 by kernel_rfl)
  simp only [List.drop_succ_cons, List.drop_zero, List.take_succ_cons, List.take_zero] at x8
  obtain ⟨n8, e8, f8⟩ := len_good x8
  obtain ⟨m9, z9, x9, q9⟩ := struct_field (e := 62) (o := 14) Tryz.underlying67 h 9 rfl rfl rfl (show Tryz.prog.cellsOf 62 = 2 by kernel_rfl)
  simp only [List.drop_succ_cons, List.drop_zero, List.take_succ_cons, List.take_zero] at x9
  obtain ⟨n9, e9, f9⟩ := len_good x9
  obtain ⟨m10, z10, x10, q10⟩ := struct_field (e := 63) (o := 16) Tryz.underlying67 h 10 rfl rfl rfl (show Tryz.prog.cellsOf 63 = 8 by kernel_rfl)
  simp only [List.drop_succ_cons, List.drop_zero, List.take_succ_cons, List.take_zero] at x10
  obtain ⟨a10, b10, d10, g10, e100, e101, e102, e103, e104, e105, e106, e107⟩ := len4_good x10
  obtain ⟨m11, z11, x11, q11⟩ := struct_field (e := 64) (o := 24) Tryz.underlying67 h 11 rfl rfl rfl (show Tryz.prog.cellsOf 64 = 4 by kernel_rfl)
  simp only [List.drop_succ_cons, List.drop_zero, List.take_succ_cons, List.take_zero] at x11
  obtain ⟨a11, b11, d11, g11, e110, e111, e112, e113⟩ := int4_good x11
  obtain ⟨m12, z12, x12, q12⟩ := struct_field (e := 64) (o := 28) Tryz.underlying67 h 12 rfl rfl rfl (show Tryz.prog.cellsOf 64 = 4 by kernel_rfl)
  simp only [List.drop_succ_cons, List.drop_zero, List.take_succ_cons, List.take_zero] at x12
  obtain ⟨a12, b12, d12, g12, e120, e121, e122, e123⟩ := int4_good x12
  obtain ⟨m13, z13, x13, q13⟩ := struct_field (e := 5) (o := 32) Tryz.underlying67 h 13 rfl rfl rfl (show Tryz.prog.cellsOf 5 = 1 by kernel_rfl)
  simp only [List.drop_succ_cons, List.drop_zero, List.take_succ_cons, List.take_zero] at x13
  obtain ⟨n13, e13, -, w13⟩ := DataW.trod_int Tryz.underlying5 x13
  injection e13 with e13 _
  obtain ⟨m14, z14, x14, q14⟩ := struct_field (e := 2) (o := 33) Tryz.underlying67 h 14 rfl rfl rfl (show Tryz.prog.cellsOf 2 = 1 by kernel_rfl)
  simp only [List.drop_succ_cons, List.drop_zero, List.take_succ_cons, List.take_zero] at x14
  obtain ⟨n14, e14, -, w14⟩ := DataW.trod_int Tryz.underlying2 x14
  injection e14 with e14 _
  obtain ⟨m15, z15, x15, q15⟩ := struct_field (e := 4) (o := 34) Tryz.underlying67 h 15 rfl rfl rfl (show Tryz.prog.cellsOf 4 = 1 by kernel_rfl)
  simp only [List.drop_succ_cons, List.drop_zero, List.take_succ_cons, List.take_zero] at x15
  obtain ⟨n15, e15, -⟩ := DataW.trod_bool Tryz.underlying4 x15
  injection e15 with e15 _
  obtain ⟨m16, z16, x16, q16⟩ := struct_field (e := 5) (o := 35) Tryz.underlying67 h 16 rfl rfl rfl (show Tryz.prog.cellsOf 5 = 1 by kernel_rfl)
  simp only [List.drop_succ_cons, List.drop_zero, List.take_succ_cons, List.take_zero] at x16
  obtain ⟨n16, e16, -, w16⟩ := DataW.trod_int Tryz.underlying5 x16
  injection e16 with e16 _
  obtain ⟨m17, z17, x17, q17⟩ := struct_field (e := 5) (o := 36) Tryz.underlying67 h 17 rfl rfl rfl (show Tryz.prog.cellsOf 5 = 1 by kernel_rfl)
  simp only [List.drop_succ_cons, List.drop_zero, List.take_succ_cons, List.take_zero] at x17
  obtain ⟨n17, e17, -, w17⟩ := DataW.trod_int Tryz.underlying5 x17
  injection e17 with e17 _
  obtain ⟨m18, z18, x18, q18⟩ := struct_field (e := 3) (o := 37) Tryz.underlying67 h 18 rfl rfl rfl (show Tryz.prog.cellsOf 3 = 1 by kernel_rfl)
  simp only [List.drop_succ_cons, List.drop_zero, List.take_succ_cons, List.take_zero] at x18
  obtain ⟨n18, e18, -, w18⟩ := DataW.trod_int Tryz.underlying3 x18
  injection e18 with e18 _
  obtain ⟨m19, z19, x19, q19⟩ := struct_field (e := 2) (o := 38) Tryz.underlying67 h 19 rfl rfl rfl (show Tryz.prog.cellsOf 2 = 1 by kernel_rfl)
  simp only [List.drop_succ_cons, List.drop_zero, List.take_succ_cons, List.take_zero] at x19
  obtain ⟨n19, e19, -, w19⟩ := DataW.trod_int Tryz.underlying2 x19
  injection e19 with e19 _
  obtain ⟨m20, z20, x20, q20⟩ := struct_field (e := 2) (o := 39) Tryz.underlying67 h 20 rfl rfl rfl (show Tryz.prog.cellsOf 2 = 1 by kernel_rfl)
  simp only [List.drop_succ_cons, List.drop_zero, List.take_succ_cons, List.take_zero] at x20
  obtain ⟨n20, e20, -, w20⟩ := DataW.trod_int Tryz.underlying2 x20
  injection e20 with e20 _
  obtain ⟨m21, z21, x21, q21⟩ := struct_field (e := 62) (o := 40) Tryz.underlying67 h 21 rfl rfl rfl (show Tryz.prog.cellsOf 62 = 2 by kernel_rfl)
  simp only [List.drop_succ_cons, List.drop_zero, List.take_succ_cons, List.take_zero] at x21
  obtain ⟨n21, e21, f21⟩ := len_good x21
  obtain ⟨m22, z22, x22, q22⟩ := struct_field (e := 65) (o := 42) Tryz.underlying67 h 22 rfl rfl rfl (show Tryz.prog.cellsOf 65 = 1 by kernel_rfl)
  simp only [List.drop_succ_cons, List.drop_zero, List.take_succ_cons, List.take_zero] at x22
  obtain ⟨A, c, u, e22, hc, hu, hr⟩ := reads_units (fun p hp => hlt p (q22 p hp)) x22
  refine ⟨⟨n0, n1, n2, n3, n4, n5, n6, n7, n8, n9, a10, b10, d10, g10, a11, b11, d11, g11, a12, b12, d12, g12, n13, n14, n15, n16, n17, n18, n19, n20, n21, u, .slice A u.length c⟩, ?_, A, c, rfl, hc, hr, hu⟩
  rw [e0, e1, e2, e3, e4, f4, e5, f5, e6, f6, e7, f7, e8, f8, e9, f9, e100, e101, e102, e103, e104, e105, e106, e107, e110, e111, e112, e113, e120, e121, e122, e123, e13, e14, e15, e16, e17, e18, e19, e20, e21, f21, e22]; rfl
theorem nd_good {n : Nat} {cs : List Value} {y : DataW H × List MemPlace} (hl : cs.length = 44) (hlt : ∀ p ∈ y.2, p.block < W.heap.size) (h : DataW.trod enc Tryz.prog W 0 (fun _ => true) true n 69 cs = some y) : ∃ x : Nd, cs = ndCells x ∧ UnOk W x.s := by
  obtain ⟨m0, y0, x0, -⟩ := struct_field Tryz.underlying69 h 0 rfl rfl rfl (show Tryz.prog.cellsOf 3 = 1 by kernel_rfl)
  obtain ⟨n0, e0, -, -⟩ := DataW.trod_int Tryz.underlying3 x0
  obtain ⟨m1, y1, x1, q1⟩ := struct_field (e := 67) (o := 1) Tryz.underlying69 h 1 rfl rfl rfl (show Tryz.prog.cellsOf 67 = 43 by kernel_rfl)
  cases cs with
  | nil => simp at hl
  | cons c0 t =>
    have ht : t.length = 43 := by simpa using hl
    have e1 : ((c0 :: t).drop 1).take 43 = t := by rw [List.drop_succ_cons, List.drop_zero, List.take_of_length_le (by omega)]
    rw [e1] at x1
    obtain ⟨s, hs, hu⟩ := sty_good ht (fun p hp => hlt p (q1 p hp)) x1
    simp at e0
    exact ⟨⟨n0, s⟩, by rw [e0, hs]; rfl, hu⟩
theorem reads_tree {v : Value} {d : DataW H} {ps : List MemPlace} (hlt : ∀ x ∈ ps, x.block < W.heap.size) (hv : ∃ cs, v = .agg cs ∧ cs.size = Tryz.prog.cellsOf 25) (h : DataW.Trod enc Tryz.prog W 0 (fun _ => true) true 25 v d ps) :
    ∃ A c A2 c2 view, ∃ l : List Nd, ∃ adv : List Int, v = .agg #[.slice A l.length c, .slice A2 adv.length c2, .int .i64 view] ∧ TrI W A A2 l adv := by
  obtain ⟨cs, rfl, hsz⟩ := hv
  rw [show Tryz.prog.cellsOf 25 = 3 by kernel_rfl] at hsz
  obtain ⟨fuel, hf⟩ := h
  obtain ⟨a0, a1, a2, rfl⟩ : ∃ a0 a1 a2, cs = #[a0, a1, a2] := by
    have hl : cs.toList.length = 3 := by simpa using hsz
    match hc : cs.toList, hl with
    | [a0, a1, a2], _ => exact ⟨a0, a1, a2, by rw [← Array.toList_inj, hc]⟩
  have hf' : DataW.trod enc Tryz.prog W 0 (fun _ => true) true fuel 25 [a0, a1, a2] = some (d, ps) := hf
  obtain ⟨m0, y0, x0, q0⟩ := struct_field (e := 22) (o := 0) Tryz.underlying25 hf' 0 rfl rfl rfl (show Tryz.prog.cellsOf 22 = 1 by kernel_rfl)
  obtain ⟨m1, y1, x1, q1⟩ := struct_field (e := 23) (o := 1) Tryz.underlying25 hf' 1 rfl rfl rfl (show Tryz.prog.cellsOf 23 = 1 by kernel_rfl)
  obtain ⟨m2, y2, x2, -⟩ := struct_field (e := 2) (o := 2) Tryz.underlying25 hf' 2 rfl rfl rfl (show Tryz.prog.cellsOf 2 = 1 by kernel_rfl)
  simp only [List.drop_succ_cons, List.drop_zero, List.take_succ_cons, List.take_zero] at x0 x1 x2
  obtain ⟨view, rfl⟩ := int_good x2
  obtain ⟨f0, g0⟩ := slice_form Tryz.underlying22 x0
  obtain ⟨f1, g1⟩ := slice_form Tryz.underlying23 x1
  have lt0 : ∀ x ∈ y0.2, x.block < W.heap.size := fun x hx => hlt x (q0 x hx)
  obtain ⟨A, c, l, rfl, hc, hg, hr⟩ := reads_list2 (encd := ndCells) (good := fun x => UnOk W x.s) Tryz.underlying22 (show Tryz.prog.cellsOf 69 = 44 by kernel_rfl) (by omega) (fun n cs y hl h hp => nd_good hl (fun p hpp => lt0 p (hp p hpp)) h) lt0 f0 g0
  obtain ⟨A2, c2, adv, rfl, hc2, hg2, hr2⟩ := reads_i64s (fun x hx => hlt x (q1 x hx)) f1 g1
  exact ⟨A, c, A2, c2, view, l, adv, rfl, ⟨hr, hr2, fun x hx => hg x hx, hg2⟩⟩
end
end Go.Proofs.YtjhfcpadnofdnaaGreat
