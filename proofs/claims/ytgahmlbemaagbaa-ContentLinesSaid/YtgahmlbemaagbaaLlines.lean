/- The law ContentLines, walked. -/
import Derived.Test.YtgahmlbemaagbaaCli
set_option linter.unusedSimpArgs false
set_option linter.unusedVariables false
namespace Go.Proofs.Ytgahmlbemaagbaa
open Go.RowKit
attribute [local go_sem] block_of_add

def u8s (l : List Nat) : List Value := l.map fun (x : Nat) => Value.int .u8 (x : Int)
theorem u8s_at {l : List Nat} {k : Nat} (h : k < l.length) {u : Value} (hu : (u8s l)[k]? = some u) : u = .int .u8 (l[k] : Nat) := by
  simp [u8s, List.getElem?_map, List.getElem?_eq_getElem h] at hu; exact hu.symm
theorem make_i64n (n : Nat) (hn : n ≤ 1000000) (w : World) : (Instr.makeSlice 25 (.int .i64 (n : Int)) (.int .i64 (n : Int))).run Try.prog w = .ok (.slice (some ⟨w.heap.size, 0, none⟩) n n) (w.alloc (.cells (i64s (List.replicate n 0)).toArray 2)) := by
  obtain ⟨i, hi, hz, hs, hb⟩ := info_parts el_i642.info
  have h := run_makeSlice (P := Try.prog) (w := w) 25 2 i (.int .i64 0) el_i642.ht hi hz .i64 .i64 (n : Int) (n : Int) (by omega) (by omega) (by rw [hs]; omega) (by rw [hb]; omega) (by omega)
  have hm : madeCells (Value.int .i64 0).cells (n * 1) = (i64s (List.replicate n 0)).toArray := by
    apply Array.toList_inj.1
    show (madeCells #[.int .i64 0] (n * 1)).toList = _
    rw [Nat.mul_one, toList_madeCells_one]; simp [i64s]
  rw [h, hs, Int.toNat_natCast, hm]
def zer300 : List Int := List.replicate 300 0
theorem make_300 (w : World) : (Instr.makeSlice 25 (.int .i64 300) (.int .i64 300)).run Try.prog w = .ok (.slice (some ⟨w.heap.size, 0, none⟩) 300 300) (w.alloc (.cells (i64s zer300).toArray 2)) := make_i64n 300 (by omega) w
theorem advI_set (sp : Nat) {i : Nat} (h : 33 ≤ i) (h2 : i < 300) : (advI sp i).set i ((i * 7 % 1000 : Nat) : Int) = advI sp (i + 1) := by
  apply List.ext_getElem?
  intro j
  by_cases hj : j < 300
  · rw [advI_at sp (i + 1) j hj, List.getElem?_set]
    rw [advI_len, advI_at sp i j hj]
    by_cases e : i = j
    · subst e; rw [if_pos rfl, if_pos h2, if_neg (by omega), if_pos ⟨h, by omega⟩]
    · rw [if_neg e]
      by_cases e2 : j = 32
      · rw [if_pos e2, if_pos e2]
      · rw [if_neg e2, if_neg e2]
        by_cases e3 : 33 ≤ j ∧ j < i
        · rw [if_pos e3, if_pos ⟨e3.1, by omega⟩]
        · rw [if_neg e3, if_neg (by omega)]
  · rw [List.getElem?_eq_none (by rw [List.length_set, advI_len]; omega), List.getElem?_eq_none (by rw [advI_len]; omega)]
theorem advI_zero (sp : Nat) : zer300.set 32 (sp : Int) = advI sp 33 := by
  unfold zer300
  apply List.ext_getElem?
  intro j
  by_cases hj : j < 300
  · rw [advI_at sp 33 j hj, List.getElem?_set, List.length_replicate, List.getElem?_replicate, if_pos hj]
    by_cases e : 32 = j
    · subst e; rw [if_pos rfl, if_pos (by omega), if_pos rfl]
    · rw [if_neg e, if_neg (by omega), if_neg (by omega)]
  · rw [List.getElem?_eq_none (by rw [List.length_set, List.length_replicate]; omega), List.getElem?_eq_none (by rw [advI_len]; omega)]
theorem el_u16c : El Try.prog 26 23 (.int .u16 0) 1 2 := ⟨Try.underlying26, by kernel_rfl, rfl, by decide⟩
theorem u16s_onec (l : List Int) : ∀ u ∈ u16s l, u.oneCell' = true := by simp [u16s, Value.oneCell']
/-- What the loops over the letters hold. -/
structure LnI (w wr : World) (g1 sp : Nat) (v9 : Value) (U : List Int) (s0 s1 : Int) : Prop where
  ad : Blk wr w.heap.size 2 (i64s (advI sp 300)).toArray
  wd : Blk wr g1 27 #[.int .i64 s0, .int .i64 s1]
  o : wr.ownsRow (w.heap.size + 2) 23 1 v9 U.length (u16s U)
  b : Below w.heap.size w wr
  g : g1 = w.heap.size + 1
theorem LnI.step {w wr w6 : World} {g1 sp : Nat} {v9 v9' : Value} {U : List Int} {s0 s1 : Int} {u : Int} (h : LnI w wr g1 sp v9 U s0 s1) (ho : w6.ownsRow (w.heap.size + 2) 23 1 v9' (U.length + 1) (u16s U ++ [.int .u16 u])) (hg : wr.grownBy w6 v9.ownBlock) (hB : ∀ B w0, B ≤ w.heap.size + 2 → Below B w0 wr → Below B w0 w6) :
    LnI w w6 g1 sp v9' (U ++ [u]) s0 s1 := by
  have hg1 := h.g
  refine ⟨h.ad.grown hg (own_far h.o (by omega)), h.wd.grown hg (own_far h.o (by omega)), ?_, hB _ _ (by omega) h.b, h.g⟩
  rw [List.length_append]; simpa [u16s] using ho
theorem LnI.setw {w wr : World} {g1 sp : Nat} {v9 : Value} {U : List Int} {s0 s1 : Int} (h : LnI w wr g1 sp v9 U s0 s1) (k : Nat) (s : Int) (s0' s1' : Int) (he : (#[Value.int .i64 s0, .int .i64 s1] : Array Value).setIfInBounds k (.int .i64 s) = #[.int .i64 s0', .int .i64 s1']) :
    LnI w (wr.setCell ⟨g1, k, none⟩ (.int .i64 s)).drew g1 sp v9 U s0' s1' := by
  have hg1 := h.g
  refine ⟨(h.ad.far (by simp; omega) _).drew, ?_, ?_, (h.b.setCell (p := ⟨g1, k, none⟩) (by simp; omega) _).drew, h.g⟩
  · rw [← he]; exact (h.wd.set_ k _).drew
  · exact ownsRow_setCell_below h.o (a := ⟨g1, k, none⟩) (by show g1 < w.heap.size + 2; omega) _
theorem LnI.kept {w wr w' : World} {g1 sp : Nat} {v9 : Value} {U : List Int} {s0 s1 : Int} (h : LnI w wr g1 sp v9 U s0 s1) (hb : Below wr.heap.size wr w') : LnI w w' g1 sp v9 U s0 s1 :=
  ⟨h.ad.below hb h.ad.lt, h.wd.below hb h.wd.lt, own_below h.o hb, h.b.trans (hb.mono h.b.size), h.g⟩
theorem LnI.sz {w wr : World} {g1 sp : Nat} {v9 : Value} {U : List Int} {s0 s1 : Int} (h : LnI w wr g1 sp v9 U s0 s1) : w.heap.size + 2 ≤ wr.heap.size := by
  have := h.wd.lt; have := h.g; omega
/-- Behind an append to one of two slices of the call's own the other stands, and they lie apart. -/
theorem own_apc {w w' : World} {b2 s2 n2 : Nat} {e2 : TypeId} {v1 v2 v1' : Value} {x2 : List Value} (o2 : w.ownsRow b2 e2 s2 v2 n2 x2) (hd : ∀ g, v1.ownBlock = some g → v2.ownBlock ≠ some g) (hg : w.grownBy w' v1.ownBlock)
    (hob : v1'.ownBlock = v1.ownBlock ∨ w.heap.size ≤ v1'.ownBlock.getD w.heap.size) : w'.ownsRow b2 e2 s2 v2 n2 x2 ∧ ∀ g, v1'.ownBlock = some g → v2.ownBlock ≠ some g := by
  refine ⟨o2.kept hg ?_, fun g h1 h2 => ?_⟩
  · rcases h : v2.ownBlock with _ | g
    · exact .inl rfl
    · exact .inr fun e => hd g e.symm h
  · rcases hob with h | h
    · exact hd g (h ▸ h1) h2
    · rw [h1] at h
      have := (o2.lt g h2).2
      simp at h; omega
theorem nd_rng {W : World} {g : Nat} {x : Nd} (hb : Blk W g 35 (ndCells x).toArray) : W.rangeAt g 0 (ndCells x) := fun j v hv => by rw [Nat.zero_add]; exact hb.get j (by simpa using hv)
theorem Reads.of_blk1 {W : World} {g size n : Nat} {t : TypeId} {xs : List Value} (hb : Blk W g t xs.toArray) (hn : xs.length = n * size) : Reads W W.heap.size size (some ⟨g, 0, none⟩) n xs :=
  ⟨hn, fun _ => ⟨_, rfl, hb.lt, fun j u hu => by
    have h0 : ((⟨g, 0, none⟩ : Addr).add j) = ⟨g, j, none⟩ := by unfold Addr.add; split <;> simp_all
    rw [h0]; exact hb.get j (by simpa using hu)⟩⟩
theorem treeI_sty (u : List Int) (uv : Value) (x : Nd) (h : x ∈ treeI u uv) : (x.s.uv = .slice none 0 0 ∧ x.s.units = []) ∨ (x.s.uv = uv ∧ x.s.units = u) := by
  simp only [treeI, List.mem_cons, List.not_mem_nil, or_false] at h
  rcases h with rfl | rfl
  · exact .inl ⟨rfl, rfl⟩
  · exact .inr ⟨rfl, rfl⟩
theorem advI_i64 (sp k : Nat) (h : sp < 65536) : I64s (advI sp k) := by
  intro x hx
  obtain ⟨j, hj, rfl⟩ := List.mem_map.1 hx
  have := Nat.mod_lt (j * 7) (show 0 < 1000 by omega)
  split
  · omega
  · split <;> omega
theorem treeI_cells (u v : List Int) (uv : Value) : ndsCells (treeI u uv) = ndsCells (treeI v uv) := rfl

set_option maxHeartbeats 1000000 in
theorem node_lns {u : List Int} {Au : Option Addr} {cu sp : Nat} {S1 S2 : Int} {g6 gA gk gc : Nat} {W : World} (hcu : u.length ≤ cu) (hsp : sp < 65536) (hnode : nodeP (treeI u (.slice Au u.length cu)) (advI sp 300) (0 : Nat) [1] [cn0] = (⟨S1, S2, S1, S2⟩, false))
    (hN : Blk W g6 35 (ndsCells (treeI u (.slice Au u.length cu))).toArray) (hA : Blk W gA 2 (i64s (advI sp 300)).toArray) (hU : Reads W W.heap.size 1 Au u.length (u16s u)) (hu16 : U16s u) (hul : u.length ≤ 1000)
    (hk : Blk W gk 3 #[.int .i64 1]) (hc : Blk W gc 40 (cnsCells [cn0]).toArray) :
    Calls Try.prog 14 #[.agg #[.slice (some ⟨g6, 0, none⟩) 2 2, .slice (some ⟨gA, 0, none⟩) 300 300, .int .i64 0], .int .i64 0, .slice (some ⟨gk, 0, none⟩) 1 1, .slice (some ⟨gc, 0, none⟩) 1 1] W fun e w' => e = .returned (.tuple #[.agg #[.int .i64 S1, .int .i64 S2, .int .i64 S1, .int .i64 S2], .bool false]) ∧ Below W.heap.size W w' := by
  have ht : TrH W W.heap.size (some ⟨g6, 0, none⟩) (some ⟨gA, 0, none⟩) (treeI u (.slice Au u.length cu)) (advI sp 300) := by
    have hnd : Reads W W.heap.size 44 (some ⟨g6, 0, none⟩) (treeI u (.slice Au u.length cu)).length (ndsCells (treeI u (.slice Au u.length cu))) := Reads.of_blk1 hN (ndsCells_len _)
    refine ⟨hnd, Reads.of_blk1 hA (by rw [i64s, List.length_map]; omega), ?_, advI_i64 sp 300 hsp, by show 2 ≤ 65536; omega⟩
    intro x hx
    rcases treeI_sty _ _ x hx with ⟨h1, h2⟩ | ⟨h1, h2⟩
    · exact ⟨none, 0, by rw [h1, h2]; rfl, by rw [h2]; simp, by rw [h2]; exact Reads.none_, by rw [h2]; intro y hy; simp at hy, by rw [h2]; simp⟩
    · exact ⟨Au, cu, by rw [h1, h2], by rw [h2]; exact hcu, by rw [h2]; exact hU, by rw [h2]; exact hu16, by rw [h2]; omega⟩
  have h := node17_any (treeI u (.slice Au u.length cu)) (advI sp 300) [1] [cn0] (some ⟨g6, 0, none⟩) (some ⟨gA, 0, none⟩) (some ⟨gk, 0, none⟩) (some ⟨gc, 0, none⟩) 2 300 1 1 0 W 0 (by show 0 < 2; omega) ht (fun _ => styK_B 1 0) (Reads.of_blk1 hk rfl) (by
    intro k hk
    simp only [List.mem_cons, List.not_mem_nil, or_false] at hk
    subst hk
    exact ⟨by decide, by show (1 : Int) < (2 : Nat); decide⟩) (by decide) (fun _ => by show u.length + 0 ≤ 1000000; omega) (Reads.of_blk1 hc rfl) (by
    intro x hx
    simp only [List.mem_cons, List.not_mem_nil, or_false] at hx
    subst hx
    decide)
  rw [hnode] at h
  have e : (advI sp 300).length = 300 := advI_len sp 300
  rw [e] at h
  exact h
theorem blk_bel {W w' : World} {g : Nat} {t : TypeId} {cs : Array Value} (hb : Below W.heap.size W w') (h : Blk W g t cs) : Blk w' g t cs := h.below hb h.lt
theorem sz_of {B : Nat} {w w' : World} (h : Below B w w') : w.heap.size ≤ w'.heap.size := h.size
theorem own_setne {w : World} {base : Nat} {e : TypeId} {size n : Nat} {v : Value} {xs : List Value} (o : w.ownsRow base e size v n xs) {p : Addr} (h : v.ownBlock ≠ some p.block) (u : Value) : (w.setCell p u).ownsRow base e size v n xs :=
  own_kp o ((Kp.refl (fun k => k = p.block) w).setCell (.inl rfl) u) fun g hg he => h (by rw [hg, he])
/-- The tree's header stands, and all that was there. -/
structure TreS (g6 g7 gA : Nat) (w6 W : World) : Prop where
  c0 : W.cell? ⟨g7, 0, none⟩ = some (.slice (some ⟨g6, 0, none⟩) 2 2)
  c1 : W.cell? ⟨g7, 1, none⟩ = some (.slice (some ⟨gA, 0, none⟩) 300 300)
  c2 : W.cell? ⟨g7, 2, none⟩ = some (.int .i64 0)
  b : Below w6.heap.size w6 W
theorem TreS.start {g6 g7 gA : Nat} {w6 : World} (h : Blk w6 g7 38 #[.slice (some ⟨g6, 0, none⟩) 2 2, .slice (some ⟨gA, 0, none⟩) 300 300, .int .i64 0]) : TreS g6 g7 gA w6 w6.drew := ⟨h.cell 0, h.cell 1, h.cell 2, (Below.refl _ _).drew⟩
theorem TreS.al {g6 g7 gA : Nat} {w6 W : World} (h : TreS g6 g7 gA w6 W) (o : Obj) : TreS g6 g7 gA w6 (W.alloc o) :=
  ⟨(World.cell?_alloc_lt _ _ _ (World.block_lt_of_cell? W _ h.c0)).trans h.c0, (World.cell?_alloc_lt _ _ _ (World.block_lt_of_cell? W _ h.c1)).trans h.c1, (World.cell?_alloc_lt _ _ _ (World.block_lt_of_cell? W _ h.c2)).trans h.c2, h.b.alloc h.b.size _⟩
theorem TreS.bel {g6 g7 gA : Nat} {w6 W W' : World} (h : TreS g6 g7 gA w6 W) (hb : Below W.heap.size W W') : TreS g6 g7 gA w6 W' :=
  ⟨(hb.cell (World.block_lt_of_cell? W _ h.c0)).trans h.c0, (hb.cell (World.block_lt_of_cell? W _ h.c1)).trans h.c1, (hb.cell (World.block_lt_of_cell? W _ h.c2)).trans h.c2, h.b.trans (hb.mono h.b.size)⟩
theorem TreS.set {g6 g7 gA g : Nat} {w6 W : World} (h : TreS g6 g7 gA w6 W) (hg : g7 < g) (hs : w6.heap.size ≤ g) (i : Nat) (u : Value) : TreS g6 g7 gA w6 (W.setCell ⟨g, i, none⟩ u) :=
  ⟨(World.cell?_setCell_other _ _ _ _ (fun e => by injection e; omega)).trans h.c0, (World.cell?_setCell_other _ _ _ _ (fun e => by injection e; omega)).trans h.c1, (World.cell?_setCell_other _ _ _ _ (fun e => by injection e; omega)).trans h.c2, h.b.setCell (p := ⟨g, i, none⟩) hs _⟩
theorem bal2 {w w' : World} (h : Below w.heap.size w w') (o : Obj) : Below w.heap.size w (w'.alloc o) := h.alloc h.size _
theorem unitI_eq (x : Nat) : unitI x = (x : Int) % 200 + 40 := by unfold unitI; omega
theorem unit_wd (sp x : Nat) : (i64s (advI sp 300)).toArray[x % 200 + 40]? = some (.int .i64 (wdI x)) := by
  have := Nat.mod_lt x (show 0 < 200 by omega)
  rw [List.getElem?_toArray, i64s, List.getElem?_map, advI_at sp 300 _ (by omega), if_neg (by omega), if_pos ⟨by omega, by omega⟩]; rfl
section
variable (a b : List Nat) (sp : Nat) (A B : Option Addr) (c d : Nat) (w : World)
set_option maxRecDepth 100000 in
set_option maxHeartbeats 8000000 in
theorem contentLines_any (ha : ∀ x ∈ a, x < 256) (hb : ∀ x ∈ b, x < 256) (hsp : sp < 65536) (hra : Reads w w.heap.size 1 A a.length (u8s a)) (hrb : Reads w w.heap.size 1 B b.length (u8s b)) :
    Calls Try.prog 3 #[.slice A a.length c, .slice B b.length d, .int .u16 sp] w fun e w' => e = .returned (.bool true) ∧ Below w.heap.size w w' := by
  have HA := Lib.hid hra
  have HB := Lib.hid hrb
  have HAB := Lib.hid ha
  have HBB := Lib.hid hb
  clear hra hrb ha hb
  cases d1 : decide (60 < a.length)
  rotate_left
  · have d1' : decide ((60 : Int) < (a.length : Int)) = true := decide_eq_true (by have := of_decide_eq_true d1; omega)
    go_enter Try.func3, Try.ntmps3
    go_wp2_with fail
    refine (works_any _).mono ?_
    rintro e w9 ⟨rfl, hw9⟩
    have HB9 := Lib.hid hw9
    clear hw9
    go_wp2_with fail
    go_ret
    exact ⟨rfl, HB9.out⟩
  have d1' : decide ((60 : Int) < (a.length : Int)) = false := decide_eq_false (by have := of_decide_eq_false d1; omega)
  cases d2 : decide (60 < b.length)
  rotate_left
  · have d2' : decide ((60 : Int) < (b.length : Int)) = true := decide_eq_true (by have := of_decide_eq_true d2; omega)
    go_enter Try.func3, Try.ntmps3
    go_wp2_with fail
    refine (works_any _).mono ?_
    rintro e w9 ⟨rfl, hw9⟩
    have HB9 := Lib.hid hw9
    clear hw9
    go_wp2_with fail
    go_ret
    exact ⟨rfl, HB9.out⟩
  have d2' : decide ((60 : Int) < (b.length : Int)) = false := decide_eq_false (by have := of_decide_eq_false d2; omega)
  cases q1 : ((a.length : Int) == 0)
  rotate_left
  · go_enter Try.func3, Try.ntmps3
    go_wp2_with fail
    refine (works_any _).mono ?_
    rintro e w9 ⟨rfl, hw9⟩
    have HB9 := Lib.hid hw9
    clear hw9
    go_wp2_with fail
    go_ret
    exact ⟨rfl, HB9.out⟩
  cases q2 : ((b.length : Int) == 0)
  rotate_left
  · go_enter Try.func3, Try.ntmps3
    go_wp2_with fail
    refine (works_any _).mono ?_
    rintro e w9 ⟨rfl, hw9⟩
    have HB9 := Lib.hid hw9
    clear hw9
    go_wp2_with fail
    go_ret
    exact ⟨rfl, HB9.out⟩
  have HLN : Hid (a ≠ [] ∧ b ≠ [] ∧ a.length ≤ 60 ∧ b.length ≤ 60) := Lib.hid ⟨by rintro rfl; simp at q1, by rintro rfl; simp at q2, by have := of_decide_eq_false d1; omega, by have := of_decide_eq_false d2; omega⟩
  have hm3 := fun W => make_300 W
  have hz32 : (i64s zer300)[32]? = some (.int .i64 0) := by unfold zer300 i64s; rw [List.map_replicate, List.getElem?_replicate]; rfl
  have hcs : IntKind.i64.wrap (sp : Int) = sp := IntWalk.i64_in _ ⟨by omega, by omega⟩
  go_enter Try.func3, Try.ntmps3
  go_wp2_with fail
  have HW1 : Hid (Blk (w.alloc (.cells ((i64s zer300).set 32 (.int .i64 sp)).toArray 2)) w.heap.size 2 (i64s (advI sp 33)).toArray ∧ Below w.heap.size w (w.alloc (.cells ((i64s zer300).set 32 (.int .i64 sp)).toArray 2)) ∧ (w.alloc (.cells ((i64s zer300).set 32 (.int .i64 sp)).toArray 2)).heap.size = w.heap.size + 1) := Lib.hid (by
    have e : (i64s zer300).set 32 (.int .i64 sp) = i64s (advI sp 33) := by rw [← advI_zero]; simp [i64s, List.map_set]
    rw [e]
    exact ⟨Blk.new _ _ _, (Below.refl _ _).alloc (Nat.le_refl _) _, by simp⟩)
  clear hm3 hz32
  go_loopw [8] (fun iv wr => ∃ i : Nat, 33 ≤ i ∧ i ≤ 300 ∧ iv = .int .i64 i ∧ Hid (Blk wr w.heap.size 2 (i64s (advI sp i)).toArray ∧ Below w.heap.size w wr ∧ wr.heap.size = w.heap.size + 1)) (fun iv _ => 300 - (intOf iv).toNat)
  case atStart => exact ⟨33, by omega, by omega, rfl, HW1.out⟩
  case round =>
    obtain ⟨i, hi, hi2, rfl, H⟩ := hrel
    by_cases hlt : i < 300
    · have g0 : decide ((i : Int) < 300) = true := decide_eq_true (by omega)
      have g0' : decide (i < 300) = true := decide_eq_true hlt
      have hii : (i : Int) < 300 := by omega
      have hw1 : IntKind.i64.wrap ((i : Int) + 1) = (i : Int) + 1 := IntWalk.i64_in _ ⟨by omega, by omega⟩
      have hw7 : IntKind.i64.wrap ((i : Int) * 7) = (i : Int) * 7 := IntWalk.i64_in _ ⟨by omega, by omega⟩
      have hm7 : ((i : Int) * 7).tmod 1000 = ((i * 7 % 1000 : Nat) : Int) := by rw [Int.tmod_eq_emod_of_nonneg (by omega)]; omega
      have hf := H.out.1.frozen i
      have hlw := H.out.1.lt
      have hkc := H.out.1.get i (v := .int .i64 0) (by rw [List.getElem?_toArray, i64s, List.getElem?_map, advI_at sp i i hlt, if_neg (by omega), if_neg (by omega)]; rfl)
      go_wp2_with fail
      go_roundw
      case rel => exact ⟨i + 1, by omega, by omega, by go_num, Lib.hid ⟨by
        have := H.out.1.set_ i (.int .i64 ((i * 7 % 1000 : Nat) : Int))
        rw [← advI_set sp hi hlt]
        simpa [i64s, List.map_set] using this, H.out.2.1.setCell (p := ⟨w.heap.size, i, none⟩) (Nat.le_refl _) _, by have := H.out.2.2; simpa [World.setCell] using this⟩⟩
      case measure => simp [intOf]; omega
    · have g0 : decide ((i : Int) < 300) = false := decide_eq_false (by omega)
      have g0' : decide (i < 300) = false := decide_eq_false hlt
      have H3 : Hid (Blk wr w.heap.size 2 (i64s (advI sp 300)).toArray ∧ Below w.heap.size w wr ∧ wr.heap.size = w.heap.size + 1) := Lib.hid (by
        have e : i = 300 := by omega
        have h := H.out
        rw [e] at h
        exact h)
      obtain ⟨g1, hg1⟩ : ∃ g1, g1 = wr.heap.size := ⟨_, rfl⟩
      go_wp2_with fail
      obtain ⟨w2, hw2⟩ : ∃ w2, w2 = wr.alloc (.cells #[.int .i64 0, .int .i64 0] 27) := ⟨_, rfl⟩
      rw [← hg1, ← hw2]
      have HI : Hid (LnI w w2 g1 sp (.slice none 0 0) [] 0 0) := Lib.hid (by
        rw [hg1, hw2]
        exact ⟨H3.out.1.alloc _, Blk.new _ _ _, ⟨rfl, .inl ⟨rfl, rfl⟩⟩, H3.out.2.1.alloc H3.out.2.1.size _, H3.out.2.2⟩)
      clear hg1 hw2 H H3
      go_loopw [9, 11, 12] (fun v9 iv v12 wx => ∃ k : Nat, k ≤ a.length ∧ iv = .int .i64 k ∧ Hid (LnI w wx g1 sp v9 (unitsI (a.take k)) (sumI (a.take k)) 0)) (fun _ iv _ _ => a.length - (intOf iv).toNat)
      case atStart => exact ⟨0, by omega, rfl, Lib.hid (by simpa [unitsI, sumI] using HI.out)⟩
      case round =>
        obtain ⟨k, hk, rfl, HK⟩ := hrel
        by_cases hlk : k < a.length
        · have g0 : decide ((k : Int) < (a.length : Int)) = true := decide_eq_true (by omega)
          have g0' : decide (k < a.length) = true := decide_eq_true hlk
          have hkk : (k : Int) < (a.length : Int) := by omega
          have hl6 := HLN.out
          have hln : a.length ≤ 60 := by omega
          clear hl6
          have hw1 : IntKind.i64.wrap ((k : Int) + 1) = (k : Int) + 1 := IntWalk.i64_in _ ⟨by omega, by omega⟩
          obtain ⟨ad, u, hAA, hab, hu, hcu⟩ := (HA.out.below HK.out.b).at_ hlk
          subst hAA
          obtain rfl := u8s_at hlk hu
          obtain ⟨x, hx⟩ : ∃ x, x = a[k] := ⟨_, rfl⟩
          have hx2 : x < 256 := by rw [hx]; exact HAB.out _ (List.getElem_mem hlk)
          rw [← hx] at hcu
          have HX : Hid (a.take (k + 1) = a.take k ++ [x]) := Lib.hid (by rw [hx]; exact List.take_succ_eq_append_getElem hlk)
          obtain ⟨U, hU⟩ : ∃ U, U = unitsI (a.take k) := ⟨_, rfl⟩
          obtain ⟨S, hS⟩ : ∃ S, S = sumI (a.take k) := ⟨_, rfl⟩
          have hsb := sumI_bd (a.take k)
          rw [← hS] at hsb
          rw [List.length_take] at hsb
          have hwb := wdI_bd x
          rw [← hU, ← hS] at HK
          have HUS := Lib.hid (And.intro hU hS)
          have hUl : U.length + 1 ≤ 4294967296 := by have := HLN.out; rw [hU]; simp [unitsI]; omega
          have hSb : 0 ≤ S ∧ S ≤ 100000 := by have := HLN.out; omega
          clear hx hu hU hS hab hsb
          have hm := Nat.mod_lt x (show 0 < 200 by omega)
          have htn : ((x : Int) % 200 + 40).toNat = x % 200 + 40 := by omega
          have htl : (x : Int) % 200 + 40 < 300 := by omega
          have htg : 0 ≤ (x : Int) % 200 + 40 := by omega
          obtain ⟨A9, c9, h9⟩ := own_form HK.out.o
          subst h9
          have HO := HK.out.o
          have HHO := Lib.hid HO
          have hbz := HK.out.wd.lt
          have hgz := HK.out.g
          have hbs : w.heap.size + 2 ≤ wr.heap.size := by omega
          have hs5 : IntKind.i64.wrap (S + wdI x) = S + wdI x := IntWalk.i64_in _ ⟨by omega, by omega⟩
          clear HO hgz hm
          go_upto_region 16 with (at_builtin; refine wpList_appG (m := 1) rfl _ _ rfl el_u16c HHO.out hbs rfl [_] rfl rfl rfl (by simp [Value.oneCell']) hUl (by omega) ?_; intro A6 c6 w6 hown6 hB6 hg6 hob6; have HN := Lib.hid (HK.out.step (u := (x : Int) % 200 + 40) hown6 hg6 hB6); clear hown6 hB6 hg6 hob6)
          have k0 := HN.out.wd.get 0 (v := .int .i64 S) rfl
          have f0 := HN.out.wd.frozen 0
          have ku := HN.out.ad.get (x % 200 + 40) (unit_wd sp x)
          go_region
          go_wp2_with fail
          go_roundw
          case rel => exact ⟨k + 1, by omega, by go_num, Lib.hid (by
            have h := HN.out.setw 0 (S + wdI x) (S + wdI x) 0 rfl
            rw [HX.out, show unitsI (a.take k ++ [x]) = unitsI (a.take k) ++ [unitI x] by simp [unitsI], sumI_snoc, unitI_eq, ← HUS.out.1, ← HUS.out.2]
            exact h)⟩
          case measure => simp [intOf]; omega
        · have g0 : decide ((k : Int) < (a.length : Int)) = false := decide_eq_false (by omega)
          have g0' : decide (k < a.length) = false := decide_eq_false hlk
          have HE : Hid (a.take k = a) := Lib.hid (List.take_of_length_le (by omega))
          have HKK : Hid (LnI w wr g1 sp u9 (unitsI a) (sumI a) 0) := Lib.hid (by have h := HK.out; rw [HE.out] at h; exact h)
          have hUl : (unitsI a).length = a.length := by simp [unitsI]
          obtain ⟨A9, c9, h9⟩ := own_form HKK.out.o
          rw [hUl] at h9
          subst h9
          have HUl := Lib.hid hUl
          have hal := HLN.out.2.2.1
          have HRO : Hid (Reads wr wr.heap.size 1 A9 a.length (u16s (unitsI a))) := Lib.hid (by have h := HKK.out.o; rw [hUl] at h; exact Reads.of_own h)
          clear hUl
          go_wp2_with (first
            | (at_builtin; refine wpList_copyE rfl _ _ rfl el_u16c rfl (u16s (unitsI a)) rfl HRO.out (Nat.le_refl _) (u16s_onec _) (by omega) (by omega) ?_; intro A1 c1 w3 hown3 hb3; have HO3 := Lib.hid hown3; have HK3 := Lib.hid (HKK.out.kept hb3); have HD3 : Hid (∀ g, (Value.slice A9 a.length c9).ownBlock = some g → (Value.slice A1 a.length c1).ownBlock ≠ some g) := Lib.hid (fun g e e2 => by have h1 := (own_lt HKK.out.o g e).2; have h2 := (own_lt HO3.out g e2).1; omega); clear hown3 hb3)
            | (at_builtin; refine wpList_appG (m := 1) rfl _ _ rfl el_u16c HK3.out.o HK3.out.sz rfl [_] rfl rfl rfl (by simp [Value.oneCell']) (by rw [HUl.out]; omega) (by omega) ?_; intro A4 c4 w4 hown4 hB4 hg4 hob4; have HI4 := Lib.hid (HK3.out.step hown4 hg4 hB4); have HZ4 := Lib.hid (own_apc (v1' := Value.slice A4 ((unitsI a).length + 1) c4) HO3.out HD3.out hg4 hob4); clear hown4 hB4 hg4 hob4))
          obtain ⟨b1, hb1⟩ : ∃ b1, b1 = wr.heap.size := ⟨_, rfl⟩
          have HB1 : Hid (g1 < b1) := Lib.hid (by rw [hb1]; exact HKK.out.wd.lt)
          have HI3 := Lib.hid (And.intro HI4.out HZ4.out)
          rw [← hb1] at HI3
          clear hb1
          go_loopw [9, 14, 15] (fun v9 iv v12 wx => ∃ k : Nat, k ≤ b.length ∧ iv = .int .i64 k ∧ Hid (LnI w wx g1 sp v9 (unitsI a ++ [32] ++ unitsI (b.take k)) (sumI a) (sumI (b.take k)) ∧ wx.ownsRow b1 23 1 (.slice A1 a.length c1) a.length (u16s (unitsI a)) ∧ ∀ g, v9.ownBlock = some g → (Value.slice A1 a.length c1).ownBlock ≠ some g)) (fun _ iv _ _ => b.length - (intOf iv).toNat)
          case atStart => exact ⟨0, by omega, rfl, Lib.hid (by simpa [unitsI, sumI] using HI3.out)⟩
          case round =>
            obtain ⟨k, hk, rfl, HK⟩ := hrel
            by_cases hlk : k < b.length
            · have g0 : decide ((k : Int) < (b.length : Int)) = true := decide_eq_true (by omega)
              have g0' : decide (k < b.length) = true := decide_eq_true hlk
              have hkk : (k : Int) < (b.length : Int) := by omega
              have hl6 := HLN.out
              have hln : b.length ≤ 60 := by omega
              clear hl6
              have hw1 : IntKind.i64.wrap ((k : Int) + 1) = (k : Int) + 1 := IntWalk.i64_in _ ⟨by omega, by omega⟩
              obtain ⟨ad, u, hAA, hab, hu, hcu⟩ := (HB.out.below HK.out.1.b).at_ hlk
              subst hAA
              obtain rfl := u8s_at hlk hu
              obtain ⟨x, hx⟩ : ∃ x, x = b[k] := ⟨_, rfl⟩
              have hx2 : x < 256 := by rw [hx]; exact HBB.out _ (List.getElem_mem hlk)
              rw [← hx] at hcu
              have HX : Hid (b.take (k + 1) = b.take k ++ [x]) := Lib.hid (by rw [hx]; exact List.take_succ_eq_append_getElem hlk)
              obtain ⟨U, hU⟩ : ∃ U, U = unitsI a ++ [32] ++ unitsI (b.take k) := ⟨_, rfl⟩
              obtain ⟨S, hS⟩ : ∃ S, S = sumI (b.take k) := ⟨_, rfl⟩
              have hsb := sumI_bd (b.take k)
              rw [← hS] at hsb
              rw [List.length_take] at hsb
              have hwb := wdI_bd x
              rw [← hU, ← hS] at HK
              have HUS := Lib.hid (And.intro hU hS)
              have hUl : U.length + 1 ≤ 4294967296 := by have := HLN.out; rw [hU]; simp [unitsI]; omega
              have hSb : 0 ≤ S ∧ S ≤ 100000 := by have := HLN.out; omega
              clear hx hu hU hS hab hsb
              have hm := Nat.mod_lt x (show 0 < 200 by omega)
              have htn : ((x : Int) % 200 + 40).toNat = x % 200 + 40 := by omega
              have htl : (x : Int) % 200 + 40 < 300 := by omega
              have htg : 0 ≤ (x : Int) % 200 + 40 := by omega
              obtain ⟨A9, c9, h9⟩ := own_form HK.out.1.o
              subst h9
              have HO := HK.out.1.o
              have HHO := Lib.hid HO
              have hbz := HK.out.1.wd.lt
              have hgz := HK.out.1.g
              have hbs : w.heap.size + 2 ≤ wr.heap.size := by omega
              have hs5 : IntKind.i64.wrap (S + wdI x) = S + wdI x := IntWalk.i64_in _ ⟨by omega, by omega⟩
              clear HO hgz hm
              go_upto_region 24 with (at_builtin; refine wpList_appG (m := 1) rfl _ _ rfl el_u16c HHO.out hbs rfl [_] rfl rfl rfl (by simp [Value.oneCell']) hUl (by omega) ?_; intro A6 c6 w6 hown6 hB6 hg6 hob6; have HN := Lib.hid (HK.out.1.step (u := (x : Int) % 200 + 40) hown6 hg6 hB6); have HZ := Lib.hid (own_apc (v1' := Value.slice A6 (U.length + 1) c6) HK.out.2.1 HK.out.2.2 hg6 hob6); clear hown6 hB6 hg6 hob6)
              have k0 := HN.out.wd.get 1 (v := .int .i64 S) rfl
              have f0 := HN.out.wd.frozen 1
              have ku := HN.out.ad.get (x % 200 + 40) (unit_wd sp x)
              go_region
              go_wp2_with fail
              go_roundw
              case rel => exact ⟨k + 1, by omega, by go_num, Lib.hid (by
                have h := HN.out.setw 1 (S + wdI x) (sumI a) (S + wdI x) rfl
                rw [HX.out, show unitsI (b.take k ++ [x]) = unitsI (b.take k) ++ [unitI x] by simp [unitsI], sumI_snoc, unitI_eq, ← List.append_assoc, ← HUS.out.1, ← HUS.out.2]
                exact ⟨h, ownsRow_setCell_below HZ.out.1 (a := ⟨g1, 1, none⟩) HB1.out _, HZ.out.2⟩)⟩
              case measure => simp [intOf]; omega
            · have g0 : decide ((k : Int) < (b.length : Int)) = false := decide_eq_false (by omega)
              have g0' : decide (k < b.length) = false := decide_eq_false hlk
              have HE : Hid (b.take k = b) := Lib.hid (List.take_of_length_le (by omega))
              have HIF : Hid (LnI w wr g1 sp u9 (unitsI a ++ [32] ++ unitsI b) (sumI a) (sumI b) ∧ wr.ownsRow b1 23 1 (.slice A1 a.length c1) a.length (u16s (unitsI a))) := Lib.hid (by have h := HK.out; rw [HE.out] at h; exact ⟨h.1, h.2.1⟩)
              have HND : Hid ((ndCells ⟨-1, styK 1 0⟩).toArray.all (·.oneCell') = true) := Lib.hid (Nd.one _ (A := none) (n := 0) (c := 0) rfl)
              go_upto_region 25 with (fail)
              refine wp_region_lit ?_
              refine wpList_build rfl 33 #[(0, .const (.int .u8 1))] rfl (.agg (styCells (styK 1 0)).toArray) (by kernel_rfl) ?_
              try simp only [Act.put, List.setIfInBounds_toArray, List.set_cons_zero, List.set_cons_succ, List.getElem_toArray, List.getElem_cons_zero, List.getElem_cons_succ]
              refine wpList_build rfl 35 #[(0, .const (.int .i64 (-1))), (1, .tmp 112)] rfl (.agg (ndCells ⟨-1, styK 1 0⟩).toArray) (by kernel_rfl) ?_
              try simp only [Act.put, List.setIfInBounds_toArray, List.set_cons_zero, List.set_cons_succ, List.getElem_toArray, List.getElem_cons_zero, List.getElem_cons_succ]
              go_upto_region 26 with (refine wpList_store_new rfl 35 _ _ rfl wr.heap.size rfl (ndCells ⟨-1, styK 1 0⟩).toArray rfl rfl 35 _ (by kernel_rfl) rfl HND.out ?_)
              obtain ⟨w5, hw5⟩ : ∃ w5, w5 = wr.alloc (.cells (ndCells ⟨-1, styK 1 0⟩).toArray 35) := ⟨_, rfl⟩
              have HB5 : Hid (Blk w5 wr.heap.size 35 (ndCells ⟨-1, styK 1 0⟩).toArray ∧ Below wr.heap.size wr w5) := Lib.hid (by rw [hw5]; exact ⟨Blk.new _ _ _, (Below.refl _ _).alloc (Nat.le_refl _) _⟩)
              rw [← hw5]
              obtain ⟨g5, hg5⟩ : ∃ g5, g5 = wr.heap.size := ⟨_, rfl⟩
              rw [← hg5] at HB5
              rw [← hg5]
              have HRG := Lib.hid (nd_rng HB5.out.1)
              have HG5 := Lib.hid hg5
              clear hw5 hg5
              go_upto_region 27 with (first
                | refine wpList_load_mid rfl 35 (.tmp 16) rfl g5 0 rfl (ndCells ⟨-1, styK 1 0⟩) _ HRG.out Try.underlying35 rfl (by kernel_rfl) ?_
                | refine wpList_build rfl 33 #[(0, .const (.int .u8 3)), (22, .tmp 116)] rfl (.agg (styCells (styT (unitsI a) (.slice A1 a.length c1))).toArray) (by kernel_rfl) ?_
                | refine wpList_build rfl 35 #[(1, .tmp 117)] rfl (.agg (ndCells ⟨0, styT (unitsI a) (.slice A1 a.length c1)⟩).toArray) (by kernel_rfl) ?_
                | refine wpList_rows rfl 36 2 #[(0, .tmp 115), (1, .tmp 118)] rfl (.slice (some ⟨w5.heap.size, 0, none⟩) 2 2) (w5.alloc (.cells (ndsCells (treeI (unitsI a) (.slice A1 a.length c1))).toArray 35)) (by kernel_rfl) ?_)
              obtain ⟨w6, hw6⟩ : ∃ w6, w6 = (w5.alloc (.cells (ndsCells (treeI (unitsI a) (.slice A1 a.length c1))).toArray 35)).alloc (.cells #[.slice (some ⟨w5.heap.size, 0, none⟩) 2 2, .slice (some ⟨w.heap.size, 0, none⟩) 300 300, .int .i64 0] 38) := ⟨_, rfl⟩
              rw [← hw6]
              have hz6 : w6.heap.size = w5.heap.size + 1 + 1 := by rw [hw6]; simp
              obtain ⟨g6, hg6⟩ : ∃ g6, g6 = w5.heap.size := ⟨_, rfl⟩
              obtain ⟨g7, hg7⟩ : ∃ g7, g7 = w5.heap.size + 1 := ⟨_, rfl⟩
              rw [← hg7]
              have HB6 : Hid (Blk w6 g6 35 (ndsCells (treeI (unitsI a) (.slice A1 a.length c1))).toArray ∧ Blk w6 g7 38 #[.slice (some ⟨g6, 0, none⟩) 2 2, .slice (some ⟨w.heap.size, 0, none⟩) 300 300, .int .i64 0] ∧ Below wr.heap.size wr w6) := Lib.hid (by
                rw [hw6, hg7, hg6]
                refine ⟨(Blk.new _ _ _).alloc _, Blk.at_ _ _ _ (by simp), ?_⟩
                have hb5 : Below wr.heap.size wr w5 := by rw [← HG5.out]; exact HB5.out.2
                exact (hb5.alloc hb5.size _).alloc (Nat.le_trans hb5.size (by simp)) _)
              have HI6 := Lib.hid (HIF.out.1.kept HB6.out.2.2)
              have HO6 := Lib.hid (own_below HIF.out.2 HB6.out.2.2)
              have hul : (unitsI a).length = a.length := by simp [unitsI]
              have hu16 : ∀ l : List Nat, U16s (unitsI l) := fun l x hx => by
                obtain ⟨y, _, rfl⟩ := List.mem_map.1 hx
                rw [unitI_eq]; omega
              have HNO : Hid (∀ (W : World) (gk gc : Nat), Below w6.heap.size w6 W → Blk W gk 3 #[.int .i64 1] → Blk W gc 40 (cnsCells [cn0]).toArray →
                  Calls Try.prog 14 #[.agg #[.slice (some ⟨g6, 0, none⟩) 2 2, .slice (some ⟨w.heap.size, 0, none⟩) 300 300, .int .i64 0], .int .i64 0, .slice (some ⟨gk, 0, none⟩) 1 1, .slice (some ⟨gc, 0, none⟩) 1 1] W fun e w' => e = .returned (.tuple #[.agg #[.int .i64 (sumI a), .int .i64 (sumI a), .int .i64 (sumI a), .int .i64 (sumI a)], .bool false]) ∧ Below W.heap.size W w') := Lib.hid (fun W gk gc hb hk hc => by
                have hn := node_one sp a (.slice A1 (unitsI a).length c1) [cn0] HLN.out.1 HLN.out.2.2.1
                refine node_lns (u := unitsI a) (Au := A1) (cu := c1) ?_ hsp hn ?_ (HI6.out.ad.below hb HI6.out.ad.lt) ?_ (hu16 a) (by rw [hul]; have := HLN.out; omega) hk hc
                · rw [hul]; exact own_cap HO6.out
                · rw [hul]; exact HB6.out.1.below hb HB6.out.1.lt
                · rw [hul]; exact (Reads.of_own (own_below HO6.out hb)))
              have hmc : ∀ W : World, (Instr.makeSlice 44 (.int .i64 1) (.int .i64 1)).run Try.prog W = .ok (.slice (some ⟨W.heap.size, 0, none⟩) 1 1) (W.alloc (.cells (cnsCells [cn0]).toArray 40)) := fun W => make_cns 1 (by omega) W
              have ht6 := HB6.out.2.1.c3
              have hlt7 := HB6.out.2.1.lt
              have HG6 : Hid (w.heap.size ≤ g6) := Lib.hid (by rw [hg6]; have h1 := HIF.out.1.b.size; have h2 := HB5.out.2.size; have h3 := HG5.out; omega)
              clear hw6 hz6 hg6 hg7 hul hu16
              go_cut [18, 19] (fun sx sy wx => ∃ g, sx = .pointer (some ⟨g, 0, none⟩) ∧ sy = .bool false ∧ Hid (Blk wx g 40 #[.int .i64 (sumI a), .int .i64 (sumI a), .int .i64 (sumI a), .int .i64 (sumI a)] ∧ Below w6.heap.size w6 wx))
              case first => as_aux_lemma =>
                have E0 := TreS.start HB6.out.2.1
                have E1 := HB6.out.2.1.lt
                refine wp_region_held_drew (S := TreS g6 g7 w.heap.size w6) (by kernel_rfl) E0 (fun hS => ?_)
                refine wpAnyH_take (i := 0) (v := ?_) rfl (by kernel_rfl) (by kernel_rfl) (by kernel_rfl) (fun _ _ _ h => h) (Or.inl ⟨by rfl, ?_⟩) hS ?_
                rotate_left
                · rintro W' ⟨c0', c1', c2', hb'⟩
                  go_simp
                  rfl
                try simp only [Act.put, List.setIfInBounds_toArray, List.set_cons_zero, List.set_cons_succ, List.getElem_toArray, List.getElem_cons_zero, List.getElem_cons_succ]
                refine wpAnyH_ready (rs := [1, 2, 7]) (by kernel_rfl) (by simp) (AllReadyH.cons rfl (fun K hK => ?_) (AllReadyH.cons rfl (fun K hK => ?_) (AllReadyH.cons rfl (fun K hK => ?_) AllReadyH.nil)))
                · go_simp
                  refine hK.out _ _ (hS.al _) (fun hS => ?_)
                  try simp only [Act.put, List.setIfInBounds_toArray, List.set_cons_zero, List.set_cons_succ, List.getElem_toArray, List.getElem_cons_zero, List.getElem_cons_succ]
                  clear hK
                  refine wpAnyH_ready (rs := [2, 7]) (by kernel_rfl) (by simp) (AllReadyH.cons rfl (fun K hK => ?_) (AllReadyH.cons rfl (fun K hK => ?_) AllReadyH.nil))
                  · go_simp
                    refine hK.out _ _ (hS.al _) (fun hS => ?_)
                    try simp only [Act.put, List.setIfInBounds_toArray, List.set_cons_zero, List.set_cons_succ, List.getElem_toArray, List.getElem_cons_zero, List.getElem_cons_succ]
                    clear hK
                    refine wpAnyH_ready (rs := [3, 7]) (by kernel_rfl) (by simp) (AllReadyH.cons rfl (fun K hK => ?_) (AllReadyH.cons rfl (fun K hK => ?_) AllReadyH.nil))
                    · go_simp
                      refine (HNO.out _ _ _ hS.b (by repeat (with_reducible first | exact Blk.new _ _ _ | (refine Blk.at_ _ _ _ ?_; simp; done) | apply Blk.drew | apply Blk.alloc)) (by repeat (with_reducible first | exact Blk.new _ _ _ | (refine Blk.at_ _ _ _ ?_; simp; done) | apply Blk.drew | apply Blk.alloc))).mono ?_
                      rintro e w9 ⟨rfl, hb9⟩
                      refine hK.out _ _ (hS.bel hb9) (fun hS => ?_)
                      try simp only [Act.put, List.setIfInBounds_toArray, List.set_cons_zero, List.set_cons_succ, List.getElem_toArray, List.getElem_cons_zero, List.getElem_cons_succ]
                      clear hK hb9
                      refine wpAnyH_take (i := 4) (v := ?_) rfl (by kernel_rfl) (by kernel_rfl) (by kernel_rfl) (fun _ _ _ h => h) (Or.inl ⟨by rfl, ?_⟩) hS ?_
                      rotate_left
                      · rintro W' ⟨c0', c1', c2', hb'⟩
                        go_simp
                        rfl
                      try simp only [Act.put, List.setIfInBounds_toArray, List.set_cons_zero, List.set_cons_succ, List.getElem_toArray, List.getElem_cons_zero, List.getElem_cons_succ]
                      refine wpAnyH_take (i := 5) (v := ?_) rfl (by kernel_rfl) (by kernel_rfl) (by kernel_rfl) (fun _ _ _ h => h) (Or.inl ⟨by rfl, ?_⟩) hS ?_
                      rotate_left
                      · rintro W' ⟨c0', c1', c2', hb'⟩
                        go_simp
                        rfl
                      try simp only [Act.put, List.setIfInBounds_toArray, List.set_cons_zero, List.set_cons_succ, List.getElem_toArray, List.getElem_cons_zero, List.getElem_cons_succ]
                      refine wpAnyH_take (i := 6) (v := ?_) rfl (by kernel_rfl) (by kernel_rfl) (by kernel_rfl) (fun _ _ _ h => h) (Or.inl ⟨by rfl, ?_⟩) hS ?_
                      rotate_left
                      · rintro W' ⟨c0', c1', c2', hb'⟩
                        go_simp
                        rfl
                      try simp only [Act.put, List.setIfInBounds_toArray, List.set_cons_zero, List.set_cons_succ, List.getElem_toArray, List.getElem_cons_zero, List.getElem_cons_succ]
                      refine wpAnyH_ready (rs := [7]) (by kernel_rfl) (by simp) (AllReadyH.cons rfl (fun K hK => ?_) AllReadyH.nil)
                      · go_simp
                        have hSA := hS
                        refine hK.out _ _ (hS.al _) (fun hS => ?_)
                        try simp only [Act.put, List.setIfInBounds_toArray, List.set_cons_zero, List.set_cons_succ, List.getElem_toArray, List.getElem_cons_zero, List.getElem_cons_succ]
                        clear hK
                        as_aux_lemma =>
                          refine wpAnyH_ready (rs := [8]) (by kernel_rfl) (by simp) (AllReadyH.cons rfl (fun K hK => ?_) AllReadyH.nil)
                          go_simp
                          refine hK.out _ _ (hSA.al _) (fun hS => ?_)
                          try simp only [Act.put, List.setIfInBounds_toArray, List.set_cons_zero, List.set_cons_succ, List.getElem_toArray, List.getElem_cons_zero, List.getElem_cons_succ]
                          clear hK
                          refine wpAnyH_take (i := 9) (v := ?_) rfl (by kernel_rfl) (by kernel_rfl) (by kernel_rfl) (fun _ _ _ h => h) (Or.inl ⟨by rfl, ?_⟩) hS ?_
                          rotate_left
                          · rintro W' ⟨c0', c1', c2', hb'⟩
                            go_simp
                            rfl
                          try simp only [Act.put, List.setIfInBounds_toArray, List.set_cons_zero, List.set_cons_succ, List.getElem_toArray, List.getElem_cons_zero, List.getElem_cons_succ]
                          refine wpAnyH_done (by kernel_rfl) ?_ _
                          go_wp2_with fail
                          go_meet
                          exact ⟨_, rfl, rfl, Lib.hid ⟨Blk.at_ _ _ _ rfl, hS.b⟩⟩
                    · go_simp
                      have hSA := hS
                      refine hK.out _ _ (hS.al _) (fun hS => ?_)
                      try simp only [Act.put, List.setIfInBounds_toArray, List.set_cons_zero, List.set_cons_succ, List.getElem_toArray, List.getElem_cons_zero, List.getElem_cons_succ]
                      clear hK
                      refine wpAnyH_ready (rs := [3]) (by kernel_rfl) (by simp) (AllReadyH.cons rfl (fun K hK => ?_) AllReadyH.nil)
                      · go_simp
                        refine (HNO.out _ _ _ hS.b (by repeat (with_reducible first | exact Blk.new _ _ _ | (refine Blk.at_ _ _ _ ?_; simp; done) | apply Blk.drew | apply Blk.alloc)) (by repeat (with_reducible first | exact Blk.new _ _ _ | (refine Blk.at_ _ _ _ ?_; simp; done) | apply Blk.drew | apply Blk.alloc))).mono ?_
                        rintro e w9 ⟨rfl, hb9⟩
                        have zc : Blk w9 (w6.heap.size + 1 + 1) 40 #[.int .i64 0, .int .i64 0, .int .i64 0, .int .i64 0] := blk_bel hb9 (by repeat (with_reducible first | exact Blk.new _ _ _ | (refine Blk.at_ _ _ _ ?_; simp; done) | apply Blk.drew | apply Blk.alloc))
                        have zc4 := zc.c4
                        have zf0 := zc.frozen 0
                        have zf1 := zc.frozen 1
                        have zf2 := zc.frozen 2
                        have zf3 := zc.frozen 3
                        have hz0 : g7 < w6.heap.size + 1 + 1 := by have := E1; omega
                        have hz1 : w6.heap.size ≤ w6.heap.size + 1 + 1 := by omega
                        refine hK.out _ _ (hS.bel hb9) (fun hS => ?_)
                        try simp only [Act.put, List.setIfInBounds_toArray, List.set_cons_zero, List.set_cons_succ, List.getElem_toArray, List.getElem_cons_zero, List.getElem_cons_succ]
                        clear hK hb9
                        refine wpAnyH_take (i := 4) (v := ?_) rfl (by kernel_rfl) (by kernel_rfl) (by kernel_rfl) (fun _ _ _ h => h) (Or.inl ⟨by rfl, ?_⟩) hS ?_
                        rotate_left
                        · rintro W' ⟨c0', c1', c2', hb'⟩
                          go_simp
                          rfl
                        try simp only [Act.put, List.setIfInBounds_toArray, List.set_cons_zero, List.set_cons_succ, List.getElem_toArray, List.getElem_cons_zero, List.getElem_cons_succ]
                        refine wpAnyH_take (i := 5) (v := ?_) rfl (by kernel_rfl) (by kernel_rfl) (by kernel_rfl) (fun _ _ _ h => h) (Or.inl ⟨by rfl, ?_⟩) hS ?_
                        rotate_left
                        · rintro W' ⟨c0', c1', c2', hb'⟩
                          go_simp
                          rfl
                        try simp only [Act.put, List.setIfInBounds_toArray, List.set_cons_zero, List.set_cons_succ, List.getElem_toArray, List.getElem_cons_zero, List.getElem_cons_succ]
                        refine wpAnyH_take (i := 6) (v := ?_) rfl (by kernel_rfl) (by kernel_rfl) (by kernel_rfl) (fun _ _ _ h => h) (Or.inl ⟨by rfl, ?_⟩) hS ?_
                        rotate_left
                        · rintro W' ⟨c0', c1', c2', hb'⟩
                          go_simp
                          rfl
                        try simp only [Act.put, List.setIfInBounds_toArray, List.set_cons_zero, List.set_cons_succ, List.getElem_toArray, List.getElem_cons_zero, List.getElem_cons_succ]
                        as_aux_lemma =>
                          refine wpAnyH_ready (rs := [8]) (by kernel_rfl) (by simp) (AllReadyH.cons rfl (fun K hK => ?_) AllReadyH.nil)
                          go_simp
                          refine hK.out _ _ ((((hS.set hz0 hz1 0 _).set hz0 hz1 1 _).set hz0 hz1 2 _).set hz0 hz1 3 _) (fun hS => ?_)
                          try simp only [Act.put, List.setIfInBounds_toArray, List.set_cons_zero, List.set_cons_succ, List.getElem_toArray, List.getElem_cons_zero, List.getElem_cons_succ]
                          clear hK
                          refine wpAnyH_take (i := 9) (v := ?_) rfl (by kernel_rfl) (by kernel_rfl) (by kernel_rfl) (fun _ _ _ h => h) (Or.inl ⟨by rfl, ?_⟩) hS ?_
                          rotate_left
                          · rintro W' ⟨c0', c1', c2', hb'⟩
                            go_simp
                            rfl
                          try simp only [Act.put, List.setIfInBounds_toArray, List.set_cons_zero, List.set_cons_succ, List.getElem_toArray, List.getElem_cons_zero, List.getElem_cons_succ]
                          refine wpAnyH_done (by kernel_rfl) ?_ _
                          go_wp2_with fail
                          go_meet
                          exact ⟨_, rfl, rfl, Lib.hid ⟨(((zc.set_ 0 (.int .i64 (sumI a))).set_ 1 (.int .i64 (sumI a))).set_ 2 (.int .i64 (sumI a))).set_ 3 (.int .i64 (sumI a)), hS.b⟩⟩
                  · go_simp
                    have hSA := hS
                    refine hK.out _ _ (hS.al _) (fun hS => ?_)
                    try simp only [Act.put, List.setIfInBounds_toArray, List.set_cons_zero, List.set_cons_succ, List.getElem_toArray, List.getElem_cons_zero, List.getElem_cons_succ]
                    clear hK
                    refine wpAnyH_ready (rs := [2]) (by kernel_rfl) (by simp) (AllReadyH.cons rfl (fun K hK => ?_) AllReadyH.nil)
                    · go_simp
                      refine hK.out _ _ (hS.al _) (fun hS => ?_)
                      try simp only [Act.put, List.setIfInBounds_toArray, List.set_cons_zero, List.set_cons_succ, List.getElem_toArray, List.getElem_cons_zero, List.getElem_cons_succ]
                      clear hK
                      refine wpAnyH_ready (rs := [3]) (by kernel_rfl) (by simp) (AllReadyH.cons rfl (fun K hK => ?_) AllReadyH.nil)
                      · go_simp
                        refine (HNO.out _ _ _ hS.b (by repeat (with_reducible first | exact Blk.new _ _ _ | (refine Blk.at_ _ _ _ ?_; simp; done) | apply Blk.drew | apply Blk.alloc)) (by repeat (with_reducible first | exact Blk.new _ _ _ | (refine Blk.at_ _ _ _ ?_; simp; done) | apply Blk.drew | apply Blk.alloc))).mono ?_
                        rintro e w9 ⟨rfl, hb9⟩
                        have zc : Blk w9 (w6.heap.size + 1) 40 #[.int .i64 0, .int .i64 0, .int .i64 0, .int .i64 0] := blk_bel hb9 (by repeat (with_reducible first | exact Blk.new _ _ _ | (refine Blk.at_ _ _ _ ?_; simp; done) | apply Blk.drew | apply Blk.alloc))
                        have zc4 := zc.c4
                        have zf0 := zc.frozen 0
                        have zf1 := zc.frozen 1
                        have zf2 := zc.frozen 2
                        have zf3 := zc.frozen 3
                        have hz0 : g7 < w6.heap.size + 1 := by have := E1; omega
                        have hz1 : w6.heap.size ≤ w6.heap.size + 1 := by omega
                        refine hK.out _ _ (hS.bel hb9) (fun hS => ?_)
                        try simp only [Act.put, List.setIfInBounds_toArray, List.set_cons_zero, List.set_cons_succ, List.getElem_toArray, List.getElem_cons_zero, List.getElem_cons_succ]
                        clear hK hb9
                        refine wpAnyH_take (i := 4) (v := ?_) rfl (by kernel_rfl) (by kernel_rfl) (by kernel_rfl) (fun _ _ _ h => h) (Or.inl ⟨by rfl, ?_⟩) hS ?_
                        rotate_left
                        · rintro W' ⟨c0', c1', c2', hb'⟩
                          go_simp
                          rfl
                        try simp only [Act.put, List.setIfInBounds_toArray, List.set_cons_zero, List.set_cons_succ, List.getElem_toArray, List.getElem_cons_zero, List.getElem_cons_succ]
                        refine wpAnyH_take (i := 5) (v := ?_) rfl (by kernel_rfl) (by kernel_rfl) (by kernel_rfl) (fun _ _ _ h => h) (Or.inl ⟨by rfl, ?_⟩) hS ?_
                        rotate_left
                        · rintro W' ⟨c0', c1', c2', hb'⟩
                          go_simp
                          rfl
                        try simp only [Act.put, List.setIfInBounds_toArray, List.set_cons_zero, List.set_cons_succ, List.getElem_toArray, List.getElem_cons_zero, List.getElem_cons_succ]
                        refine wpAnyH_take (i := 6) (v := ?_) rfl (by kernel_rfl) (by kernel_rfl) (by kernel_rfl) (fun _ _ _ h => h) (Or.inl ⟨by rfl, ?_⟩) hS ?_
                        rotate_left
                        · rintro W' ⟨c0', c1', c2', hb'⟩
                          go_simp
                          rfl
                        try simp only [Act.put, List.setIfInBounds_toArray, List.set_cons_zero, List.set_cons_succ, List.getElem_toArray, List.getElem_cons_zero, List.getElem_cons_succ]
                        as_aux_lemma =>
                          refine wpAnyH_ready (rs := [8]) (by kernel_rfl) (by simp) (AllReadyH.cons rfl (fun K hK => ?_) AllReadyH.nil)
                          go_simp
                          refine hK.out _ _ ((((hS.set hz0 hz1 0 _).set hz0 hz1 1 _).set hz0 hz1 2 _).set hz0 hz1 3 _) (fun hS => ?_)
                          try simp only [Act.put, List.setIfInBounds_toArray, List.set_cons_zero, List.set_cons_succ, List.getElem_toArray, List.getElem_cons_zero, List.getElem_cons_succ]
                          clear hK
                          refine wpAnyH_take (i := 9) (v := ?_) rfl (by kernel_rfl) (by kernel_rfl) (by kernel_rfl) (fun _ _ _ h => h) (Or.inl ⟨by rfl, ?_⟩) hS ?_
                          rotate_left
                          · rintro W' ⟨c0', c1', c2', hb'⟩
                            go_simp
                            rfl
                          try simp only [Act.put, List.setIfInBounds_toArray, List.set_cons_zero, List.set_cons_succ, List.getElem_toArray, List.getElem_cons_zero, List.getElem_cons_succ]
                          refine wpAnyH_done (by kernel_rfl) ?_ _
                          go_wp2_with fail
                          go_meet
                          exact ⟨_, rfl, rfl, Lib.hid ⟨(((zc.set_ 0 (.int .i64 (sumI a))).set_ 1 (.int .i64 (sumI a))).set_ 2 (.int .i64 (sumI a))).set_ 3 (.int .i64 (sumI a)), hS.b⟩⟩
                · go_simp
                  refine hK.out _ _ (hS.al _) (fun hS => ?_)
                  try simp only [Act.put, List.setIfInBounds_toArray, List.set_cons_zero, List.set_cons_succ, List.getElem_toArray, List.getElem_cons_zero, List.getElem_cons_succ]
                  clear hK
                  refine wpAnyH_ready (rs := [1, 7]) (by kernel_rfl) (by simp) (AllReadyH.cons rfl (fun K hK => ?_) (AllReadyH.cons rfl (fun K hK => ?_) AllReadyH.nil))
                  · go_simp
                    refine hK.out _ _ (hS.al _) (fun hS => ?_)
                    try simp only [Act.put, List.setIfInBounds_toArray, List.set_cons_zero, List.set_cons_succ, List.getElem_toArray, List.getElem_cons_zero, List.getElem_cons_succ]
                    clear hK
                    refine wpAnyH_ready (rs := [3, 7]) (by kernel_rfl) (by simp) (AllReadyH.cons rfl (fun K hK => ?_) (AllReadyH.cons rfl (fun K hK => ?_) AllReadyH.nil))
                    · go_simp
                      refine (HNO.out _ _ _ hS.b (by repeat (with_reducible first | exact Blk.new _ _ _ | (refine Blk.at_ _ _ _ ?_; simp; done) | apply Blk.drew | apply Blk.alloc)) (by repeat (with_reducible first | exact Blk.new _ _ _ | (refine Blk.at_ _ _ _ ?_; simp; done) | apply Blk.drew | apply Blk.alloc))).mono ?_
                      rintro e w9 ⟨rfl, hb9⟩
                      refine hK.out _ _ (hS.bel hb9) (fun hS => ?_)
                      try simp only [Act.put, List.setIfInBounds_toArray, List.set_cons_zero, List.set_cons_succ, List.getElem_toArray, List.getElem_cons_zero, List.getElem_cons_succ]
                      clear hK hb9
                      refine wpAnyH_take (i := 4) (v := ?_) rfl (by kernel_rfl) (by kernel_rfl) (by kernel_rfl) (fun _ _ _ h => h) (Or.inl ⟨by rfl, ?_⟩) hS ?_
                      rotate_left
                      · rintro W' ⟨c0', c1', c2', hb'⟩
                        go_simp
                        rfl
                      try simp only [Act.put, List.setIfInBounds_toArray, List.set_cons_zero, List.set_cons_succ, List.getElem_toArray, List.getElem_cons_zero, List.getElem_cons_succ]
                      refine wpAnyH_take (i := 5) (v := ?_) rfl (by kernel_rfl) (by kernel_rfl) (by kernel_rfl) (fun _ _ _ h => h) (Or.inl ⟨by rfl, ?_⟩) hS ?_
                      rotate_left
                      · rintro W' ⟨c0', c1', c2', hb'⟩
                        go_simp
                        rfl
                      try simp only [Act.put, List.setIfInBounds_toArray, List.set_cons_zero, List.set_cons_succ, List.getElem_toArray, List.getElem_cons_zero, List.getElem_cons_succ]
                      refine wpAnyH_take (i := 6) (v := ?_) rfl (by kernel_rfl) (by kernel_rfl) (by kernel_rfl) (fun _ _ _ h => h) (Or.inl ⟨by rfl, ?_⟩) hS ?_
                      rotate_left
                      · rintro W' ⟨c0', c1', c2', hb'⟩
                        go_simp
                        rfl
                      try simp only [Act.put, List.setIfInBounds_toArray, List.set_cons_zero, List.set_cons_succ, List.getElem_toArray, List.getElem_cons_zero, List.getElem_cons_succ]
                      refine wpAnyH_ready (rs := [7]) (by kernel_rfl) (by simp) (AllReadyH.cons rfl (fun K hK => ?_) AllReadyH.nil)
                      · go_simp
                        have hSA := hS
                        refine hK.out _ _ (hS.al _) (fun hS => ?_)
                        try simp only [Act.put, List.setIfInBounds_toArray, List.set_cons_zero, List.set_cons_succ, List.getElem_toArray, List.getElem_cons_zero, List.getElem_cons_succ]
                        clear hK
                        as_aux_lemma =>
                          refine wpAnyH_ready (rs := [8]) (by kernel_rfl) (by simp) (AllReadyH.cons rfl (fun K hK => ?_) AllReadyH.nil)
                          go_simp
                          refine hK.out _ _ (hSA.al _) (fun hS => ?_)
                          try simp only [Act.put, List.setIfInBounds_toArray, List.set_cons_zero, List.set_cons_succ, List.getElem_toArray, List.getElem_cons_zero, List.getElem_cons_succ]
                          clear hK
                          refine wpAnyH_take (i := 9) (v := ?_) rfl (by kernel_rfl) (by kernel_rfl) (by kernel_rfl) (fun _ _ _ h => h) (Or.inl ⟨by rfl, ?_⟩) hS ?_
                          rotate_left
                          · rintro W' ⟨c0', c1', c2', hb'⟩
                            go_simp
                            rfl
                          try simp only [Act.put, List.setIfInBounds_toArray, List.set_cons_zero, List.set_cons_succ, List.getElem_toArray, List.getElem_cons_zero, List.getElem_cons_succ]
                          refine wpAnyH_done (by kernel_rfl) ?_ _
                          go_wp2_with fail
                          go_meet
                          exact ⟨_, rfl, rfl, Lib.hid ⟨Blk.at_ _ _ _ rfl, hS.b⟩⟩
                    · go_simp
                      have hSA := hS
                      refine hK.out _ _ (hS.al _) (fun hS => ?_)
                      try simp only [Act.put, List.setIfInBounds_toArray, List.set_cons_zero, List.set_cons_succ, List.getElem_toArray, List.getElem_cons_zero, List.getElem_cons_succ]
                      clear hK
                      refine wpAnyH_ready (rs := [3]) (by kernel_rfl) (by simp) (AllReadyH.cons rfl (fun K hK => ?_) AllReadyH.nil)
                      · go_simp
                        refine (HNO.out _ _ _ hS.b (by repeat (with_reducible first | exact Blk.new _ _ _ | (refine Blk.at_ _ _ _ ?_; simp; done) | apply Blk.drew | apply Blk.alloc)) (by repeat (with_reducible first | exact Blk.new _ _ _ | (refine Blk.at_ _ _ _ ?_; simp; done) | apply Blk.drew | apply Blk.alloc))).mono ?_
                        rintro e w9 ⟨rfl, hb9⟩
                        have zc : Blk w9 (w6.heap.size + 1 + 1) 40 #[.int .i64 0, .int .i64 0, .int .i64 0, .int .i64 0] := blk_bel hb9 (by repeat (with_reducible first | exact Blk.new _ _ _ | (refine Blk.at_ _ _ _ ?_; simp; done) | apply Blk.drew | apply Blk.alloc))
                        have zc4 := zc.c4
                        have zf0 := zc.frozen 0
                        have zf1 := zc.frozen 1
                        have zf2 := zc.frozen 2
                        have zf3 := zc.frozen 3
                        have hz0 : g7 < w6.heap.size + 1 + 1 := by have := E1; omega
                        have hz1 : w6.heap.size ≤ w6.heap.size + 1 + 1 := by omega
                        refine hK.out _ _ (hS.bel hb9) (fun hS => ?_)
                        try simp only [Act.put, List.setIfInBounds_toArray, List.set_cons_zero, List.set_cons_succ, List.getElem_toArray, List.getElem_cons_zero, List.getElem_cons_succ]
                        clear hK hb9
                        refine wpAnyH_take (i := 4) (v := ?_) rfl (by kernel_rfl) (by kernel_rfl) (by kernel_rfl) (fun _ _ _ h => h) (Or.inl ⟨by rfl, ?_⟩) hS ?_
                        rotate_left
                        · rintro W' ⟨c0', c1', c2', hb'⟩
                          go_simp
                          rfl
                        try simp only [Act.put, List.setIfInBounds_toArray, List.set_cons_zero, List.set_cons_succ, List.getElem_toArray, List.getElem_cons_zero, List.getElem_cons_succ]
                        refine wpAnyH_take (i := 5) (v := ?_) rfl (by kernel_rfl) (by kernel_rfl) (by kernel_rfl) (fun _ _ _ h => h) (Or.inl ⟨by rfl, ?_⟩) hS ?_
                        rotate_left
                        · rintro W' ⟨c0', c1', c2', hb'⟩
                          go_simp
                          rfl
                        try simp only [Act.put, List.setIfInBounds_toArray, List.set_cons_zero, List.set_cons_succ, List.getElem_toArray, List.getElem_cons_zero, List.getElem_cons_succ]
                        refine wpAnyH_take (i := 6) (v := ?_) rfl (by kernel_rfl) (by kernel_rfl) (by kernel_rfl) (fun _ _ _ h => h) (Or.inl ⟨by rfl, ?_⟩) hS ?_
                        rotate_left
                        · rintro W' ⟨c0', c1', c2', hb'⟩
                          go_simp
                          rfl
                        try simp only [Act.put, List.setIfInBounds_toArray, List.set_cons_zero, List.set_cons_succ, List.getElem_toArray, List.getElem_cons_zero, List.getElem_cons_succ]
                        as_aux_lemma =>
                          refine wpAnyH_ready (rs := [8]) (by kernel_rfl) (by simp) (AllReadyH.cons rfl (fun K hK => ?_) AllReadyH.nil)
                          go_simp
                          refine hK.out _ _ ((((hS.set hz0 hz1 0 _).set hz0 hz1 1 _).set hz0 hz1 2 _).set hz0 hz1 3 _) (fun hS => ?_)
                          try simp only [Act.put, List.setIfInBounds_toArray, List.set_cons_zero, List.set_cons_succ, List.getElem_toArray, List.getElem_cons_zero, List.getElem_cons_succ]
                          clear hK
                          refine wpAnyH_take (i := 9) (v := ?_) rfl (by kernel_rfl) (by kernel_rfl) (by kernel_rfl) (fun _ _ _ h => h) (Or.inl ⟨by rfl, ?_⟩) hS ?_
                          rotate_left
                          · rintro W' ⟨c0', c1', c2', hb'⟩
                            go_simp
                            rfl
                          try simp only [Act.put, List.setIfInBounds_toArray, List.set_cons_zero, List.set_cons_succ, List.getElem_toArray, List.getElem_cons_zero, List.getElem_cons_succ]
                          refine wpAnyH_done (by kernel_rfl) ?_ _
                          go_wp2_with fail
                          go_meet
                          exact ⟨_, rfl, rfl, Lib.hid ⟨(((zc.set_ 0 (.int .i64 (sumI a))).set_ 1 (.int .i64 (sumI a))).set_ 2 (.int .i64 (sumI a))).set_ 3 (.int .i64 (sumI a)), hS.b⟩⟩
                  · go_simp
                    have hSA := hS
                    refine hK.out _ _ (hS.al _) (fun hS => ?_)
                    try simp only [Act.put, List.setIfInBounds_toArray, List.set_cons_zero, List.set_cons_succ, List.getElem_toArray, List.getElem_cons_zero, List.getElem_cons_succ]
                    clear hK
                    refine wpAnyH_ready (rs := [1]) (by kernel_rfl) (by simp) (AllReadyH.cons rfl (fun K hK => ?_) AllReadyH.nil)
                    · go_simp
                      refine hK.out _ _ (hS.al _) (fun hS => ?_)
                      try simp only [Act.put, List.setIfInBounds_toArray, List.set_cons_zero, List.set_cons_succ, List.getElem_toArray, List.getElem_cons_zero, List.getElem_cons_succ]
                      clear hK
                      refine wpAnyH_ready (rs := [3]) (by kernel_rfl) (by simp) (AllReadyH.cons rfl (fun K hK => ?_) AllReadyH.nil)
                      · go_simp
                        refine (HNO.out _ _ _ hS.b (by repeat (with_reducible first | exact Blk.new _ _ _ | (refine Blk.at_ _ _ _ ?_; simp; done) | apply Blk.drew | apply Blk.alloc)) (by repeat (with_reducible first | exact Blk.new _ _ _ | (refine Blk.at_ _ _ _ ?_; simp; done) | apply Blk.drew | apply Blk.alloc))).mono ?_
                        rintro e w9 ⟨rfl, hb9⟩
                        have zc : Blk w9 (w6.heap.size + 1) 40 #[.int .i64 0, .int .i64 0, .int .i64 0, .int .i64 0] := blk_bel hb9 (by repeat (with_reducible first | exact Blk.new _ _ _ | (refine Blk.at_ _ _ _ ?_; simp; done) | apply Blk.drew | apply Blk.alloc))
                        have zc4 := zc.c4
                        have zf0 := zc.frozen 0
                        have zf1 := zc.frozen 1
                        have zf2 := zc.frozen 2
                        have zf3 := zc.frozen 3
                        have hz0 : g7 < w6.heap.size + 1 := by have := E1; omega
                        have hz1 : w6.heap.size ≤ w6.heap.size + 1 := by omega
                        refine hK.out _ _ (hS.bel hb9) (fun hS => ?_)
                        try simp only [Act.put, List.setIfInBounds_toArray, List.set_cons_zero, List.set_cons_succ, List.getElem_toArray, List.getElem_cons_zero, List.getElem_cons_succ]
                        clear hK hb9
                        refine wpAnyH_take (i := 4) (v := ?_) rfl (by kernel_rfl) (by kernel_rfl) (by kernel_rfl) (fun _ _ _ h => h) (Or.inl ⟨by rfl, ?_⟩) hS ?_
                        rotate_left
                        · rintro W' ⟨c0', c1', c2', hb'⟩
                          go_simp
                          rfl
                        try simp only [Act.put, List.setIfInBounds_toArray, List.set_cons_zero, List.set_cons_succ, List.getElem_toArray, List.getElem_cons_zero, List.getElem_cons_succ]
                        refine wpAnyH_take (i := 5) (v := ?_) rfl (by kernel_rfl) (by kernel_rfl) (by kernel_rfl) (fun _ _ _ h => h) (Or.inl ⟨by rfl, ?_⟩) hS ?_
                        rotate_left
                        · rintro W' ⟨c0', c1', c2', hb'⟩
                          go_simp
                          rfl
                        try simp only [Act.put, List.setIfInBounds_toArray, List.set_cons_zero, List.set_cons_succ, List.getElem_toArray, List.getElem_cons_zero, List.getElem_cons_succ]
                        refine wpAnyH_take (i := 6) (v := ?_) rfl (by kernel_rfl) (by kernel_rfl) (by kernel_rfl) (fun _ _ _ h => h) (Or.inl ⟨by rfl, ?_⟩) hS ?_
                        rotate_left
                        · rintro W' ⟨c0', c1', c2', hb'⟩
                          go_simp
                          rfl
                        try simp only [Act.put, List.setIfInBounds_toArray, List.set_cons_zero, List.set_cons_succ, List.getElem_toArray, List.getElem_cons_zero, List.getElem_cons_succ]
                        as_aux_lemma =>
                          refine wpAnyH_ready (rs := [8]) (by kernel_rfl) (by simp) (AllReadyH.cons rfl (fun K hK => ?_) AllReadyH.nil)
                          go_simp
                          refine hK.out _ _ ((((hS.set hz0 hz1 0 _).set hz0 hz1 1 _).set hz0 hz1 2 _).set hz0 hz1 3 _) (fun hS => ?_)
                          try simp only [Act.put, List.setIfInBounds_toArray, List.set_cons_zero, List.set_cons_succ, List.getElem_toArray, List.getElem_cons_zero, List.getElem_cons_succ]
                          clear hK
                          refine wpAnyH_take (i := 9) (v := ?_) rfl (by kernel_rfl) (by kernel_rfl) (by kernel_rfl) (fun _ _ _ h => h) (Or.inl ⟨by rfl, ?_⟩) hS ?_
                          rotate_left
                          · rintro W' ⟨c0', c1', c2', hb'⟩
                            go_simp
                            rfl
                          try simp only [Act.put, List.setIfInBounds_toArray, List.set_cons_zero, List.set_cons_succ, List.getElem_toArray, List.getElem_cons_zero, List.getElem_cons_succ]
                          refine wpAnyH_done (by kernel_rfl) ?_ _
                          go_wp2_with fail
                          go_meet
                          exact ⟨_, rfl, rfl, Lib.hid ⟨(((zc.set_ 0 (.int .i64 (sumI a))).set_ 1 (.int .i64 (sumI a))).set_ 2 (.int .i64 (sumI a))).set_ 3 (.int .i64 (sumI a)), hS.b⟩⟩
                · go_simp
                  have hSA := hS
                  refine hK.out _ _ (hS.al _) (fun hS => ?_)
                  try simp only [Act.put, List.setIfInBounds_toArray, List.set_cons_zero, List.set_cons_succ, List.getElem_toArray, List.getElem_cons_zero, List.getElem_cons_succ]
                  clear hK
                  refine wpAnyH_ready (rs := [1, 2]) (by kernel_rfl) (by simp) (AllReadyH.cons rfl (fun K hK => ?_) (AllReadyH.cons rfl (fun K hK => ?_) AllReadyH.nil))
                  · go_simp
                    refine hK.out _ _ (hS.al _) (fun hS => ?_)
                    try simp only [Act.put, List.setIfInBounds_toArray, List.set_cons_zero, List.set_cons_succ, List.getElem_toArray, List.getElem_cons_zero, List.getElem_cons_succ]
                    clear hK
                    refine wpAnyH_ready (rs := [2]) (by kernel_rfl) (by simp) (AllReadyH.cons rfl (fun K hK => ?_) AllReadyH.nil)
                    · go_simp
                      refine hK.out _ _ (hS.al _) (fun hS => ?_)
                      try simp only [Act.put, List.setIfInBounds_toArray, List.set_cons_zero, List.set_cons_succ, List.getElem_toArray, List.getElem_cons_zero, List.getElem_cons_succ]
                      clear hK
                      refine wpAnyH_ready (rs := [3]) (by kernel_rfl) (by simp) (AllReadyH.cons rfl (fun K hK => ?_) AllReadyH.nil)
                      · go_simp
                        refine (HNO.out _ _ _ hS.b (by repeat (with_reducible first | exact Blk.new _ _ _ | (refine Blk.at_ _ _ _ ?_; simp; done) | apply Blk.drew | apply Blk.alloc)) (by repeat (with_reducible first | exact Blk.new _ _ _ | (refine Blk.at_ _ _ _ ?_; simp; done) | apply Blk.drew | apply Blk.alloc))).mono ?_
                        rintro e w9 ⟨rfl, hb9⟩
                        have zc : Blk w9 (w6.heap.size) 40 #[.int .i64 0, .int .i64 0, .int .i64 0, .int .i64 0] := blk_bel hb9 (by repeat (with_reducible first | exact Blk.new _ _ _ | (refine Blk.at_ _ _ _ ?_; simp; done) | apply Blk.drew | apply Blk.alloc))
                        have zc4 := zc.c4
                        have zf0 := zc.frozen 0
                        have zf1 := zc.frozen 1
                        have zf2 := zc.frozen 2
                        have zf3 := zc.frozen 3
                        have hz0 : g7 < w6.heap.size := by have := E1; omega
                        have hz1 : w6.heap.size ≤ w6.heap.size := by omega
                        refine hK.out _ _ (hS.bel hb9) (fun hS => ?_)
                        try simp only [Act.put, List.setIfInBounds_toArray, List.set_cons_zero, List.set_cons_succ, List.getElem_toArray, List.getElem_cons_zero, List.getElem_cons_succ]
                        clear hK hb9
                        refine wpAnyH_take (i := 4) (v := ?_) rfl (by kernel_rfl) (by kernel_rfl) (by kernel_rfl) (fun _ _ _ h => h) (Or.inl ⟨by rfl, ?_⟩) hS ?_
                        rotate_left
                        · rintro W' ⟨c0', c1', c2', hb'⟩
                          go_simp
                          rfl
                        try simp only [Act.put, List.setIfInBounds_toArray, List.set_cons_zero, List.set_cons_succ, List.getElem_toArray, List.getElem_cons_zero, List.getElem_cons_succ]
                        refine wpAnyH_take (i := 5) (v := ?_) rfl (by kernel_rfl) (by kernel_rfl) (by kernel_rfl) (fun _ _ _ h => h) (Or.inl ⟨by rfl, ?_⟩) hS ?_
                        rotate_left
                        · rintro W' ⟨c0', c1', c2', hb'⟩
                          go_simp
                          rfl
                        try simp only [Act.put, List.setIfInBounds_toArray, List.set_cons_zero, List.set_cons_succ, List.getElem_toArray, List.getElem_cons_zero, List.getElem_cons_succ]
                        refine wpAnyH_take (i := 6) (v := ?_) rfl (by kernel_rfl) (by kernel_rfl) (by kernel_rfl) (fun _ _ _ h => h) (Or.inl ⟨by rfl, ?_⟩) hS ?_
                        rotate_left
                        · rintro W' ⟨c0', c1', c2', hb'⟩
                          go_simp
                          rfl
                        try simp only [Act.put, List.setIfInBounds_toArray, List.set_cons_zero, List.set_cons_succ, List.getElem_toArray, List.getElem_cons_zero, List.getElem_cons_succ]
                        as_aux_lemma =>
                          refine wpAnyH_ready (rs := [8]) (by kernel_rfl) (by simp) (AllReadyH.cons rfl (fun K hK => ?_) AllReadyH.nil)
                          go_simp
                          refine hK.out _ _ ((((hS.set hz0 hz1 0 _).set hz0 hz1 1 _).set hz0 hz1 2 _).set hz0 hz1 3 _) (fun hS => ?_)
                          try simp only [Act.put, List.setIfInBounds_toArray, List.set_cons_zero, List.set_cons_succ, List.getElem_toArray, List.getElem_cons_zero, List.getElem_cons_succ]
                          clear hK
                          refine wpAnyH_take (i := 9) (v := ?_) rfl (by kernel_rfl) (by kernel_rfl) (by kernel_rfl) (fun _ _ _ h => h) (Or.inl ⟨by rfl, ?_⟩) hS ?_
                          rotate_left
                          · rintro W' ⟨c0', c1', c2', hb'⟩
                            go_simp
                            rfl
                          try simp only [Act.put, List.setIfInBounds_toArray, List.set_cons_zero, List.set_cons_succ, List.getElem_toArray, List.getElem_cons_zero, List.getElem_cons_succ]
                          refine wpAnyH_done (by kernel_rfl) ?_ _
                          go_wp2_with fail
                          go_meet
                          exact ⟨_, rfl, rfl, Lib.hid ⟨(((zc.set_ 0 (.int .i64 (sumI a))).set_ 1 (.int .i64 (sumI a))).set_ 2 (.int .i64 (sumI a))).set_ 3 (.int .i64 (sumI a)), hS.b⟩⟩
                  · go_simp
                    refine hK.out _ _ (hS.al _) (fun hS => ?_)
                    try simp only [Act.put, List.setIfInBounds_toArray, List.set_cons_zero, List.set_cons_succ, List.getElem_toArray, List.getElem_cons_zero, List.getElem_cons_succ]
                    clear hK
                    refine wpAnyH_ready (rs := [1]) (by kernel_rfl) (by simp) (AllReadyH.cons rfl (fun K hK => ?_) AllReadyH.nil)
                    · go_simp
                      refine hK.out _ _ (hS.al _) (fun hS => ?_)
                      try simp only [Act.put, List.setIfInBounds_toArray, List.set_cons_zero, List.set_cons_succ, List.getElem_toArray, List.getElem_cons_zero, List.getElem_cons_succ]
                      clear hK
                      refine wpAnyH_ready (rs := [3]) (by kernel_rfl) (by simp) (AllReadyH.cons rfl (fun K hK => ?_) AllReadyH.nil)
                      · go_simp
                        refine (HNO.out _ _ _ hS.b (by repeat (with_reducible first | exact Blk.new _ _ _ | (refine Blk.at_ _ _ _ ?_; simp; done) | apply Blk.drew | apply Blk.alloc)) (by repeat (with_reducible first | exact Blk.new _ _ _ | (refine Blk.at_ _ _ _ ?_; simp; done) | apply Blk.drew | apply Blk.alloc))).mono ?_
                        rintro e w9 ⟨rfl, hb9⟩
                        have zc : Blk w9 (w6.heap.size) 40 #[.int .i64 0, .int .i64 0, .int .i64 0, .int .i64 0] := blk_bel hb9 (by repeat (with_reducible first | exact Blk.new _ _ _ | (refine Blk.at_ _ _ _ ?_; simp; done) | apply Blk.drew | apply Blk.alloc))
                        have zc4 := zc.c4
                        have zf0 := zc.frozen 0
                        have zf1 := zc.frozen 1
                        have zf2 := zc.frozen 2
                        have zf3 := zc.frozen 3
                        have hz0 : g7 < w6.heap.size := by have := E1; omega
                        have hz1 : w6.heap.size ≤ w6.heap.size := by omega
                        refine hK.out _ _ (hS.bel hb9) (fun hS => ?_)
                        try simp only [Act.put, List.setIfInBounds_toArray, List.set_cons_zero, List.set_cons_succ, List.getElem_toArray, List.getElem_cons_zero, List.getElem_cons_succ]
                        clear hK hb9
                        refine wpAnyH_take (i := 4) (v := ?_) rfl (by kernel_rfl) (by kernel_rfl) (by kernel_rfl) (fun _ _ _ h => h) (Or.inl ⟨by rfl, ?_⟩) hS ?_
                        rotate_left
                        · rintro W' ⟨c0', c1', c2', hb'⟩
                          go_simp
                          rfl
                        try simp only [Act.put, List.setIfInBounds_toArray, List.set_cons_zero, List.set_cons_succ, List.getElem_toArray, List.getElem_cons_zero, List.getElem_cons_succ]
                        refine wpAnyH_take (i := 5) (v := ?_) rfl (by kernel_rfl) (by kernel_rfl) (by kernel_rfl) (fun _ _ _ h => h) (Or.inl ⟨by rfl, ?_⟩) hS ?_
                        rotate_left
                        · rintro W' ⟨c0', c1', c2', hb'⟩
                          go_simp
                          rfl
                        try simp only [Act.put, List.setIfInBounds_toArray, List.set_cons_zero, List.set_cons_succ, List.getElem_toArray, List.getElem_cons_zero, List.getElem_cons_succ]
                        refine wpAnyH_take (i := 6) (v := ?_) rfl (by kernel_rfl) (by kernel_rfl) (by kernel_rfl) (fun _ _ _ h => h) (Or.inl ⟨by rfl, ?_⟩) hS ?_
                        rotate_left
                        · rintro W' ⟨c0', c1', c2', hb'⟩
                          go_simp
                          rfl
                        try simp only [Act.put, List.setIfInBounds_toArray, List.set_cons_zero, List.set_cons_succ, List.getElem_toArray, List.getElem_cons_zero, List.getElem_cons_succ]
                        as_aux_lemma =>
                          refine wpAnyH_ready (rs := [8]) (by kernel_rfl) (by simp) (AllReadyH.cons rfl (fun K hK => ?_) AllReadyH.nil)
                          go_simp
                          refine hK.out _ _ ((((hS.set hz0 hz1 0 _).set hz0 hz1 1 _).set hz0 hz1 2 _).set hz0 hz1 3 _) (fun hS => ?_)
                          try simp only [Act.put, List.setIfInBounds_toArray, List.set_cons_zero, List.set_cons_succ, List.getElem_toArray, List.getElem_cons_zero, List.getElem_cons_succ]
                          clear hK
                          refine wpAnyH_take (i := 9) (v := ?_) rfl (by kernel_rfl) (by kernel_rfl) (by kernel_rfl) (fun _ _ _ h => h) (Or.inl ⟨by rfl, ?_⟩) hS ?_
                          rotate_left
                          · rintro W' ⟨c0', c1', c2', hb'⟩
                            go_simp
                            rfl
                          try simp only [Act.put, List.setIfInBounds_toArray, List.set_cons_zero, List.set_cons_succ, List.getElem_toArray, List.getElem_cons_zero, List.getElem_cons_succ]
                          refine wpAnyH_done (by kernel_rfl) ?_ _
                          go_wp2_with fail
                          go_meet
                          exact ⟨_, rfl, rfl, Lib.hid ⟨(((zc.set_ 0 (.int .i64 (sumI a))).set_ 1 (.int .i64 (sumI a))).set_ 2 (.int .i64 (sumI a))).set_ 3 (.int .i64 (sumI a)), hS.b⟩⟩
              case rest => as_aux_lemma =>
                obtain ⟨gc, rfl, rfl, HC⟩ := hcut
                have hT := HB6.out.2.1.below HC.out.2 HB6.out.2.1.lt
                have hTc := hT.c3
                have hTl := hT.lt
                have hN := HB6.out.1.below HC.out.2 HB6.out.1.lt
                have kc := hN.get 87 (v := .slice A1 a.length c1) (by rfl)
                have kf := hN.frozen 87
                have HIc := Lib.hid (HI6.out.kept HC.out.2)
                obtain ⟨A9, c9, h9⟩ := own_form HIc.out.o
                obtain ⟨n9, hn9⟩ : ∃ n9, n9 = (unitsI a ++ [32] ++ unitsI b).length := ⟨_, rfl⟩
                rw [← hn9] at h9
                subst h9
                have HN9 := Lib.hid hn9
                clear hn9
                have HN := Lib.hid hN
                have HT := Lib.hid hT
                have hU9 : (unitsI a ++ [32] ++ unitsI b).length = a.length + 1 + b.length := by simp [unitsI]; omega
                clear hT hN ht6 hlt7
                go_upto_region 29 with (fail)
                obtain ⟨wy, hwy⟩ : ∃ wy, wy = wc.setCell ⟨g6, 87, none⟩ (.slice A9 n9 c9) := ⟨_, rfl⟩
                rw [← hwy]
                have HY : Hid (Blk wy g6 35 (ndsCells (treeI (unitsI a ++ 32 :: unitsI b) (.slice A9 (unitsI a ++ 32 :: unitsI b).length c9))).toArray ∧ Blk wy g7 38 #[.slice (some ⟨g6, 0, none⟩) 2 2, .slice (some ⟨w.heap.size, 0, none⟩) 300 300, .int .i64 0] ∧ Blk wy w.heap.size 2 (i64s (advI sp 300)).toArray ∧ wy.ownsRow (w.heap.size + 2) 23 1 (.slice A9 (unitsI a ++ 32 :: unitsI b).length c9) (unitsI a ++ 32 :: unitsI b).length (u16s (unitsI a ++ 32 :: unitsI b)) ∧
                    Blk wy g1 27 #[.int .i64 (sumI a), .int .i64 (sumI b)] ∧ Blk wy gc 40 #[.int .i64 (sumI a), .int .i64 (sumI a), .int .i64 (sumI a), .int .i64 (sumI a)] ∧ Below w.heap.size w wy) := Lib.hid (by
                  have eU : unitsI a ++ [32] ++ unitsI b = unitsI a ++ 32 :: unitsI b := by simp
                  have hn9 := HN9.out
                  rw [← eU, hwy, ← hn9]
                  have HIo := HIc.out.o
                  rw [← hn9] at HIo
                  refine ⟨HN.out.set_ 87 _, HT.out.far (Blk.ne_ HT.out HN.out (by decide)) _, HIc.out.ad.far (Blk.ne_ HIc.out.ad HN.out (by decide)) _, own_setne HIo (p := ⟨g6, 87, none⟩) (own_blk_ne HIo HN.out (by decide)) _, HIc.out.wd.far (Blk.ne_ HIc.out.wd HN.out (by decide)) _, HC.out.1.far (Blk.ne_ HC.out.1 HN.out (by decide)) _, HIc.out.b.setCell (p := ⟨g6, 87, none⟩) ?_ _⟩
                  have := HB6.out.1.lt
                  have h6 := HG6.out
                  show w.heap.size ≤ g6
                  omega)
                have hy := HY.out.2.1.c3
                have hyl := HY.out.2.1.lt
                have hm1 := HLN.out
                have hu16 : U16s (unitsI a ++ 32 :: unitsI b) := fun x hx => by
                  rcases List.mem_append.1 hx with h | h
                  · obtain ⟨y, _, rfl⟩ := List.mem_map.1 h
                    rw [unitI_eq]; omega
                  · rcases List.mem_cons.1 h with h | h
                    · omega
                    · obtain ⟨y, _, rfl⟩ := List.mem_map.1 h
                      rw [unitI_eq]; omega
                obtain ⟨M, hM⟩ : ∃ M, M = max (sumI a) (sumI b) := ⟨_, rfl⟩
                obtain ⟨S2, hS2⟩ : ∃ S2, S2 = sumI a + sp + sumI b := ⟨_, rfl⟩
                have HNP : Hid (∀ (W : World) (gk gc : Nat), Below wy.heap.size wy W → Blk W gk 3 #[.int .i64 1] → Blk W gc 40 (cnsCells [cn0]).toArray →
                    Calls Try.prog 14 #[.agg #[.slice (some ⟨g6, 0, none⟩) 2 2, .slice (some ⟨w.heap.size, 0, none⟩) 300 300, .int .i64 0], .int .i64 0, .slice (some ⟨gk, 0, none⟩) 1 1, .slice (some ⟨gc, 0, none⟩) 1 1] W fun e w' => e = .returned (.tuple #[.agg #[.int .i64 M, .int .i64 S2, .int .i64 M, .int .i64 S2], .bool false]) ∧ Below W.heap.size W w') := Lib.hid (fun W gk gc hb hk hc => by
                  have hn := node_two2 sp hsp a b (.slice A9 (unitsI a ++ 32 :: unitsI b).length c9) [cn0] hm1.1 hm1.2.1 hm1.2.2.1 hm1.2.2.2
                  rw [hM, hS2]
                  exact node_lns (u := unitsI a ++ 32 :: unitsI b) (Au := A9) (cu := c9) (own_cap HY.out.2.2.2.1) hsp hn (HY.out.1.below hb HY.out.1.lt) (HY.out.2.2.1.below hb HY.out.2.2.1.lt) (Reads.of_own (own_below HY.out.2.2.2.1 hb)) hu16 (by rw [List.length_append, List.length_cons]; simp [unitsI]; omega) hk hc)
                have HMS := Lib.hid (And.intro hM hS2)
                clear hM hS2 hwy hu16 hTc hTl kc kf hU9 hm1
                go_cut [20, 21] (fun sx sy wx => ∃ g, sx = .pointer (some ⟨g, 0, none⟩) ∧ sy = .bool false ∧ Hid (Blk wx g 40 #[.int .i64 M, .int .i64 S2, .int .i64 M, .int .i64 S2] ∧ Below wy.heap.size wy wx))
                case first => as_aux_lemma =>
                  have E0 := TreS.start HY.out.2.1
                  have E1 := HY.out.2.1.lt
                  refine wp_region_held_drew (S := TreS g6 g7 w.heap.size wy) (by kernel_rfl) E0 (fun hS => ?_)
                  refine wpAnyH_take (i := 0) (v := ?_) rfl (by kernel_rfl) (by kernel_rfl) (by kernel_rfl) (fun _ _ _ h => h) (Or.inl ⟨by rfl, ?_⟩) hS ?_
                  rotate_left
                  · rintro W' ⟨c0', c1', c2', hb'⟩
                    go_simp
                    rfl
                  try simp only [Act.put, List.setIfInBounds_toArray, List.set_cons_zero, List.set_cons_succ, List.getElem_toArray, List.getElem_cons_zero, List.getElem_cons_succ]
                  refine wpAnyH_ready (rs := [1, 2, 7]) (by kernel_rfl) (by simp) (AllReadyH.cons rfl (fun K hK => ?_) (AllReadyH.cons rfl (fun K hK => ?_) (AllReadyH.cons rfl (fun K hK => ?_) AllReadyH.nil)))
                  · go_simp
                    refine hK.out _ _ (hS.al _) (fun hS => ?_)
                    try simp only [Act.put, List.setIfInBounds_toArray, List.set_cons_zero, List.set_cons_succ, List.getElem_toArray, List.getElem_cons_zero, List.getElem_cons_succ]
                    clear hK
                    refine wpAnyH_ready (rs := [2, 7]) (by kernel_rfl) (by simp) (AllReadyH.cons rfl (fun K hK => ?_) (AllReadyH.cons rfl (fun K hK => ?_) AllReadyH.nil))
                    · go_simp
                      refine hK.out _ _ (hS.al _) (fun hS => ?_)
                      try simp only [Act.put, List.setIfInBounds_toArray, List.set_cons_zero, List.set_cons_succ, List.getElem_toArray, List.getElem_cons_zero, List.getElem_cons_succ]
                      clear hK
                      refine wpAnyH_ready (rs := [3, 7]) (by kernel_rfl) (by simp) (AllReadyH.cons rfl (fun K hK => ?_) (AllReadyH.cons rfl (fun K hK => ?_) AllReadyH.nil))
                      · go_simp
                        refine (HNP.out _ _ _ hS.b (by repeat (with_reducible first | exact Blk.new _ _ _ | (refine Blk.at_ _ _ _ ?_; simp; done) | apply Blk.drew | apply Blk.alloc)) (by repeat (with_reducible first | exact Blk.new _ _ _ | (refine Blk.at_ _ _ _ ?_; simp; done) | apply Blk.drew | apply Blk.alloc))).mono ?_
                        rintro e w9 ⟨rfl, hb9⟩
                        refine hK.out _ _ (hS.bel hb9) (fun hS => ?_)
                        try simp only [Act.put, List.setIfInBounds_toArray, List.set_cons_zero, List.set_cons_succ, List.getElem_toArray, List.getElem_cons_zero, List.getElem_cons_succ]
                        clear hK hb9
                        refine wpAnyH_take (i := 4) (v := ?_) rfl (by kernel_rfl) (by kernel_rfl) (by kernel_rfl) (fun _ _ _ h => h) (Or.inl ⟨by rfl, ?_⟩) hS ?_
                        rotate_left
                        · rintro W' ⟨c0', c1', c2', hb'⟩
                          go_simp
                          rfl
                        try simp only [Act.put, List.setIfInBounds_toArray, List.set_cons_zero, List.set_cons_succ, List.getElem_toArray, List.getElem_cons_zero, List.getElem_cons_succ]
                        refine wpAnyH_take (i := 5) (v := ?_) rfl (by kernel_rfl) (by kernel_rfl) (by kernel_rfl) (fun _ _ _ h => h) (Or.inl ⟨by rfl, ?_⟩) hS ?_
                        rotate_left
                        · rintro W' ⟨c0', c1', c2', hb'⟩
                          go_simp
                          rfl
                        try simp only [Act.put, List.setIfInBounds_toArray, List.set_cons_zero, List.set_cons_succ, List.getElem_toArray, List.getElem_cons_zero, List.getElem_cons_succ]
                        refine wpAnyH_take (i := 6) (v := ?_) rfl (by kernel_rfl) (by kernel_rfl) (by kernel_rfl) (fun _ _ _ h => h) (Or.inl ⟨by rfl, ?_⟩) hS ?_
                        rotate_left
                        · rintro W' ⟨c0', c1', c2', hb'⟩
                          go_simp
                          rfl
                        try simp only [Act.put, List.setIfInBounds_toArray, List.set_cons_zero, List.set_cons_succ, List.getElem_toArray, List.getElem_cons_zero, List.getElem_cons_succ]
                        refine wpAnyH_ready (rs := [7]) (by kernel_rfl) (by simp) (AllReadyH.cons rfl (fun K hK => ?_) AllReadyH.nil)
                        · go_simp
                          have hSA := hS
                          refine hK.out _ _ (hS.al _) (fun hS => ?_)
                          try simp only [Act.put, List.setIfInBounds_toArray, List.set_cons_zero, List.set_cons_succ, List.getElem_toArray, List.getElem_cons_zero, List.getElem_cons_succ]
                          clear hK
                          as_aux_lemma =>
                            refine wpAnyH_ready (rs := [8]) (by kernel_rfl) (by simp) (AllReadyH.cons rfl (fun K hK => ?_) AllReadyH.nil)
                            go_simp
                            refine hK.out _ _ (hSA.al _) (fun hS => ?_)
                            try simp only [Act.put, List.setIfInBounds_toArray, List.set_cons_zero, List.set_cons_succ, List.getElem_toArray, List.getElem_cons_zero, List.getElem_cons_succ]
                            clear hK
                            refine wpAnyH_take (i := 9) (v := ?_) rfl (by kernel_rfl) (by kernel_rfl) (by kernel_rfl) (fun _ _ _ h => h) (Or.inl ⟨by rfl, ?_⟩) hS ?_
                            rotate_left
                            · rintro W' ⟨c0', c1', c2', hb'⟩
                              go_simp
                              rfl
                            try simp only [Act.put, List.setIfInBounds_toArray, List.set_cons_zero, List.set_cons_succ, List.getElem_toArray, List.getElem_cons_zero, List.getElem_cons_succ]
                            refine wpAnyH_done (by kernel_rfl) ?_ _
                            go_wp2_with fail
                            go_meet
                            exact ⟨_, rfl, rfl, Lib.hid ⟨Blk.at_ _ _ _ rfl, hS.b⟩⟩
                      · go_simp
                        have hSA := hS
                        refine hK.out _ _ (hS.al _) (fun hS => ?_)
                        try simp only [Act.put, List.setIfInBounds_toArray, List.set_cons_zero, List.set_cons_succ, List.getElem_toArray, List.getElem_cons_zero, List.getElem_cons_succ]
                        clear hK
                        refine wpAnyH_ready (rs := [3]) (by kernel_rfl) (by simp) (AllReadyH.cons rfl (fun K hK => ?_) AllReadyH.nil)
                        · go_simp
                          refine (HNP.out _ _ _ hS.b (by repeat (with_reducible first | exact Blk.new _ _ _ | (refine Blk.at_ _ _ _ ?_; simp; done) | apply Blk.drew | apply Blk.alloc)) (by repeat (with_reducible first | exact Blk.new _ _ _ | (refine Blk.at_ _ _ _ ?_; simp; done) | apply Blk.drew | apply Blk.alloc))).mono ?_
                          rintro e w9 ⟨rfl, hb9⟩
                          have zc : Blk w9 (wy.heap.size + 1 + 1) 40 #[.int .i64 0, .int .i64 0, .int .i64 0, .int .i64 0] := blk_bel hb9 (by repeat (with_reducible first | exact Blk.new _ _ _ | (refine Blk.at_ _ _ _ ?_; simp; done) | apply Blk.drew | apply Blk.alloc))
                          have zc4 := zc.c4
                          have zf0 := zc.frozen 0
                          have zf1 := zc.frozen 1
                          have zf2 := zc.frozen 2
                          have zf3 := zc.frozen 3
                          have hz0 : g7 < wy.heap.size + 1 + 1 := by have := E1; omega
                          have hz1 : wy.heap.size ≤ wy.heap.size + 1 + 1 := by omega
                          refine hK.out _ _ (hS.bel hb9) (fun hS => ?_)
                          try simp only [Act.put, List.setIfInBounds_toArray, List.set_cons_zero, List.set_cons_succ, List.getElem_toArray, List.getElem_cons_zero, List.getElem_cons_succ]
                          clear hK hb9
                          refine wpAnyH_take (i := 4) (v := ?_) rfl (by kernel_rfl) (by kernel_rfl) (by kernel_rfl) (fun _ _ _ h => h) (Or.inl ⟨by rfl, ?_⟩) hS ?_
                          rotate_left
                          · rintro W' ⟨c0', c1', c2', hb'⟩
                            go_simp
                            rfl
                          try simp only [Act.put, List.setIfInBounds_toArray, List.set_cons_zero, List.set_cons_succ, List.getElem_toArray, List.getElem_cons_zero, List.getElem_cons_succ]
                          refine wpAnyH_take (i := 5) (v := ?_) rfl (by kernel_rfl) (by kernel_rfl) (by kernel_rfl) (fun _ _ _ h => h) (Or.inl ⟨by rfl, ?_⟩) hS ?_
                          rotate_left
                          · rintro W' ⟨c0', c1', c2', hb'⟩
                            go_simp
                            rfl
                          try simp only [Act.put, List.setIfInBounds_toArray, List.set_cons_zero, List.set_cons_succ, List.getElem_toArray, List.getElem_cons_zero, List.getElem_cons_succ]
                          refine wpAnyH_take (i := 6) (v := ?_) rfl (by kernel_rfl) (by kernel_rfl) (by kernel_rfl) (fun _ _ _ h => h) (Or.inl ⟨by rfl, ?_⟩) hS ?_
                          rotate_left
                          · rintro W' ⟨c0', c1', c2', hb'⟩
                            go_simp
                            rfl
                          try simp only [Act.put, List.setIfInBounds_toArray, List.set_cons_zero, List.set_cons_succ, List.getElem_toArray, List.getElem_cons_zero, List.getElem_cons_succ]
                          as_aux_lemma =>
                            refine wpAnyH_ready (rs := [8]) (by kernel_rfl) (by simp) (AllReadyH.cons rfl (fun K hK => ?_) AllReadyH.nil)
                            go_simp
                            refine hK.out _ _ ((((hS.set hz0 hz1 0 _).set hz0 hz1 1 _).set hz0 hz1 2 _).set hz0 hz1 3 _) (fun hS => ?_)
                            try simp only [Act.put, List.setIfInBounds_toArray, List.set_cons_zero, List.set_cons_succ, List.getElem_toArray, List.getElem_cons_zero, List.getElem_cons_succ]
                            clear hK
                            refine wpAnyH_take (i := 9) (v := ?_) rfl (by kernel_rfl) (by kernel_rfl) (by kernel_rfl) (fun _ _ _ h => h) (Or.inl ⟨by rfl, ?_⟩) hS ?_
                            rotate_left
                            · rintro W' ⟨c0', c1', c2', hb'⟩
                              go_simp
                              rfl
                            try simp only [Act.put, List.setIfInBounds_toArray, List.set_cons_zero, List.set_cons_succ, List.getElem_toArray, List.getElem_cons_zero, List.getElem_cons_succ]
                            refine wpAnyH_done (by kernel_rfl) ?_ _
                            go_wp2_with fail
                            go_meet
                            exact ⟨_, rfl, rfl, Lib.hid ⟨(((zc.set_ 0 (.int .i64 M)).set_ 1 (.int .i64 S2)).set_ 2 (.int .i64 M)).set_ 3 (.int .i64 S2), hS.b⟩⟩
                    · go_simp
                      have hSA := hS
                      refine hK.out _ _ (hS.al _) (fun hS => ?_)
                      try simp only [Act.put, List.setIfInBounds_toArray, List.set_cons_zero, List.set_cons_succ, List.getElem_toArray, List.getElem_cons_zero, List.getElem_cons_succ]
                      clear hK
                      refine wpAnyH_ready (rs := [2]) (by kernel_rfl) (by simp) (AllReadyH.cons rfl (fun K hK => ?_) AllReadyH.nil)
                      · go_simp
                        refine hK.out _ _ (hS.al _) (fun hS => ?_)
                        try simp only [Act.put, List.setIfInBounds_toArray, List.set_cons_zero, List.set_cons_succ, List.getElem_toArray, List.getElem_cons_zero, List.getElem_cons_succ]
                        clear hK
                        refine wpAnyH_ready (rs := [3]) (by kernel_rfl) (by simp) (AllReadyH.cons rfl (fun K hK => ?_) AllReadyH.nil)
                        · go_simp
                          refine (HNP.out _ _ _ hS.b (by repeat (with_reducible first | exact Blk.new _ _ _ | (refine Blk.at_ _ _ _ ?_; simp; done) | apply Blk.drew | apply Blk.alloc)) (by repeat (with_reducible first | exact Blk.new _ _ _ | (refine Blk.at_ _ _ _ ?_; simp; done) | apply Blk.drew | apply Blk.alloc))).mono ?_
                          rintro e w9 ⟨rfl, hb9⟩
                          have zc : Blk w9 (wy.heap.size + 1) 40 #[.int .i64 0, .int .i64 0, .int .i64 0, .int .i64 0] := blk_bel hb9 (by repeat (with_reducible first | exact Blk.new _ _ _ | (refine Blk.at_ _ _ _ ?_; simp; done) | apply Blk.drew | apply Blk.alloc))
                          have zc4 := zc.c4
                          have zf0 := zc.frozen 0
                          have zf1 := zc.frozen 1
                          have zf2 := zc.frozen 2
                          have zf3 := zc.frozen 3
                          have hz0 : g7 < wy.heap.size + 1 := by have := E1; omega
                          have hz1 : wy.heap.size ≤ wy.heap.size + 1 := by omega
                          refine hK.out _ _ (hS.bel hb9) (fun hS => ?_)
                          try simp only [Act.put, List.setIfInBounds_toArray, List.set_cons_zero, List.set_cons_succ, List.getElem_toArray, List.getElem_cons_zero, List.getElem_cons_succ]
                          clear hK hb9
                          refine wpAnyH_take (i := 4) (v := ?_) rfl (by kernel_rfl) (by kernel_rfl) (by kernel_rfl) (fun _ _ _ h => h) (Or.inl ⟨by rfl, ?_⟩) hS ?_
                          rotate_left
                          · rintro W' ⟨c0', c1', c2', hb'⟩
                            go_simp
                            rfl
                          try simp only [Act.put, List.setIfInBounds_toArray, List.set_cons_zero, List.set_cons_succ, List.getElem_toArray, List.getElem_cons_zero, List.getElem_cons_succ]
                          refine wpAnyH_take (i := 5) (v := ?_) rfl (by kernel_rfl) (by kernel_rfl) (by kernel_rfl) (fun _ _ _ h => h) (Or.inl ⟨by rfl, ?_⟩) hS ?_
                          rotate_left
                          · rintro W' ⟨c0', c1', c2', hb'⟩
                            go_simp
                            rfl
                          try simp only [Act.put, List.setIfInBounds_toArray, List.set_cons_zero, List.set_cons_succ, List.getElem_toArray, List.getElem_cons_zero, List.getElem_cons_succ]
                          refine wpAnyH_take (i := 6) (v := ?_) rfl (by kernel_rfl) (by kernel_rfl) (by kernel_rfl) (fun _ _ _ h => h) (Or.inl ⟨by rfl, ?_⟩) hS ?_
                          rotate_left
                          · rintro W' ⟨c0', c1', c2', hb'⟩
                            go_simp
                            rfl
                          try simp only [Act.put, List.setIfInBounds_toArray, List.set_cons_zero, List.set_cons_succ, List.getElem_toArray, List.getElem_cons_zero, List.getElem_cons_succ]
                          as_aux_lemma =>
                            refine wpAnyH_ready (rs := [8]) (by kernel_rfl) (by simp) (AllReadyH.cons rfl (fun K hK => ?_) AllReadyH.nil)
                            go_simp
                            refine hK.out _ _ ((((hS.set hz0 hz1 0 _).set hz0 hz1 1 _).set hz0 hz1 2 _).set hz0 hz1 3 _) (fun hS => ?_)
                            try simp only [Act.put, List.setIfInBounds_toArray, List.set_cons_zero, List.set_cons_succ, List.getElem_toArray, List.getElem_cons_zero, List.getElem_cons_succ]
                            clear hK
                            refine wpAnyH_take (i := 9) (v := ?_) rfl (by kernel_rfl) (by kernel_rfl) (by kernel_rfl) (fun _ _ _ h => h) (Or.inl ⟨by rfl, ?_⟩) hS ?_
                            rotate_left
                            · rintro W' ⟨c0', c1', c2', hb'⟩
                              go_simp
                              rfl
                            try simp only [Act.put, List.setIfInBounds_toArray, List.set_cons_zero, List.set_cons_succ, List.getElem_toArray, List.getElem_cons_zero, List.getElem_cons_succ]
                            refine wpAnyH_done (by kernel_rfl) ?_ _
                            go_wp2_with fail
                            go_meet
                            exact ⟨_, rfl, rfl, Lib.hid ⟨(((zc.set_ 0 (.int .i64 M)).set_ 1 (.int .i64 S2)).set_ 2 (.int .i64 M)).set_ 3 (.int .i64 S2), hS.b⟩⟩
                  · go_simp
                    refine hK.out _ _ (hS.al _) (fun hS => ?_)
                    try simp only [Act.put, List.setIfInBounds_toArray, List.set_cons_zero, List.set_cons_succ, List.getElem_toArray, List.getElem_cons_zero, List.getElem_cons_succ]
                    clear hK
                    refine wpAnyH_ready (rs := [1, 7]) (by kernel_rfl) (by simp) (AllReadyH.cons rfl (fun K hK => ?_) (AllReadyH.cons rfl (fun K hK => ?_) AllReadyH.nil))
                    · go_simp
                      refine hK.out _ _ (hS.al _) (fun hS => ?_)
                      try simp only [Act.put, List.setIfInBounds_toArray, List.set_cons_zero, List.set_cons_succ, List.getElem_toArray, List.getElem_cons_zero, List.getElem_cons_succ]
                      clear hK
                      refine wpAnyH_ready (rs := [3, 7]) (by kernel_rfl) (by simp) (AllReadyH.cons rfl (fun K hK => ?_) (AllReadyH.cons rfl (fun K hK => ?_) AllReadyH.nil))
                      · go_simp
                        refine (HNP.out _ _ _ hS.b (by repeat (with_reducible first | exact Blk.new _ _ _ | (refine Blk.at_ _ _ _ ?_; simp; done) | apply Blk.drew | apply Blk.alloc)) (by repeat (with_reducible first | exact Blk.new _ _ _ | (refine Blk.at_ _ _ _ ?_; simp; done) | apply Blk.drew | apply Blk.alloc))).mono ?_
                        rintro e w9 ⟨rfl, hb9⟩
                        refine hK.out _ _ (hS.bel hb9) (fun hS => ?_)
                        try simp only [Act.put, List.setIfInBounds_toArray, List.set_cons_zero, List.set_cons_succ, List.getElem_toArray, List.getElem_cons_zero, List.getElem_cons_succ]
                        clear hK hb9
                        refine wpAnyH_take (i := 4) (v := ?_) rfl (by kernel_rfl) (by kernel_rfl) (by kernel_rfl) (fun _ _ _ h => h) (Or.inl ⟨by rfl, ?_⟩) hS ?_
                        rotate_left
                        · rintro W' ⟨c0', c1', c2', hb'⟩
                          go_simp
                          rfl
                        try simp only [Act.put, List.setIfInBounds_toArray, List.set_cons_zero, List.set_cons_succ, List.getElem_toArray, List.getElem_cons_zero, List.getElem_cons_succ]
                        refine wpAnyH_take (i := 5) (v := ?_) rfl (by kernel_rfl) (by kernel_rfl) (by kernel_rfl) (fun _ _ _ h => h) (Or.inl ⟨by rfl, ?_⟩) hS ?_
                        rotate_left
                        · rintro W' ⟨c0', c1', c2', hb'⟩
                          go_simp
                          rfl
                        try simp only [Act.put, List.setIfInBounds_toArray, List.set_cons_zero, List.set_cons_succ, List.getElem_toArray, List.getElem_cons_zero, List.getElem_cons_succ]
                        refine wpAnyH_take (i := 6) (v := ?_) rfl (by kernel_rfl) (by kernel_rfl) (by kernel_rfl) (fun _ _ _ h => h) (Or.inl ⟨by rfl, ?_⟩) hS ?_
                        rotate_left
                        · rintro W' ⟨c0', c1', c2', hb'⟩
                          go_simp
                          rfl
                        try simp only [Act.put, List.setIfInBounds_toArray, List.set_cons_zero, List.set_cons_succ, List.getElem_toArray, List.getElem_cons_zero, List.getElem_cons_succ]
                        refine wpAnyH_ready (rs := [7]) (by kernel_rfl) (by simp) (AllReadyH.cons rfl (fun K hK => ?_) AllReadyH.nil)
                        · go_simp
                          have hSA := hS
                          refine hK.out _ _ (hS.al _) (fun hS => ?_)
                          try simp only [Act.put, List.setIfInBounds_toArray, List.set_cons_zero, List.set_cons_succ, List.getElem_toArray, List.getElem_cons_zero, List.getElem_cons_succ]
                          clear hK
                          as_aux_lemma =>
                            refine wpAnyH_ready (rs := [8]) (by kernel_rfl) (by simp) (AllReadyH.cons rfl (fun K hK => ?_) AllReadyH.nil)
                            go_simp
                            refine hK.out _ _ (hSA.al _) (fun hS => ?_)
                            try simp only [Act.put, List.setIfInBounds_toArray, List.set_cons_zero, List.set_cons_succ, List.getElem_toArray, List.getElem_cons_zero, List.getElem_cons_succ]
                            clear hK
                            refine wpAnyH_take (i := 9) (v := ?_) rfl (by kernel_rfl) (by kernel_rfl) (by kernel_rfl) (fun _ _ _ h => h) (Or.inl ⟨by rfl, ?_⟩) hS ?_
                            rotate_left
                            · rintro W' ⟨c0', c1', c2', hb'⟩
                              go_simp
                              rfl
                            try simp only [Act.put, List.setIfInBounds_toArray, List.set_cons_zero, List.set_cons_succ, List.getElem_toArray, List.getElem_cons_zero, List.getElem_cons_succ]
                            refine wpAnyH_done (by kernel_rfl) ?_ _
                            go_wp2_with fail
                            go_meet
                            exact ⟨_, rfl, rfl, Lib.hid ⟨Blk.at_ _ _ _ rfl, hS.b⟩⟩
                      · go_simp
                        have hSA := hS
                        refine hK.out _ _ (hS.al _) (fun hS => ?_)
                        try simp only [Act.put, List.setIfInBounds_toArray, List.set_cons_zero, List.set_cons_succ, List.getElem_toArray, List.getElem_cons_zero, List.getElem_cons_succ]
                        clear hK
                        refine wpAnyH_ready (rs := [3]) (by kernel_rfl) (by simp) (AllReadyH.cons rfl (fun K hK => ?_) AllReadyH.nil)
                        · go_simp
                          refine (HNP.out _ _ _ hS.b (by repeat (with_reducible first | exact Blk.new _ _ _ | (refine Blk.at_ _ _ _ ?_; simp; done) | apply Blk.drew | apply Blk.alloc)) (by repeat (with_reducible first | exact Blk.new _ _ _ | (refine Blk.at_ _ _ _ ?_; simp; done) | apply Blk.drew | apply Blk.alloc))).mono ?_
                          rintro e w9 ⟨rfl, hb9⟩
                          have zc : Blk w9 (wy.heap.size + 1 + 1) 40 #[.int .i64 0, .int .i64 0, .int .i64 0, .int .i64 0] := blk_bel hb9 (by repeat (with_reducible first | exact Blk.new _ _ _ | (refine Blk.at_ _ _ _ ?_; simp; done) | apply Blk.drew | apply Blk.alloc))
                          have zc4 := zc.c4
                          have zf0 := zc.frozen 0
                          have zf1 := zc.frozen 1
                          have zf2 := zc.frozen 2
                          have zf3 := zc.frozen 3
                          have hz0 : g7 < wy.heap.size + 1 + 1 := by have := E1; omega
                          have hz1 : wy.heap.size ≤ wy.heap.size + 1 + 1 := by omega
                          refine hK.out _ _ (hS.bel hb9) (fun hS => ?_)
                          try simp only [Act.put, List.setIfInBounds_toArray, List.set_cons_zero, List.set_cons_succ, List.getElem_toArray, List.getElem_cons_zero, List.getElem_cons_succ]
                          clear hK hb9
                          refine wpAnyH_take (i := 4) (v := ?_) rfl (by kernel_rfl) (by kernel_rfl) (by kernel_rfl) (fun _ _ _ h => h) (Or.inl ⟨by rfl, ?_⟩) hS ?_
                          rotate_left
                          · rintro W' ⟨c0', c1', c2', hb'⟩
                            go_simp
                            rfl
                          try simp only [Act.put, List.setIfInBounds_toArray, List.set_cons_zero, List.set_cons_succ, List.getElem_toArray, List.getElem_cons_zero, List.getElem_cons_succ]
                          refine wpAnyH_take (i := 5) (v := ?_) rfl (by kernel_rfl) (by kernel_rfl) (by kernel_rfl) (fun _ _ _ h => h) (Or.inl ⟨by rfl, ?_⟩) hS ?_
                          rotate_left
                          · rintro W' ⟨c0', c1', c2', hb'⟩
                            go_simp
                            rfl
                          try simp only [Act.put, List.setIfInBounds_toArray, List.set_cons_zero, List.set_cons_succ, List.getElem_toArray, List.getElem_cons_zero, List.getElem_cons_succ]
                          refine wpAnyH_take (i := 6) (v := ?_) rfl (by kernel_rfl) (by kernel_rfl) (by kernel_rfl) (fun _ _ _ h => h) (Or.inl ⟨by rfl, ?_⟩) hS ?_
                          rotate_left
                          · rintro W' ⟨c0', c1', c2', hb'⟩
                            go_simp
                            rfl
                          try simp only [Act.put, List.setIfInBounds_toArray, List.set_cons_zero, List.set_cons_succ, List.getElem_toArray, List.getElem_cons_zero, List.getElem_cons_succ]
                          as_aux_lemma =>
                            refine wpAnyH_ready (rs := [8]) (by kernel_rfl) (by simp) (AllReadyH.cons rfl (fun K hK => ?_) AllReadyH.nil)
                            go_simp
                            refine hK.out _ _ ((((hS.set hz0 hz1 0 _).set hz0 hz1 1 _).set hz0 hz1 2 _).set hz0 hz1 3 _) (fun hS => ?_)
                            try simp only [Act.put, List.setIfInBounds_toArray, List.set_cons_zero, List.set_cons_succ, List.getElem_toArray, List.getElem_cons_zero, List.getElem_cons_succ]
                            clear hK
                            refine wpAnyH_take (i := 9) (v := ?_) rfl (by kernel_rfl) (by kernel_rfl) (by kernel_rfl) (fun _ _ _ h => h) (Or.inl ⟨by rfl, ?_⟩) hS ?_
                            rotate_left
                            · rintro W' ⟨c0', c1', c2', hb'⟩
                              go_simp
                              rfl
                            try simp only [Act.put, List.setIfInBounds_toArray, List.set_cons_zero, List.set_cons_succ, List.getElem_toArray, List.getElem_cons_zero, List.getElem_cons_succ]
                            refine wpAnyH_done (by kernel_rfl) ?_ _
                            go_wp2_with fail
                            go_meet
                            exact ⟨_, rfl, rfl, Lib.hid ⟨(((zc.set_ 0 (.int .i64 M)).set_ 1 (.int .i64 S2)).set_ 2 (.int .i64 M)).set_ 3 (.int .i64 S2), hS.b⟩⟩
                    · go_simp
                      have hSA := hS
                      refine hK.out _ _ (hS.al _) (fun hS => ?_)
                      try simp only [Act.put, List.setIfInBounds_toArray, List.set_cons_zero, List.set_cons_succ, List.getElem_toArray, List.getElem_cons_zero, List.getElem_cons_succ]
                      clear hK
                      refine wpAnyH_ready (rs := [1]) (by kernel_rfl) (by simp) (AllReadyH.cons rfl (fun K hK => ?_) AllReadyH.nil)
                      · go_simp
                        refine hK.out _ _ (hS.al _) (fun hS => ?_)
                        try simp only [Act.put, List.setIfInBounds_toArray, List.set_cons_zero, List.set_cons_succ, List.getElem_toArray, List.getElem_cons_zero, List.getElem_cons_succ]
                        clear hK
                        refine wpAnyH_ready (rs := [3]) (by kernel_rfl) (by simp) (AllReadyH.cons rfl (fun K hK => ?_) AllReadyH.nil)
                        · go_simp
                          refine (HNP.out _ _ _ hS.b (by repeat (with_reducible first | exact Blk.new _ _ _ | (refine Blk.at_ _ _ _ ?_; simp; done) | apply Blk.drew | apply Blk.alloc)) (by repeat (with_reducible first | exact Blk.new _ _ _ | (refine Blk.at_ _ _ _ ?_; simp; done) | apply Blk.drew | apply Blk.alloc))).mono ?_
                          rintro e w9 ⟨rfl, hb9⟩
                          have zc : Blk w9 (wy.heap.size + 1) 40 #[.int .i64 0, .int .i64 0, .int .i64 0, .int .i64 0] := blk_bel hb9 (by repeat (with_reducible first | exact Blk.new _ _ _ | (refine Blk.at_ _ _ _ ?_; simp; done) | apply Blk.drew | apply Blk.alloc))
                          have zc4 := zc.c4
                          have zf0 := zc.frozen 0
                          have zf1 := zc.frozen 1
                          have zf2 := zc.frozen 2
                          have zf3 := zc.frozen 3
                          have hz0 : g7 < wy.heap.size + 1 := by have := E1; omega
                          have hz1 : wy.heap.size ≤ wy.heap.size + 1 := by omega
                          refine hK.out _ _ (hS.bel hb9) (fun hS => ?_)
                          try simp only [Act.put, List.setIfInBounds_toArray, List.set_cons_zero, List.set_cons_succ, List.getElem_toArray, List.getElem_cons_zero, List.getElem_cons_succ]
                          clear hK hb9
                          refine wpAnyH_take (i := 4) (v := ?_) rfl (by kernel_rfl) (by kernel_rfl) (by kernel_rfl) (fun _ _ _ h => h) (Or.inl ⟨by rfl, ?_⟩) hS ?_
                          rotate_left
                          · rintro W' ⟨c0', c1', c2', hb'⟩
                            go_simp
                            rfl
                          try simp only [Act.put, List.setIfInBounds_toArray, List.set_cons_zero, List.set_cons_succ, List.getElem_toArray, List.getElem_cons_zero, List.getElem_cons_succ]
                          refine wpAnyH_take (i := 5) (v := ?_) rfl (by kernel_rfl) (by kernel_rfl) (by kernel_rfl) (fun _ _ _ h => h) (Or.inl ⟨by rfl, ?_⟩) hS ?_
                          rotate_left
                          · rintro W' ⟨c0', c1', c2', hb'⟩
                            go_simp
                            rfl
                          try simp only [Act.put, List.setIfInBounds_toArray, List.set_cons_zero, List.set_cons_succ, List.getElem_toArray, List.getElem_cons_zero, List.getElem_cons_succ]
                          refine wpAnyH_take (i := 6) (v := ?_) rfl (by kernel_rfl) (by kernel_rfl) (by kernel_rfl) (fun _ _ _ h => h) (Or.inl ⟨by rfl, ?_⟩) hS ?_
                          rotate_left
                          · rintro W' ⟨c0', c1', c2', hb'⟩
                            go_simp
                            rfl
                          try simp only [Act.put, List.setIfInBounds_toArray, List.set_cons_zero, List.set_cons_succ, List.getElem_toArray, List.getElem_cons_zero, List.getElem_cons_succ]
                          as_aux_lemma =>
                            refine wpAnyH_ready (rs := [8]) (by kernel_rfl) (by simp) (AllReadyH.cons rfl (fun K hK => ?_) AllReadyH.nil)
                            go_simp
                            refine hK.out _ _ ((((hS.set hz0 hz1 0 _).set hz0 hz1 1 _).set hz0 hz1 2 _).set hz0 hz1 3 _) (fun hS => ?_)
                            try simp only [Act.put, List.setIfInBounds_toArray, List.set_cons_zero, List.set_cons_succ, List.getElem_toArray, List.getElem_cons_zero, List.getElem_cons_succ]
                            clear hK
                            refine wpAnyH_take (i := 9) (v := ?_) rfl (by kernel_rfl) (by kernel_rfl) (by kernel_rfl) (fun _ _ _ h => h) (Or.inl ⟨by rfl, ?_⟩) hS ?_
                            rotate_left
                            · rintro W' ⟨c0', c1', c2', hb'⟩
                              go_simp
                              rfl
                            try simp only [Act.put, List.setIfInBounds_toArray, List.set_cons_zero, List.set_cons_succ, List.getElem_toArray, List.getElem_cons_zero, List.getElem_cons_succ]
                            refine wpAnyH_done (by kernel_rfl) ?_ _
                            go_wp2_with fail
                            go_meet
                            exact ⟨_, rfl, rfl, Lib.hid ⟨(((zc.set_ 0 (.int .i64 M)).set_ 1 (.int .i64 S2)).set_ 2 (.int .i64 M)).set_ 3 (.int .i64 S2), hS.b⟩⟩
                  · go_simp
                    have hSA := hS
                    refine hK.out _ _ (hS.al _) (fun hS => ?_)
                    try simp only [Act.put, List.setIfInBounds_toArray, List.set_cons_zero, List.set_cons_succ, List.getElem_toArray, List.getElem_cons_zero, List.getElem_cons_succ]
                    clear hK
                    refine wpAnyH_ready (rs := [1, 2]) (by kernel_rfl) (by simp) (AllReadyH.cons rfl (fun K hK => ?_) (AllReadyH.cons rfl (fun K hK => ?_) AllReadyH.nil))
                    · go_simp
                      refine hK.out _ _ (hS.al _) (fun hS => ?_)
                      try simp only [Act.put, List.setIfInBounds_toArray, List.set_cons_zero, List.set_cons_succ, List.getElem_toArray, List.getElem_cons_zero, List.getElem_cons_succ]
                      clear hK
                      refine wpAnyH_ready (rs := [2]) (by kernel_rfl) (by simp) (AllReadyH.cons rfl (fun K hK => ?_) AllReadyH.nil)
                      · go_simp
                        refine hK.out _ _ (hS.al _) (fun hS => ?_)
                        try simp only [Act.put, List.setIfInBounds_toArray, List.set_cons_zero, List.set_cons_succ, List.getElem_toArray, List.getElem_cons_zero, List.getElem_cons_succ]
                        clear hK
                        refine wpAnyH_ready (rs := [3]) (by kernel_rfl) (by simp) (AllReadyH.cons rfl (fun K hK => ?_) AllReadyH.nil)
                        · go_simp
                          refine (HNP.out _ _ _ hS.b (by repeat (with_reducible first | exact Blk.new _ _ _ | (refine Blk.at_ _ _ _ ?_; simp; done) | apply Blk.drew | apply Blk.alloc)) (by repeat (with_reducible first | exact Blk.new _ _ _ | (refine Blk.at_ _ _ _ ?_; simp; done) | apply Blk.drew | apply Blk.alloc))).mono ?_
                          rintro e w9 ⟨rfl, hb9⟩
                          have zc : Blk w9 (wy.heap.size) 40 #[.int .i64 0, .int .i64 0, .int .i64 0, .int .i64 0] := blk_bel hb9 (by repeat (with_reducible first | exact Blk.new _ _ _ | (refine Blk.at_ _ _ _ ?_; simp; done) | apply Blk.drew | apply Blk.alloc))
                          have zc4 := zc.c4
                          have zf0 := zc.frozen 0
                          have zf1 := zc.frozen 1
                          have zf2 := zc.frozen 2
                          have zf3 := zc.frozen 3
                          have hz0 : g7 < wy.heap.size := by have := E1; omega
                          have hz1 : wy.heap.size ≤ wy.heap.size := by omega
                          refine hK.out _ _ (hS.bel hb9) (fun hS => ?_)
                          try simp only [Act.put, List.setIfInBounds_toArray, List.set_cons_zero, List.set_cons_succ, List.getElem_toArray, List.getElem_cons_zero, List.getElem_cons_succ]
                          clear hK hb9
                          refine wpAnyH_take (i := 4) (v := ?_) rfl (by kernel_rfl) (by kernel_rfl) (by kernel_rfl) (fun _ _ _ h => h) (Or.inl ⟨by rfl, ?_⟩) hS ?_
                          rotate_left
                          · rintro W' ⟨c0', c1', c2', hb'⟩
                            go_simp
                            rfl
                          try simp only [Act.put, List.setIfInBounds_toArray, List.set_cons_zero, List.set_cons_succ, List.getElem_toArray, List.getElem_cons_zero, List.getElem_cons_succ]
                          refine wpAnyH_take (i := 5) (v := ?_) rfl (by kernel_rfl) (by kernel_rfl) (by kernel_rfl) (fun _ _ _ h => h) (Or.inl ⟨by rfl, ?_⟩) hS ?_
                          rotate_left
                          · rintro W' ⟨c0', c1', c2', hb'⟩
                            go_simp
                            rfl
                          try simp only [Act.put, List.setIfInBounds_toArray, List.set_cons_zero, List.set_cons_succ, List.getElem_toArray, List.getElem_cons_zero, List.getElem_cons_succ]
                          refine wpAnyH_take (i := 6) (v := ?_) rfl (by kernel_rfl) (by kernel_rfl) (by kernel_rfl) (fun _ _ _ h => h) (Or.inl ⟨by rfl, ?_⟩) hS ?_
                          rotate_left
                          · rintro W' ⟨c0', c1', c2', hb'⟩
                            go_simp
                            rfl
                          try simp only [Act.put, List.setIfInBounds_toArray, List.set_cons_zero, List.set_cons_succ, List.getElem_toArray, List.getElem_cons_zero, List.getElem_cons_succ]
                          as_aux_lemma =>
                            refine wpAnyH_ready (rs := [8]) (by kernel_rfl) (by simp) (AllReadyH.cons rfl (fun K hK => ?_) AllReadyH.nil)
                            go_simp
                            refine hK.out _ _ ((((hS.set hz0 hz1 0 _).set hz0 hz1 1 _).set hz0 hz1 2 _).set hz0 hz1 3 _) (fun hS => ?_)
                            try simp only [Act.put, List.setIfInBounds_toArray, List.set_cons_zero, List.set_cons_succ, List.getElem_toArray, List.getElem_cons_zero, List.getElem_cons_succ]
                            clear hK
                            refine wpAnyH_take (i := 9) (v := ?_) rfl (by kernel_rfl) (by kernel_rfl) (by kernel_rfl) (fun _ _ _ h => h) (Or.inl ⟨by rfl, ?_⟩) hS ?_
                            rotate_left
                            · rintro W' ⟨c0', c1', c2', hb'⟩
                              go_simp
                              rfl
                            try simp only [Act.put, List.setIfInBounds_toArray, List.set_cons_zero, List.set_cons_succ, List.getElem_toArray, List.getElem_cons_zero, List.getElem_cons_succ]
                            refine wpAnyH_done (by kernel_rfl) ?_ _
                            go_wp2_with fail
                            go_meet
                            exact ⟨_, rfl, rfl, Lib.hid ⟨(((zc.set_ 0 (.int .i64 M)).set_ 1 (.int .i64 S2)).set_ 2 (.int .i64 M)).set_ 3 (.int .i64 S2), hS.b⟩⟩
                    · go_simp
                      refine hK.out _ _ (hS.al _) (fun hS => ?_)
                      try simp only [Act.put, List.setIfInBounds_toArray, List.set_cons_zero, List.set_cons_succ, List.getElem_toArray, List.getElem_cons_zero, List.getElem_cons_succ]
                      clear hK
                      refine wpAnyH_ready (rs := [1]) (by kernel_rfl) (by simp) (AllReadyH.cons rfl (fun K hK => ?_) AllReadyH.nil)
                      · go_simp
                        refine hK.out _ _ (hS.al _) (fun hS => ?_)
                        try simp only [Act.put, List.setIfInBounds_toArray, List.set_cons_zero, List.set_cons_succ, List.getElem_toArray, List.getElem_cons_zero, List.getElem_cons_succ]
                        clear hK
                        refine wpAnyH_ready (rs := [3]) (by kernel_rfl) (by simp) (AllReadyH.cons rfl (fun K hK => ?_) AllReadyH.nil)
                        · go_simp
                          refine (HNP.out _ _ _ hS.b (by repeat (with_reducible first | exact Blk.new _ _ _ | (refine Blk.at_ _ _ _ ?_; simp; done) | apply Blk.drew | apply Blk.alloc)) (by repeat (with_reducible first | exact Blk.new _ _ _ | (refine Blk.at_ _ _ _ ?_; simp; done) | apply Blk.drew | apply Blk.alloc))).mono ?_
                          rintro e w9 ⟨rfl, hb9⟩
                          have zc : Blk w9 (wy.heap.size) 40 #[.int .i64 0, .int .i64 0, .int .i64 0, .int .i64 0] := blk_bel hb9 (by repeat (with_reducible first | exact Blk.new _ _ _ | (refine Blk.at_ _ _ _ ?_; simp; done) | apply Blk.drew | apply Blk.alloc))
                          have zc4 := zc.c4
                          have zf0 := zc.frozen 0
                          have zf1 := zc.frozen 1
                          have zf2 := zc.frozen 2
                          have zf3 := zc.frozen 3
                          have hz0 : g7 < wy.heap.size := by have := E1; omega
                          have hz1 : wy.heap.size ≤ wy.heap.size := by omega
                          refine hK.out _ _ (hS.bel hb9) (fun hS => ?_)
                          try simp only [Act.put, List.setIfInBounds_toArray, List.set_cons_zero, List.set_cons_succ, List.getElem_toArray, List.getElem_cons_zero, List.getElem_cons_succ]
                          clear hK hb9
                          refine wpAnyH_take (i := 4) (v := ?_) rfl (by kernel_rfl) (by kernel_rfl) (by kernel_rfl) (fun _ _ _ h => h) (Or.inl ⟨by rfl, ?_⟩) hS ?_
                          rotate_left
                          · rintro W' ⟨c0', c1', c2', hb'⟩
                            go_simp
                            rfl
                          try simp only [Act.put, List.setIfInBounds_toArray, List.set_cons_zero, List.set_cons_succ, List.getElem_toArray, List.getElem_cons_zero, List.getElem_cons_succ]
                          refine wpAnyH_take (i := 5) (v := ?_) rfl (by kernel_rfl) (by kernel_rfl) (by kernel_rfl) (fun _ _ _ h => h) (Or.inl ⟨by rfl, ?_⟩) hS ?_
                          rotate_left
                          · rintro W' ⟨c0', c1', c2', hb'⟩
                            go_simp
                            rfl
                          try simp only [Act.put, List.setIfInBounds_toArray, List.set_cons_zero, List.set_cons_succ, List.getElem_toArray, List.getElem_cons_zero, List.getElem_cons_succ]
                          refine wpAnyH_take (i := 6) (v := ?_) rfl (by kernel_rfl) (by kernel_rfl) (by kernel_rfl) (fun _ _ _ h => h) (Or.inl ⟨by rfl, ?_⟩) hS ?_
                          rotate_left
                          · rintro W' ⟨c0', c1', c2', hb'⟩
                            go_simp
                            rfl
                          try simp only [Act.put, List.setIfInBounds_toArray, List.set_cons_zero, List.set_cons_succ, List.getElem_toArray, List.getElem_cons_zero, List.getElem_cons_succ]
                          as_aux_lemma =>
                            refine wpAnyH_ready (rs := [8]) (by kernel_rfl) (by simp) (AllReadyH.cons rfl (fun K hK => ?_) AllReadyH.nil)
                            go_simp
                            refine hK.out _ _ ((((hS.set hz0 hz1 0 _).set hz0 hz1 1 _).set hz0 hz1 2 _).set hz0 hz1 3 _) (fun hS => ?_)
                            try simp only [Act.put, List.setIfInBounds_toArray, List.set_cons_zero, List.set_cons_succ, List.getElem_toArray, List.getElem_cons_zero, List.getElem_cons_succ]
                            clear hK
                            refine wpAnyH_take (i := 9) (v := ?_) rfl (by kernel_rfl) (by kernel_rfl) (by kernel_rfl) (fun _ _ _ h => h) (Or.inl ⟨by rfl, ?_⟩) hS ?_
                            rotate_left
                            · rintro W' ⟨c0', c1', c2', hb'⟩
                              go_simp
                              rfl
                            try simp only [Act.put, List.setIfInBounds_toArray, List.set_cons_zero, List.set_cons_succ, List.getElem_toArray, List.getElem_cons_zero, List.getElem_cons_succ]
                            refine wpAnyH_done (by kernel_rfl) ?_ _
                            go_wp2_with fail
                            go_meet
                            exact ⟨_, rfl, rfl, Lib.hid ⟨(((zc.set_ 0 (.int .i64 M)).set_ 1 (.int .i64 S2)).set_ 2 (.int .i64 M)).set_ 3 (.int .i64 S2), hS.b⟩⟩
                case rest => as_aux_lemma =>
                  obtain ⟨gd, rfl, rfl, HD⟩ := hcut
                  have hg1 := (HY.out.2.2.2.2.1.below HD.out.2 HY.out.2.2.2.2.1.lt).c2
                  have hgc := (HY.out.2.2.2.2.2.1.below HD.out.2 HY.out.2.2.2.2.2.1.lt).c4
                  have hgd := HD.out.1.c4
                  have hln := HLN.out
                  have ha2 := sumI_bd a
                  have hb2 := sumI_bd b
                  have hx1 : IntKind.i64.wrap (sumI a + sp) = sumI a + sp := IntWalk.i64_in _ ⟨by omega, by omega⟩
                  have hx2 : IntKind.i64.wrap (sumI a + sp + sumI b) = sumI a + sp + sumI b := IntWalk.i64_in _ ⟨by omega, by omega⟩
                  have hmx : (M == max (sumI a) (sumI b)) = true := by rw [HMS.out.1]; simp
                  have hmx2 : (M == if sumI b ≤ sumI a then sumI a else sumI b) = true := by rw [HMS.out.1]; simp; split <;> omega
                  have hmx3 : (M == if sumI a ≤ sumI b then sumI b else sumI a) = true := by rw [HMS.out.1]; simp; split <;> omega
                  have hmx4 : (M == if sumI a < sumI b then sumI b else sumI a) = true := by rw [HMS.out.1]; simp; split <;> omega
                  have hmx5 : (M == if sumI b < sumI a then sumI a else sumI b) = true := by rw [HMS.out.1]; simp; split <;> omega
                  have hsx : (S2 == sumI a + sp + sumI b) = true := by rw [HMS.out.2]; simp
                  clear hln ha2 hb2
                  go_wp2_with fail
                  all_goals
                    as_aux_lemma =>
                    refine (works_any _).mono ?_
                    rintro e w9 ⟨rfl, hw9⟩
                    have HB9 := Lib.hid hw9
                    clear hw9
                    go_wp2_with fail
                    go_ret
                    exact ⟨rfl, HY.out.2.2.2.2.2.2.trans ((HD.out.2.mono HY.out.2.2.2.2.2.2.size).trans (HB9.out.mono (Nat.le_trans HY.out.2.2.2.2.2.2.size HD.out.2.size)))⟩


end
end Go.Proofs.Ytgahmlbemaagbaa
