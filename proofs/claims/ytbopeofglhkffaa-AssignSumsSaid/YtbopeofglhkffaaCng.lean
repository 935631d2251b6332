/- Contracts: content.wanted: the closure 4. -/
import Derived.Test.YtbopeofglhkffaaCne
set_option linter.unusedSimpArgs false
set_option linter.unusedVariables false
namespace Go.Proofs.Ytbopeofglhkffaa
open Go.RowKit
attribute [local go_sem] block_of_add
/-- What a closure of wanted answers. -/
structure PairAns (r : Int × Int × Bool) (w w' : World) (e : Ending) : Prop where
  ex : ∃ vl vg ll lg, e = .returned (.tuple #[vl, vg, .bool r.2.2]) ∧ SlAt w' w'.heap.size vl ll ∧ SlAt w' w'.heap.size vg lg ∧ ll.sum = r.1 ∧ lg.sum = r.2.1 ∧ I64s ll ∧ I64s lg ∧ ll.length ≤ 100000 ∧ lg.length ≤ 100000
  b : Below w.heap.size w w'
/-- Widths as children hand them up. -/
def Ok62 (l : List Int) : Prop := (∀ x ∈ l, 0 ≤ x ∧ x ≤ 4611686018427387904) ∧ l.length ≤ 100000
theorem Ok62.i64 {l : List Int} (h : Ok62 l) : I64s l := fun x hx => by have := h.1 x hx; omega
theorem mostF_i64 {l : List Int} (h : Ok62 l) : 0 ≤ mostF l ∧ mostF l ≤ 4611686018427387904 := ⟨mostF_nn l, mostF_le (by omega) fun x hx => (h.1 x hx).2⟩
theorem most_sl (l : List Int) (v : Value) (w : World) (hn : l.length ≤ 100000) (hv : SlAt w w.heap.size v l) :
    Calls Try.prog 69 #[v] w fun e w' => e = .returned (.slice (some ⟨w.heap.size, 0, none⟩) 1 1) ∧ w.alloc (.cells #[.int .i64 (mostF l)] 2) = w' := by
  obtain ⟨A, c, rfl, h1, h2, h3, _⟩ := hv
  exact most_any l A c w (by omega) h3
theorem ext_bdc (L : List Wd) (h : ∀ x ∈ L, (-1099511627776 ≤ x.w ∧ x.w ≤ 1099511627776) ∧ (-1099511627776 ≤ x.gap ∧ x.gap ≤ 1099511627776)) : (-1099511627776 ≤ (extF L).1 ∧ (extF L).1 ≤ 1099511627776) ∧ (-1099511627776 ≤ (extF L).2.1 ∧ (extF L).2.1 ≤ 1099511627776) := by
  have gen : ∀ k, k ≤ L.length → (-1099511627776 ≤ (exAt L k).least ∧ (exAt L k).least ≤ 1099511627776) ∧ (-1099511627776 ≤ (exAt L k).great ∧ (exAt L k).great ≤ 1099511627776) := by
    intro k
    induction k with
    | zero => intro _; simp [exAt]
    | succ k ih =>
      intro hk
      have hlt : k < L.length := by omega
      obtain ⟨h1, h2⟩ := ih (by omega)
      have hw := (h L[k] (List.getElem_mem hlt)).1
      rw [exAt_succ L hlt]
      have hl : -1099511627776 ≤ exLeast k (exAt L k).least L[k] ∧ exLeast k (exAt L k).least L[k] ≤ 1099511627776 := by unfold exLeast; split <;> assumption
      have hc := cutF_bd (exAt L k).row
      unfold exStep
      split
      · refine ⟨hl, ?_⟩
        show -1099511627776 ≤ max _ _ ∧ max _ _ ≤ 1099511627776
        omega
      · exact ⟨hl, h2⟩
  obtain ⟨h1, h2⟩ := gen L.length (Nat.le_refl _)
  refine ⟨h1, ?_⟩
  have hc := cutF_bd (exAt L L.length).row
  show -1099511627776 ≤ max _ _ ∧ max _ _ ≤ 1099511627776
  omega
structure TwoS (g9 g10 : Nat) (v9 v10 : Value) (W : World) : Prop where
  l9 : g9 < W.heap.size
  l10 : g10 < W.heap.size
  c9 : W.cell? ⟨g9, 0, none⟩ = some v9
  c10 : W.cell? ⟨g10, 0, none⟩ = some v10
theorem TwoS.below {g9 g10 : Nat} {v9 v10 : Value} {W W' : World} (h : TwoS g9 g10 v9 v10 W) (hb : Below W.heap.size W W') : TwoS g9 g10 v9 v10 W' :=
  ⟨Nat.lt_of_lt_of_le h.l9 hb.size, Nat.lt_of_lt_of_le h.l10 hb.size, (hb.cell (p := ⟨g9, 0, none⟩) h.l9).trans h.c9, (hb.cell (p := ⟨g10, 0, none⟩) h.l10).trans h.c10⟩
section
variable (g9 g10 : Nat) (v9 v10 : Value) (ol og : List Int) (w : World)
set_option maxRecDepth 100000 in
set_option maxHeartbeats 1000000 in
theorem clos1_any (hS : TwoS g9 g10 v9 v10 w) (h9 : SlAt w w.heap.size v9 ol) (h10 : SlAt w w.heap.size v10 og) (hol : Ok62 ol) (hog : Ok62 og) :
    Calls Try.prog 68 #[.pointer (some ⟨g9, 0, none⟩), .pointer (some ⟨g10, 0, none⟩)] w fun e w' => PairAns (mostF ol, og.sum, false) w w' e := by
  have HS0 := Lib.hid hS
  have H9 := Lib.hid h9
  have H10 := Lib.hid h10
  have HL := Lib.hid hol
  have HG := Lib.hid hog
  clear hS h9 h10 hol hog
  go_enter Try.func68, Try.ntmps68
  go_upto_region 1 with (fail)
  refine wp_region_held_drew (S := TwoS g9 g10 v9 v10) (by kernel_rfl) (HS0.out.below (Below.refl _ _).drew) (fun hS => ?_)
  refine wpAnyH_take (i := 0) (v := ?_) rfl (by kernel_rfl) (by kernel_rfl) (by kernel_rfl) (fun _ _ _ h => h) (Or.inl ⟨by rfl, ?_⟩) hS ?_
  rotate_left
  · rintro W' ⟨l9', l10', c9', c10'⟩
    go_simp
    rfl
  try simp only [Act.put, List.setIfInBounds_toArray, List.set_cons_zero, List.set_cons_succ, List.getElem_toArray, List.getElem_cons_zero, List.getElem_cons_succ]
  refine wpAnyH_take (i := 2) (v := ?_) rfl (by kernel_rfl) (by kernel_rfl) (by kernel_rfl) (fun _ _ _ h => h) (Or.inl ⟨by rfl, ?_⟩) hS ?_
  rotate_left
  · rintro W' ⟨l9', l10', c9', c10'⟩
    go_simp
    rfl
  try simp only [Act.put, List.setIfInBounds_toArray, List.set_cons_zero, List.set_cons_succ, List.getElem_toArray, List.getElem_cons_zero, List.getElem_cons_succ]
  refine wpAnyH_ready (rs := [1]) (by kernel_rfl) (by simp) (AllReadyH.cons rfl (fun K hK => ?_) AllReadyH.nil)
  go_simp
  refine (most_sl ol v9 _ HL.out.2 (H9.out.drew)).mono ?_
  rintro e w2 ⟨rfl, rfl⟩
  refine hK.out _ _ (hS.below ((Below.refl _ _).alloc (Nat.le_refl _) _)) (fun hS => ?_)
  try simp only [Act.put, List.setIfInBounds_toArray, List.set_cons_zero, List.set_cons_succ, List.getElem_toArray, List.getElem_cons_zero, List.getElem_cons_succ]
  clear hK
  refine wpAnyH_take (i := 3) (v := ?_) rfl (by kernel_rfl) (by kernel_rfl) (by kernel_rfl) (fun _ _ _ h => h) (Or.inl ⟨by rfl, ?_⟩) hS ?_
  rotate_left
  · rintro W' ⟨l9', l10', c9', c10'⟩
    go_simp
    rfl
  try simp only [Act.put, List.setIfInBounds_toArray, List.set_cons_zero, List.set_cons_succ, List.getElem_toArray, List.getElem_cons_zero, List.getElem_cons_succ]
  refine wpAnyH_take (i := 4) (v := ?_) rfl (by kernel_rfl) (by kernel_rfl) (by kernel_rfl) (fun _ _ _ h => h) (Or.inl ⟨by rfl, ?_⟩) hS ?_
  rotate_left
  · rintro W' ⟨l9', l10', c9', c10'⟩
    go_simp
    rfl
  try simp only [Act.put, List.setIfInBounds_toArray, List.set_cons_zero, List.set_cons_succ, List.getElem_toArray, List.getElem_cons_zero, List.getElem_cons_succ]
  refine wpAnyH_take (i := 5) (v := ?_) rfl (by kernel_rfl) (by kernel_rfl) (by kernel_rfl) (fun _ _ _ h => h) (Or.inl ⟨by rfl, ?_⟩) hS ?_
  rotate_left
  · rintro W' ⟨l9', l10', c9', c10'⟩
    go_simp
    rfl
  try simp only [Act.put, List.setIfInBounds_toArray, List.set_cons_zero, List.set_cons_succ, List.getElem_toArray, List.getElem_cons_zero, List.getElem_cons_succ]
  refine wpAnyH_done (by kernel_rfl) ?_ _
  clear hS
  go_wp2_with fail
  go_ret3
  have hbe : Below w.heap.size w (w.drew.alloc (.cells #[.int .i64 (mostF ol)] 2)) := (Below.refl _ _).drew.alloc (by simp) _
  exact ⟨⟨_, _, [mostF ol], og, rfl, by simpa using SlAt.one w.drew (mostF ol), (H10.out.below hbe).more hbe.size, by simp, rfl, fun x hx => by have := mostF_i64 HL.out; simp at hx; omega, HG.out.i64, by simp, HG.out.2⟩, hbe⟩
set_option maxRecDepth 100000 in
set_option maxHeartbeats 1000000 in
theorem clos2_any (hS : TwoS g9 g10 v9 v10 w) (h9 : SlAt w w.heap.size v9 ol) (h10 : SlAt w w.heap.size v10 og) (hol : Ok62 ol) (hog : Ok62 og) :
    Calls Try.prog 70 #[.pointer (some ⟨g9, 0, none⟩), .pointer (some ⟨g10, 0, none⟩)] w fun e w' => PairAns (ol.sum, og.sum, false) w w' e := by
  have H9 := Lib.hid h9
  have H10 := Lib.hid h10
  have HL := Lib.hid hol
  have HG := Lib.hid hog
  obtain ⟨l9, l10, c9, c10⟩ := hS
  clear h9 h10 hol hog
  go_enter Try.func70, Try.ntmps70
  go_upto_region 1 with (fail)
  go_quiet (fail)
  go_wp2_with fail
  go_ret3
  have hbe := below_dr (Below.refl w.heap.size w) nq
  exact ⟨⟨_, _, ol, og, rfl, H9.out.below hbe, H10.out.below hbe, rfl, rfl, HL.out.i64, HG.out.i64, HL.out.2, HG.out.2⟩, hbe⟩
end
section
variable (l : List Nd) (adv ks : List Int) (A A2 Ak : Option Addr) (c c2 ck g4 g6 : Nat) (view : Int) (w : World)
set_option maxRecDepth 100000 in
set_option maxHeartbeats 1000000 in
theorem clos3_any (ht : TrH w w.heap.size A A2 l adv) (hk : Reads w w.heap.size 1 Ak ks.length (i64s ks)) (hks : ∀ k ∈ ks, 0 ≤ k ∧ k < l.length) (hkn : ks.length ≤ 1000000) (hun : unK l ks ≤ 1000000)
    (h4 : Blk w g4 25 #[.slice A l.length c, .slice A2 adv.length c2, .int .i64 view]) (h6 : Blk w g6 36 #[.slice Ak ks.length ck]) :
    Calls Try.prog 72 #[.pointer (some ⟨g4, 0, none⟩), .pointer (some ⟨g6, 0, none⟩)] w fun e w' => PairAns ((extF (gatherF l adv ks).1).1, (extF (gatherF l adv ks).1).2.1, (gatherF l adv ks).2.2 || (extF (gatherF l adv ks).1).2.2) w w' e := by
  have HGA := Lib.hid (gather_any l adv ks A A2 Ak c c2 ck view w ht hk hks hkn hun)
  have HUN := Lib.hid hun
  have t4 := h4.c3
  have k6 := h6.c1
  clear ht hk hks hkn hun h4 h6
  go_enter Try.func72, Try.ntmps72
  go_wp2_with fail
  refine HGA.out.mono ?_
  rintro e w1 ⟨⟨A4, c4, A5, c5, rfl, hr4, hr5⟩, hb1⟩
  have H1 := Lib.hid (And.intro hr4 hb1)
  clear hr4 hr5 hb1
  go_wp2_with fail
  refine (ext_any (gatherF l adv ks).1 A4 c4 w1 (gat_ws l adv ks) (by have := gat_bd l adv ks; have := HUN.out; omega) H1.out.1).mono ?_
  rintro e w2 ⟨rfl, hb2⟩
  have H2 := Lib.hid (H1.out.2.trans (hb2.mono H1.out.2.size))
  have HEB := Lib.hid (ext_bdc (gatherF l adv ks).1 (gat_cut l adv ks))
  obtain ⟨b1, hb1⟩ : ∃ b1, b1 = (gatherF l adv ks).2.2 := ⟨_, rfl⟩
  obtain ⟨b2, hb2'⟩ : ∃ b2, b2 = (extF (gatherF l adv ks).1).2.2 := ⟨_, rfl⟩
  obtain ⟨n1, hn1⟩ : ∃ n1, n1 = (extF (gatherF l adv ks).1).1 := ⟨_, rfl⟩
  obtain ⟨n2, hn2⟩ : ∃ n2, n2 = (extF (gatherF l adv ks).1).2.1 := ⟨_, rfl⟩
  rw [← hb1, ← hb2', ← hn1, ← hn2]
  rw [← hn1, ← hn2] at HEB
  have HEQ := Lib.hid (And.intro hb1 (And.intro hb2' (And.intro hn1 hn2)))
  clear hb1 hb2' hn1 hn2 hb2
  have hbe : Below w.heap.size w ((w2.alloc (.cells #[.int .i64 n1] 2)).alloc (.cells #[.int .i64 n2] 2)) := (H2.out.alloc H2.out.size _).alloc (by have := H2.out.size; simp; omega) _
  have HBE := Lib.hid hbe
  clear hbe
  obtain ⟨b0, hb0⟩ : ∃ b0, b0 = (b1 || b2) := ⟨_, rfl⟩
  have HB0 := Lib.hid (show b0 = ((gatherF l adv ks).2.2 || (extF (gatherF l adv ks).1).2.2) by rw [hb0, HEQ.out.1, HEQ.out.2.1])
  have HB00 := Lib.hid hb0
  clear hb0
  cases b1
  all_goals
    go_wp2_with fail
    go_ret3
    refine ⟨⟨_, _, [n1], [n2], by rw [← HB0.out, HB00.out]; rfl, ?_, ?_, by simp [HEQ.out.2.2.1], by simp [HEQ.out.2.2.2], fun x hx => by have := HEB.out.1; simp at hx; omega, fun x hx => by have := HEB.out.2; simp at hx; omega, by simp, by simp⟩, HBE.out⟩
    · have h := (SlAt.one w2 n1).below ((Below.refl (w2.heap.size + 1) (w2.alloc (.cells #[.int .i64 n1] 2))).alloc (by simp) (.cells #[.int .i64 n2] 2))
      exact h.more (by simp)
    · have h := SlAt.one (w2.alloc (.cells #[.int .i64 n1] 2)) n2
      simpa using h
end
end Go.Proofs.Ytbopeofglhkffaa
set_option linter.unusedSimpArgs false
set_option linter.unusedVariables false
namespace Go.Proofs.Ytbopeofglhkffaa
open Go.RowKit
attribute [local go_sem] block_of_add
theorem zip_take_succ {a b : List Int} {j : Nat} (h1 : j < a.length) (h2 : j < b.length) : (a.take (j + 1)).zip (b.take (j + 1)) = (a.take j).zip (b.take j) ++ [(a[j], b[j])] := by
  have hz : ∀ n, (a.take n).zip (b.take n) = (a.zip b).take n := fun n => by unfold List.zip; exact (List.take_zipWith ..).symm
  rw [hz, hz, List.take_add_one, List.getElem?_eq_getElem (by rw [List.length_zip]; omega), List.getElem_zip]; rfl
theorem flow_succ (l : List Nd) {a b : List Int} {j : Nat} (h1 : j < a.length) (h2 : j < b.length) : flowF l (a.take (j + 1)) (b.take (j + 1)) = if floatAt l a[j] == 0 then flowF l (a.take j) (b.take j) ++ [b[j]] else flowF l (a.take j) (b.take j) := by
  unfold flowF
  rw [zip_take_succ h1 h2, List.filter_append, List.map_append]
  split
  · rw [List.filter_cons_of_pos (by assumption)]; rfl
  · rw [List.filter_cons_of_neg (by assumption)]; simp
theorem side_succ (l : List Nd) {a b : List Int} {j : Nat} (h1 : j < a.length) (h2 : j < b.length) : sideF l (a.take (j + 1)) (b.take (j + 1)) = if floatAt l a[j] == 0 then sideF l (a.take j) (b.take j) else sideF l (a.take j) (b.take j) ++ [b[j]] := by
  unfold sideF
  rw [zip_take_succ h1 h2, List.filter_append, List.map_append]
  split
  · rename_i h; rw [List.filter_cons_of_neg (by rw [h]; simp)]; simp
  · rename_i h; rw [List.filter_cons_of_pos (by simpa using h)]; rfl
theorem flow_mem {l : List Nd} {a b : List Int} {x : Int} (h : x ∈ flowF l a b) : x ∈ b := by
  unfold flowF at h
  obtain ⟨p, hp, rfl⟩ := List.mem_map.1 h
  exact (List.of_mem_zip (List.mem_filter.1 hp).1).2
theorem side_mem {l : List Nd} {a b : List Int} {x : Int} (h : x ∈ sideF l a b) : x ∈ b := by
  unfold sideF at h
  obtain ⟨p, hp, rfl⟩ := List.mem_map.1 h
  exact (List.of_mem_zip (List.mem_filter.1 hp).1).2
theorem flow_len (l : List Nd) (a b : List Int) : (flowF l a b).length ≤ b.length := by
  unfold flowF; rw [List.length_map]; exact Nat.le_trans (List.length_filter_le _ _) (by rw [List.length_zip]; omega)
theorem side_len (l : List Nd) (a b : List Int) : (sideF l a b).length ≤ b.length := by
  unfold sideF; rw [List.length_map]; exact Nat.le_trans (List.length_filter_le _ _) (by rw [List.length_zip]; omega)
/-- The rows of what flows and what floats. -/
structure FlI (w wr : World) (v7 v8 : Value) (F S : List Int) : Prop where
  o7 : wr.ownsRow w.heap.size 2 1 v7 F.length (i64s F)
  o8 : wr.ownsRow w.heap.size 2 1 v8 S.length (i64s S)
  d7 : v7.ownBlock = none ∨ v7.ownBlock ≠ v8.ownBlock
  d8 : v8.ownBlock = none ∨ v8.ownBlock ≠ v7.ownBlock
  b : Below w.heap.size w wr
theorem FlI.kept {w wr w' : World} {v7 v8 : Value} {F S : List Int} (h : FlI w wr v7 v8 F S) (hb : Below wr.heap.size wr w') : FlI w w' v7 v8 F S :=
  ⟨own_below h.o7 hb, own_below h.o8 hb, h.d7, h.d8, h.b.trans (hb.mono h.b.size)⟩
theorem FlI.flip {w wr : World} {v7 v8 : Value} {F S : List Int} (h : FlI w wr v7 v8 F S) : FlI w wr v8 v7 S F := ⟨h.o8, h.o7, h.d8, h.d7, h.b⟩
theorem FlI.step7 {w W1 w3 : World} {v7 v8 : Value} {F S : List Int} (h : FlI w W1 v7 v8 F S) {x : Int} {A : Option Addr} {c : Nat}
    (ho : w3.ownsRow w.heap.size 2 1 (.slice A (F.length + 1) c) (F.length + 1) (i64s F ++ [.int .i64 x])) (hg : W1.grownBy w3 v7.ownBlock)
    (hob : (Value.slice A (F.length + 1) c).ownBlock = v7.ownBlock ∨ W1.heap.size ≤ ((Value.slice A (F.length + 1) c).ownBlock).getD W1.heap.size) :
    FlI w w3 (.slice A (F.length + 1) c) v8 (F ++ [x]) S := by
  have dd : (Value.slice A (F.length + 1) c).ownBlock = none ∨ (Value.slice A (F.length + 1) c).ownBlock ≠ v8.ownBlock := by
    rcases hob with e | e
    · rw [e]; exact h.d7
    · cases hv : (Value.slice A (F.length + 1) c).ownBlock with
      | none => exact .inl rfl
      | some g => exact .inr (fun e2 => by have := (h.o8.lt g e2.symm).2; rw [hv] at e; simp at e; omega)
  refine ⟨by rw [List.length_append]; simpa [i64s] using ho, h.o8.kept hg h.d8, dd, ?_, h.b.grown hg h.b.size (fun g e => (h.o7.lt g e.symm.symm).1)⟩
  cases hv : v8.ownBlock with
  | none => exact .inl rfl
  | some g => exact .inr (fun e => by
      rcases dd with d | d
      · rw [d] at e; cases e
      · exact d (by rw [← e, hv]))
structure C4S (g4 g6 j n c m c2 kn ck : Nat) (A A2 : Option Addr) (view : Int) (adk : Addr) (k : Int) (W : World) : Prop where
  l4 : g4 < W.heap.size
  l6 : g6 < W.heap.size
  la : adk.block < W.heap.size
  c0 : W.cell? ⟨g4, 0, none⟩ = some (.slice A n c)
  c1 : W.cell? ⟨g4, 1, none⟩ = some (.slice A2 m c2)
  c2 : W.cell? ⟨g4, 2, none⟩ = some (.int .i64 view)
  c6 : W.cell? ⟨g6, 0, none⟩ = some (.slice (some adk) kn ck)
  ck : W.cell? (adk.add j) = some (.int .i64 k)
theorem C4S.below {g4 g6 j n c m c2 kn ck : Nat} {A A2 : Option Addr} {view : Int} {adk : Addr} {k : Int} {W W' : World} (h : C4S g4 g6 j n c m c2 kn ck A A2 view adk k W) (hb : Below W.heap.size W W') : C4S g4 g6 j n c m c2 kn ck A A2 view adk k W' :=
  ⟨Nat.lt_of_lt_of_le h.l4 hb.size, Nat.lt_of_lt_of_le h.l6 hb.size, Nat.lt_of_lt_of_le h.la hb.size, (hb.cell (p := ⟨g4, 0, none⟩) h.l4).trans h.c0, (hb.cell (p := ⟨g4, 1, none⟩) h.l4).trans h.c1, (hb.cell (p := ⟨g4, 2, none⟩) h.l4).trans h.c2, (hb.cell (p := ⟨g6, 0, none⟩) h.l6).trans h.c6, (hb.cell (p := adk.add j) (by rw [block_of_add]; exact h.la)).trans h.ck⟩
section
variable (l : List Nd) (adv ks : List Int) (A A2 Ak : Option Addr) (c c2 ck g4 g6 g9 g10 : Nat) (view : Int) (v9 v10 : Value) (ol og : List Int) (w : World)
set_option maxRecDepth 100000 in
set_option maxHeartbeats 1000000 in
theorem clos4_any (ht : TrH w w.heap.size A A2 l adv) (hk : Reads w w.heap.size 1 Ak ks.length (i64s ks)) (hks : ∀ k ∈ ks, 0 ≤ k ∧ k < l.length) (hkg : og.length = ks.length)
    (h4 : Blk w g4 25 #[.slice A l.length c, .slice A2 adv.length c2, .int .i64 view]) (h6 : Blk w g6 36 #[.slice Ak ks.length ck])
    (hS : TwoS g9 g10 v9 v10 w) (h9 : SlAt w w.heap.size v9 ol) (h10 : SlAt w w.heap.size v10 og) (hol : Ok62 ol) (hog : Ok62 og) :
    Calls Try.prog 75 #[.pointer (some ⟨g10, 0, none⟩), .pointer (some ⟨g4, 0, none⟩), .pointer (some ⟨g6, 0, none⟩), .pointer (some ⟨g9, 0, none⟩)] w fun e w' => PairAns (mostF ol, max (mostF (flowF l ks og)) (sideF l ks og).sum, false) w w' e := by
  have HT := Lib.hid ht
  have HK := Lib.hid hk
  have HKS := Lib.hid hks
  have HKG := Lib.hid hkg
  have HB := Lib.hid (And.intro h4 h6)
  have HTW := Lib.hid hS
  have H9 := Lib.hid h9
  obtain ⟨A10, c10, rfl, hA10, hc10, hr10, _⟩ := h10
  have H10 := Lib.hid hr10
  have HL := Lib.hid hol
  have HG := Lib.hid hog
  have HN := Lib.hid hog.2
  have cc10 := hS.c10
  clear ht hk hks hkg h4 h6 hS h9 hr10 hol hog
  go_enter Try.func75, Try.ntmps75
  go_wp2_with fail
  clear cc10
  go_loopw [7, 8, 9, 10, 13] (fun v7 v8 v9x v10x iv wr => ∃ j : Nat, j ≤ og.length ∧ iv = .int .i64 j ∧ Hid (FlI w wr v7 v8 (flowF l (ks.take j) (og.take j)) (sideF l (ks.take j) (og.take j)))) (fun _ _ _ _ iv _ => og.length - (intOf iv).toNat)
  case atStart => exact ⟨0, by omega, rfl, Lib.hid ⟨⟨rfl, .inl ⟨rfl, rfl⟩⟩, ⟨rfl, .inl ⟨rfl, rfl⟩⟩, .inl rfl, .inl rfl, Below.refl _ _⟩⟩
  case round =>
    obtain ⟨j, hj, rfl, H⟩ := hrel
    have hwj : IntKind.i64.wrap ((j : Int) + 1) = (j : Int) + 1 := IntWalk.i64_in _ ⟨by omega, by have := HN.out; omega⟩
    by_cases hlt : j < og.length
    · have d0 : decide ((j : Int) < (og.length : Int)) = true := decide_eq_true (by omega)
      have d0' : decide (j < og.length) = true := decide_eq_true hlt
      have hjk : j < ks.length := by rw [← HKG.out]; exact hlt
      have d1 : decide ((j : Int) < (ks.length : Int)) = true := decide_eq_true (by omega)
      have d1' : decide (j < ks.length) = true := decide_eq_true hjk
      obtain ⟨hk0, hk1⟩ := HKS.out ks[j] (List.getElem_mem hjk)
      obtain ⟨q, hq⟩ := Int.eq_ofNat_of_zero_le hk0
      have hql : q < l.length := by omega
      obtain ⟨adk, u, hAk, hab, hx, hck⟩ := (HK.out.below H.out.b).at_ hjk
      subst hAk
      have hu : u = .int .i64 (q : Int) := by rw [← hq]; simpa [i64s, hjk] using hx.symm
      subst hu
      obtain ⟨ad10, u10', hA, hab10, hx10, hc⟩ := (H10.out.below H.out.b).at_ hlt
      subst hA
      have hu10 : u10' = .int .i64 og[j] := by simpa [i64s, hlt] using hx10.symm
      subst hu10
      obtain ⟨y, hy⟩ : ∃ y, y = og[j] := ⟨_, rfl⟩
      obtain ⟨s, hs⟩ : ∃ s, s = l[q].s := ⟨_, rfl⟩
      have HFL : Hid (flowF l (ks.take (j + 1)) (og.take (j + 1)) = if s.float == 0 then flowF l (ks.take j) (og.take j) ++ [y] else flowF l (ks.take j) (og.take j)) := Lib.hid (by rw [flow_succ l hjk hlt, hq, hy, hs]; unfold floatAt; rw [styAt_nat hql]; rfl)
      have HSI : Hid (sideF l (ks.take (j + 1)) (og.take (j + 1)) = if s.float == 0 then sideF l (ks.take j) (og.take j) else sideF l (ks.take j) (og.take j) ++ [y]) := Lib.hid (by rw [side_succ l hjk hlt, hq, hy, hs]; unfold floatAt; rw [styAt_nat hql]; rfl)
      rw [← hy] at hc
      have HC4 : Hid (C4S g4 g6 j l.length c adv.length c2 ks.length ck A A2 view adk q wr) := Lib.hid (by
        have ha := HB.out.1.below H.out.b HB.out.1.lt
        have hb := HB.out.2.below H.out.b HB.out.2.lt
        exact ⟨ha.lt, hb.lt, Nat.lt_of_lt_of_le hab H.out.b.size, ha.c3.1, ha.c3.2.1, ha.c3.2.2, hb.c1, hck⟩)
      have HSE := Lib.hid hs
      have hfl : (flowF l (ks.take j) (og.take j)).length + 1 ≤ 4294967296 := by have := flow_len l (ks.take j) (og.take j); rw [List.length_take] at this; have := HN.out; omega
      have hsi : (sideF l (ks.take j) (og.take j)).length + 1 ≤ 4294967296 := by have := side_len l (ks.take j) (og.take j); rw [List.length_take] at this; have := HN.out; omega
      obtain ⟨F, hF⟩ : ∃ F, F = flowF l (ks.take j) (og.take j) := ⟨_, rfl⟩
      obtain ⟨Sd, hSd⟩ : ∃ Sd, Sd = sideF l (ks.take j) (og.take j) := ⟨_, rfl⟩
      rw [← hF] at HFL hfl H
      rw [← hSd] at HSI hsi H
      clear hk0 hk1 hx hx10 hab10 hab hck hs hy hq hF hSd
      go_upto_region 5 with (fail)
      refine wp_region_held_drew (S := C4S g4 g6 j l.length c adv.length c2 ks.length ck A A2 view adk q) (by kernel_rfl) (HC4.out.below (Below.refl _ _).drew) (fun hS => ?_)
      refine wpAnyH_take (i := 0) (v := ?_) rfl (by kernel_rfl) (by kernel_rfl) (by kernel_rfl) (fun _ _ _ h => h) (Or.inl ⟨by rfl, ?_⟩) hS ?_
      rotate_left
      · rintro W' ⟨l4', l6', la', c0', c1', c2', c6', ck'⟩
        go_simp
        rfl
      try simp only [Act.put, List.setIfInBounds_toArray, List.set_cons_zero, List.set_cons_succ, List.getElem_toArray, List.getElem_cons_zero, List.getElem_cons_succ]
      refine wpAnyH_take (i := 1) (v := ?_) rfl (by kernel_rfl) (by kernel_rfl) (by kernel_rfl) (fun _ _ _ h => h) (Or.inl ⟨by rfl, ?_⟩) hS ?_
      rotate_left
      · rintro W' ⟨l4', l6', la', c0', c1', c2', c6', ck'⟩
        go_simp
        rfl
      try simp only [Act.put, List.setIfInBounds_toArray, List.set_cons_zero, List.set_cons_succ, List.getElem_toArray, List.getElem_cons_zero, List.getElem_cons_succ]
      refine wpAnyH_take (i := 2) (v := ?_) rfl (by kernel_rfl) (by kernel_rfl) (by kernel_rfl) (fun _ _ _ h => h) (Or.inl ⟨by rfl, ?_⟩) hS ?_
      rotate_left
      · rintro W' ⟨l4', l6', la', c0', c1', c2', c6', ck'⟩
        go_simp
        rfl
      try simp only [Act.put, List.setIfInBounds_toArray, List.set_cons_zero, List.set_cons_succ, List.getElem_toArray, List.getElem_cons_zero, List.getElem_cons_succ]
      refine wpAnyH_take (i := 3) (v := ?_) rfl (by kernel_rfl) (by kernel_rfl) (by kernel_rfl) (fun _ _ _ h => h) (Or.inl ⟨by rfl, ?_⟩) hS ?_
      rotate_left
      · rintro W' ⟨l4', l6', la', c0', c1', c2', c6', ck'⟩
        go_simp
        rfl
      try simp only [Act.put, List.setIfInBounds_toArray, List.set_cons_zero, List.set_cons_succ, List.getElem_toArray, List.getElem_cons_zero, List.getElem_cons_succ]
      refine wpAnyH_take (i := 4) (v := ?_) rfl (by kernel_rfl) (by kernel_rfl) (by kernel_rfl) (fun _ _ _ h => h) (Or.inl ⟨by rfl, ?_⟩) hS ?_
      rotate_left
      · rintro W' ⟨l4', l6', la', c0', c1', c2', c6', ck'⟩
        go_simp
        rfl
      try simp only [Act.put, List.setIfInBounds_toArray, List.set_cons_zero, List.set_cons_succ, List.getElem_toArray, List.getElem_cons_zero, List.getElem_cons_succ]
      refine wpAnyH_ready (rs := [5]) (by kernel_rfl) (by simp) (AllReadyH.cons rfl (fun K hK => ?_) AllReadyH.nil)
      go_simp
      refine (style_any l adv A A2 c adv.length c2 view _ q hql (HT.out.below (H.out.b.trans (Below.refl _ _).drew) |>.more H.out.b.size)).mono ?_
      rintro e w2 ⟨rfl, hb2⟩
      rw [← HSE.out]
      refine hK.out _ _ (hS.below hb2) (fun hS => ?_)
      try simp only [Act.put, List.setIfInBounds_toArray, List.set_cons_zero, List.set_cons_succ, List.getElem_toArray, List.getElem_cons_zero, List.getElem_cons_succ]
      clear hK
      refine wpAnyH_take (i := 6) (v := ?_) rfl (by kernel_rfl) (by kernel_rfl) (by kernel_rfl) (fun _ _ _ h => h) (Or.inl ⟨by rfl, ?_⟩) hS ?_
      rotate_left
      · rintro W' ⟨l4', l6', la', c0', c1', c2', c6', ck'⟩
        go_simp
        rfl
      try simp only [Act.put, List.setIfInBounds_toArray, List.set_cons_zero, List.set_cons_succ, List.getElem_toArray, List.getElem_cons_zero, List.getElem_cons_succ]
      refine wpAnyH_take (i := 7) (v := ?_) rfl (by kernel_rfl) (by kernel_rfl) (by kernel_rfl) (fun _ _ _ h => h) (Or.inl ⟨by rfl, ?_⟩) hS ?_
      rotate_left
      · rintro W' ⟨l4', l6', la', c0', c1', c2', c6', ck'⟩
        go_simp
        rfl
      try simp only [Act.put, List.setIfInBounds_toArray, List.set_cons_zero, List.set_cons_succ, List.getElem_toArray, List.getElem_cons_zero, List.getElem_cons_succ]
      refine wpAnyH_done (by kernel_rfl) ?_ _
      clear hS
      have HW2 := Lib.hid (H.out.kept ((Below.refl _ _).drew.trans hb2))
      clear hb2
      obtain ⟨A7, c7, h7⟩ := own_form HW2.out.o7
      obtain ⟨A8, c8, h8⟩ := own_form HW2.out.o8
      subst h7 h8
      have HSZ := Lib.hid HW2.out.b.size
      by_cases hf : s.float = 0
      · have f0 : (s.float == 0) = true := beq_iff_eq.2 hf
        have HFF := Lib.hid f0
        clear hf
        go_wp2_with (at_builtin; refine wpList_app (m := 1) rfl _ _ rfl el_i64c HW2.out.o7 HSZ.out rfl [_] rfl (by simp) (by simp [Value.oneCell']) hfl (by omega) ?_; intro A6 c6 w6 hown6 hB6 hg6 hob6; have HO6 := Lib.hid (HW2.out.step7 hown6 hg6 hob6); clear hown6 hB6 hg6 hob6)
        go_roundw
        case rel => exact ⟨j + 1, by omega, by go_num, Lib.hid (by rw [HFL.out, HSI.out, if_pos HFF.out, if_pos HFF.out]; exact HO6.out)⟩
        case measure => simp [intOf]; omega
      · have f0 : (s.float == 0) = false := beq_eq_false_iff_ne.2 hf
        have HFF := Lib.hid (show ¬ (s.float == 0) = true by rw [f0]; simp)
        clear hf
        go_wp2_with (at_builtin; refine wpList_app (m := 1) rfl _ _ rfl el_i64c HW2.out.o8 HSZ.out rfl [_] rfl (by simp) (by simp [Value.oneCell']) hsi (by omega) ?_; intro A6 c6 w6 hown6 hB6 hg6 hob6; have HO6 := Lib.hid ((HW2.out.flip.step7 hown6 hg6 hob6).flip); clear hown6 hB6 hg6 hob6)
        go_roundw
        case rel => exact ⟨j + 1, by omega, by go_num, Lib.hid (by rw [HFL.out, HSI.out, if_neg HFF.out, if_neg HFF.out]; exact HO6.out)⟩
        case measure => simp [intOf]; omega
    · have d0 : decide ((j : Int) < (og.length : Int)) = false := decide_eq_false (by omega)
      have d0' : decide (j < og.length) = false := decide_eq_false hlt
      have HE : Hid (og.take j = og ∧ ks.take j = ks) := Lib.hid ⟨List.take_of_length_le (by omega), List.take_of_length_le (by rw [← HKG.out]; omega)⟩
      rw [HE.out.1, HE.out.2] at H
      obtain ⟨F, hF⟩ : ∃ F, F = flowF l ks og := ⟨_, rfl⟩
      obtain ⟨Sd, hSd⟩ : ∃ Sd, Sd = sideF l ks og := ⟨_, rfl⟩
      have HFB : Hid (Ok62 F ∧ Ok62 Sd) := Lib.hid ⟨⟨fun x hx => HG.out.1 x (flow_mem (hF ▸ hx)), by have := flow_len l ks og; rw [hF]; have := HN.out; omega⟩, ⟨fun x hx => HG.out.1 x (side_mem (hSd ▸ hx)), by have := side_len l ks og; rw [hSd]; have := HN.out; omega⟩⟩
      rw [← hF, ← hSd] at H
      have HFE := Lib.hid (And.intro hF hSd)
      clear hF hSd
      have c9w := (H.out.b.cell (p := ⟨g9, 0, none⟩) HTW.out.l9).trans HTW.out.c9
      go_wp2_with fail
      refine (most_sl ol v9 _ HL.out.2 ((H9.out.below H.out.b).more H.out.b.size)).mono ?_
      rintro e w5 ⟨rfl, rfl⟩
      have HS7 := Lib.hid ((SlAt.own H.out.o7).below ((Below.refl wr.heap.size wr).alloc (Nat.le_refl _) (.cells #[.int .i64 (mostF ol)] 2)))
      have HS8 := Lib.hid ((SlAt.own H.out.o8).below ((Below.refl wr.heap.size wr).alloc (Nat.le_refl _) (.cells #[.int .i64 (mostF ol)] 2)))
      clear c9w
      go_wp2_with fail
      refine (most_sl F _ _ HFB.out.1.2 (HS7.out.more (by simp))).mono ?_
      rintro e w5 ⟨rfl, rfl⟩
      have HW6 : Hid (Below w.heap.size w ((wr.alloc (.cells #[.int .i64 (mostF ol)] 2)).alloc (.cells #[.int .i64 (mostF F)] 2))) := Lib.hid ((H.out.b.alloc H.out.b.size _).alloc (by have := H.out.b.size; simp; omega) _)
      have HM1 := Lib.hid (((SlAt.one wr (mostF ol)).below ((Below.refl _ _).alloc (by simp) (.cells #[.int .i64 (mostF F)] 2))).more (B' := wr.heap.size + 1 + 1) (by omega))
      have HM2 := Lib.hid (SlAt.one (wr.alloc (.cells #[.int .i64 (mostF ol)] 2)) (mostF F))
      have HM8 := Lib.hid (HS8.out.below ((Below.refl _ _).alloc (by simp) (.cells #[.int .i64 (mostF F)] 2)))
      go_wp2_with fail
      refine (greater_any [mostF F] Sd _ _ _ (fun x hx => by have := mostF_i64 HFB.out.1; simp at hx; omega) HFB.out.2.1 (by simp) HFB.out.2.2 (by simpa using HM2.out) (HM8.out.more (by simp; omega))).mono ?_
      rintro e w9 ⟨hg, hb9⟩
      have HB9 := Lib.hid hb9
      have HG9 := Lib.hid hg
      have hmx : [mostF F].sum = mostF F := by simp
      rcases hg with ⟨hlt2, rfl⟩ | ⟨hlt2, rfl⟩
      · have HLT := Lib.hid hlt2
        clear hlt2 hb9 hmx
        go_wp2_with fail
        go_ret3
        refine ⟨⟨_, _, [mostF ol], Sd, rfl, ?_, ?_, by simp, ?_, fun x hx => by have := mostF_i64 HL.out; simp at hx; omega, HFB.out.2.i64, by simp, HFB.out.2.2⟩, HW6.out.trans (HB9.out.mono HW6.out.size)⟩
        · exact (HM1.out.below (HB9.out.mono (by simp))).more (by have := HB9.out.size; simp at this; omega)
        · exact (HM8.out.below (HB9.out.mono (by simp; omega))).more (by have := HB9.out.size; simp at this; omega)
        · rw [← HFE.out.1, ← HFE.out.2]; have h := HLT.out; rw [show [mostF F].sum = mostF F by simp] at h; dsimp only; omega
      · have HLT := Lib.hid hlt2
        clear hlt2 hb9 hmx
        go_wp2_with fail
        go_ret3
        refine ⟨⟨_, _, [mostF ol], [mostF F], rfl, ?_, ?_, by simp, ?_, fun x hx => by have := mostF_i64 HL.out; simp at hx; omega, fun x hx => by have := mostF_i64 HFB.out.1; simp at hx; omega, by simp, by simp⟩, HW6.out.trans (HB9.out.mono HW6.out.size)⟩
        · exact (HM1.out.below (HB9.out.mono (by simp))).more (by have := HB9.out.size; simp at this; omega)
        · exact ((show SlAt ((wr.alloc (.cells #[.int .i64 (mostF ol)] 2)).alloc (.cells #[.int .i64 (mostF F)] 2)) (wr.heap.size + 1 + 1) (.slice (some ⟨wr.heap.size + 1, 0, none⟩) 1 1) [mostF F] by simpa using HM2.out).below (HB9.out.mono (by simp))).more (by have := HB9.out.size; simp at this; omega)
        · rw [← HFE.out.1, ← HFE.out.2]; have h := HLT.out; rw [show [mostF F].sum = mostF F by simp] at h; simp; omega
end
end Go.Proofs.Ytbopeofglhkffaa
