/- The examples of chapter 19. -/
import Derived.Test.YtdnpobfnkdllmaaItg
import Derived.Test.YtdnpobfnkdllmaaBld
import Derived.Test.YtdnpobfnkdllmaaRgh
set_option linter.unusedSimpArgs false
set_option linter.unusedVariables false
namespace Go.Proofs.Ytdnpobfnkdllmaa
open Go.RowKit
attribute [local go_sem] block_of_add

def nil0 : Value := .slice none 0 0
def flexS : Sty := { itemS 0 0 0 nil0 with kind := 2, basis := l00 }
set_option maxRecDepth 100000 in
set_option maxHeartbeats 1000000 in
theorem item_any (b g sh : Int) (w : World) : Calls Try.prog 13 #[.int .i64 b, .int .i64 g, .int .i64 sh] w (AnsB (.agg (styCells (itemS b g sh nil0)).toArray) w) := by
  have HB := Lib.hid (Blk.new w 32 (styCells (itemS b g sh nil0)).toArray)
  have HO := Lib.hid (Sty.one (itemS b g sh nil0) (A := none) (n := 0) (c := 0) rfl)
  go_enter Try.func13, Try.ntmps13
  go_wp2_with (first
    | refine wpList_build rfl 32 #[(0, .const (.int .u8 1)), (21, .tmp 8), (19, .tmp 9), (20, .tmp 10)] rfl (.agg (styCells (itemS b g sh nil0)).toArray) (by kernel_rfl) ?_
    | refine wpList_store_new rfl 32 _ _ rfl w.heap.size rfl (styCells (itemS b g sh nil0)).toArray rfl rfl 32 _ (by kernel_rfl) rfl HO.out ?_)
  refine bodyPost_ret (results_cell_row rfl _ _ w.heap.size 32 (styCells (itemS b g sh nil0)).toArray (0, 0) _ rfl HB.out Try.underlying32 rfl (by kernel_rfl)) rfl ?_
  exact ⟨rfl, bal (Below.refl _ _) _⟩
theorem used_a : usedT (mainsM flexS 100 [itemS 20 1 0 nil0, itemS 30 2 0 nil0] [] 0) = (37, 0, 0) ∧ usedT (mainsM flexS 100 [itemS 20 1 0 nil0, itemS 30 2 0 nil0] [] 1) = (63, 0, 0) := by decide +kernel
theorem used_b : usedT (mainsM flexS 100 [itemS 80 0 1 nil0, itemS 60 0 1 nil0] [] 0) = (57, 0, 0) ∧ usedT (mainsM flexS 100 [itemS 80 0 1 nil0, itemS 60 0 1 nil0] [] 1) = (43, 0, 0) := by decide +kernel
def smallS : Sty := { itemS 30 2 0 nil0 with maxw := ⟨1, 50⟩ }
theorem used_c : usedT (mainsM flexS 100 [itemS 20 1 0 nil0, smallS] [] 0) = (50, 0, 0) ∧ usedT (mainsM flexS 100 [itemS 20 1 0 nil0, smallS] [] 1) = (50, 0, 0) := by decide +kernel
theorem l00M : LnM l00 := ⟨by decide, fun h => by cases h⟩
theorem itemX {b g sh : Int} (hb : 0 ≤ b ∧ b ≤ 1099511627776) (hg : 0 ≤ g ∧ g ≤ 60) (hs : 0 ≤ sh ∧ sh ≤ 60) : StX (itemS b g sh nil0) := by
  have h0 : (0 : Int) ≤ 0 ∧ (0 : Int) ≤ 1099511627776 := by decide
  have h1 : (-1099511627776 : Int) ≤ 0 ∧ (0 : Int) ≤ 1099511627776 := by decide
  refine ⟨⟨l00M, l00M, l00M, ⟨⟨by have := hb.1; show -1099511627776 ≤ b; omega, hb.2⟩, fun h => by cases h⟩, l00M, l00M, ?_⟩, hg, hs⟩
  exact ⟨h0, h0, h0, h1, h1, h0, h0, h0, h0⟩
theorem smallX : StX smallS := by
  have h := (itemX (b := 30) (g := 2) (sh := 0) (by decide) (by decide) (by decide))
  exact ⟨⟨h.m.m1, h.m.m3, h.m.w, h.m.basis, ⟨by decide, fun h => by cases h⟩, h.m.minw, ⟨h.m.b.w, by decide, h.m.b.minw, h.m.b.m1, h.m.b.m3, h.m.b.b1, h.m.b.b3, h.m.b.p1, h.m.b.p3⟩⟩, h.grow, h.shrink⟩
/-- Mains of two styles that lie in memory. -/
theorem mains_two (x y : Sty) (hx : StX x) (hy : StX y) (hux : x.uv = nil0) (huy : y.uv = nil0) (w : World) (g : Nat) (hg : g < w.heap.size) (hb : Blk w g 32 (stysCells [x, y]).toArray) (a b : Int) (ha : usedT (mainsM flexS 100 [x, y] [] 0) = (a, 0, 0)) (hb2 : usedT (mainsM flexS 100 [x, y] [] 1) = (b, 0, 0)) :
    Calls Try.prog 14 #[.agg (styCells flexS).toArray, .int .i64 100, .slice (some ⟨g, 0, none⟩) 2 2, .slice none 0 0] w fun e w' => (∃ gu gb, e = .returned (.tuple #[.slice (some ⟨gu, 0, none⟩) 2 2, .slice (some ⟨gb, 0, none⟩) 2 2]) ∧ Blk w' gu 39 #[.int .i64 a, .int .i64 0, .int .i64 0, .int .i64 b, .int .i64 0, .int .i64 0] ∧ w.heap.size ≤ gu) ∧ Below w.heap.size w w' := by
  have hr : Reads w w.heap.size 43 (some ⟨g, 0, none⟩) 2 (stysCells [x, y]) := by
    refine ⟨rfl, fun _ => ⟨_, rfl, hg, fun j v hv => ?_⟩⟩
    have := hb.get j (by rw [List.getElem?_toArray]; exact hv)
    rcases j with _ | j
    · exact this
    · simpa [Addr.add] using this
  refine (mains_any flexS 100 [x, y] [] (some ⟨g, 0, none⟩) none 2 0 w (by simp) hr (fun s hs => ?_) Reads.none_ ⟨by decide⟩ (fun s hs => ?_) (fun s hs => by simp at hs)).mono fun e w' h => ?_
  · simp only [List.mem_cons, List.not_mem_nil, or_false] at hs
    rcases hs with rfl | rfl
    · exact ⟨_, _, _, hux⟩
    · exact ⟨_, _, _, huy⟩
  · simp only [List.mem_cons, List.not_mem_nil, or_false] at hs
    rcases hs with rfl | rfl
    · exact hx
    · exact hy
  · obtain ⟨⟨gu, gb, h1, h2, h3, h4, h5⟩, h6⟩ := h
    refine ⟨⟨gu, gb, h1, ?_, h4⟩, h6⟩
    have e : (triC (fun k => usedT (mainsM flexS 100 [x, y] [] k)) [x, y].length).toArray = #[.int .i64 a, .int .i64 0, .int .i64 0, .int .i64 b, .int .i64 0, .int .i64 0] := by
      show (triC (fun k => usedT (mainsM flexS 100 [x, y] [] k)) 2).toArray = _
      rw [show (2 : Nat) = 0 + 1 + 1 from rfl, triC_succ, triC_succ]
      simp [triC, ha, hb2]
    rw [e] at h2; exact h2
set_option maxRecDepth 100000 in
set_option maxHeartbeats 4000000 in
theorem works19_any (w : World) : Calls Try.prog 12 #[] w fun e w' => e = .returned (.bool true) ∧ Below w.heap.size w w' := by
  have HOF := Lib.hid (Sty.one flexS (A := none) (n := 0) (c := 0) rfl)
  have HOS := Lib.hid (Sty.one (itemS 30 2 0 nil0) (A := none) (n := 0) (c := 0) rfl)
  go_enter Try.func12, Try.ntmps12
  go_upto_region 2 with (first
    | refine wpList_build rfl 32 #[(0, .const (.int .u8 2))] rfl (.agg (styCells flexS).toArray) (by kernel_rfl) ?_
    | refine wpList_store_new rfl 32 _ _ rfl w.heap.size rfl (styCells flexS).toArray rfl rfl 32 _ (by kernel_rfl) rfl HOF.out ?_)
  have HB1 := Lib.hid (And.intro (show Below w.heap.size w (w.alloc (.cells (styCells flexS).toArray 32)) from bal (Below.refl _ _) _) (Blk.new w 32 (styCells flexS).toArray))
  obtain ⟨w1, hw1⟩ : ∃ w1, w1 = w.alloc (.cells (styCells flexS).toArray 32) := ⟨_, rfl⟩
  rw [← hw1] at HB1 ⊢
  clear hw1
  have E0 : Below w1.heap.size w1 w1.drew := (Below.refl _ _).drew
  refine wp_region_held_drew (S := fun W' => Below w1.heap.size w1 W') (by kernel_rfl) E0 (fun hS => ?_)
  refine wpAnyH_take (i := 0) (v := .agg (styCells flexS).toArray) rfl (by kernel_rfl) (by kernel_rfl) (by kernel_rfl) (fun _ _ _ h => h) ?_ hS ?_
  · exact yieldsIf_load_mid (by rfl) 32 (.tmp 1) rfl w.heap.size 0 rfl (styCells flexS) _ (fun W' hS' => sty_rngB (HB1.out.2.below hS' HB1.out.2.lt)) Try.underlying32 rfl (by kernel_rfl)
  try simp only [Act.put, List.setIfInBounds_toArray, List.set_cons_zero, List.set_cons_succ, List.getElem_toArray, List.getElem_cons_zero, List.getElem_cons_succ]
  refine wpAnyH_call (i := 1) (v := .agg (styCells (itemS 20 1 0 nil0)).toArray) rfl (by kernel_rfl) (givesC_call (by rfl) _ _ (fun _ => by first | rfl | kernel_rfl) (fun W' hS' => (item_any 20 1 0 W').mono fun e w' h => ⟨h.1, hS'.trans (h.2.mono hS'.size)⟩)) hS ?_
  clear hS E0
  intro wB hS
  try simp only [Act.put, List.setIfInBounds_toArray, List.set_cons_zero, List.set_cons_succ, List.getElem_toArray, List.getElem_cons_zero, List.getElem_cons_succ]
  refine wpAnyH_call (i := 2) (v := .agg (styCells (itemS 30 2 0 nil0)).toArray) rfl (by kernel_rfl) (givesC_call (by rfl) _ _ (fun _ => by first | rfl | kernel_rfl) (fun W' hS' => (item_any 30 2 0 W').mono fun e w' h => ⟨h.1, hS'.trans (h.2.mono hS'.size)⟩)) hS ?_
  clear hS
  intro wA hS
  try simp only [Act.put, List.setIfInBounds_toArray, List.set_cons_zero, List.set_cons_succ, List.getElem_toArray, List.getElem_cons_zero, List.getElem_cons_succ]
  refine wpAnyH_one (i := 3) (.slice (some ⟨wA.heap.size, 0, none⟩) 2 2) (wA.alloc (.cells (stysCells [itemS 20 1 0 nil0, itemS 30 2 0 nil0]).toArray 32)) rfl (by kernel_rfl) (by rfl) (by kernel_rfl) (bal hS _) (fun hS => ?_)
  try simp only [Act.put, List.setIfInBounds_toArray, List.set_cons_zero, List.set_cons_succ, List.getElem_toArray, List.getElem_cons_zero, List.getElem_cons_succ]
  have HM := Lib.hid (mains_two (itemS 20 1 0 nil0) (itemS 30 2 0 nil0) (itemX (by decide) (by decide) (by decide)) (itemX (by decide) (by decide) (by decide)) rfl rfl (wA.alloc (.cells (stysCells [itemS 20 1 0 nil0, itemS 30 2 0 nil0]).toArray 32)) wA.heap.size (by simp) (Blk.new _ _ _) 37 63 used_a.1 used_a.2)
  have HSZ := Lib.hid (show w1.heap.size ≤ (wA.alloc (.cells (stysCells [itemS 20 1 0 nil0, itemS 30 2 0 nil0]).toArray 32)).heap.size from hS.size)
  refine wpAnyH_ready (rs := [4]) (by kernel_rfl) (by simp) (AllReadyH.cons rfl (fun K hK => ?_) AllReadyH.nil)
  go_simp
  refine HM.out.mono ?_
  rintro e w2 ⟨⟨guw2, gbw2, rfl, hu, hge⟩, hb⟩
  have H2 := Lib.hid (And.intro hu (And.intro (show w1.heap.size ≤ guw2 from Nat.le_trans HSZ.out hge) (show Below w1.heap.size w1 w2 from hS.trans (hb.mono HSZ.out))))
  clear hu hge hb HM
  refine hK.out _ _ H2.out.2.2 (fun hS => ?_)
  try simp only [Act.put, List.setIfInBounds_toArray, List.set_cons_zero, List.set_cons_succ, List.getElem_toArray, List.getElem_cons_zero, List.getElem_cons_succ]
  clear hK
  refine wpAnyH_take (i := 5) (v := ?_) rfl (by kernel_rfl) (by kernel_rfl) (by kernel_rfl) (fun _ _ _ h => h) (Or.inl ⟨by rfl, ?_⟩) hS ?_
  rotate_left
  · intro W' hS'
    go_simp
    rfl
  try simp only [Act.put, List.setIfInBounds_toArray, List.set_cons_zero, List.set_cons_succ, List.getElem_toArray, List.getElem_cons_zero, List.getElem_cons_succ]
  refine wpAnyH_take (i := 6) (v := ?_) rfl (by kernel_rfl) (by kernel_rfl) (by kernel_rfl) (fun _ _ _ h => h) (Or.inl ⟨by rfl, ?_⟩) hS ?_
  rotate_left
  · intro W' hS'
    go_simp
    rfl
  try simp only [Act.put, List.setIfInBounds_toArray, List.set_cons_zero, List.set_cons_succ, List.getElem_toArray, List.getElem_cons_zero, List.getElem_cons_succ]
  refine wpAnyH_take (i := 7) (v := ?_) rfl (by kernel_rfl) (by kernel_rfl) (by kernel_rfl) (fun _ _ _ h => h) (Or.inl ⟨by rfl, ?_⟩) hS ?_
  rotate_left
  · intro W' hS'
    go_simp
    rfl
  try simp only [Act.put, List.setIfInBounds_toArray, List.set_cons_zero, List.set_cons_succ, List.getElem_toArray, List.getElem_cons_zero, List.getElem_cons_succ]
  refine wpAnyH_take (i := 8) (v := ?_) rfl (by kernel_rfl) (by kernel_rfl) (by kernel_rfl) (fun _ _ _ h => h) (Or.inl ⟨by rfl, ?_⟩) hS ?_
  rotate_left
  · intro W' hS'
    go_simp
    rfl
  try simp only [Act.put, List.setIfInBounds_toArray, List.set_cons_zero, List.set_cons_succ, List.getElem_toArray, List.getElem_cons_zero, List.getElem_cons_succ]
  refine wpAnyH_take (i := 9) (v := ?_) rfl (by kernel_rfl) (by kernel_rfl) (by kernel_rfl) (fun _ _ _ h => h) (Or.inl ⟨by rfl, ?_⟩) hS ?_
  rotate_left
  · intro W' hS'
    go_simp
    rfl
  try simp only [Act.put, List.setIfInBounds_toArray, List.set_cons_zero, List.set_cons_succ, List.getElem_toArray, List.getElem_cons_zero, List.getElem_cons_succ]
  refine wpAnyH_done (by kernel_rfl) ?_ _
  clear HSZ
  have HB2 := Lib.hid (And.intro (HB1.out.1.trans (H2.out.2.2.mono HB1.out.1.size)) (HB1.out.2.below H2.out.2.2 HB1.out.2.lt))
  clear hS
  go_upto_region 3 with (fail)
  have E0 : Below w2.heap.size w2 w2.drew := (Below.refl _ _).drew
  refine wp_region_held_drew (S := fun W' => Below w2.heap.size w2 W') (by kernel_rfl) E0 (fun hS => ?_)
  refine wpAnyH_take (i := 0) (v := .agg (styCells flexS).toArray) rfl (by kernel_rfl) (by kernel_rfl) (by kernel_rfl) (fun _ _ _ h => h) ?_ hS ?_
  · exact yieldsIf_load_mid (by rfl) 32 (.tmp 1) rfl w.heap.size 0 rfl (styCells flexS) _ (fun W' hS' => sty_rngB (HB2.out.2.below hS' HB2.out.2.lt)) Try.underlying32 rfl (by kernel_rfl)
  try simp only [Act.put, List.setIfInBounds_toArray, List.set_cons_zero, List.set_cons_succ, List.getElem_toArray, List.getElem_cons_zero, List.getElem_cons_succ]
  refine wpAnyH_call (i := 1) (v := .agg (styCells (itemS 80 0 1 nil0)).toArray) rfl (by kernel_rfl) (givesC_call (by rfl) _ _ (fun _ => by first | rfl | kernel_rfl) (fun W' hS' => (item_any 80 0 1 W').mono fun e w' h => ⟨h.1, hS'.trans (h.2.mono hS'.size)⟩)) hS ?_
  clear hS E0
  intro wB hS
  try simp only [Act.put, List.setIfInBounds_toArray, List.set_cons_zero, List.set_cons_succ, List.getElem_toArray, List.getElem_cons_zero, List.getElem_cons_succ]
  refine wpAnyH_call (i := 2) (v := .agg (styCells (itemS 60 0 1 nil0)).toArray) rfl (by kernel_rfl) (givesC_call (by rfl) _ _ (fun _ => by first | rfl | kernel_rfl) (fun W' hS' => (item_any 60 0 1 W').mono fun e w' h => ⟨h.1, hS'.trans (h.2.mono hS'.size)⟩)) hS ?_
  clear hS
  intro wA hS
  try simp only [Act.put, List.setIfInBounds_toArray, List.set_cons_zero, List.set_cons_succ, List.getElem_toArray, List.getElem_cons_zero, List.getElem_cons_succ]
  refine wpAnyH_one (i := 3) (.slice (some ⟨wA.heap.size, 0, none⟩) 2 2) (wA.alloc (.cells (stysCells [itemS 80 0 1 nil0, itemS 60 0 1 nil0]).toArray 32)) rfl (by kernel_rfl) (by rfl) (by kernel_rfl) (bal hS _) (fun hS => ?_)
  try simp only [Act.put, List.setIfInBounds_toArray, List.set_cons_zero, List.set_cons_succ, List.getElem_toArray, List.getElem_cons_zero, List.getElem_cons_succ]
  have HM := Lib.hid (mains_two (itemS 80 0 1 nil0) (itemS 60 0 1 nil0) (itemX (by decide) (by decide) (by decide)) (itemX (by decide) (by decide) (by decide)) rfl rfl (wA.alloc (.cells (stysCells [itemS 80 0 1 nil0, itemS 60 0 1 nil0]).toArray 32)) wA.heap.size (by simp) (Blk.new _ _ _) 57 43 used_b.1 used_b.2)
  have HSZ := Lib.hid (show w2.heap.size ≤ (wA.alloc (.cells (stysCells [itemS 80 0 1 nil0, itemS 60 0 1 nil0]).toArray 32)).heap.size from hS.size)
  refine wpAnyH_ready (rs := [4]) (by kernel_rfl) (by simp) (AllReadyH.cons rfl (fun K hK => ?_) AllReadyH.nil)
  go_simp
  refine HM.out.mono ?_
  rintro e w3 ⟨⟨guw3, gbw3, rfl, hu, hge⟩, hb⟩
  have H3 := Lib.hid (And.intro hu (And.intro (show w2.heap.size ≤ guw3 from Nat.le_trans HSZ.out hge) (show Below w2.heap.size w2 w3 from hS.trans (hb.mono HSZ.out))))
  clear hu hge hb HM
  refine hK.out _ _ H3.out.2.2 (fun hS => ?_)
  try simp only [Act.put, List.setIfInBounds_toArray, List.set_cons_zero, List.set_cons_succ, List.getElem_toArray, List.getElem_cons_zero, List.getElem_cons_succ]
  clear hK
  refine wpAnyH_take (i := 5) (v := ?_) rfl (by kernel_rfl) (by kernel_rfl) (by kernel_rfl) (fun _ _ _ h => h) (Or.inl ⟨by rfl, ?_⟩) hS ?_
  rotate_left
  · intro W' hS'
    go_simp
    rfl
  try simp only [Act.put, List.setIfInBounds_toArray, List.set_cons_zero, List.set_cons_succ, List.getElem_toArray, List.getElem_cons_zero, List.getElem_cons_succ]
  refine wpAnyH_take (i := 6) (v := ?_) rfl (by kernel_rfl) (by kernel_rfl) (by kernel_rfl) (fun _ _ _ h => h) (Or.inl ⟨by rfl, ?_⟩) hS ?_
  rotate_left
  · intro W' hS'
    go_simp
    rfl
  try simp only [Act.put, List.setIfInBounds_toArray, List.set_cons_zero, List.set_cons_succ, List.getElem_toArray, List.getElem_cons_zero, List.getElem_cons_succ]
  refine wpAnyH_take (i := 7) (v := ?_) rfl (by kernel_rfl) (by kernel_rfl) (by kernel_rfl) (fun _ _ _ h => h) (Or.inl ⟨by rfl, ?_⟩) hS ?_
  rotate_left
  · intro W' hS'
    go_simp
    rfl
  try simp only [Act.put, List.setIfInBounds_toArray, List.set_cons_zero, List.set_cons_succ, List.getElem_toArray, List.getElem_cons_zero, List.getElem_cons_succ]
  refine wpAnyH_take (i := 8) (v := ?_) rfl (by kernel_rfl) (by kernel_rfl) (by kernel_rfl) (fun _ _ _ h => h) (Or.inl ⟨by rfl, ?_⟩) hS ?_
  rotate_left
  · intro W' hS'
    go_simp
    rfl
  try simp only [Act.put, List.setIfInBounds_toArray, List.set_cons_zero, List.set_cons_succ, List.getElem_toArray, List.getElem_cons_zero, List.getElem_cons_succ]
  refine wpAnyH_take (i := 9) (v := ?_) rfl (by kernel_rfl) (by kernel_rfl) (by kernel_rfl) (fun _ _ _ h => h) (Or.inl ⟨by rfl, ?_⟩) hS ?_
  rotate_left
  · intro W' hS'
    go_simp
    rfl
  try simp only [Act.put, List.setIfInBounds_toArray, List.set_cons_zero, List.set_cons_succ, List.getElem_toArray, List.getElem_cons_zero, List.getElem_cons_succ]
  refine wpAnyH_done (by kernel_rfl) ?_ _
  clear HSZ
  have HB3 := Lib.hid (And.intro (HB2.out.1.trans (H3.out.2.2.mono HB2.out.1.size)) (And.intro (HB2.out.2.below H3.out.2.2 HB2.out.2.lt) (H2.out.1.below H3.out.2.2 H2.out.1.lt)))
  clear hS
  go_upto_region 4 with (fail)
  go_upto_region 5 with (first
    | (go_at_call 13; refine (item_any 30 2 0 _).mono ?_; rintro e w4 ⟨rfl, hb4⟩; have H4 := Lib.hid hb4; clear hb4)
    | refine wpList_store_new rfl 32 _ _ rfl _ rfl (styCells (itemS 30 2 0 nil0)).toArray rfl rfl 32 _ (by kernel_rfl) rfl HOS.out ?_)
  obtain ⟨gs, hgs⟩ : ∃ gs, gs = w4.heap.size := ⟨_, rfl⟩
  have HB4 : Hid (Below w3.heap.size w3 (w4.alloc (.cells (styCells (itemS 30 2 0 nil0)).toArray 32)) ∧ Blk (w4.alloc (.cells (styCells (itemS 30 2 0 nil0)).toArray 32)) gs 32 (styCells (itemS 30 2 0 nil0)).toArray ∧ w3.heap.size ≤ gs) := Lib.hid ⟨bal H4.out _, Blk.at_ _ _ _ hgs, by rw [hgs]; exact H4.out.size⟩
  rw [← hgs]
  obtain ⟨w5, hw5⟩ : ∃ w5, w5 = (w4.alloc (.cells (styCells (itemS 30 2 0 nil0)).toArray 32)) := ⟨_, rfl⟩
  rw [← hw5] at HB4 ⊢
  clear hw5 hgs
  have q1 := HB4.out.2.1.get 10 rfl
  have q2 := HB4.out.2.1.get 11 rfl
  have q3 := HB4.out.2.1.frozen 10
  have q4 := HB4.out.2.1.frozen 11
  go_upto_region 6 with (fail)
  clear q1 q2 q3 q4
  have HB6 : Hid (Below w3.heap.size w3 ((w5.setCell ⟨gs, 10, none⟩ (.int .u8 1)).setCell ⟨gs, 11, none⟩ (.int .i64 50)) ∧ Blk ((w5.setCell ⟨gs, 10, none⟩ (.int .u8 1)).setCell ⟨gs, 11, none⟩ (.int .i64 50)) gs 32 (styCells smallS).toArray) := Lib.hid
    ⟨(HB4.out.1.setCell HB4.out.2.2 _).setCell HB4.out.2.2 _, (HB4.out.2.1.set_ 10 _).set_ 11 _⟩
  obtain ⟨w6, hw6⟩ : ∃ w6, w6 = (w5.setCell ⟨gs, 10, none⟩ (.int .u8 1)).setCell ⟨gs, 11, none⟩ (.int .i64 50) := ⟨_, rfl⟩
  rw [← hw6] at HB6 ⊢
  clear hw6
  have HC6 := Lib.hid (And.intro (HB3.out.1.trans (HB6.out.1.mono HB3.out.1.size)) (And.intro (HB3.out.2.1.below HB6.out.1 HB3.out.2.1.lt) (And.intro (HB3.out.2.2.below HB6.out.1 HB3.out.2.2.lt) (H3.out.1.below HB6.out.1 H3.out.1.lt))))
  have E0 : Below w6.heap.size w6 w6.drew := (Below.refl _ _).drew
  refine wp_region_held_drew (S := fun W' => Below w6.heap.size w6 W') (by kernel_rfl) E0 (fun hS => ?_)
  refine wpAnyH_take (i := 0) (v := .agg (styCells flexS).toArray) rfl (by kernel_rfl) (by kernel_rfl) (by kernel_rfl) (fun _ _ _ h => h) ?_ hS ?_
  · exact yieldsIf_load_mid (by rfl) 32 (.tmp 1) rfl w.heap.size 0 rfl (styCells flexS) _ (fun W' hS' => sty_rngB (HC6.out.2.1.below hS' HC6.out.2.1.lt)) Try.underlying32 rfl (by kernel_rfl)
  try simp only [Act.put, List.setIfInBounds_toArray, List.set_cons_zero, List.set_cons_succ, List.getElem_toArray, List.getElem_cons_zero, List.getElem_cons_succ]
  refine wpAnyH_take (i := 2) (v := .agg (styCells smallS).toArray) rfl (by kernel_rfl) (by kernel_rfl) (by kernel_rfl) (fun _ _ _ h => h) ?_ hS ?_
  · exact yieldsIf_load_mid (by rfl) 32 (.tmp 6) rfl gs 0 rfl (styCells smallS) _ (fun W' hS' => sty_rngB (HB6.out.2.below hS' HB6.out.2.lt)) Try.underlying32 rfl (by kernel_rfl)
  try simp only [Act.put, List.setIfInBounds_toArray, List.set_cons_zero, List.set_cons_succ, List.getElem_toArray, List.getElem_cons_zero, List.getElem_cons_succ]
  refine wpAnyH_call (i := 1) (v := .agg (styCells (itemS 20 1 0 nil0)).toArray) rfl (by kernel_rfl) (givesC_call (by rfl) _ _ (fun _ => by first | rfl | kernel_rfl) (fun W' hS' => (item_any 20 1 0 W').mono fun e w' h => ⟨h.1, hS'.trans (h.2.mono hS'.size)⟩)) hS ?_
  clear hS E0
  intro wA hS
  try simp only [Act.put, List.setIfInBounds_toArray, List.set_cons_zero, List.set_cons_succ, List.getElem_toArray, List.getElem_cons_zero, List.getElem_cons_succ]
  refine wpAnyH_one (i := 3) (.slice (some ⟨wA.heap.size, 0, none⟩) 2 2) (wA.alloc (.cells (stysCells [itemS 20 1 0 nil0, smallS]).toArray 32)) rfl (by kernel_rfl) (by rfl) (by kernel_rfl) (bal hS _) (fun hS => ?_)
  try simp only [Act.put, List.setIfInBounds_toArray, List.set_cons_zero, List.set_cons_succ, List.getElem_toArray, List.getElem_cons_zero, List.getElem_cons_succ]
  have HM := Lib.hid (mains_two (itemS 20 1 0 nil0) (smallS) (itemX (by decide) (by decide) (by decide)) smallX rfl rfl (wA.alloc (.cells (stysCells [itemS 20 1 0 nil0, smallS]).toArray 32)) wA.heap.size (by simp) (Blk.new _ _ _) 50 50 used_c.1 used_c.2)
  have HSZ := Lib.hid (show w6.heap.size ≤ (wA.alloc (.cells (stysCells [itemS 20 1 0 nil0, smallS]).toArray 32)).heap.size from hS.size)
  refine wpAnyH_ready (rs := [4]) (by kernel_rfl) (by simp) (AllReadyH.cons rfl (fun K hK => ?_) AllReadyH.nil)
  go_simp
  refine HM.out.mono ?_
  rintro e w7 ⟨⟨guw7, gbw7, rfl, hu, hge⟩, hb⟩
  have H7 := Lib.hid (And.intro hu (And.intro (show w6.heap.size ≤ guw7 from Nat.le_trans HSZ.out hge) (show Below w6.heap.size w6 w7 from hS.trans (hb.mono HSZ.out))))
  clear hu hge hb HM
  refine hK.out _ _ H7.out.2.2 (fun hS => ?_)
  try simp only [Act.put, List.setIfInBounds_toArray, List.set_cons_zero, List.set_cons_succ, List.getElem_toArray, List.getElem_cons_zero, List.getElem_cons_succ]
  clear hK
  refine wpAnyH_take (i := 5) (v := ?_) rfl (by kernel_rfl) (by kernel_rfl) (by kernel_rfl) (fun _ _ _ h => h) (Or.inl ⟨by rfl, ?_⟩) hS ?_
  rotate_left
  · intro W' hS'
    go_simp
    rfl
  try simp only [Act.put, List.setIfInBounds_toArray, List.set_cons_zero, List.set_cons_succ, List.getElem_toArray, List.getElem_cons_zero, List.getElem_cons_succ]
  refine wpAnyH_take (i := 6) (v := ?_) rfl (by kernel_rfl) (by kernel_rfl) (by kernel_rfl) (fun _ _ _ h => h) (Or.inl ⟨by rfl, ?_⟩) hS ?_
  rotate_left
  · intro W' hS'
    go_simp
    rfl
  try simp only [Act.put, List.setIfInBounds_toArray, List.set_cons_zero, List.set_cons_succ, List.getElem_toArray, List.getElem_cons_zero, List.getElem_cons_succ]
  refine wpAnyH_take (i := 7) (v := ?_) rfl (by kernel_rfl) (by kernel_rfl) (by kernel_rfl) (fun _ _ _ h => h) (Or.inl ⟨by rfl, ?_⟩) hS ?_
  rotate_left
  · intro W' hS'
    go_simp
    rfl
  try simp only [Act.put, List.setIfInBounds_toArray, List.set_cons_zero, List.set_cons_succ, List.getElem_toArray, List.getElem_cons_zero, List.getElem_cons_succ]
  refine wpAnyH_take (i := 8) (v := ?_) rfl (by kernel_rfl) (by kernel_rfl) (by kernel_rfl) (fun _ _ _ h => h) (Or.inl ⟨by rfl, ?_⟩) hS ?_
  rotate_left
  · intro W' hS'
    go_simp
    rfl
  try simp only [Act.put, List.setIfInBounds_toArray, List.set_cons_zero, List.set_cons_succ, List.getElem_toArray, List.getElem_cons_zero, List.getElem_cons_succ]
  refine wpAnyH_take (i := 9) (v := ?_) rfl (by kernel_rfl) (by kernel_rfl) (by kernel_rfl) (fun _ _ _ h => h) (Or.inl ⟨by rfl, ?_⟩) hS ?_
  rotate_left
  · intro W' hS'
    go_simp
    rfl
  try simp only [Act.put, List.setIfInBounds_toArray, List.set_cons_zero, List.set_cons_succ, List.getElem_toArray, List.getElem_cons_zero, List.getElem_cons_succ]
  refine wpAnyH_done (by kernel_rfl) ?_ _
  clear HSZ
  have HB7 := Lib.hid (HC6.out.1.trans (H7.out.2.2.mono HC6.out.1.size))
  have HA := Lib.hid (HC6.out.2.2.1.below H7.out.2.2 HC6.out.2.2.1.lt)
  have HB := Lib.hid (HC6.out.2.2.2.below H7.out.2.2 HC6.out.2.2.2.lt)
  have a1 := HA.out.get 0 rfl
  have a2 := HA.out.get 3 rfl
  have b1 := HB.out.get 0 rfl
  have b2 := HB.out.get 3 rfl
  have c1 := H7.out.1.get 0 rfl
  have c2 := H7.out.1.get 3 rfl
  go_wp2_with fail
  go_ret
  exact ⟨rfl, HB7.out⟩
end Go.Proofs.Ytdnpobfnkdllmaa
